/-
  The walks through the functions: a call comes to what its list function says.
-/
import Derived.Test.YtdafmbaeiefacaaAlF
set_option linter.unusedVariables false
set_option linter.unusedSimpArgs false
namespace Go.Proofs.Ytdafmbaeiefacaa
open Go.RowKit
set_option maxRecDepth 20000 in
set_option maxHeartbeats 40000000 in
theorem laws_szCrossingS.calls {w0 w : World} {L : List HObj} {a_ : List GCrossing} {left : Int} {A_a_ : Option Addr} {c_a_ : Nat} {r1 : Int} (HS : St w0 w (L)) (h_a_ : RdIn w0 L T_GCrossing A_a_ c_a_ (fun _ => ()) a_) (H : laws_szCrossingS.f a_ left = some r1) :
    Calls Try.prog 39 #[.slice A_a_ a_.length c_a_, .int .i64 left] w (laws_szCrossingS.post w0 L a_ left A_a_ c_a_ r1) := by
  unfold laws_szCrossingS.f at H
  refine Calls.of_G Try.func39 rfl rfl rfl ?_
  refine G.seq ?_
  refine G.region ?_
  refine GO.assign rfl rfl rfl ?_
  refine GO.nil ?_
  refine G.seq ?_
  refine G.region ?_
  refine GO.move rfl rfl rfl ?_
  refine GO.move rfl rfl rfl ?_
  refine GO.lenS rfl rfl Try.underlying22 rfl ?_
  refine GO.sub rfl rfl rfl rfl ?_
  refine GO.assign rfl rfl rfl ?_
  refine GO.nil ?_
  refine G.seq ?_
  refine G.seq ?_
  refine G.region ?_
  refine GO.move rfl rfl rfl ?_
  refine GO.lss rfl rfl rfl rfl ?_
  refine GO.nil ?_
  rcases ite_elim H with ⟨c1, H⟩ | ⟨c1, H⟩
  ·
   refine G.yesB rfl (decide_eq_true c1) ?_
   refine G.seq ?_
   refine G.region ?_
   refine GO.assign rfl rfl rfl ?_
   refine GO.nil ?_
   obtain rfl := Option.some.inj H
   exact G.ret1 _ Try.func39 rfl rfl ⟨rfl, HS⟩
  ·
   refine G.noB rfl (decide_eq_false c1) ?_
   refine G.skip ?_
   refine G.seq ?_
   refine G.region ?_
   refine GO.move rfl rfl rfl ?_
   refine GO.assign rfl rfl rfl ?_
   refine GO.nil ?_
   obtain rfl := Option.some.inj H
   exact G.ret1 _ Try.func39 rfl rfl ⟨rfl, HS⟩

set_option maxRecDepth 20000 in
set_option maxHeartbeats 40000000 in
theorem laws_szDiagram.calls {w0 w : World} {L : List HObj} {a_Crossings : List GCrossing} {a_Circles : Int} {left : Int} {A_a_Crossings : Option Addr} {c_a_Crossings : Nat} {r1 : Int} (HS : St w0 w (L)) (h_a_Crossings : RdIn w0 L T_GCrossing A_a_Crossings c_a_Crossings (fun _ => ()) a_Crossings) (H : laws_szDiagram.f a_Crossings a_Circles left = some r1) :
    Calls Try.prog 12 #[.agg [.slice A_a_Crossings a_Crossings.length c_a_Crossings, .int .i64 a_Circles].toArray, .int .i64 left] w (laws_szDiagram.post w0 L a_Crossings a_Circles left A_a_Crossings c_a_Crossings r1) := by
  unfold laws_szDiagram.f at H
  refine Calls.of_G Try.func12 rfl rfl rfl ?_
  refine G.seq ?_
  refine G.region ?_
  refine GO.box (cs := [.slice A_a_Crossings a_Crossings.length c_a_Crossings, .int .i64 a_Circles]) HS rfl rfl rfl rfl ?_; intro b1 wd2 HS
  refine GO.assign rfl rfl rfl ?_
  refine GO.nil ?_
  refine G.seq ?_
  obtain ⟨t3, h4, H⟩ := Option.bind_eq_some_iff.1 H
  refine G.region ?_
  refine GO.fld (⟨b1, 0, none⟩) rfl rfl fl24_0 rfl rfl ?_
  refine GO.ldBox (j := 0) HS rfl rfl rfl rfl na22 rfl ?_
  refine GO.move rfl rfl rfl ?_
  refine GO.fn rfl Try.func39 fok39.1 fok39.2 rfl rfl (laws_szCrossingS.calls HS (RdIn.drop 1 h_a_Crossings) h4) (fun _ wd5 ⟨h6, HS⟩ => ⟨_, h6, ?_⟩)
  refine GO.assign rfl rfl rfl ?_
  refine GO.nil ?_
  refine G.seq ?_
  refine G.seq ?_
  refine G.region ?_
  refine GO.move rfl rfl rfl ?_
  refine GO.lss rfl rfl rfl rfl ?_
  refine GO.nil ?_
  rcases ite_elim H with ⟨c7, H⟩ | ⟨c7, H⟩
  ·
   refine G.yesB rfl (decide_eq_true c7) ?_
   refine G.seq ?_
   refine G.region ?_
   refine GO.assign rfl rfl rfl ?_
   refine GO.nil ?_
   obtain rfl := Option.some.inj H
   exact G.ret1 _ Try.func12 rfl rfl ⟨rfl, (HS.pk 1 [] rfl)⟩
  ·
   refine G.noB rfl (decide_eq_false c7) ?_
   refine G.skip ?_
   refine G.seq ?_
   refine G.region ?_
   refine GO.move rfl rfl rfl ?_
   refine GO.assign rfl rfl rfl ?_
   refine GO.nil ?_
   obtain rfl := Option.some.inj H
   exact G.ret1 _ Try.func12 rfl rfl ⟨rfl, (HS.pk 1 [] rfl)⟩

set_option maxRecDepth 20000 in
set_option maxHeartbeats 40000000 in
theorem laws_toCrossing.calls {w0 w : World} {L : List HObj} {a_A : Int} {a_B : Int} {a_C : Int} {a_D : Int} {a_Sign : Int} {r1 : Int} {r2 : Int} {r3 : Int} {r4 : Int} {r5 : Int} (HS : St w0 w (L)) (H : laws_toCrossing.f a_A a_B a_C a_D a_Sign = some (r1, r2, r3, r4, r5)) :
    Calls Try.prog 107 #[.agg [.int .i64 a_A, .int .i64 a_B, .int .i64 a_C, .int .i64 a_D, .int .i64 a_Sign].toArray] w (laws_toCrossing.post w0 L a_A a_B a_C a_D a_Sign r1 r2 r3 r4 r5) := by
  unfold laws_toCrossing.f at H
  refine Calls.of_G Try.func107 rfl rfl rfl ?_
  refine G.seq ?_
  refine G.region ?_
  refine GO.box (cs := [.int .i64 a_A, .int .i64 a_B, .int .i64 a_C, .int .i64 a_D, .int .i64 a_Sign]) HS rfl rfl rfl rfl ?_; intro b1 wd2 HS
  refine GO.alloc HS rfl zr58 rfl rfl ?_; intro b3 wd4 HS
  refine GO.nil ?_
  refine G.seq ?_
  refine G.region ?_
  refine GO.alloc HS rfl zr58 rfl rfl ?_; intro b5 wd6 HS
  refine GO.nil ?_
  refine G.seq ?_
  refine G.region ?_
  refine GO.fld (⟨b1, 0, none⟩) rfl rfl fl122_0 rfl rfl ?_
  refine GO.ldBox (j := 2) HS rfl rfl rfl rfl na2 rfl ?_
  refine GO.fld (⟨b5, 0, none⟩) rfl rfl fl58_0 rfl rfl ?_
  refine GO.stBox (j := 0) (vs := [.int .i64 a_A]) ([.int .i64 a_A, .int .i64 0, .int .i64 0, .int .i64 0, .int .i64 0]) HS rfl rfl rfl rfl rfl (htN na2 rfl) rfl rfl rfl ?_; intro wd7 HS
  refine GO.nil ?_
  refine G.seq ?_
  refine G.region ?_
  refine GO.fld (⟨b1, 1, none⟩) rfl rfl fl122_1 rfl rfl ?_
  refine GO.ldBox (j := 2) HS rfl rfl rfl rfl na2 rfl ?_
  refine GO.fld (⟨b5, 1, none⟩) rfl rfl fl58_1 rfl rfl ?_
  refine GO.stBox (j := 0) (vs := [.int .i64 a_B]) ([.int .i64 a_A, .int .i64 a_B, .int .i64 0, .int .i64 0, .int .i64 0]) HS rfl rfl rfl rfl rfl (htN na2 rfl) rfl rfl rfl ?_; intro wd8 HS
  refine GO.nil ?_
  refine G.seq ?_
  refine G.region ?_
  refine GO.fld (⟨b1, 2, none⟩) rfl rfl fl122_2 rfl rfl ?_
  refine GO.ldBox (j := 2) HS rfl rfl rfl rfl na2 rfl ?_
  refine GO.fld (⟨b5, 2, none⟩) rfl rfl fl58_2 rfl rfl ?_
  refine GO.stBox (j := 0) (vs := [.int .i64 a_C]) ([.int .i64 a_A, .int .i64 a_B, .int .i64 a_C, .int .i64 0, .int .i64 0]) HS rfl rfl rfl rfl rfl (htN na2 rfl) rfl rfl rfl ?_; intro wd9 HS
  refine GO.nil ?_
  refine G.seq ?_
  refine G.region ?_
  refine GO.fld (⟨b1, 3, none⟩) rfl rfl fl122_3 rfl rfl ?_
  refine GO.ldBox (j := 2) HS rfl rfl rfl rfl na2 rfl ?_
  refine GO.fld (⟨b5, 3, none⟩) rfl rfl fl58_3 rfl rfl ?_
  refine GO.stBox (j := 0) (vs := [.int .i64 a_D]) ([.int .i64 a_A, .int .i64 a_B, .int .i64 a_C, .int .i64 a_D, .int .i64 0]) HS rfl rfl rfl rfl rfl (htN na2 rfl) rfl rfl rfl ?_; intro wd10 HS
  refine GO.nil ?_
  refine G.seq ?_
  refine G.region ?_
  refine GO.fld (⟨b1, 4, none⟩) rfl rfl fl122_4 rfl rfl ?_
  refine GO.ldBox (j := 2) HS rfl rfl rfl rfl na2 rfl ?_
  refine GO.fld (⟨b5, 4, none⟩) rfl rfl fl58_4 rfl rfl ?_
  refine GO.stBox (j := 0) (vs := [.int .i64 a_Sign]) ([.int .i64 a_A, .int .i64 a_B, .int .i64 a_C, .int .i64 a_D, .int .i64 a_Sign]) HS rfl rfl rfl rfl rfl (htN na2 rfl) rfl rfl rfl ?_; intro wd11 HS
  refine GO.nil ?_
  refine G.seq ?_
  refine G.region ?_
  refine GO.ldBoxA (j := 0) ([.int .i64 a_A, .int .i64 a_B, .int .i64 a_C, .int .i64 a_D, .int .i64 a_Sign]) HS rfl rfl rfl rfl ag58 rfl ?_
  refine GO.stBox (j := 1) (vs := [.int .i64 a_A, .int .i64 a_B, .int .i64 a_C, .int .i64 a_D, .int .i64 a_Sign]) ([.int .i64 a_A, .int .i64 a_B, .int .i64 a_C, .int .i64 a_D, .int .i64 a_Sign]) HS rfl rfl rfl rfl rfl (htA ag58) rfl rfl rfl ?_; intro wd12 HS
  refine GO.nil ?_
  obtain ⟨rfl, rfl, rfl, rfl, rfl⟩ := some5 H
  exact G.ret1 _ Try.func107 rfl (Res1.boxA (j := 1) (vs := [.int .i64 a_A, .int .i64 a_B, .int .i64 a_C, .int .i64 a_D, .int .i64 a_Sign]) HS rfl rfl rfl ag58) ⟨rfl, (HS.pk 3 [] rfl)⟩

set_option maxRecDepth 20000 in
set_option maxHeartbeats 40000000 in
theorem laws_toCrossingS.calls {w0 w : World} {L : List HObj} {K : Nat} {a_ : List GCrossing} {A_a_ : Option Addr} {c_a_ : Nat} {r1 : List GCrossing} (HS : St w0 w (L)) (h_a_ : RdIn w0 L T_GCrossing A_a_ c_a_ (fun _ => ()) a_) (H : laws_toCrossingS.f K a_ = some r1) :
    Calls Try.prog 44 #[.slice A_a_ a_.length c_a_] w (laws_toCrossingS.post w0 L a_ A_a_ c_a_ r1) := by
  unfold laws_toCrossingS.f at H
  refine Calls.of_G Try.func44 rfl rfl rfl ?_
  refine G.seq ?_
  refine G.region ?_
  refine GO.assign rfl rfl rfl ?_
  refine GO.nil ?_
  refine G.seq ?_
  obtain ⟨c1, H⟩ := ite_none H
  obtain ⟨c2, H⟩ := ite_none H
  refine G.region ?_
  refine GO.move rfl rfl rfl ?_
  refine GO.lenS rfl rfl Try.underlying22 rfl ?_
  refine GO.make (T := T_GCrossing) z_GCrossing () HS flat_flat rfl rfl rfl Try.underlying26 inf58 rfl rfl rfl c1 c2 rfl ?_; intro b3 wd4 HS
  refine GO.assign rfl rfl rfl ?_
  refine GO.nil ?_
  refine G.seq ?_
  refine G.seq ?_
  refine G.region ?_
  refine GO.assign rfl rfl rfl ?_
  refine GO.nil ?_
  refine G.block ?_
  refine G.loop ?_
  refine G.name (fun k_l1 hk_l1 => ?_)
  have at_l1 : ∀ m_l1, m_l1 ≤ K → ∀ (out_19 : List GCrossing) (i_20 : Int) (w : World), laws_toCrossingS.l1 K m_l1 a_ out_19 i_20 = some r1 → St w0 w (Own T_GCrossing 58 (some ⟨b3, 0, none⟩) ((a_.length : Int).toNat) (fun _ => ()) out_19 :: L) → G Try.prog 44 23 [(0, .slice A_a_ a_.length c_a_), (3, .slice (some ⟨b3, 0, none⟩) out_19.length ((a_.length : Int).toNat)), (4, .int .i64 i_20)] k_l1 w (laws_toCrossingS.post w0 L a_ A_a_ c_a_ r1) := by
   intro m_l1
   induction m_l1 using Nat.strongRecOn with
   | _ m_l1 ih_l1 =>
    intro hm_l1 out_19 i_20 w H HS
    cases m_l1 with
    | zero => rw [laws_toCrossingS.l1] at H; cases H
    | succ n_l1 =>
     rw [laws_toCrossingS.l1] at H
     subst hk_l1
     refine G.seq ?_
     refine G.seq ?_
     refine G.region ?_
     refine GO.move rfl rfl rfl ?_
     refine GO.move rfl rfl rfl ?_
     refine GO.lenS rfl rfl Try.underlying22 rfl ?_
     refine GO.lss rfl rfl rfl rfl ?_
     refine GO.nil ?_
     rcases ite_elim H with ⟨c35, H⟩ | ⟨c35, H⟩
     ·
      refine G.yesB rfl (decide_eq_true c35) ?_
      refine G.skip ?_
      refine G.seq ?_
      refine G.block ?_
      obtain ⟨c36, H⟩ := ite_none H
      obtain ⟨e37, h38, H⟩ := bnd_elim H
      obtain ⟨t39, t40, t41, t42, t43, h44, H⟩ := bind5_elim H
      obtain ⟨c47, H⟩ := ite_none H
      refine G.region ?_
      refine GO.move rfl rfl rfl ?_
      refine GO.move rfl rfl rfl ?_
      refine GO.move rfl rfl rfl ?_
      refine GO.move rfl rfl rfl ?_
      refine GO.ix rfl rfl rfl Try.underlying22 sz122 ((RdIn.drop 1 h_a_) _ HS).2.2.1 c36.1 c36.2 rfl ?_
      refine GO.ldRdA (T := T_GCrossing) (n := i_20.toNat) HS (RdIn.drop 1 h_a_) rfl rfl (getD_eq (ltN c36) h38) ag122 rfl ?_
      refine GO.fn rfl Try.func107 fok107.1 fok107.2 rfl rfl (laws_toCrossing.calls HS  h44) (fun _ wd45 ⟨h46, HS⟩ => ⟨_, h46, ?_⟩)
      refine GO.ix rfl rfl rfl Try.underlying26 sz58 (fun _ => ⟨_, _, rfl⟩) c47.1 c47.2 rfl ?_
      refine GO.stRow (T := T_GCrossing) (j := 0) (n := i_20.toNat) (o := 0) (vs := [.int .i64 t39, .int .i64 t40, .int .i64 t41, .int .i64 t42, .int .i64 t43]) (⟨t39, t40, t41, t42, t43⟩ : GCrossing) HS rfl flat_flat rfl rfl rfl rfl (htA ag58) rfl (getD_some (d := z_GCrossing) (ltN c47)) rfl rfl ?_; intro wd48 HS
      refine GO.nil ?_
      refine G.len (t := 3) (m := (out_19.set i_20.toNat (⟨t39, t40, t41, t42, t43⟩ : GCrossing)).length) rfl (by simp only [List.length_set] <;> rfl) ?_
      refine G.blockEnd ?_
      refine G.region ?_
      refine GO.move rfl rfl rfl ?_
      refine GO.add rfl rfl rfl rfl ?_
      refine GO.assign rfl rfl rfl ?_
      refine GO.nil ?_
      refine G.again ?_
      refine G.weak ?_ (ih_l1 n_l1 (Nat.lt_succ_of_le (Nat.le_refl _)) (Nat.le_of_succ_le hm_l1) _ _ _ H HS)
      exact ⟨rfl, rfl, rfl, trivial⟩
     ·
      refine G.noB rfl (decide_eq_false c35) ?_
      refine G.exit rfl ?_
      refine G.seq ?_
      refine G.region ?_
      refine GO.move rfl rfl rfl ?_
      refine GO.assign rfl rfl rfl ?_
      refine GO.nil ?_
      obtain rfl := Option.some.inj H
      exact G.ret1 _ Try.func44 rfl rfl ⟨_, _, rfl, HS⟩
  refine G.weak ?_ (at_l1 K (Nat.le_refl _) _ _ _ H HS)
  exact ⟨rfl, rfl, rfl, trivial⟩

set_option maxRecDepth 20000 in
set_option maxHeartbeats 40000000 in
theorem laws_toDiagram.calls {w0 w : World} {L : List HObj} {K : Nat} {a_Crossings : List GCrossing} {a_Circles : Int} {A_a_Crossings : Option Addr} {c_a_Crossings : Nat} {r1 : List GCrossing} {r2 : Int} (HS : St w0 w (L)) (h_a_Crossings : RdIn w0 L T_GCrossing A_a_Crossings c_a_Crossings (fun _ => ()) a_Crossings) (H : laws_toDiagram.f K a_Crossings a_Circles = some (r1, r2)) :
    Calls Try.prog 14 #[.agg [.slice A_a_Crossings a_Crossings.length c_a_Crossings, .int .i64 a_Circles].toArray] w (laws_toDiagram.post w0 L a_Crossings a_Circles A_a_Crossings c_a_Crossings r1 r2) := by
  unfold laws_toDiagram.f at H
  refine Calls.of_G Try.func14 rfl rfl rfl ?_
  refine G.seq ?_
  refine G.region ?_
  refine GO.box (cs := [.slice A_a_Crossings a_Crossings.length c_a_Crossings, .int .i64 a_Circles]) HS rfl rfl rfl rfl ?_; intro b1 wd2 HS
  refine GO.alloc HS rfl zr28 rfl rfl ?_; intro b3 wd4 HS
  refine GO.nil ?_
  refine G.seq ?_
  refine G.region ?_
  refine GO.alloc HS rfl zr28 rfl rfl ?_; intro b5 wd6 HS
  refine GO.nil ?_
  refine G.seq ?_
  obtain ⟨t7, h8, H⟩ := Option.bind_eq_some_iff.1 H
  refine G.region ?_
  refine GO.fld (⟨b1, 0, none⟩) rfl rfl fl24_0 rfl rfl ?_
  refine GO.ldBox (j := 2) HS rfl rfl rfl rfl na22 rfl ?_
  refine GO.fn rfl Try.func44 fok44.1 fok44.2 rfl rfl (laws_toCrossingS.calls HS (RdIn.drop 3 h_a_Crossings) h8) (fun _ wd11 ⟨A9, c10, h12, HS⟩ => ⟨_, h12, ?_⟩)
  refine GO.fld (⟨b5, 0, none⟩) rfl rfl fl28_0 rfl rfl ?_
  refine GO.stBox (j := 1) (vs := [.slice A9 t7.length c10]) ([.slice A9 t7.length c10, .int .i64 0]) HS rfl rfl rfl rfl rfl (htN na26 rfl) rfl rfl rfl ?_; intro wd13 HS
  refine GO.nil ?_
  refine G.seq ?_
  refine G.region ?_
  refine GO.fld (⟨b1, 1, none⟩) rfl rfl fl24_1 rfl rfl ?_
  refine GO.ldBox (j := 3) HS rfl rfl rfl rfl na2 rfl ?_
  refine GO.fld (⟨b5, 1, none⟩) rfl rfl fl28_1 rfl rfl ?_
  refine GO.stBox (j := 1) (vs := [.int .i64 a_Circles]) ([.slice A9 t7.length c10, .int .i64 a_Circles]) HS rfl rfl rfl rfl rfl (htN na2 rfl) rfl rfl rfl ?_; intro wd14 HS
  refine GO.nil ?_
  refine G.seq ?_
  refine G.region ?_
  refine GO.ldBoxA (j := 1) ([.slice A9 t7.length c10, .int .i64 a_Circles]) HS rfl rfl rfl rfl ag28 rfl ?_
  refine GO.stBox (j := 2) (vs := [.slice A9 t7.length c10, .int .i64 a_Circles]) ([.slice A9 t7.length c10, .int .i64 a_Circles]) HS rfl rfl rfl rfl rfl (htA ag28) rfl rfl rfl ?_; intro wd15 HS
  refine GO.nil ?_
  obtain ⟨rfl, rfl⟩ := some2 H
  exact G.ret1 _ Try.func14 rfl (Res1.boxA (j := 2) (vs := [.slice A9 t7.length c10, .int .i64 a_Circles]) HS rfl rfl rfl ag28) ⟨_, _, rfl, (HS.pk 4 [0] rfl)⟩

set_option maxRecDepth 20000 in
set_option maxHeartbeats 40000000 in
theorem spec_l01In.calls {w0 w : World} {L : List HObj} {n_ : Int} {low : Int} {high : Int} {r1 : Bool} (HS : St w0 w (L)) (H : spec_l01In.f n_ low high = some r1) :
    Calls Try.prog 41 #[.int .i64 n_, .int .i64 low, .int .i64 high] w (spec_l01In.post w0 L n_ low high r1) := by
  unfold spec_l01In.f at H
  refine Calls.of_G Try.func41 rfl rfl rfl ?_
  refine G.seq ?_
  refine G.region ?_
  refine GO.assign rfl rfl rfl ?_
  refine GO.nil ?_
  refine G.seq ?_
  rcases ite_elim H with ⟨c1, H⟩ | ⟨c1, H⟩
  ·
   refine G.region ?_
   refine GO.move rfl rfl rfl ?_
   refine GO.move rfl rfl rfl ?_
   refine GO.geq rfl rfl rfl rfl ?_
   refine GO.move rfl rfl rfl ?_
   refine GO.known (t := 10) rfl (decide_eq_true c1) ?_
   refine GO.on rfl rfl rfl rfl ?_
   refine GO.move rfl rfl rfl ?_
   refine GO.back ?_
   refine GO.on rfl rfl rfl rfl ?_
   refine GO.move rfl rfl rfl ?_
   refine GO.back ?_
   refine GO.on rfl rfl rfl rfl ?_
   refine GO.leq rfl rfl rfl rfl ?_
   refine GO.back ?_
   refine GO.pickT rfl rfl rfl rfl rfl ?_
   refine GO.assign rfl rfl rfl ?_
   refine GO.nil ?_
   obtain rfl := Option.some.inj H
   exact G.ret1 _ Try.func41 rfl rfl ⟨rfl, HS⟩
  ·
   refine G.region ?_
   refine GO.move rfl rfl rfl ?_
   refine GO.move rfl rfl rfl ?_
   refine GO.geq rfl rfl rfl rfl ?_
   refine GO.move rfl rfl rfl ?_
   refine GO.known (t := 10) rfl (decide_eq_false c1) ?_
   refine GO.off rfl rfl rfl rfl rfl rfl ?_
   refine GO.off rfl rfl rfl rfl rfl rfl ?_
   refine GO.off rfl rfl rfl rfl rfl rfl ?_
   refine GO.pickF rfl rfl rfl rfl rfl ?_
   refine GO.assign rfl rfl rfl ?_
   refine GO.nil ?_
   obtain rfl := Option.some.inj H
   exact G.ret1 _ Try.func41 rfl rfl ⟨rfl, HS⟩

set_option maxRecDepth 20000 in
set_option maxHeartbeats 40000000 in
theorem spec_l25End.calls {w0 w : World} {L : List HObj} {x_A : Int} {x_B : Int} {x_C : Int} {x_D : Int} {x_Sign : Int} {p : Int} {r1 : Int} (HS : St w0 w (L)) (H : spec_l25End.f x_A x_B x_C x_D x_Sign p = some r1) :
    Calls Try.prog 105 #[.agg [.int .i64 x_A, .int .i64 x_B, .int .i64 x_C, .int .i64 x_D, .int .i64 x_Sign].toArray, .int .i64 p] w (spec_l25End.post w0 L x_A x_B x_C x_D x_Sign p r1) := by
  unfold spec_l25End.f at H
  refine Calls.of_G Try.func105 rfl rfl rfl ?_
  refine G.seq ?_
  refine G.region ?_
  refine GO.box (cs := [.int .i64 x_A, .int .i64 x_B, .int .i64 x_C, .int .i64 x_D, .int .i64 x_Sign]) HS rfl rfl rfl rfl ?_; intro b1 wd2 HS
  refine GO.assign rfl rfl rfl ?_
  refine GO.nil ?_
  refine G.seq ?_
  obtain ⟨c5, H⟩ := ite_none H
  refine G.region ?_
  refine GO.fld (⟨b1, 0, none⟩) rfl rfl fl58_0 rfl rfl ?_
  refine GO.ldBox (j := 0) HS rfl rfl rfl rfl na2 rfl ?_
  refine GO.fld (⟨b1, 1, none⟩) rfl rfl fl58_1 rfl rfl ?_
  refine GO.ldBox (j := 0) HS rfl rfl rfl rfl na2 rfl ?_
  refine GO.fld (⟨b1, 2, none⟩) rfl rfl fl58_2 rfl rfl ?_
  refine GO.ldBox (j := 0) HS rfl rfl rfl rfl na2 rfl ?_
  refine GO.fld (⟨b1, 3, none⟩) rfl rfl fl58_3 rfl rfl ?_
  refine GO.ldBox (j := 0) HS rfl rfl rfl rfl na2 rfl ?_
  refine GO.buildS (el := 2) ([.int .i64 x_A, .int .i64 x_B, .int .i64 x_C, .int .i64 x_D]) HS rfl rfl (fun _ => by kernel_rfl) rfl ?_; intro b3 wd4 HS
  refine GO.move rfl rfl rfl ?_
  replace HS := HS.boxRow (T := (TInt .i64)) (j := 0) rfl flat_flat (fun _ => ()) ([x_A, x_B, x_C, x_D] : List Int) rfl (bndL rfl)
  refine GO.lenC (t := 13) (m := ([x_A, x_B, x_C, x_D] : List Int).length) (c' := ([x_A, x_B, x_C, x_D] : List Int).length) rfl rfl rfl ?_
  refine GO.ix rfl rfl rfl Try.underlying43 sz2 (fun _ => ⟨_, _, rfl⟩) c5.1 c5.2 rfl ?_
  refine GO.ldRd (T := (TInt .i64)) (n := p.toNat) (o := 0) HS (RdIn.own (j := 0) rfl) rfl rfl (getD_some (d := 0) (ltN c5)) rfl rfl na2 rfl ?_
  refine GO.assign rfl rfl rfl ?_
  refine GO.nil ?_
  obtain rfl := Option.some.inj H
  exact G.ret1 _ Try.func105 rfl rfl ⟨rfl, (HS.pk 2 [] rfl)⟩

set_option maxRecDepth 20000 in
set_option maxHeartbeats 40000000 in
theorem spec_l25Enters.calls {w0 w : World} {L : List HObj} {x_A : Int} {x_B : Int} {x_C : Int} {x_D : Int} {x_Sign : Int} {p : Int} {r1 : Bool} (HS : St w0 w (L)) (H : spec_l25Enters.f x_A x_B x_C x_D x_Sign p = some r1) :
    Calls Try.prog 106 #[.agg [.int .i64 x_A, .int .i64 x_B, .int .i64 x_C, .int .i64 x_D, .int .i64 x_Sign].toArray, .int .i64 p] w (spec_l25Enters.post w0 L x_A x_B x_C x_D x_Sign p r1) := by
  unfold spec_l25Enters.f at H
  refine Calls.of_G Try.func106 rfl rfl rfl ?_
  refine G.seq ?_
  refine G.region ?_
  refine GO.box (cs := [.int .i64 x_A, .int .i64 x_B, .int .i64 x_C, .int .i64 x_D, .int .i64 x_Sign]) HS rfl rfl rfl rfl ?_; intro b1 wd2 HS
  refine GO.assign rfl rfl rfl ?_
  refine GO.nil ?_
  refine G.seq ?_
  rcases ite_elim H with ⟨c3, H⟩ | ⟨c3, H⟩
  ·
   refine G.region ?_
   refine GO.move rfl rfl rfl ?_
   refine GO.eql rfl rfl rfl rfl ?_
   refine GO.move rfl rfl rfl ?_
   refine GO.known (t := 7) rfl (decide_eq_true c3) ?_
   refine GO.off rfl rfl rfl rfl rfl rfl ?_
   refine GO.off rfl rfl rfl rfl rfl rfl ?_
   refine GO.off rfl rfl rfl rfl rfl rfl ?_
   refine GO.offU rfl rfl rfl rfl rfl rfl ?_
   refine GO.offU rfl rfl rfl rfl rfl rfl ?_
   refine GO.offU rfl rfl rfl rfl rfl rfl ?_
   refine GO.off rfl rfl rfl rfl rfl rfl ?_
   refine GO.pickT rfl rfl rfl rfl rfl ?_
   refine GO.move rfl rfl rfl ?_
   refine GO.off rfl rfl rfl rfl rfl rfl ?_
   refine GO.off rfl rfl rfl rfl rfl rfl ?_
   refine GO.off rfl rfl rfl rfl rfl rfl ?_
   refine GO.offU rfl rfl rfl rfl rfl rfl ?_
   refine GO.offU rfl rfl rfl rfl rfl rfl ?_
   refine GO.offU rfl rfl rfl rfl rfl rfl ?_
   refine GO.off rfl rfl rfl rfl rfl rfl ?_
   refine GO.pickT rfl rfl rfl rfl rfl ?_
   refine GO.assign rfl rfl rfl ?_
   refine GO.nil ?_
   obtain rfl := Option.some.inj H
   exact G.ret1 _ Try.func106 rfl rfl ⟨rfl, (HS.pk 1 [] rfl)⟩
  ·
   rcases ite_elim H with ⟨c4, H⟩ | ⟨c4, H⟩
   ·
    rcases ite_elim H with ⟨c5, H⟩ | ⟨c5, H⟩
    ·
     refine G.region ?_
     refine GO.move rfl rfl rfl ?_
     refine GO.eql rfl rfl rfl rfl ?_
     refine GO.move rfl rfl rfl ?_
     refine GO.known (t := 7) rfl (decide_eq_false c3) ?_
     refine GO.on rfl rfl rfl rfl ?_
     refine GO.move rfl rfl rfl ?_
     refine GO.back ?_
     refine GO.on rfl rfl rfl rfl ?_
     refine GO.eql rfl rfl rfl rfl ?_
     refine GO.back ?_
     refine GO.on rfl rfl rfl rfl ?_
     refine GO.move rfl rfl rfl ?_
     refine GO.back ?_
     refine GO.known (t := 10) rfl (decide_eq_true c4) ?_
     refine GO.on rfl rfl rfl rfl ?_
     refine GO.fld (⟨b1, 4, none⟩) rfl rfl fl58_4 rfl rfl ?_
     refine GO.back ?_
     refine GO.on rfl rfl rfl rfl ?_
     refine GO.ldBox (j := 0) HS rfl rfl rfl rfl na2 rfl ?_
     refine GO.back ?_
     refine GO.on rfl rfl rfl rfl ?_
     refine GO.eql rfl rfl rfl rfl ?_
     refine GO.back ?_
     refine GO.on rfl rfl rfl rfl ?_
     refine GO.pickT rfl rfl rfl rfl rfl ?_
     refine GO.back ?_
     refine GO.pickF rfl rfl rfl rfl rfl ?_
     refine GO.move rfl rfl rfl ?_
     refine GO.known (t := 16) rfl (decide_eq_true c5) ?_
     refine GO.off rfl rfl rfl rfl rfl rfl ?_
     refine GO.off rfl rfl rfl rfl rfl rfl ?_
     refine GO.off rfl rfl rfl rfl rfl rfl ?_
     refine GO.offU rfl rfl rfl rfl rfl rfl ?_
     refine GO.offU rfl rfl rfl rfl rfl rfl ?_
     refine GO.offU rfl rfl rfl rfl rfl rfl ?_
     refine GO.off rfl rfl rfl rfl rfl rfl ?_
     refine GO.pickT rfl rfl rfl rfl rfl ?_
     refine GO.assign rfl rfl rfl ?_
     refine GO.nil ?_
     obtain rfl := Option.some.inj H
     exact G.ret1 _ Try.func106 rfl rfl ⟨rfl, (HS.pk 1 [] rfl)⟩
    ·
     rcases ite_elim H with ⟨c6, H⟩ | ⟨c6, H⟩
     ·
      refine G.region ?_
      refine GO.move rfl rfl rfl ?_
      refine GO.eql rfl rfl rfl rfl ?_
      refine GO.move rfl rfl rfl ?_
      refine GO.known (t := 7) rfl (decide_eq_false c3) ?_
      refine GO.on rfl rfl rfl rfl ?_
      refine GO.move rfl rfl rfl ?_
      refine GO.back ?_
      refine GO.on rfl rfl rfl rfl ?_
      refine GO.eql rfl rfl rfl rfl ?_
      refine GO.back ?_
      refine GO.on rfl rfl rfl rfl ?_
      refine GO.move rfl rfl rfl ?_
      refine GO.back ?_
      refine GO.known (t := 10) rfl (decide_eq_true c4) ?_
      refine GO.on rfl rfl rfl rfl ?_
      refine GO.fld (⟨b1, 4, none⟩) rfl rfl fl58_4 rfl rfl ?_
      refine GO.back ?_
      refine GO.on rfl rfl rfl rfl ?_
      refine GO.ldBox (j := 0) HS rfl rfl rfl rfl na2 rfl ?_
      refine GO.back ?_
      refine GO.on rfl rfl rfl rfl ?_
      refine GO.eql rfl rfl rfl rfl ?_
      refine GO.back ?_
      refine GO.on rfl rfl rfl rfl ?_
      refine GO.pickT rfl rfl rfl rfl rfl ?_
      refine GO.back ?_
      refine GO.pickF rfl rfl rfl rfl rfl ?_
      refine GO.move rfl rfl rfl ?_
      refine GO.known (t := 16) rfl (decide_eq_false c5) ?_
      refine GO.on rfl rfl rfl rfl ?_
      refine GO.move rfl rfl rfl ?_
      refine GO.back ?_
      refine GO.on rfl rfl rfl rfl ?_
      refine GO.eql rfl rfl rfl rfl ?_
      refine GO.back ?_
      refine GO.on rfl rfl rfl rfl ?_
      refine GO.move rfl rfl rfl ?_
      refine GO.back ?_
      refine GO.known (t := 19) rfl (decide_eq_true c6) ?_
      refine GO.on rfl rfl rfl rfl ?_
      refine GO.fld (⟨b1, 4, none⟩) rfl rfl fl58_4 rfl rfl ?_
      refine GO.back ?_
      refine GO.on rfl rfl rfl rfl ?_
      refine GO.ldBox (j := 0) HS rfl rfl rfl rfl na2 rfl ?_
      refine GO.back ?_
      refine GO.on rfl rfl rfl rfl ?_
      refine GO.eql rfl rfl rfl rfl ?_
      refine GO.back ?_
      refine GO.on rfl rfl rfl rfl ?_
      refine GO.pickT rfl rfl rfl rfl rfl ?_
      refine GO.back ?_
      refine GO.pickF rfl rfl rfl rfl rfl ?_
      refine GO.assign rfl rfl rfl ?_
      refine GO.nil ?_
      obtain rfl := Option.some.inj H
      exact G.ret1 _ Try.func106 rfl rfl ⟨rfl, (HS.pk 1 [] rfl)⟩
     ·
      refine G.region ?_
      refine GO.move rfl rfl rfl ?_
      refine GO.eql rfl rfl rfl rfl ?_
      refine GO.move rfl rfl rfl ?_
      refine GO.known (t := 7) rfl (decide_eq_false c3) ?_
      refine GO.on rfl rfl rfl rfl ?_
      refine GO.move rfl rfl rfl ?_
      refine GO.back ?_
      refine GO.on rfl rfl rfl rfl ?_
      refine GO.eql rfl rfl rfl rfl ?_
      refine GO.back ?_
      refine GO.on rfl rfl rfl rfl ?_
      refine GO.move rfl rfl rfl ?_
      refine GO.back ?_
      refine GO.known (t := 10) rfl (decide_eq_true c4) ?_
      refine GO.on rfl rfl rfl rfl ?_
      refine GO.fld (⟨b1, 4, none⟩) rfl rfl fl58_4 rfl rfl ?_
      refine GO.back ?_
      refine GO.on rfl rfl rfl rfl ?_
      refine GO.ldBox (j := 0) HS rfl rfl rfl rfl na2 rfl ?_
      refine GO.back ?_
      refine GO.on rfl rfl rfl rfl ?_
      refine GO.eql rfl rfl rfl rfl ?_
      refine GO.back ?_
      refine GO.on rfl rfl rfl rfl ?_
      refine GO.pickT rfl rfl rfl rfl rfl ?_
      refine GO.back ?_
      refine GO.pickF rfl rfl rfl rfl rfl ?_
      refine GO.move rfl rfl rfl ?_
      refine GO.known (t := 16) rfl (decide_eq_false c5) ?_
      refine GO.on rfl rfl rfl rfl ?_
      refine GO.move rfl rfl rfl ?_
      refine GO.back ?_
      refine GO.on rfl rfl rfl rfl ?_
      refine GO.eql rfl rfl rfl rfl ?_
      refine GO.back ?_
      refine GO.on rfl rfl rfl rfl ?_
      refine GO.move rfl rfl rfl ?_
      refine GO.back ?_
      refine GO.known (t := 19) rfl (decide_eq_false c6) ?_
      refine GO.off rfl rfl rfl rfl rfl rfl ?_
      refine GO.off rfl rfl rfl rfl rfl rfl ?_
      refine GO.off rfl rfl rfl rfl rfl rfl ?_
      refine GO.on rfl rfl rfl rfl ?_
      refine GO.pickF rfl rfl rfl rfl rfl ?_
      refine GO.back ?_
      refine GO.pickF rfl rfl rfl rfl rfl ?_
      refine GO.assign rfl rfl rfl ?_
      refine GO.nil ?_
      obtain rfl := Option.some.inj H
      exact G.ret1 _ Try.func106 rfl rfl ⟨rfl, (HS.pk 1 [] rfl)⟩
   ·
    rcases ite_elim H with ⟨c7, H⟩ | ⟨c7, H⟩
    ·
     refine G.region ?_
     refine GO.move rfl rfl rfl ?_
     refine GO.eql rfl rfl rfl rfl ?_
     refine GO.move rfl rfl rfl ?_
     refine GO.known (t := 7) rfl (decide_eq_false c3) ?_
     refine GO.on rfl rfl rfl rfl ?_
     refine GO.move rfl rfl rfl ?_
     refine GO.back ?_
     refine GO.on rfl rfl rfl rfl ?_
     refine GO.eql rfl rfl rfl rfl ?_
     refine GO.back ?_
     refine GO.on rfl rfl rfl rfl ?_
     refine GO.move rfl rfl rfl ?_
     refine GO.back ?_
     refine GO.known (t := 10) rfl (decide_eq_false c4) ?_
     refine GO.off rfl rfl rfl rfl rfl rfl ?_
     refine GO.off rfl rfl rfl rfl rfl rfl ?_
     refine GO.off rfl rfl rfl rfl rfl rfl ?_
     refine GO.on rfl rfl rfl rfl ?_
     refine GO.pickF rfl rfl rfl rfl rfl ?_
     refine GO.back ?_
     refine GO.pickF rfl rfl rfl rfl rfl ?_
     refine GO.move rfl rfl rfl ?_
     refine GO.on rfl rfl rfl rfl ?_
     refine GO.move rfl rfl rfl ?_
     refine GO.back ?_
     refine GO.on rfl rfl rfl rfl ?_
     refine GO.eql rfl rfl rfl rfl ?_
     refine GO.back ?_
     refine GO.on rfl rfl rfl rfl ?_
     refine GO.move rfl rfl rfl ?_
     refine GO.back ?_
     refine GO.known (t := 19) rfl (decide_eq_true c7) ?_
     refine GO.on rfl rfl rfl rfl ?_
     refine GO.fld (⟨b1, 4, none⟩) rfl rfl fl58_4 rfl rfl ?_
     refine GO.back ?_
     refine GO.on rfl rfl rfl rfl ?_
     refine GO.ldBox (j := 0) HS rfl rfl rfl rfl na2 rfl ?_
     refine GO.back ?_
     refine GO.on rfl rfl rfl rfl ?_
     refine GO.eql rfl rfl rfl rfl ?_
     refine GO.back ?_
     refine GO.on rfl rfl rfl rfl ?_
     refine GO.pickT rfl rfl rfl rfl rfl ?_
     refine GO.back ?_
     refine GO.pickF rfl rfl rfl rfl rfl ?_
     refine GO.assign rfl rfl rfl ?_
     refine GO.nil ?_
     obtain rfl := Option.some.inj H
     exact G.ret1 _ Try.func106 rfl rfl ⟨rfl, (HS.pk 1 [] rfl)⟩
    ·
     refine G.region ?_
     refine GO.move rfl rfl rfl ?_
     refine GO.eql rfl rfl rfl rfl ?_
     refine GO.move rfl rfl rfl ?_
     refine GO.known (t := 7) rfl (decide_eq_false c3) ?_
     refine GO.on rfl rfl rfl rfl ?_
     refine GO.move rfl rfl rfl ?_
     refine GO.back ?_
     refine GO.on rfl rfl rfl rfl ?_
     refine GO.eql rfl rfl rfl rfl ?_
     refine GO.back ?_
     refine GO.on rfl rfl rfl rfl ?_
     refine GO.move rfl rfl rfl ?_
     refine GO.back ?_
     refine GO.known (t := 10) rfl (decide_eq_false c4) ?_
     refine GO.off rfl rfl rfl rfl rfl rfl ?_
     refine GO.off rfl rfl rfl rfl rfl rfl ?_
     refine GO.off rfl rfl rfl rfl rfl rfl ?_
     refine GO.on rfl rfl rfl rfl ?_
     refine GO.pickF rfl rfl rfl rfl rfl ?_
     refine GO.back ?_
     refine GO.pickF rfl rfl rfl rfl rfl ?_
     refine GO.move rfl rfl rfl ?_
     refine GO.on rfl rfl rfl rfl ?_
     refine GO.move rfl rfl rfl ?_
     refine GO.back ?_
     refine GO.on rfl rfl rfl rfl ?_
     refine GO.eql rfl rfl rfl rfl ?_
     refine GO.back ?_
     refine GO.on rfl rfl rfl rfl ?_
     refine GO.move rfl rfl rfl ?_
     refine GO.back ?_
     refine GO.known (t := 19) rfl (decide_eq_false c7) ?_
     refine GO.off rfl rfl rfl rfl rfl rfl ?_
     refine GO.off rfl rfl rfl rfl rfl rfl ?_
     refine GO.off rfl rfl rfl rfl rfl rfl ?_
     refine GO.on rfl rfl rfl rfl ?_
     refine GO.pickF rfl rfl rfl rfl rfl ?_
     refine GO.back ?_
     refine GO.pickF rfl rfl rfl rfl rfl ?_
     refine GO.assign rfl rfl rfl ?_
     refine GO.nil ?_
     obtain rfl := Option.some.inj H
     exact G.ret1 _ Try.func106 rfl rfl ⟨rfl, (HS.pk 1 [] rfl)⟩

set_option maxRecDepth 20000 in
set_option maxHeartbeats 40000000 in
theorem spec_l25Counts.calls {w0 w : World} {L : List HObj} {K : Nat} {d_Crossings : List GCrossing} {d_Circles : Int} {A_d_Crossings : Option Addr} {c_d_Crossings : Nat} {r1 : Bool} (HS : St w0 w (L)) (h_d_Crossings : RdIn w0 L T_GCrossing A_d_Crossings c_d_Crossings (fun _ => ()) d_Crossings) (H : spec_l25Counts.f K d_Crossings d_Circles = some r1) :
    Calls Try.prog 103 #[.agg [.slice A_d_Crossings d_Crossings.length c_d_Crossings, .int .i64 d_Circles].toArray] w (spec_l25Counts.post w0 L d_Crossings d_Circles A_d_Crossings c_d_Crossings r1) := by
  unfold spec_l25Counts.f at H
  refine Calls.of_G Try.func103 rfl rfl rfl ?_
  refine G.seq ?_
  refine G.region ?_
  refine GO.box (cs := [.slice A_d_Crossings d_Crossings.length c_d_Crossings, .int .i64 d_Circles]) HS rfl rfl rfl rfl ?_; intro b1 wd2 HS
  refine GO.assign rfl rfl rfl ?_
  refine GO.nil ?_
  refine G.seq ?_
  refine G.region ?_
  refine GO.fld (⟨b1, 0, none⟩) rfl rfl fl28_0 rfl rfl ?_
  refine GO.ldBox (j := 0) HS rfl rfl rfl rfl na26 rfl ?_
  refine GO.lenS rfl rfl Try.underlying26 rfl ?_
  refine GO.mul rfl rfl rfl rfl ?_
  refine GO.assign rfl rfl rfl ?_
  refine GO.nil ?_
  refine G.seq ?_
  obtain ⟨c3, H⟩ := ite_none H
  obtain ⟨c4, H⟩ := ite_none H
  refine G.regionAny mixed (by decide) (fun b a w => ∃ (Y1_0 : Value) (Y2_1 : Value) (Y3_2 : Value) (Y4_3 : Value) (Y5_4 : Value) (Y6_5 : Value) (b5 : Nat) (b7 : Nat) (O7_2 : HObj) (O8_3 : HObj), Sat 63 [(4, Y5_4), (5, Y6_5), (15, Y1_0), (16, Y2_1), (17, Y3_2), (18, Y4_3), (1, .pointer (some ⟨b1, 0, none⟩)), (3, .int .i64 (w64 (2 * (d_Crossings.length : Int))))] a ∧ St w0 w (Box b1 28 [.slice A_d_Crossings d_Crossings.length c_d_Crossings, .int .i64 d_Circles] :: O7_2 :: O8_3 :: L) ∧ (b 4 = true → Y5_4 = (.slice (some ⟨b5, 0, none⟩) (List.replicate (w64 (2 * (d_Crossings.length : Int))).toNat false).length ((w64 (2 * (d_Crossings.length : Int))).toNat))) ∧ (b 5 = true → Y6_5 = (.slice (some ⟨b7, 0, none⟩) (List.replicate (w64 (2 * (d_Crossings.length : Int))).toNat false).length ((w64 (2 * (d_Crossings.length : Int))).toNat))) ∧ (b 0 = true → Y1_0 = (.int .i64 (w64 (2 * (d_Crossings.length : Int))))) ∧ (b 1 = true → Y2_1 = (.slice (some ⟨b5, 0, none⟩) (List.replicate (w64 (2 * (d_Crossings.length : Int))).toNat false).length ((w64 (2 * (d_Crossings.length : Int))).toNat))) ∧ (b 2 = true → Y3_2 = (.int .i64 (w64 (2 * (d_Crossings.length : Int))))) ∧ (b 3 = true → Y4_3 = (.slice (some ⟨b7, 0, none⟩) (List.replicate (w64 (2 * (d_Crossings.length : Int))).toNat false).length ((w64 (2 * (d_Crossings.length : Int))).toNat))) ∧ (b 1 = true → O7_2 = Own TBool 4 (some ⟨b5, 0, none⟩) ((w64 (2 * (d_Crossings.length : Int))).toNat) (fun _ => ()) (List.replicate (w64 (2 * (d_Crossings.length : Int))).toNat false)) ∧ (b 3 = true → O8_3 = Own TBool 4 (some ⟨b7, 0, none⟩) ((w64 (2 * (d_Crossings.length : Int))).toNat) (fun _ => ()) (List.replicate (w64 (2 * (d_Crossings.length : Int))).toNat false))) ?_ ?_ ?_
  ·
   intro a hs
   obtain ⟨Y5_4, hs⟩ := hs.ext (d := 4) rfl
   obtain ⟨Y6_5, hs⟩ := hs.ext (d := 5) rfl
   obtain ⟨Y1_0, hs⟩ := hs.ext (d := 15) rfl
   obtain ⟨Y2_1, hs⟩ := hs.ext (d := 16) rfl
   obtain ⟨Y3_2, hs⟩ := hs.ext (d := 17) rfl
   obtain ⟨Y4_3, hs⟩ := hs.ext (d := 18) rfl
   exact ⟨Y1_0, Y2_1, Y3_2, Y4_3, Y5_4, Y6_5, 0, 0, Emp, Emp, hs.weak ⟨rfl, rfl, rfl, rfl, rfl, rfl, rfl, rfl, trivial⟩, (HS.drew.emp.emp.pk 3 [2, 1, 0] rfl), fun h => Bool.noConfusion h, fun h => Bool.noConfusion h, fun h => Bool.noConfusion h, fun h => Bool.noConfusion h, fun h => Bool.noConfusion h, fun h => Bool.noConfusion h, fun h => Bool.noConfusion h, fun h => Bool.noConfusion h⟩
  ·
   intro j hj b a w
   refine exI fun Y1_0 => exI fun Y2_1 => exI fun Y3_2 => exI fun Y4_3 => exI fun Y5_4 => exI fun Y6_5 => exI fun b5 => exI fun b7 => exI fun O7_2 => exI fun O8_3 => anI fun hs => anI fun HS => anI fun f4 => anI fun f5 => anI fun f0 => anI fun f1 => anI fun f2 => anI fun f3 => anI fun o2_0 => fun o3_0 hb hd hcl => ?_
   match j, hj with
   | 0, _ =>
    refine GO.at hs ?_
    refine GO.move rfl rfl rfl ?_
    refine GO.fin (fun a hs => ?_)
    exact ⟨(.int .i64 (w64 (2 * (d_Crossings.length : Int)))), _, _, _, _, _, b5, b7, _, _, by exact hs.setAt 2 rfl, HS, f4, f5, fun _ => rfl, f1, f2, f3, o2_0, o3_0⟩
   | 1, _ =>
    have hb0 : b 0 = true := hd 0 (by decide)
    obtain rfl := f0 hb0
    refine GO.at hs ?_
    refine GO.make (T := TBool) false () HS flat_flat rfl rfl rfl Try.underlying83 inf4 rfl rfl rfl c3 c4 rfl ?_; intro b5 wd6 HS
    refine GO.fin (fun a hs => ?_)
    exact ⟨_, (.slice (some ⟨b5, 0, none⟩) (List.replicate (w64 (2 * (d_Crossings.length : Int))).toNat false).length ((w64 (2 * (d_Crossings.length : Int))).toNat)), _, _, _, _, b5, b7, Own TBool 4 (some ⟨b5, 0, none⟩) ((w64 (2 * (d_Crossings.length : Int))).toNat) (fun _ => ()) (List.replicate (w64 (2 * (d_Crossings.length : Int))).toNat false), _, by exact hs.setAt 3 rfl, HS.pk 4 [1, 0, 3] rfl, fun hh => (Bool.noConfusion ((hcl 4 (by decide) hh 1 (by decide)).symm.trans hb)), f5, f0, fun _ => rfl, f2, f3, fun _ => rfl, o3_0⟩
   | 2, _ =>
    refine GO.at hs ?_
    refine GO.move rfl rfl rfl ?_
    refine GO.fin (fun a hs => ?_)
    exact ⟨_, _, (.int .i64 (w64 (2 * (d_Crossings.length : Int)))), _, _, _, b5, b7, _, _, by exact hs.setAt 4 rfl, HS, f4, f5, f0, f1, fun _ => rfl, f3, o2_0, o3_0⟩
   | 3, _ =>
    have hb2 : b 2 = true := hd 2 (by decide)
    obtain rfl := f2 hb2
    refine GO.at hs ?_
    refine GO.make (T := TBool) false () HS flat_flat rfl rfl rfl Try.underlying83 inf4 rfl rfl rfl c3 c4 rfl ?_; intro b7 wd8 HS
    refine GO.fin (fun a hs => ?_)
    exact ⟨_, _, _, (.slice (some ⟨b7, 0, none⟩) (List.replicate (w64 (2 * (d_Crossings.length : Int))).toNat false).length ((w64 (2 * (d_Crossings.length : Int))).toNat)), _, _, b5, b7, _, Own TBool 4 (some ⟨b7, 0, none⟩) ((w64 (2 * (d_Crossings.length : Int))).toNat) (fun _ => ()) (List.replicate (w64 (2 * (d_Crossings.length : Int))).toNat false), by exact hs.setAt 5 rfl, HS.pk 4 [1, 2, 0] rfl, f4, fun hh => (Bool.noConfusion ((hcl 5 (by decide) hh 3 (by decide)).symm.trans hb)), f0, f1, f2, fun _ => rfl, o2_0, fun _ => rfl⟩
   | 4, _ =>
    have hb1 : b 1 = true := hd 1 (by decide)
    obtain rfl := f1 hb1
    refine GO.at hs ?_
    refine GO.assign rfl rfl rfl ?_
    refine GO.fin (fun a hs => ?_)
    exact ⟨_, _, _, _, (.slice (some ⟨b5, 0, none⟩) (List.replicate (w64 (2 * (d_Crossings.length : Int))).toNat false).length ((w64 (2 * (d_Crossings.length : Int))).toNat)), _, b5, b7, _, _, by exact hs.setAt 0 rfl, HS, fun _ => rfl, f5, f0, f1, f2, f3, o2_0, o3_0⟩
   | 5, _ =>
    have hb3 : b 3 = true := hd 3 (by decide)
    obtain rfl := f3 hb3
    refine GO.at hs ?_
    refine GO.assign rfl rfl rfl ?_
    refine GO.fin (fun a hs => ?_)
    exact ⟨_, _, _, _, _, (.slice (some ⟨b7, 0, none⟩) (List.replicate (w64 (2 * (d_Crossings.length : Int))).toNat false).length ((w64 (2 * (d_Crossings.length : Int))).toNat)), b5, b7, _, _, by exact hs.setAt 1 rfl, HS, f4, fun _ => rfl, f0, f1, f2, f3, o2_0, o3_0⟩
   | k + 6, hj => exact absurd hj (Nat.not_lt.2 (Nat.le_add_left 6 k))
  ·
   intro b a w hall
   refine exI fun Y1_0 => exI fun Y2_1 => exI fun Y3_2 => exI fun Y4_3 => exI fun Y5_4 => exI fun Y6_5 => exI fun b5 => exI fun b7 => exI fun O7_2 => exI fun O8_3 => anI fun hs => anI fun HS => anI fun f4 => anI fun f5 => anI fun f0 => anI fun f1 => anI fun f2 => anI fun f3 => anI fun o2_0 => fun o3_0 => ?_
   obtain rfl := f4 (hall 4 (by decide))
   obtain rfl := f5 (hall 5 (by decide))
   obtain rfl := f0 (hall 0 (by decide))
   obtain rfl := f1 (hall 1 (by decide))
   obtain rfl := f2 (hall 2 (by decide))
   obtain rfl := f3 (hall 3 (by decide))
   obtain rfl := o2_0 (hall 1 (by decide))
   obtain rfl := o3_0 (hall 3 (by decide))
   refine G.at hs ?_
   refine G.seq ?_
   refine G.seq ?_
   refine G.region ?_
   refine GO.assign rfl rfl rfl ?_
   refine GO.nil ?_
   refine G.block ?_
   refine G.loop ?_
   refine G.name (fun k_l1 hk_l1 => ?_)
   have at_l1 : ∀ m_l1, m_l1 ≤ K → ∀ (in_94 : List Bool) (out_95 : List Bool) (c_96 : Int) (w : World), spec_l25Counts.l1 K m_l1 d_Crossings in_94 out_95 c_96 = some r1 → St w0 w (Box b1 28 [.slice A_d_Crossings d_Crossings.length c_d_Crossings, .int .i64 d_Circles] :: Own TBool 4 (some ⟨b5, 0, none⟩) ((w64 (2 * (d_Crossings.length : Int))).toNat) (fun _ => ()) in_94 :: Own TBool 4 (some ⟨b7, 0, none⟩) ((w64 (2 * (d_Crossings.length : Int))).toNat) (fun _ => ()) out_95 :: L) → G Try.prog 103 63 [(1, .pointer (some ⟨b1, 0, none⟩)), (3, .int .i64 (w64 (2 * (d_Crossings.length : Int)))), (4, .slice (some ⟨b5, 0, none⟩) in_94.length ((w64 (2 * (d_Crossings.length : Int))).toNat)), (5, .slice (some ⟨b7, 0, none⟩) out_95.length ((w64 (2 * (d_Crossings.length : Int))).toNat)), (6, .int .i64 c_96)] k_l1 w (spec_l25Counts.post w0 L d_Crossings d_Circles A_d_Crossings c_d_Crossings r1) := by
    intro m_l1
    induction m_l1 using Nat.strongRecOn with
    | _ m_l1 ih_l1 =>
     intro hm_l1 in_94 out_95 c_96 w H HS
     cases m_l1 with
     | zero => rw [spec_l25Counts.l1] at H; cases H
     | succ n_l1 =>
      rw [spec_l25Counts.l1] at H
      subst hk_l1
      refine G.seq ?_
      refine G.seq ?_
      refine G.region ?_
      refine GO.move rfl rfl rfl ?_
      refine GO.fld (⟨b1, 0, none⟩) rfl rfl fl28_0 rfl rfl ?_
      refine GO.ldBox (j := 0) HS rfl rfl rfl rfl na26 rfl ?_
      refine GO.lenS rfl rfl Try.underlying26 rfl ?_
      refine GO.lss rfl rfl rfl rfl ?_
      refine GO.nil ?_
      rcases ite_elim H with ⟨c183, H⟩ | ⟨c183, H⟩
      ·
       refine G.yesB rfl (decide_eq_true c183) ?_
       refine G.skip ?_
       refine G.seq ?_
       refine G.block ?_
       refine G.seq ?_
       obtain ⟨c184, H⟩ := ite_none H
       obtain ⟨e185, h186, H⟩ := bnd_elim H
       refine G.region ?_
       refine GO.fld (⟨b1, 0, none⟩) rfl rfl fl28_0 rfl rfl ?_
       refine GO.ldBox (j := 0) HS rfl rfl rfl rfl na26 rfl ?_
       refine GO.move rfl rfl rfl ?_
       refine GO.ix rfl rfl rfl Try.underlying26 sz58 ((RdIn.drop 3 h_d_Crossings) _ HS).2.2.1 c184.1 c184.2 rfl ?_
       refine GO.ldRdA (T := T_GCrossing) (n := c_96.toNat) HS (RdIn.drop 3 h_d_Crossings) rfl rfl (getD_eq (ltN c184) h186) ag58 rfl ?_
       refine GO.alloc HS rfl zr58 rfl rfl ?_; intro b187 wd188 HS
       refine GO.stBox (j := 0) (vs := [.int .i64 e185.A, .int .i64 e185.B, .int .i64 e185.C, .int .i64 e185.D, .int .i64 e185.Sign]) ([.int .i64 e185.A, .int .i64 e185.B, .int .i64 e185.C, .int .i64 e185.D, .int .i64 e185.Sign]) HS rfl rfl rfl rfl rfl (htA ag58) rfl rfl rfl ?_; intro wd189 HS
       refine GO.nil ?_
       refine G.seq ?_
       refine G.seq ?_
       refine G.nameT (fun k_j12 hk_j12 => ?_)
       have at_j12 : ∀ m_j12, m_j12 ≤ n_l1 → ∀ (x192 : Bool) (w : World), spec_l25Counts.j12 K m_j12 d_Crossings in_94 out_95 c_96 e185 x192 = some r1 → St w0 w (Box b1 28 [.slice A_d_Crossings d_Crossings.length c_d_Crossings, .int .i64 d_Circles] :: Own TBool 4 (some ⟨b5, 0, none⟩) ((w64 (2 * (d_Crossings.length : Int))).toNat) (fun _ => ()) in_94 :: Own TBool 4 (some ⟨b7, 0, none⟩) ((w64 (2 * (d_Crossings.length : Int))).toNat) (fun _ => ()) out_95 :: Box b187 58 [.int .i64 e185.A, .int .i64 e185.B, .int .i64 e185.C, .int .i64 e185.D, .int .i64 e185.Sign] :: L) → G Try.prog 103 63 [(1, .pointer (some ⟨b1, 0, none⟩)), (3, .int .i64 (w64 (2 * (d_Crossings.length : Int)))), (4, .slice (some ⟨b5, 0, none⟩) in_94.length ((w64 (2 * (d_Crossings.length : Int))).toNat)), (5, .slice (some ⟨b7, 0, none⟩) out_95.length ((w64 (2 * (d_Crossings.length : Int))).toNat)), (6, .int .i64 c_96), (7, .pointer (some ⟨b187, 0, none⟩)), (38, .bool x192)] k_j12 w (spec_l25Counts.post w0 L d_Crossings d_Circles A_d_Crossings c_d_Crossings r1) := by
        intro m_j12 hm_j12 x192 w H HS
        cases m_j12 with
        | zero => rw [spec_l25Counts.j12] at H; cases H
        | succ n_j12 =>
         rw [spec_l25Counts.j12] at H
         subst hk_j12
         rcases ite_elim H with ⟨c193, H⟩ | ⟨c193, H⟩
         ·
          refine G.yesB rfl c193 ?_
          refine G.seq ?_
          refine G.region ?_
          refine GO.assign rfl rfl rfl ?_
          refine GO.nil ?_
          obtain rfl := Option.some.inj H
          exact G.ret1 _ Try.func103 rfl rfl ⟨rfl, (HS.pk 4 [] rfl)⟩
         ·
          refine G.noB rfl (bnot_of c193) ?_
          refine G.skip ?_
          refine G.seq ?_
          refine G.region ?_
          refine GO.assign rfl rfl rfl ?_
          refine GO.nil ?_
          refine G.block ?_
          refine G.loop ?_
          refine G.name (fun k_l13 hk_l13 => ?_)
          have at_l13 : ∀ m_l13, m_l13 ≤ n_j12 → ∀ (in_217 : List Bool) (out_218 : List Bool) (p_219 : Int) (w : World), spec_l25Counts.l13 K m_l13 d_Crossings c_96 e185 in_217 out_218 p_219 = some r1 → St w0 w (Box b1 28 [.slice A_d_Crossings d_Crossings.length c_d_Crossings, .int .i64 d_Circles] :: Own TBool 4 (some ⟨b5, 0, none⟩) ((w64 (2 * (d_Crossings.length : Int))).toNat) (fun _ => ()) in_217 :: Own TBool 4 (some ⟨b7, 0, none⟩) ((w64 (2 * (d_Crossings.length : Int))).toNat) (fun _ => ()) out_218 :: Box b187 58 [.int .i64 e185.A, .int .i64 e185.B, .int .i64 e185.C, .int .i64 e185.D, .int .i64 e185.Sign] :: L) → G Try.prog 103 63 [(1, .pointer (some ⟨b1, 0, none⟩)), (3, .int .i64 (w64 (2 * (d_Crossings.length : Int)))), (4, .slice (some ⟨b5, 0, none⟩) in_217.length ((w64 (2 * (d_Crossings.length : Int))).toNat)), (5, .slice (some ⟨b7, 0, none⟩) out_218.length ((w64 (2 * (d_Crossings.length : Int))).toNat)), (6, .int .i64 c_96), (7, .pointer (some ⟨b187, 0, none⟩)), (8, .int .i64 p_219)] k_l13 w (spec_l25Counts.post w0 L d_Crossings d_Circles A_d_Crossings c_d_Crossings r1) := by
           intro m_l13
           induction m_l13 using Nat.strongRecOn with
           | _ m_l13 ih_l13 =>
            intro hm_l13 in_217 out_218 p_219 w H HS
            cases m_l13 with
            | zero => rw [spec_l25Counts.l13] at H; cases H
            | succ n_l13 =>
             rw [spec_l25Counts.l13] at H
             subst hk_l13
             refine G.seq ?_
             refine G.seq ?_
             refine G.region ?_
             refine GO.move rfl rfl rfl ?_
             refine GO.lss rfl rfl rfl rfl ?_
             refine GO.nil ?_
             rcases ite_elim H with ⟨c244, H⟩ | ⟨c244, H⟩
             ·
              refine G.yesB rfl (decide_eq_true c244) ?_
              refine G.skip ?_
              refine G.seq ?_
              refine G.block ?_
              refine G.seq ?_
              obtain ⟨t245, h246, H⟩ := Option.bind_eq_some_iff.1 H
              refine G.region ?_
              refine GO.ldBoxA (j := 3) ([.int .i64 e185.A, .int .i64 e185.B, .int .i64 e185.C, .int .i64 e185.D, .int .i64 e185.Sign]) HS rfl rfl rfl rfl ag58 rfl ?_
              refine GO.move rfl rfl rfl ?_
              refine GO.fn rfl Try.func105 fok105.1 fok105.2 rfl rfl (spec_l25End.calls HS  h246) (fun _ wd247 ⟨h248, HS⟩ => ⟨_, h248, ?_⟩)
              refine GO.assign rfl rfl rfl ?_
              refine GO.nil ?_
              refine G.seq ?_
              refine G.seq ?_
              obtain ⟨t249, h250, H⟩ := Option.bind_eq_some_iff.1 H
              refine G.region ?_
              refine GO.move rfl rfl rfl ?_
              refine GO.move rfl rfl rfl ?_
              refine GO.sub rfl rfl rfl rfl ?_
              refine GO.fn rfl Try.func41 fok41.1 fok41.2 rfl rfl (spec_l01In.calls HS  h250) (fun _ wd251 ⟨h252, HS⟩ => ⟨_, h252, ?_⟩)
              refine GO.not rfl rfl rfl ?_
              refine GO.nil ?_
              rcases ite_elim H with ⟨c253, H⟩ | ⟨c253, H⟩
              ·
               refine G.noB rfl (congrArg Bool.not c253) ?_
               refine G.skip ?_
               refine G.seq ?_
               refine G.region ?_
               refine GO.move rfl rfl rfl ?_
               refine GO.assign rfl rfl rfl ?_
               refine GO.nil ?_
               refine G.seq ?_
               refine G.seq ?_
               obtain ⟨t254, h255, H⟩ := Option.bind_eq_some_iff.1 H
               refine G.region ?_
               refine GO.ldBoxA (j := 3) ([.int .i64 e185.A, .int .i64 e185.B, .int .i64 e185.C, .int .i64 e185.D, .int .i64 e185.Sign]) HS rfl rfl rfl rfl ag58 rfl ?_
               refine GO.move rfl rfl rfl ?_
               refine GO.fn rfl Try.func106 fok106.1 fok106.2 rfl rfl (spec_l25Enters.calls HS  h255) (fun _ wd256 ⟨h257, HS⟩ => ⟨_, h257, ?_⟩)
               refine GO.nil ?_
               rcases ite_elim H with ⟨c261, H⟩ | ⟨c261, H⟩
               ·
                refine G.yesB rfl c261 ?_
                refine G.region ?_
                refine GO.move rfl rfl rfl ?_
                refine GO.assign rfl rfl rfl ?_
                refine GO.nil ?_
                refine G.seq ?_
                refine G.seq ?_
                obtain ⟨c262, H⟩ := ite_none H
                refine G.region ?_
                refine GO.move rfl rfl rfl ?_
                refine GO.move rfl rfl rfl ?_
                refine GO.ix rfl rfl rfl Try.underlying83 sz4 (fun _ => ⟨_, _, rfl⟩) c262.1 c262.2 rfl ?_
                refine GO.ldRd (T := TBool) (n := t245.toNat) (o := 0) HS (RdIn.own (j := 1) rfl) rfl rfl (getD_some (d := false) (ltN c262)) rfl rfl na4 rfl ?_
                refine GO.nil ?_
                rcases ite_elim H with ⟨c263, H⟩ | ⟨c263, H⟩
                ·
                 refine G.yesB rfl c263 ?_
                 refine G.seq ?_
                 refine G.region ?_
                 refine GO.assign rfl rfl rfl ?_
                 refine GO.nil ?_
                 obtain rfl := Option.some.inj H
                 exact G.ret1 _ Try.func103 rfl rfl ⟨rfl, (HS.pk 4 [] rfl)⟩
                ·
                 refine G.noB rfl (bnot_of c263) ?_
                 refine G.skip ?_
                 refine G.region ?_
                 refine GO.move rfl rfl rfl ?_
                 refine GO.move rfl rfl rfl ?_
                 refine GO.ix rfl rfl rfl Try.underlying83 sz4 (fun _ => ⟨_, _, rfl⟩) c262.1 c262.2 rfl ?_
                 refine GO.stRow (T := TBool) (j := 1) (n := t245.toNat) (o := 0) (vs := [.bool true]) true HS rfl flat_flat rfl rfl rfl rfl (htN na4 rfl) rfl (getD_some (d := false) (ltN c262)) rfl rfl ?_; intro wd264 HS
                 refine GO.nil ?_
                 refine G.len (t := 4) (m := (in_217.set t245.toNat true).length) rfl (by simp only [List.length_set] <;> rfl) ?_
                 refine G.blockEnd ?_
                 refine G.region ?_
                 refine GO.move rfl rfl rfl ?_
                 refine GO.add rfl rfl rfl rfl ?_
                 refine GO.assign rfl rfl rfl ?_
                 refine GO.nil ?_
                 refine G.again ?_
                 refine G.weak ?_ (ih_l13 n_l13 (Nat.lt_succ_of_le (Nat.le_refl _)) (Nat.le_of_succ_le hm_l13) _ _ _ _ H HS)
                 exact ⟨rfl, rfl, rfl, rfl, rfl, rfl, rfl, trivial⟩
               ·
                refine G.noB rfl (bnot_of c261) ?_
                refine G.skip ?_
                refine G.seq ?_
                refine G.seq ?_
                obtain ⟨c265, H⟩ := ite_none H
                refine G.region ?_
                refine GO.move rfl rfl rfl ?_
                refine GO.move rfl rfl rfl ?_
                refine GO.ix rfl rfl rfl Try.underlying83 sz4 (fun _ => ⟨_, _, rfl⟩) c265.1 c265.2 rfl ?_
                refine GO.ldRd (T := TBool) (n := t245.toNat) (o := 0) HS (RdIn.own (j := 2) rfl) rfl rfl (getD_some (d := false) (ltN c265)) rfl rfl na4 rfl ?_
                refine GO.nil ?_
                rcases ite_elim H with ⟨c266, H⟩ | ⟨c266, H⟩
                ·
                 refine G.yesB rfl c266 ?_
                 refine G.seq ?_
                 refine G.region ?_
                 refine GO.assign rfl rfl rfl ?_
                 refine GO.nil ?_
                 obtain rfl := Option.some.inj H
                 exact G.ret1 _ Try.func103 rfl rfl ⟨rfl, (HS.pk 4 [] rfl)⟩
                ·
                 refine G.noB rfl (bnot_of c266) ?_
                 refine G.skip ?_
                 refine G.region ?_
                 refine GO.move rfl rfl rfl ?_
                 refine GO.move rfl rfl rfl ?_
                 refine GO.ix rfl rfl rfl Try.underlying83 sz4 (fun _ => ⟨_, _, rfl⟩) c265.1 c265.2 rfl ?_
                 refine GO.stRow (T := TBool) (j := 2) (n := t245.toNat) (o := 0) (vs := [.bool true]) true HS rfl flat_flat rfl rfl rfl rfl (htN na4 rfl) rfl (getD_some (d := false) (ltN c265)) rfl rfl ?_; intro wd267 HS
                 refine GO.nil ?_
                 refine G.len (t := 5) (m := (out_218.set t245.toNat true).length) rfl (by simp only [List.length_set] <;> rfl) ?_
                 refine G.blockEnd ?_
                 refine G.region ?_
                 refine GO.move rfl rfl rfl ?_
                 refine GO.add rfl rfl rfl rfl ?_
                 refine GO.assign rfl rfl rfl ?_
                 refine GO.nil ?_
                 refine G.again ?_
                 refine G.weak ?_ (ih_l13 n_l13 (Nat.lt_succ_of_le (Nat.le_refl _)) (Nat.le_of_succ_le hm_l13) _ _ _ _ H HS)
                 exact ⟨rfl, rfl, rfl, rfl, rfl, rfl, rfl, trivial⟩
              ·
               refine G.yesB rfl (congrArg Bool.not (bnot_of c253)) ?_
               refine G.seq ?_
               refine G.region ?_
               refine GO.assign rfl rfl rfl ?_
               refine GO.nil ?_
               obtain rfl := Option.some.inj H
               exact G.ret1 _ Try.func103 rfl rfl ⟨rfl, (HS.pk 4 [] rfl)⟩
             ·
              refine G.noB rfl (decide_eq_false c244) ?_
              refine G.exit rfl ?_
              refine G.blockEnd ?_
              refine G.region ?_
              refine GO.move rfl rfl rfl ?_
              refine GO.add rfl rfl rfl rfl ?_
              refine GO.assign rfl rfl rfl ?_
              refine GO.nil ?_
              refine G.again ?_
              refine G.weak ?_ (ih_l1 n_l13 (Nat.lt_succ_of_le (Nat.le_trans (Nat.le_of_succ_le hm_l13) (Nat.le_of_succ_le hm_j12))) (Nat.le_trans (Nat.le_of_succ_le hm_l13) (Nat.le_trans (Nat.le_of_succ_le hm_j12) (Nat.le_of_succ_le hm_l1))) _ _ _ _ H (HS.pk 4 [0, 1, 2] rfl))
              exact ⟨rfl, rfl, rfl, rfl, rfl, trivial⟩
          refine G.weak ?_ (at_l13 n_j12 (Nat.le_refl _) _ _ _ _ H HS)
          exact ⟨rfl, rfl, rfl, rfl, rfl, rfl, rfl, trivial⟩
       rcases ite_elim H with ⟨c268, H⟩ | ⟨c268, H⟩
       ·
        refine G.region ?_
        refine GO.fld (⟨b187, 4, none⟩) rfl rfl fl58_4 rfl rfl ?_
        refine GO.ldBox (j := 0) HS rfl rfl rfl rfl na2 rfl ?_
        refine GO.neq rfl rfl rfl rfl ?_
        refine GO.move rfl rfl rfl ?_
        refine GO.known (t := 34) rfl (congrArg Bool.not (decide_eq_true c268)) ?_
        refine GO.off rfl rfl rfl rfl rfl rfl ?_
        refine GO.off rfl rfl rfl rfl rfl rfl ?_
        refine GO.off rfl rfl rfl rfl rfl rfl ?_
        refine GO.pickF rfl rfl rfl rfl rfl ?_
        refine GO.nil ?_
        refine G.weak ?_ (at_j12 n_l1 (Nat.le_refl _) _ _ H (HS.pk 4 [1, 2, 3, 0] rfl))
        exact ⟨rfl, rfl, rfl, rfl, rfl, rfl, rfl, trivial⟩
       ·
        refine G.region ?_
        refine GO.fld (⟨b187, 4, none⟩) rfl rfl fl58_4 rfl rfl ?_
        refine GO.ldBox (j := 0) HS rfl rfl rfl rfl na2 rfl ?_
        refine GO.neq rfl rfl rfl rfl ?_
        refine GO.move rfl rfl rfl ?_
        refine GO.known (t := 34) rfl (congrArg Bool.not (decide_eq_false c268)) ?_
        refine GO.on rfl rfl rfl rfl ?_
        refine GO.fld (⟨b187, 4, none⟩) rfl rfl fl58_4 rfl rfl ?_
        refine GO.back ?_
        refine GO.on rfl rfl rfl rfl ?_
        refine GO.ldBox (j := 0) HS rfl rfl rfl rfl na2 rfl ?_
        refine GO.back ?_
        refine GO.on rfl rfl rfl rfl ?_
        refine GO.neq rfl rfl rfl rfl ?_
        refine GO.back ?_
        refine GO.pickT rfl rfl rfl rfl rfl ?_
        refine GO.nil ?_
        refine G.weak ?_ (at_j12 n_l1 (Nat.le_refl _) _ _ H (HS.pk 4 [1, 2, 3, 0] rfl))
        exact ⟨rfl, rfl, rfl, rfl, rfl, rfl, rfl, trivial⟩
      ·
       refine G.noB rfl (decide_eq_false c183) ?_
       refine G.exit rfl ?_
       refine G.seq ?_
       refine G.region ?_
       refine GO.assign rfl rfl rfl ?_
       refine GO.nil ?_
       obtain rfl := Option.some.inj H
       exact G.ret1 _ Try.func103 rfl rfl ⟨rfl, (HS.pk 3 [] rfl)⟩
   refine G.weak ?_ (at_l1 K (Nat.le_refl _) _ _ _ _ H HS)
   exact ⟨rfl, rfl, rfl, rfl, rfl, trivial⟩

set_option maxRecDepth 20000 in
set_option maxHeartbeats 40000000 in
theorem spec_l25Place.calls {w0 w : World} {L : List HObj} {K : Nat} {d_Crossings : List GCrossing} {d_Circles : Int} {a_ : Int} {enters : Bool} {A_d_Crossings : Option Addr} {c_d_Crossings : Nat} {r1 : Int} {r2 : Int} (HS : St w0 w (L)) (h_d_Crossings : RdIn w0 L T_GCrossing A_d_Crossings c_d_Crossings (fun _ => ()) d_Crossings) (H : spec_l25Place.f K d_Crossings d_Circles a_ enters = some (r1, r2)) :
    Calls Try.prog 42 #[.agg [.slice A_d_Crossings d_Crossings.length c_d_Crossings, .int .i64 d_Circles].toArray, .int .i64 a_, .bool enters] w (spec_l25Place.post w0 L d_Crossings d_Circles a_ enters A_d_Crossings c_d_Crossings r1 r2) := by
  unfold spec_l25Place.f at H
  refine Calls.of_G Try.func42 rfl rfl rfl ?_
  refine G.seq ?_
  refine G.region ?_
  refine GO.box (cs := [.slice A_d_Crossings d_Crossings.length c_d_Crossings, .int .i64 d_Circles]) HS rfl rfl rfl rfl ?_; intro b1 wd2 HS
  refine GO.assign rfl rfl rfl ?_
  refine GO.assign rfl rfl rfl ?_
  refine GO.nil ?_
  refine G.seq ?_
  refine G.seq ?_
  refine G.region ?_
  refine GO.assign rfl rfl rfl ?_
  refine GO.nil ?_
  refine G.block ?_
  refine G.loop ?_
  refine G.name (fun k_l1 hk_l1 => ?_)
  have at_l1 : ∀ m_l1, m_l1 ≤ K → ∀ (c_82 : Int) (w : World), spec_l25Place.l1 K m_l1 d_Crossings a_ enters c_82 = some (r1, r2) → St w0 w (Box b1 28 [.slice A_d_Crossings d_Crossings.length c_d_Crossings, .int .i64 d_Circles] :: L) → G Try.prog 42 43 [(1, .int .i64 a_), (2, .bool enters), (3, .pointer (some ⟨b1, 0, none⟩)), (8, .int .i64 c_82)] k_l1 w (spec_l25Place.post w0 L d_Crossings d_Circles a_ enters A_d_Crossings c_d_Crossings r1 r2) := by
   intro m_l1
   induction m_l1 using Nat.strongRecOn with
   | _ m_l1 ih_l1 =>
    intro hm_l1 c_82 w H HS
    cases m_l1 with
    | zero => rw [spec_l25Place.l1] at H; cases H
    | succ n_l1 =>
     rw [spec_l25Place.l1] at H
     subst hk_l1
     refine G.seq ?_
     refine G.seq ?_
     refine G.region ?_
     refine GO.move rfl rfl rfl ?_
     refine GO.fld (⟨b1, 0, none⟩) rfl rfl fl28_0 rfl rfl ?_
     refine GO.ldBox (j := 0) HS rfl rfl rfl rfl na26 rfl ?_
     refine GO.lenS rfl rfl Try.underlying26 rfl ?_
     refine GO.lss rfl rfl rfl rfl ?_
     refine GO.nil ?_
     rcases ite_elim H with ⟨c162, H⟩ | ⟨c162, H⟩
     ·
      refine G.yesB rfl (decide_eq_true c162) ?_
      refine G.skip ?_
      refine G.seq ?_
      refine G.block ?_
      refine G.seq ?_
      refine G.region ?_
      refine GO.assign rfl rfl rfl ?_
      refine GO.nil ?_
      refine G.block ?_
      refine G.loop ?_
      refine G.name (fun k_l4 hk_l4 => ?_)
      have at_l4 : ∀ m_l4, m_l4 ≤ n_l1 → ∀ (p_188 : Int) (w : World), spec_l25Place.l4 K m_l4 d_Crossings a_ enters c_82 p_188 = some (r1, r2) → St w0 w (Box b1 28 [.slice A_d_Crossings d_Crossings.length c_d_Crossings, .int .i64 d_Circles] :: L) → G Try.prog 42 43 [(1, .int .i64 a_), (2, .bool enters), (3, .pointer (some ⟨b1, 0, none⟩)), (8, .int .i64 c_82), (9, .int .i64 p_188)] k_l4 w (spec_l25Place.post w0 L d_Crossings d_Circles a_ enters A_d_Crossings c_d_Crossings r1 r2) := by
       intro m_l4
       induction m_l4 using Nat.strongRecOn with
       | _ m_l4 ih_l4 =>
        intro hm_l4 p_188 w H HS
        cases m_l4 with
        | zero => rw [spec_l25Place.l4] at H; cases H
        | succ n_l4 =>
         rw [spec_l25Place.l4] at H
         subst hk_l4
         refine G.seq ?_
         refine G.seq ?_
         refine G.region ?_
         refine GO.move rfl rfl rfl ?_
         refine GO.lss rfl rfl rfl rfl ?_
         refine GO.nil ?_
         rcases ite_elim H with ⟨c215, H⟩ | ⟨c215, H⟩
         ·
          refine G.yesB rfl (decide_eq_true c215) ?_
          refine G.skip ?_
          refine G.seq ?_
          refine G.block ?_
          refine G.seq ?_
          obtain ⟨c228, H⟩ := ite_none H
          obtain ⟨e229, h230, H⟩ := bnd_elim H
          obtain ⟨t231, h232, H⟩ := Option.bind_eq_some_iff.1 H
          rcases ite_elim H with ⟨c235, H⟩ | ⟨c235, H⟩
          ·
           obtain ⟨t236, h237, H⟩ := Option.bind_eq_some_iff.1 H
           refine G.region ?_
           refine GO.fld (⟨b1, 0, none⟩) rfl rfl fl28_0 rfl rfl ?_
           refine GO.ldBox (j := 0) HS rfl rfl rfl rfl na26 rfl ?_
           refine GO.move rfl rfl rfl ?_
           refine GO.ix rfl rfl rfl Try.underlying26 sz58 ((RdIn.drop 1 h_d_Crossings) _ HS).2.2.1 c228.1 c228.2 rfl ?_
           refine GO.ldRdA (T := T_GCrossing) (n := c_82.toNat) HS (RdIn.drop 1 h_d_Crossings) rfl rfl (getD_eq (ltN c228) h230) ag58 rfl ?_
           refine GO.move rfl rfl rfl ?_
           refine GO.fn rfl Try.func105 fok105.1 fok105.2 rfl rfl (spec_l25End.calls HS  h232) (fun _ wd233 ⟨h234, HS⟩ => ⟨_, h234, ?_⟩)
           refine GO.move rfl rfl rfl ?_
           refine GO.eql rfl rfl rfl rfl ?_
           refine GO.move rfl rfl rfl ?_
           refine GO.known (t := 30) rfl (decide_eq_true c235) ?_
           refine GO.on rfl rfl rfl rfl ?_
           refine GO.fld (⟨b1, 0, none⟩) rfl rfl fl28_0 rfl rfl ?_
           refine GO.back ?_
           refine GO.on rfl rfl rfl rfl ?_
           refine GO.ldBox (j := 0) HS rfl rfl rfl rfl na26 rfl ?_
           refine GO.back ?_
           refine GO.on rfl rfl rfl rfl ?_
           refine GO.move rfl rfl rfl ?_
           refine GO.back ?_
           refine GO.on rfl rfl rfl rfl ?_
           refine GO.ix rfl rfl rfl Try.underlying26 sz58 ((RdIn.drop 1 h_d_Crossings) _ HS).2.2.1 c228.1 c228.2 rfl ?_
           refine GO.back ?_
           refine GO.on rfl rfl rfl rfl ?_
           refine GO.ldRdA (T := T_GCrossing) (n := c_82.toNat) HS (RdIn.drop 1 h_d_Crossings) rfl rfl (getD_eq (ltN c228) h230) ag58 rfl ?_
           refine GO.back ?_
           refine GO.on rfl rfl rfl rfl ?_
           refine GO.move rfl rfl rfl ?_
           refine GO.back ?_
           refine GO.on rfl rfl rfl rfl ?_
           refine GO.fn rfl Try.func106 fok106.1 fok106.2 rfl rfl (spec_l25Enters.calls HS  h237) (fun _ wd238 ⟨h239, HS⟩ => ⟨_, h239, ?_⟩)
           refine GO.back ?_
           refine GO.on rfl rfl rfl rfl ?_
           refine GO.move rfl rfl rfl ?_
           refine GO.back ?_
           refine GO.on rfl rfl rfl rfl ?_
           refine GO.eqlB rfl rfl rfl Try.underlying4 rfl ?_
           refine GO.back ?_
           refine GO.pickT rfl rfl rfl rfl rfl ?_
           refine GO.nil ?_
           rcases ite_elim H with ⟨c240, H⟩ | ⟨c240, H⟩
           ·
            refine G.yesB rfl c240 ?_
            refine G.seq ?_
            refine G.region ?_
            refine GO.move rfl rfl rfl ?_
            refine GO.move rfl rfl rfl ?_
            refine GO.assign rfl rfl rfl ?_
            refine GO.assign rfl rfl rfl ?_
            refine GO.nil ?_
            obtain ⟨rfl, rfl⟩ := some2 H
            exact G.ret2 _ _ Try.func42 rfl rfl rfl ⟨rfl, (HS.pk 1 [] rfl)⟩
           ·
            refine G.noB rfl (bnot_of c240) ?_
            refine G.skip ?_
            refine G.blockEnd ?_
            refine G.region ?_
            refine GO.move rfl rfl rfl ?_
            refine GO.add rfl rfl rfl rfl ?_
            refine GO.assign rfl rfl rfl ?_
            refine GO.nil ?_
            refine G.again ?_
            refine G.weak ?_ (ih_l4 n_l4 (Nat.lt_succ_of_le (Nat.le_refl _)) (Nat.le_of_succ_le hm_l4) _ _ H HS)
            exact ⟨rfl, rfl, rfl, rfl, rfl, trivial⟩
          ·
           refine G.region ?_
           refine GO.fld (⟨b1, 0, none⟩) rfl rfl fl28_0 rfl rfl ?_
           refine GO.ldBox (j := 0) HS rfl rfl rfl rfl na26 rfl ?_
           refine GO.move rfl rfl rfl ?_
           refine GO.ix rfl rfl rfl Try.underlying26 sz58 ((RdIn.drop 1 h_d_Crossings) _ HS).2.2.1 c228.1 c228.2 rfl ?_
           refine GO.ldRdA (T := T_GCrossing) (n := c_82.toNat) HS (RdIn.drop 1 h_d_Crossings) rfl rfl (getD_eq (ltN c228) h230) ag58 rfl ?_
           refine GO.move rfl rfl rfl ?_
           refine GO.fn rfl Try.func105 fok105.1 fok105.2 rfl rfl (spec_l25End.calls HS  h232) (fun _ wd233 ⟨h234, HS⟩ => ⟨_, h234, ?_⟩)
           refine GO.move rfl rfl rfl ?_
           refine GO.eql rfl rfl rfl rfl ?_
           refine GO.move rfl rfl rfl ?_
           refine GO.known (t := 30) rfl (decide_eq_false c235) ?_
           refine GO.off rfl rfl rfl rfl rfl rfl ?_
           refine GO.off rfl rfl rfl rfl rfl rfl ?_
           refine GO.off rfl rfl rfl rfl rfl rfl ?_
           refine GO.off rfl rfl rfl rfl rfl rfl ?_
           refine GO.off rfl rfl rfl rfl rfl rfl ?_
           refine GO.off rfl rfl rfl rfl rfl rfl ?_
           refine GO.off rfl rfl rfl rfl rfl rfl ?_
           refine GO.off rfl rfl rfl rfl rfl rfl ?_
           refine GO.off rfl rfl rfl rfl rfl rfl ?_
           refine GO.pickF rfl rfl rfl rfl rfl ?_
           refine GO.nil ?_
           refine G.noB rfl rfl ?_
           refine G.skip ?_
           refine G.blockEnd ?_
           refine G.region ?_
           refine GO.move rfl rfl rfl ?_
           refine GO.add rfl rfl rfl rfl ?_
           refine GO.assign rfl rfl rfl ?_
           refine GO.nil ?_
           refine G.again ?_
           refine G.weak ?_ (ih_l4 n_l4 (Nat.lt_succ_of_le (Nat.le_refl _)) (Nat.le_of_succ_le hm_l4) _ _ H HS)
           exact ⟨rfl, rfl, rfl, rfl, rfl, trivial⟩
         ·
          refine G.noB rfl (decide_eq_false c215) ?_
          refine G.exit rfl ?_
          refine G.blockEnd ?_
          refine G.region ?_
          refine GO.move rfl rfl rfl ?_
          refine GO.add rfl rfl rfl rfl ?_
          refine GO.assign rfl rfl rfl ?_
          refine GO.nil ?_
          refine G.again ?_
          refine G.weak ?_ (ih_l1 n_l4 (Nat.lt_succ_of_le (Nat.le_of_succ_le hm_l4)) (Nat.le_trans (Nat.le_of_succ_le hm_l4) (Nat.le_of_succ_le hm_l1)) _ _ H HS)
          exact ⟨rfl, rfl, rfl, rfl, trivial⟩
      refine G.weak ?_ (at_l4 n_l1 (Nat.le_refl _) _ _ H HS)
      exact ⟨rfl, rfl, rfl, rfl, rfl, trivial⟩
     ·
      refine G.noB rfl (decide_eq_false c162) ?_
      refine G.exit rfl ?_
      refine G.seq ?_
      refine G.region ?_
      refine GO.assign rfl rfl rfl ?_
      refine GO.assign rfl rfl rfl ?_
      refine GO.nil ?_
      obtain ⟨rfl, rfl⟩ := some2 H
      exact G.ret2 _ _ Try.func42 rfl rfl rfl ⟨rfl, (HS.pk 1 [] rfl)⟩
  refine G.weak ?_ (at_l1 K (Nat.le_refl _) _ _ H HS)
  exact ⟨rfl, rfl, rfl, rfl, trivial⟩

set_option maxRecDepth 20000 in
set_option maxHeartbeats 40000000 in
theorem spec_l25Successor.calls {w0 w : World} {L : List HObj} {K : Nat} {d_Crossings : List GCrossing} {d_Circles : Int} {corner : Int} {A_d_Crossings : Option Addr} {c_d_Crossings : Nat} {r1 : Int} (HS : St w0 w (L)) (h_d_Crossings : RdIn w0 L T_GCrossing A_d_Crossings c_d_Crossings (fun _ => ()) d_Crossings) (H : spec_l25Successor.f K d_Crossings d_Circles corner = some r1) :
    Calls Try.prog 119 #[.agg [.slice A_d_Crossings d_Crossings.length c_d_Crossings, .int .i64 d_Circles].toArray, .int .i64 corner] w (spec_l25Successor.post w0 L d_Crossings d_Circles corner A_d_Crossings c_d_Crossings r1) := by
  unfold spec_l25Successor.f at H
  refine Calls.of_G Try.func119 rfl rfl rfl ?_
  refine G.seq ?_
  refine G.region ?_
  refine GO.box (cs := [.slice A_d_Crossings d_Crossings.length c_d_Crossings, .int .i64 d_Circles]) HS rfl rfl rfl rfl ?_; intro b1 wd2 HS
  refine GO.assign rfl rfl rfl ?_
  refine GO.nil ?_
  refine G.seq ?_
  refine G.region ?_
  refine GO.move rfl rfl rfl ?_
  refine GO.quo rfl rfl rfl (by decide) rfl ?_
  refine GO.move rfl rfl rfl ?_
  refine GO.rem rfl rfl rfl (by decide) rfl ?_
  refine GO.add rfl rfl rfl rfl ?_
  refine GO.rem rfl rfl rfl (by decide) rfl ?_
  refine GO.assign rfl rfl rfl ?_
  refine GO.assign rfl rfl rfl ?_
  refine GO.nil ?_
  refine G.seq ?_
  obtain ⟨c3, H⟩ := ite_none H
  obtain ⟨e4, h5, H⟩ := bnd_elim H
  refine G.region ?_
  refine GO.fld (⟨b1, 0, none⟩) rfl rfl fl28_0 rfl rfl ?_
  refine GO.ldBox (j := 0) HS rfl rfl rfl rfl na26 rfl ?_
  refine GO.move rfl rfl rfl ?_
  refine GO.ix rfl rfl rfl Try.underlying26 sz58 ((RdIn.drop 1 h_d_Crossings) _ HS).2.2.1 c3.1 c3.2 rfl ?_
  refine GO.ldRdA (T := T_GCrossing) (n := (w64 (corner.tdiv 4)).toNat) HS (RdIn.drop 1 h_d_Crossings) rfl rfl (getD_eq (ltN c3) h5) ag58 rfl ?_
  refine GO.alloc HS rfl zr58 rfl rfl ?_; intro b6 wd7 HS
  refine GO.stBox (j := 0) (vs := [.int .i64 e4.A, .int .i64 e4.B, .int .i64 e4.C, .int .i64 e4.D, .int .i64 e4.Sign]) ([.int .i64 e4.A, .int .i64 e4.B, .int .i64 e4.C, .int .i64 e4.D, .int .i64 e4.Sign]) HS rfl rfl rfl rfl rfl (htA ag58) rfl rfl rfl ?_; intro wd8 HS
  refine GO.nil ?_
  refine G.seq ?_
  obtain ⟨t9, h10, H⟩ := Option.bind_eq_some_iff.1 H
  obtain ⟨t13, h14, H⟩ := Option.bind_eq_some_iff.1 H
  obtain ⟨t17, t18, h19, H⟩ := bind2_elim H
  refine G.regionAny mixed (by decide) (fun b a w => ∃ (Y1_0 : Value) (Y2_1 : Value) (Y3_2 : Value) (Y4_3 : Value) (Y5_4 : Value) (Y6_5 : Value) (Y7_6 : Value) (Y8_7 : Value) (Y9_8 : Value) (Y10_9 : Value) (Y11_10 : Value) (Y12_11 : Value) (Y13_12 : Value) (Y14_13 : Value), Sat 37 [(8, Y13_12), (9, Y14_13), (21, Y10_9), (22, Y1_0), (23, Y2_1), (24, Y3_2), (25, Y4_3), (26, Y5_4), (27, Y6_5), (28, Y7_6), (29, Y8_7), (30, Y9_8), (31, Y11_10), (32, Y12_11), (2, .pointer (some ⟨b1, 0, none⟩)), (6, .int .i64 ((w64 ((corner.tmod 4) + 1)).tmod 4)), (7, .pointer (some ⟨b6, 0, none⟩))] a ∧ St w0 w (Box b6 58 [.int .i64 e4.A, .int .i64 e4.B, .int .i64 e4.C, .int .i64 e4.D, .int .i64 e4.Sign] :: Box b1 28 [.slice A_d_Crossings d_Crossings.length c_d_Crossings, .int .i64 d_Circles] :: L) ∧ (b 12 = true → Y13_12 = (.int .i64 t17)) ∧ (b 13 = true → Y14_13 = (.int .i64 t18)) ∧ (b 9 = true → Y10_9 = (.tuple #[.int .i64 t17, .int .i64 t18])) ∧ (b 0 = true → Y1_0 = (.agg [.slice A_d_Crossings d_Crossings.length c_d_Crossings, .int .i64 d_Circles].toArray)) ∧ (b 1 = true → Y2_1 = (.agg [.int .i64 e4.A, .int .i64 e4.B, .int .i64 e4.C, .int .i64 e4.D, .int .i64 e4.Sign].toArray)) ∧ (b 2 = true → Y3_2 = (.int .i64 ((w64 ((corner.tmod 4) + 1)).tmod 4))) ∧ (b 3 = true → Y4_3 = (.int .i64 t9)) ∧ (b 4 = true → Y5_4 = (.agg [.int .i64 e4.A, .int .i64 e4.B, .int .i64 e4.C, .int .i64 e4.D, .int .i64 e4.Sign].toArray)) ∧ (b 5 = true → Y6_5 = (.int .i64 ((w64 ((corner.tmod 4) + 1)).tmod 4))) ∧ (b 6 = true → Y7_6 = (.bool t13)) ∧ (b 7 = true → Y8_7 = (.bool (!t13))) ∧ (b 8 = true → Y9_8 = (.tuple #[.int .i64 t17, .int .i64 t18])) ∧ (b 10 = true → Y11_10 = (.int .i64 t17)) ∧ (b 11 = true → Y12_11 = (.int .i64 t18))) ?_ ?_ ?_
  ·
   intro a hs
   obtain ⟨Y13_12, hs⟩ := hs.ext (d := 8) rfl
   obtain ⟨Y14_13, hs⟩ := hs.ext (d := 9) rfl
   obtain ⟨Y10_9, hs⟩ := hs.ext (d := 21) rfl
   obtain ⟨Y1_0, hs⟩ := hs.ext (d := 22) rfl
   obtain ⟨Y2_1, hs⟩ := hs.ext (d := 23) rfl
   obtain ⟨Y3_2, hs⟩ := hs.ext (d := 24) rfl
   obtain ⟨Y4_3, hs⟩ := hs.ext (d := 25) rfl
   obtain ⟨Y5_4, hs⟩ := hs.ext (d := 26) rfl
   obtain ⟨Y6_5, hs⟩ := hs.ext (d := 27) rfl
   obtain ⟨Y7_6, hs⟩ := hs.ext (d := 28) rfl
   obtain ⟨Y8_7, hs⟩ := hs.ext (d := 29) rfl
   obtain ⟨Y9_8, hs⟩ := hs.ext (d := 30) rfl
   obtain ⟨Y11_10, hs⟩ := hs.ext (d := 31) rfl
   obtain ⟨Y12_11, hs⟩ := hs.ext (d := 32) rfl
   exact ⟨Y1_0, Y2_1, Y3_2, Y4_3, Y5_4, Y6_5, Y7_6, Y8_7, Y9_8, Y10_9, Y11_10, Y12_11, Y13_12, Y14_13, hs.weak ⟨rfl, rfl, rfl, rfl, rfl, rfl, rfl, rfl, rfl, rfl, rfl, rfl, rfl, rfl, rfl, rfl, rfl, trivial⟩, (HS.drew.pk 2 [0, 1] rfl), fun h => Bool.noConfusion h, fun h => Bool.noConfusion h, fun h => Bool.noConfusion h, fun h => Bool.noConfusion h, fun h => Bool.noConfusion h, fun h => Bool.noConfusion h, fun h => Bool.noConfusion h, fun h => Bool.noConfusion h, fun h => Bool.noConfusion h, fun h => Bool.noConfusion h, fun h => Bool.noConfusion h, fun h => Bool.noConfusion h, fun h => Bool.noConfusion h, fun h => Bool.noConfusion h⟩
  ·
   intro j hj b a w
   refine exI fun Y1_0 => exI fun Y2_1 => exI fun Y3_2 => exI fun Y4_3 => exI fun Y5_4 => exI fun Y6_5 => exI fun Y7_6 => exI fun Y8_7 => exI fun Y9_8 => exI fun Y10_9 => exI fun Y11_10 => exI fun Y12_11 => exI fun Y13_12 => exI fun Y14_13 => anI fun hs => anI fun HS => anI fun f12 => anI fun f13 => anI fun f9 => anI fun f0 => anI fun f1 => anI fun f2 => anI fun f3 => anI fun f4 => anI fun f5 => anI fun f6 => anI fun f7 => anI fun f8 => anI fun f10 => fun f11 hb hd hcl => ?_
   match j, hj with
   | 0, _ =>
    refine GO.at hs ?_
    refine GO.ldBoxA (j := 1) ([.slice A_d_Crossings d_Crossings.length c_d_Crossings, .int .i64 d_Circles]) HS rfl rfl rfl rfl ag28 rfl ?_
    refine GO.fin (fun a hs => ?_)
    exact ⟨(.agg [.slice A_d_Crossings d_Crossings.length c_d_Crossings, .int .i64 d_Circles].toArray), _, _, _, _, _, _, _, _, _, _, _, _, _, by exact hs.setAt 3 rfl, HS, f12, f13, f9, fun _ => rfl, f1, f2, f3, f4, f5, f6, f7, f8, f10, f11⟩
   | 1, _ =>
    refine GO.at hs ?_
    refine GO.ldBoxA (j := 0) ([.int .i64 e4.A, .int .i64 e4.B, .int .i64 e4.C, .int .i64 e4.D, .int .i64 e4.Sign]) HS rfl rfl rfl rfl ag58 rfl ?_
    refine GO.fin (fun a hs => ?_)
    exact ⟨_, (.agg [.int .i64 e4.A, .int .i64 e4.B, .int .i64 e4.C, .int .i64 e4.D, .int .i64 e4.Sign].toArray), _, _, _, _, _, _, _, _, _, _, _, _, by exact hs.setAt 4 rfl, HS, f12, f13, f9, f0, fun _ => rfl, f2, f3, f4, f5, f6, f7, f8, f10, f11⟩
   | 2, _ =>
    refine GO.at hs ?_
    refine GO.move rfl rfl rfl ?_
    refine GO.fin (fun a hs => ?_)
    exact ⟨_, _, (.int .i64 ((w64 ((corner.tmod 4) + 1)).tmod 4)), _, _, _, _, _, _, _, _, _, _, _, by exact hs.setAt 5 rfl, HS, f12, f13, f9, f0, f1, fun _ => rfl, f3, f4, f5, f6, f7, f8, f10, f11⟩
   | 3, _ =>
    have hb1 : b 1 = true := hd 1 (by decide)
    obtain rfl := f1 hb1
    have hb2 : b 2 = true := hd 2 (by decide)
    obtain rfl := f2 hb2
    refine GO.at hs ?_
    refine GO.fn rfl Try.func105 fok105.1 fok105.2 rfl rfl (spec_l25End.calls HS  h10) (fun _ wd11 ⟨h12, HS⟩ => ⟨_, h12, ?_⟩)
    refine GO.fin (fun a hs => ?_)
    exact ⟨_, _, _, (.int .i64 t9), _, _, _, _, _, _, _, _, _, _, by exact hs.setAt 6 rfl, HS, f12, f13, f9, f0, f1, f2, fun _ => rfl, f4, f5, f6, f7, f8, f10, f11⟩
   | 4, _ =>
    refine GO.at hs ?_
    refine GO.ldBoxA (j := 0) ([.int .i64 e4.A, .int .i64 e4.B, .int .i64 e4.C, .int .i64 e4.D, .int .i64 e4.Sign]) HS rfl rfl rfl rfl ag58 rfl ?_
    refine GO.fin (fun a hs => ?_)
    exact ⟨_, _, _, _, (.agg [.int .i64 e4.A, .int .i64 e4.B, .int .i64 e4.C, .int .i64 e4.D, .int .i64 e4.Sign].toArray), _, _, _, _, _, _, _, _, _, by exact hs.setAt 7 rfl, HS, f12, f13, f9, f0, f1, f2, f3, fun _ => rfl, f5, f6, f7, f8, f10, f11⟩
   | 5, _ =>
    refine GO.at hs ?_
    refine GO.move rfl rfl rfl ?_
    refine GO.fin (fun a hs => ?_)
    exact ⟨_, _, _, _, _, (.int .i64 ((w64 ((corner.tmod 4) + 1)).tmod 4)), _, _, _, _, _, _, _, _, by exact hs.setAt 8 rfl, HS, f12, f13, f9, f0, f1, f2, f3, f4, fun _ => rfl, f6, f7, f8, f10, f11⟩
   | 6, _ =>
    have hb4 : b 4 = true := hd 4 (by decide)
    obtain rfl := f4 hb4
    have hb5 : b 5 = true := hd 5 (by decide)
    obtain rfl := f5 hb5
    refine GO.at hs ?_
    refine GO.fn rfl Try.func106 fok106.1 fok106.2 rfl rfl (spec_l25Enters.calls HS  h14) (fun _ wd15 ⟨h16, HS⟩ => ⟨_, h16, ?_⟩)
    refine GO.fin (fun a hs => ?_)
    exact ⟨_, _, _, _, _, _, (.bool t13), _, _, _, _, _, _, _, by exact hs.setAt 9 rfl, HS, f12, f13, f9, f0, f1, f2, f3, f4, f5, fun _ => rfl, f7, f8, f10, f11⟩
   | 7, _ =>
    have hb6 : b 6 = true := hd 6 (by decide)
    obtain rfl := f6 hb6
    refine GO.at hs ?_
    refine GO.not rfl rfl rfl ?_
    refine GO.fin (fun a hs => ?_)
    exact ⟨_, _, _, _, _, _, _, (.bool (!t13)), _, _, _, _, _, _, by exact hs.setAt 10 rfl, HS, f12, f13, f9, f0, f1, f2, f3, f4, f5, f6, fun _ => rfl, f8, f10, f11⟩
   | 8, _ =>
    have hb0 : b 0 = true := hd 0 (by decide)
    obtain rfl := f0 hb0
    have hb3 : b 3 = true := hd 3 (by decide)
    obtain rfl := f3 hb3
    have hb7 : b 7 = true := hd 7 (by decide)
    obtain rfl := f7 hb7
    refine GO.at hs ?_
    refine GO.fn rfl Try.func42 fok42.1 fok42.2 rfl rfl (spec_l25Place.calls HS (RdIn.drop 2 h_d_Crossings) h19) (fun _ wd20 ⟨h21, HS⟩ => ⟨_, h21, ?_⟩)
    refine GO.fin (fun a hs => ?_)
    exact ⟨_, _, _, _, _, _, _, _, (.tuple #[.int .i64 t17, .int .i64 t18]), _, _, _, _, _, by exact hs.setAt 11 rfl, HS, f12, f13, f9, f0, f1, f2, f3, f4, f5, f6, f7, fun _ => rfl, f10, f11⟩
   | 9, _ =>
    have hb8 : b 8 = true := hd 8 (by decide)
    obtain rfl := f8 hb8
    refine GO.at hs ?_
    refine GO.move rfl rfl rfl ?_
    refine GO.fin (fun a hs => ?_)
    exact ⟨_, _, _, _, _, _, _, _, _, (.tuple #[.int .i64 t17, .int .i64 t18]), _, _, _, _, by exact hs.setAt 2 rfl, HS, f12, f13, fun _ => rfl, f0, f1, f2, f3, f4, f5, f6, f7, f8, f10, f11⟩
   | 10, _ =>
    have hb9 : b 9 = true := hd 9 (by decide)
    obtain rfl := f9 hb9
    refine GO.at hs ?_
    refine GO.extract rfl rfl rfl rfl ?_
    refine GO.fin (fun a hs => ?_)
    exact ⟨_, _, _, _, _, _, _, _, _, _, (.int .i64 t17), _, _, _, by exact hs.setAt 12 rfl, HS, f12, f13, f9, f0, f1, f2, f3, f4, f5, f6, f7, f8, fun _ => rfl, f11⟩
   | 11, _ =>
    have hb9 : b 9 = true := hd 9 (by decide)
    obtain rfl := f9 hb9
    refine GO.at hs ?_
    refine GO.extract rfl rfl rfl rfl ?_
    refine GO.fin (fun a hs => ?_)
    exact ⟨_, _, _, _, _, _, _, _, _, _, _, (.int .i64 t18), _, _, by exact hs.setAt 13 rfl, HS, f12, f13, f9, f0, f1, f2, f3, f4, f5, f6, f7, f8, f10, fun _ => rfl⟩
   | 12, _ =>
    have hb10 : b 10 = true := hd 10 (by decide)
    obtain rfl := f10 hb10
    refine GO.at hs ?_
    refine GO.assign rfl rfl rfl ?_
    refine GO.fin (fun a hs => ?_)
    exact ⟨_, _, _, _, _, _, _, _, _, _, _, _, (.int .i64 t17), _, by exact hs.setAt 0 rfl, HS, fun _ => rfl, f13, f9, f0, f1, f2, f3, f4, f5, f6, f7, f8, f10, f11⟩
   | 13, _ =>
    have hb11 : b 11 = true := hd 11 (by decide)
    obtain rfl := f11 hb11
    refine GO.at hs ?_
    refine GO.assign rfl rfl rfl ?_
    refine GO.fin (fun a hs => ?_)
    exact ⟨_, _, _, _, _, _, _, _, _, _, _, _, _, (.int .i64 t18), by exact hs.setAt 1 rfl, HS, f12, fun _ => rfl, f9, f0, f1, f2, f3, f4, f5, f6, f7, f8, f10, f11⟩
   | k + 14, hj => exact absurd hj (Nat.not_lt.2 (Nat.le_add_left 14 k))
  ·
   intro b a w hall
   refine exI fun Y1_0 => exI fun Y2_1 => exI fun Y3_2 => exI fun Y4_3 => exI fun Y5_4 => exI fun Y6_5 => exI fun Y7_6 => exI fun Y8_7 => exI fun Y9_8 => exI fun Y10_9 => exI fun Y11_10 => exI fun Y12_11 => exI fun Y13_12 => exI fun Y14_13 => anI fun hs => anI fun HS => anI fun f12 => anI fun f13 => anI fun f9 => anI fun f0 => anI fun f1 => anI fun f2 => anI fun f3 => anI fun f4 => anI fun f5 => anI fun f6 => anI fun f7 => anI fun f8 => anI fun f10 => fun f11 => ?_
   obtain rfl := f12 (hall 12 (by decide))
   obtain rfl := f13 (hall 13 (by decide))
   obtain rfl := f9 (hall 9 (by decide))
   obtain rfl := f0 (hall 0 (by decide))
   obtain rfl := f1 (hall 1 (by decide))
   obtain rfl := f2 (hall 2 (by decide))
   obtain rfl := f3 (hall 3 (by decide))
   obtain rfl := f4 (hall 4 (by decide))
   obtain rfl := f5 (hall 5 (by decide))
   obtain rfl := f6 (hall 6 (by decide))
   obtain rfl := f7 (hall 7 (by decide))
   obtain rfl := f8 (hall 8 (by decide))
   obtain rfl := f10 (hall 10 (by decide))
   obtain rfl := f11 (hall 11 (by decide))
   refine G.at hs ?_
   refine G.seq ?_
   refine G.region ?_
   refine GO.move rfl rfl rfl ?_
   refine GO.mul rfl rfl rfl rfl ?_
   refine GO.move rfl rfl rfl ?_
   refine GO.add rfl rfl rfl rfl ?_
   refine GO.assign rfl rfl rfl ?_
   refine GO.nil ?_
   obtain rfl := Option.some.inj H
   exact G.ret1 _ Try.func119 rfl rfl ⟨rfl, (HS.pk 2 [] rfl)⟩

set_option maxRecDepth 20000 in
set_option maxHeartbeats 40000000 in
theorem spec_l25Regions.calls {w0 w : World} {L : List HObj} {K : Nat} {d_Crossings : List GCrossing} {d_Circles : Int} {A_d_Crossings : Option Addr} {c_d_Crossings : Nat} {r1 : List (List Int)} (HS : St w0 w (L)) (h_d_Crossings : RdIn w0 L T_GCrossing A_d_Crossings c_d_Crossings (fun _ => ()) d_Crossings) (H : spec_l25Regions.f K d_Crossings d_Circles = some r1) :
    Calls Try.prog 68 #[.agg [.slice A_d_Crossings d_Crossings.length c_d_Crossings, .int .i64 d_Circles].toArray] w (spec_l25Regions.post w0 L d_Crossings d_Circles A_d_Crossings c_d_Crossings r1) := by
  unfold spec_l25Regions.f at H
  refine Calls.of_G Try.func68 rfl rfl rfl ?_
  refine G.seq ?_
  refine G.region ?_
  refine GO.box (cs := [.slice A_d_Crossings d_Crossings.length c_d_Crossings, .int .i64 d_Circles]) HS rfl rfl rfl rfl ?_; intro b1 wd2 HS
  refine GO.assign rfl rfl rfl ?_
  refine GO.nil ?_
  refine G.seq ?_
  refine G.region ?_
  refine GO.buildS (el := 43) ([]) HS rfl rfl (fun _ => by kernel_rfl) rfl ?_; intro b3 wd4 HS
  replace HS := HS.boxNil (T := (Ty.slice 2 (TInt .i64))) (j := 0) rfl (fun _ => ⟨none, 0, fun _ => ()⟩)
  refine GO.lenC (t := 8) (m := ([] : List (List Int)).length) (c' := 0) rfl rfl rfl ?_
  refine GO.assign rfl rfl rfl ?_
  refine GO.nil ?_
  refine G.seq ?_
  obtain ⟨c5, H⟩ := ite_none H
  obtain ⟨c6, H⟩ := ite_none H
  refine G.region ?_
  refine GO.fld (⟨b1, 0, none⟩) rfl rfl fl28_0 rfl rfl ?_
  refine GO.ldBox (j := 1) HS rfl rfl rfl rfl na26 rfl ?_
  refine GO.lenS rfl rfl Try.underlying26 rfl ?_
  refine GO.mul rfl rfl rfl rfl ?_
  refine GO.make (T := TBool) false () HS flat_flat rfl rfl rfl Try.underlying83 inf4 rfl rfl rfl c5 c6 rfl ?_; intro b7 wd8 HS
  refine GO.assign rfl rfl rfl ?_
  refine GO.nil ?_
  refine G.seq ?_
  refine G.seq ?_
  refine G.region ?_
  refine GO.assign rfl rfl rfl ?_
  refine GO.nil ?_
  refine G.block ?_
  refine G.loop ?_
  refine G.name (fun k_l1 hk_l1 => ?_)
  have at_l1 : ∀ m_l1, m_l1 ≤ K → ∀ (A70 : Option Addr) (c71 : Nat) (out_72 : List (List Int)) (y73 : Nat → (Ty.slice 2 (TInt .i64)).Lay) (done_74 : List Bool) (k_75 : Int) (w : World), spec_l25Regions.l1 K m_l1 d_Crossings d_Circles out_72 done_74 k_75 = some r1 → St w0 w (Box b1 28 [.slice A_d_Crossings d_Crossings.length c_d_Crossings, .int .i64 d_Circles] :: Own (Ty.slice 2 (TInt .i64)) 43 A70 c71 y73 out_72 :: Own TBool 4 (some ⟨b7, 0, none⟩) ((w64 (4 * (d_Crossings.length : Int))).toNat) (fun _ => ()) done_74 :: L) → G Try.prog 68 46 [(1, .pointer (some ⟨b1, 0, none⟩)), (3, .slice A70 out_72.length c71), (4, .slice (some ⟨b7, 0, none⟩) done_74.length ((w64 (4 * (d_Crossings.length : Int))).toNat)), (5, .int .i64 k_75)] k_l1 w (spec_l25Regions.post w0 L d_Crossings d_Circles A_d_Crossings c_d_Crossings r1) := by
   intro m_l1
   induction m_l1 using Nat.strongRecOn with
   | _ m_l1 ih_l1 =>
    intro hm_l1 A70 c71 out_72 y73 done_74 k_75 w H HS
    cases m_l1 with
    | zero => rw [spec_l25Regions.l1] at H; cases H
    | succ n_l1 =>
     rw [spec_l25Regions.l1] at H
     subst hk_l1
     refine G.seq ?_
     refine G.seq ?_
     refine G.region ?_
     refine GO.move rfl rfl rfl ?_
     refine GO.move rfl rfl rfl ?_
     refine GO.lenS rfl rfl Try.underlying83 rfl ?_
     refine GO.lss rfl rfl rfl rfl ?_
     refine GO.nil ?_
     rcases ite_elim H with ⟨c137, H⟩ | ⟨c137, H⟩
     ·
      refine G.yesB rfl (decide_eq_true c137) ?_
      refine G.skip ?_
      refine G.seq ?_
      refine G.block ?_
      refine G.seq ?_
      refine G.seq ?_
      obtain ⟨c138, H⟩ := ite_none H
      refine G.region ?_
      refine GO.move rfl rfl rfl ?_
      refine GO.move rfl rfl rfl ?_
      refine GO.ix rfl rfl rfl Try.underlying83 sz4 (fun _ => ⟨_, _, rfl⟩) c138.1 c138.2 rfl ?_
      refine GO.ldRd (T := TBool) (n := k_75.toNat) (o := 0) HS (RdIn.own (j := 2) rfl) rfl rfl (getD_some (d := false) (ltN c138)) rfl rfl na4 rfl ?_
      refine GO.nil ?_
      rcases ite_elim H with ⟨c139, H⟩ | ⟨c139, H⟩
      ·
       refine G.yesB rfl c139 ?_
       refine G.exit rfl ?_
       refine G.region ?_
       refine GO.move rfl rfl rfl ?_
       refine GO.add rfl rfl rfl rfl ?_
       refine GO.assign rfl rfl rfl ?_
       refine GO.nil ?_
       refine G.again ?_
       refine G.weak ?_ (ih_l1 n_l1 (Nat.lt_succ_of_le (Nat.le_refl _)) (Nat.le_of_succ_le hm_l1) _ _ _ _ _ _ _ H HS)
       exact ⟨rfl, rfl, rfl, rfl, trivial⟩
      ·
       refine G.noB rfl (bnot_of c139) ?_
       refine G.skip ?_
       refine G.seq ?_
       refine G.region ?_
       refine GO.buildS (el := 2) ([]) HS rfl rfl (fun _ => by kernel_rfl) rfl ?_; intro b140 wd141 HS
       replace HS := HS.boxRow (T := (TInt .i64)) (j := 0) rfl flat_flat (fun _ => ()) ([] : List Int) rfl (bndL rfl)
       refine GO.lenC (t := 24) (m := ([] : List Int).length) (c' := ([] : List Int).length) rfl rfl rfl ?_
       refine GO.assign rfl rfl rfl ?_
       refine GO.nil ?_
       refine G.seq ?_
       refine G.seq ?_
       refine G.region ?_
       refine GO.move rfl rfl rfl ?_
       refine GO.assign rfl rfl rfl ?_
       refine GO.nil ?_
       refine G.block ?_
       refine G.loop ?_
       refine G.name (fun k_l4 hk_l4 => ?_)
       have at_l4 : ∀ m_l4, m_l4 ≤ n_l1 → ∀ (done_153 : List Bool) (A154 : Option Addr) (c155 : Nat) (region_156 : List Int) (at_157 : Int) (w : World), spec_l25Regions.l4 K m_l4 d_Crossings d_Circles out_72 k_75 done_153 region_156 at_157 = some r1 → St w0 w (Box b1 28 [.slice A_d_Crossings d_Crossings.length c_d_Crossings, .int .i64 d_Circles] :: Own (Ty.slice 2 (TInt .i64)) 43 A70 c71 y73 out_72 :: Own TBool 4 (some ⟨b7, 0, none⟩) ((w64 (4 * (d_Crossings.length : Int))).toNat) (fun _ => ()) done_153 :: Own (TInt .i64) 2 A154 c155 (fun _ => ()) region_156 :: L) → G Try.prog 68 46 [(1, .pointer (some ⟨b1, 0, none⟩)), (3, .slice A70 out_72.length c71), (4, .slice (some ⟨b7, 0, none⟩) done_153.length ((w64 (4 * (d_Crossings.length : Int))).toNat)), (5, .int .i64 k_75), (6, .slice A154 region_156.length c155), (7, .int .i64 at_157)] k_l4 w (spec_l25Regions.post w0 L d_Crossings d_Circles A_d_Crossings c_d_Crossings r1) := by
        intro m_l4
        induction m_l4 using Nat.strongRecOn with
        | _ m_l4 ih_l4 =>
         intro hm_l4 done_153 A154 c155 region_156 at_157 w H HS
         cases m_l4 with
         | zero => rw [spec_l25Regions.l4] at H; cases H
         | succ n_l4 =>
          rw [spec_l25Regions.l4] at H
          subst hk_l4
          refine G.seq ?_
          refine G.seq ?_
          obtain ⟨c178, H⟩ := ite_none H
          refine G.region ?_
          refine GO.move rfl rfl rfl ?_
          refine GO.move rfl rfl rfl ?_
          refine GO.ix rfl rfl rfl Try.underlying83 sz4 (fun _ => ⟨_, _, rfl⟩) c178.1 c178.2 rfl ?_
          refine GO.ldRd (T := TBool) (n := at_157.toNat) (o := 0) HS (RdIn.own (j := 2) rfl) rfl rfl (getD_some (d := false) (ltN c178)) rfl rfl na4 rfl ?_
          refine GO.not rfl rfl rfl ?_
          refine GO.nil ?_
          rcases ite_elim H with ⟨c179, H⟩ | ⟨c179, H⟩
          ·
           refine G.noB rfl (congrArg Bool.not c179) ?_
           refine G.exit rfl ?_
           obtain ⟨c185, H⟩ := ite_none H
           refine G.region ?_
           refine GO.move rfl rfl rfl ?_
           refine GO.move rfl rfl rfl ?_
           refine GO.buildS (el := 43) ([.slice A154 region_156.length c155]) HS rfl rfl (fun _ => by kernel_rfl) rfl ?_; intro b180 wd181 HS
           replace HS := HS.pk 5 [2, 0, 4, 1, 3] rfl
           refine GO.appR (S := (TInt .i64)) (u := 2) HS rfl rfl rfl Try.underlying42 inf43 rfl rfl c185 rfl ?_; intro A183 c184 y186 wd182 HS
           refine GO.assign rfl rfl rfl ?_
           refine GO.nil ?_
           refine G.blockEnd ?_
           refine G.region ?_
           refine GO.move rfl rfl rfl ?_
           refine GO.add rfl rfl rfl rfl ?_
           refine GO.assign rfl rfl rfl ?_
           refine GO.nil ?_
           refine G.again ?_
           refine G.weak ?_ (ih_l1 n_l4 (Nat.lt_succ_of_le (Nat.le_of_succ_le hm_l4)) (Nat.le_trans (Nat.le_of_succ_le hm_l4) (Nat.le_of_succ_le hm_l1)) _ _ _ _ _ _ _ H (HS.pk 4 [2, 0, 3] rfl))
           exact ⟨rfl, rfl, rfl, rfl, trivial⟩
          ·
           refine G.yesB rfl (congrArg Bool.not (bnot_of c179)) ?_
           refine G.skip ?_
           refine G.seq ?_
           refine G.block ?_
           refine G.seq ?_
           refine G.region ?_
           refine GO.move rfl rfl rfl ?_
           refine GO.move rfl rfl rfl ?_
           refine GO.ix rfl rfl rfl Try.underlying83 sz4 (fun _ => ⟨_, _, rfl⟩) c178.1 c178.2 rfl ?_
           refine GO.stRow (T := TBool) (j := 2) (n := at_157.toNat) (o := 0) (vs := [.bool true]) true HS rfl flat_flat rfl rfl rfl rfl (htN na4 rfl) rfl (getD_some (d := false) (ltN c178)) rfl rfl ?_; intro wd187 HS
           refine GO.nil ?_
           refine G.len (t := 4) (m := (done_153.set at_157.toNat true).length) rfl (by simp only [List.length_set] <;> rfl) ?_
           obtain ⟨c193, H⟩ := ite_none H
           refine G.region ?_
           refine GO.move rfl rfl rfl ?_
           refine GO.move rfl rfl rfl ?_
           refine GO.buildS (el := 2) ([.int .i64 at_157]) HS rfl rfl (fun _ => by kernel_rfl) rfl ?_; intro b188 wd189 HS
           refine GO.app1 (T := (TInt .i64)) (j := 4) (jb := 0) at_157 HS rfl rfl flat_flat rfl rfl rfl Try.underlying43 inf2 rfl rfl rfl c193 rfl ?_; intro A191 c192 wd190 HS
           refine GO.assign rfl rfl rfl ?_
           refine GO.nil ?_
           refine G.blockEnd ?_
           obtain ⟨t194, h195, H⟩ := Option.bind_eq_some_iff.1 H
           refine G.region ?_
           refine GO.ldBoxA (j := 1) ([.slice A_d_Crossings d_Crossings.length c_d_Crossings, .int .i64 d_Circles]) HS rfl rfl rfl rfl ag28 rfl ?_
           refine GO.move rfl rfl rfl ?_
           refine GO.fn rfl Try.func119 fok119.1 fok119.2 rfl rfl (spec_l25Successor.calls HS (RdIn.drop 5 h_d_Crossings) h195) (fun _ wd196 ⟨h197, HS⟩ => ⟨_, h197, ?_⟩)
           refine GO.assign rfl rfl rfl ?_
           refine GO.nil ?_
           refine G.again ?_
           refine G.weak ?_ (ih_l4 n_l4 (Nat.lt_succ_of_le (Nat.le_refl _)) (Nat.le_of_succ_le hm_l4) _ _ _ _ _ _ H (HS.pk 5 [1, 2, 3, 4] rfl))
           exact ⟨rfl, rfl, rfl, rfl, rfl, rfl, trivial⟩
       refine G.weak ?_ (at_l4 n_l1 (Nat.le_refl _) _ _ _ _ _ _ H (HS.pk 4 [1, 2, 3, 0] rfl))
       exact ⟨rfl, rfl, rfl, rfl, rfl, rfl, trivial⟩
     ·
      refine G.noB rfl (decide_eq_false c137) ?_
      refine G.exit rfl ?_
      refine G.seq ?_
      refine G.region ?_
      refine GO.move rfl rfl rfl ?_
      refine GO.assign rfl rfl rfl ?_
      refine GO.nil ?_
      obtain rfl := Option.some.inj H
      exact G.ret1 _ Try.func68 rfl rfl ⟨_, _, _, rfl, (HS.pk 3 [1] rfl)⟩
  refine G.weak ?_ (at_l1 K (Nat.le_refl _) _ _ _ _ _ _ _ H (HS.pk 3 [2, 1, 0] rfl))
  exact ⟨rfl, rfl, rfl, rfl, trivial⟩

set_option maxRecDepth 20000 in
set_option maxHeartbeats 40000000 in
theorem spec_l25Parts.calls {w0 w : World} {L : List HObj} {K : Nat} {d_Crossings : List GCrossing} {d_Circles : Int} {A_d_Crossings : Option Addr} {c_d_Crossings : Nat} {r1 : List Int} (HS : St w0 w (L)) (h_d_Crossings : RdIn w0 L T_GCrossing A_d_Crossings c_d_Crossings (fun _ => ()) d_Crossings) (H : spec_l25Parts.f K d_Crossings d_Circles = some r1) :
    Calls Try.prog 136 #[.agg [.slice A_d_Crossings d_Crossings.length c_d_Crossings, .int .i64 d_Circles].toArray] w (spec_l25Parts.post w0 L d_Crossings d_Circles A_d_Crossings c_d_Crossings r1) := by
  unfold spec_l25Parts.f at H
  refine Calls.of_G Try.func136 rfl rfl rfl ?_
  refine G.seq ?_
  refine G.region ?_
  refine GO.box (cs := [.slice A_d_Crossings d_Crossings.length c_d_Crossings, .int .i64 d_Circles]) HS rfl rfl rfl rfl ?_; intro b1 wd2 HS
  refine GO.assign rfl rfl rfl ?_
  refine GO.nil ?_
  refine G.seq ?_
  refine G.region ?_
  refine GO.buildS (el := 2) ([]) HS rfl rfl (fun _ => by kernel_rfl) rfl ?_; intro b3 wd4 HS
  replace HS := HS.boxRow (T := (TInt .i64)) (j := 0) rfl flat_flat (fun _ => ()) ([] : List Int) rfl (bndL rfl)
  refine GO.lenC (t := 13) (m := ([] : List Int).length) (c' := ([] : List Int).length) rfl rfl rfl ?_
  refine GO.assign rfl rfl rfl ?_
  refine GO.nil ?_
  refine G.seq ?_
  refine G.seq ?_
  refine G.region ?_
  refine GO.assign rfl rfl rfl ?_
  refine GO.nil ?_
  refine G.block ?_
  refine G.loop ?_
  refine G.name (fun k_l1 hk_l1 => ?_)
  have at_l1 : ∀ m_l1, m_l1 ≤ K → ∀ (A95 : Option Addr) (c96 : Nat) (out_97 : List Int) (c_98 : Int) (w : World), spec_l25Parts.l1 K m_l1 d_Crossings d_Circles out_97 c_98 = some r1 → St w0 w (Box b1 28 [.slice A_d_Crossings d_Crossings.length c_d_Crossings, .int .i64 d_Circles] :: Own (TInt .i64) 2 A95 c96 (fun _ => ()) out_97 :: L) → G Try.prog 136 74 [(1, .pointer (some ⟨b1, 0, none⟩)), (3, .slice A95 out_97.length c96), (4, .int .i64 c_98)] k_l1 w (spec_l25Parts.post w0 L d_Crossings d_Circles A_d_Crossings c_d_Crossings r1) := by
   intro m_l1
   induction m_l1 using Nat.strongRecOn with
   | _ m_l1 ih_l1 =>
    intro hm_l1 A95 c96 out_97 c_98 w H HS
    cases m_l1 with
    | zero => rw [spec_l25Parts.l1] at H; cases H
    | succ n_l1 =>
     rw [spec_l25Parts.l1] at H
     subst hk_l1
     refine G.seq ?_
     refine G.seq ?_
     refine G.region ?_
     refine GO.move rfl rfl rfl ?_
     refine GO.fld (⟨b1, 0, none⟩) rfl rfl fl28_0 rfl rfl ?_
     refine GO.ldBox (j := 0) HS rfl rfl rfl rfl na26 rfl ?_
     refine GO.lenS rfl rfl Try.underlying26 rfl ?_
     refine GO.lss rfl rfl rfl rfl ?_
     refine GO.nil ?_
     rcases ite_elim H with ⟨c189, H⟩ | ⟨c189, H⟩
     ·
      refine G.yesB rfl (decide_eq_true c189) ?_
      refine G.skip ?_
      refine G.seq ?_
      refine G.block ?_
      obtain ⟨c195, H⟩ := ite_none H
      refine G.region ?_
      refine GO.move rfl rfl rfl ?_
      refine GO.move rfl rfl rfl ?_
      refine GO.buildS (el := 2) ([.int .i64 c_98]) HS rfl rfl (fun _ => by kernel_rfl) rfl ?_; intro b190 wd191 HS
      refine GO.app1 (T := (TInt .i64)) (j := 2) (jb := 0) c_98 HS rfl rfl flat_flat rfl rfl rfl Try.underlying43 inf2 rfl rfl rfl c195 rfl ?_; intro A193 c194 wd192 HS
      refine GO.assign rfl rfl rfl ?_
      refine GO.nil ?_
      refine G.blockEnd ?_
      refine G.region ?_
      refine GO.move rfl rfl rfl ?_
      refine GO.add rfl rfl rfl rfl ?_
      refine GO.assign rfl rfl rfl ?_
      refine GO.nil ?_
      refine G.again ?_
      refine G.weak ?_ (ih_l1 n_l1 (Nat.lt_succ_of_le (Nat.le_refl _)) (Nat.le_of_succ_le hm_l1) _ _ _ _ _ H (HS.pk 3 [1, 2] rfl))
      exact ⟨rfl, rfl, rfl, trivial⟩
     ·
      refine G.noB rfl (decide_eq_false c189) ?_
      refine G.exit rfl ?_
      refine G.seq ?_
      refine G.seq ?_
      refine G.region ?_
      refine GO.assign rfl rfl rfl ?_
      refine GO.nil ?_
      refine G.block ?_
      refine G.loop ?_
      refine G.name (fun k_l10 hk_l10 => ?_)
      have at_l10 : ∀ m_l10, m_l10 ≤ n_l1 → ∀ (out_223 : List Int) (a_224 : Int) (w : World), spec_l25Parts.l10 K m_l10 d_Crossings d_Circles out_223 a_224 = some r1 → St w0 w (Box b1 28 [.slice A_d_Crossings d_Crossings.length c_d_Crossings, .int .i64 d_Circles] :: Own (TInt .i64) 2 A95 c96 (fun _ => ()) out_223 :: L) → G Try.prog 136 74 [(1, .pointer (some ⟨b1, 0, none⟩)), (3, .slice A95 out_223.length c96), (5, .int .i64 a_224)] k_l10 w (spec_l25Parts.post w0 L d_Crossings d_Circles A_d_Crossings c_d_Crossings r1) := by
       intro m_l10
       induction m_l10 using Nat.strongRecOn with
       | _ m_l10 ih_l10 =>
        intro hm_l10 out_223 a_224 w H HS
        cases m_l10 with
        | zero => rw [spec_l25Parts.l10] at H; cases H
        | succ n_l10 =>
         rw [spec_l25Parts.l10] at H
         subst hk_l10
         refine G.seq ?_
         refine G.seq ?_
         refine G.region ?_
         refine GO.move rfl rfl rfl ?_
         refine GO.fld (⟨b1, 0, none⟩) rfl rfl fl28_0 rfl rfl ?_
         refine GO.ldBox (j := 0) HS rfl rfl rfl rfl na26 rfl ?_
         refine GO.lenS rfl rfl Try.underlying26 rfl ?_
         refine GO.mul rfl rfl rfl rfl ?_
         refine GO.lss rfl rfl rfl rfl ?_
         refine GO.nil ?_
         rcases ite_elim H with ⟨c252, H⟩ | ⟨c252, H⟩
         ·
          refine G.yesB rfl (decide_eq_true c252) ?_
          refine G.skip ?_
          refine G.seq ?_
          refine G.block ?_
          refine G.seq ?_
          obtain ⟨t253, t254, h255, H⟩ := bind2_elim H
          refine G.region ?_
          refine GO.ldBoxA (j := 0) ([.slice A_d_Crossings d_Crossings.length c_d_Crossings, .int .i64 d_Circles]) HS rfl rfl rfl rfl ag28 rfl ?_
          refine GO.move rfl rfl rfl ?_
          refine GO.fn rfl Try.func42 fok42.1 fok42.2 rfl rfl (spec_l25Place.calls HS (RdIn.drop 2 h_d_Crossings) h255) (fun _ wd256 ⟨h257, HS⟩ => ⟨_, h257, ?_⟩)
          refine GO.move rfl rfl rfl ?_
          refine GO.extract rfl rfl rfl rfl ?_
          refine GO.extract rfl rfl rfl rfl ?_
          refine GO.assign rfl rfl rfl ?_
          refine GO.assign rfl rfl rfl ?_
          refine GO.nil ?_
          refine G.seq ?_
          obtain ⟨t258, t259, h260, H⟩ := bind2_elim H
          refine G.region ?_
          refine GO.ldBoxA (j := 0) ([.slice A_d_Crossings d_Crossings.length c_d_Crossings, .int .i64 d_Circles]) HS rfl rfl rfl rfl ag28 rfl ?_
          refine GO.move rfl rfl rfl ?_
          refine GO.fn rfl Try.func42 fok42.1 fok42.2 rfl rfl (spec_l25Place.calls HS (RdIn.drop 2 h_d_Crossings) h260) (fun _ wd261 ⟨h262, HS⟩ => ⟨_, h262, ?_⟩)
          refine GO.move rfl rfl rfl ?_
          refine GO.extract rfl rfl rfl rfl ?_
          refine GO.extract rfl rfl rfl rfl ?_
          refine GO.assign rfl rfl rfl ?_
          refine GO.assign rfl rfl rfl ?_
          refine GO.nil ?_
          refine G.seq ?_
          obtain ⟨c263, H⟩ := ite_none H
          obtain ⟨c264, H⟩ := ite_none H
          refine G.regionAny mixed (by decide) (fun b a w => ∃ (Y1_0 : Value) (Y2_1 : Value) (Y3_2 : Value) (Y4_3 : Value) (Y5_4 : Value) (Y6_5 : Value) (Y7_6 : Value) (Y8_7 : Value) (Y9_8 : Value) (Y10_9 : Value), Sat 74 [(10, Y9_8), (11, Y10_9), (45, Y1_0), (46, Y2_1), (47, Y3_2), (48, Y4_3), (49, Y5_4), (50, Y6_5), (51, Y7_6), (52, Y8_7), (1, .pointer (some ⟨b1, 0, none⟩)), (3, .slice A95 out_223.length c96), (5, .int .i64 a_224), (6, .int .i64 t253), (8, .int .i64 t258)] a ∧ St w0 w (Box b1 28 [.slice A_d_Crossings d_Crossings.length c_d_Crossings, .int .i64 d_Circles] :: Own (TInt .i64) 2 A95 c96 (fun _ => ()) out_223 :: L) ∧ (b 8 = true → Y9_8 = (.int .i64 (out_223.getD t253.toNat 0))) ∧ (b 9 = true → Y10_9 = (.int .i64 (out_223.getD t258.toNat 0))) ∧ (b 0 = true → Y1_0 = (.slice A95 out_223.length c96)) ∧ (b 1 = true → Y2_1 = (.int .i64 t253)) ∧ (b 2 = true → Y3_2 = (.pointer (some (ea A95 (t253.toNat * 1))))) ∧ (b 3 = true → Y4_3 = (.int .i64 (out_223.getD t253.toNat 0))) ∧ (b 4 = true → Y5_4 = (.slice A95 out_223.length c96)) ∧ (b 5 = true → Y6_5 = (.int .i64 t258)) ∧ (b 6 = true → Y7_6 = (.pointer (some (ea A95 (t258.toNat * 1))))) ∧ (b 7 = true → Y8_7 = (.int .i64 (out_223.getD t258.toNat 0)))) ?_ ?_ ?_
          ·
           intro a hs
           obtain ⟨Y9_8, hs⟩ := hs.ext (d := 10) rfl
           obtain ⟨Y10_9, hs⟩ := hs.ext (d := 11) rfl
           obtain ⟨Y1_0, hs⟩ := hs.ext (d := 45) rfl
           obtain ⟨Y2_1, hs⟩ := hs.ext (d := 46) rfl
           obtain ⟨Y3_2, hs⟩ := hs.ext (d := 47) rfl
           obtain ⟨Y4_3, hs⟩ := hs.ext (d := 48) rfl
           obtain ⟨Y5_4, hs⟩ := hs.ext (d := 49) rfl
           obtain ⟨Y6_5, hs⟩ := hs.ext (d := 50) rfl
           obtain ⟨Y7_6, hs⟩ := hs.ext (d := 51) rfl
           obtain ⟨Y8_7, hs⟩ := hs.ext (d := 52) rfl
           exact ⟨Y1_0, Y2_1, Y3_2, Y4_3, Y5_4, Y6_5, Y7_6, Y8_7, Y9_8, Y10_9, hs.weak ⟨rfl, rfl, rfl, rfl, rfl, rfl, rfl, rfl, rfl, rfl, rfl, rfl, rfl, rfl, rfl, trivial⟩, (HS.drew.pk 2 [0, 1] rfl), fun h => Bool.noConfusion h, fun h => Bool.noConfusion h, fun h => Bool.noConfusion h, fun h => Bool.noConfusion h, fun h => Bool.noConfusion h, fun h => Bool.noConfusion h, fun h => Bool.noConfusion h, fun h => Bool.noConfusion h, fun h => Bool.noConfusion h, fun h => Bool.noConfusion h⟩
          ·
           intro j hj b a w
           refine exI fun Y1_0 => exI fun Y2_1 => exI fun Y3_2 => exI fun Y4_3 => exI fun Y5_4 => exI fun Y6_5 => exI fun Y7_6 => exI fun Y8_7 => exI fun Y9_8 => exI fun Y10_9 => anI fun hs => anI fun HS => anI fun f8 => anI fun f9 => anI fun f0 => anI fun f1 => anI fun f2 => anI fun f3 => anI fun f4 => anI fun f5 => anI fun f6 => fun f7 hb hd hcl => ?_
           match j, hj with
           | 0, _ =>
            refine GO.at hs ?_
            refine GO.move rfl rfl rfl ?_
            refine GO.fin (fun a hs => ?_)
            exact ⟨(.slice A95 out_223.length c96), _, _, _, _, _, _, _, _, _, by exact hs.setAt 2 rfl, HS, f8, f9, fun _ => rfl, f1, f2, f3, f4, f5, f6, f7⟩
           | 1, _ =>
            refine GO.at hs ?_
            refine GO.move rfl rfl rfl ?_
            refine GO.fin (fun a hs => ?_)
            exact ⟨_, (.int .i64 t253), _, _, _, _, _, _, _, _, by exact hs.setAt 3 rfl, HS, f8, f9, f0, fun _ => rfl, f2, f3, f4, f5, f6, f7⟩
           | 2, _ =>
            have hb0 : b 0 = true := hd 0 (by decide)
            obtain rfl := f0 hb0
            have hb1 : b 1 = true := hd 1 (by decide)
            obtain rfl := f1 hb1
            refine GO.at hs ?_
            refine GO.ix rfl rfl rfl Try.underlying43 sz2 ((RdIn.own (j := 1) rfl) _ HS).2.2.1 c263.1 c263.2 rfl ?_
            refine GO.fin (fun a hs => ?_)
            exact ⟨_, _, (.pointer (some (ea A95 (t253.toNat * 1)))), _, _, _, _, _, _, _, by exact hs.setAt 4 rfl, HS, f8, f9, f0, f1, fun _ => rfl, f3, f4, f5, f6, f7⟩
           | 3, _ =>
            have hb2 : b 2 = true := hd 2 (by decide)
            obtain rfl := f2 hb2
            refine GO.at hs ?_
            refine GO.ldRd (T := (TInt .i64)) (n := t253.toNat) (o := 0) HS (RdIn.own (j := 1) rfl) rfl rfl (getD_some (d := 0) (ltN c263)) rfl rfl na2 rfl ?_
            refine GO.fin (fun a hs => ?_)
            exact ⟨_, _, _, (.int .i64 (out_223.getD t253.toNat 0)), _, _, _, _, _, _, by exact hs.setAt 5 rfl, HS, f8, f9, f0, f1, f2, fun _ => rfl, f4, f5, f6, f7⟩
           | 4, _ =>
            refine GO.at hs ?_
            refine GO.move rfl rfl rfl ?_
            refine GO.fin (fun a hs => ?_)
            exact ⟨_, _, _, _, (.slice A95 out_223.length c96), _, _, _, _, _, by exact hs.setAt 6 rfl, HS, f8, f9, f0, f1, f2, f3, fun _ => rfl, f5, f6, f7⟩
           | 5, _ =>
            refine GO.at hs ?_
            refine GO.move rfl rfl rfl ?_
            refine GO.fin (fun a hs => ?_)
            exact ⟨_, _, _, _, _, (.int .i64 t258), _, _, _, _, by exact hs.setAt 7 rfl, HS, f8, f9, f0, f1, f2, f3, f4, fun _ => rfl, f6, f7⟩
           | 6, _ =>
            have hb4 : b 4 = true := hd 4 (by decide)
            obtain rfl := f4 hb4
            have hb5 : b 5 = true := hd 5 (by decide)
            obtain rfl := f5 hb5
            refine GO.at hs ?_
            refine GO.ix rfl rfl rfl Try.underlying43 sz2 ((RdIn.own (j := 1) rfl) _ HS).2.2.1 c264.1 c264.2 rfl ?_
            refine GO.fin (fun a hs => ?_)
            exact ⟨_, _, _, _, _, _, (.pointer (some (ea A95 (t258.toNat * 1)))), _, _, _, by exact hs.setAt 8 rfl, HS, f8, f9, f0, f1, f2, f3, f4, f5, fun _ => rfl, f7⟩
           | 7, _ =>
            have hb6 : b 6 = true := hd 6 (by decide)
            obtain rfl := f6 hb6
            refine GO.at hs ?_
            refine GO.ldRd (T := (TInt .i64)) (n := t258.toNat) (o := 0) HS (RdIn.own (j := 1) rfl) rfl rfl (getD_some (d := 0) (ltN c264)) rfl rfl na2 rfl ?_
            refine GO.fin (fun a hs => ?_)
            exact ⟨_, _, _, _, _, _, _, (.int .i64 (out_223.getD t258.toNat 0)), _, _, by exact hs.setAt 9 rfl, HS, f8, f9, f0, f1, f2, f3, f4, f5, f6, fun _ => rfl⟩
           | 8, _ =>
            have hb3 : b 3 = true := hd 3 (by decide)
            obtain rfl := f3 hb3
            refine GO.at hs ?_
            refine GO.assign rfl rfl rfl ?_
            refine GO.fin (fun a hs => ?_)
            exact ⟨_, _, _, _, _, _, _, _, (.int .i64 (out_223.getD t253.toNat 0)), _, by exact hs.setAt 0 rfl, HS, fun _ => rfl, f9, f0, f1, f2, f3, f4, f5, f6, f7⟩
           | 9, _ =>
            have hb7 : b 7 = true := hd 7 (by decide)
            obtain rfl := f7 hb7
            refine GO.at hs ?_
            refine GO.assign rfl rfl rfl ?_
            refine GO.fin (fun a hs => ?_)
            exact ⟨_, _, _, _, _, _, _, _, _, (.int .i64 (out_223.getD t258.toNat 0)), by exact hs.setAt 1 rfl, HS, f8, fun _ => rfl, f0, f1, f2, f3, f4, f5, f6, f7⟩
           | k + 10, hj => exact absurd hj (Nat.not_lt.2 (Nat.le_add_left 10 k))
          ·
           intro b a w hall
           refine exI fun Y1_0 => exI fun Y2_1 => exI fun Y3_2 => exI fun Y4_3 => exI fun Y5_4 => exI fun Y6_5 => exI fun Y7_6 => exI fun Y8_7 => exI fun Y9_8 => exI fun Y10_9 => anI fun hs => anI fun HS => anI fun f8 => anI fun f9 => anI fun f0 => anI fun f1 => anI fun f2 => anI fun f3 => anI fun f4 => anI fun f5 => anI fun f6 => fun f7 => ?_
           obtain rfl := f8 (hall 8 (by decide))
           obtain rfl := f9 (hall 9 (by decide))
           obtain rfl := f0 (hall 0 (by decide))
           obtain rfl := f1 (hall 1 (by decide))
           obtain rfl := f2 (hall 2 (by decide))
           obtain rfl := f3 (hall 3 (by decide))
           obtain rfl := f4 (hall 4 (by decide))
           obtain rfl := f5 (hall 5 (by decide))
           obtain rfl := f6 (hall 6 (by decide))
           obtain rfl := f7 (hall 7 (by decide))
           refine G.at hs ?_
           refine G.seq ?_
           refine G.region ?_
           refine GO.assign rfl rfl rfl ?_
           refine GO.nil ?_
           refine G.block ?_
           refine G.loop ?_
           refine G.name (fun k_l13 hk_l13 => ?_)
           have at_l13 : ∀ m_l13, m_l13 ≤ n_l10 → ∀ (out_269 : List Int) (k_270 : Int) (w : World), spec_l25Parts.l13 K m_l13 d_Crossings d_Circles out_223 a_224 t253 t258 out_269 k_270 = some r1 → St w0 w (Box b1 28 [.slice A_d_Crossings d_Crossings.length c_d_Crossings, .int .i64 d_Circles] :: Own (TInt .i64) 2 A95 c96 (fun _ => ()) out_269 :: L) → G Try.prog 136 74 [(1, .pointer (some ⟨b1, 0, none⟩)), (3, .slice A95 out_269.length c96), (5, .int .i64 a_224), (10, .int .i64 (out_223.getD t253.toNat 0)), (11, .int .i64 (out_223.getD t258.toNat 0)), (12, .int .i64 k_270)] k_l13 w (spec_l25Parts.post w0 L d_Crossings d_Circles A_d_Crossings c_d_Crossings r1) := by
            intro m_l13
            induction m_l13 using Nat.strongRecOn with
            | _ m_l13 ih_l13 =>
             intro hm_l13 out_269 k_270 w H HS
             cases m_l13 with
             | zero => rw [spec_l25Parts.l13] at H; cases H
             | succ n_l13 =>
              rw [spec_l25Parts.l13] at H
              subst hk_l13
              refine G.seq ?_
              refine G.seq ?_
              refine G.region ?_
              refine GO.move rfl rfl rfl ?_
              refine GO.move rfl rfl rfl ?_
              refine GO.lenS rfl rfl Try.underlying43 rfl ?_
              refine GO.lss rfl rfl rfl rfl ?_
              refine GO.nil ?_
              rcases ite_elim H with ⟨c275, H⟩ | ⟨c275, H⟩
              ·
               refine G.yesB rfl (decide_eq_true c275) ?_
               refine G.skip ?_
               refine G.seq ?_
               refine G.block ?_
               refine G.seq ?_
               obtain ⟨c276, H⟩ := ite_none H
               refine G.region ?_
               refine GO.move rfl rfl rfl ?_
               refine GO.move rfl rfl rfl ?_
               refine GO.ix rfl rfl rfl Try.underlying43 sz2 ((RdIn.own (j := 1) rfl) _ HS).2.2.1 c276.1 c276.2 rfl ?_
               refine GO.ldRd (T := (TInt .i64)) (n := k_270.toNat) (o := 0) HS (RdIn.own (j := 1) rfl) rfl rfl (getD_some (d := 0) (ltN c276)) rfl rfl na2 rfl ?_
               refine GO.move rfl rfl rfl ?_
               refine GO.move rfl rfl rfl ?_
               refine GO.max2 rfl rfl rfl rfl ?_
               refine GO.eql rfl rfl rfl rfl ?_
               refine GO.nil ?_
               rcases ite_elim H with ⟨c277, H⟩ | ⟨c277, H⟩
               ·
                refine G.yesB rfl (decide_eq_true c277) ?_
                refine G.region ?_
                refine GO.move rfl rfl rfl ?_
                refine GO.move rfl rfl rfl ?_
                refine GO.move rfl rfl rfl ?_
                refine GO.move rfl rfl rfl ?_
                refine GO.min2 rfl rfl rfl rfl ?_
                refine GO.ix rfl rfl rfl Try.underlying43 sz2 ((RdIn.own (j := 1) rfl) _ HS).2.2.1 c276.1 c276.2 rfl ?_
                refine GO.stRow (T := (TInt .i64)) (j := 1) (n := k_270.toNat) (o := 0) (vs := [.int .i64 (if out_223.getD t258.toNat 0 < out_223.getD t253.toNat 0 then out_223.getD t258.toNat 0 else out_223.getD t253.toNat 0)]) (if out_223.getD t258.toNat 0 < out_223.getD t253.toNat 0 then out_223.getD t258.toNat 0 else out_223.getD t253.toNat 0) HS rfl flat_flat rfl rfl rfl rfl (htN na2 rfl) rfl (getD_some (d := 0) (ltN c276)) rfl rfl ?_; intro wd278 HS
                refine GO.nil ?_
                refine G.len (t := 3) (m := (out_269.set k_270.toNat (if out_223.getD t258.toNat 0 < out_223.getD t253.toNat 0 then out_223.getD t258.toNat 0 else out_223.getD t253.toNat 0)).length) rfl (by simp only [List.length_set] <;> rfl) ?_
                refine G.blockEnd ?_
                refine G.region ?_
                refine GO.move rfl rfl rfl ?_
                refine GO.add rfl rfl rfl rfl ?_
                refine GO.assign rfl rfl rfl ?_
                refine GO.nil ?_
                refine G.again ?_
                refine G.weak ?_ (ih_l13 n_l13 (Nat.lt_succ_of_le (Nat.le_refl _)) (Nat.le_of_succ_le hm_l13) _ _ _ H HS)
                exact ⟨rfl, rfl, rfl, rfl, rfl, rfl, trivial⟩
               ·
                refine G.noB rfl (decide_eq_false c277) ?_
                refine G.skip ?_
                refine G.blockEnd ?_
                refine G.region ?_
                refine GO.move rfl rfl rfl ?_
                refine GO.add rfl rfl rfl rfl ?_
                refine GO.assign rfl rfl rfl ?_
                refine GO.nil ?_
                refine G.again ?_
                refine G.weak ?_ (ih_l13 n_l13 (Nat.lt_succ_of_le (Nat.le_refl _)) (Nat.le_of_succ_le hm_l13) _ _ _ H HS)
                exact ⟨rfl, rfl, rfl, rfl, rfl, rfl, trivial⟩
              ·
               refine G.noB rfl (decide_eq_false c275) ?_
               refine G.exit rfl ?_
               refine G.blockEnd ?_
               refine G.region ?_
               refine GO.move rfl rfl rfl ?_
               refine GO.add rfl rfl rfl rfl ?_
               refine GO.assign rfl rfl rfl ?_
               refine GO.nil ?_
               refine G.again ?_
               refine G.weak ?_ (ih_l10 n_l13 (Nat.lt_succ_of_le (Nat.le_of_succ_le hm_l13)) (Nat.le_trans (Nat.le_of_succ_le hm_l13) (Nat.le_of_succ_le hm_l10)) _ _ _ H HS)
               exact ⟨rfl, rfl, rfl, trivial⟩
           refine G.weak ?_ (at_l13 n_l10 (Nat.le_refl _) _ _ _ H HS)
           exact ⟨rfl, rfl, rfl, rfl, rfl, rfl, trivial⟩
         ·
          refine G.noB rfl (decide_eq_false c252) ?_
          refine G.exit rfl ?_
          refine G.seq ?_
          refine G.region ?_
          refine GO.move rfl rfl rfl ?_
          refine GO.assign rfl rfl rfl ?_
          refine GO.nil ?_
          obtain rfl := Option.some.inj H
          exact G.ret1 _ Try.func136 rfl rfl ⟨_, _, rfl, (HS.pk 2 [1] rfl)⟩
      refine G.weak ?_ (at_l10 n_l1 (Nat.le_refl _) _ _ _ H HS)
      exact ⟨rfl, rfl, rfl, trivial⟩
  refine G.weak ?_ (at_l1 K (Nat.le_refl _) _ _ _ _ _ H (HS.pk 2 [1, 0] rfl))
  exact ⟨rfl, rfl, rfl, trivial⟩

set_option maxRecDepth 20000 in
set_option maxHeartbeats 40000000 in
theorem spec_l25PartCount.calls {w0 w : World} {L : List HObj} {K : Nat} {d_Crossings : List GCrossing} {d_Circles : Int} {A_d_Crossings : Option Addr} {c_d_Crossings : Nat} {r1 : Int} (HS : St w0 w (L)) (h_d_Crossings : RdIn w0 L T_GCrossing A_d_Crossings c_d_Crossings (fun _ => ()) d_Crossings) (H : spec_l25PartCount.f K d_Crossings d_Circles = some r1) :
    Calls Try.prog 104 #[.agg [.slice A_d_Crossings d_Crossings.length c_d_Crossings, .int .i64 d_Circles].toArray] w (spec_l25PartCount.post w0 L d_Crossings d_Circles A_d_Crossings c_d_Crossings r1) := by
  unfold spec_l25PartCount.f at H
  refine Calls.of_G Try.func104 rfl rfl rfl ?_
  refine G.seq ?_
  refine G.region ?_
  refine GO.box (cs := [.slice A_d_Crossings d_Crossings.length c_d_Crossings, .int .i64 d_Circles]) HS rfl rfl rfl rfl ?_; intro b1 wd2 HS
  refine GO.assign rfl rfl rfl ?_
  refine GO.nil ?_
  refine G.seq ?_
  refine G.region ?_
  refine GO.assign rfl rfl rfl ?_
  refine GO.nil ?_
  refine G.seq ?_
  obtain ⟨t3, h4, H⟩ := Option.bind_eq_some_iff.1 H
  refine G.region ?_
  refine GO.ldBoxA (j := 0) ([.slice A_d_Crossings d_Crossings.length c_d_Crossings, .int .i64 d_Circles]) HS rfl rfl rfl rfl ag28 rfl ?_
  refine GO.fn rfl Try.func136 fok136.1 fok136.2 rfl rfl (spec_l25Parts.calls HS (RdIn.drop 1 h_d_Crossings) h4) (fun _ wd7 ⟨A5, c6, h8, HS⟩ => ⟨_, h8, ?_⟩)
  refine GO.assign rfl rfl rfl ?_
  refine GO.nil ?_
  refine G.seq ?_
  refine G.seq ?_
  refine G.region ?_
  refine GO.assign rfl rfl rfl ?_
  refine GO.nil ?_
  refine G.block ?_
  refine G.loop ?_
  refine G.name (fun k_l1 hk_l1 => ?_)
  have at_l1 : ∀ m_l1, m_l1 ≤ K → ∀ (n_12 : Int) (i_13 : Int) (w : World), spec_l25PartCount.l1 K m_l1 t3 n_12 i_13 = some r1 → St w0 w (Own (TInt .i64) 2 A5 c6 (fun _ => ()) t3 :: L) → G Try.prog 104 23 [(3, .int .i64 n_12), (4, .slice A5 t3.length c6), (5, .int .i64 i_13)] k_l1 w (spec_l25PartCount.post w0 L d_Crossings d_Circles A_d_Crossings c_d_Crossings r1) := by
   intro m_l1
   induction m_l1 using Nat.strongRecOn with
   | _ m_l1 ih_l1 =>
    intro hm_l1 n_12 i_13 w H HS
    cases m_l1 with
    | zero => rw [spec_l25PartCount.l1] at H; cases H
    | succ n_l1 =>
     rw [spec_l25PartCount.l1] at H
     subst hk_l1
     refine G.seq ?_
     refine G.seq ?_
     refine G.region ?_
     refine GO.move rfl rfl rfl ?_
     refine GO.move rfl rfl rfl ?_
     refine GO.lenS rfl rfl Try.underlying43 rfl ?_
     refine GO.lss rfl rfl rfl rfl ?_
     refine GO.nil ?_
     rcases ite_elim H with ⟨c17, H⟩ | ⟨c17, H⟩
     ·
      refine G.yesB rfl (decide_eq_true c17) ?_
      refine G.skip ?_
      refine G.seq ?_
      refine G.block ?_
      refine G.seq ?_
      obtain ⟨c18, H⟩ := ite_none H
      refine G.region ?_
      refine GO.move rfl rfl rfl ?_
      refine GO.move rfl rfl rfl ?_
      refine GO.ix rfl rfl rfl Try.underlying43 sz2 ((RdIn.own (j := 0) rfl) _ HS).2.2.1 c18.1 c18.2 rfl ?_
      refine GO.ldRd (T := (TInt .i64)) (n := i_13.toNat) (o := 0) HS (RdIn.own (j := 0) rfl) rfl rfl (getD_some (d := 0) (ltN c18)) rfl rfl na2 rfl ?_
      refine GO.move rfl rfl rfl ?_
      refine GO.eql rfl rfl rfl rfl ?_
      refine GO.nil ?_
      rcases ite_elim H with ⟨c19, H⟩ | ⟨c19, H⟩
      ·
       refine G.yesB rfl (decide_eq_true c19) ?_
       refine G.region ?_
       refine GO.move rfl rfl rfl ?_
       refine GO.add rfl rfl rfl rfl ?_
       refine GO.assign rfl rfl rfl ?_
       refine GO.nil ?_
       refine G.blockEnd ?_
       refine G.region ?_
       refine GO.move rfl rfl rfl ?_
       refine GO.add rfl rfl rfl rfl ?_
       refine GO.assign rfl rfl rfl ?_
       refine GO.nil ?_
       refine G.again ?_
       refine G.weak ?_ (ih_l1 n_l1 (Nat.lt_succ_of_le (Nat.le_refl _)) (Nat.le_of_succ_le hm_l1) _ _ _ H HS)
       exact ⟨rfl, rfl, rfl, trivial⟩
      ·
       refine G.noB rfl (decide_eq_false c19) ?_
       refine G.skip ?_
       refine G.blockEnd ?_
       refine G.region ?_
       refine GO.move rfl rfl rfl ?_
       refine GO.add rfl rfl rfl rfl ?_
       refine GO.assign rfl rfl rfl ?_
       refine GO.nil ?_
       refine G.again ?_
       refine G.weak ?_ (ih_l1 n_l1 (Nat.lt_succ_of_le (Nat.le_refl _)) (Nat.le_of_succ_le hm_l1) _ _ _ H HS)
       exact ⟨rfl, rfl, rfl, trivial⟩
     ·
      refine G.noB rfl (decide_eq_false c17) ?_
      refine G.exit rfl ?_
      refine G.seq ?_
      refine G.region ?_
      refine GO.move rfl rfl rfl ?_
      refine GO.assign rfl rfl rfl ?_
      refine GO.nil ?_
      obtain rfl := Option.some.inj H
      exact G.ret1 _ Try.func104 rfl rfl ⟨rfl, (HS.pk 1 [] rfl)⟩
  refine G.weak ?_ (at_l1 K (Nat.le_refl _) _ _ _ H (HS.pk 2 [0] rfl))
  exact ⟨rfl, rfl, rfl, trivial⟩

set_option maxRecDepth 20000 in
set_option maxHeartbeats 40000000 in
theorem spec_IsDiagram.calls {w0 w : World} {L : List HObj} {K : Nat} {d_Crossings : List GCrossing} {d_Circles : Int} {A_d_Crossings : Option Addr} {c_d_Crossings : Nat} {r1 : Bool} (HS : St w0 w (L)) (h_d_Crossings : RdIn w0 L T_GCrossing A_d_Crossings c_d_Crossings (fun _ => ()) d_Crossings) (H : spec_IsDiagram.f K d_Crossings d_Circles = some r1) :
    Calls Try.prog 40 #[.agg [.slice A_d_Crossings d_Crossings.length c_d_Crossings, .int .i64 d_Circles].toArray] w (spec_IsDiagram.post w0 L d_Crossings d_Circles A_d_Crossings c_d_Crossings r1) := by
  unfold spec_IsDiagram.f at H
  refine Calls.of_G Try.func40 rfl rfl rfl ?_
  refine G.seq ?_
  refine G.region ?_
  refine GO.box (cs := [.slice A_d_Crossings d_Crossings.length c_d_Crossings, .int .i64 d_Circles]) HS rfl rfl rfl rfl ?_; intro b1 wd2 HS
  refine GO.assign rfl rfl rfl ?_
  refine GO.nil ?_
  refine G.seq ?_
  refine G.seq ?_
  rcases ite_elim H with ⟨c13, H⟩ | ⟨c13, H⟩
  ·
   refine G.region ?_
   refine GO.fld (⟨b1, 0, none⟩) rfl rfl fl28_0 rfl rfl ?_
   refine GO.ldBox (j := 0) HS rfl rfl rfl rfl na26 rfl ?_
   refine GO.lenS rfl rfl Try.underlying26 rfl ?_
   refine GO.gtr rfl rfl rfl rfl ?_
   refine GO.move rfl rfl rfl ?_
   refine GO.known (t := 7) rfl (decide_eq_true c13) ?_
   refine GO.off rfl rfl rfl rfl rfl rfl ?_
   refine GO.off rfl rfl rfl rfl rfl rfl ?_
   refine GO.off rfl rfl rfl rfl rfl rfl ?_
   refine GO.off rfl rfl rfl rfl rfl rfl ?_
   refine GO.pickT rfl rfl rfl rfl rfl ?_
   refine GO.move rfl rfl rfl ?_
   refine GO.off rfl rfl rfl rfl rfl rfl ?_
   refine GO.off rfl rfl rfl rfl rfl rfl ?_
   refine GO.off rfl rfl rfl rfl rfl rfl ?_
   refine GO.pickT rfl rfl rfl rfl rfl ?_
   refine GO.nil ?_
   refine G.yesB rfl rfl ?_
   refine G.seq ?_
   refine G.region ?_
   refine GO.assign rfl rfl rfl ?_
   refine GO.nil ?_
   obtain rfl := Option.some.inj H
   exact G.ret1 _ Try.func40 rfl rfl ⟨rfl, (HS.pk 1 [] rfl)⟩
  ·
   obtain ⟨t14, h15, H⟩ := Option.bind_eq_some_iff.1 H
   rcases ite_elim H with ⟨c18, H⟩ | ⟨c18, H⟩
   ·
    obtain ⟨t19, h20, H⟩ := Option.bind_eq_some_iff.1 H
    refine G.region ?_
    refine GO.fld (⟨b1, 0, none⟩) rfl rfl fl28_0 rfl rfl ?_
    refine GO.ldBox (j := 0) HS rfl rfl rfl rfl na26 rfl ?_
    refine GO.lenS rfl rfl Try.underlying26 rfl ?_
    refine GO.gtr rfl rfl rfl rfl ?_
    refine GO.move rfl rfl rfl ?_
    refine GO.known (t := 7) rfl (decide_eq_false c13) ?_
    refine GO.on rfl rfl rfl rfl ?_
    refine GO.fld (⟨b1, 1, none⟩) rfl rfl fl28_1 rfl rfl ?_
    refine GO.back ?_
    refine GO.on rfl rfl rfl rfl ?_
    refine GO.ldBox (j := 0) HS rfl rfl rfl rfl na2 rfl ?_
    refine GO.back ?_
    refine GO.on rfl rfl rfl rfl ?_
    refine GO.fn rfl Try.func41 fok41.1 fok41.2 rfl rfl (spec_l01In.calls HS  h15) (fun _ wd16 ⟨h17, HS⟩ => ⟨_, h17, ?_⟩)
    refine GO.back ?_
    refine GO.on rfl rfl rfl rfl ?_
    refine GO.not rfl rfl rfl ?_
    refine GO.back ?_
    refine GO.pickF rfl rfl rfl rfl rfl ?_
    refine GO.move rfl rfl rfl ?_
    refine GO.known (t := 13) rfl (congrArg Bool.not c18) ?_
    refine GO.on rfl rfl rfl rfl ?_
    refine GO.ldBoxA (j := 0) ([.slice A_d_Crossings d_Crossings.length c_d_Crossings, .int .i64 d_Circles]) HS rfl rfl rfl rfl ag28 rfl ?_
    refine GO.back ?_
    refine GO.on rfl rfl rfl rfl ?_
    refine GO.fn rfl Try.func103 fok103.1 fok103.2 rfl rfl (spec_l25Counts.calls HS (RdIn.drop 1 h_d_Crossings) h20) (fun _ wd21 ⟨h22, HS⟩ => ⟨_, h22, ?_⟩)
    refine GO.back ?_
    refine GO.on rfl rfl rfl rfl ?_
    refine GO.not rfl rfl rfl ?_
    refine GO.back ?_
    refine GO.pickF rfl rfl rfl rfl rfl ?_
    refine GO.nil ?_
    rcases ite_elim H with ⟨c23, H⟩ | ⟨c23, H⟩
    ·
     refine G.noB rfl (congrArg Bool.not c23) ?_
     refine G.skip ?_
     refine G.seq ?_
     obtain ⟨t24, h25, H⟩ := Option.bind_eq_some_iff.1 H
     obtain ⟨t31, h32, H⟩ := Option.bind_eq_some_iff.1 H
     refine G.regionAny mixed (by decide) (fun b a w => ∃ (Y1_0 : Value) (Y2_1 : Value) (Y3_2 : Value) (Y4_3 : Value) (Y5_4 : Value) (Y6_5 : Value) (Y7_6 : Value) (Y8_7 : Value) (Y9_8 : Value) (Y10_9 : Value) (Y11_10 : Value) (Y12_11 : Value) (A26 : Option Addr) (c27 : Nat) (y28 : Nat → (Ty.slice 2 (TInt .i64)).Lay) (O13_2 : HObj), Sat 29 [(2, Y12_11), (18, Y1_0), (19, Y2_1), (20, Y3_2), (21, Y4_3), (22, Y5_4), (23, Y6_5), (24, Y7_6), (25, Y8_7), (26, Y9_8), (27, Y10_9), (28, Y11_10), (1, .pointer (some ⟨b1, 0, none⟩))] a ∧ St w0 w (Box b1 28 [.slice A_d_Crossings d_Crossings.length c_d_Crossings, .int .i64 d_Circles] :: O13_2 :: L) ∧ (b 11 = true → Y12_11 = (.bool (decide ((t24.length : Int) = w64 ((d_Crossings.length : Int) + (w64 (2 * t31))))))) ∧ (b 0 = true → Y1_0 = (.agg [.slice A_d_Crossings d_Crossings.length c_d_Crossings, .int .i64 d_Circles].toArray)) ∧ (b 1 = true → Y2_1 = (.slice A26 t24.length c27)) ∧ (b 2 = true → Y3_2 = (.int .i64 (t24.length : Int))) ∧ (b 3 = true → Y4_3 = (.pointer (some ⟨b1, 0, none⟩))) ∧ (b 4 = true → Y5_4 = (.slice A_d_Crossings d_Crossings.length c_d_Crossings)) ∧ (b 5 = true → Y6_5 = (.int .i64 (d_Crossings.length : Int))) ∧ (b 6 = true → Y7_6 = (.agg [.slice A_d_Crossings d_Crossings.length c_d_Crossings, .int .i64 d_Circles].toArray)) ∧ (b 7 = true → Y8_7 = (.int .i64 t31)) ∧ (b 8 = true → Y9_8 = (.int .i64 (w64 (2 * t31)))) ∧ (b 9 = true → Y10_9 = (.int .i64 (w64 ((d_Crossings.length : Int) + (w64 (2 * t31)))))) ∧ (b 10 = true → Y11_10 = (.bool (decide ((t24.length : Int) = w64 ((d_Crossings.length : Int) + (w64 (2 * t31))))))) ∧ (b 1 = true → O13_2 = Own (Ty.slice 2 (TInt .i64)) 43 A26 c27 y28 t24)) ?_ ?_ ?_
     ·
      intro a hs
      obtain ⟨Y12_11, hs⟩ := hs.ext (d := 2) rfl
      obtain ⟨Y1_0, hs⟩ := hs.ext (d := 18) rfl
      obtain ⟨Y2_1, hs⟩ := hs.ext (d := 19) rfl
      obtain ⟨Y3_2, hs⟩ := hs.ext (d := 20) rfl
      obtain ⟨Y4_3, hs⟩ := hs.ext (d := 21) rfl
      obtain ⟨Y5_4, hs⟩ := hs.ext (d := 22) rfl
      obtain ⟨Y6_5, hs⟩ := hs.ext (d := 23) rfl
      obtain ⟨Y7_6, hs⟩ := hs.ext (d := 24) rfl
      obtain ⟨Y8_7, hs⟩ := hs.ext (d := 25) rfl
      obtain ⟨Y9_8, hs⟩ := hs.ext (d := 26) rfl
      obtain ⟨Y10_9, hs⟩ := hs.ext (d := 27) rfl
      obtain ⟨Y11_10, hs⟩ := hs.ext (d := 28) rfl
      exact ⟨Y1_0, Y2_1, Y3_2, Y4_3, Y5_4, Y6_5, Y7_6, Y8_7, Y9_8, Y10_9, Y11_10, Y12_11, none, 0, (fun _ => ⟨none, 0, fun _ => ()⟩), Emp, hs.weak ⟨rfl, rfl, rfl, rfl, rfl, rfl, rfl, rfl, rfl, rfl, rfl, rfl, rfl, trivial⟩, (HS.drew.emp.pk 2 [1, 0] rfl), fun h => Bool.noConfusion h, fun h => Bool.noConfusion h, fun h => Bool.noConfusion h, fun h => Bool.noConfusion h, fun h => Bool.noConfusion h, fun h => Bool.noConfusion h, fun h => Bool.noConfusion h, fun h => Bool.noConfusion h, fun h => Bool.noConfusion h, fun h => Bool.noConfusion h, fun h => Bool.noConfusion h, fun h => Bool.noConfusion h, fun h => Bool.noConfusion h⟩
     ·
      intro j hj b a w
      refine exI fun Y1_0 => exI fun Y2_1 => exI fun Y3_2 => exI fun Y4_3 => exI fun Y5_4 => exI fun Y6_5 => exI fun Y7_6 => exI fun Y8_7 => exI fun Y9_8 => exI fun Y10_9 => exI fun Y11_10 => exI fun Y12_11 => exI fun A26 => exI fun c27 => exI fun y28 => exI fun O13_2 => anI fun hs => anI fun HS => anI fun f11 => anI fun f0 => anI fun f1 => anI fun f2 => anI fun f3 => anI fun f4 => anI fun f5 => anI fun f6 => anI fun f7 => anI fun f8 => anI fun f9 => anI fun f10 => fun o2_0 hb hd hcl => ?_
      match j, hj with
      | 0, _ =>
       refine GO.at hs ?_
       refine GO.ldBoxA (j := 0) ([.slice A_d_Crossings d_Crossings.length c_d_Crossings, .int .i64 d_Circles]) HS rfl rfl rfl rfl ag28 rfl ?_
       refine GO.fin (fun a hs => ?_)
       exact ⟨(.agg [.slice A_d_Crossings d_Crossings.length c_d_Crossings, .int .i64 d_Circles].toArray), _, _, _, _, _, _, _, _, _, _, _, A26, c27, y28, _, by exact hs.setAt 1 rfl, HS, f11, fun _ => rfl, f1, f2, f3, f4, f5, f6, f7, f8, f9, f10, o2_0⟩
      | 1, _ =>
       have hb0 : b 0 = true := hd 0 (by decide)
       obtain rfl := f0 hb0
       refine GO.at hs ?_
       refine GO.fn rfl Try.func68 fok68.1 fok68.2 rfl rfl (spec_l25Regions.calls HS (RdIn.drop 2 h_d_Crossings) h25) (fun _ wd29 ⟨A26, c27, y28, h30, HS⟩ => ⟨_, h30, ?_⟩)
       refine GO.fin (fun a hs => ?_)
       exact ⟨_, (.slice A26 t24.length c27), _, _, _, _, _, _, _, _, _, _, A26, c27, y28, Own (Ty.slice 2 (TInt .i64)) 43 A26 c27 y28 t24, by exact hs.setAt 2 rfl, HS.pk 3 [1, 0] rfl, f11, f0, fun _ => rfl, f2, f3, f4, f5, f6, f7, f8, f9, f10, fun _ => rfl⟩
      | 2, _ =>
       have hb1 : b 1 = true := hd 1 (by decide)
       obtain rfl := f1 hb1
       refine GO.at hs ?_
       refine GO.lenS rfl rfl Try.underlying42 rfl ?_
       refine GO.fin (fun a hs => ?_)
       exact ⟨_, _, (.int .i64 (t24.length : Int)), _, _, _, _, _, _, _, _, _, A26, c27, y28, _, by exact hs.setAt 3 rfl, HS, f11, f0, f1, fun _ => rfl, f3, f4, f5, f6, f7, f8, f9, f10, o2_0⟩
      | 3, _ =>
       refine GO.at hs ?_
       refine GO.fld (⟨b1, 0, none⟩) rfl rfl fl28_0 rfl rfl ?_
       refine GO.fin (fun a hs => ?_)
       exact ⟨_, _, _, (.pointer (some ⟨b1, 0, none⟩)), _, _, _, _, _, _, _, _, A26, c27, y28, _, by exact hs.setAt 4 rfl, HS, f11, f0, f1, f2, fun _ => rfl, f4, f5, f6, f7, f8, f9, f10, o2_0⟩
      | 4, _ =>
       have hb3 : b 3 = true := hd 3 (by decide)
       obtain rfl := f3 hb3
       refine GO.at hs ?_
       refine GO.ldBox (j := 0) HS rfl rfl rfl rfl na26 rfl ?_
       refine GO.fin (fun a hs => ?_)
       exact ⟨_, _, _, _, (.slice A_d_Crossings d_Crossings.length c_d_Crossings), _, _, _, _, _, _, _, A26, c27, y28, _, by exact hs.setAt 5 rfl, HS, f11, f0, f1, f2, f3, fun _ => rfl, f5, f6, f7, f8, f9, f10, o2_0⟩
      | 5, _ =>
       have hb4 : b 4 = true := hd 4 (by decide)
       obtain rfl := f4 hb4
       refine GO.at hs ?_
       refine GO.lenS rfl rfl Try.underlying26 rfl ?_
       refine GO.fin (fun a hs => ?_)
       exact ⟨_, _, _, _, _, (.int .i64 (d_Crossings.length : Int)), _, _, _, _, _, _, A26, c27, y28, _, by exact hs.setAt 6 rfl, HS, f11, f0, f1, f2, f3, f4, fun _ => rfl, f6, f7, f8, f9, f10, o2_0⟩
      | 6, _ =>
       refine GO.at hs ?_
       refine GO.ldBoxA (j := 0) ([.slice A_d_Crossings d_Crossings.length c_d_Crossings, .int .i64 d_Circles]) HS rfl rfl rfl rfl ag28 rfl ?_
       refine GO.fin (fun a hs => ?_)
       exact ⟨_, _, _, _, _, _, (.agg [.slice A_d_Crossings d_Crossings.length c_d_Crossings, .int .i64 d_Circles].toArray), _, _, _, _, _, A26, c27, y28, _, by exact hs.setAt 7 rfl, HS, f11, f0, f1, f2, f3, f4, f5, fun _ => rfl, f7, f8, f9, f10, o2_0⟩
      | 7, _ =>
       have hb6 : b 6 = true := hd 6 (by decide)
       obtain rfl := f6 hb6
       refine GO.at hs ?_
       refine GO.fn rfl Try.func104 fok104.1 fok104.2 rfl rfl (spec_l25PartCount.calls HS (RdIn.drop 2 h_d_Crossings) h32) (fun _ wd33 ⟨h34, HS⟩ => ⟨_, h34, ?_⟩)
       refine GO.fin (fun a hs => ?_)
       exact ⟨_, _, _, _, _, _, _, (.int .i64 t31), _, _, _, _, A26, c27, y28, _, by exact hs.setAt 8 rfl, HS, f11, f0, f1, f2, f3, f4, f5, f6, fun _ => rfl, f8, f9, f10, o2_0⟩
      | 8, _ =>
       have hb7 : b 7 = true := hd 7 (by decide)
       obtain rfl := f7 hb7
       refine GO.at hs ?_
       refine GO.mul rfl rfl rfl rfl ?_
       refine GO.fin (fun a hs => ?_)
       exact ⟨_, _, _, _, _, _, _, _, (.int .i64 (w64 (2 * t31))), _, _, _, A26, c27, y28, _, by exact hs.setAt 9 rfl, HS, f11, f0, f1, f2, f3, f4, f5, f6, f7, fun _ => rfl, f9, f10, o2_0⟩
      | 9, _ =>
       have hb5 : b 5 = true := hd 5 (by decide)
       obtain rfl := f5 hb5
       have hb8 : b 8 = true := hd 8 (by decide)
       obtain rfl := f8 hb8
       refine GO.at hs ?_
       refine GO.add rfl rfl rfl rfl ?_
       refine GO.fin (fun a hs => ?_)
       exact ⟨_, _, _, _, _, _, _, _, _, (.int .i64 (w64 ((d_Crossings.length : Int) + (w64 (2 * t31))))), _, _, A26, c27, y28, _, by exact hs.setAt 10 rfl, HS, f11, f0, f1, f2, f3, f4, f5, f6, f7, f8, fun _ => rfl, f10, o2_0⟩
      | 10, _ =>
       have hb2 : b 2 = true := hd 2 (by decide)
       obtain rfl := f2 hb2
       have hb9 : b 9 = true := hd 9 (by decide)
       obtain rfl := f9 hb9
       refine GO.at hs ?_
       refine GO.eql rfl rfl rfl rfl ?_
       refine GO.fin (fun a hs => ?_)
       exact ⟨_, _, _, _, _, _, _, _, _, _, (.bool (decide ((t24.length : Int) = w64 ((d_Crossings.length : Int) + (w64 (2 * t31)))))), _, A26, c27, y28, _, by exact hs.setAt 11 rfl, HS, f11, f0, f1, f2, f3, f4, f5, f6, f7, f8, f9, fun _ => rfl, o2_0⟩
      | 11, _ =>
       have hb10 : b 10 = true := hd 10 (by decide)
       obtain rfl := f10 hb10
       refine GO.at hs ?_
       refine GO.assign rfl rfl rfl ?_
       refine GO.fin (fun a hs => ?_)
       exact ⟨_, _, _, _, _, _, _, _, _, _, _, (.bool (decide ((t24.length : Int) = w64 ((d_Crossings.length : Int) + (w64 (2 * t31)))))), A26, c27, y28, _, by exact hs.setAt 0 rfl, HS, fun _ => rfl, f0, f1, f2, f3, f4, f5, f6, f7, f8, f9, f10, o2_0⟩
      | k + 12, hj => exact absurd hj (Nat.not_lt.2 (Nat.le_add_left 12 k))
     ·
      intro b a w hall
      refine exI fun Y1_0 => exI fun Y2_1 => exI fun Y3_2 => exI fun Y4_3 => exI fun Y5_4 => exI fun Y6_5 => exI fun Y7_6 => exI fun Y8_7 => exI fun Y9_8 => exI fun Y10_9 => exI fun Y11_10 => exI fun Y12_11 => exI fun A26 => exI fun c27 => exI fun y28 => exI fun O13_2 => anI fun hs => anI fun HS => anI fun f11 => anI fun f0 => anI fun f1 => anI fun f2 => anI fun f3 => anI fun f4 => anI fun f5 => anI fun f6 => anI fun f7 => anI fun f8 => anI fun f9 => anI fun f10 => fun o2_0 => ?_
      obtain rfl := f11 (hall 11 (by decide))
      obtain rfl := f0 (hall 0 (by decide))
      obtain rfl := f1 (hall 1 (by decide))
      obtain rfl := f2 (hall 2 (by decide))
      obtain rfl := f3 (hall 3 (by decide))
      obtain rfl := f4 (hall 4 (by decide))
      obtain rfl := f5 (hall 5 (by decide))
      obtain rfl := f6 (hall 6 (by decide))
      obtain rfl := f7 (hall 7 (by decide))
      obtain rfl := f8 (hall 8 (by decide))
      obtain rfl := f9 (hall 9 (by decide))
      obtain rfl := f10 (hall 10 (by decide))
      obtain rfl := o2_0 (hall 1 (by decide))
      refine G.at hs ?_
      obtain rfl := Option.some.inj H
      exact G.ret1 _ Try.func40 rfl rfl ⟨rfl, (HS.pk 2 [] rfl)⟩
    ·
     refine G.yesB rfl (congrArg Bool.not (bnot_of c23)) ?_
     refine G.seq ?_
     refine G.region ?_
     refine GO.assign rfl rfl rfl ?_
     refine GO.nil ?_
     obtain rfl := Option.some.inj H
     exact G.ret1 _ Try.func40 rfl rfl ⟨rfl, (HS.pk 1 [] rfl)⟩
   ·
    refine G.region ?_
    refine GO.fld (⟨b1, 0, none⟩) rfl rfl fl28_0 rfl rfl ?_
    refine GO.ldBox (j := 0) HS rfl rfl rfl rfl na26 rfl ?_
    refine GO.lenS rfl rfl Try.underlying26 rfl ?_
    refine GO.gtr rfl rfl rfl rfl ?_
    refine GO.move rfl rfl rfl ?_
    refine GO.known (t := 7) rfl (decide_eq_false c13) ?_
    refine GO.on rfl rfl rfl rfl ?_
    refine GO.fld (⟨b1, 1, none⟩) rfl rfl fl28_1 rfl rfl ?_
    refine GO.back ?_
    refine GO.on rfl rfl rfl rfl ?_
    refine GO.ldBox (j := 0) HS rfl rfl rfl rfl na2 rfl ?_
    refine GO.back ?_
    refine GO.on rfl rfl rfl rfl ?_
    refine GO.fn rfl Try.func41 fok41.1 fok41.2 rfl rfl (spec_l01In.calls HS  h15) (fun _ wd16 ⟨h17, HS⟩ => ⟨_, h17, ?_⟩)
    refine GO.back ?_
    refine GO.on rfl rfl rfl rfl ?_
    refine GO.not rfl rfl rfl ?_
    refine GO.back ?_
    refine GO.pickF rfl rfl rfl rfl rfl ?_
    refine GO.move rfl rfl rfl ?_
    refine GO.known (t := 13) rfl (congrArg Bool.not (bnot_of c18)) ?_
    refine GO.off rfl rfl rfl rfl rfl rfl ?_
    refine GO.off rfl rfl rfl rfl rfl rfl ?_
    refine GO.off rfl rfl rfl rfl rfl rfl ?_
    refine GO.pickT rfl rfl rfl rfl rfl ?_
    refine GO.nil ?_
    refine G.yesB rfl rfl ?_
    refine G.seq ?_
    refine G.region ?_
    refine GO.assign rfl rfl rfl ?_
    refine GO.nil ?_
    obtain rfl := Option.some.inj H
    exact G.ret1 _ Try.func40 rfl rfl ⟨rfl, (HS.pk 1 [] rfl)⟩

set_option maxRecDepth 20000 in
set_option maxHeartbeats 40000000 in
theorem spec_l25Union.calls {w0 w : World} {L : List HObj} {K : Nat} {d_Crossings : List GCrossing} {d_Circles : Int} {e_Crossings : List GCrossing} {e_Circles : Int} {A_d_Crossings : Option Addr} {c_d_Crossings : Nat} {A_e_Crossings : Option Addr} {c_e_Crossings : Nat} {r1 : List GCrossing} {r2 : Int} (HS : St w0 w (L)) (h_d_Crossings : RdIn w0 L T_GCrossing A_d_Crossings c_d_Crossings (fun _ => ()) d_Crossings) (h_e_Crossings : RdIn w0 L T_GCrossing A_e_Crossings c_e_Crossings (fun _ => ()) e_Crossings) (H : spec_l25Union.f K d_Crossings d_Circles e_Crossings e_Circles = some (r1, r2)) :
    Calls Try.prog 115 #[.agg [.slice A_d_Crossings d_Crossings.length c_d_Crossings, .int .i64 d_Circles].toArray, .agg [.slice A_e_Crossings e_Crossings.length c_e_Crossings, .int .i64 e_Circles].toArray] w (spec_l25Union.post w0 L d_Crossings d_Circles e_Crossings e_Circles A_d_Crossings c_d_Crossings A_e_Crossings c_e_Crossings r1 r2) := by
  unfold spec_l25Union.f at H
  refine Calls.of_G Try.func115 rfl rfl rfl ?_
  refine G.seq ?_
  refine G.region ?_
  refine GO.box (cs := [.slice A_d_Crossings d_Crossings.length c_d_Crossings, .int .i64 d_Circles]) HS rfl rfl rfl rfl ?_; intro b1 wd2 HS
  refine GO.box (cs := [.slice A_e_Crossings e_Crossings.length c_e_Crossings, .int .i64 e_Circles]) HS rfl rfl rfl rfl ?_; intro b3 wd4 HS
  refine GO.alloc HS rfl zr28 rfl rfl ?_; intro b5 wd6 HS
  refine GO.nil ?_
  refine G.seq ?_
  refine G.region ?_
  refine GO.fld (⟨b1, 1, none⟩) rfl rfl fl28_1 rfl rfl ?_
  refine GO.ldBox (j := 2) HS rfl rfl rfl rfl na2 rfl ?_
  refine GO.fld (⟨b3, 1, none⟩) rfl rfl fl28_1 rfl rfl ?_
  refine GO.ldBox (j := 1) HS rfl rfl rfl rfl na2 rfl ?_
  refine GO.add rfl rfl rfl rfl ?_
  refine GO.buildV (.agg [.slice none 0 0, .int .i64 (w64 (d_Circles + e_Circles))].toArray) rfl rfl (fun _ => by kernel_rfl) rfl ?_
  refine GO.alloc HS rfl zr28 rfl rfl ?_; intro b7 wd8 HS
  refine GO.stBox (j := 0) (vs := [.slice none 0 0, .int .i64 (w64 (d_Circles + e_Circles))]) ([.slice none 0 0, .int .i64 (w64 (d_Circles + e_Circles))]) HS rfl rfl rfl rfl rfl (htA ag28) rfl rfl rfl ?_; intro wd9 HS
  refine GO.nil ?_
  refine G.seq ?_
  obtain ⟨c15, H⟩ := ite_none H
  refine G.region ?_
  refine GO.buildS (el := 58) ([]) HS rfl rfl (fun _ => by kernel_rfl) rfl ?_; intro b10 wd11 HS
  refine GO.fld (⟨b1, 0, none⟩) rfl rfl fl28_0 rfl rfl ?_
  refine GO.ldBox (j := 4) HS rfl rfl rfl rfl na26 rfl ?_
  replace HS := HS.boxRow (T := T_GCrossing) (j := 0) rfl flat_flat (fun _ => ()) ([] : List GCrossing) rfl (bndL rfl)
  refine GO.lenC (t := 15) (m := ([] : List GCrossing).length) (c' := ([] : List GCrossing).length) rfl rfl rfl ?_
  refine GO.appS (T := T_GCrossing) (j := 0) HS rfl (RdIn.drop 5 h_d_Crossings) flat_flat rfl rfl rfl Try.underlying26 inf58 rfl rfl rfl c15 rfl (fun _ => rfl) ?_; intro A13 c14 wd12 HS
  refine GO.fld (⟨b7, 0, none⟩) rfl rfl fl28_0 rfl rfl ?_
  refine GO.stBox (j := 1) (vs := [.slice A13 (([] : List GCrossing) ++ d_Crossings).length c14]) ([.slice A13 (([] : List GCrossing) ++ d_Crossings).length c14, .int .i64 (w64 (d_Circles + e_Circles))]) HS rfl rfl rfl rfl rfl (htN na26 rfl) rfl rfl rfl ?_; intro wd16 HS
  refine GO.nil ?_
  refine G.seq ?_
  refine G.region ?_
  refine GO.fld (⟨b1, 0, none⟩) rfl rfl fl28_0 rfl rfl ?_
  refine GO.ldBox (j := 4) HS rfl rfl rfl rfl na26 rfl ?_
  refine GO.lenS rfl rfl Try.underlying26 rfl ?_
  refine GO.mul rfl rfl rfl rfl ?_
  refine GO.assign rfl rfl rfl ?_
  refine GO.nil ?_
  refine G.seq ?_
  refine G.seq ?_
  refine G.region ?_
  refine GO.assign rfl rfl rfl ?_
  refine GO.nil ?_
  refine G.block ?_
  refine G.loop ?_
  refine G.name (fun k_l1 hk_l1 => ?_)
  have at_l1 : ∀ m_l1, m_l1 ≤ K → ∀ (A32 : Option Addr) (c33 : Nat) (out_34 : List GCrossing) (c_35 : Int) (w : World), spec_l25Union.l1 K m_l1 d_Crossings d_Circles e_Crossings e_Circles out_34 c_35 = some (r1, r2) → St w0 w (Box b3 28 [.slice A_e_Crossings e_Crossings.length c_e_Crossings, .int .i64 e_Circles] :: Box b5 28 [.slice none 0 0, .int .i64 0] :: Box b7 28 [.slice A32 out_34.length c33, .int .i64 (w64 (d_Circles + e_Circles))] :: Own T_GCrossing 58 A32 c33 (fun _ => ()) out_34 :: L) → G Try.prog 115 61 [(3, .pointer (some ⟨b3, 0, none⟩)), (4, .pointer (some ⟨b5, 0, none⟩)), (5, .pointer (some ⟨b7, 0, none⟩)), (6, .int .i64 (w64 (2 * (d_Crossings.length : Int)))), (7, .int .i64 c_35)] k_l1 w (spec_l25Union.post w0 L d_Crossings d_Circles e_Crossings e_Circles A_d_Crossings c_d_Crossings A_e_Crossings c_e_Crossings r1 r2) := by
   intro m_l1
   induction m_l1 using Nat.strongRecOn with
   | _ m_l1 ih_l1 =>
    intro hm_l1 A32 c33 out_34 c_35 w H HS
    cases m_l1 with
    | zero => rw [spec_l25Union.l1] at H; cases H
    | succ n_l1 =>
     rw [spec_l25Union.l1] at H
     subst hk_l1
     refine G.seq ?_
     refine G.seq ?_
     refine G.region ?_
     refine GO.move rfl rfl rfl ?_
     refine GO.fld (⟨b3, 0, none⟩) rfl rfl fl28_0 rfl rfl ?_
     refine GO.ldBox (j := 0) HS rfl rfl rfl rfl na26 rfl ?_
     refine GO.lenS rfl rfl Try.underlying26 rfl ?_
     refine GO.lss rfl rfl rfl rfl ?_
     refine GO.nil ?_
     rcases ite_elim H with ⟨c51, H⟩ | ⟨c51, H⟩
     ·
      refine G.yesB rfl (decide_eq_true c51) ?_
      refine G.skip ?_
      refine G.seq ?_
      refine G.block ?_
      refine G.seq ?_
      obtain ⟨c52, H⟩ := ite_none H
      obtain ⟨e53, h54, H⟩ := bnd_elim H
      refine G.region ?_
      refine GO.fld (⟨b3, 0, none⟩) rfl rfl fl28_0 rfl rfl ?_
      refine GO.ldBox (j := 0) HS rfl rfl rfl rfl na26 rfl ?_
      refine GO.move rfl rfl rfl ?_
      refine GO.ix rfl rfl rfl Try.underlying26 sz58 ((RdIn.drop 4 h_e_Crossings) _ HS).2.2.1 c52.1 c52.2 rfl ?_
      refine GO.ldRdA (T := T_GCrossing) (n := c_35.toNat) HS (RdIn.drop 4 h_e_Crossings) rfl rfl (getD_eq (ltN c52) h54) ag58 rfl ?_
      refine GO.alloc HS rfl zr58 rfl rfl ?_; intro b55 wd56 HS
      refine GO.stBox (j := 0) (vs := [.int .i64 e53.A, .int .i64 e53.B, .int .i64 e53.C, .int .i64 e53.D, .int .i64 e53.Sign]) ([.int .i64 e53.A, .int .i64 e53.B, .int .i64 e53.C, .int .i64 e53.D, .int .i64 e53.Sign]) HS rfl rfl rfl rfl rfl (htA ag58) rfl rfl rfl ?_; intro wd57 HS
      refine GO.nil ?_
      obtain ⟨c63, H⟩ := ite_none H
      refine G.region ?_
      refine GO.fld (⟨b7, 0, none⟩) rfl rfl fl28_0 rfl rfl ?_
      refine GO.ldBox (j := 3) HS rfl rfl rfl rfl na26 rfl ?_
      refine GO.fld (⟨b55, 0, none⟩) rfl rfl fl58_0 rfl rfl ?_
      refine GO.ldBox (j := 0) HS rfl rfl rfl rfl na2 rfl ?_
      refine GO.move rfl rfl rfl ?_
      refine GO.add rfl rfl rfl rfl ?_
      refine GO.fld (⟨b55, 1, none⟩) rfl rfl fl58_1 rfl rfl ?_
      refine GO.ldBox (j := 0) HS rfl rfl rfl rfl na2 rfl ?_
      refine GO.move rfl rfl rfl ?_
      refine GO.add rfl rfl rfl rfl ?_
      refine GO.fld (⟨b55, 2, none⟩) rfl rfl fl58_2 rfl rfl ?_
      refine GO.ldBox (j := 0) HS rfl rfl rfl rfl na2 rfl ?_
      refine GO.move rfl rfl rfl ?_
      refine GO.add rfl rfl rfl rfl ?_
      refine GO.fld (⟨b55, 3, none⟩) rfl rfl fl58_3 rfl rfl ?_
      refine GO.ldBox (j := 0) HS rfl rfl rfl rfl na2 rfl ?_
      refine GO.move rfl rfl rfl ?_
      refine GO.add rfl rfl rfl rfl ?_
      refine GO.fld (⟨b55, 4, none⟩) rfl rfl fl58_4 rfl rfl ?_
      refine GO.ldBox (j := 0) HS rfl rfl rfl rfl na2 rfl ?_
      refine GO.buildV (.agg [.int .i64 (w64 (e53.A + (w64 (2 * (d_Crossings.length : Int))))), .int .i64 (w64 (e53.B + (w64 (2 * (d_Crossings.length : Int))))), .int .i64 (w64 (e53.C + (w64 (2 * (d_Crossings.length : Int))))), .int .i64 (w64 (e53.D + (w64 (2 * (d_Crossings.length : Int))))), .int .i64 e53.Sign].toArray) rfl rfl (fun _ => by kernel_rfl) rfl ?_
      refine GO.buildS (el := 58) ([.int .i64 (w64 (e53.A + (w64 (2 * (d_Crossings.length : Int))))), .int .i64 (w64 (e53.B + (w64 (2 * (d_Crossings.length : Int))))), .int .i64 (w64 (e53.C + (w64 (2 * (d_Crossings.length : Int))))), .int .i64 (w64 (e53.D + (w64 (2 * (d_Crossings.length : Int))))), .int .i64 e53.Sign]) HS rfl rfl (fun _ => by kernel_rfl) rfl ?_; intro b58 wd59 HS
      refine GO.app1 (T := T_GCrossing) (j := 5) (jb := 0) (⟨w64 (e53.A + (w64 (2 * (d_Crossings.length : Int)))), w64 (e53.B + (w64 (2 * (d_Crossings.length : Int)))), w64 (e53.C + (w64 (2 * (d_Crossings.length : Int)))), w64 (e53.D + (w64 (2 * (d_Crossings.length : Int)))), e53.Sign⟩ : GCrossing) HS rfl rfl flat_flat rfl rfl rfl Try.underlying26 inf58 rfl rfl rfl c63 rfl ?_; intro A61 c62 wd60 HS
      refine GO.fld (⟨b7, 0, none⟩) rfl rfl fl28_0 rfl rfl ?_
      refine GO.stBox (j := 4) (vs := [.slice A61 (out_34 ++ [(⟨w64 (e53.A + (w64 (2 * (d_Crossings.length : Int)))), w64 (e53.B + (w64 (2 * (d_Crossings.length : Int)))), w64 (e53.C + (w64 (2 * (d_Crossings.length : Int)))), w64 (e53.D + (w64 (2 * (d_Crossings.length : Int)))), e53.Sign⟩ : GCrossing)]).length c62]) ([.slice A61 (out_34 ++ [(⟨w64 (e53.A + (w64 (2 * (d_Crossings.length : Int)))), w64 (e53.B + (w64 (2 * (d_Crossings.length : Int)))), w64 (e53.C + (w64 (2 * (d_Crossings.length : Int)))), w64 (e53.D + (w64 (2 * (d_Crossings.length : Int)))), e53.Sign⟩ : GCrossing)]).length c62, .int .i64 (w64 (d_Circles + e_Circles))]) HS rfl rfl rfl rfl rfl (htN na26 rfl) rfl rfl rfl ?_; intro wd64 HS
      refine GO.nil ?_
      refine G.blockEnd ?_
      refine G.region ?_
      refine GO.move rfl rfl rfl ?_
      refine GO.add rfl rfl rfl rfl ?_
      refine GO.assign rfl rfl rfl ?_
      refine GO.nil ?_
      refine G.again ?_
      refine G.weak ?_ (ih_l1 n_l1 (Nat.lt_succ_of_le (Nat.le_refl _)) (Nat.le_of_succ_le hm_l1) _ _ _ _ _ H (HS.pk 6 [2, 3, 4, 5] rfl))
      exact ⟨rfl, rfl, rfl, rfl, rfl, trivial⟩
     ·
      refine G.noB rfl (decide_eq_false c51) ?_
      refine G.exit rfl ?_
      refine G.seq ?_
      refine G.region ?_
      refine GO.ldBoxA (j := 2) ([.slice A32 out_34.length c33, .int .i64 (w64 (d_Circles + e_Circles))]) HS rfl rfl rfl rfl ag28 rfl ?_
      refine GO.stBox (j := 1) (vs := [.slice A32 out_34.length c33, .int .i64 (w64 (d_Circles + e_Circles))]) ([.slice A32 out_34.length c33, .int .i64 (w64 (d_Circles + e_Circles))]) HS rfl rfl rfl rfl rfl (htA ag28) rfl rfl rfl ?_; intro wd65 HS
      refine GO.nil ?_
      obtain ⟨rfl, rfl⟩ := some2 H
      exact G.ret1 _ Try.func115 rfl (Res1.boxA (j := 1) (vs := [.slice A32 out_34.length c33, .int .i64 (w64 (d_Circles + e_Circles))]) HS rfl rfl rfl ag28) ⟨_, _, rfl, (HS.pk 4 [3] rfl)⟩
  refine G.weak ?_ (at_l1 K (Nat.le_refl _) _ _ _ _ _ H (HS.pk 5 [3, 2, 1, 0] rfl))
  exact ⟨rfl, rfl, rfl, rfl, rfl, trivial⟩

set_option maxRecDepth 20000 in
set_option maxHeartbeats 40000000 in
theorem spec_UnionDiagrams.calls {w0 w : World} {L : List HObj} {K : Nat} {d_Crossings : List GCrossing} {d_Circles : Int} {e_Crossings : List GCrossing} {e_Circles : Int} {A_d_Crossings : Option Addr} {c_d_Crossings : Nat} {A_e_Crossings : Option Addr} {c_e_Crossings : Nat} {r1 : List GCrossing} {r2 : Int} {r3 : Int} (HS : St w0 w (L)) (h_d_Crossings : RdIn w0 L T_GCrossing A_d_Crossings c_d_Crossings (fun _ => ()) d_Crossings) (h_e_Crossings : RdIn w0 L T_GCrossing A_e_Crossings c_e_Crossings (fun _ => ()) e_Crossings) (H : spec_UnionDiagrams.f K d_Crossings d_Circles e_Crossings e_Circles = some (r1, r2, r3)) :
    Calls Try.prog 54 #[.agg [.slice A_d_Crossings d_Crossings.length c_d_Crossings, .int .i64 d_Circles].toArray, .agg [.slice A_e_Crossings e_Crossings.length c_e_Crossings, .int .i64 e_Circles].toArray] w (spec_UnionDiagrams.post w0 L d_Crossings d_Circles e_Crossings e_Circles A_d_Crossings c_d_Crossings A_e_Crossings c_e_Crossings r1 r2 r3) := by
  unfold spec_UnionDiagrams.f at H
  refine Calls.of_G Try.func54 rfl rfl rfl ?_
  refine G.seq ?_
  refine G.region ?_
  refine GO.box (cs := [.slice A_d_Crossings d_Crossings.length c_d_Crossings, .int .i64 d_Circles]) HS rfl rfl rfl rfl ?_; intro b1 wd2 HS
  refine GO.box (cs := [.slice A_e_Crossings e_Crossings.length c_e_Crossings, .int .i64 e_Circles]) HS rfl rfl rfl rfl ?_; intro b3 wd4 HS
  refine GO.alloc HS rfl zr28 rfl rfl ?_; intro b5 wd6 HS
  refine GO.assign rfl rfl rfl ?_
  refine GO.nil ?_
  refine G.seq ?_
  refine G.seq ?_
  obtain ⟨t16, h17, H⟩ := Option.bind_eq_some_iff.1 H
  rcases ite_elim H with ⟨c20, H⟩ | ⟨c20, H⟩
  ·
   obtain ⟨t21, h22, H⟩ := Option.bind_eq_some_iff.1 H
   refine G.region ?_
   refine GO.ldBoxA (j := 2) ([.slice A_d_Crossings d_Crossings.length c_d_Crossings, .int .i64 d_Circles]) HS rfl rfl rfl rfl ag28 rfl ?_
   refine GO.fn rfl Try.func40 fok40.1 fok40.2 rfl rfl (spec_IsDiagram.calls HS (RdIn.drop 3 h_d_Crossings) h17) (fun _ wd18 ⟨h19, HS⟩ => ⟨_, h19, ?_⟩)
   refine GO.not rfl rfl rfl ?_
   refine GO.move rfl rfl rfl ?_
   refine GO.known (t := 9) rfl (congrArg Bool.not c20) ?_
   refine GO.on rfl rfl rfl rfl ?_
   refine GO.ldBoxA (j := 1) ([.slice A_e_Crossings e_Crossings.length c_e_Crossings, .int .i64 e_Circles]) HS rfl rfl rfl rfl ag28 rfl ?_
   refine GO.back ?_
   refine GO.on rfl rfl rfl rfl ?_
   refine GO.fn rfl Try.func40 fok40.1 fok40.2 rfl rfl (spec_IsDiagram.calls HS (RdIn.drop 3 h_e_Crossings) h22) (fun _ wd23 ⟨h24, HS⟩ => ⟨_, h24, ?_⟩)
   refine GO.back ?_
   refine GO.on rfl rfl rfl rfl ?_
   refine GO.not rfl rfl rfl ?_
   refine GO.back ?_
   refine GO.pickF rfl rfl rfl rfl rfl ?_
   refine GO.nil ?_
   rcases ite_elim H with ⟨c25, H⟩ | ⟨c25, H⟩
   ·
    refine G.noB rfl (congrArg Bool.not c25) ?_
    refine G.skip ?_
    refine G.seq ?_
    refine G.seq ?_
    rcases ite_elim H with ⟨c27, H⟩ | ⟨c27, H⟩
    ·
     refine G.region ?_
     refine GO.fld (⟨b1, 0, none⟩) rfl rfl fl28_0 rfl rfl ?_
     refine GO.ldBox (j := 2) HS rfl rfl rfl rfl na26 rfl ?_
     refine GO.lenS rfl rfl Try.underlying26 rfl ?_
     refine GO.fld (⟨b3, 0, none⟩) rfl rfl fl28_0 rfl rfl ?_
     refine GO.ldBox (j := 1) HS rfl rfl rfl rfl na26 rfl ?_
     refine GO.lenS rfl rfl Try.underlying26 rfl ?_
     refine GO.add rfl rfl rfl rfl ?_
     refine GO.gtr rfl rfl rfl rfl ?_
     refine GO.move rfl rfl rfl ?_
     refine GO.known (t := 23) rfl (decide_eq_true c27) ?_
     refine GO.off rfl rfl rfl rfl rfl rfl ?_
     refine GO.off rfl rfl rfl rfl rfl rfl ?_
     refine GO.off rfl rfl rfl rfl rfl rfl ?_
     refine GO.off rfl rfl rfl rfl rfl rfl ?_
     refine GO.off rfl rfl rfl rfl rfl rfl ?_
     refine GO.off rfl rfl rfl rfl rfl rfl ?_
     refine GO.pickT rfl rfl rfl rfl rfl ?_
     refine GO.nil ?_
     refine G.yesB rfl rfl ?_
     refine G.seq ?_
     refine G.region ?_
     refine GO.buildV (.agg [.slice none 0 0, .int .i64 0].toArray) rfl rfl (fun _ => by kernel_rfl) rfl ?_
     refine GO.stBox (j := 0) (vs := [.slice none 0 0, .int .i64 0]) ([.slice none 0 0, .int .i64 0]) HS rfl rfl rfl rfl rfl (htA ag28) rfl rfl rfl ?_; intro wd28 HS
     refine GO.assign rfl rfl rfl ?_
     refine GO.nil ?_
     replace HS := HS.nilRow T_GCrossing 58 (fun _ => ())
     obtain ⟨rfl, rfl, rfl⟩ := some3 H
     exact G.ret2 _ _ Try.func54 rfl (Res1.boxA (j := 1) (vs := [.slice none 0 0, .int .i64 0]) HS rfl rfl rfl ag28) rfl ⟨_, _, rfl, (HS.pk 4 [0] rfl)⟩
    ·
     refine G.region ?_
     refine GO.fld (⟨b1, 0, none⟩) rfl rfl fl28_0 rfl rfl ?_
     refine GO.ldBox (j := 2) HS rfl rfl rfl rfl na26 rfl ?_
     refine GO.lenS rfl rfl Try.underlying26 rfl ?_
     refine GO.fld (⟨b3, 0, none⟩) rfl rfl fl28_0 rfl rfl ?_
     refine GO.ldBox (j := 1) HS rfl rfl rfl rfl na26 rfl ?_
     refine GO.lenS rfl rfl Try.underlying26 rfl ?_
     refine GO.add rfl rfl rfl rfl ?_
     refine GO.gtr rfl rfl rfl rfl ?_
     refine GO.move rfl rfl rfl ?_
     refine GO.known (t := 23) rfl (decide_eq_false c27) ?_
     refine GO.on rfl rfl rfl rfl ?_
     refine GO.fld (⟨b1, 1, none⟩) rfl rfl fl28_1 rfl rfl ?_
     refine GO.back ?_
     refine GO.on rfl rfl rfl rfl ?_
     refine GO.ldBox (j := 2) HS rfl rfl rfl rfl na2 rfl ?_
     refine GO.back ?_
     refine GO.on rfl rfl rfl rfl ?_
     refine GO.fld (⟨b3, 1, none⟩) rfl rfl fl28_1 rfl rfl ?_
     refine GO.back ?_
     refine GO.on rfl rfl rfl rfl ?_
     refine GO.ldBox (j := 1) HS rfl rfl rfl rfl na2 rfl ?_
     refine GO.back ?_
     refine GO.on rfl rfl rfl rfl ?_
     refine GO.add rfl rfl rfl rfl ?_
     refine GO.back ?_
     refine GO.on rfl rfl rfl rfl ?_
     refine GO.gtr rfl rfl rfl rfl ?_
     refine GO.back ?_
     refine GO.pickF rfl rfl rfl rfl rfl ?_
     refine GO.nil ?_
     rcases ite_elim H with ⟨c29, H⟩ | ⟨c29, H⟩
     ·
      refine G.yesB rfl (decide_eq_true c29) ?_
      refine G.seq ?_
      refine G.region ?_
      refine GO.buildV (.agg [.slice none 0 0, .int .i64 0].toArray) rfl rfl (fun _ => by kernel_rfl) rfl ?_
      refine GO.stBox (j := 0) (vs := [.slice none 0 0, .int .i64 0]) ([.slice none 0 0, .int .i64 0]) HS rfl rfl rfl rfl rfl (htA ag28) rfl rfl rfl ?_; intro wd30 HS
      refine GO.assign rfl rfl rfl ?_
      refine GO.nil ?_
      replace HS := HS.nilRow T_GCrossing 58 (fun _ => ())
      obtain ⟨rfl, rfl, rfl⟩ := some3 H
      exact G.ret2 _ _ Try.func54 rfl (Res1.boxA (j := 1) (vs := [.slice none 0 0, .int .i64 0]) HS rfl rfl rfl ag28) rfl ⟨_, _, rfl, (HS.pk 4 [0] rfl)⟩
     ·
      refine G.noB rfl (decide_eq_false c29) ?_
      refine G.skip ?_
      refine G.seq ?_
      obtain ⟨t31, t32, h33, H⟩ := bind2_elim H
      refine G.region ?_
      refine GO.ldBoxA (j := 2) ([.slice A_d_Crossings d_Crossings.length c_d_Crossings, .int .i64 d_Circles]) HS rfl rfl rfl rfl ag28 rfl ?_
      refine GO.ldBoxA (j := 1) ([.slice A_e_Crossings e_Crossings.length c_e_Crossings, .int .i64 e_Circles]) HS rfl rfl rfl rfl ag28 rfl ?_
      refine GO.fn rfl Try.func115 fok115.1 fok115.2 rfl rfl (spec_l25Union.calls HS (RdIn.drop 3 h_d_Crossings) (RdIn.drop 3 h_e_Crossings) h33) (fun _ wd36 ⟨A34, c35, h37, HS⟩ => ⟨_, h37, ?_⟩)
      refine GO.stBox (j := 1) (vs := [.slice A34 t31.length c35, .int .i64 t32]) ([.slice A34 t31.length c35, .int .i64 t32]) HS rfl rfl rfl rfl rfl (htA ag28) rfl rfl rfl ?_; intro wd38 HS
      refine GO.assign rfl rfl rfl ?_
      refine GO.nil ?_
      obtain ⟨rfl, rfl, rfl⟩ := some3 H
      exact G.ret2 _ _ Try.func54 rfl (Res1.boxA (j := 1) (vs := [.slice A34 t31.length c35, .int .i64 t32]) HS rfl rfl rfl ag28) rfl ⟨_, _, rfl, (HS.pk 4 [0] rfl)⟩
   ·
    refine G.yesB rfl (congrArg Bool.not (bnot_of c25)) ?_
    refine G.seq ?_
    refine G.region ?_
    refine GO.buildV (.agg [.slice none 0 0, .int .i64 0].toArray) rfl rfl (fun _ => by kernel_rfl) rfl ?_
    refine GO.stBox (j := 0) (vs := [.slice none 0 0, .int .i64 0]) ([.slice none 0 0, .int .i64 0]) HS rfl rfl rfl rfl rfl (htA ag28) rfl rfl rfl ?_; intro wd39 HS
    refine GO.assign rfl rfl rfl ?_
    refine GO.nil ?_
    replace HS := HS.nilRow T_GCrossing 58 (fun _ => ())
    obtain ⟨rfl, rfl, rfl⟩ := some3 H
    exact G.ret2 _ _ Try.func54 rfl (Res1.boxA (j := 1) (vs := [.slice none 0 0, .int .i64 0]) HS rfl rfl rfl ag28) rfl ⟨_, _, rfl, (HS.pk 4 [0] rfl)⟩
  ·
   refine G.region ?_
   refine GO.ldBoxA (j := 2) ([.slice A_d_Crossings d_Crossings.length c_d_Crossings, .int .i64 d_Circles]) HS rfl rfl rfl rfl ag28 rfl ?_
   refine GO.fn rfl Try.func40 fok40.1 fok40.2 rfl rfl (spec_IsDiagram.calls HS (RdIn.drop 3 h_d_Crossings) h17) (fun _ wd18 ⟨h19, HS⟩ => ⟨_, h19, ?_⟩)
   refine GO.not rfl rfl rfl ?_
   refine GO.move rfl rfl rfl ?_
   refine GO.known (t := 9) rfl (congrArg Bool.not (bnot_of c20)) ?_
   refine GO.off rfl rfl rfl rfl rfl rfl ?_
   refine GO.off rfl rfl rfl rfl rfl rfl ?_
   refine GO.off rfl rfl rfl rfl rfl rfl ?_
   refine GO.pickT rfl rfl rfl rfl rfl ?_
   refine GO.nil ?_
   refine G.yesB rfl rfl ?_
   refine G.seq ?_
   refine G.region ?_
   refine GO.buildV (.agg [.slice none 0 0, .int .i64 0].toArray) rfl rfl (fun _ => by kernel_rfl) rfl ?_
   refine GO.stBox (j := 0) (vs := [.slice none 0 0, .int .i64 0]) ([.slice none 0 0, .int .i64 0]) HS rfl rfl rfl rfl rfl (htA ag28) rfl rfl rfl ?_; intro wd40 HS
   refine GO.assign rfl rfl rfl ?_
   refine GO.nil ?_
   replace HS := HS.nilRow T_GCrossing 58 (fun _ => ())
   obtain ⟨rfl, rfl, rfl⟩ := some3 H
   exact G.ret2 _ _ Try.func54 rfl (Res1.boxA (j := 1) (vs := [.slice none 0 0, .int .i64 0]) HS rfl rfl rfl ag28) rfl ⟨_, _, rfl, (HS.pk 4 [0] rfl)⟩

set_option maxRecDepth 20000 in
set_option maxHeartbeats 40000000 in
theorem spec_l25With.calls {w0 w : World} {L : List HObj} {x_A : Int} {x_B : Int} {x_C : Int} {x_D : Int} {x_Sign : Int} {p : Int} {a_ : Int} {r1 : Int} {r2 : Int} {r3 : Int} {r4 : Int} {r5 : Int} (HS : St w0 w (L)) (H : spec_l25With.f x_A x_B x_C x_D x_Sign p a_ = some (r1, r2, r3, r4, r5)) :
    Calls Try.prog 43 #[.agg [.int .i64 x_A, .int .i64 x_B, .int .i64 x_C, .int .i64 x_D, .int .i64 x_Sign].toArray, .int .i64 p, .int .i64 a_] w (spec_l25With.post w0 L x_A x_B x_C x_D x_Sign p a_ r1 r2 r3 r4 r5) := by
  unfold spec_l25With.f at H
  refine Calls.of_G Try.func43 rfl rfl rfl ?_
  refine G.seq ?_
  refine G.region ?_
  refine GO.box (cs := [.int .i64 x_A, .int .i64 x_B, .int .i64 x_C, .int .i64 x_D, .int .i64 x_Sign]) HS rfl rfl rfl rfl ?_; intro b1 wd2 HS
  refine GO.alloc HS rfl zr58 rfl rfl ?_; intro b3 wd4 HS
  refine GO.nil ?_
  refine G.seq ?_
  refine G.seq ?_
  refine G.region ?_
  refine GO.move rfl rfl rfl ?_
  refine GO.nil ?_
  refine G.block ?_
  refine G.seq ?_
  refine G.region ?_
  refine GO.eql rfl rfl rfl rfl ?_
  refine GO.assign rfl rfl rfl ?_
  refine GO.nil ?_
  rcases ite_elim H with ⟨c5, H⟩ | ⟨c5, H⟩
  ·
   refine G.yesB rfl (decide_eq_true c5) ?_
   refine G.region ?_
   refine GO.move rfl rfl rfl ?_
   refine GO.fld (⟨b1, 0, none⟩) rfl rfl fl58_0 rfl rfl ?_
   refine GO.stBox (j := 1) (vs := [.int .i64 a_]) ([.int .i64 a_, .int .i64 x_B, .int .i64 x_C, .int .i64 x_D, .int .i64 x_Sign]) HS rfl rfl rfl rfl rfl (htN na2 rfl) rfl rfl rfl ?_; intro wd6 HS
   refine GO.nil ?_
   refine G.blockEnd ?_
   refine G.seq ?_
   refine G.region ?_
   refine GO.ldBoxA (j := 1) ([.int .i64 a_, .int .i64 x_B, .int .i64 x_C, .int .i64 x_D, .int .i64 x_Sign]) HS rfl rfl rfl rfl ag58 rfl ?_
   refine GO.stBox (j := 0) (vs := [.int .i64 a_, .int .i64 x_B, .int .i64 x_C, .int .i64 x_D, .int .i64 x_Sign]) ([.int .i64 a_, .int .i64 x_B, .int .i64 x_C, .int .i64 x_D, .int .i64 x_Sign]) HS rfl rfl rfl rfl rfl (htA ag58) rfl rfl rfl ?_; intro wd7 HS
   refine GO.nil ?_
   obtain ⟨rfl, rfl, rfl, rfl, rfl⟩ := some5 H
   exact G.ret1 _ Try.func43 rfl (Res1.boxA (j := 0) (vs := [.int .i64 a_, .int .i64 x_B, .int .i64 x_C, .int .i64 x_D, .int .i64 x_Sign]) HS rfl rfl rfl ag58) ⟨rfl, (HS.pk 2 [] rfl)⟩
  ·
   refine G.noB rfl (decide_eq_false c5) ?_
   refine G.seq ?_
   refine G.region ?_
   refine GO.eql rfl rfl rfl rfl ?_
   refine GO.assign rfl rfl rfl ?_
   refine GO.nil ?_
   rcases ite_elim H with ⟨c8, H⟩ | ⟨c8, H⟩
   ·
    refine G.yesB rfl (decide_eq_true c8) ?_
    refine G.region ?_
    refine GO.move rfl rfl rfl ?_
    refine GO.fld (⟨b1, 1, none⟩) rfl rfl fl58_1 rfl rfl ?_
    refine GO.stBox (j := 1) (vs := [.int .i64 a_]) ([.int .i64 x_A, .int .i64 a_, .int .i64 x_C, .int .i64 x_D, .int .i64 x_Sign]) HS rfl rfl rfl rfl rfl (htN na2 rfl) rfl rfl rfl ?_; intro wd9 HS
    refine GO.nil ?_
    refine G.blockEnd ?_
    refine G.seq ?_
    refine G.region ?_
    refine GO.ldBoxA (j := 1) ([.int .i64 x_A, .int .i64 a_, .int .i64 x_C, .int .i64 x_D, .int .i64 x_Sign]) HS rfl rfl rfl rfl ag58 rfl ?_
    refine GO.stBox (j := 0) (vs := [.int .i64 x_A, .int .i64 a_, .int .i64 x_C, .int .i64 x_D, .int .i64 x_Sign]) ([.int .i64 x_A, .int .i64 a_, .int .i64 x_C, .int .i64 x_D, .int .i64 x_Sign]) HS rfl rfl rfl rfl rfl (htA ag58) rfl rfl rfl ?_; intro wd10 HS
    refine GO.nil ?_
    obtain ⟨rfl, rfl, rfl, rfl, rfl⟩ := some5 H
    exact G.ret1 _ Try.func43 rfl (Res1.boxA (j := 0) (vs := [.int .i64 x_A, .int .i64 a_, .int .i64 x_C, .int .i64 x_D, .int .i64 x_Sign]) HS rfl rfl rfl ag58) ⟨rfl, (HS.pk 2 [] rfl)⟩
   ·
    refine G.noB rfl (decide_eq_false c8) ?_
    refine G.seq ?_
    refine G.region ?_
    refine GO.eql rfl rfl rfl rfl ?_
    refine GO.assign rfl rfl rfl ?_
    refine GO.nil ?_
    rcases ite_elim H with ⟨c11, H⟩ | ⟨c11, H⟩
    ·
     refine G.yesB rfl (decide_eq_true c11) ?_
     refine G.region ?_
     refine GO.move rfl rfl rfl ?_
     refine GO.fld (⟨b1, 2, none⟩) rfl rfl fl58_2 rfl rfl ?_
     refine GO.stBox (j := 1) (vs := [.int .i64 a_]) ([.int .i64 x_A, .int .i64 x_B, .int .i64 a_, .int .i64 x_D, .int .i64 x_Sign]) HS rfl rfl rfl rfl rfl (htN na2 rfl) rfl rfl rfl ?_; intro wd12 HS
     refine GO.nil ?_
     refine G.blockEnd ?_
     refine G.seq ?_
     refine G.region ?_
     refine GO.ldBoxA (j := 1) ([.int .i64 x_A, .int .i64 x_B, .int .i64 a_, .int .i64 x_D, .int .i64 x_Sign]) HS rfl rfl rfl rfl ag58 rfl ?_
     refine GO.stBox (j := 0) (vs := [.int .i64 x_A, .int .i64 x_B, .int .i64 a_, .int .i64 x_D, .int .i64 x_Sign]) ([.int .i64 x_A, .int .i64 x_B, .int .i64 a_, .int .i64 x_D, .int .i64 x_Sign]) HS rfl rfl rfl rfl rfl (htA ag58) rfl rfl rfl ?_; intro wd13 HS
     refine GO.nil ?_
     obtain ⟨rfl, rfl, rfl, rfl, rfl⟩ := some5 H
     exact G.ret1 _ Try.func43 rfl (Res1.boxA (j := 0) (vs := [.int .i64 x_A, .int .i64 x_B, .int .i64 a_, .int .i64 x_D, .int .i64 x_Sign]) HS rfl rfl rfl ag58) ⟨rfl, (HS.pk 2 [] rfl)⟩
    ·
     refine G.noB rfl (decide_eq_false c11) ?_
     refine G.region ?_
     refine GO.move rfl rfl rfl ?_
     refine GO.fld (⟨b1, 3, none⟩) rfl rfl fl58_3 rfl rfl ?_
     refine GO.stBox (j := 1) (vs := [.int .i64 a_]) ([.int .i64 x_A, .int .i64 x_B, .int .i64 x_C, .int .i64 a_, .int .i64 x_Sign]) HS rfl rfl rfl rfl rfl (htN na2 rfl) rfl rfl rfl ?_; intro wd14 HS
     refine GO.nil ?_
     refine G.blockEnd ?_
     refine G.seq ?_
     refine G.region ?_
     refine GO.ldBoxA (j := 1) ([.int .i64 x_A, .int .i64 x_B, .int .i64 x_C, .int .i64 a_, .int .i64 x_Sign]) HS rfl rfl rfl rfl ag58 rfl ?_
     refine GO.stBox (j := 0) (vs := [.int .i64 x_A, .int .i64 x_B, .int .i64 x_C, .int .i64 a_, .int .i64 x_Sign]) ([.int .i64 x_A, .int .i64 x_B, .int .i64 x_C, .int .i64 a_, .int .i64 x_Sign]) HS rfl rfl rfl rfl rfl (htA ag58) rfl rfl rfl ?_; intro wd15 HS
     refine GO.nil ?_
     obtain ⟨rfl, rfl, rfl, rfl, rfl⟩ := some5 H
     exact G.ret1 _ Try.func43 rfl (Res1.boxA (j := 0) (vs := [.int .i64 x_A, .int .i64 x_B, .int .i64 x_C, .int .i64 a_, .int .i64 x_Sign]) HS rfl rfl rfl ag58) ⟨rfl, (HS.pk 2 [] rfl)⟩

set_option maxRecDepth 20000 in
set_option maxHeartbeats 40000000 in
theorem spec_JoinDiagrams.calls {w0 w : World} {L : List HObj} {K : Nat} {d_Crossings : List GCrossing} {d_Circles : Int} {a_ : Int} {e_Crossings : List GCrossing} {e_Circles : Int} {b_ : Int} {A_d_Crossings : Option Addr} {c_d_Crossings : Nat} {A_e_Crossings : Option Addr} {c_e_Crossings : Nat} {r1 : List GCrossing} {r2 : Int} {r3 : Int} (HS : St w0 w (L)) (h_d_Crossings : RdIn w0 L T_GCrossing A_d_Crossings c_d_Crossings (fun _ => ()) d_Crossings) (h_e_Crossings : RdIn w0 L T_GCrossing A_e_Crossings c_e_Crossings (fun _ => ()) e_Crossings) (H : spec_JoinDiagrams.f K d_Crossings d_Circles a_ e_Crossings e_Circles b_ = some (r1, r2, r3)) :
    Calls Try.prog 19 #[.agg [.slice A_d_Crossings d_Crossings.length c_d_Crossings, .int .i64 d_Circles].toArray, .int .i64 a_, .agg [.slice A_e_Crossings e_Crossings.length c_e_Crossings, .int .i64 e_Circles].toArray, .int .i64 b_] w (spec_JoinDiagrams.post w0 L d_Crossings d_Circles a_ e_Crossings e_Circles b_ A_d_Crossings c_d_Crossings A_e_Crossings c_e_Crossings r1 r2 r3) := by
  unfold spec_JoinDiagrams.f at H
  refine Calls.of_G Try.func19 rfl rfl rfl ?_
  refine G.seq ?_
  refine G.region ?_
  refine GO.box (cs := [.slice A_d_Crossings d_Crossings.length c_d_Crossings, .int .i64 d_Circles]) HS rfl rfl rfl rfl ?_; intro b1 wd2 HS
  refine GO.box (cs := [.slice A_e_Crossings e_Crossings.length c_e_Crossings, .int .i64 e_Circles]) HS rfl rfl rfl rfl ?_; intro b3 wd4 HS
  refine GO.alloc HS rfl zr28 rfl rfl ?_; intro b5 wd6 HS
  refine GO.assign rfl rfl rfl ?_
  refine GO.nil ?_
  refine G.seq ?_
  obtain ⟨t7, t8, t9, h10, H⟩ := bind3_elim H
  refine G.region ?_
  refine GO.ldBoxA (j := 2) ([.slice A_d_Crossings d_Crossings.length c_d_Crossings, .int .i64 d_Circles]) HS rfl rfl rfl rfl ag28 rfl ?_
  refine GO.ldBoxA (j := 1) ([.slice A_e_Crossings e_Crossings.length c_e_Crossings, .int .i64 e_Circles]) HS rfl rfl rfl rfl ag28 rfl ?_
  refine GO.fn rfl Try.func54 fok54.1 fok54.2 rfl rfl (spec_UnionDiagrams.calls HS (RdIn.drop 3 h_d_Crossings) (RdIn.drop 3 h_e_Crossings) h10) (fun _ wd13 ⟨A11, c12, h14, HS⟩ => ⟨_, h14, ?_⟩)
  refine GO.move rfl rfl rfl ?_
  refine GO.extract rfl rfl rfl rfl ?_
  refine GO.extract rfl rfl rfl rfl ?_
  refine GO.alloc HS rfl zr28 rfl rfl ?_; intro b15 wd16 HS
  refine GO.stBox (j := 0) (vs := [.slice A11 t7.length c12, .int .i64 t8]) ([.slice A11 t7.length c12, .int .i64 t8]) HS rfl rfl rfl rfl rfl (htA ag28) rfl rfl rfl ?_; intro wd17 HS
  refine GO.assign rfl rfl rfl ?_
  refine GO.nil ?_
  refine G.seq ?_
  refine G.seq ?_
  refine G.region ?_
  refine GO.move rfl rfl rfl ?_
  refine GO.neq rfl rfl rfl rfl ?_
  refine GO.nil ?_
  rcases ite_elim H with ⟨c18, H⟩ | ⟨c18, H⟩
  ·
   refine G.noB rfl (congrArg Bool.not (decide_eq_true c18)) ?_
   refine G.skip ?_
   refine G.seq ?_
   refine G.region ?_
   refine GO.fld (⟨b1, 0, none⟩) rfl rfl fl28_0 rfl rfl ?_
   refine GO.ldBox (j := 4) HS rfl rfl rfl rfl na26 rfl ?_
   refine GO.lenS rfl rfl Try.underlying26 rfl ?_
   refine GO.mul rfl rfl rfl rfl ?_
   refine GO.assign rfl rfl rfl ?_
   refine GO.nil ?_
   refine G.seq ?_
   refine G.seq ?_
   obtain ⟨t28, h29, H⟩ := Option.bind_eq_some_iff.1 H
   rcases ite_elim H with ⟨c32, H⟩ | ⟨c32, H⟩
   ·
    obtain ⟨t33, h34, H⟩ := Option.bind_eq_some_iff.1 H
    refine G.region ?_
    refine GO.move rfl rfl rfl ?_
    refine GO.move rfl rfl rfl ?_
    refine GO.sub rfl rfl rfl rfl ?_
    refine GO.fn rfl Try.func41 fok41.1 fok41.2 rfl rfl (spec_l01In.calls HS  h29) (fun _ wd30 ⟨h31, HS⟩ => ⟨_, h31, ?_⟩)
    refine GO.not rfl rfl rfl ?_
    refine GO.move rfl rfl rfl ?_
    refine GO.known (t := 36) rfl (congrArg Bool.not c32) ?_
    refine GO.on rfl rfl rfl rfl ?_
    refine GO.move rfl rfl rfl ?_
    refine GO.back ?_
    refine GO.on rfl rfl rfl rfl ?_
    refine GO.fld (⟨b3, 0, none⟩) rfl rfl fl28_0 rfl rfl ?_
    refine GO.back ?_
    refine GO.on rfl rfl rfl rfl ?_
    refine GO.ldBox (j := 3) HS rfl rfl rfl rfl na26 rfl ?_
    refine GO.back ?_
    refine GO.on rfl rfl rfl rfl ?_
    refine GO.lenS rfl rfl Try.underlying26 rfl ?_
    refine GO.back ?_
    refine GO.on rfl rfl rfl rfl ?_
    refine GO.mul rfl rfl rfl rfl ?_
    refine GO.back ?_
    refine GO.on rfl rfl rfl rfl ?_
    refine GO.sub rfl rfl rfl rfl ?_
    refine GO.back ?_
    refine GO.on rfl rfl rfl rfl ?_
    refine GO.fn rfl Try.func41 fok41.1 fok41.2 rfl rfl (spec_l01In.calls HS  h34) (fun _ wd35 ⟨h36, HS⟩ => ⟨_, h36, ?_⟩)
    refine GO.back ?_
    refine GO.on rfl rfl rfl rfl ?_
    refine GO.not rfl rfl rfl ?_
    refine GO.back ?_
    refine GO.pickF rfl rfl rfl rfl rfl ?_
    refine GO.nil ?_
    rcases ite_elim H with ⟨c37, H⟩ | ⟨c37, H⟩
    ·
     refine G.noB rfl (congrArg Bool.not c37) ?_
     refine G.skip ?_
     refine G.seq ?_
     obtain ⟨t38, t39, h40, H⟩ := bind2_elim H
     refine G.region ?_
     refine GO.ldBoxA (j := 0) ([.slice A11 t7.length c12, .int .i64 t8]) HS rfl rfl rfl rfl ag28 rfl ?_
     refine GO.move rfl rfl rfl ?_
     refine GO.fn rfl Try.func42 fok42.1 fok42.2 rfl rfl (spec_l25Place.calls HS (RdIn.own (j := 1) rfl) h40) (fun _ wd41 ⟨h42, HS⟩ => ⟨_, h42, ?_⟩)
     refine GO.move rfl rfl rfl ?_
     refine GO.extract rfl rfl rfl rfl ?_
     refine GO.extract rfl rfl rfl rfl ?_
     refine GO.assign rfl rfl rfl ?_
     refine GO.assign rfl rfl rfl ?_
     refine GO.nil ?_
     refine G.seq ?_
     obtain ⟨t43, t44, h45, H⟩ := bind2_elim H
     refine G.region ?_
     refine GO.ldBoxA (j := 0) ([.slice A11 t7.length c12, .int .i64 t8]) HS rfl rfl rfl rfl ag28 rfl ?_
     refine GO.move rfl rfl rfl ?_
     refine GO.move rfl rfl rfl ?_
     refine GO.add rfl rfl rfl rfl ?_
     refine GO.fn rfl Try.func42 fok42.1 fok42.2 rfl rfl (spec_l25Place.calls HS (RdIn.own (j := 1) rfl) h45) (fun _ wd46 ⟨h47, HS⟩ => ⟨_, h47, ?_⟩)
     refine GO.move rfl rfl rfl ?_
     refine GO.extract rfl rfl rfl rfl ?_
     refine GO.extract rfl rfl rfl rfl ?_
     refine GO.assign rfl rfl rfl ?_
     refine GO.assign rfl rfl rfl ?_
     refine GO.nil ?_
     refine G.seq ?_
     obtain ⟨c48, H⟩ := ite_none H
     obtain ⟨e49, h50, H⟩ := bnd_elim H
     obtain ⟨t51, t52, t53, t54, t55, h56, H⟩ := bind5_elim H
     refine G.regionAny mixed (by decide) (fun b a w => ∃ (Y1_0 : Value) (Y2_1 : Value) (Y3_2 : Value) (Y4_3 : Value) (Y5_4 : Value) (Y6_5 : Value) (Y7_6 : Value) (Y8_7 : Value) (Y9_8 : Value) (Y10_9 : Value) (Y11_10 : Value) (Y12_11 : Value) (Y13_12 : Value) (Y14_13 : Value) (O15_4 : HObj), Sat 88 [(61, Y1_0), (62, Y2_1), (63, Y3_2), (64, Y4_3), (65, Y5_4), (66, Y6_5), (67, Y7_6), (68, Y8_7), (69, Y9_8), (70, Y10_9), (71, Y11_10), (72, Y12_11), (73, Y13_12), (74, Y14_13), (1, .int .i64 a_), (3, .int .i64 b_), (8, .pointer (some ⟨b5, 0, none⟩)), (10, .pointer (some ⟨b15, 0, none⟩)), (12, .int .i64 (w64 (2 * (d_Crossings.length : Int)))), (13, .int .i64 t38), (14, .int .i64 t39), (15, .int .i64 t43), (16, .int .i64 t44)] a ∧ St w0 w (Box b15 28 [.slice A11 t7.length c12, .int .i64 t8] :: O15_4 :: Box b5 28 [.slice none 0 0, .int .i64 0] :: Box b3 28 [.slice A_e_Crossings e_Crossings.length c_e_Crossings, .int .i64 e_Circles] :: Box b1 28 [.slice A_d_Crossings d_Crossings.length c_d_Crossings, .int .i64 d_Circles] :: L) ∧ (b 0 = true → Y1_0 = (.pointer (some ⟨b15, 0, none⟩))) ∧ (b 1 = true → Y2_1 = (.slice A11 t7.length c12)) ∧ (b 2 = true → Y3_2 = (.int .i64 t38)) ∧ (b 3 = true → Y4_3 = (.pointer (some ⟨b15, 0, none⟩))) ∧ (b 4 = true → Y5_4 = (.slice A11 t7.length c12)) ∧ (b 5 = true → Y6_5 = (.int .i64 t38)) ∧ (b 6 = true → Y7_6 = (.pointer (some (ea A11 (t38.toNat * 5))))) ∧ (b 7 = true → Y8_7 = (.agg [.int .i64 e49.A, .int .i64 e49.B, .int .i64 e49.C, .int .i64 e49.D, .int .i64 e49.Sign].toArray)) ∧ (b 8 = true → Y9_8 = (.int .i64 t39)) ∧ (b 9 = true → Y10_9 = (.int .i64 b_)) ∧ (b 10 = true → Y11_10 = (.int .i64 (w64 (2 * (d_Crossings.length : Int))))) ∧ (b 11 = true → Y12_11 = (.int .i64 (w64 (b_ + (w64 (2 * (d_Crossings.length : Int))))))) ∧ (b 12 = true → Y13_12 = (.agg [.int .i64 t51, .int .i64 t52, .int .i64 t53, .int .i64 t54, .int .i64 t55].toArray)) ∧ (b 13 = true → Y14_13 = (.pointer (some (ea A11 (t38.toNat * 5))))) ∧ (b 14 = false → O15_4 = Own T_GCrossing 58 A11 c12 (fun _ => ()) t7) ∧ (b 14 = true → O15_4 = Own T_GCrossing 58 A11 c12 (fun _ => ()) (t7.set t38.toNat (⟨t51, t52, t53, t54, t55⟩ : GCrossing)))) ?_ ?_ ?_
     ·
      intro a hs
      obtain ⟨Y1_0, hs⟩ := hs.ext (d := 61) rfl
      obtain ⟨Y2_1, hs⟩ := hs.ext (d := 62) rfl
      obtain ⟨Y3_2, hs⟩ := hs.ext (d := 63) rfl
      obtain ⟨Y4_3, hs⟩ := hs.ext (d := 64) rfl
      obtain ⟨Y5_4, hs⟩ := hs.ext (d := 65) rfl
      obtain ⟨Y6_5, hs⟩ := hs.ext (d := 66) rfl
      obtain ⟨Y7_6, hs⟩ := hs.ext (d := 67) rfl
      obtain ⟨Y8_7, hs⟩ := hs.ext (d := 68) rfl
      obtain ⟨Y9_8, hs⟩ := hs.ext (d := 69) rfl
      obtain ⟨Y10_9, hs⟩ := hs.ext (d := 70) rfl
      obtain ⟨Y11_10, hs⟩ := hs.ext (d := 71) rfl
      obtain ⟨Y12_11, hs⟩ := hs.ext (d := 72) rfl
      obtain ⟨Y13_12, hs⟩ := hs.ext (d := 73) rfl
      obtain ⟨Y14_13, hs⟩ := hs.ext (d := 74) rfl
      exact ⟨Y1_0, Y2_1, Y3_2, Y4_3, Y5_4, Y6_5, Y7_6, Y8_7, Y9_8, Y10_9, Y11_10, Y12_11, Y13_12, Y14_13, Own T_GCrossing 58 A11 c12 (fun _ => ()) t7, hs.weak ⟨rfl, rfl, rfl, rfl, rfl, rfl, rfl, rfl, rfl, rfl, rfl, rfl, rfl, rfl, rfl, rfl, rfl, rfl, rfl, rfl, rfl, rfl, rfl, trivial⟩, (HS.drew.pk 5 [0, 1, 2, 3, 4] rfl), fun h => Bool.noConfusion h, fun h => Bool.noConfusion h, fun h => Bool.noConfusion h, fun h => Bool.noConfusion h, fun h => Bool.noConfusion h, fun h => Bool.noConfusion h, fun h => Bool.noConfusion h, fun h => Bool.noConfusion h, fun h => Bool.noConfusion h, fun h => Bool.noConfusion h, fun h => Bool.noConfusion h, fun h => Bool.noConfusion h, fun h => Bool.noConfusion h, fun h => Bool.noConfusion h, fun _ => rfl, fun h => Bool.noConfusion h⟩
     ·
      intro j hj b a w
      refine exI fun Y1_0 => exI fun Y2_1 => exI fun Y3_2 => exI fun Y4_3 => exI fun Y5_4 => exI fun Y6_5 => exI fun Y7_6 => exI fun Y8_7 => exI fun Y9_8 => exI fun Y10_9 => exI fun Y11_10 => exI fun Y12_11 => exI fun Y13_12 => exI fun Y14_13 => exI fun O15_4 => anI fun hs => anI fun HS => anI fun f0 => anI fun f1 => anI fun f2 => anI fun f3 => anI fun f4 => anI fun f5 => anI fun f6 => anI fun f7 => anI fun f8 => anI fun f9 => anI fun f10 => anI fun f11 => anI fun f12 => anI fun f13 => anI fun o4_0 => fun o4_1 hb hd hcl => ?_
      match j, hj with
      | 0, _ =>
       refine GO.at hs ?_
       refine GO.fld (⟨b15, 0, none⟩) rfl rfl fl28_0 rfl rfl ?_
       refine GO.fin (fun a hs => ?_)
       exact ⟨(.pointer (some ⟨b15, 0, none⟩)), _, _, _, _, _, _, _, _, _, _, _, _, _, _, by exact hs.setAt 0 rfl, HS, fun _ => rfl, f1, f2, f3, f4, f5, f6, f7, f8, f9, f10, f11, f12, f13, o4_0, o4_1⟩
      | 1, _ =>
       have hb0 : b 0 = true := hd 0 (by decide)
       obtain rfl := f0 hb0
       refine GO.at hs ?_
       refine GO.ldBox (j := 0) HS rfl rfl rfl rfl na26 rfl ?_
       refine GO.fin (fun a hs => ?_)
       exact ⟨_, (.slice A11 t7.length c12), _, _, _, _, _, _, _, _, _, _, _, _, _, by exact hs.setAt 1 rfl, HS, f0, fun _ => rfl, f2, f3, f4, f5, f6, f7, f8, f9, f10, f11, f12, f13, o4_0, o4_1⟩
      | 2, _ =>
       refine GO.at hs ?_
       refine GO.move rfl rfl rfl ?_
       refine GO.fin (fun a hs => ?_)
       exact ⟨_, _, (.int .i64 t38), _, _, _, _, _, _, _, _, _, _, _, _, by exact hs.setAt 2 rfl, HS, f0, f1, fun _ => rfl, f3, f4, f5, f6, f7, f8, f9, f10, f11, f12, f13, o4_0, o4_1⟩
      | 3, _ =>
       refine GO.at hs ?_
       refine GO.fld (⟨b15, 0, none⟩) rfl rfl fl28_0 rfl rfl ?_
       refine GO.fin (fun a hs => ?_)
       exact ⟨_, _, _, (.pointer (some ⟨b15, 0, none⟩)), _, _, _, _, _, _, _, _, _, _, _, by exact hs.setAt 3 rfl, HS, f0, f1, f2, fun _ => rfl, f4, f5, f6, f7, f8, f9, f10, f11, f12, f13, o4_0, o4_1⟩
      | 4, _ =>
       have hb3 : b 3 = true := hd 3 (by decide)
       obtain rfl := f3 hb3
       refine GO.at hs ?_
       refine GO.ldBox (j := 0) HS rfl rfl rfl rfl na26 rfl ?_
       refine GO.fin (fun a hs => ?_)
       exact ⟨_, _, _, _, (.slice A11 t7.length c12), _, _, _, _, _, _, _, _, _, _, by exact hs.setAt 4 rfl, HS, f0, f1, f2, f3, fun _ => rfl, f5, f6, f7, f8, f9, f10, f11, f12, f13, o4_0, o4_1⟩
      | 5, _ =>
       refine GO.at hs ?_
       refine GO.move rfl rfl rfl ?_
       refine GO.fin (fun a hs => ?_)
       exact ⟨_, _, _, _, _, (.int .i64 t38), _, _, _, _, _, _, _, _, _, by exact hs.setAt 5 rfl, HS, f0, f1, f2, f3, f4, fun _ => rfl, f6, f7, f8, f9, f10, f11, f12, f13, o4_0, o4_1⟩
      | 6, _ =>
       have hb4 : b 4 = true := hd 4 (by decide)
       obtain rfl := f4 hb4
       have hb5 : b 5 = true := hd 5 (by decide)
       obtain rfl := f5 hb5
       have d14 : b 14 = false := bfalse (fun hh => hcl 14 (by decide) (hh) 6 (by decide)) hb
       obtain rfl := o4_0 d14
       refine GO.at hs ?_
       refine GO.ix rfl rfl rfl Try.underlying26 sz58 ((RdIn.own (j := 1) rfl) _ HS).2.2.1 c48.1 c48.2 rfl ?_
       refine GO.fin (fun a hs => ?_)
       exact ⟨_, _, _, _, _, _, (.pointer (some (ea A11 (t38.toNat * 5)))), _, _, _, _, _, _, _, _, by exact hs.setAt 6 rfl, HS, f0, f1, f2, f3, f4, f5, fun _ => rfl, f7, f8, f9, f10, f11, f12, f13, o4_0, o4_1⟩
      | 7, _ =>
       have hb6 : b 6 = true := hd 6 (by decide)
       obtain rfl := f6 hb6
       have d14 : b 14 = false := bfalse (fun hh => hcl 14 (by decide) (hh) 7 (by decide)) hb
       obtain rfl := o4_0 d14
       refine GO.at hs ?_
       refine GO.ldRdA (T := T_GCrossing) (n := t38.toNat) HS (RdIn.own (j := 1) rfl) rfl rfl (getD_eq (ltN c48) h50) ag58 rfl ?_
       refine GO.fin (fun a hs => ?_)
       exact ⟨_, _, _, _, _, _, _, (.agg [.int .i64 e49.A, .int .i64 e49.B, .int .i64 e49.C, .int .i64 e49.D, .int .i64 e49.Sign].toArray), _, _, _, _, _, _, _, by exact hs.setAt 7 rfl, HS, f0, f1, f2, f3, f4, f5, f6, fun _ => rfl, f8, f9, f10, f11, f12, f13, o4_0, o4_1⟩
      | 8, _ =>
       refine GO.at hs ?_
       refine GO.move rfl rfl rfl ?_
       refine GO.fin (fun a hs => ?_)
       exact ⟨_, _, _, _, _, _, _, _, (.int .i64 t39), _, _, _, _, _, _, by exact hs.setAt 8 rfl, HS, f0, f1, f2, f3, f4, f5, f6, f7, fun _ => rfl, f9, f10, f11, f12, f13, o4_0, o4_1⟩
      | 9, _ =>
       refine GO.at hs ?_
       refine GO.move rfl rfl rfl ?_
       refine GO.fin (fun a hs => ?_)
       exact ⟨_, _, _, _, _, _, _, _, _, (.int .i64 b_), _, _, _, _, _, by exact hs.setAt 9 rfl, HS, f0, f1, f2, f3, f4, f5, f6, f7, f8, fun _ => rfl, f10, f11, f12, f13, o4_0, o4_1⟩
      | 10, _ =>
       refine GO.at hs ?_
       refine GO.move rfl rfl rfl ?_
       refine GO.fin (fun a hs => ?_)
       exact ⟨_, _, _, _, _, _, _, _, _, _, (.int .i64 (w64 (2 * (d_Crossings.length : Int)))), _, _, _, _, by exact hs.setAt 10 rfl, HS, f0, f1, f2, f3, f4, f5, f6, f7, f8, f9, fun _ => rfl, f11, f12, f13, o4_0, o4_1⟩
      | 11, _ =>
       have hb9 : b 9 = true := hd 9 (by decide)
       obtain rfl := f9 hb9
       have hb10 : b 10 = true := hd 10 (by decide)
       obtain rfl := f10 hb10
       refine GO.at hs ?_
       refine GO.add rfl rfl rfl rfl ?_
       refine GO.fin (fun a hs => ?_)
       exact ⟨_, _, _, _, _, _, _, _, _, _, _, (.int .i64 (w64 (b_ + (w64 (2 * (d_Crossings.length : Int)))))), _, _, _, by exact hs.setAt 11 rfl, HS, f0, f1, f2, f3, f4, f5, f6, f7, f8, f9, f10, fun _ => rfl, f12, f13, o4_0, o4_1⟩
      | 12, _ =>
       have hb7 : b 7 = true := hd 7 (by decide)
       obtain rfl := f7 hb7
       have hb8 : b 8 = true := hd 8 (by decide)
       obtain rfl := f8 hb8
       have hb11 : b 11 = true := hd 11 (by decide)
       obtain rfl := f11 hb11
       refine GO.at hs ?_
       refine GO.fn rfl Try.func43 fok43.1 fok43.2 rfl rfl (spec_l25With.calls HS  h56) (fun _ wd57 ⟨h58, HS⟩ => ⟨_, h58, ?_⟩)
       refine GO.fin (fun a hs => ?_)
       exact ⟨_, _, _, _, _, _, _, _, _, _, _, _, (.agg [.int .i64 t51, .int .i64 t52, .int .i64 t53, .int .i64 t54, .int .i64 t55].toArray), _, _, by exact hs.setAt 12 rfl, HS, f0, f1, f2, f3, f4, f5, f6, f7, f8, f9, f10, f11, fun _ => rfl, f13, o4_0, o4_1⟩
      | 13, _ =>
       have hb1 : b 1 = true := hd 1 (by decide)
       obtain rfl := f1 hb1
       have hb2 : b 2 = true := hd 2 (by decide)
       obtain rfl := f2 hb2
       have d14 : b 14 = false := bfalse (fun hh => hcl 14 (by decide) (hh) 13 (by decide)) hb
       obtain rfl := o4_0 d14
       refine GO.at hs ?_
       refine GO.ix rfl rfl rfl Try.underlying26 sz58 ((RdIn.own (j := 1) rfl) _ HS).2.2.1 c48.1 c48.2 rfl ?_
       refine GO.fin (fun a hs => ?_)
       exact ⟨_, _, _, _, _, _, _, _, _, _, _, _, _, (.pointer (some (ea A11 (t38.toNat * 5)))), _, by exact hs.setAt 13 rfl, HS, f0, f1, f2, f3, f4, f5, f6, f7, f8, f9, f10, f11, f12, fun _ => rfl, o4_0, o4_1⟩
      | 14, _ =>
       have hb12 : b 12 = true := hd 12 (by decide)
       obtain rfl := f12 hb12
       have hb13 : b 13 = true := hd 13 (by decide)
       obtain rfl := f13 hb13
       obtain rfl := o4_0 hb
       refine GO.at hs ?_
       refine GO.stRow (T := T_GCrossing) (j := 1) (n := t38.toNat) (o := 0) (vs := [.int .i64 t51, .int .i64 t52, .int .i64 t53, .int .i64 t54, .int .i64 t55]) (⟨t51, t52, t53, t54, t55⟩ : GCrossing) HS rfl flat_flat rfl rfl rfl rfl (htA ag58) rfl (getD_some (d := z_GCrossing) (ltN c48)) rfl rfl ?_; intro wd59 HS
       refine GO.fin (fun a hs => ?_)
       exact ⟨_, _, _, _, _, _, _, _, _, _, _, _, _, _, Own T_GCrossing 58 A11 c12 (fun _ => ()) (t7.set t38.toNat (⟨t51, t52, t53, t54, t55⟩ : GCrossing)), hs, HS, f0, f1, f2, f3, f4, f5, f6, f7, f8, f9, f10, f11, f12, f13, fun h => Bool.noConfusion h, fun _ => rfl⟩
      | k + 15, hj => exact absurd hj (Nat.not_lt.2 (Nat.le_add_left 15 k))
     ·
      intro b a w hall
      refine exI fun Y1_0 => exI fun Y2_1 => exI fun Y3_2 => exI fun Y4_3 => exI fun Y5_4 => exI fun Y6_5 => exI fun Y7_6 => exI fun Y8_7 => exI fun Y9_8 => exI fun Y10_9 => exI fun Y11_10 => exI fun Y12_11 => exI fun Y13_12 => exI fun Y14_13 => exI fun O15_4 => anI fun hs => anI fun HS => anI fun f0 => anI fun f1 => anI fun f2 => anI fun f3 => anI fun f4 => anI fun f5 => anI fun f6 => anI fun f7 => anI fun f8 => anI fun f9 => anI fun f10 => anI fun f11 => anI fun f12 => anI fun f13 => anI fun o4_0 => fun o4_1 => ?_
      obtain rfl := f0 (hall 0 (by decide))
      obtain rfl := f1 (hall 1 (by decide))
      obtain rfl := f2 (hall 2 (by decide))
      obtain rfl := f3 (hall 3 (by decide))
      obtain rfl := f4 (hall 4 (by decide))
      obtain rfl := f5 (hall 5 (by decide))
      obtain rfl := f6 (hall 6 (by decide))
      obtain rfl := f7 (hall 7 (by decide))
      obtain rfl := f8 (hall 8 (by decide))
      obtain rfl := f9 (hall 9 (by decide))
      obtain rfl := f10 (hall 10 (by decide))
      obtain rfl := f11 (hall 11 (by decide))
      obtain rfl := f12 (hall 12 (by decide))
      obtain rfl := f13 (hall 13 (by decide))
      obtain rfl := o4_1 (hall 14 (by decide))
      refine G.at hs ?_
      replace HS := HS.boxEq (j := 0) (cs' := [.slice A11 (t7.set t38.toNat (⟨t51, t52, t53, t54, t55⟩ : GCrossing)).length c12, .int .i64 t8]) rfl (by simp only [List.length_set] <;> rfl)
      refine G.seq ?_
      obtain ⟨c60, H⟩ := ite_none H
      obtain ⟨e61, h62, H⟩ := bnd_elim H
      obtain ⟨t63, t64, t65, t66, t67, h68, H⟩ := bind5_elim H
      refine G.regionAny mixed (by decide) (fun b a w => ∃ (Y16_0 : Value) (Y17_1 : Value) (Y18_2 : Value) (Y19_3 : Value) (Y20_4 : Value) (Y21_5 : Value) (Y22_6 : Value) (Y23_7 : Value) (Y24_8 : Value) (Y25_9 : Value) (Y26_10 : Value) (Y27_11 : Value) (O28_4 : HObj), Sat 88 [(75, Y16_0), (76, Y17_1), (77, Y18_2), (78, Y19_3), (79, Y20_4), (80, Y21_5), (81, Y22_6), (82, Y23_7), (83, Y24_8), (84, Y25_9), (85, Y26_10), (86, Y27_11), (1, .int .i64 a_), (8, .pointer (some ⟨b5, 0, none⟩)), (10, .pointer (some ⟨b15, 0, none⟩)), (15, .int .i64 t43), (16, .int .i64 t44)] a ∧ St w0 w (Box b15 28 [.slice A11 (t7.set t38.toNat (⟨t51, t52, t53, t54, t55⟩ : GCrossing)).length c12, .int .i64 t8] :: O28_4 :: Box b5 28 [.slice none 0 0, .int .i64 0] :: Box b3 28 [.slice A_e_Crossings e_Crossings.length c_e_Crossings, .int .i64 e_Circles] :: Box b1 28 [.slice A_d_Crossings d_Crossings.length c_d_Crossings, .int .i64 d_Circles] :: L) ∧ (b 0 = true → Y16_0 = (.pointer (some ⟨b15, 0, none⟩))) ∧ (b 1 = true → Y17_1 = (.slice A11 (t7.set t38.toNat (⟨t51, t52, t53, t54, t55⟩ : GCrossing)).length c12)) ∧ (b 2 = true → Y18_2 = (.int .i64 t43)) ∧ (b 3 = true → Y19_3 = (.pointer (some ⟨b15, 0, none⟩))) ∧ (b 4 = true → Y20_4 = (.slice A11 (t7.set t38.toNat (⟨t51, t52, t53, t54, t55⟩ : GCrossing)).length c12)) ∧ (b 5 = true → Y21_5 = (.int .i64 t43)) ∧ (b 6 = true → Y22_6 = (.pointer (some (ea A11 (t43.toNat * 5))))) ∧ (b 7 = true → Y23_7 = (.agg [.int .i64 e61.A, .int .i64 e61.B, .int .i64 e61.C, .int .i64 e61.D, .int .i64 e61.Sign].toArray)) ∧ (b 8 = true → Y24_8 = (.int .i64 t44)) ∧ (b 9 = true → Y25_9 = (.int .i64 a_)) ∧ (b 10 = true → Y26_10 = (.agg [.int .i64 t63, .int .i64 t64, .int .i64 t65, .int .i64 t66, .int .i64 t67].toArray)) ∧ (b 11 = true → Y27_11 = (.pointer (some (ea A11 (t43.toNat * 5))))) ∧ (b 12 = false → O28_4 = Own T_GCrossing 58 A11 c12 (fun _ => ()) (t7.set t38.toNat (⟨t51, t52, t53, t54, t55⟩ : GCrossing))) ∧ (b 12 = true → O28_4 = Own T_GCrossing 58 A11 c12 (fun _ => ()) ((t7.set t38.toNat (⟨t51, t52, t53, t54, t55⟩ : GCrossing)).set t43.toNat (⟨t63, t64, t65, t66, t67⟩ : GCrossing)))) ?_ ?_ ?_
      ·
       intro a hs
       obtain ⟨Y16_0, hs⟩ := hs.ext (d := 75) rfl
       obtain ⟨Y17_1, hs⟩ := hs.ext (d := 76) rfl
       obtain ⟨Y18_2, hs⟩ := hs.ext (d := 77) rfl
       obtain ⟨Y19_3, hs⟩ := hs.ext (d := 78) rfl
       obtain ⟨Y20_4, hs⟩ := hs.ext (d := 79) rfl
       obtain ⟨Y21_5, hs⟩ := hs.ext (d := 80) rfl
       obtain ⟨Y22_6, hs⟩ := hs.ext (d := 81) rfl
       obtain ⟨Y23_7, hs⟩ := hs.ext (d := 82) rfl
       obtain ⟨Y24_8, hs⟩ := hs.ext (d := 83) rfl
       obtain ⟨Y25_9, hs⟩ := hs.ext (d := 84) rfl
       obtain ⟨Y26_10, hs⟩ := hs.ext (d := 85) rfl
       obtain ⟨Y27_11, hs⟩ := hs.ext (d := 86) rfl
       exact ⟨Y16_0, Y17_1, Y18_2, Y19_3, Y20_4, Y21_5, Y22_6, Y23_7, Y24_8, Y25_9, Y26_10, Y27_11, Own T_GCrossing 58 A11 c12 (fun _ => ()) (t7.set t38.toNat (⟨t51, t52, t53, t54, t55⟩ : GCrossing)), hs.weak ⟨rfl, rfl, rfl, rfl, rfl, rfl, rfl, rfl, rfl, rfl, rfl, rfl, rfl, rfl, rfl, rfl, rfl, trivial⟩, (HS.drew.pk 5 [0, 1, 2, 3, 4] rfl), fun h => Bool.noConfusion h, fun h => Bool.noConfusion h, fun h => Bool.noConfusion h, fun h => Bool.noConfusion h, fun h => Bool.noConfusion h, fun h => Bool.noConfusion h, fun h => Bool.noConfusion h, fun h => Bool.noConfusion h, fun h => Bool.noConfusion h, fun h => Bool.noConfusion h, fun h => Bool.noConfusion h, fun h => Bool.noConfusion h, fun _ => rfl, fun h => Bool.noConfusion h⟩
      ·
       intro j hj b a w
       refine exI fun Y16_0 => exI fun Y17_1 => exI fun Y18_2 => exI fun Y19_3 => exI fun Y20_4 => exI fun Y21_5 => exI fun Y22_6 => exI fun Y23_7 => exI fun Y24_8 => exI fun Y25_9 => exI fun Y26_10 => exI fun Y27_11 => exI fun O28_4 => anI fun hs => anI fun HS => anI fun f0 => anI fun f1 => anI fun f2 => anI fun f3 => anI fun f4 => anI fun f5 => anI fun f6 => anI fun f7 => anI fun f8 => anI fun f9 => anI fun f10 => anI fun f11 => anI fun o4_0 => fun o4_1 hb hd hcl => ?_
       match j, hj with
       | 0, _ =>
        refine GO.at hs ?_
        refine GO.fld (⟨b15, 0, none⟩) rfl rfl fl28_0 rfl rfl ?_
        refine GO.fin (fun a hs => ?_)
        exact ⟨(.pointer (some ⟨b15, 0, none⟩)), _, _, _, _, _, _, _, _, _, _, _, _, by exact hs.setAt 0 rfl, HS, fun _ => rfl, f1, f2, f3, f4, f5, f6, f7, f8, f9, f10, f11, o4_0, o4_1⟩
       | 1, _ =>
        have hb0 : b 0 = true := hd 0 (by decide)
        obtain rfl := f0 hb0
        refine GO.at hs ?_
        refine GO.ldBox (j := 0) HS rfl rfl rfl rfl na26 rfl ?_
        refine GO.fin (fun a hs => ?_)
        exact ⟨_, (.slice A11 (t7.set t38.toNat (⟨t51, t52, t53, t54, t55⟩ : GCrossing)).length c12), _, _, _, _, _, _, _, _, _, _, _, by exact hs.setAt 1 rfl, HS, f0, fun _ => rfl, f2, f3, f4, f5, f6, f7, f8, f9, f10, f11, o4_0, o4_1⟩
       | 2, _ =>
        refine GO.at hs ?_
        refine GO.move rfl rfl rfl ?_
        refine GO.fin (fun a hs => ?_)
        exact ⟨_, _, (.int .i64 t43), _, _, _, _, _, _, _, _, _, _, by exact hs.setAt 2 rfl, HS, f0, f1, fun _ => rfl, f3, f4, f5, f6, f7, f8, f9, f10, f11, o4_0, o4_1⟩
       | 3, _ =>
        refine GO.at hs ?_
        refine GO.fld (⟨b15, 0, none⟩) rfl rfl fl28_0 rfl rfl ?_
        refine GO.fin (fun a hs => ?_)
        exact ⟨_, _, _, (.pointer (some ⟨b15, 0, none⟩)), _, _, _, _, _, _, _, _, _, by exact hs.setAt 3 rfl, HS, f0, f1, f2, fun _ => rfl, f4, f5, f6, f7, f8, f9, f10, f11, o4_0, o4_1⟩
       | 4, _ =>
        have hb3 : b 3 = true := hd 3 (by decide)
        obtain rfl := f3 hb3
        refine GO.at hs ?_
        refine GO.ldBox (j := 0) HS rfl rfl rfl rfl na26 rfl ?_
        refine GO.fin (fun a hs => ?_)
        exact ⟨_, _, _, _, (.slice A11 (t7.set t38.toNat (⟨t51, t52, t53, t54, t55⟩ : GCrossing)).length c12), _, _, _, _, _, _, _, _, by exact hs.setAt 4 rfl, HS, f0, f1, f2, f3, fun _ => rfl, f5, f6, f7, f8, f9, f10, f11, o4_0, o4_1⟩
       | 5, _ =>
        refine GO.at hs ?_
        refine GO.move rfl rfl rfl ?_
        refine GO.fin (fun a hs => ?_)
        exact ⟨_, _, _, _, _, (.int .i64 t43), _, _, _, _, _, _, _, by exact hs.setAt 5 rfl, HS, f0, f1, f2, f3, f4, fun _ => rfl, f6, f7, f8, f9, f10, f11, o4_0, o4_1⟩
       | 6, _ =>
        have hb4 : b 4 = true := hd 4 (by decide)
        obtain rfl := f4 hb4
        have hb5 : b 5 = true := hd 5 (by decide)
        obtain rfl := f5 hb5
        have d12 : b 12 = false := bfalse (fun hh => hcl 12 (by decide) (hh) 6 (by decide)) hb
        obtain rfl := o4_0 d12
        refine GO.at hs ?_
        refine GO.ix rfl rfl rfl Try.underlying26 sz58 ((RdIn.own (j := 1) rfl) _ HS).2.2.1 c60.1 c60.2 rfl ?_
        refine GO.fin (fun a hs => ?_)
        exact ⟨_, _, _, _, _, _, (.pointer (some (ea A11 (t43.toNat * 5)))), _, _, _, _, _, _, by exact hs.setAt 6 rfl, HS, f0, f1, f2, f3, f4, f5, fun _ => rfl, f7, f8, f9, f10, f11, o4_0, o4_1⟩
       | 7, _ =>
        have hb6 : b 6 = true := hd 6 (by decide)
        obtain rfl := f6 hb6
        have d12 : b 12 = false := bfalse (fun hh => hcl 12 (by decide) (hh) 7 (by decide)) hb
        obtain rfl := o4_0 d12
        refine GO.at hs ?_
        refine GO.ldRdA (T := T_GCrossing) (n := t43.toNat) HS (RdIn.own (j := 1) rfl) rfl rfl (getD_eq (ltN c60) h62) ag58 rfl ?_
        refine GO.fin (fun a hs => ?_)
        exact ⟨_, _, _, _, _, _, _, (.agg [.int .i64 e61.A, .int .i64 e61.B, .int .i64 e61.C, .int .i64 e61.D, .int .i64 e61.Sign].toArray), _, _, _, _, _, by exact hs.setAt 7 rfl, HS, f0, f1, f2, f3, f4, f5, f6, fun _ => rfl, f8, f9, f10, f11, o4_0, o4_1⟩
       | 8, _ =>
        refine GO.at hs ?_
        refine GO.move rfl rfl rfl ?_
        refine GO.fin (fun a hs => ?_)
        exact ⟨_, _, _, _, _, _, _, _, (.int .i64 t44), _, _, _, _, by exact hs.setAt 8 rfl, HS, f0, f1, f2, f3, f4, f5, f6, f7, fun _ => rfl, f9, f10, f11, o4_0, o4_1⟩
       | 9, _ =>
        refine GO.at hs ?_
        refine GO.move rfl rfl rfl ?_
        refine GO.fin (fun a hs => ?_)
        exact ⟨_, _, _, _, _, _, _, _, _, (.int .i64 a_), _, _, _, by exact hs.setAt 9 rfl, HS, f0, f1, f2, f3, f4, f5, f6, f7, f8, fun _ => rfl, f10, f11, o4_0, o4_1⟩
       | 10, _ =>
        have hb7 : b 7 = true := hd 7 (by decide)
        obtain rfl := f7 hb7
        have hb8 : b 8 = true := hd 8 (by decide)
        obtain rfl := f8 hb8
        have hb9 : b 9 = true := hd 9 (by decide)
        obtain rfl := f9 hb9
        refine GO.at hs ?_
        refine GO.fn rfl Try.func43 fok43.1 fok43.2 rfl rfl (spec_l25With.calls HS  h68) (fun _ wd69 ⟨h70, HS⟩ => ⟨_, h70, ?_⟩)
        refine GO.fin (fun a hs => ?_)
        exact ⟨_, _, _, _, _, _, _, _, _, _, (.agg [.int .i64 t63, .int .i64 t64, .int .i64 t65, .int .i64 t66, .int .i64 t67].toArray), _, _, by exact hs.setAt 10 rfl, HS, f0, f1, f2, f3, f4, f5, f6, f7, f8, f9, fun _ => rfl, f11, o4_0, o4_1⟩
       | 11, _ =>
        have hb1 : b 1 = true := hd 1 (by decide)
        obtain rfl := f1 hb1
        have hb2 : b 2 = true := hd 2 (by decide)
        obtain rfl := f2 hb2
        have d12 : b 12 = false := bfalse (fun hh => hcl 12 (by decide) (hh) 11 (by decide)) hb
        obtain rfl := o4_0 d12
        refine GO.at hs ?_
        refine GO.ix rfl rfl rfl Try.underlying26 sz58 ((RdIn.own (j := 1) rfl) _ HS).2.2.1 c60.1 c60.2 rfl ?_
        refine GO.fin (fun a hs => ?_)
        exact ⟨_, _, _, _, _, _, _, _, _, _, _, (.pointer (some (ea A11 (t43.toNat * 5)))), _, by exact hs.setAt 11 rfl, HS, f0, f1, f2, f3, f4, f5, f6, f7, f8, f9, f10, fun _ => rfl, o4_0, o4_1⟩
       | 12, _ =>
        have hb10 : b 10 = true := hd 10 (by decide)
        obtain rfl := f10 hb10
        have hb11 : b 11 = true := hd 11 (by decide)
        obtain rfl := f11 hb11
        obtain rfl := o4_0 hb
        refine GO.at hs ?_
        refine GO.stRow (T := T_GCrossing) (j := 1) (n := t43.toNat) (o := 0) (vs := [.int .i64 t63, .int .i64 t64, .int .i64 t65, .int .i64 t66, .int .i64 t67]) (⟨t63, t64, t65, t66, t67⟩ : GCrossing) HS rfl flat_flat rfl rfl rfl rfl (htA ag58) rfl (getD_some (d := z_GCrossing) (ltN c60)) rfl rfl ?_; intro wd71 HS
        refine GO.fin (fun a hs => ?_)
        exact ⟨_, _, _, _, _, _, _, _, _, _, _, _, Own T_GCrossing 58 A11 c12 (fun _ => ()) ((t7.set t38.toNat (⟨t51, t52, t53, t54, t55⟩ : GCrossing)).set t43.toNat (⟨t63, t64, t65, t66, t67⟩ : GCrossing)), hs, HS, f0, f1, f2, f3, f4, f5, f6, f7, f8, f9, f10, f11, fun h => Bool.noConfusion h, fun _ => rfl⟩
       | k + 13, hj => exact absurd hj (Nat.not_lt.2 (Nat.le_add_left 13 k))
      ·
       intro b a w hall
       refine exI fun Y16_0 => exI fun Y17_1 => exI fun Y18_2 => exI fun Y19_3 => exI fun Y20_4 => exI fun Y21_5 => exI fun Y22_6 => exI fun Y23_7 => exI fun Y24_8 => exI fun Y25_9 => exI fun Y26_10 => exI fun Y27_11 => exI fun O28_4 => anI fun hs => anI fun HS => anI fun f0 => anI fun f1 => anI fun f2 => anI fun f3 => anI fun f4 => anI fun f5 => anI fun f6 => anI fun f7 => anI fun f8 => anI fun f9 => anI fun f10 => anI fun f11 => anI fun o4_0 => fun o4_1 => ?_
       obtain rfl := f0 (hall 0 (by decide))
       obtain rfl := f1 (hall 1 (by decide))
       obtain rfl := f2 (hall 2 (by decide))
       obtain rfl := f3 (hall 3 (by decide))
       obtain rfl := f4 (hall 4 (by decide))
       obtain rfl := f5 (hall 5 (by decide))
       obtain rfl := f6 (hall 6 (by decide))
       obtain rfl := f7 (hall 7 (by decide))
       obtain rfl := f8 (hall 8 (by decide))
       obtain rfl := f9 (hall 9 (by decide))
       obtain rfl := f10 (hall 10 (by decide))
       obtain rfl := f11 (hall 11 (by decide))
       obtain rfl := o4_1 (hall 12 (by decide))
       refine G.at hs ?_
       replace HS := HS.boxEq (j := 0) (cs' := [.slice A11 ((t7.set t38.toNat (⟨t51, t52, t53, t54, t55⟩ : GCrossing)).set t43.toNat (⟨t63, t64, t65, t66, t67⟩ : GCrossing)).length c12, .int .i64 t8]) rfl (by simp only [List.length_set] <;> rfl)
       refine G.seq ?_
       refine G.region ?_
       refine GO.ldBoxA (j := 0) ([.slice A11 ((t7.set t38.toNat (⟨t51, t52, t53, t54, t55⟩ : GCrossing)).set t43.toNat (⟨t63, t64, t65, t66, t67⟩ : GCrossing)).length c12, .int .i64 t8]) HS rfl rfl rfl rfl ag28 rfl ?_
       refine GO.stBox (j := 2) (vs := [.slice A11 ((t7.set t38.toNat (⟨t51, t52, t53, t54, t55⟩ : GCrossing)).set t43.toNat (⟨t63, t64, t65, t66, t67⟩ : GCrossing)).length c12, .int .i64 t8]) ([.slice A11 ((t7.set t38.toNat (⟨t51, t52, t53, t54, t55⟩ : GCrossing)).set t43.toNat (⟨t63, t64, t65, t66, t67⟩ : GCrossing)).length c12, .int .i64 t8]) HS rfl rfl rfl rfl rfl (htA ag28) rfl rfl rfl ?_; intro wd72 HS
       refine GO.assign rfl rfl rfl ?_
       refine GO.nil ?_
       obtain ⟨rfl, rfl, rfl⟩ := some3 H
       exact G.ret2 _ _ Try.func19 rfl (Res1.boxA (j := 2) (vs := [.slice A11 ((t7.set t38.toNat (⟨t51, t52, t53, t54, t55⟩ : GCrossing)).set t43.toNat (⟨t63, t64, t65, t66, t67⟩ : GCrossing)).length c12, .int .i64 t8]) HS rfl rfl rfl ag28) rfl ⟨_, _, rfl, (HS.pk 5 [1] rfl)⟩
    ·
     refine G.yesB rfl (congrArg Bool.not (bnot_of c37)) ?_
     refine G.seq ?_
     refine G.region ?_
     refine GO.buildV (.agg [.slice none 0 0, .int .i64 0].toArray) rfl rfl (fun _ => by kernel_rfl) rfl ?_
     refine GO.stBox (j := 2) (vs := [.slice none 0 0, .int .i64 0]) ([.slice none 0 0, .int .i64 0]) HS rfl rfl rfl rfl rfl (htA ag28) rfl rfl rfl ?_; intro wd73 HS
     refine GO.assign rfl rfl rfl ?_
     refine GO.nil ?_
     replace HS := HS.nilRow T_GCrossing 58 (fun _ => ())
     obtain ⟨rfl, rfl, rfl⟩ := some3 H
     exact G.ret2 _ _ Try.func19 rfl (Res1.boxA (j := 3) (vs := [.slice none 0 0, .int .i64 0]) HS rfl rfl rfl ag28) rfl ⟨_, _, rfl, (HS.pk 6 [0] rfl)⟩
   ·
    refine G.region ?_
    refine GO.move rfl rfl rfl ?_
    refine GO.move rfl rfl rfl ?_
    refine GO.sub rfl rfl rfl rfl ?_
    refine GO.fn rfl Try.func41 fok41.1 fok41.2 rfl rfl (spec_l01In.calls HS  h29) (fun _ wd30 ⟨h31, HS⟩ => ⟨_, h31, ?_⟩)
    refine GO.not rfl rfl rfl ?_
    refine GO.move rfl rfl rfl ?_
    refine GO.known (t := 36) rfl (congrArg Bool.not (bnot_of c32)) ?_
    refine GO.off rfl rfl rfl rfl rfl rfl ?_
    refine GO.off rfl rfl rfl rfl rfl rfl ?_
    refine GO.off rfl rfl rfl rfl rfl rfl ?_
    refine GO.off rfl rfl rfl rfl rfl rfl ?_
    refine GO.off rfl rfl rfl rfl rfl rfl ?_
    refine GO.off rfl rfl rfl rfl rfl rfl ?_
    refine GO.off rfl rfl rfl rfl rfl rfl ?_
    refine GO.off rfl rfl rfl rfl rfl rfl ?_
    refine GO.pickT rfl rfl rfl rfl rfl ?_
    refine GO.nil ?_
    refine G.yesB rfl rfl ?_
    refine G.seq ?_
    refine G.region ?_
    refine GO.buildV (.agg [.slice none 0 0, .int .i64 0].toArray) rfl rfl (fun _ => by kernel_rfl) rfl ?_
    refine GO.stBox (j := 2) (vs := [.slice none 0 0, .int .i64 0]) ([.slice none 0 0, .int .i64 0]) HS rfl rfl rfl rfl rfl (htA ag28) rfl rfl rfl ?_; intro wd74 HS
    refine GO.assign rfl rfl rfl ?_
    refine GO.nil ?_
    replace HS := HS.nilRow T_GCrossing 58 (fun _ => ())
    obtain ⟨rfl, rfl, rfl⟩ := some3 H
    exact G.ret2 _ _ Try.func19 rfl (Res1.boxA (j := 3) (vs := [.slice none 0 0, .int .i64 0]) HS rfl rfl rfl ag28) rfl ⟨_, _, rfl, (HS.pk 6 [0] rfl)⟩
  ·
   refine G.yesB rfl (congrArg Bool.not (decide_eq_false c18)) ?_
   refine G.seq ?_
   refine G.region ?_
   refine GO.buildV (.agg [.slice none 0 0, .int .i64 0].toArray) rfl rfl (fun _ => by kernel_rfl) rfl ?_
   refine GO.move rfl rfl rfl ?_
   refine GO.stBox (j := 2) (vs := [.slice none 0 0, .int .i64 0]) ([.slice none 0 0, .int .i64 0]) HS rfl rfl rfl rfl rfl (htA ag28) rfl rfl rfl ?_; intro wd75 HS
   refine GO.assign rfl rfl rfl ?_
   refine GO.nil ?_
   replace HS := HS.nilRow T_GCrossing 58 (fun _ => ())
   obtain ⟨rfl, rfl, rfl⟩ := some3 H
   exact G.ret2 _ _ Try.func19 rfl (Res1.boxA (j := 3) (vs := [.slice none 0 0, .int .i64 0]) HS rfl rfl rfl ag28) rfl ⟨_, _, rfl, (HS.pk 6 [0] rfl)⟩

set_option maxRecDepth 20000 in
set_option maxHeartbeats 40000000 in
theorem impl_size_impl_Crossing.calls {w0 w : World} {L : List HObj} {list : List GCrossing} {A_list : Option Addr} {c_list : Nat} {r1 : Int} (HS : St w0 w (L)) (h_list : RdIn w0 L T_GCrossing A_list c_list (fun _ => ()) list) (H : impl_size_impl_Crossing.f list = some r1) :
    Calls Try.prog 56 #[.slice A_list list.length c_list] w (impl_size_impl_Crossing.post w0 L list A_list c_list r1) := by
  unfold impl_size_impl_Crossing.f at H
  refine Calls.of_G Try.func56 rfl rfl rfl ?_
  refine G.seq ?_
  refine G.region ?_
  refine GO.assign rfl rfl rfl ?_
  refine GO.nil ?_
  refine G.seq ?_
  refine G.region ?_
  refine GO.move rfl rfl rfl ?_
  refine GO.lenS rfl rfl Try.underlying26 rfl ?_
  refine GO.assign rfl rfl rfl ?_
  refine GO.nil ?_
  obtain rfl := Option.some.inj H
  exact G.ret1 _ Try.func56 rfl rfl ⟨rfl, HS⟩

set_option maxRecDepth 20000 in
set_option maxHeartbeats 40000000 in
theorem impl_inRange.calls {w0 w : World} {L : List HObj} {x : Int} {low : Int} {high : Int} {r1 : Bool} (HS : St w0 w (L)) (H : impl_inRange.f x low high = some r1) :
    Calls Try.prog 47 #[.int .i64 x, .int .i64 low, .int .i64 high] w (impl_inRange.post w0 L x low high r1) := by
  unfold impl_inRange.f at H
  refine Calls.of_G Try.func47 rfl rfl rfl ?_
  refine G.seq ?_
  refine G.region ?_
  refine GO.assign rfl rfl rfl ?_
  refine GO.nil ?_
  refine G.seq ?_
  rcases ite_elim H with ⟨c1, H⟩ | ⟨c1, H⟩
  ·
   refine G.region ?_
   refine GO.move rfl rfl rfl ?_
   refine GO.move rfl rfl rfl ?_
   refine GO.leq rfl rfl rfl rfl ?_
   refine GO.move rfl rfl rfl ?_
   refine GO.known (t := 10) rfl (decide_eq_true c1) ?_
   refine GO.on rfl rfl rfl rfl ?_
   refine GO.move rfl rfl rfl ?_
   refine GO.back ?_
   refine GO.on rfl rfl rfl rfl ?_
   refine GO.move rfl rfl rfl ?_
   refine GO.back ?_
   refine GO.on rfl rfl rfl rfl ?_
   refine GO.leq rfl rfl rfl rfl ?_
   refine GO.back ?_
   refine GO.pickT rfl rfl rfl rfl rfl ?_
   refine GO.assign rfl rfl rfl ?_
   refine GO.nil ?_
   obtain rfl := Option.some.inj H
   exact G.ret1 _ Try.func47 rfl rfl ⟨rfl, HS⟩
  ·
   refine G.region ?_
   refine GO.move rfl rfl rfl ?_
   refine GO.move rfl rfl rfl ?_
   refine GO.leq rfl rfl rfl rfl ?_
   refine GO.move rfl rfl rfl ?_
   refine GO.known (t := 10) rfl (decide_eq_false c1) ?_
   refine GO.off rfl rfl rfl rfl rfl rfl ?_
   refine GO.off rfl rfl rfl rfl rfl rfl ?_
   refine GO.off rfl rfl rfl rfl rfl rfl ?_
   refine GO.pickF rfl rfl rfl rfl rfl ?_
   refine GO.assign rfl rfl rfl ?_
   refine GO.nil ?_
   obtain rfl := Option.some.inj H
   exact G.ret1 _ Try.func47 rfl rfl ⟨rfl, HS⟩

set_option maxRecDepth 20000 in
set_option maxHeartbeats 40000000 in
theorem impl_Diagram_drawing_fn1.calls {w0 w : World} {L : List HObj} {c_A : Int} {c_B : Int} {c_C : Int} {c_D : Int} {c_Sign : Int} {r1 : Bool} (HS : St w0 w (L)) (H : impl_Diagram_drawing_fn1.f c_A c_B c_C c_D c_Sign = some r1) :
    Calls Try.prog 109 #[.agg [.int .i64 c_A, .int .i64 c_B, .int .i64 c_C, .int .i64 c_D, .int .i64 c_Sign].toArray] w (impl_Diagram_drawing_fn1.post w0 L c_A c_B c_C c_D c_Sign r1) := by
  unfold impl_Diagram_drawing_fn1.f at H
  refine Calls.of_G Try.func109 rfl rfl rfl ?_
  refine G.seq ?_
  refine G.region ?_
  refine GO.box (cs := [.int .i64 c_A, .int .i64 c_B, .int .i64 c_C, .int .i64 c_D, .int .i64 c_Sign]) HS rfl rfl rfl rfl ?_; intro b1 wd2 HS
  refine GO.assign rfl rfl rfl ?_
  refine GO.nil ?_
  refine G.seq ?_
  rcases ite_elim H with ⟨c3, H⟩ | ⟨c3, H⟩
  ·
   refine G.region ?_
   refine GO.fld (⟨b1, 4, none⟩) rfl rfl fl58_4 rfl rfl ?_
   refine GO.ldBox (j := 0) HS rfl rfl rfl rfl na2 rfl ?_
   refine GO.neq rfl rfl rfl rfl ?_
   refine GO.move rfl rfl rfl ?_
   refine GO.known (t := 6) rfl (congrArg Bool.not (decide_eq_true c3)) ?_
   refine GO.off rfl rfl rfl rfl rfl rfl ?_
   refine GO.off rfl rfl rfl rfl rfl rfl ?_
   refine GO.off rfl rfl rfl rfl rfl rfl ?_
   refine GO.pickF rfl rfl rfl rfl rfl ?_
   refine GO.assign rfl rfl rfl ?_
   refine GO.nil ?_
   obtain rfl := Option.some.inj H
   exact G.ret1 _ Try.func109 rfl rfl ⟨rfl, (HS.pk 1 [] rfl)⟩
  ·
   refine G.region ?_
   refine GO.fld (⟨b1, 4, none⟩) rfl rfl fl58_4 rfl rfl ?_
   refine GO.ldBox (j := 0) HS rfl rfl rfl rfl na2 rfl ?_
   refine GO.neq rfl rfl rfl rfl ?_
   refine GO.move rfl rfl rfl ?_
   refine GO.known (t := 6) rfl (congrArg Bool.not (decide_eq_false c3)) ?_
   refine GO.on rfl rfl rfl rfl ?_
   refine GO.fld (⟨b1, 4, none⟩) rfl rfl fl58_4 rfl rfl ?_
   refine GO.back ?_
   refine GO.on rfl rfl rfl rfl ?_
   refine GO.ldBox (j := 0) HS rfl rfl rfl rfl na2 rfl ?_
   refine GO.back ?_
   refine GO.on rfl rfl rfl rfl ?_
   refine GO.neq rfl rfl rfl rfl ?_
   refine GO.back ?_
   refine GO.pickT rfl rfl rfl rfl rfl ?_
   refine GO.assign rfl rfl rfl ?_
   refine GO.nil ?_
   obtain rfl := Option.some.inj H
   exact G.ret1 _ Try.func109 rfl rfl ⟨rfl, (HS.pk 1 [] rfl)⟩

end Go.Proofs.Ytdafmbaeiefacaa
