/-
  The walks through the functions: a call comes to what its list function says.
-/
import Derived.Test.YtdafmbaeiefacaaAlF
set_option linter.unusedVariables false
set_option linter.unusedSimpArgs false
namespace Go.Proofs.Ytdafmbaeiefacaa
open Go.RowKit
set_option maxRecDepth 20000 in
set_option maxHeartbeats 40000000 in
theorem laws_szCrossingS.calls {w0 w : World} {L : List HObj} {a_ : List GCrossing} {left : Int} {A_a_ : Option Addr} {c_a_ : Nat} {r1 : Int} (HS : St w0 w (L)) (h_a_ : RdIn w0 L T_GCrossing A_a_ c_a_ (fun _ => ()) a_) (H : laws_szCrossingS.f a_ left = some r1) :
    Calls Try.prog 39 #[.slice A_a_ a_.length c_a_, .int .i64 left] w (laws_szCrossingS.post w0 L a_ left A_a_ c_a_ r1) := by
  unfold laws_szCrossingS.f at H
  refine Calls.of_G Try.func39 rfl rfl rfl ?_
  refine G.seq ?_
  refine G.region ?_
  refine GO.assign rfl rfl rfl ?_
  refine GO.nil ?_
  refine G.seq ?_
  refine G.region ?_
  refine GO.move rfl rfl rfl ?_
  refine GO.move rfl rfl rfl ?_
  refine GO.lenS rfl rfl Try.underlying22 rfl ?_
  refine GO.sub rfl rfl rfl rfl ?_
  refine GO.assign rfl rfl rfl ?_
  refine GO.nil ?_
  refine G.seq ?_
  refine G.seq ?_
  refine G.region ?_
  refine GO.move rfl rfl rfl ?_
  refine GO.lss rfl rfl rfl rfl ?_
  refine GO.nil ?_
  rcases ite_elim H with ⟨c1, H⟩ | ⟨c1, H⟩
  ·
   refine G.yesB rfl (decide_eq_true c1) ?_
   refine G.seq ?_
   refine G.region ?_
   refine GO.assign rfl rfl rfl ?_
   refine GO.nil ?_
   obtain rfl := Option.some.inj H
   exact G.ret1 _ Try.func39 rfl rfl ⟨rfl, HS⟩
  ·
   refine G.noB rfl (decide_eq_false c1) ?_
   refine G.skip ?_
   refine G.seq ?_
   refine G.region ?_
   refine GO.move rfl rfl rfl ?_
   refine GO.assign rfl rfl rfl ?_
   refine GO.nil ?_
   obtain rfl := Option.some.inj H
   exact G.ret1 _ Try.func39 rfl rfl ⟨rfl, HS⟩

set_option maxRecDepth 20000 in
set_option maxHeartbeats 40000000 in
theorem laws_szDiagram.calls {w0 w : World} {L : List HObj} {a_Crossings : List GCrossing} {a_Circles : Int} {left : Int} {A_a_Crossings : Option Addr} {c_a_Crossings : Nat} {r1 : Int} (HS : St w0 w (L)) (h_a_Crossings : RdIn w0 L T_GCrossing A_a_Crossings c_a_Crossings (fun _ => ()) a_Crossings) (H : laws_szDiagram.f a_Crossings a_Circles left = some r1) :
    Calls Try.prog 12 #[.agg [.slice A_a_Crossings a_Crossings.length c_a_Crossings, .int .i64 a_Circles].toArray, .int .i64 left] w (laws_szDiagram.post w0 L a_Crossings a_Circles left A_a_Crossings c_a_Crossings r1) := by
  unfold laws_szDiagram.f at H
  refine Calls.of_G Try.func12 rfl rfl rfl ?_
  refine G.seq ?_
  refine G.region ?_
  refine GO.box (cs := [.slice A_a_Crossings a_Crossings.length c_a_Crossings, .int .i64 a_Circles]) HS rfl rfl rfl rfl ?_; intro b1 wd2 HS
  refine GO.assign rfl rfl rfl ?_
  refine GO.nil ?_
  refine G.seq ?_
  obtain ⟨t3, h4, H⟩ := Option.bind_eq_some_iff.1 H
  refine G.region ?_
  refine GO.fld (⟨b1, 0, none⟩) rfl rfl fl24_0 rfl rfl ?_
  refine GO.ldBox (j := 0) HS rfl rfl rfl rfl na22 rfl ?_
  refine GO.move rfl rfl rfl ?_
  refine GO.fn rfl Try.func39 fok39.1 fok39.2 rfl rfl (laws_szCrossingS.calls HS (RdIn.drop 1 h_a_Crossings) h4) (fun _ wd5 ⟨h6, HS⟩ => ⟨_, h6, ?_⟩)
  refine GO.assign rfl rfl rfl ?_
  refine GO.nil ?_
  refine G.seq ?_
  refine G.seq ?_
  refine G.region ?_
  refine GO.move rfl rfl rfl ?_
  refine GO.lss rfl rfl rfl rfl ?_
  refine GO.nil ?_
  rcases ite_elim H with ⟨c7, H⟩ | ⟨c7, H⟩
  ·
   refine G.yesB rfl (decide_eq_true c7) ?_
   refine G.seq ?_
   refine G.region ?_
   refine GO.assign rfl rfl rfl ?_
   refine GO.nil ?_
   obtain rfl := Option.some.inj H
   exact G.ret1 _ Try.func12 rfl rfl ⟨rfl, (HS.pk 1 [] rfl)⟩
  ·
   refine G.noB rfl (decide_eq_false c7) ?_
   refine G.skip ?_
   refine G.seq ?_
   refine G.region ?_
   refine GO.move rfl rfl rfl ?_
   refine GO.assign rfl rfl rfl ?_
   refine GO.nil ?_
   obtain rfl := Option.some.inj H
   exact G.ret1 _ Try.func12 rfl rfl ⟨rfl, (HS.pk 1 [] rfl)⟩

set_option maxRecDepth 20000 in
set_option maxHeartbeats 40000000 in
theorem laws_toCrossing.calls {w0 w : World} {L : List HObj} {a_A : Int} {a_B : Int} {a_C : Int} {a_D : Int} {a_Sign : Int} {r1 : Int} {r2 : Int} {r3 : Int} {r4 : Int} {r5 : Int} (HS : St w0 w (L)) (H : laws_toCrossing.f a_A a_B a_C a_D a_Sign = some (r1, r2, r3, r4, r5)) :
    Calls Try.prog 107 #[.agg [.int .i64 a_A, .int .i64 a_B, .int .i64 a_C, .int .i64 a_D, .int .i64 a_Sign].toArray] w (laws_toCrossing.post w0 L a_A a_B a_C a_D a_Sign r1 r2 r3 r4 r5) := by
  unfold laws_toCrossing.f at H
  refine Calls.of_G Try.func107 rfl rfl rfl ?_
  refine G.seq ?_
  refine G.region ?_
  refine GO.box (cs := [.int .i64 a_A, .int .i64 a_B, .int .i64 a_C, .int .i64 a_D, .int .i64 a_Sign]) HS rfl rfl rfl rfl ?_; intro b1 wd2 HS
  refine GO.alloc HS rfl zr58 rfl rfl ?_; intro b3 wd4 HS
  refine GO.nil ?_
  refine G.seq ?_
  refine G.region ?_
  refine GO.alloc HS rfl zr58 rfl rfl ?_; intro b5 wd6 HS
  refine GO.nil ?_
  refine G.seq ?_
  refine G.region ?_
  refine GO.fld (⟨b1, 0, none⟩) rfl rfl fl122_0 rfl rfl ?_
  refine GO.ldBox (j := 2) HS rfl rfl rfl rfl na2 rfl ?_
  refine GO.fld (⟨b5, 0, none⟩) rfl rfl fl58_0 rfl rfl ?_
  refine GO.stBox (j := 0) (vs := [.int .i64 a_A]) ([.int .i64 a_A, .int .i64 0, .int .i64 0, .int .i64 0, .int .i64 0]) HS rfl rfl rfl rfl rfl (htN na2 rfl) rfl rfl rfl ?_; intro wd7 HS
  refine GO.nil ?_
  refine G.seq ?_
  refine G.region ?_
  refine GO.fld (⟨b1, 1, none⟩) rfl rfl fl122_1 rfl rfl ?_
  refine GO.ldBox (j := 2) HS rfl rfl rfl rfl na2 rfl ?_
  refine GO.fld (⟨b5, 1, none⟩) rfl rfl fl58_1 rfl rfl ?_
  refine GO.stBox (j := 0) (vs := [.int .i64 a_B]) ([.int .i64 a_A, .int .i64 a_B, .int .i64 0, .int .i64 0, .int .i64 0]) HS rfl rfl rfl rfl rfl (htN na2 rfl) rfl rfl rfl ?_; intro wd8 HS
  refine GO.nil ?_
  refine G.seq ?_
  refine G.region ?_
  refine GO.fld (⟨b1, 2, none⟩) rfl rfl fl122_2 rfl rfl ?_
  refine GO.ldBox (j := 2) HS rfl rfl rfl rfl na2 rfl ?_
  refine GO.fld (⟨b5, 2, none⟩) rfl rfl fl58_2 rfl rfl ?_
  refine GO.stBox (j := 0) (vs := [.int .i64 a_C]) ([.int .i64 a_A, .int .i64 a_B, .int .i64 a_C, .int .i64 0, .int .i64 0]) HS rfl rfl rfl rfl rfl (htN na2 rfl) rfl rfl rfl ?_; intro wd9 HS
  refine GO.nil ?_
  refine G.seq ?_
  refine G.region ?_
  refine GO.fld (⟨b1, 3, none⟩) rfl rfl fl122_3 rfl rfl ?_
  refine GO.ldBox (j := 2) HS rfl rfl rfl rfl na2 rfl ?_
  refine GO.fld (⟨b5, 3, none⟩) rfl rfl fl58_3 rfl rfl ?_
  refine GO.stBox (j := 0) (vs := [.int .i64 a_D]) ([.int .i64 a_A, .int .i64 a_B, .int .i64 a_C, .int .i64 a_D, .int .i64 0]) HS rfl rfl rfl rfl rfl (htN na2 rfl) rfl rfl rfl ?_; intro wd10 HS
  refine GO.nil ?_
  refine G.seq ?_
  refine G.region ?_
  refine GO.fld (⟨b1, 4, none⟩) rfl rfl fl122_4 rfl rfl ?_
  refine GO.ldBox (j := 2) HS rfl rfl rfl rfl na2 rfl ?_
  refine GO.fld (⟨b5, 4, none⟩) rfl rfl fl58_4 rfl rfl ?_
  refine GO.stBox (j := 0) (vs := [.int .i64 a_Sign]) ([.int .i64 a_A, .int .i64 a_B, .int .i64 a_C, .int .i64 a_D, .int .i64 a_Sign]) HS rfl rfl rfl rfl rfl (htN na2 rfl) rfl rfl rfl ?_; intro wd11 HS
  refine GO.nil ?_
  refine G.seq ?_
  refine G.region ?_
  refine GO.ldBoxA (j := 0) ([.int .i64 a_A, .int .i64 a_B, .int .i64 a_C, .int .i64 a_D, .int .i64 a_Sign]) HS rfl rfl rfl rfl ag58 rfl ?_
  refine GO.stBox (j := 1) (vs := [.int .i64 a_A, .int .i64 a_B, .int .i64 a_C, .int .i64 a_D, .int .i64 a_Sign]) ([.int .i64 a_A, .int .i64 a_B, .int .i64 a_C, .int .i64 a_D, .int .i64 a_Sign]) HS rfl rfl rfl rfl rfl (htA ag58) rfl rfl rfl ?_; intro wd12 HS
  refine GO.nil ?_
  obtain ⟨rfl, rfl, rfl, rfl, rfl⟩ := some5 H
  exact G.ret1 _ Try.func107 rfl (Res1.boxA (j := 1) (vs := [.int .i64 a_A, .int .i64 a_B, .int .i64 a_C, .int .i64 a_D, .int .i64 a_Sign]) HS rfl rfl rfl ag58) ⟨rfl, (HS.pk 3 [] rfl)⟩

set_option maxRecDepth 20000 in
set_option maxHeartbeats 40000000 in
theorem laws_toCrossingS.calls {w0 w : World} {L : List HObj} {K : Nat} {a_ : List GCrossing} {A_a_ : Option Addr} {c_a_ : Nat} {r1 : List GCrossing} (HS : St w0 w (L)) (h_a_ : RdIn w0 L T_GCrossing A_a_ c_a_ (fun _ => ()) a_) (H : laws_toCrossingS.f K a_ = some r1) :
    Calls Try.prog 44 #[.slice A_a_ a_.length c_a_] w (laws_toCrossingS.post w0 L a_ A_a_ c_a_ r1) := by
  unfold laws_toCrossingS.f at H
  refine Calls.of_G Try.func44 rfl rfl rfl ?_
  refine G.seq ?_
  refine G.region ?_
  refine GO.assign rfl rfl rfl ?_
  refine GO.nil ?_
  refine G.seq ?_
  obtain ⟨c1, H⟩ := ite_none H
  obtain ⟨c2, H⟩ := ite_none H
  refine G.region ?_
  refine GO.move rfl rfl rfl ?_
  refine GO.lenS rfl rfl Try.underlying22 rfl ?_
  refine GO.make (T := T_GCrossing) z_GCrossing () HS flat_flat rfl rfl rfl Try.underlying26 inf58 rfl rfl rfl c1 c2 rfl ?_; intro b3 wd4 HS
  refine GO.assign rfl rfl rfl ?_
  refine GO.nil ?_
  refine G.seq ?_
  refine G.seq ?_
  refine G.region ?_
  refine GO.assign rfl rfl rfl ?_
  refine GO.nil ?_
  refine G.block ?_
  refine G.loop ?_
  refine G.name (fun k_l1 hk_l1 => ?_)
  have at_l1 : ∀ m_l1, m_l1 ≤ K → ∀ (out_19 : List GCrossing) (i_20 : Int) (w : World), laws_toCrossingS.l1 K m_l1 a_ out_19 i_20 = some r1 → St w0 w (Own T_GCrossing 58 (some ⟨b3, 0, none⟩) ((a_.length : Int).toNat) (fun _ => ()) out_19 :: L) → G Try.prog 44 23 [(0, .slice A_a_ a_.length c_a_), (3, .slice (some ⟨b3, 0, none⟩) out_19.length ((a_.length : Int).toNat)), (4, .int .i64 i_20)] k_l1 w (laws_toCrossingS.post w0 L a_ A_a_ c_a_ r1) := by
   intro m_l1
   induction m_l1 using Nat.strongRecOn with
   | _ m_l1 ih_l1 =>
    intro hm_l1 out_19 i_20 w H HS
    cases m_l1 with
    | zero => rw [laws_toCrossingS.l1] at H; cases H
    | succ n_l1 =>
     rw [laws_toCrossingS.l1] at H
     subst hk_l1
     refine G.seq ?_
     refine G.seq ?_
     refine G.region ?_
     refine GO.move rfl rfl rfl ?_
     refine GO.move rfl rfl rfl ?_
     refine GO.lenS rfl rfl Try.underlying22 rfl ?_
     refine GO.lss rfl rfl rfl rfl ?_
     refine GO.nil ?_
     rcases ite_elim H with ⟨c35, H⟩ | ⟨c35, H⟩
     ·
      refine G.yesB rfl (decide_eq_true c35) ?_
      refine G.skip ?_
      refine G.seq ?_
      refine G.block ?_
      obtain ⟨c36, H⟩ := ite_none H
      obtain ⟨e37, h38, H⟩ := bnd_elim H
      obtain ⟨t39, t40, t41, t42, t43, h44, H⟩ := bind5_elim H
      obtain ⟨c47, H⟩ := ite_none H
      refine G.region ?_
      refine GO.move rfl rfl rfl ?_
      refine GO.move rfl rfl rfl ?_
      refine GO.move rfl rfl rfl ?_
      refine GO.move rfl rfl rfl ?_
      refine GO.ix rfl rfl rfl Try.underlying22 sz122 ((RdIn.drop 1 h_a_) _ HS).2.2.1 c36.1 c36.2 rfl ?_
      refine GO.ldRdA (T := T_GCrossing) (n := i_20.toNat) HS (RdIn.drop 1 h_a_) rfl rfl (getD_eq (ltN c36) h38) ag122 rfl ?_
      refine GO.fn rfl Try.func107 fok107.1 fok107.2 rfl rfl (laws_toCrossing.calls HS  h44) (fun _ wd45 ⟨h46, HS⟩ => ⟨_, h46, ?_⟩)
      refine GO.ix rfl rfl rfl Try.underlying26 sz58 (fun _ => ⟨_, _, rfl⟩) c47.1 c47.2 rfl ?_
      refine GO.stRow (T := T_GCrossing) (j := 0) (n := i_20.toNat) (o := 0) (vs := [.int .i64 t39, .int .i64 t40, .int .i64 t41, .int .i64 t42, .int .i64 t43]) (⟨t39, t40, t41, t42, t43⟩ : GCrossing) HS rfl flat_flat rfl rfl rfl rfl (htA ag58) rfl (getD_some (d := z_GCrossing) (ltN c47)) rfl rfl ?_; intro wd48 HS
      refine GO.nil ?_
      refine G.len (t := 3) (m := (out_19.set i_20.toNat (⟨t39, t40, t41, t42, t43⟩ : GCrossing)).length) rfl (by simp only [List.length_set] <;> rfl) ?_
      refine G.blockEnd ?_
      refine G.region ?_
      refine GO.move rfl rfl rfl ?_
      refine GO.add rfl rfl rfl rfl ?_
      refine GO.assign rfl rfl rfl ?_
      refine GO.nil ?_
      refine G.again ?_
      refine G.weak ?_ (ih_l1 n_l1 (Nat.lt_succ_of_le (Nat.le_refl _)) (Nat.le_of_succ_le hm_l1) _ _ _ H HS)
      exact ⟨rfl, rfl, rfl, trivial⟩
     ·
      refine G.noB rfl (decide_eq_false c35) ?_
      refine G.exit rfl ?_
      refine G.seq ?_
      refine G.region ?_
      refine GO.move rfl rfl rfl ?_
      refine GO.assign rfl rfl rfl ?_
      refine GO.nil ?_
      obtain rfl := Option.some.inj H
      exact G.ret1 _ Try.func44 rfl rfl ⟨_, _, rfl, HS⟩
  refine G.weak ?_ (at_l1 K (Nat.le_refl _) _ _ _ H HS)
  exact ⟨rfl, rfl, rfl, trivial⟩

set_option maxRecDepth 20000 in
set_option maxHeartbeats 40000000 in
theorem laws_toDiagram.calls {w0 w : World} {L : List HObj} {K : Nat} {a_Crossings : List GCrossing} {a_Circles : Int} {A_a_Crossings : Option Addr} {c_a_Crossings : Nat} {r1 : List GCrossing} {r2 : Int} (HS : St w0 w (L)) (h_a_Crossings : RdIn w0 L T_GCrossing A_a_Crossings c_a_Crossings (fun _ => ()) a_Crossings) (H : laws_toDiagram.f K a_Crossings a_Circles = some (r1, r2)) :
    Calls Try.prog 14 #[.agg [.slice A_a_Crossings a_Crossings.length c_a_Crossings, .int .i64 a_Circles].toArray] w (laws_toDiagram.post w0 L a_Crossings a_Circles A_a_Crossings c_a_Crossings r1 r2) := by
  unfold laws_toDiagram.f at H
  refine Calls.of_G Try.func14 rfl rfl rfl ?_
  refine G.seq ?_
  refine G.region ?_
  refine GO.box (cs := [.slice A_a_Crossings a_Crossings.length c_a_Crossings, .int .i64 a_Circles]) HS rfl rfl rfl rfl ?_; intro b1 wd2 HS
  refine GO.alloc HS rfl zr28 rfl rfl ?_; intro b3 wd4 HS
  refine GO.nil ?_
  refine G.seq ?_
  refine G.region ?_
  refine GO.alloc HS rfl zr28 rfl rfl ?_; intro b5 wd6 HS
  refine GO.nil ?_
  refine G.seq ?_
  obtain ⟨t7, h8, H⟩ := Option.bind_eq_some_iff.1 H
  refine G.region ?_
  refine GO.fld (⟨b1, 0, none⟩) rfl rfl fl24_0 rfl rfl ?_
  refine GO.ldBox (j := 2) HS rfl rfl rfl rfl na22 rfl ?_
  refine GO.fn rfl Try.func44 fok44.1 fok44.2 rfl rfl (laws_toCrossingS.calls HS (RdIn.drop 3 h_a_Crossings) h8) (fun _ wd11 ⟨A9, c10, h12, HS⟩ => ⟨_, h12, ?_⟩)
  refine GO.fld (⟨b5, 0, none⟩) rfl rfl fl28_0 rfl rfl ?_
  refine GO.stBox (j := 1) (vs := [.slice A9 t7.length c10]) ([.slice A9 t7.length c10, .int .i64 0]) HS rfl rfl rfl rfl rfl (htN na26 rfl) rfl rfl rfl ?_; intro wd13 HS
  refine GO.nil ?_
  refine G.seq ?_
  refine G.region ?_
  refine GO.fld (⟨b1, 1, none⟩) rfl rfl fl24_1 rfl rfl ?_
  refine GO.ldBox (j := 3) HS rfl rfl rfl rfl na2 rfl ?_
  refine GO.fld (⟨b5, 1, none⟩) rfl rfl fl28_1 rfl rfl ?_
  refine GO.stBox (j := 1) (vs := [.int .i64 a_Circles]) ([.slice A9 t7.length c10, .int .i64 a_Circles]) HS rfl rfl rfl rfl rfl (htN na2 rfl) rfl rfl rfl ?_; intro wd14 HS
  refine GO.nil ?_
  refine G.seq ?_
  refine G.region ?_
  refine GO.ldBoxA (j := 1) ([.slice A9 t7.length c10, .int .i64 a_Circles]) HS rfl rfl rfl rfl ag28 rfl ?_
  refine GO.stBox (j := 2) (vs := [.slice A9 t7.length c10, .int .i64 a_Circles]) ([.slice A9 t7.length c10, .int .i64 a_Circles]) HS rfl rfl rfl rfl rfl (htA ag28) rfl rfl rfl ?_; intro wd15 HS
  refine GO.nil ?_
  obtain ⟨rfl, rfl⟩ := some2 H
  exact G.ret1 _ Try.func14 rfl (Res1.boxA (j := 2) (vs := [.slice A9 t7.length c10, .int .i64 a_Circles]) HS rfl rfl rfl ag28) ⟨_, _, rfl, (HS.pk 4 [0] rfl)⟩

set_option maxRecDepth 20000 in
set_option maxHeartbeats 40000000 in
theorem spec_l01In.calls {w0 w : World} {L : List HObj} {n_ : Int} {low : Int} {high : Int} {r1 : Bool} (HS : St w0 w (L)) (H : spec_l01In.f n_ low high = some r1) :
    Calls Try.prog 41 #[.int .i64 n_, .int .i64 low, .int .i64 high] w (spec_l01In.post w0 L n_ low high r1) := by
  unfold spec_l01In.f at H
  refine Calls.of_G Try.func41 rfl rfl rfl ?_
  refine G.seq ?_
  refine G.region ?_
  refine GO.assign rfl rfl rfl ?_
  refine GO.nil ?_
  refine G.seq ?_
  rcases ite_elim H with ⟨c1, H⟩ | ⟨c1, H⟩
  ·
   refine G.region ?_
   refine GO.move rfl rfl rfl ?_
   refine GO.move rfl rfl rfl ?_
   refine GO.geq rfl rfl rfl rfl ?_
   refine GO.move rfl rfl rfl ?_
   refine GO.known (t := 10) rfl (decide_eq_true c1) ?_
   refine GO.on rfl rfl rfl rfl ?_
   refine GO.move rfl rfl rfl ?_
   refine GO.back ?_
   refine GO.on rfl rfl rfl rfl ?_
   refine GO.move rfl rfl rfl ?_
   refine GO.back ?_
   refine GO.on rfl rfl rfl rfl ?_
   refine GO.leq rfl rfl rfl rfl ?_
   refine GO.back ?_
   refine GO.pickT rfl rfl rfl rfl rfl ?_
   refine GO.assign rfl rfl rfl ?_
   refine GO.nil ?_
   obtain rfl := Option.some.inj H
   exact G.ret1 _ Try.func41 rfl rfl ⟨rfl, HS⟩
  ·
   refine G.region ?_
   refine GO.move rfl rfl rfl ?_
   refine GO.move rfl rfl rfl ?_
   refine GO.geq rfl rfl rfl rfl ?_
   refine GO.move rfl rfl rfl ?_
   refine GO.known (t := 10) rfl (decide_eq_false c1) ?_
   refine GO.off rfl rfl rfl rfl rfl rfl ?_
   refine GO.off rfl rfl rfl rfl rfl rfl ?_
   refine GO.off rfl rfl rfl rfl rfl rfl ?_
   refine GO.pickF rfl rfl rfl rfl rfl ?_
   refine GO.assign rfl rfl rfl ?_
   refine GO.nil ?_
   obtain rfl := Option.some.inj H
   exact G.ret1 _ Try.func41 rfl rfl ⟨rfl, HS⟩

set_option maxRecDepth 20000 in
set_option maxHeartbeats 40000000 in
theorem spec_l25End.calls {w0 w : World} {L : List HObj} {x_A : Int} {x_B : Int} {x_C : Int} {x_D : Int} {x_Sign : Int} {p : Int} {r1 : Int} (HS : St w0 w (L)) (H : spec_l25End.f x_A x_B x_C x_D x_Sign p = some r1) :
    Calls Try.prog 105 #[.agg [.int .i64 x_A, .int .i64 x_B, .int .i64 x_C, .int .i64 x_D, .int .i64 x_Sign].toArray, .int .i64 p] w (spec_l25End.post w0 L x_A x_B x_C x_D x_Sign p r1) := by
  unfold spec_l25End.f at H
  refine Calls.of_G Try.func105 rfl rfl rfl ?_
  refine G.seq ?_
  refine G.region ?_
  refine GO.box (cs := [.int .i64 x_A, .int .i64 x_B, .int .i64 x_C, .int .i64 x_D, .int .i64 x_Sign]) HS rfl rfl rfl rfl ?_; intro b1 wd2 HS
  refine GO.assign rfl rfl rfl ?_
  refine GO.nil ?_
  refine G.seq ?_
  obtain ⟨c5, H⟩ := ite_none H
  refine G.region ?_
  refine GO.fld (⟨b1, 0, none⟩) rfl rfl fl58_0 rfl rfl ?_
  refine GO.ldBox (j := 0) HS rfl rfl rfl rfl na2 rfl ?_
  refine GO.fld (⟨b1, 1, none⟩) rfl rfl fl58_1 rfl rfl ?_
  refine GO.ldBox (j := 0) HS rfl rfl rfl rfl na2 rfl ?_
  refine GO.fld (⟨b1, 2, none⟩) rfl rfl fl58_2 rfl rfl ?_
  refine GO.ldBox (j := 0) HS rfl rfl rfl rfl na2 rfl ?_
  refine GO.fld (⟨b1, 3, none⟩) rfl rfl fl58_3 rfl rfl ?_
  refine GO.ldBox (j := 0) HS rfl rfl rfl rfl na2 rfl ?_
  refine GO.buildS (el := 2) ([.int .i64 x_A, .int .i64 x_B, .int .i64 x_C, .int .i64 x_D]) HS rfl rfl (fun _ => by kernel_rfl) rfl ?_; intro b3 wd4 HS
  refine GO.move rfl rfl rfl ?_
  replace HS := HS.boxRow (T := (TInt .i64)) (j := 0) rfl flat_flat (fun _ => ()) ([x_A, x_B, x_C, x_D] : List Int) rfl (bndL rfl)
  refine GO.lenC (t := 13) (m := ([x_A, x_B, x_C, x_D] : List Int).length) (c' := ([x_A, x_B, x_C, x_D] : List Int).length) rfl rfl rfl ?_
  refine GO.ix rfl rfl rfl Try.underlying43 sz2 (fun _ => ⟨_, _, rfl⟩) c5.1 c5.2 rfl ?_
  refine GO.ldRd (T := (TInt .i64)) (n := p.toNat) (o := 0) HS (RdIn.own (j := 0) rfl) rfl rfl (getD_some (d := 0) (ltN c5)) rfl rfl na2 rfl ?_
  refine GO.assign rfl rfl rfl ?_
  refine GO.nil ?_
  obtain rfl := Option.some.inj H
  exact G.ret1 _ Try.func105 rfl rfl ⟨rfl, (HS.pk 2 [] rfl)⟩

set_option maxRecDepth 20000 in
set_option maxHeartbeats 40000000 in
theorem spec_l25Enters.calls {w0 w : World} {L : List HObj} {x_A : Int} {x_B : Int} {x_C : Int} {x_D : Int} {x_Sign : Int} {p : Int} {r1 : Bool} (HS : St w0 w (L)) (H : spec_l25Enters.f x_A x_B x_C x_D x_Sign p = some r1) :
    Calls Try.prog 106 #[.agg [.int .i64 x_A, .int .i64 x_B, .int .i64 x_C, .int .i64 x_D, .int .i64 x_Sign].toArray, .int .i64 p] w (spec_l25Enters.post w0 L x_A x_B x_C x_D x_Sign p r1) := by
  unfold spec_l25Enters.f at H
  refine Calls.of_G Try.func106 rfl rfl rfl ?_
  refine G.seq ?_
  refine G.region ?_
  refine GO.box (cs := [.int .i64 x_A, .int .i64 x_B, .int .i64 x_C, .int .i64 x_D, .int .i64 x_Sign]) HS rfl rfl rfl rfl ?_; intro b1 wd2 HS
  refine GO.assign rfl rfl rfl ?_
  refine GO.nil ?_
  refine G.seq ?_
  rcases ite_elim H with ⟨c3, H⟩ | ⟨c3, H⟩
  ·
   refine G.region ?_
   refine GO.move rfl rfl rfl ?_
   refine GO.eql rfl rfl rfl rfl ?_
   refine GO.move rfl rfl rfl ?_
   refine GO.known (t := 7) rfl (decide_eq_true c3) ?_
   refine GO.off rfl rfl rfl rfl rfl rfl ?_
   refine GO.off rfl rfl rfl rfl rfl rfl ?_
   refine GO.off rfl rfl rfl rfl rfl rfl ?_
   refine GO.offU rfl rfl rfl rfl rfl rfl ?_
   refine GO.offU rfl rfl rfl rfl rfl rfl ?_
   refine GO.offU rfl rfl rfl rfl rfl rfl ?_
   refine GO.off rfl rfl rfl rfl rfl rfl ?_
   refine GO.pickT rfl rfl rfl rfl rfl ?_
   refine GO.move rfl rfl rfl ?_
   refine GO.off rfl rfl rfl rfl rfl rfl ?_
   refine GO.off rfl rfl rfl rfl rfl rfl ?_
   refine GO.off rfl rfl rfl rfl rfl rfl ?_
   refine GO.offU rfl rfl rfl rfl rfl rfl ?_
   refine GO.offU rfl rfl rfl rfl rfl rfl ?_
   refine GO.offU rfl rfl rfl rfl rfl rfl ?_
   refine GO.off rfl rfl rfl rfl rfl rfl ?_
   refine GO.pickT rfl rfl rfl rfl rfl ?_
   refine GO.assign rfl rfl rfl ?_
   refine GO.nil ?_
   obtain rfl := Option.some.inj H
   exact G.ret1 _ Try.func106 rfl rfl ⟨rfl, (HS.pk 1 [] rfl)⟩
  ·
   rcases ite_elim H with ⟨c4, H⟩ | ⟨c4, H⟩
   ·
    rcases ite_elim H with ⟨c5, H⟩ | ⟨c5, H⟩
    ·
     refine G.region ?_
     refine GO.move rfl rfl rfl ?_
     refine GO.eql rfl rfl rfl rfl ?_
     refine GO.move rfl rfl rfl ?_
     refine GO.known (t := 7) rfl (decide_eq_false c3) ?_
     refine GO.on rfl rfl rfl rfl ?_
     refine GO.move rfl rfl rfl ?_
     refine GO.back ?_
     refine GO.on rfl rfl rfl rfl ?_
     refine GO.eql rfl rfl rfl rfl ?_
     refine GO.back ?_
     refine GO.on rfl rfl rfl rfl ?_
     refine GO.move rfl rfl rfl ?_
     refine GO.back ?_
     refine GO.known (t := 10) rfl (decide_eq_true c4) ?_
     refine GO.on rfl rfl rfl rfl ?_
     refine GO.fld (⟨b1, 4, none⟩) rfl rfl fl58_4 rfl rfl ?_
     refine GO.back ?_
     refine GO.on rfl rfl rfl rfl ?_
     refine GO.ldBox (j := 0) HS rfl rfl rfl rfl na2 rfl ?_
     refine GO.back ?_
     refine GO.on rfl rfl rfl rfl ?_
     refine GO.eql rfl rfl rfl rfl ?_
     refine GO.back ?_
     refine GO.on rfl rfl rfl rfl ?_
     refine GO.pickT rfl rfl rfl rfl rfl ?_
     refine GO.back ?_
     refine GO.pickF rfl rfl rfl rfl rfl ?_
     refine GO.move rfl rfl rfl ?_
     refine GO.known (t := 16) rfl (decide_eq_true c5) ?_
     refine GO.off rfl rfl rfl rfl rfl rfl ?_
     refine GO.off rfl rfl rfl rfl rfl rfl ?_
     refine GO.off rfl rfl rfl rfl rfl rfl ?_
     refine GO.offU rfl rfl rfl rfl rfl rfl ?_
     refine GO.offU rfl rfl rfl rfl rfl rfl ?_
     refine GO.offU rfl rfl rfl rfl rfl rfl ?_
     refine GO.off rfl rfl rfl rfl rfl rfl ?_
     refine GO.pickT rfl rfl rfl rfl rfl ?_
     refine GO.assign rfl rfl rfl ?_
     refine GO.nil ?_
     obtain rfl := Option.some.inj H
     exact G.ret1 _ Try.func106 rfl rfl ⟨rfl, (HS.pk 1 [] rfl)⟩
    ·
     rcases ite_elim H with ⟨c6, H⟩ | ⟨c6, H⟩
     ·
      refine G.region ?_
      refine GO.move rfl rfl rfl ?_
      refine GO.eql rfl rfl rfl rfl ?_
      refine GO.move rfl rfl rfl ?_
      refine GO.known (t := 7) rfl (decide_eq_false c3) ?_
      refine GO.on rfl rfl rfl rfl ?_
      refine GO.move rfl rfl rfl ?_
      refine GO.back ?_
      refine GO.on rfl rfl rfl rfl ?_
      refine GO.eql rfl rfl rfl rfl ?_
      refine GO.back ?_
      refine GO.on rfl rfl rfl rfl ?_
      refine GO.move rfl rfl rfl ?_
      refine GO.back ?_
      refine GO.known (t := 10) rfl (decide_eq_true c4) ?_
      refine GO.on rfl rfl rfl rfl ?_
      refine GO.fld (⟨b1, 4, none⟩) rfl rfl fl58_4 rfl rfl ?_
      refine GO.back ?_
      refine GO.on rfl rfl rfl rfl ?_
      refine GO.ldBox (j := 0) HS rfl rfl rfl rfl na2 rfl ?_
      refine GO.back ?_
      refine GO.on rfl rfl rfl rfl ?_
      refine GO.eql rfl rfl rfl rfl ?_
      refine GO.back ?_
      refine GO.on rfl rfl rfl rfl ?_
      refine GO.pickT rfl rfl rfl rfl rfl ?_
      refine GO.back ?_
      refine GO.pickF rfl rfl rfl rfl rfl ?_
      refine GO.move rfl rfl rfl ?_
      refine GO.known (t := 16) rfl (decide_eq_false c5) ?_
      refine GO.on rfl rfl rfl rfl ?_
      refine GO.move rfl rfl rfl ?_
      refine GO.back ?_
      refine GO.on rfl rfl rfl rfl ?_
      refine GO.eql rfl rfl rfl rfl ?_
      refine GO.back ?_
      refine GO.on rfl rfl rfl rfl ?_
      refine GO.move rfl rfl rfl ?_
      refine GO.back ?_
      refine GO.known (t := 19) rfl (decide_eq_true c6) ?_
      refine GO.on rfl rfl rfl rfl ?_
      refine GO.fld (⟨b1, 4, none⟩) rfl rfl fl58_4 rfl rfl ?_
      refine GO.back ?_
      refine GO.on rfl rfl rfl rfl ?_
      refine GO.ldBox (j := 0) HS rfl rfl rfl rfl na2 rfl ?_
      refine GO.back ?_
      refine GO.on rfl rfl rfl rfl ?_
      refine GO.eql rfl rfl rfl rfl ?_
      refine GO.back ?_
      refine GO.on rfl rfl rfl rfl ?_
      refine GO.pickT rfl rfl rfl rfl rfl ?_
      refine GO.back ?_
      refine GO.pickF rfl rfl rfl rfl rfl ?_
      refine GO.assign rfl rfl rfl ?_
      refine GO.nil ?_
      obtain rfl := Option.some.inj H
      exact G.ret1 _ Try.func106 rfl rfl ⟨rfl, (HS.pk 1 [] rfl)⟩
     ·
      refine G.region ?_
      refine GO.move rfl rfl rfl ?_
      refine GO.eql rfl rfl rfl rfl ?_
      refine GO.move rfl rfl rfl ?_
      refine GO.known (t := 7) rfl (decide_eq_false c3) ?_
      refine GO.on rfl rfl rfl rfl ?_
      refine GO.move rfl rfl rfl ?_
      refine GO.back ?_
      refine GO.on rfl rfl rfl rfl ?_
      refine GO.eql rfl rfl rfl rfl ?_
      refine GO.back ?_
      refine GO.on rfl rfl rfl rfl ?_
      refine GO.move rfl rfl rfl ?_
      refine GO.back ?_
      refine GO.known (t := 10) rfl (decide_eq_true c4) ?_
      refine GO.on rfl rfl rfl rfl ?_
      refine GO.fld (⟨b1, 4, none⟩) rfl rfl fl58_4 rfl rfl ?_
      refine GO.back ?_
      refine GO.on rfl rfl rfl rfl ?_
      refine GO.ldBox (j := 0) HS rfl rfl rfl rfl na2 rfl ?_
      refine GO.back ?_
      refine GO.on rfl rfl rfl rfl ?_
      refine GO.eql rfl rfl rfl rfl ?_
      refine GO.back ?_
      refine GO.on rfl rfl rfl rfl ?_
      refine GO.pickT rfl rfl rfl rfl rfl ?_
      refine GO.back ?_
      refine GO.pickF rfl rfl rfl rfl rfl ?_
      refine GO.move rfl rfl rfl ?_
      refine GO.known (t := 16) rfl (decide_eq_false c5) ?_
      refine GO.on rfl rfl rfl rfl ?_
      refine GO.move rfl rfl rfl ?_
      refine GO.back ?_
      refine GO.on rfl rfl rfl rfl ?_
      refine GO.eql rfl rfl rfl rfl ?_
      refine GO.back ?_
      refine GO.on rfl rfl rfl rfl ?_
      refine GO.move rfl rfl rfl ?_
      refine GO.back ?_
      refine GO.known (t := 19) rfl (decide_eq_false c6) ?_
      refine GO.off rfl rfl rfl rfl rfl rfl ?_
      refine GO.off rfl rfl rfl rfl rfl rfl ?_
      refine GO.off rfl rfl rfl rfl rfl rfl ?_
      refine GO.on rfl rfl rfl rfl ?_
      refine GO.pickF rfl rfl rfl rfl rfl ?_
      refine GO.back ?_
      refine GO.pickF rfl rfl rfl rfl rfl ?_
      refine GO.assign rfl rfl rfl ?_
      refine GO.nil ?_
      obtain rfl := Option.some.inj H
      exact G.ret1 _ Try.func106 rfl rfl ⟨rfl, (HS.pk 1 [] rfl)⟩
   ·
    rcases ite_elim H with ⟨c7, H⟩ | ⟨c7, H⟩
    ·
     refine G.region ?_
     refine GO.move rfl rfl rfl ?_
     refine GO.eql rfl rfl rfl rfl ?_
     refine GO.move rfl rfl rfl ?_
     refine GO.known (t := 7) rfl (decide_eq_false c3) ?_
     refine GO.on rfl rfl rfl rfl ?_
     refine GO.move rfl rfl rfl ?_
     refine GO.back ?_
     refine GO.on rfl rfl rfl rfl ?_
     refine GO.eql rfl rfl rfl rfl ?_
     refine GO.back ?_
     refine GO.on rfl rfl rfl rfl ?_
     refine GO.move rfl rfl rfl ?_
     refine GO.back ?_
     refine GO.known (t := 10) rfl (decide_eq_false c4) ?_
     refine GO.off rfl rfl rfl rfl rfl rfl ?_
     refine GO.off rfl rfl rfl rfl rfl rfl ?_
     refine GO.off rfl rfl rfl rfl rfl rfl ?_
     refine GO.on rfl rfl rfl rfl ?_
     refine GO.pickF rfl rfl rfl rfl rfl ?_
     refine GO.back ?_
     refine GO.pickF rfl rfl rfl rfl rfl ?_
     refine GO.move rfl rfl rfl ?_
     refine GO.on rfl rfl rfl rfl ?_
     refine GO.move rfl rfl rfl ?_
     refine GO.back ?_
     refine GO.on rfl rfl rfl rfl ?_
     refine GO.eql rfl rfl rfl rfl ?_
     refine GO.back ?_
     refine GO.on rfl rfl rfl rfl ?_
     refine GO.move rfl rfl rfl ?_
     refine GO.back ?_
     refine GO.known (t := 19) rfl (decide_eq_true c7) ?_
     refine GO.on rfl rfl rfl rfl ?_
     refine GO.fld (⟨b1, 4, none⟩) rfl rfl fl58_4 rfl rfl ?_
     refine GO.back ?_
     refine GO.on rfl rfl rfl rfl ?_
     refine GO.ldBox (j := 0) HS rfl rfl rfl rfl na2 rfl ?_
     refine GO.back ?_
     refine GO.on rfl rfl rfl rfl ?_
     refine GO.eql rfl rfl rfl rfl ?_
     refine GO.back ?_
     refine GO.on rfl rfl rfl rfl ?_
     refine GO.pickT rfl rfl rfl rfl rfl ?_
     refine GO.back ?_
     refine GO.pickF rfl rfl rfl rfl rfl ?_
     refine GO.assign rfl rfl rfl ?_
     refine GO.nil ?_
     obtain rfl := Option.some.inj H
     exact G.ret1 _ Try.func106 rfl rfl ⟨rfl, (HS.pk 1 [] rfl)⟩
    ·
     refine G.region ?_
     refine GO.move rfl rfl rfl ?_
     refine GO.eql rfl rfl rfl rfl ?_
     refine GO.move rfl rfl rfl ?_
     refine GO.known (t := 7) rfl (decide_eq_false c3) ?_
     refine GO.on rfl rfl rfl rfl ?_
     refine GO.move rfl rfl rfl ?_
     refine GO.back ?_
     refine GO.on rfl rfl rfl rfl ?_
     refine GO.eql rfl rfl rfl rfl ?_
     refine GO.back ?_
     refine GO.on rfl rfl rfl rfl ?_
     refine GO.move rfl rfl rfl ?_
     refine GO.back ?_
     refine GO.known (t := 10) rfl (decide_eq_false c4) ?_
     refine GO.off rfl rfl rfl rfl rfl rfl ?_
     refine GO.off rfl rfl rfl rfl rfl rfl ?_
     refine GO.off rfl rfl rfl rfl rfl rfl ?_
     refine GO.on rfl rfl rfl rfl ?_
     refine GO.pickF rfl rfl rfl rfl rfl ?_
     refine GO.back ?_
     refine GO.pickF rfl rfl rfl rfl rfl ?_
     refine GO.move rfl rfl rfl ?_
     refine GO.on rfl rfl rfl rfl ?_
     refine GO.move rfl rfl rfl ?_
     refine GO.back ?_
     refine GO.on rfl rfl rfl rfl ?_
     refine GO.eql rfl rfl rfl rfl ?_
     refine GO.back ?_
     refine GO.on rfl rfl rfl rfl ?_
     refine GO.move rfl rfl rfl ?_
     refine GO.back ?_
     refine GO.known (t := 19) rfl (decide_eq_false c7) ?_
     refine GO.off rfl rfl rfl rfl rfl rfl ?_
     refine GO.off rfl rfl rfl rfl rfl rfl ?_
     refine GO.off rfl rfl rfl rfl rfl rfl ?_
     refine GO.on rfl rfl rfl rfl ?_
     refine GO.pickF rfl rfl rfl rfl rfl ?_
     refine GO.back ?_
     refine GO.pickF rfl rfl rfl rfl rfl ?_
     refine GO.assign rfl rfl rfl ?_
     refine GO.nil ?_
     obtain rfl := Option.some.inj H
     exact G.ret1 _ Try.func106 rfl rfl ⟨rfl, (HS.pk 1 [] rfl)⟩

set_option maxRecDepth 20000 in
set_option maxHeartbeats 40000000 in
theorem spec_l25Counts.calls {w0 w : World} {L : List HObj} {K : Nat} {d_Crossings : List GCrossing} {d_Circles : Int} {A_d_Crossings : Option Addr} {c_d_Crossings : Nat} {r1 : Bool} (HS : St w0 w (L)) (h_d_Crossings : RdIn w0 L T_GCrossing A_d_Crossings c_d_Crossings (fun _ => ()) d_Crossings) (H : spec_l25Counts.f K d_Crossings d_Circles = some r1) :
    Calls Try.prog 103 #[.agg [.slice A_d_Crossings d_Crossings.length c_d_Crossings, .int .i64 d_Circles].toArray] w (spec_l25Counts.post w0 L d_Crossings d_Circles A_d_Crossings c_d_Crossings r1) := by
  unfold spec_l25Counts.f at H
  refine Calls.of_G Try.func103 rfl rfl rfl ?_
  refine G.seq ?_
  refine G.region ?_
  refine GO.box (cs := [.slice A_d_Crossings d_Crossings.length c_d_Crossings, .int .i64 d_Circles]) HS rfl rfl rfl rfl ?_; intro b1 wd2 HS
  refine GO.assign rfl rfl rfl ?_
  refine GO.nil ?_
  refine G.seq ?_
  refine G.region ?_
  refine GO.fld (⟨b1, 0, none⟩) rfl rfl fl28_0 rfl rfl ?_
  refine GO.ldBox (j := 0) HS rfl rfl rfl rfl na26 rfl ?_
  refine GO.lenS rfl rfl Try.underlying26 rfl ?_
  refine GO.mul rfl rfl rfl rfl ?_
  refine GO.assign rfl rfl rfl ?_
  refine GO.nil ?_
  refine G.seq ?_
  obtain ⟨c3, H⟩ := ite_none H
  obtain ⟨c4, H⟩ := ite_none H
  refine G.regionAny mixed (by decide) (fun b a w => ∃ (Y1_0 : Value) (Y2_1 : Value) (Y3_2 : Value) (Y4_3 : Value) (Y5_4 : Value) (Y6_5 : Value) (b5 : Nat) (b7 : Nat) (O7_2 : HObj) (O8_3 : HObj), Sat 63 [(4, Y5_4), (5, Y6_5), (15, Y1_0), (16, Y2_1), (17, Y3_2), (18, Y4_3), (1, .pointer (some ⟨b1, 0, none⟩)), (3, .int .i64 (w64 (2 * (d_Crossings.length : Int))))] a ∧ St w0 w (Box b1 28 [.slice A_d_Crossings d_Crossings.length c_d_Crossings, .int .i64 d_Circles] :: O7_2 :: O8_3 :: L) ∧ (b 4 = true → Y5_4 = (.slice (some ⟨b5, 0, none⟩) (List.replicate (w64 (2 * (d_Crossings.length : Int))).toNat false).length ((w64 (2 * (d_Crossings.length : Int))).toNat))) ∧ (b 5 = true → Y6_5 = (.slice (some ⟨b7, 0, none⟩) (List.replicate (w64 (2 * (d_Crossings.length : Int))).toNat false).length ((w64 (2 * (d_Crossings.length : Int))).toNat))) ∧ (b 0 = true → Y1_0 = (.int .i64 (w64 (2 * (d_Crossings.length : Int))))) ∧ (b 1 = true → Y2_1 = (.slice (some ⟨b5, 0, none⟩) (List.replicate (w64 (2 * (d_Crossings.length : Int))).toNat false).length ((w64 (2 * (d_Crossings.length : Int))).toNat))) ∧ (b 2 = true → Y3_2 = (.int .i64 (w64 (2 * (d_Crossings.length : Int))))) ∧ (b 3 = true → Y4_3 = (.slice (some ⟨b7, 0, none⟩) (List.replicate (w64 (2 * (d_Crossings.length : Int))).toNat false).length ((w64 (2 * (d_Crossings.length : Int))).toNat))) ∧ (b 1 = true → O7_2 = Own TBool 4 (some ⟨b5, 0, none⟩) ((w64 (2 * (d_Crossings.length : Int))).toNat) (fun _ => ()) (List.replicate (w64 (2 * (d_Crossings.length : Int))).toNat false)) ∧ (b 3 = true → O8_3 = Own TBool 4 (some ⟨b7, 0, none⟩) ((w64 (2 * (d_Crossings.length : Int))).toNat) (fun _ => ()) (List.replicate (w64 (2 * (d_Crossings.length : Int))).toNat false))) ?_ ?_ ?_
  ·
   intro a hs
   obtain ⟨Y5_4, hs⟩ := hs.ext (d := 4) rfl
   obtain ⟨Y6_5, hs⟩ := hs.ext (d := 5) rfl
   obtain ⟨Y1_0, hs⟩ := hs.ext (d := 15) rfl
   obtain ⟨Y2_1, hs⟩ := hs.ext (d := 16) rfl
   obtain ⟨Y3_2, hs⟩ := hs.ext (d := 17) rfl
   obtain ⟨Y4_3, hs⟩ := hs.ext (d := 18) rfl
   exact ⟨Y1_0, Y2_1, Y3_2, Y4_3, Y5_4, Y6_5, 0, 0, Emp, Emp, hs.weak ⟨rfl, rfl, rfl, rfl, rfl, rfl, rfl, rfl, trivial⟩, (HS.drew.emp.emp.pk 3 [2, 1, 0] rfl), fun h => Bool.noConfusion h, fun h => Bool.noConfusion h, fun h => Bool.noConfusion h, fun h => Bool.noConfusion h, fun h => Bool.noConfusion h, fun h => Bool.noConfusion h, fun h => Bool.noConfusion h, fun h => Bool.noConfusion h⟩
  ·
   intro j hj b a w
   refine exI fun Y1_0 => exI fun Y2_1 => exI fun Y3_2 => exI fun Y4_3 => exI fun Y5_4 => exI fun Y6_5 => exI fun b5 => exI fun b7 => exI fun O7_2 => exI fun O8_3 => anI fun hs => anI fun HS => anI fun f4 => anI fun f5 => anI fun f0 => anI fun f1 => anI fun f2 => anI fun f3 => anI fun o2_0 => fun o3_0 hb hd hcl => ?_
   match j, hj with
   | 0, _ =>
    refine GO.at hs ?_
    refine GO.move rfl rfl rfl ?_
    refine GO.fin (fun a hs => ?_)
    exact ⟨(.int .i64 (w64 (2 * (d_Crossings.length : Int)))), _, _, _, _, _, b5, b7, _, _, by exact hs.setAt 2 rfl, HS, f4, f5, fun _ => rfl, f1, f2, f3, o2_0, o3_0⟩
   | 1, _ =>
    have hb0 : b 0 = true := hd 0 (by decide)
    obtain rfl := f0 hb0
    refine GO.at hs ?_
    refine GO.make (T := TBool) false () HS flat_flat rfl rfl rfl Try.underlying83 inf4 rfl rfl rfl c3 c4 rfl ?_; intro b5 wd6 HS
    refine GO.fin (fun a hs => ?_)
    exact ⟨_, (.slice (some ⟨b5, 0, none⟩) (List.replicate (w64 (2 * (d_Crossings.length : Int))).toNat false).length ((w64 (2 * (d_Crossings.length : Int))).toNat)), _, _, _, _, b5, b7, Own TBool 4 (some ⟨b5, 0, none⟩) ((w64 (2 * (d_Crossings.length : Int))).toNat) (fun _ => ()) (List.replicate (w64 (2 * (d_Crossings.length : Int))).toNat false), _, by exact hs.setAt 3 rfl, HS.pk 4 [1, 0, 3] rfl, fun hh => (Bool.noConfusion ((hcl 4 (by decide) hh 1 (by decide)).symm.trans hb)), f5, f0, fun _ => rfl, f2, f3, fun _ => rfl, o3_0⟩
   | 2, _ =>
    refine GO.at hs ?_
    refine GO.move rfl rfl rfl ?_
    refine GO.fin (fun a hs => ?_)
    exact ⟨_, _, (.int .i64 (w64 (2 * (d_Crossings.length : Int)))), _, _, _, b5, b7, _, _, by exact hs.setAt 4 rfl, HS, f4, f5, f0, f1, fun _ => rfl, f3, o2_0, o3_0⟩
   | 3, _ =>
    have hb2 : b 2 = true := hd 2 (by decide)
    obtain rfl := f2 hb2
    refine GO.at hs ?_
    refine GO.make (T := TBool) false () HS flat_flat rfl rfl rfl Try.underlying83 inf4 rfl rfl rfl c3 c4 rfl ?_; intro b7 wd8 HS
    refine GO.fin (fun a hs => ?_)
    exact ⟨_, _, _, (.slice (some ⟨b7, 0, none⟩) (List.replicate (w64 (2 * (d_Crossings.length : Int))).toNat false).length ((w64 (2 * (d_Crossings.length : Int))).toNat)), _, _, b5, b7, _, Own TBool 4 (some ⟨b7, 0, none⟩) ((w64 (2 * (d_Crossings.length : Int))).toNat) (fun _ => ()) (List.replicate (w64 (2 * (d_Crossings.length : Int))).toNat false), by exact hs.setAt 5 rfl, HS.pk 4 [1, 2, 0] rfl, f4, fun hh => (Bool.noConfusion ((hcl 5 (by decide) hh 3 (by decide)).symm.trans hb)), f0, f1, f2, fun _ => rfl, o2_0, fun _ => rfl⟩
   | 4, _ =>
    have hb1 : b 1 = true := hd 1 (by decide)
    obtain rfl := f1 hb1
    refine GO.at hs ?_
    refine GO.assign rfl rfl rfl ?_
    refine GO.fin (fun a hs => ?_)
    exact ⟨_, _, _, _, (.slice (some ⟨b5, 0, none⟩) (List.replicate (w64 (2 * (d_Crossings.length : Int))).toNat false).length ((w64 (2 * (d_Crossings.length : Int))).toNat)), _, b5, b7, _, _, by exact hs.setAt 0 rfl, HS, fun _ => rfl, f5, f0, f1, f2, f3, o2_0, o3_0⟩
   | 5, _ =>
    have hb3 : b 3 = true := hd 3 (by decide)
    obtain rfl := f3 hb3
    refine GO.at hs ?_
    refine GO.assign rfl rfl rfl ?_
    refine GO.fin (fun a hs => ?_)
    exact ⟨_, _, _, _, _, (.slice (some ⟨b7, 0, none⟩) (List.replicate (w64 (2 * (d_Crossings.length : Int))).toNat false).length ((w64 (2 * (d_Crossings.length : Int))).toNat)), b5, b7, _, _, by exact hs.setAt 1 rfl, HS, f4, fun _ => rfl, f0, f1, f2, f3, o2_0, o3_0⟩
   | k + 6, hj => exact absurd hj (Nat.not_lt.2 (Nat.le_add_left 6 k))
  ·
   intro b a w hall
   refine exI fun Y1_0 => exI fun Y2_1 => exI fun Y3_2 => exI fun Y4_3 => exI fun Y5_4 => exI fun Y6_5 => exI fun b5 => exI fun b7 => exI fun O7_2 => exI fun O8_3 => anI fun hs => anI fun HS => anI fun f4 => anI fun f5 => anI fun f0 => anI fun f1 => anI fun f2 => anI fun f3 => anI fun o2_0 => fun o3_0 => ?_
   obtain rfl := f4 (hall 4 (by decide))
   obtain rfl := f5 (hall 5 (by decide))
   obtain rfl := f0 (hall 0 (by decide))
   obtain rfl := f1 (hall 1 (by decide))
   obtain rfl := f2 (hall 2 (by decide))
   obtain rfl := f3 (hall 3 (by decide))
   obtain rfl := o2_0 (hall 1 (by decide))
   obtain rfl := o3_0 (hall 3 (by decide))
   refine G.at hs ?_
   refine G.seq ?_
   refine G.seq ?_
   refine G.region ?_
   refine GO.assign rfl rfl rfl ?_
   refine GO.nil ?_
   refine G.block ?_
   refine G.loop ?_
   refine G.name (fun k_l1 hk_l1 => ?_)
   have at_l1 : ∀ m_l1, m_l1 ≤ K → ∀ (in_94 : List Bool) (out_95 : List Bool) (c_96 : Int) (w : World), spec_l25Counts.l1 K m_l1 d_Crossings in_94 out_95 c_96 = some r1 → St w0 w (Box b1 28 [.slice A_d_Crossings d_Crossings.length c_d_Crossings, .int .i64 d_Circles] :: Own TBool 4 (some ⟨b5, 0, none⟩) ((w64 (2 * (d_Crossings.length : Int))).toNat) (fun _ => ()) in_94 :: Own TBool 4 (some ⟨b7, 0, none⟩) ((w64 (2 * (d_Crossings.length : Int))).toNat) (fun _ => ()) out_95 :: L) → G Try.prog 103 63 [(1, .pointer (some ⟨b1, 0, none⟩)), (3, .int .i64 (w64 (2 * (d_Crossings.length : Int)))), (4, .slice (some ⟨b5, 0, none⟩) in_94.length ((w64 (2 * (d_Crossings.length : Int))).toNat)), (5, .slice (some ⟨b7, 0, none⟩) out_95.length ((w64 (2 * (d_Crossings.length : Int))).toNat)), (6, .int .i64 c_96)] k_l1 w (spec_l25Counts.post w0 L d_Crossings d_Circles A_d_Crossings c_d_Crossings r1) := by
    intro m_l1
    induction m_l1 using Nat.strongRecOn with
    | _ m_l1 ih_l1 =>
     intro hm_l1 in_94 out_95 c_96 w H HS
     cases m_l1 with
     | zero => rw [spec_l25Counts.l1] at H; cases H
     | succ n_l1 =>
      rw [spec_l25Counts.l1] at H
      subst hk_l1
      refine G.seq ?_
      refine G.seq ?_
      refine G.region ?_
      refine GO.move rfl rfl rfl ?_
      refine GO.fld (⟨b1, 0, none⟩) rfl rfl fl28_0 rfl rfl ?_
      refine GO.ldBox (j := 0) HS rfl rfl rfl rfl na26 rfl ?_
      refine GO.lenS rfl rfl Try.underlying26 rfl ?_
      refine GO.lss rfl rfl rfl rfl ?_
      refine GO.nil ?_
      rcases ite_elim H with ⟨c183, H⟩ | ⟨c183, H⟩
      ·
       refine G.yesB rfl (decide_eq_true c183) ?_
       refine G.skip ?_
       refine G.seq ?_
       refine G.block ?_
       refine G.seq ?_
       obtain ⟨c184, H⟩ := ite_none H
       obtain ⟨e185, h186, H⟩ := bnd_elim H
       refine G.region ?_
       refine GO.fld (⟨b1, 0, none⟩) rfl rfl fl28_0 rfl rfl ?_
       refine GO.ldBox (j := 0) HS rfl rfl rfl rfl na26 rfl ?_
       refine GO.move rfl rfl rfl ?_
       refine GO.ix rfl rfl rfl Try.underlying26 sz58 ((RdIn.drop 3 h_d_Crossings) _ HS).2.2.1 c184.1 c184.2 rfl ?_
       refine GO.ldRdA (T := T_GCrossing) (n := c_96.toNat) HS (RdIn.drop 3 h_d_Crossings) rfl rfl (getD_eq (ltN c184) h186) ag58 rfl ?_
       refine GO.alloc HS rfl zr58 rfl rfl ?_; intro b187 wd188 HS
       refine GO.stBox (j := 0) (vs := [.int .i64 e185.A, .int .i64 e185.B, .int .i64 e185.C, .int .i64 e185.D, .int .i64 e185.Sign]) ([.int .i64 e185.A, .int .i64 e185.B, .int .i64 e185.C, .int .i64 e185.D, .int .i64 e185.Sign]) HS rfl rfl rfl rfl rfl (htA ag58) rfl rfl rfl ?_; intro wd189 HS
       refine GO.nil ?_
       refine G.seq ?_
       refine G.seq ?_
       refine G.nameT (fun k_j12 hk_j12 => ?_)
       have at_j12 : ∀ m_j12, m_j12 ≤ n_l1 → ∀ (x192 : Bool) (w : World), spec_l25Counts.j12 K m_j12 d_Crossings in_94 out_95 c_96 e185 x192 = some r1 → St w0 w (Box b1 28 [.slice A_d_Crossings d_Crossings.length c_d_Crossings, .int .i64 d_Circles] :: Own TBool 4 (some ⟨b5, 0, none⟩) ((w64 (2 * (d_Crossings.length : Int))).toNat) (fun _ => ()) in_94 :: Own TBool 4 (some ⟨b7, 0, none⟩) ((w64 (2 * (d_Crossings.length : Int))).toNat) (fun _ => ()) out_95 :: Box b187 58 [.int .i64 e185.A, .int .i64 e185.B, .int .i64 e185.C, .int .i64 e185.D, .int .i64 e185.Sign] :: L) → G Try.prog 103 63 [(1, .pointer (some ⟨b1, 0, none⟩)), (3, .int .i64 (w64 (2 * (d_Crossings.length : Int)))), (4, .slice (some ⟨b5, 0, none⟩) in_94.length ((w64 (2 * (d_Crossings.length : Int))).toNat)), (5, .slice (some ⟨b7, 0, none⟩) out_95.length ((w64 (2 * (d_Crossings.length : Int))).toNat)), (6, .int .i64 c_96), (7, .pointer (some ⟨b187, 0, none⟩)), (38, .bool x192)] k_j12 w (spec_l25Counts.post w0 L d_Crossings d_Circles A_d_Crossings c_d_Crossings r1) := by
        intro m_j12 hm_j12 x192 w H HS
        cases m_j12 with
        | zero => rw [spec_l25Counts.j12] at H; cases H
        | succ n_j12 =>
         rw [spec_l25Counts.j12] at H
         subst hk_j12
         rcases ite_elim H with ⟨c193, H⟩ | ⟨c193, H⟩
         ·
          refine G.yesB rfl c193 ?_
          refine G.seq ?_
          refine G.region ?_
          refine GO.assign rfl rfl rfl ?_
          refine GO.nil ?_
          obtain rfl := Option.some.inj H
          exact G.ret1 _ Try.func103 rfl rfl ⟨rfl, (HS.pk 4 [] rfl)⟩
         ·
          refine G.noB rfl (bnot_of c193) ?_
          refine G.skip ?_
          refine G.seq ?_
          refine G.region ?_
          refine GO.assign rfl rfl rfl ?_
          refine GO.nil ?_
          refine G.block ?_
          refine G.loop ?_
          refine G.name (fun k_l13 hk_l13 => ?_)
          have at_l13 : ∀ m_l13, m_l13 ≤ n_j12 → ∀ (in_217 : List Bool) (out_218 : List Bool) (p_219 : Int) (w : World), spec_l25Counts.l13 K m_l13 d_Crossings c_96 e185 in_217 out_218 p_219 = some r1 → St w0 w (Box b1 28 [.slice A_d_Crossings d_Crossings.length c_d_Crossings, .int .i64 d_Circles] :: Own TBool 4 (some ⟨b5, 0, none⟩) ((w64 (2 * (d_Crossings.length : Int))).toNat) (fun _ => ()) in_217 :: Own TBool 4 (some ⟨b7, 0, none⟩) ((w64 (2 * (d_Crossings.length : Int))).toNat) (fun _ => ()) out_218 :: Box b187 58 [.int .i64 e185.A, .int .i64 e185.B, .int .i64 e185.C, .int .i64 e185.D, .int .i64 e185.Sign] :: L) → G Try.prog 103 63 [(1, .pointer (some ⟨b1, 0, none⟩)), (3, .int .i64 (w64 (2 * (d_Crossings.length : Int)))), (4, .slice (some ⟨b5, 0, none⟩) in_217.length ((w64 (2 * (d_Crossings.length : Int))).toNat)), (5, .slice (some ⟨b7, 0, none⟩) out_218.length ((w64 (2 * (d_Crossings.length : Int))).toNat)), (6, .int .i64 c_96), (7, .pointer (some ⟨b187, 0, none⟩)), (8, .int .i64 p_219)] k_l13 w (spec_l25Counts.post w0 L d_Crossings d_Circles A_d_Crossings c_d_Crossings r1) := by
           intro m_l13
           induction m_l13 using Nat.strongRecOn with
           | _ m_l13 ih_l13 =>
            intro hm_l13 in_217 out_218 p_219 w H HS
            cases m_l13 with
            | zero => rw [spec_l25Counts.l13] at H; cases H
            | succ n_l13 =>
             rw [spec_l25Counts.l13] at H
             subst hk_l13
             refine G.seq ?_
             refine G.seq ?_
             refine G.region ?_
             refine GO.move rfl rfl rfl ?_
             refine GO.lss rfl rfl rfl rfl ?_
             refine GO.nil ?_
             rcases ite_elim H with ⟨c244, H⟩ | ⟨c244, H⟩
             ·
              refine G.yesB rfl (decide_eq_true c244) ?_
              refine G.skip ?_
              refine G.seq ?_
              refine G.block ?_
              refine G.seq ?_
              obtain ⟨t245, h246, H⟩ := Option.bind_eq_some_iff.1 H
              refine G.region ?_
              refine GO.ldBoxA (j := 3) ([.int .i64 e185.A, .int .i64 e185.B, .int .i64 e185.C, .int .i64 e185.D, .int .i64 e185.Sign]) HS rfl rfl rfl rfl ag58 rfl ?_
              refine GO.move rfl rfl rfl ?_
              refine GO.fn rfl Try.func105 fok105.1 fok105.2 rfl rfl (spec_l25End.calls HS  h246) (fun _ wd247 ⟨h248, HS⟩ => ⟨_, h248, ?_⟩)
              refine GO.assign rfl rfl rfl ?_
              refine GO.nil ?_
              refine G.seq ?_
              refine G.seq ?_
              obtain ⟨t249, h250, H⟩ := Option.bind_eq_some_iff.1 H
              refine G.region ?_
              refine GO.move rfl rfl rfl ?_
              refine GO.move rfl rfl rfl ?_
              refine GO.sub rfl rfl rfl rfl ?_
              refine GO.fn rfl Try.func41 fok41.1 fok41.2 rfl rfl (spec_l01In.calls HS  h250) (fun _ wd251 ⟨h252, HS⟩ => ⟨_, h252, ?_⟩)
              refine GO.not rfl rfl rfl ?_
              refine GO.nil ?_
              rcases ite_elim H with ⟨c253, H⟩ | ⟨c253, H⟩
              ·
               refine G.noB rfl (congrArg Bool.not c253) ?_
               refine G.skip ?_
               refine G.seq ?_
               refine G.region ?_
               refine GO.move rfl rfl rfl ?_
               refine GO.assign rfl rfl rfl ?_
               refine GO.nil ?_
               refine G.seq ?_
               refine G.seq ?_
               obtain ⟨t254, h255, H⟩ := Option.bind_eq_some_iff.1 H
               refine G.region ?_
               refine GO.ldBoxA (j := 3) ([.int .i64 e185.A, .int .i64 e185.B, .int .i64 e185.C, .int .i64 e185.D, .int .i64 e185.Sign]) HS rfl rfl rfl rfl ag58 rfl ?_
               refine GO.move rfl rfl rfl ?_
               refine GO.fn rfl Try.func106 fok106.1 fok106.2 rfl rfl (spec_l25Enters.calls HS  h255) (fun _ wd256 ⟨h257, HS⟩ => ⟨_, h257, ?_⟩)
               refine GO.nil ?_
               rcases ite_elim H with ⟨c261, H⟩ | ⟨c261, H⟩
               ·
                refine G.yesB rfl c261 ?_
                refine G.region ?_
                refine GO.move rfl rfl rfl ?_
                refine GO.assign rfl rfl rfl ?_
                refine GO.nil ?_
                refine G.seq ?_
                refine G.seq ?_
                obtain ⟨c262, H⟩ := ite_none H
                refine G.region ?_
                refine GO.move rfl rfl rfl ?_
                refine GO.move rfl rfl rfl ?_
                refine GO.ix rfl rfl rfl Try.underlying83 sz4 (fun _ => ⟨_, _, rfl⟩) c262.1 c262.2 rfl ?_
                refine GO.ldRd (T := TBool) (n := t245.toNat) (o := 0) HS (RdIn.own (j := 1) rfl) rfl rfl (getD_some (d := false) (ltN c262)) rfl rfl na4 rfl ?_
                refine GO.nil ?_
                rcases ite_elim H with ⟨c263, H⟩ | ⟨c263, H⟩
                ·
                 refine G.yesB rfl c263 ?_
                 refine G.seq ?_
                 refine G.region ?_
                 refine GO.assign rfl rfl rfl ?_
                 refine GO.nil ?_
                 obtain rfl := Option.some.inj H
                 exact G.ret1 _ Try.func103 rfl rfl ⟨rfl, (HS.pk 4 [] rfl)⟩
                ·
                 refine G.noB rfl (bnot_of c263) ?_
                 refine G.skip ?_
                 refine G.region ?_
                 refine GO.move rfl rfl rfl ?_
                 refine GO.move rfl rfl rfl ?_
                 refine GO.ix rfl rfl rfl Try.underlying83 sz4 (fun _ => ⟨_, _, rfl⟩) c262.1 c262.2 rfl ?_
                 refine GO.stRow (T := TBool) (j := 1) (n := t245.toNat) (o := 0) (vs := [.bool true]) true HS rfl flat_flat rfl rfl rfl rfl (htN na4 rfl) rfl (getD_some (d := false) (ltN c262)) rfl rfl ?_; intro wd264 HS
                 refine GO.nil ?_
                 refine G.len (t := 4) (m := (in_217.set t245.toNat true).length) rfl (by simp only [List.length_set] <;> rfl) ?_
                 refine G.blockEnd ?_
                 refine G.region ?_
                 refine GO.move rfl rfl rfl ?_
                 refine GO.add rfl rfl rfl rfl ?_
                 refine GO.assign rfl rfl rfl ?_
                 refine GO.nil ?_
                 refine G.again ?_
                 refine G.weak ?_ (ih_l13 n_l13 (Nat.lt_succ_of_le (Nat.le_refl _)) (Nat.le_of_succ_le hm_l13) _ _ _ _ H HS)
                 exact ⟨rfl, rfl, rfl, rfl, rfl, rfl, rfl, trivial⟩
               ·
                refine G.noB rfl (bnot_of c261) ?_
                refine G.skip ?_
                refine G.seq ?_
                refine G.seq ?_
                obtain ⟨c265, H⟩ := ite_none H
                refine G.region ?_
                refine GO.move rfl rfl rfl ?_
                refine GO.move rfl rfl rfl ?_
                refine GO.ix rfl rfl rfl Try.underlying83 sz4 (fun _ => ⟨_, _, rfl⟩) c265.1 c265.2 rfl ?_
                refine GO.ldRd (T := TBool) (n := t245.toNat) (o := 0) HS (RdIn.own (j := 2) rfl) rfl rfl (getD_some (d := false) (ltN c265)) rfl rfl na4 rfl ?_
                refine GO.nil ?_
                rcases ite_elim H with ⟨c266, H⟩ | ⟨c266, H⟩
                ·
                 refine G.yesB rfl c266 ?_
                 refine G.seq ?_
                 refine G.region ?_
                 refine GO.assign rfl rfl rfl ?_
                 refine GO.nil ?_
                 obtain rfl := Option.some.inj H
                 exact G.ret1 _ Try.func103 rfl rfl ⟨rfl, (HS.pk 4 [] rfl)⟩
                ·
                 refine G.noB rfl (bnot_of c266) ?_
                 refine G.skip ?_
                 refine G.region ?_
                 refine GO.move rfl rfl rfl ?_
                 refine GO.move rfl rfl rfl ?_
                 refine GO.ix rfl rfl rfl Try.underlying83 sz4 (fun _ => ⟨_, _, rfl⟩) c265.1 c265.2 rfl ?_
                 refine GO.stRow (T := TBool) (j := 2) (n := t245.toNat) (o := 0) (vs := [.bool true]) true HS rfl flat_flat rfl rfl rfl rfl (htN na4 rfl) rfl (getD_some (d := false) (ltN c265)) rfl rfl ?_; intro wd267 HS
                 refine GO.nil ?_
                 refine G.len (t := 5) (m := (out_218.set t245.toNat true).length) rfl (by simp only [List.length_set] <;> rfl) ?_
                 refine G.blockEnd ?_
                 refine G.region ?_
                 refine GO.move rfl rfl rfl ?_
                 refine GO.add rfl rfl rfl rfl ?_
                 refine GO.assign rfl rfl rfl ?_
                 refine GO.nil ?_
                 refine G.again ?_
                 refine G.weak ?_ (ih_l13 n_l13 (Nat.lt_succ_of_le (Nat.le_refl _)) (Nat.le_of_succ_le hm_l13) _ _ _ _ H HS)
                 exact ⟨rfl, rfl, rfl, rfl, rfl, rfl, rfl, trivial⟩
              ·
               refine G.yesB rfl (congrArg Bool.not (bnot_of c253)) ?_
               refine G.seq ?_
               refine G.region ?_
               refine GO.assign rfl rfl rfl ?_
               refine GO.nil ?_
               obtain rfl := Option.some.inj H
               exact G.ret1 _ Try.func103 rfl rfl ⟨rfl, (HS.pk 4 [] rfl)⟩
             ·
              refine G.noB rfl (decide_eq_false c244) ?_
              refine G.exit rfl ?_
              refine G.blockEnd ?_
              refine G.region ?_
              refine GO.move rfl rfl rfl ?_
              refine GO.add rfl rfl rfl rfl ?_
              refine GO.assign rfl rfl rfl ?_
              refine GO.nil ?_
              refine G.again ?_
              refine G.weak ?_ (ih_l1 n_l13 (Nat.lt_succ_of_le (Nat.le_trans (Nat.le_of_succ_le hm_l13) (Nat.le_of_succ_le hm_j12))) (Nat.le_trans (Nat.le_of_succ_le hm_l13) (Nat.le_trans (Nat.le_of_succ_le hm_j12) (Nat.le_of_succ_le hm_l1))) _ _ _ _ H (HS.pk 4 [0, 1, 2] rfl))
              exact ⟨rfl, rfl, rfl, rfl, rfl, trivial⟩
          refine G.weak ?_ (at_l13 n_j12 (Nat.le_refl _) _ _ _ _ H HS)
          exact ⟨rfl, rfl, rfl, rfl, rfl, rfl, rfl, trivial⟩
       rcases ite_elim H with ⟨c268, H⟩ | ⟨c268, H⟩
       ·
        refine G.region ?_
        refine GO.fld (⟨b187, 4, none⟩) rfl rfl fl58_4 rfl rfl ?_
        refine GO.ldBox (j := 0) HS rfl rfl rfl rfl na2 rfl ?_
        refine GO.neq rfl rfl rfl rfl ?_
        refine GO.move rfl rfl rfl ?_
        refine GO.known (t := 34) rfl (congrArg Bool.not (decide_eq_true c268)) ?_
        refine GO.off rfl rfl rfl rfl rfl rfl ?_
        refine GO.off rfl rfl rfl rfl rfl rfl ?_
        refine GO.off rfl rfl rfl rfl rfl rfl ?_
        refine GO.pickF rfl rfl rfl rfl rfl ?_
        refine GO.nil ?_
        refine G.weak ?_ (at_j12 n_l1 (Nat.le_refl _) _ _ H (HS.pk 4 [1, 2, 3, 0] rfl))
        exact ⟨rfl, rfl, rfl, rfl, rfl, rfl, rfl, trivial⟩
       ·
        refine G.region ?_
        refine GO.fld (⟨b187, 4, none⟩) rfl rfl fl58_4 rfl rfl ?_
        refine GO.ldBox (j := 0) HS rfl rfl rfl rfl na2 rfl ?_
        refine GO.neq rfl rfl rfl rfl ?_
        refine GO.move rfl rfl rfl ?_
        refine GO.known (t := 34) rfl (congrArg Bool.not (decide_eq_false c268)) ?_
        refine GO.on rfl rfl rfl rfl ?_
        refine GO.fld (⟨b187, 4, none⟩) rfl rfl fl58_4 rfl rfl ?_
        refine GO.back ?_
        refine GO.on rfl rfl rfl rfl ?_
        refine GO.ldBox (j := 0) HS rfl rfl rfl rfl na2 rfl ?_
        refine GO.back ?_
        refine GO.on rfl rfl rfl rfl ?_
        refine GO.neq rfl rfl rfl rfl ?_
        refine GO.back ?_
        refine GO.pickT rfl rfl rfl rfl rfl ?_
        refine GO.nil ?_
        refine G.weak ?_ (at_j12 n_l1 (Nat.le_refl _) _ _ H (HS.pk 4 [1, 2, 3, 0] rfl))
        exact ⟨rfl, rfl, rfl, rfl, rfl, rfl, rfl, trivial⟩
      ·
       refine G.noB rfl (decide_eq_false c183) ?_
       refine G.exit rfl ?_
       refine G.seq ?_
       refine G.region ?_
       refine GO.assign rfl rfl rfl ?_
       refine GO.nil ?_
       obtain rfl := Option.some.inj H
       exact G.ret1 _ Try.func103 rfl rfl ⟨rfl, (HS.pk 3 [] rfl)⟩
   refine G.weak ?_ (at_l1 K (Nat.le_refl _) _ _ _ _ H HS)
   exact ⟨rfl, rfl, rfl, rfl, rfl, trivial⟩

set_option maxRecDepth 20000 in
set_option maxHeartbeats 40000000 in
theorem spec_l25Place.calls {w0 w : World} {L : List HObj} {K : Nat} {d_Crossings : List GCrossing} {d_Circles : Int} {a_ : Int} {enters : Bool} {A_d_Crossings : Option Addr} {c_d_Crossings : Nat} {r1 : Int} {r2 : Int} (HS : St w0 w (L)) (h_d_Crossings : RdIn w0 L T_GCrossing A_d_Crossings c_d_Crossings (fun _ => ()) d_Crossings) (H : spec_l25Place.f K d_Crossings d_Circles a_ enters = some (r1, r2)) :
    Calls Try.prog 42 #[.agg [.slice A_d_Crossings d_Crossings.length c_d_Crossings, .int .i64 d_Circles].toArray, .int .i64 a_, .bool enters] w (spec_l25Place.post w0 L d_Crossings d_Circles a_ enters A_d_Crossings c_d_Crossings r1 r2) := by
  unfold spec_l25Place.f at H
  refine Calls.of_G Try.func42 rfl rfl rfl ?_
  refine G.seq ?_
  refine G.region ?_
  refine GO.box (cs := [.slice A_d_Crossings d_Crossings.length c_d_Crossings, .int .i64 d_Circles]) HS rfl rfl rfl rfl ?_; intro b1 wd2 HS
  refine GO.assign rfl rfl rfl ?_
  refine GO.assign rfl rfl rfl ?_
  refine GO.nil ?_
  refine G.seq ?_
  refine G.seq ?_
  refine G.region ?_
  refine GO.assign rfl rfl rfl ?_
  refine GO.nil ?_
  refine G.block ?_
  refine G.loop ?_
  refine G.name (fun k_l1 hk_l1 => ?_)
  have at_l1 : ∀ m_l1, m_l1 ≤ K → ∀ (c_82 : Int) (w : World), spec_l25Place.l1 K m_l1 d_Crossings a_ enters c_82 = some (r1, r2) → St w0 w (Box b1 28 [.slice A_d_Crossings d_Crossings.length c_d_Crossings, .int .i64 d_Circles] :: L) → G Try.prog 42 43 [(1, .int .i64 a_), (2, .bool enters), (3, .pointer (some ⟨b1, 0, none⟩)), (8, .int .i64 c_82)] k_l1 w (spec_l25Place.post w0 L d_Crossings d_Circles a_ enters A_d_Crossings c_d_Crossings r1 r2) := by
   intro m_l1
   induction m_l1 using Nat.strongRecOn with
   | _ m_l1 ih_l1 =>
    intro hm_l1 c_82 w H HS
    cases m_l1 with
    | zero => rw [spec_l25Place.l1] at H; cases H
    | succ n_l1 =>
     rw [spec_l25Place.l1] at H
     subst hk_l1
     refine G.seq ?_
     refine G.seq ?_
     refine G.region ?_
     refine GO.move rfl rfl rfl ?_
     refine GO.fld (⟨b1, 0, none⟩) rfl rfl fl28_0 rfl rfl ?_
     refine GO.ldBox (j := 0) HS rfl rfl rfl rfl na26 rfl ?_
     refine GO.lenS rfl rfl Try.underlying26 rfl ?_
     refine GO.lss rfl rfl rfl rfl ?_
     refine GO.nil ?_
     rcases ite_elim H with ⟨c162, H⟩ | ⟨c162, H⟩
     ·
      refine G.yesB rfl (decide_eq_true c162) ?_
      refine G.skip ?_
      refine G.seq ?_
      refine G.block ?_
      refine G.seq ?_
      refine G.region ?_
      refine GO.assign rfl rfl rfl ?_
      refine GO.nil ?_
      refine G.block ?_
      refine G.loop ?_
      refine G.name (fun k_l4 hk_l4 => ?_)
      have at_l4 : ∀ m_l4, m_l4 ≤ n_l1 → ∀ (p_188 : Int) (w : World), spec_l25Place.l4 K m_l4 d_Crossings a_ enters c_82 p_188 = some (r1, r2) → St w0 w (Box b1 28 [.slice A_d_Crossings d_Crossings.length c_d_Crossings, .int .i64 d_Circles] :: L) → G Try.prog 42 43 [(1, .int .i64 a_), (2, .bool enters), (3, .pointer (some ⟨b1, 0, none⟩)), (8, .int .i64 c_82), (9, .int .i64 p_188)] k_l4 w (spec_l25Place.post w0 L d_Crossings d_Circles a_ enters A_d_Crossings c_d_Crossings r1 r2) := by
       intro m_l4
       induction m_l4 using Nat.strongRecOn with
       | _ m_l4 ih_l4 =>
        intro hm_l4 p_188 w H HS
        cases m_l4 with
        | zero => rw [spec_l25Place.l4] at H; cases H
        | succ n_l4 =>
         rw [spec_l25Place.l4] at H
         subst hk_l4
         refine G.seq ?_
         refine G.seq ?_
         refine G.region ?_
         refine GO.move rfl rfl rfl ?_
         refine GO.lss rfl rfl rfl rfl ?_
         refine GO.nil ?_
         rcases ite_elim H with ⟨c215, H⟩ | ⟨c215, H⟩
         ·
          refine G.yesB rfl (decide_eq_true c215) ?_
          refine G.skip ?_
          refine G.seq ?_
          refine G.block ?_
          refine G.seq ?_
          obtain ⟨c228, H⟩ := ite_none H
          obtain ⟨e229, h230, H⟩ := bnd_elim H
          obtain ⟨t231, h232, H⟩ := Option.bind_eq_some_iff.1 H
          rcases ite_elim H with ⟨c235, H⟩ | ⟨c235, H⟩
          ·
           obtain ⟨t236, h237, H⟩ := Option.bind_eq_some_iff.1 H
           refine G.region ?_
           refine GO.fld (⟨b1, 0, none⟩) rfl rfl fl28_0 rfl rfl ?_
           refine GO.ldBox (j := 0) HS rfl rfl rfl rfl na26 rfl ?_
           refine GO.move rfl rfl rfl ?_
           refine GO.ix rfl rfl rfl Try.underlying26 sz58 ((RdIn.drop 1 h_d_Crossings) _ HS).2.2.1 c228.1 c228.2 rfl ?_
           refine GO.ldRdA (T := T_GCrossing) (n := c_82.toNat) HS (RdIn.drop 1 h_d_Crossings) rfl rfl (getD_eq (ltN c228) h230) ag58 rfl ?_
           refine GO.move rfl rfl rfl ?_
           refine GO.fn rfl Try.func105 fok105.1 fok105.2 rfl rfl (spec_l25End.calls HS  h232) (fun _ wd233 ⟨h234, HS⟩ => ⟨_, h234, ?_⟩)
           refine GO.move rfl rfl rfl ?_
           refine GO.eql rfl rfl rfl rfl ?_
           refine GO.move rfl rfl rfl ?_
           refine GO.known (t := 30) rfl (decide_eq_true c235) ?_
           refine GO.on rfl rfl rfl rfl ?_
           refine GO.fld (⟨b1, 0, none⟩) rfl rfl fl28_0 rfl rfl ?_
           refine GO.back ?_
           refine GO.on rfl rfl rfl rfl ?_
           refine GO.ldBox (j := 0) HS rfl rfl rfl rfl na26 rfl ?_
           refine GO.back ?_
           refine GO.on rfl rfl rfl rfl ?_
           refine GO.move rfl rfl rfl ?_
           refine GO.back ?_
           refine GO.on rfl rfl rfl rfl ?_
           refine GO.ix rfl rfl rfl Try.underlying26 sz58 ((RdIn.drop 1 h_d_Crossings) _ HS).2.2.1 c228.1 c228.2 rfl ?_
           refine GO.back ?_
           refine GO.on rfl rfl rfl rfl ?_
           refine GO.ldRdA (T := T_GCrossing) (n := c_82.toNat) HS (RdIn.drop 1 h_d_Crossings) rfl rfl (getD_eq (ltN c228) h230) ag58 rfl ?_
           refine GO.back ?_
           refine GO.on rfl rfl rfl rfl ?_
           refine GO.move rfl rfl rfl ?_
           refine GO.back ?_
           refine GO.on rfl rfl rfl rfl ?_
           refine GO.fn rfl Try.func106 fok106.1 fok106.2 rfl rfl (spec_l25Enters.calls HS  h237) (fun _ wd238 ⟨h239, HS⟩ => ⟨_, h239, ?_⟩)
           refine GO.back ?_
           refine GO.on rfl rfl rfl rfl ?_
           refine GO.move rfl rfl rfl ?_
           refine GO.back ?_
           refine GO.on rfl rfl rfl rfl ?_
           refine GO.eqlB rfl rfl rfl Try.underlying4 rfl ?_
           refine GO.back ?_
           refine GO.pickT rfl rfl rfl rfl rfl ?_
           refine GO.nil ?_
           rcases ite_elim H with ⟨c240, H⟩ | ⟨c240, H⟩
           ·
            refine G.yesB rfl c240 ?_
            refine G.seq ?_
            refine G.region ?_
            refine GO.move rfl rfl rfl ?_
            refine GO.move rfl rfl rfl ?_
            refine GO.assign rfl rfl rfl ?_
            refine GO.assign rfl rfl rfl ?_
            refine GO.nil ?_
            obtain ⟨rfl, rfl⟩ := some2 H
            exact G.ret2 _ _ Try.func42 rfl rfl rfl ⟨rfl, (HS.pk 1 [] rfl)⟩
           ·
            refine G.noB rfl (bnot_of c240) ?_
            refine G.skip ?_
            refine G.blockEnd ?_
            refine G.region ?_
            refine GO.move rfl rfl rfl ?_
            refine GO.add rfl rfl rfl rfl ?_
            refine GO.assign rfl rfl rfl ?_
            refine GO.nil ?_
            refine G.again ?_
            refine G.weak ?_ (ih_l4 n_l4 (Nat.lt_succ_of_le (Nat.le_refl _)) (Nat.le_of_succ_le hm_l4) _ _ H HS)
            exact ⟨rfl, rfl, rfl, rfl, rfl, trivial⟩
          ·
           refine G.region ?_
           refine GO.fld (⟨b1, 0, none⟩) rfl rfl fl28_0 rfl rfl ?_
           refine GO.ldBox (j := 0) HS rfl rfl rfl rfl na26 rfl ?_
           refine GO.move rfl rfl rfl ?_
           refine GO.ix rfl rfl rfl Try.underlying26 sz58 ((RdIn.drop 1 h_d_Crossings) _ HS).2.2.1 c228.1 c228.2 rfl ?_
           refine GO.ldRdA (T := T_GCrossing) (n := c_82.toNat) HS (RdIn.drop 1 h_d_Crossings) rfl rfl (getD_eq (ltN c228) h230) ag58 rfl ?_
           refine GO.move rfl rfl rfl ?_
           refine GO.fn rfl Try.func105 fok105.1 fok105.2 rfl rfl (spec_l25End.calls HS  h232) (fun _ wd233 ⟨h234, HS⟩ => ⟨_, h234, ?_⟩)
           refine GO.move rfl rfl rfl ?_
           refine GO.eql rfl rfl rfl rfl ?_
           refine GO.move rfl rfl rfl ?_
           refine GO.known (t := 30) rfl (decide_eq_false c235) ?_
           refine GO.off rfl rfl rfl rfl rfl rfl ?_
           refine GO.off rfl rfl rfl rfl rfl rfl ?_
           refine GO.off rfl rfl rfl rfl rfl rfl ?_
           refine GO.off rfl rfl rfl rfl rfl rfl ?_
           refine GO.off rfl rfl rfl rfl rfl rfl ?_
           refine GO.off rfl rfl rfl rfl rfl rfl ?_
           refine GO.off rfl rfl rfl rfl rfl rfl ?_
           refine GO.off rfl rfl rfl rfl rfl rfl ?_
           refine GO.off rfl rfl rfl rfl rfl rfl ?_
           refine GO.pickF rfl rfl rfl rfl rfl ?_
           refine GO.nil ?_
           refine G.noB rfl rfl ?_
           refine G.skip ?_
           refine G.blockEnd ?_
           refine G.region ?_
           refine GO.move rfl rfl rfl ?_
           refine GO.add rfl rfl rfl rfl ?_
           refine GO.assign rfl rfl rfl ?_
           refine GO.nil ?_
           refine G.again ?_
           refine G.weak ?_ (ih_l4 n_l4 (Nat.lt_succ_of_le (Nat.le_refl _)) (Nat.le_of_succ_le hm_l4) _ _ H HS)
           exact ⟨rfl, rfl, rfl, rfl, rfl, trivial⟩
         ·
          refine G.noB rfl (decide_eq_false c215) ?_
          refine G.exit rfl ?_
          refine G.blockEnd ?_
          refine G.region ?_
          refine GO.move rfl rfl rfl ?_
          refine GO.add rfl rfl rfl rfl ?_
          refine GO.assign rfl rfl rfl ?_
          refine GO.nil ?_
          refine G.again ?_
          refine G.weak ?_ (ih_l1 n_l4 (Nat.lt_succ_of_le (Nat.le_of_succ_le hm_l4)) (Nat.le_trans (Nat.le_of_succ_le hm_l4) (Nat.le_of_succ_le hm_l1)) _ _ H HS)
          exact ⟨rfl, rfl, rfl, rfl, trivial⟩
      refine G.weak ?_ (at_l4 n_l1 (Nat.le_refl _) _ _ H HS)
      exact ⟨rfl, rfl, rfl, rfl, rfl, trivial⟩
     ·
      refine G.noB rfl (decide_eq_false c162) ?_
      refine G.exit rfl ?_
      refine G.seq ?_
      refine G.region ?_
      refine GO.assign rfl rfl rfl ?_
      refine GO.assign rfl rfl rfl ?_
      refine GO.nil ?_
      obtain ⟨rfl, rfl⟩ := some2 H
      exact G.ret2 _ _ Try.func42 rfl rfl rfl ⟨rfl, (HS.pk 1 [] rfl)⟩
  refine G.weak ?_ (at_l1 K (Nat.le_refl _) _ _ H HS)
  exact ⟨rfl, rfl, rfl, rfl, trivial⟩

set_option maxRecDepth 20000 in
set_option maxHeartbeats 40000000 in
theorem spec_l25Successor.calls {w0 w : World} {L : List HObj} {K : Nat} {d_Crossings : List GCrossing} {d_Circles : Int} {corner : Int} {A_d_Crossings : Option Addr} {c_d_Crossings : Nat} {r1 : Int} (HS : St w0 w (L)) (h_d_Crossings : RdIn w0 L T_GCrossing A_d_Crossings c_d_Crossings (fun _ => ()) d_Crossings) (H : spec_l25Successor.f K d_Crossings d_Circles corner = some r1) :
    Calls Try.prog 119 #[.agg [.slice A_d_Crossings d_Crossings.length c_d_Crossings, .int .i64 d_Circles].toArray, .int .i64 corner] w (spec_l25Successor.post w0 L d_Crossings d_Circles corner A_d_Crossings c_d_Crossings r1) := by
  unfold spec_l25Successor.f at H
  refine Calls.of_G Try.func119 rfl rfl rfl ?_
  refine G.seq ?_
  refine G.region ?_
  refine GO.box (cs := [.slice A_d_Crossings d_Crossings.length c_d_Crossings, .int .i64 d_Circles]) HS rfl rfl rfl rfl ?_; intro b1 wd2 HS
  refine GO.assign rfl rfl rfl ?_
  refine GO.nil ?_
  refine G.seq ?_
  refine G.region ?_
  refine GO.move rfl rfl rfl ?_
  refine GO.quo rfl rfl rfl (by decide) rfl ?_
  refine GO.move rfl rfl rfl ?_
  refine GO.rem rfl rfl rfl (by decide) rfl ?_
  refine GO.add rfl rfl rfl rfl ?_
  refine GO.rem rfl rfl rfl (by decide) rfl ?_
  refine GO.assign rfl rfl rfl ?_
  refine GO.assign rfl rfl rfl ?_
  refine GO.nil ?_
  refine G.seq ?_
  obtain ⟨c3, H⟩ := ite_none H
  obtain ⟨e4, h5, H⟩ := bnd_elim H
  refine G.region ?_
  refine GO.fld (⟨b1, 0, none⟩) rfl rfl fl28_0 rfl rfl ?_
  refine GO.ldBox (j := 0) HS rfl rfl rfl rfl na26 rfl ?_
  refine GO.move rfl rfl rfl ?_
  refine GO.ix rfl rfl rfl Try.underlying26 sz58 ((RdIn.drop 1 h_d_Crossings) _ HS).2.2.1 c3.1 c3.2 rfl ?_
  refine GO.ldRdA (T := T_GCrossing) (n := (w64 (corner.tdiv 4)).toNat) HS (RdIn.drop 1 h_d_Crossings) rfl rfl (getD_eq (ltN c3) h5) ag58 rfl ?_
  refine GO.alloc HS rfl zr58 rfl rfl ?_; intro b6 wd7 HS
  refine GO.stBox (j := 0) (vs := [.int .i64 e4.A, .int .i64 e4.B, .int .i64 e4.C, .int .i64 e4.D, .int .i64 e4.Sign]) ([.int .i64 e4.A, .int .i64 e4.B, .int .i64 e4.C, .int .i64 e4.D, .int .i64 e4.Sign]) HS rfl rfl rfl rfl rfl (htA ag58) rfl rfl rfl ?_; intro wd8 HS
  refine GO.nil ?_
  refine G.seq ?_
  obtain ⟨t9, h10, H⟩ := Option.bind_eq_some_iff.1 H
  obtain ⟨t13, h14, H⟩ := Option.bind_eq_some_iff.1 H
  obtain ⟨t17, t18, h19, H⟩ := bind2_elim H
  refine G.regionAny mixed (by decide) (fun b a w => ∃ (Y1_0 : Value) (Y2_1 : Value) (Y3_2 : Value) (Y4_3 : Value) (Y5_4 : Value) (Y6_5 : Value) (Y7_6 : Value) (Y8_7 : Value) (Y9_8 : Value) (Y10_9 : Value) (Y11_10 : Value) (Y12_11 : Value) (Y13_12 : Value) (Y14_13 : Value), Sat 37 [(8, Y13_12), (9, Y14_13), (21, Y10_9), (22, Y1_0), (23, Y2_1), (24, Y3_2), (25, Y4_3), (26, Y5_4), (27, Y6_5), (28, Y7_6), (29, Y8_7), (30, Y9_8), (31, Y11_10), (32, Y12_11), (2, .pointer (some ⟨b1, 0, none⟩)), (6, .int .i64 ((w64 ((corner.tmod 4) + 1)).tmod 4)), (7, .pointer (some ⟨b6, 0, none⟩))] a ∧ St w0 w (Box b6 58 [.int .i64 e4.A, .int .i64 e4.B, .int .i64 e4.C, .int .i64 e4.D, .int .i64 e4.Sign] :: Box b1 28 [.slice A_d_Crossings d_Crossings.length c_d_Crossings, .int .i64 d_Circles] :: L) ∧ (b 12 = true → Y13_12 = (.int .i64 t17)) ∧ (b 13 = true → Y14_13 = (.int .i64 t18)) ∧ (b 9 = true → Y10_9 = (.tuple #[.int .i64 t17, .int .i64 t18])) ∧ (b 0 = true → Y1_0 = (.agg [.slice A_d_Crossings d_Crossings.length c_d_Crossings, .int .i64 d_Circles].toArray)) ∧ (b 1 = true → Y2_1 = (.agg [.int .i64 e4.A, .int .i64 e4.B, .int .i64 e4.C, .int .i64 e4.D, .int .i64 e4.Sign].toArray)) ∧ (b 2 = true → Y3_2 = (.int .i64 ((w64 ((corner.tmod 4) + 1)).tmod 4))) ∧ (b 3 = true → Y4_3 = (.int .i64 t9)) ∧ (b 4 = true → Y5_4 = (.agg [.int .i64 e4.A, .int .i64 e4.B, .int .i64 e4.C, .int .i64 e4.D, .int .i64 e4.Sign].toArray)) ∧ (b 5 = true → Y6_5 = (.int .i64 ((w64 ((corner.tmod 4) + 1)).tmod 4))) ∧ (b 6 = true → Y7_6 = (.bool t13)) ∧ (b 7 = true → Y8_7 = (.bool (!t13))) ∧ (b 8 = true → Y9_8 = (.tuple #[.int .i64 t17, .int .i64 t18])) ∧ (b 10 = true → Y11_10 = (.int .i64 t17)) ∧ (b 11 = true → Y12_11 = (.int .i64 t18))) ?_ ?_ ?_
  ·
   intro a hs
   obtain ⟨Y13_12, hs⟩ := hs.ext (d := 8) rfl
   obtain ⟨Y14_13, hs⟩ := hs.ext (d := 9) rfl
   obtain ⟨Y10_9, hs⟩ := hs.ext (d := 21) rfl
   obtain ⟨Y1_0, hs⟩ := hs.ext (d := 22) rfl
   obtain ⟨Y2_1, hs⟩ := hs.ext (d := 23) rfl
   obtain ⟨Y3_2, hs⟩ := hs.ext (d := 24) rfl
   obtain ⟨Y4_3, hs⟩ := hs.ext (d := 25) rfl
   obtain ⟨Y5_4, hs⟩ := hs.ext (d := 26) rfl
   obtain ⟨Y6_5, hs⟩ := hs.ext (d := 27) rfl
   obtain ⟨Y7_6, hs⟩ := hs.ext (d := 28) rfl
   obtain ⟨Y8_7, hs⟩ := hs.ext (d := 29) rfl
   obtain ⟨Y9_8, hs⟩ := hs.ext (d := 30) rfl
   obtain ⟨Y11_10, hs⟩ := hs.ext (d := 31) rfl
   obtain ⟨Y12_11, hs⟩ := hs.ext (d := 32) rfl
   exact ⟨Y1_0, Y2_1, Y3_2, Y4_3, Y5_4, Y6_5, Y7_6, Y8_7, Y9_8, Y10_9, Y11_10, Y12_11, Y13_12, Y14_13, hs.weak ⟨rfl, rfl, rfl, rfl, rfl, rfl, rfl, rfl, rfl, rfl, rfl, rfl, rfl, rfl, rfl, rfl, rfl, trivial⟩, (HS.drew.pk 2 [0, 1] rfl), fun h => Bool.noConfusion h, fun h => Bool.noConfusion h, fun h => Bool.noConfusion h, fun h => Bool.noConfusion h, fun h => Bool.noConfusion h, fun h => Bool.noConfusion h, fun h => Bool.noConfusion h, fun h => Bool.noConfusion h, fun h => Bool.noConfusion h, fun h => Bool.noConfusion h, fun h => Bool.noConfusion h, fun h => Bool.noConfusion h, fun h => Bool.noConfusion h, fun h => Bool.noConfusion h⟩
  ·
   intro j hj b a w
   refine exI fun Y1_0 => exI fun Y2_1 => exI fun Y3_2 => exI fun Y4_3 => exI fun Y5_4 => exI fun Y6_5 => exI fun Y7_6 => exI fun Y8_7 => exI fun Y9_8 => exI fun Y10_9 => exI fun Y11_10 => exI fun Y12_11 => exI fun Y13_12 => exI fun Y14_13 => anI fun hs => anI fun HS => anI fun f12 => anI fun f13 => anI fun f9 => anI fun f0 => anI fun f1 => anI fun f2 => anI fun f3 => anI fun f4 => anI fun f5 => anI fun f6 => anI fun f7 => anI fun f8 => anI fun f10 => fun f11 hb hd hcl => ?_
   match j, hj with
   | 0, _ =>
    refine GO.at hs ?_
    refine GO.ldBoxA (j := 1) ([.slice A_d_Crossings d_Crossings.length c_d_Crossings, .int .i64 d_Circles]) HS rfl rfl rfl rfl ag28 rfl ?_
    refine GO.fin (fun a hs => ?_)
    exact ⟨(.agg [.slice A_d_Crossings d_Crossings.length c_d_Crossings, .int .i64 d_Circles].toArray), _, _, _, _, _, _, _, _, _, _, _, _, _, by exact hs.setAt 3 rfl, HS, f12, f13, f9, fun _ => rfl, f1, f2, f3, f4, f5, f6, f7, f8, f10, f11⟩
   | 1, _ =>
    refine GO.at hs ?_
    refine GO.ldBoxA (j := 0) ([.int .i64 e4.A, .int .i64 e4.B, .int .i64 e4.C, .int .i64 e4.D, .int .i64 e4.Sign]) HS rfl rfl rfl rfl ag58 rfl ?_
    refine GO.fin (fun a hs => ?_)
    exact ⟨_, (.agg [.int .i64 e4.A, .int .i64 e4.B, .int .i64 e4.C, .int .i64 e4.D, .int .i64 e4.Sign].toArray), _, _, _, _, _, _, _, _, _, _, _, _, by exact hs.setAt 4 rfl, HS, f12, f13, f9, f0, fun _ => rfl, f2, f3, f4, f5, f6, f7, f8, f10, f11⟩
   | 2, _ =>
    refine GO.at hs ?_
    refine GO.move rfl rfl rfl ?_
    refine GO.fin (fun a hs => ?_)
    exact ⟨_, _, (.int .i64 ((w64 ((corner.tmod 4) + 1)).tmod 4)), _, _, _, _, _, _, _, _, _, _, _, by exact hs.setAt 5 rfl, HS, f12, f13, f9, f0, f1, fun _ => rfl, f3, f4, f5, f6, f7, f8, f10, f11⟩
   | 3, _ =>
    have hb1 : b 1 = true := hd 1 (by decide)
    obtain rfl := f1 hb1
    have hb2 : b 2 = true := hd 2 (by decide)
    obtain rfl := f2 hb2
    refine GO.at hs ?_
    refine GO.fn rfl Try.func105 fok105.1 fok105.2 rfl rfl (spec_l25End.calls HS  h10) (fun _ wd11 ⟨h12, HS⟩ => ⟨_, h12, ?_⟩)
    refine GO.fin (fun a hs => ?_)
    exact ⟨_, _, _, (.int .i64 t9), _, _, _, _, _, _, _, _, _, _, by exact hs.setAt 6 rfl, HS, f12, f13, f9, f0, f1, f2, fun _ => rfl, f4, f5, f6, f7, f8, f10, f11⟩
   | 4, _ =>
    refine GO.at hs ?_
    refine GO.ldBoxA (j := 0) ([.int .i64 e4.A, .int .i64 e4.B, .int .i64 e4.C, .int .i64 e4.D, .int .i64 e4.Sign]) HS rfl rfl rfl rfl ag58 rfl ?_
    refine GO.fin (fun a hs => ?_)
    exact ⟨_, _, _, _, (.agg [.int .i64 e4.A, .int .i64 e4.B, .int .i64 e4.C, .int .i64 e4.D, .int .i64 e4.Sign].toArray), _, _, _, _, _, _, _, _, _, by exact hs.setAt 7 rfl, HS, f12, f13, f9, f0, f1, f2, f3, fun _ => rfl, f5, f6, f7, f8, f10, f11⟩
   | 5, _ =>
    refine GO.at hs ?_
    refine GO.move rfl rfl rfl ?_
    refine GO.fin (fun a hs => ?_)
    exact ⟨_, _, _, _, _, (.int .i64 ((w64 ((corner.tmod 4) + 1)).tmod 4)), _, _, _, _, _, _, _, _, by exact hs.setAt 8 rfl, HS, f12, f13, f9, f0, f1, f2, f3, f4, fun _ => rfl, f6, f7, f8, f10, f11⟩
   | 6, _ =>
    have hb4 : b 4 = true := hd 4 (by decide)
    obtain rfl := f4 hb4
    have hb5 : b 5 = true := hd 5 (by decide)
    obtain rfl := f5 hb5
    refine GO.at hs ?_
    refine GO.fn rfl Try.func106 fok106.1 fok106.2 rfl rfl (spec_l25Enters.calls HS  h14) (fun _ wd15 ⟨h16, HS⟩ => ⟨_, h16, ?_⟩)
    refine GO.fin (fun a hs => ?_)
    exact ⟨_, _, _, _, _, _, (.bool t13), _, _, _, _, _, _, _, by exact hs.setAt 9 rfl, HS, f12, f13, f9, f0, f1, f2, f3, f4, f5, fun _ => rfl, f7, f8, f10, f11⟩
   | 7, _ =>
    have hb6 : b 6 = true := hd 6 (by decide)
    obtain rfl := f6 hb6
    refine GO.at hs ?_
    refine GO.not rfl rfl rfl ?_
    refine GO.fin (fun a hs => ?_)
    exact ⟨_, _, _, _, _, _, _, (.bool (!t13)), _, _, _, _, _, _, by exact hs.setAt 10 rfl, HS, f12, f13, f9, f0, f1, f2, f3, f4, f5, f6, fun _ => rfl, f8, f10, f11⟩
   | 8, _ =>
    have hb0 : b 0 = true := hd 0 (by decide)
    obtain rfl := f0 hb0
    have hb3 : b 3 = true := hd 3 (by decide)
    obtain rfl := f3 hb3
    have hb7 : b 7 = true := hd 7 (by decide)
    obtain rfl := f7 hb7
    refine GO.at hs ?_
    refine GO.fn rfl Try.func42 fok42.1 fok42.2 rfl rfl (spec_l25Place.calls HS (RdIn.drop 2 h_d_Crossings) h19) (fun _ wd20 ⟨h21, HS⟩ => ⟨_, h21, ?_⟩)
    refine GO.fin (fun a hs => ?_)
    exact ⟨_, _, _, _, _, _, _, _, (.tuple #[.int .i64 t17, .int .i64 t18]), _, _, _, _, _, by exact hs.setAt 11 rfl, HS, f12, f13, f9, f0, f1, f2, f3, f4, f5, f6, f7, fun _ => rfl, f10, f11⟩
   | 9, _ =>
    have hb8 : b 8 = true := hd 8 (by decide)
    obtain rfl := f8 hb8
    refine GO.at hs ?_
    refine GO.move rfl rfl rfl ?_
    refine GO.fin (fun a hs => ?_)
    exact ⟨_, _, _, _, _, _, _, _, _, (.tuple #[.int .i64 t17, .int .i64 t18]), _, _, _, _, by exact hs.setAt 2 rfl, HS, f12, f13, fun _ => rfl, f0, f1, f2, f3, f4, f5, f6, f7, f8, f10, f11⟩
   | 10, _ =>
    have hb9 : b 9 = true := hd 9 (by decide)
    obtain rfl := f9 hb9
    refine GO.at hs ?_
    refine GO.extract rfl rfl rfl rfl ?_
    refine GO.fin (fun a hs => ?_)
    exact ⟨_, _, _, _, _, _, _, _, _, _, (.int .i64 t17), _, _, _, by exact hs.setAt 12 rfl, HS, f12, f13, f9, f0, f1, f2, f3, f4, f5, f6, f7, f8, fun _ => rfl, f11⟩
   | 11, _ =>
    have hb9 : b 9 = true := hd 9 (by decide)
    obtain rfl := f9 hb9
    refine GO.at hs ?_
    refine GO.extract rfl rfl rfl rfl ?_
    refine GO.fin (fun a hs => ?_)
    exact ⟨_, _, _, _, _, _, _, _, _, _, _, (.int .i64 t18), _, _, by exact hs.setAt 13 rfl, HS, f12, f13, f9, f0, f1, f2, f3, f4, f5, f6, f7, f8, f10, fun _ => rfl⟩
   | 12, _ =>
    have hb10 : b 10 = true := hd 10 (by decide)
    obtain rfl := f10 hb10
    refine GO.at hs ?_
    refine GO.assign rfl rfl rfl ?_
    refine GO.fin (fun a hs => ?_)
    exact ⟨_, _, _, _, _, _, _, _, _, _, _, _, (.int .i64 t17), _, by exact hs.setAt 0 rfl, HS, fun _ => rfl, f13, f9, f0, f1, f2, f3, f4, f5, f6, f7, f8, f10, f11⟩
   | 13, _ =>
    have hb11 : b 11 = true := hd 11 (by decide)
    obtain rfl := f11 hb11
    refine GO.at hs ?_
    refine GO.assign rfl rfl rfl ?_
    refine GO.fin (fun a hs => ?_)
    exact ⟨_, _, _, _, _, _, _, _, _, _, _, _, _, (.int .i64 t18), by exact hs.setAt 1 rfl, HS, f12, fun _ => rfl, f9, f0, f1, f2, f3, f4, f5, f6, f7, f8, f10, f11⟩
   | k + 14, hj => exact absurd hj (Nat.not_lt.2 (Nat.le_add_left 14 k))
  ·
   intro b a w hall
   refine exI fun Y1_0 => exI fun Y2_1 => exI fun Y3_2 => exI fun Y4_3 => exI fun Y5_4 => exI fun Y6_5 => exI fun Y7_6 => exI fun Y8_7 => exI fun Y9_8 => exI fun Y10_9 => exI fun Y11_10 => exI fun Y12_11 => exI fun Y13_12 => exI fun Y14_13 => anI fun hs => anI fun HS => anI fun f12 => anI fun f13 => anI fun f9 => anI fun f0 => anI fun f1 => anI fun f2 => anI fun f3 => anI fun f4 => anI fun f5 => anI fun f6 => anI fun f7 => anI fun f8 => anI fun f10 => fun f11 => ?_
   obtain rfl := f12 (hall 12 (by decide))
   obtain rfl := f13 (hall 13 (by decide))
   obtain rfl := f9 (hall 9 (by decide))
   obtain rfl := f0 (hall 0 (by decide))
   obtain rfl := f1 (hall 1 (by decide))
   obtain rfl := f2 (hall 2 (by decide))
   obtain rfl := f3 (hall 3 (by decide))
   obtain rfl := f4 (hall 4 (by decide))
   obtain rfl := f5 (hall 5 (by decide))
   obtain rfl := f6 (hall 6 (by decide))
   obtain rfl := f7 (hall 7 (by decide))
   obtain rfl := f8 (hall 8 (by decide))
   obtain rfl := f10 (hall 10 (by decide))
   obtain rfl := f11 (hall 11 (by decide))
   refine G.at hs ?_
   refine G.seq ?_
   refine G.region ?_
   refine GO.move rfl rfl rfl ?_
   refine GO.mul rfl rfl rfl rfl ?_
   refine GO.move rfl rfl rfl ?_
   refine GO.add rfl rfl rfl rfl ?_
   refine GO.assign rfl rfl rfl ?_
   refine GO.nil ?_
   obtain rfl := Option.some.inj H
   exact G.ret1 _ Try.func119 rfl rfl ⟨rfl, (HS.pk 2 [] rfl)⟩

set_option maxRecDepth 20000 in
set_option maxHeartbeats 40000000 in
theorem spec_l25Regions.calls {w0 w : World} {L : List HObj} {K : Nat} {d_Crossings : List GCrossing} {d_Circles : Int} {A_d_Crossings : Option Addr} {c_d_Crossings : Nat} {r1 : List (List Int)} (HS : St w0 w (L)) (h_d_Crossings : RdIn w0 L T_GCrossing A_d_Crossings c_d_Crossings (fun _ => ()) d_Crossings) (H : spec_l25Regions.f K d_Crossings d_Circles = some r1) :
    Calls Try.prog 68 #[.agg [.slice A_d_Crossings d_Crossings.length c_d_Crossings, .int .i64 d_Circles].toArray] w (spec_l25Regions.post w0 L d_Crossings d_Circles A_d_Crossings c_d_Crossings r1) := by
  unfold spec_l25Regions.f at H
  refine Calls.of_G Try.func68 rfl rfl rfl ?_
  refine G.seq ?_
  refine G.region ?_
  refine GO.box (cs := [.slice A_d_Crossings d_Crossings.length c_d_Crossings, .int .i64 d_Circles]) HS rfl rfl rfl rfl ?_; intro b1 wd2 HS
  refine GO.assign rfl rfl rfl ?_
  refine GO.nil ?_
  refine G.seq ?_
  refine G.region ?_
  refine GO.buildS (el := 43) ([]) HS rfl rfl (fun _ => by kernel_rfl) rfl ?_; intro b3 wd4 HS
  replace HS := HS.boxNil (T := (Ty.slice 2 (TInt .i64))) (j := 0) rfl (fun _ => ⟨none, 0, fun _ => ()⟩)
  refine GO.lenC (t := 8) (m := ([] : List (List Int)).length) (c' := 0) rfl rfl rfl ?_
  refine GO.assign rfl rfl rfl ?_
  refine GO.nil ?_
  refine G.seq ?_
  obtain ⟨c5, H⟩ := ite_none H
  obtain ⟨c6, H⟩ := ite_none H
  refine G.region ?_
  refine GO.fld (⟨b1, 0, none⟩) rfl rfl fl28_0 rfl rfl ?_
  refine GO.ldBox (j := 1) HS rfl rfl rfl rfl na26 rfl ?_
  refine GO.lenS rfl rfl Try.underlying26 rfl ?_
  refine GO.mul rfl rfl rfl rfl ?_
  refine GO.make (T := TBool) false () HS flat_flat rfl rfl rfl Try.underlying83 inf4 rfl rfl rfl c5 c6 rfl ?_; intro b7 wd8 HS
  refine GO.assign rfl rfl rfl ?_
  refine GO.nil ?_
  refine G.seq ?_
  refine G.seq ?_
  refine G.region ?_
  refine GO.assign rfl rfl rfl ?_
  refine GO.nil ?_
  refine G.block ?_
  refine G.loop ?_
  refine G.name (fun k_l1 hk_l1 => ?_)
  have at_l1 : ∀ m_l1, m_l1 ≤ K → ∀ (A70 : Option Addr) (c71 : Nat) (out_72 : List (List Int)) (y73 : Nat → (Ty.slice 2 (TInt .i64)).Lay) (done_74 : List Bool) (k_75 : Int) (w : World), spec_l25Regions.l1 K m_l1 d_Crossings d_Circles out_72 done_74 k_75 = some r1 → St w0 w (Box b1 28 [.slice A_d_Crossings d_Crossings.length c_d_Crossings, .int .i64 d_Circles] :: Own (Ty.slice 2 (TInt .i64)) 43 A70 c71 y73 out_72 :: Own TBool 4 (some ⟨b7, 0, none⟩) ((w64 (4 * (d_Crossings.length : Int))).toNat) (fun _ => ()) done_74 :: L) → G Try.prog 68 46 [(1, .pointer (some ⟨b1, 0, none⟩)), (3, .slice A70 out_72.length c71), (4, .slice (some ⟨b7, 0, none⟩) done_74.length ((w64 (4 * (d_Crossings.length : Int))).toNat)), (5, .int .i64 k_75)] k_l1 w (spec_l25Regions.post w0 L d_Crossings d_Circles A_d_Crossings c_d_Crossings r1) := by
   intro m_l1
   induction m_l1 using Nat.strongRecOn with
   | _ m_l1 ih_l1 =>
    intro hm_l1 A70 c71 out_72 y73 done_74 k_75 w H HS
    cases m_l1 with
    | zero => rw [spec_l25Regions.l1] at H; cases H
    | succ n_l1 =>
     rw [spec_l25Regions.l1] at H
     subst hk_l1
     refine G.seq ?_
     refine G.seq ?_
     refine G.region ?_
     refine GO.move rfl rfl rfl ?_
     refine GO.move rfl rfl rfl ?_
     refine GO.lenS rfl rfl Try.underlying83 rfl ?_
     refine GO.lss rfl rfl rfl rfl ?_
     refine GO.nil ?_
     rcases ite_elim H with ⟨c137, H⟩ | ⟨c137, H⟩
     ·
      refine G.yesB rfl (decide_eq_true c137) ?_
      refine G.skip ?_
      refine G.seq ?_
      refine G.block ?_
      refine G.seq ?_
      refine G.seq ?_
      obtain ⟨c138, H⟩ := ite_none H
      refine G.region ?_
      refine GO.move rfl rfl rfl ?_
      refine GO.move rfl rfl rfl ?_
      refine GO.ix rfl rfl rfl Try.underlying83 sz4 (fun _ => ⟨_, _, rfl⟩) c138.1 c138.2 rfl ?_
      refine GO.ldRd (T := TBool) (n := k_75.toNat) (o := 0) HS (RdIn.own (j := 2) rfl) rfl rfl (getD_some (d := false) (ltN c138)) rfl rfl na4 rfl ?_
      refine GO.nil ?_
      rcases ite_elim H with ⟨c139, H⟩ | ⟨c139, H⟩
      ·
       refine G.yesB rfl c139 ?_
       refine G.exit rfl ?_
       refine G.region ?_
       refine GO.move rfl rfl rfl ?_
       refine GO.add rfl rfl rfl rfl ?_
       refine GO.assign rfl rfl rfl ?_
       refine GO.nil ?_
       refine G.again ?_
       refine G.weak ?_ (ih_l1 n_l1 (Nat.lt_succ_of_le (Nat.le_refl _)) (Nat.le_of_succ_le hm_l1) _ _ _ _ _ _ _ H HS)
       exact ⟨rfl, rfl, rfl, rfl, trivial⟩
      ·
       refine G.noB rfl (bnot_of c139) ?_
       refine G.skip ?_
       refine G.seq ?_
       refine G.region ?_
       refine GO.buildS (el := 2) ([]) HS rfl rfl (fun _ => by kernel_rfl) rfl ?_; intro b140 wd141 HS
       replace HS := HS.boxRow (T := (TInt .i64)) (j := 0) rfl flat_flat (fun _ => ()) ([] : List Int) rfl (bndL rfl)
       refine GO.lenC (t := 24) (m := ([] : List Int).length) (c' := ([] : List Int).length) rfl rfl rfl ?_
       refine GO.assign rfl rfl rfl ?_
       refine GO.nil ?_
       refine G.seq ?_
       refine G.seq ?_
       refine G.region ?_
       refine GO.move rfl rfl rfl ?_
       refine GO.assign rfl rfl rfl ?_
       refine GO.nil ?_
       refine G.block ?_
       refine G.loop ?_
       refine G.name (fun k_l4 hk_l4 => ?_)
       have at_l4 : ∀ m_l4, m_l4 ≤ n_l1 → ∀ (done_153 : List Bool) (A154 : Option Addr) (c155 : Nat) (region_156 : List Int) (at_157 : Int) (w : World), spec_l25Regions.l4 K m_l4 d_Crossings d_Circles out_72 k_75 done_153 region_156 at_157 = some r1 → St w0 w (Box b1 28 [.slice A_d_Crossings d_Crossings.length c_d_Crossings, .int .i64 d_Circles] :: Own (Ty.slice 2 (TInt .i64)) 43 A70 c71 y73 out_72 :: Own TBool 4 (some ⟨b7, 0, none⟩) ((w64 (4 * (d_Crossings.length : Int))).toNat) (fun _ => ()) done_153 :: Own (TInt .i64) 2 A154 c155 (fun _ => ()) region_156 :: L) → G Try.prog 68 46 [(1, .pointer (some ⟨b1, 0, none⟩)), (3, .slice A70 out_72.length c71), (4, .slice (some ⟨b7, 0, none⟩) done_153.length ((w64 (4 * (d_Crossings.length : Int))).toNat)), (5, .int .i64 k_75), (6, .slice A154 region_156.length c155), (7, .int .i64 at_157)] k_l4 w (spec_l25Regions.post w0 L d_Crossings d_Circles A_d_Crossings c_d_Crossings r1) := by
        intro m_l4
        induction m_l4 using Nat.strongRecOn with
        | _ m_l4 ih_l4 =>
         intro hm_l4 done_153 A154 c155 region_156 at_157 w H HS
         cases m_l4 with
         | zero => rw [spec_l25Regions.l4] at H; cases H
         | succ n_l4 =>
          rw [spec_l25Regions.l4] at H
          subst hk_l4
          refine G.seq ?_
          refine G.seq ?_
          obtain ⟨c178, H⟩ := ite_none H
          refine G.region ?_
          refine GO.move rfl rfl rfl ?_
          refine GO.move rfl rfl rfl ?_
          refine GO.ix rfl rfl rfl Try.underlying83 sz4 (fun _ => ⟨_, _, rfl⟩) c178.1 c178.2 rfl ?_
          refine GO.ldRd (T := TBool) (n := at_157.toNat) (o := 0) HS (RdIn.own (j := 2) rfl) rfl rfl (getD_some (d := false) (ltN c178)) rfl rfl na4 rfl ?_
          refine GO.not rfl rfl rfl ?_
          refine GO.nil ?_
          rcases ite_elim H with ⟨c179, H⟩ | ⟨c179, H⟩
          ·
           refine G.noB rfl (congrArg Bool.not c179) ?_
           refine G.exit rfl ?_
           obtain ⟨c185, H⟩ := ite_none H
           refine G.region ?_
           refine GO.move rfl rfl rfl ?_
           refine GO.move rfl rfl rfl ?_
           refine GO.buildS (el := 43) ([.slice A154 region_156.length c155]) HS rfl rfl (fun _ => by kernel_rfl) rfl ?_; intro b180 wd181 HS
           replace HS := HS.pk 5 [2, 0, 4, 1, 3] rfl
           refine GO.appR (S := (TInt .i64)) (u := 2) HS rfl rfl rfl Try.underlying42 inf43 rfl rfl c185 rfl ?_; intro A183 c184 y186 wd182 HS
           refine GO.assign rfl rfl rfl ?_
           refine GO.nil ?_
           refine G.blockEnd ?_
           refine G.region ?_
           refine GO.move rfl rfl rfl ?_
           refine GO.add rfl rfl rfl rfl ?_
           refine GO.assign rfl rfl rfl ?_
           refine GO.nil ?_
           refine G.again ?_
           refine G.weak ?_ (ih_l1 n_l4 (Nat.lt_succ_of_le (Nat.le_of_succ_le hm_l4)) (Nat.le_trans (Nat.le_of_succ_le hm_l4) (Nat.le_of_succ_le hm_l1)) _ _ _ _ _ _ _ H (HS.pk 4 [2, 0, 3] rfl))
           exact ⟨rfl, rfl, rfl, rfl, trivial⟩
          ·
           refine G.yesB rfl (congrArg Bool.not (bnot_of c179)) ?_
           refine G.skip ?_
           refine G.seq ?_
           refine G.block ?_
           refine G.seq ?_
           refine G.region ?_
           refine GO.move rfl rfl rfl ?_
           refine GO.move rfl rfl rfl ?_
           refine GO.ix rfl rfl rfl Try.underlying83 sz4 (fun _ => ⟨_, _, rfl⟩) c178.1 c178.2 rfl ?_
           refine GO.stRow (T := TBool) (j := 2) (n := at_157.toNat) (o := 0) (vs := [.bool true]) true HS rfl flat_flat rfl rfl rfl rfl (htN na4 rfl) rfl (getD_some (d := false) (ltN c178)) rfl rfl ?_; intro wd187 HS
           refine GO.nil ?_
           refine G.len (t := 4) (m := (done_153.set at_157.toNat true).length) rfl (by simp only [List.length_set] <;> rfl) ?_
           obtain ⟨c193, H⟩ := ite_none H
           refine G.region ?_
           refine GO.move rfl rfl rfl ?_
           refine GO.move rfl rfl rfl ?_
           refine GO.buildS (el := 2) ([.int .i64 at_157]) HS rfl rfl (fun _ => by kernel_rfl) rfl ?_; intro b188 wd189 HS
           refine GO.app1 (T := (TInt .i64)) (j := 4) (jb := 0) at_157 HS rfl rfl flat_flat rfl rfl rfl Try.underlying43 inf2 rfl rfl rfl c193 rfl ?_; intro A191 c192 wd190 HS
           refine GO.assign rfl rfl rfl ?_
           refine GO.nil ?_
           refine G.blockEnd ?_
           obtain ⟨t194, h195, H⟩ := Option.bind_eq_some_iff.1 H
           refine G.region ?_
           refine GO.ldBoxA (j := 1) ([.slice A_d_Crossings d_Crossings.length c_d_Crossings, .int .i64 d_Circles]) HS rfl rfl rfl rfl ag28 rfl ?_
           refine GO.move rfl rfl rfl ?_
           refine GO.fn rfl Try.func119 fok119.1 fok119.2 rfl rfl (spec_l25Successor.calls HS (RdIn.drop 5 h_d_Crossings) h195) (fun _ wd196 ⟨h197, HS⟩ => ⟨_, h197, ?_⟩)
           refine GO.assign rfl rfl rfl ?_
           refine GO.nil ?_
           refine G.again ?_
           refine G.weak ?_ (ih_l4 n_l4 (Nat.lt_succ_of_le (Nat.le_refl _)) (Nat.le_of_succ_le hm_l4) _ _ _ _ _ _ H (HS.pk 5 [1, 2, 3, 4] rfl))
           exact ⟨rfl, rfl, rfl, rfl, rfl, rfl, trivial⟩
       refine G.weak ?_ (at_l4 n_l1 (Nat.le_refl _) _ _ _ _ _ _ H (HS.pk 4 [1, 2, 3, 0] rfl))
       exact ⟨rfl, rfl, rfl, rfl, rfl, rfl, trivial⟩
     ·
      refine G.noB rfl (decide_eq_false c137) ?_
      refine G.exit rfl ?_
      refine G.seq ?_
      refine G.region ?_
      refine GO.move rfl rfl rfl ?_
      refine GO.assign rfl rfl rfl ?_
      refine GO.nil ?_
      obtain rfl := Option.some.inj H
      exact G.ret1 _ Try.func68 rfl rfl ⟨_, _, _, rfl, (HS.pk 3 [1] rfl)⟩
  refine G.weak ?_ (at_l1 K (Nat.le_refl _) _ _ _ _ _ _ _ H (HS.pk 3 [2, 1, 0] rfl))
  exact ⟨rfl, rfl, rfl, rfl, trivial⟩

set_option maxRecDepth 20000 in
set_option maxHeartbeats 40000000 in
theorem spec_l25Parts.calls {w0 w : World} {L : List HObj} {K : Nat} {d_Crossings : List GCrossing} {d_Circles : Int} {A_d_Crossings : Option Addr} {c_d_Crossings : Nat} {r1 : List Int} (HS : St w0 w (L)) (h_d_Crossings : RdIn w0 L T_GCrossing A_d_Crossings c_d_Crossings (fun _ => ()) d_Crossings) (H : spec_l25Parts.f K d_Crossings d_Circles = some r1) :
    Calls Try.prog 136 #[.agg [.slice A_d_Crossings d_Crossings.length c_d_Crossings, .int .i64 d_Circles].toArray] w (spec_l25Parts.post w0 L d_Crossings d_Circles A_d_Crossings c_d_Crossings r1) := by
  unfold spec_l25Parts.f at H
  refine Calls.of_G Try.func136 rfl rfl rfl ?_
  refine G.seq ?_
  refine G.region ?_
  refine GO.box (cs := [.slice A_d_Crossings d_Crossings.length c_d_Crossings, .int .i64 d_Circles]) HS rfl rfl rfl rfl ?_; intro b1 wd2 HS
  refine GO.assign rfl rfl rfl ?_
  refine GO.nil ?_
  refine G.seq ?_
  refine G.region ?_
  refine GO.buildS (el := 2) ([]) HS rfl rfl (fun _ => by kernel_rfl) rfl ?_; intro b3 wd4 HS
  replace HS := HS.boxRow (T := (TInt .i64)) (j := 0) rfl flat_flat (fun _ => ()) ([] : List Int) rfl (bndL rfl)
  refine GO.lenC (t := 13) (m := ([] : List Int).length) (c' := ([] : List Int).length) rfl rfl rfl ?_
  refine GO.assign rfl rfl rfl ?_
  refine GO.nil ?_
  refine G.seq ?_
  refine G.seq ?_
  refine G.region ?_
  refine GO.assign rfl rfl rfl ?_
  refine GO.nil ?_
  refine G.block ?_
  refine G.loop ?_
  refine G.name (fun k_l1 hk_l1 => ?_)
  have at_l1 : ∀ m_l1, m_l1 ≤ K → ∀ (A101 : Option Addr) (c102 : Nat) (out_103 : List Int) (c_104 : Int) (w : World), spec_l25Parts.l1 K m_l1 d_Crossings d_Circles out_103 c_104 = some r1 → St w0 w (Box b1 28 [.slice A_d_Crossings d_Crossings.length c_d_Crossings, .int .i64 d_Circles] :: Own (TInt .i64) 2 A101 c102 (fun _ => ()) out_103 :: L) → G Try.prog 136 74 [(1, .pointer (some ⟨b1, 0, none⟩)), (3, .slice A101 out_103.length c102), (4, .int .i64 c_104)] k_l1 w (spec_l25Parts.post w0 L d_Crossings d_Circles A_d_Crossings c_d_Crossings r1) := by
   intro m_l1
   induction m_l1 using Nat.strongRecOn with
   | _ m_l1 ih_l1 =>
    intro hm_l1 A101 c102 out_103 c_104 w H HS
    cases m_l1 with
    | zero => rw [spec_l25Parts.l1] at H; cases H
    | succ n_l1 =>
     rw [spec_l25Parts.l1] at H
     subst hk_l1
     refine G.seq ?_
     refine G.seq ?_
     refine G.region ?_
     refine GO.move rfl rfl rfl ?_
     refine GO.fld (⟨b1, 0, none⟩) rfl rfl fl28_0 rfl rfl ?_
     refine GO.ldBox (j := 0) HS rfl rfl rfl rfl na26 rfl ?_
     refine GO.lenS rfl rfl Try.underlying26 rfl ?_
     refine GO.lss rfl rfl rfl rfl ?_
     refine GO.nil ?_
     rcases ite_elim H with ⟨c201, H⟩ | ⟨c201, H⟩
     ·
      refine G.yesB rfl (decide_eq_true c201) ?_
      refine G.skip ?_
      refine G.seq ?_
      refine G.block ?_
      obtain ⟨c207, H⟩ := ite_none H
      refine G.region ?_
      refine GO.move rfl rfl rfl ?_
      refine GO.move rfl rfl rfl ?_
      refine GO.buildS (el := 2) ([.int .i64 c_104]) HS rfl rfl (fun _ => by kernel_rfl) rfl ?_; intro b202 wd203 HS
      refine GO.app1 (T := (TInt .i64)) (j := 2) (jb := 0) c_104 HS rfl rfl flat_flat rfl rfl rfl Try.underlying43 inf2 rfl rfl rfl c207 rfl ?_; intro A205 c206 wd204 HS
      refine GO.assign rfl rfl rfl ?_
      refine GO.nil ?_
      refine G.blockEnd ?_
      refine G.region ?_
      refine GO.move rfl rfl rfl ?_
      refine GO.add rfl rfl rfl rfl ?_
      refine GO.assign rfl rfl rfl ?_
      refine GO.nil ?_
      refine G.again ?_
      refine G.weak ?_ (ih_l1 n_l1 (Nat.lt_succ_of_le (Nat.le_refl _)) (Nat.le_of_succ_le hm_l1) _ _ _ _ _ H (HS.pk 3 [1, 2] rfl))
      exact ⟨rfl, rfl, rfl, trivial⟩
     ·
      refine G.noB rfl (decide_eq_false c201) ?_
      refine G.exit rfl ?_
      refine G.seq ?_
      refine G.seq ?_
      refine G.region ?_
      refine GO.assign rfl rfl rfl ?_
      refine GO.nil ?_
      refine G.block ?_
      refine G.loop ?_
      refine G.name (fun k_l10 hk_l10 => ?_)
      have at_l10 : ∀ m_l10, m_l10 ≤ n_l1 → ∀ (out_237 : List Int) (a_238 : Int) (w : World), spec_l25Parts.l10 K m_l10 d_Crossings d_Circles out_237 a_238 = some r1 → St w0 w (Box b1 28 [.slice A_d_Crossings d_Crossings.length c_d_Crossings, .int .i64 d_Circles] :: Own (TInt .i64) 2 A101 c102 (fun _ => ()) out_237 :: L) → G Try.prog 136 74 [(1, .pointer (some ⟨b1, 0, none⟩)), (3, .slice A101 out_237.length c102), (5, .int .i64 a_238)] k_l10 w (spec_l25Parts.post w0 L d_Crossings d_Circles A_d_Crossings c_d_Crossings r1) := by
       intro m_l10
       induction m_l10 using Nat.strongRecOn with
       | _ m_l10 ih_l10 =>
        intro hm_l10 out_237 a_238 w H HS
        cases m_l10 with
        | zero => rw [spec_l25Parts.l10] at H; cases H
        | succ n_l10 =>
         rw [spec_l25Parts.l10] at H
         subst hk_l10
         refine G.seq ?_
         refine G.seq ?_
         refine G.region ?_
         refine GO.move rfl rfl rfl ?_
         refine GO.fld (⟨b1, 0, none⟩) rfl rfl fl28_0 rfl rfl ?_
         refine GO.ldBox (j := 0) HS rfl rfl rfl rfl na26 rfl ?_
         refine GO.lenS rfl rfl Try.underlying26 rfl ?_
         refine GO.mul rfl rfl rfl rfl ?_
         refine GO.lss rfl rfl rfl rfl ?_
         refine GO.nil ?_
         rcases ite_elim H with ⟨c268, H⟩ | ⟨c268, H⟩
         ·
          refine G.yesB rfl (decide_eq_true c268) ?_
          refine G.skip ?_
          refine G.seq ?_
          refine G.block ?_
          refine G.seq ?_
          obtain ⟨t269, t270, h271, H⟩ := bind2_elim H
          refine G.region ?_
          refine GO.ldBoxA (j := 0) ([.slice A_d_Crossings d_Crossings.length c_d_Crossings, .int .i64 d_Circles]) HS rfl rfl rfl rfl ag28 rfl ?_
          refine GO.move rfl rfl rfl ?_
          refine GO.fn rfl Try.func42 fok42.1 fok42.2 rfl rfl (spec_l25Place.calls HS (RdIn.drop 2 h_d_Crossings) h271) (fun _ wd272 ⟨h273, HS⟩ => ⟨_, h273, ?_⟩)
          refine GO.move rfl rfl rfl ?_
          refine GO.extract rfl rfl rfl rfl ?_
          refine GO.extract rfl rfl rfl rfl ?_
          refine GO.assign rfl rfl rfl ?_
          refine GO.assign rfl rfl rfl ?_
          refine GO.nil ?_
          refine G.seq ?_
          obtain ⟨t274, t275, h276, H⟩ := bind2_elim H
          refine G.region ?_
          refine GO.ldBoxA (j := 0) ([.slice A_d_Crossings d_Crossings.length c_d_Crossings, .int .i64 d_Circles]) HS rfl rfl rfl rfl ag28 rfl ?_
          refine GO.move rfl rfl rfl ?_
          refine GO.fn rfl Try.func42 fok42.1 fok42.2 rfl rfl (spec_l25Place.calls HS (RdIn.drop 2 h_d_Crossings) h276) (fun _ wd277 ⟨h278, HS⟩ => ⟨_, h278, ?_⟩)
          refine GO.move rfl rfl rfl ?_
          refine GO.extract rfl rfl rfl rfl ?_
          refine GO.extract rfl rfl rfl rfl ?_
          refine GO.assign rfl rfl rfl ?_
          refine GO.assign rfl rfl rfl ?_
          refine GO.nil ?_
          refine G.seq ?_
          obtain ⟨c279, H⟩ := ite_none H
          have h280 := ((RdIn.own (j := 1) rfl) _ HS).2.2.1
          obtain ⟨c281, H⟩ := ite_none H
          have h282 := ((RdIn.own (j := 1) rfl) _ HS).2.2.1
          refine G.regionAny mixed (by decide) (fun b a w => ∃ (Y1_0 : Value) (Y2_1 : Value) (Y3_2 : Value) (Y4_3 : Value) (Y5_4 : Value) (Y6_5 : Value) (Y7_6 : Value) (Y8_7 : Value) (Y9_8 : Value) (Y10_9 : Value), Sat 74 [(10, Y9_8), (11, Y10_9), (45, Y1_0), (46, Y2_1), (47, Y3_2), (48, Y4_3), (49, Y5_4), (50, Y6_5), (51, Y7_6), (52, Y8_7), (1, .pointer (some ⟨b1, 0, none⟩)), (3, .slice A101 out_237.length c102), (5, .int .i64 a_238), (6, .int .i64 t269), (8, .int .i64 t274)] a ∧ St w0 w (Box b1 28 [.slice A_d_Crossings d_Crossings.length c_d_Crossings, .int .i64 d_Circles] :: Own (TInt .i64) 2 A101 c102 (fun _ => ()) out_237 :: L) ∧ (b 8 = true → Y9_8 = (.int .i64 (out_237.getD t269.toNat 0))) ∧ (b 9 = true → Y10_9 = (.int .i64 (out_237.getD t274.toNat 0))) ∧ (b 0 = true → Y1_0 = (.slice A101 out_237.length c102)) ∧ (b 1 = true → Y2_1 = (.int .i64 t269)) ∧ (b 2 = true → Y3_2 = (.pointer (some (ea A101 (t269.toNat * 1))))) ∧ (b 3 = true → Y4_3 = (.int .i64 (out_237.getD t269.toNat 0))) ∧ (b 4 = true → Y5_4 = (.slice A101 out_237.length c102)) ∧ (b 5 = true → Y6_5 = (.int .i64 t274)) ∧ (b 6 = true → Y7_6 = (.pointer (some (ea A101 (t274.toNat * 1))))) ∧ (b 7 = true → Y8_7 = (.int .i64 (out_237.getD t274.toNat 0)))) ?_ ?_ ?_
          ·
           intro a hs
           obtain ⟨Y9_8, hs⟩ := hs.ext (d := 10) rfl
           obtain ⟨Y10_9, hs⟩ := hs.ext (d := 11) rfl
           obtain ⟨Y1_0, hs⟩ := hs.ext (d := 45) rfl
           obtain ⟨Y2_1, hs⟩ := hs.ext (d := 46) rfl
           obtain ⟨Y3_2, hs⟩ := hs.ext (d := 47) rfl
           obtain ⟨Y4_3, hs⟩ := hs.ext (d := 48) rfl
           obtain ⟨Y5_4, hs⟩ := hs.ext (d := 49) rfl
           obtain ⟨Y6_5, hs⟩ := hs.ext (d := 50) rfl
           obtain ⟨Y7_6, hs⟩ := hs.ext (d := 51) rfl
           obtain ⟨Y8_7, hs⟩ := hs.ext (d := 52) rfl
           exact ⟨Y1_0, Y2_1, Y3_2, Y4_3, Y5_4, Y6_5, Y7_6, Y8_7, Y9_8, Y10_9, hs.weak ⟨rfl, rfl, rfl, rfl, rfl, rfl, rfl, rfl, rfl, rfl, rfl, rfl, rfl, rfl, rfl, trivial⟩, (HS.drew.pk 2 [0, 1] rfl), fun h => Bool.noConfusion h, fun h => Bool.noConfusion h, fun h => Bool.noConfusion h, fun h => Bool.noConfusion h, fun h => Bool.noConfusion h, fun h => Bool.noConfusion h, fun h => Bool.noConfusion h, fun h => Bool.noConfusion h, fun h => Bool.noConfusion h, fun h => Bool.noConfusion h⟩
          ·
           intro j hj b a w
           refine exI fun Y1_0 => exI fun Y2_1 => exI fun Y3_2 => exI fun Y4_3 => exI fun Y5_4 => exI fun Y6_5 => exI fun Y7_6 => exI fun Y8_7 => exI fun Y9_8 => exI fun Y10_9 => anI fun hs => anI fun HS => anI fun f8 => anI fun f9 => anI fun f0 => anI fun f1 => anI fun f2 => anI fun f3 => anI fun f4 => anI fun f5 => anI fun f6 => fun f7 hb hd hcl => ?_
           match j, hj with
           | 0, _ =>
            refine GO.at hs ?_
            refine GO.move rfl rfl rfl ?_
            refine GO.fin (fun a hs => ?_)
            exact ⟨(.slice A101 out_237.length c102), _, _, _, _, _, _, _, _, _, by exact hs.setAt 2 rfl, HS, f8, f9, fun _ => rfl, f1, f2, f3, f4, f5, f6, f7⟩
           | 1, _ =>
            refine GO.at hs ?_
            refine GO.move rfl rfl rfl ?_
            refine GO.fin (fun a hs => ?_)
            exact ⟨_, (.int .i64 t269), _, _, _, _, _, _, _, _, by exact hs.setAt 3 rfl, HS, f8, f9, f0, fun _ => rfl, f2, f3, f4, f5, f6, f7⟩
           | 2, _ =>
            have hb0 : b 0 = true := hd 0 (by decide)
            obtain rfl := f0 hb0
            have hb1 : b 1 = true := hd 1 (by decide)
            obtain rfl := f1 hb1
            refine GO.at hs ?_
            refine GO.ix rfl rfl rfl Try.underlying43 sz2 h280 c279.1 c279.2 rfl ?_
            refine GO.fin (fun a hs => ?_)
            exact ⟨_, _, (.pointer (some (ea A101 (t269.toNat * 1)))), _, _, _, _, _, _, _, by exact hs.setAt 4 rfl, HS, f8, f9, f0, f1, fun _ => rfl, f3, f4, f5, f6, f7⟩
           | 3, _ =>
            have hb2 : b 2 = true := hd 2 (by decide)
            obtain rfl := f2 hb2
            refine GO.at hs ?_
            refine GO.ldRd (T := (TInt .i64)) (n := t269.toNat) (o := 0) HS (RdIn.own (j := 1) rfl) rfl rfl (getD_some (d := 0) (ltN c279)) rfl rfl na2 rfl ?_
            refine GO.fin (fun a hs => ?_)
            exact ⟨_, _, _, (.int .i64 (out_237.getD t269.toNat 0)), _, _, _, _, _, _, by exact hs.setAt 5 rfl, HS, f8, f9, f0, f1, f2, fun _ => rfl, f4, f5, f6, f7⟩
           | 4, _ =>
            refine GO.at hs ?_
            refine GO.move rfl rfl rfl ?_
            refine GO.fin (fun a hs => ?_)
            exact ⟨_, _, _, _, (.slice A101 out_237.length c102), _, _, _, _, _, by exact hs.setAt 6 rfl, HS, f8, f9, f0, f1, f2, f3, fun _ => rfl, f5, f6, f7⟩
           | 5, _ =>
            refine GO.at hs ?_
            refine GO.move rfl rfl rfl ?_
            refine GO.fin (fun a hs => ?_)
            exact ⟨_, _, _, _, _, (.int .i64 t274), _, _, _, _, by exact hs.setAt 7 rfl, HS, f8, f9, f0, f1, f2, f3, f4, fun _ => rfl, f6, f7⟩
           | 6, _ =>
            have hb4 : b 4 = true := hd 4 (by decide)
            obtain rfl := f4 hb4
            have hb5 : b 5 = true := hd 5 (by decide)
            obtain rfl := f5 hb5
            refine GO.at hs ?_
            refine GO.ix rfl rfl rfl Try.underlying43 sz2 h282 c281.1 c281.2 rfl ?_
            refine GO.fin (fun a hs => ?_)
            exact ⟨_, _, _, _, _, _, (.pointer (some (ea A101 (t274.toNat * 1)))), _, _, _, by exact hs.setAt 8 rfl, HS, f8, f9, f0, f1, f2, f3, f4, f5, fun _ => rfl, f7⟩
           | 7, _ =>
            have hb6 : b 6 = true := hd 6 (by decide)
            obtain rfl := f6 hb6
            refine GO.at hs ?_
            refine GO.ldRd (T := (TInt .i64)) (n := t274.toNat) (o := 0) HS (RdIn.own (j := 1) rfl) rfl rfl (getD_some (d := 0) (ltN c281)) rfl rfl na2 rfl ?_
            refine GO.fin (fun a hs => ?_)
            exact ⟨_, _, _, _, _, _, _, (.int .i64 (out_237.getD t274.toNat 0)), _, _, by exact hs.setAt 9 rfl, HS, f8, f9, f0, f1, f2, f3, f4, f5, f6, fun _ => rfl⟩
           | 8, _ =>
            have hb3 : b 3 = true := hd 3 (by decide)
            obtain rfl := f3 hb3
            refine GO.at hs ?_
            refine GO.assign rfl rfl rfl ?_
            refine GO.fin (fun a hs => ?_)
            exact ⟨_, _, _, _, _, _, _, _, (.int .i64 (out_237.getD t269.toNat 0)), _, by exact hs.setAt 0 rfl, HS, fun _ => rfl, f9, f0, f1, f2, f3, f4, f5, f6, f7⟩
           | 9, _ =>
            have hb7 : b 7 = true := hd 7 (by decide)
            obtain rfl := f7 hb7
            refine GO.at hs ?_
            refine GO.assign rfl rfl rfl ?_
            refine GO.fin (fun a hs => ?_)
            exact ⟨_, _, _, _, _, _, _, _, _, (.int .i64 (out_237.getD t274.toNat 0)), by exact hs.setAt 1 rfl, HS, f8, fun _ => rfl, f0, f1, f2, f3, f4, f5, f6, f7⟩
           | k + 10, hj => exact absurd hj (Nat.not_lt.2 (Nat.le_add_left 10 k))
          ·
           intro b a w hall
           refine exI fun Y1_0 => exI fun Y2_1 => exI fun Y3_2 => exI fun Y4_3 => exI fun Y5_4 => exI fun Y6_5 => exI fun Y7_6 => exI fun Y8_7 => exI fun Y9_8 => exI fun Y10_9 => anI fun hs => anI fun HS => anI fun f8 => anI fun f9 => anI fun f0 => anI fun f1 => anI fun f2 => anI fun f3 => anI fun f4 => anI fun f5 => anI fun f6 => fun f7 => ?_
           obtain rfl := f8 (hall 8 (by decide))
           obtain rfl := f9 (hall 9 (by decide))
           obtain rfl := f0 (hall 0 (by decide))
           obtain rfl := f1 (hall 1 (by decide))
           obtain rfl := f2 (hall 2 (by decide))
           obtain rfl := f3 (hall 3 (by decide))
           obtain rfl := f4 (hall 4 (by decide))
           obtain rfl := f5 (hall 5 (by decide))
           obtain rfl := f6 (hall 6 (by decide))
           obtain rfl := f7 (hall 7 (by decide))
           refine G.at hs ?_
           refine G.seq ?_
           refine G.region ?_
           refine GO.assign rfl rfl rfl ?_
           refine GO.nil ?_
           refine G.block ?_
           refine G.loop ?_
           refine G.name (fun k_l13 hk_l13 => ?_)
           have at_l13 : ∀ m_l13, m_l13 ≤ n_l10 → ∀ (out_287 : List Int) (k_288 : Int) (w : World), spec_l25Parts.l13 K m_l13 d_Crossings d_Circles out_237 a_238 t269 t274 out_287 k_288 = some r1 → St w0 w (Box b1 28 [.slice A_d_Crossings d_Crossings.length c_d_Crossings, .int .i64 d_Circles] :: Own (TInt .i64) 2 A101 c102 (fun _ => ()) out_287 :: L) → G Try.prog 136 74 [(1, .pointer (some ⟨b1, 0, none⟩)), (3, .slice A101 out_287.length c102), (5, .int .i64 a_238), (10, .int .i64 (out_237.getD t269.toNat 0)), (11, .int .i64 (out_237.getD t274.toNat 0)), (12, .int .i64 k_288)] k_l13 w (spec_l25Parts.post w0 L d_Crossings d_Circles A_d_Crossings c_d_Crossings r1) := by
            intro m_l13
            induction m_l13 using Nat.strongRecOn with
            | _ m_l13 ih_l13 =>
             intro hm_l13 out_287 k_288 w H HS
             cases m_l13 with
             | zero => rw [spec_l25Parts.l13] at H; cases H
             | succ n_l13 =>
              rw [spec_l25Parts.l13] at H
              subst hk_l13
              refine G.seq ?_
              refine G.seq ?_
              refine G.region ?_
              refine GO.move rfl rfl rfl ?_
              refine GO.move rfl rfl rfl ?_
              refine GO.lenS rfl rfl Try.underlying43 rfl ?_
              refine GO.lss rfl rfl rfl rfl ?_
              refine GO.nil ?_
              rcases ite_elim H with ⟨c293, H⟩ | ⟨c293, H⟩
              ·
               refine G.yesB rfl (decide_eq_true c293) ?_
               refine G.skip ?_
               refine G.seq ?_
               refine G.block ?_
               refine G.seq ?_
               obtain ⟨c294, H⟩ := ite_none H
               refine G.region ?_
               refine GO.move rfl rfl rfl ?_
               refine GO.move rfl rfl rfl ?_
               refine GO.ix rfl rfl rfl Try.underlying43 sz2 ((RdIn.own (j := 1) rfl) _ HS).2.2.1 c294.1 c294.2 rfl ?_
               refine GO.ldRd (T := (TInt .i64)) (n := k_288.toNat) (o := 0) HS (RdIn.own (j := 1) rfl) rfl rfl (getD_some (d := 0) (ltN c294)) rfl rfl na2 rfl ?_
               refine GO.move rfl rfl rfl ?_
               refine GO.move rfl rfl rfl ?_
               refine GO.max2 rfl rfl rfl rfl ?_
               refine GO.eql rfl rfl rfl rfl ?_
               refine GO.nil ?_
               rcases ite_elim H with ⟨c295, H⟩ | ⟨c295, H⟩
               ·
                refine G.yesB rfl (decide_eq_true c295) ?_
                refine G.region ?_
                refine GO.move rfl rfl rfl ?_
                refine GO.move rfl rfl rfl ?_
                refine GO.move rfl rfl rfl ?_
                refine GO.move rfl rfl rfl ?_
                refine GO.min2 rfl rfl rfl rfl ?_
                refine GO.ix rfl rfl rfl Try.underlying43 sz2 ((RdIn.own (j := 1) rfl) _ HS).2.2.1 c294.1 c294.2 rfl ?_
                refine GO.stRow (T := (TInt .i64)) (j := 1) (n := k_288.toNat) (o := 0) (vs := [.int .i64 (if out_237.getD t274.toNat 0 < out_237.getD t269.toNat 0 then out_237.getD t274.toNat 0 else out_237.getD t269.toNat 0)]) (if out_237.getD t274.toNat 0 < out_237.getD t269.toNat 0 then out_237.getD t274.toNat 0 else out_237.getD t269.toNat 0) HS rfl flat_flat rfl rfl rfl rfl (htN na2 rfl) rfl (getD_some (d := 0) (ltN c294)) rfl rfl ?_; intro wd296 HS
                refine GO.nil ?_
                refine G.len (t := 3) (m := (out_287.set k_288.toNat (if out_237.getD t274.toNat 0 < out_237.getD t269.toNat 0 then out_237.getD t274.toNat 0 else out_237.getD t269.toNat 0)).length) rfl (by simp only [List.length_set] <;> rfl) ?_
                refine G.blockEnd ?_
                refine G.region ?_
                refine GO.move rfl rfl rfl ?_
                refine GO.add rfl rfl rfl rfl ?_
                refine GO.assign rfl rfl rfl ?_
                refine GO.nil ?_
                refine G.again ?_
                refine G.weak ?_ (ih_l13 n_l13 (Nat.lt_succ_of_le (Nat.le_refl _)) (Nat.le_of_succ_le hm_l13) _ _ _ H HS)
                exact ⟨rfl, rfl, rfl, rfl, rfl, rfl, trivial⟩
               ·
                refine G.noB rfl (decide_eq_false c295) ?_
                refine G.skip ?_
                refine G.blockEnd ?_
                refine G.region ?_
                refine GO.move rfl rfl rfl ?_
                refine GO.add rfl rfl rfl rfl ?_
                refine GO.assign rfl rfl rfl ?_
                refine GO.nil ?_
                refine G.again ?_
                refine G.weak ?_ (ih_l13 n_l13 (Nat.lt_succ_of_le (Nat.le_refl _)) (Nat.le_of_succ_le hm_l13) _ _ _ H HS)
                exact ⟨rfl, rfl, rfl, rfl, rfl, rfl, trivial⟩
              ·
               refine G.noB rfl (decide_eq_false c293) ?_
               refine G.exit rfl ?_
               refine G.blockEnd ?_
               refine G.region ?_
               refine GO.move rfl rfl rfl ?_
               refine GO.add rfl rfl rfl rfl ?_
               refine GO.assign rfl rfl rfl ?_
               refine GO.nil ?_
               refine G.again ?_
               refine G.weak ?_ (ih_l10 n_l13 (Nat.lt_succ_of_le (Nat.le_of_succ_le hm_l13)) (Nat.le_trans (Nat.le_of_succ_le hm_l13) (Nat.le_of_succ_le hm_l10)) _ _ _ H HS)
               exact ⟨rfl, rfl, rfl, trivial⟩
           refine G.weak ?_ (at_l13 n_l10 (Nat.le_refl _) _ _ _ H HS)
           exact ⟨rfl, rfl, rfl, rfl, rfl, rfl, trivial⟩
         ·
          refine G.noB rfl (decide_eq_false c268) ?_
          refine G.exit rfl ?_
          refine G.seq ?_
          refine G.region ?_
          refine GO.move rfl rfl rfl ?_
          refine GO.assign rfl rfl rfl ?_
          refine GO.nil ?_
          obtain rfl := Option.some.inj H
          exact G.ret1 _ Try.func136 rfl rfl ⟨_, _, rfl, (HS.pk 2 [1] rfl)⟩
      refine G.weak ?_ (at_l10 n_l1 (Nat.le_refl _) _ _ _ H HS)
      exact ⟨rfl, rfl, rfl, trivial⟩
  refine G.weak ?_ (at_l1 K (Nat.le_refl _) _ _ _ _ _ H (HS.pk 2 [1, 0] rfl))
  exact ⟨rfl, rfl, rfl, trivial⟩

set_option maxRecDepth 20000 in
set_option maxHeartbeats 40000000 in
theorem spec_l25PartCount.calls {w0 w : World} {L : List HObj} {K : Nat} {d_Crossings : List GCrossing} {d_Circles : Int} {A_d_Crossings : Option Addr} {c_d_Crossings : Nat} {r1 : Int} (HS : St w0 w (L)) (h_d_Crossings : RdIn w0 L T_GCrossing A_d_Crossings c_d_Crossings (fun _ => ()) d_Crossings) (H : spec_l25PartCount.f K d_Crossings d_Circles = some r1) :
    Calls Try.prog 104 #[.agg [.slice A_d_Crossings d_Crossings.length c_d_Crossings, .int .i64 d_Circles].toArray] w (spec_l25PartCount.post w0 L d_Crossings d_Circles A_d_Crossings c_d_Crossings r1) := by
  unfold spec_l25PartCount.f at H
  refine Calls.of_G Try.func104 rfl rfl rfl ?_
  refine G.seq ?_
  refine G.region ?_
  refine GO.box (cs := [.slice A_d_Crossings d_Crossings.length c_d_Crossings, .int .i64 d_Circles]) HS rfl rfl rfl rfl ?_; intro b1 wd2 HS
  refine GO.assign rfl rfl rfl ?_
  refine GO.nil ?_
  refine G.seq ?_
  refine G.region ?_
  refine GO.assign rfl rfl rfl ?_
  refine GO.nil ?_
  refine G.seq ?_
  obtain ⟨t3, h4, H⟩ := Option.bind_eq_some_iff.1 H
  refine G.region ?_
  refine GO.ldBoxA (j := 0) ([.slice A_d_Crossings d_Crossings.length c_d_Crossings, .int .i64 d_Circles]) HS rfl rfl rfl rfl ag28 rfl ?_
  refine GO.fn rfl Try.func136 fok136.1 fok136.2 rfl rfl (spec_l25Parts.calls HS (RdIn.drop 1 h_d_Crossings) h4) (fun _ wd7 ⟨A5, c6, h8, HS⟩ => ⟨_, h8, ?_⟩)
  refine GO.assign rfl rfl rfl ?_
  refine GO.nil ?_
  refine G.seq ?_
  refine G.seq ?_
  refine G.region ?_
  refine GO.assign rfl rfl rfl ?_
  refine GO.nil ?_
  refine G.block ?_
  refine G.loop ?_
  refine G.name (fun k_l1 hk_l1 => ?_)
  have at_l1 : ∀ m_l1, m_l1 ≤ K → ∀ (n_12 : Int) (i_13 : Int) (w : World), spec_l25PartCount.l1 K m_l1 t3 n_12 i_13 = some r1 → St w0 w (Own (TInt .i64) 2 A5 c6 (fun _ => ()) t3 :: L) → G Try.prog 104 23 [(3, .int .i64 n_12), (4, .slice A5 t3.length c6), (5, .int .i64 i_13)] k_l1 w (spec_l25PartCount.post w0 L d_Crossings d_Circles A_d_Crossings c_d_Crossings r1) := by
   intro m_l1
   induction m_l1 using Nat.strongRecOn with
   | _ m_l1 ih_l1 =>
    intro hm_l1 n_12 i_13 w H HS
    cases m_l1 with
    | zero => rw [spec_l25PartCount.l1] at H; cases H
    | succ n_l1 =>
     rw [spec_l25PartCount.l1] at H
     subst hk_l1
     refine G.seq ?_
     refine G.seq ?_
     refine G.region ?_
     refine GO.move rfl rfl rfl ?_
     refine GO.move rfl rfl rfl ?_
     refine GO.lenS rfl rfl Try.underlying43 rfl ?_
     refine GO.lss rfl rfl rfl rfl ?_
     refine GO.nil ?_
     rcases ite_elim H with ⟨c17, H⟩ | ⟨c17, H⟩
     ·
      refine G.yesB rfl (decide_eq_true c17) ?_
      refine G.skip ?_
      refine G.seq ?_
      refine G.block ?_
      refine G.seq ?_
      obtain ⟨c18, H⟩ := ite_none H
      refine G.region ?_
      refine GO.move rfl rfl rfl ?_
      refine GO.move rfl rfl rfl ?_
      refine GO.ix rfl rfl rfl Try.underlying43 sz2 ((RdIn.own (j := 0) rfl) _ HS).2.2.1 c18.1 c18.2 rfl ?_
      refine GO.ldRd (T := (TInt .i64)) (n := i_13.toNat) (o := 0) HS (RdIn.own (j := 0) rfl) rfl rfl (getD_some (d := 0) (ltN c18)) rfl rfl na2 rfl ?_
      refine GO.move rfl rfl rfl ?_
      refine GO.eql rfl rfl rfl rfl ?_
      refine GO.nil ?_
      rcases ite_elim H with ⟨c19, H⟩ | ⟨c19, H⟩
      ·
       refine G.yesB rfl (decide_eq_true c19) ?_
       refine G.region ?_
       refine GO.move rfl rfl rfl ?_
       refine GO.add rfl rfl rfl rfl ?_
       refine GO.assign rfl rfl rfl ?_
       refine GO.nil ?_
       refine G.blockEnd ?_
       refine G.region ?_
       refine GO.move rfl rfl rfl ?_
       refine GO.add rfl rfl rfl rfl ?_
       refine GO.assign rfl rfl rfl ?_
       refine GO.nil ?_
       refine G.again ?_
       refine G.weak ?_ (ih_l1 n_l1 (Nat.lt_succ_of_le (Nat.le_refl _)) (Nat.le_of_succ_le hm_l1) _ _ _ H HS)
       exact ⟨rfl, rfl, rfl, trivial⟩
      ·
       refine G.noB rfl (decide_eq_false c19) ?_
       refine G.skip ?_
       refine G.blockEnd ?_
       refine G.region ?_
       refine GO.move rfl rfl rfl ?_
       refine GO.add rfl rfl rfl rfl ?_
       refine GO.assign rfl rfl rfl ?_
       refine GO.nil ?_
       refine G.again ?_
       refine G.weak ?_ (ih_l1 n_l1 (Nat.lt_succ_of_le (Nat.le_refl _)) (Nat.le_of_succ_le hm_l1) _ _ _ H HS)
       exact ⟨rfl, rfl, rfl, trivial⟩
     ·
      refine G.noB rfl (decide_eq_false c17) ?_
      refine G.exit rfl ?_
      refine G.seq ?_
      refine G.region ?_
      refine GO.move rfl rfl rfl ?_
      refine GO.assign rfl rfl rfl ?_
      refine GO.nil ?_
      obtain rfl := Option.some.inj H
      exact G.ret1 _ Try.func104 rfl rfl ⟨rfl, (HS.pk 1 [] rfl)⟩
  refine G.weak ?_ (at_l1 K (Nat.le_refl _) _ _ _ H (HS.pk 2 [0] rfl))
  exact ⟨rfl, rfl, rfl, trivial⟩

set_option maxRecDepth 20000 in
set_option maxHeartbeats 40000000 in
theorem spec_IsDiagram.calls {w0 w : World} {L : List HObj} {K : Nat} {d_Crossings : List GCrossing} {d_Circles : Int} {A_d_Crossings : Option Addr} {c_d_Crossings : Nat} {r1 : Bool} (HS : St w0 w (L)) (h_d_Crossings : RdIn w0 L T_GCrossing A_d_Crossings c_d_Crossings (fun _ => ()) d_Crossings) (H : spec_IsDiagram.f K d_Crossings d_Circles = some r1) :
    Calls Try.prog 40 #[.agg [.slice A_d_Crossings d_Crossings.length c_d_Crossings, .int .i64 d_Circles].toArray] w (spec_IsDiagram.post w0 L d_Crossings d_Circles A_d_Crossings c_d_Crossings r1) := by
  unfold spec_IsDiagram.f at H
  refine Calls.of_G Try.func40 rfl rfl rfl ?_
  refine G.seq ?_
  refine G.region ?_
  refine GO.box (cs := [.slice A_d_Crossings d_Crossings.length c_d_Crossings, .int .i64 d_Circles]) HS rfl rfl rfl rfl ?_; intro b1 wd2 HS
  refine GO.assign rfl rfl rfl ?_
  refine GO.nil ?_
  refine G.seq ?_
  refine G.seq ?_
  rcases ite_elim H with ⟨c13, H⟩ | ⟨c13, H⟩
  ·
   refine G.region ?_
   refine GO.fld (⟨b1, 0, none⟩) rfl rfl fl28_0 rfl rfl ?_
   refine GO.ldBox (j := 0) HS rfl rfl rfl rfl na26 rfl ?_
   refine GO.lenS rfl rfl Try.underlying26 rfl ?_
   refine GO.gtr rfl rfl rfl rfl ?_
   refine GO.move rfl rfl rfl ?_
   refine GO.known (t := 7) rfl (decide_eq_true c13) ?_
   refine GO.off rfl rfl rfl rfl rfl rfl ?_
   refine GO.off rfl rfl rfl rfl rfl rfl ?_
   refine GO.off rfl rfl rfl rfl rfl rfl ?_
   refine GO.off rfl rfl rfl rfl rfl rfl ?_
   refine GO.pickT rfl rfl rfl rfl rfl ?_
   refine GO.move rfl rfl rfl ?_
   refine GO.off rfl rfl rfl rfl rfl rfl ?_
   refine GO.off rfl rfl rfl rfl rfl rfl ?_
   refine GO.off rfl rfl rfl rfl rfl rfl ?_
   refine GO.pickT rfl rfl rfl rfl rfl ?_
   refine GO.nil ?_
   refine G.yesB rfl rfl ?_
   refine G.seq ?_
   refine G.region ?_
   refine GO.assign rfl rfl rfl ?_
   refine GO.nil ?_
   obtain rfl := Option.some.inj H
   exact G.ret1 _ Try.func40 rfl rfl ⟨rfl, (HS.pk 1 [] rfl)⟩
  ·
   obtain ⟨t14, h15, H⟩ := Option.bind_eq_some_iff.1 H
   rcases ite_elim H with ⟨c18, H⟩ | ⟨c18, H⟩
   ·
    obtain ⟨t19, h20, H⟩ := Option.bind_eq_some_iff.1 H
    refine G.region ?_
    refine GO.fld (⟨b1, 0, none⟩) rfl rfl fl28_0 rfl rfl ?_
    refine GO.ldBox (j := 0) HS rfl rfl rfl rfl na26 rfl ?_
    refine GO.lenS rfl rfl Try.underlying26 rfl ?_
    refine GO.gtr rfl rfl rfl rfl ?_
    refine GO.move rfl rfl rfl ?_
    refine GO.known (t := 7) rfl (decide_eq_false c13) ?_
    refine GO.on rfl rfl rfl rfl ?_
    refine GO.fld (⟨b1, 1, none⟩) rfl rfl fl28_1 rfl rfl ?_
    refine GO.back ?_
    refine GO.on rfl rfl rfl rfl ?_
    refine GO.ldBox (j := 0) HS rfl rfl rfl rfl na2 rfl ?_
    refine GO.back ?_
    refine GO.on rfl rfl rfl rfl ?_
    refine GO.fn rfl Try.func41 fok41.1 fok41.2 rfl rfl (spec_l01In.calls HS  h15) (fun _ wd16 ⟨h17, HS⟩ => ⟨_, h17, ?_⟩)
    refine GO.back ?_
    refine GO.on rfl rfl rfl rfl ?_
    refine GO.not rfl rfl rfl ?_
    refine GO.back ?_
    refine GO.pickF rfl rfl rfl rfl rfl ?_
    refine GO.move rfl rfl rfl ?_
    refine GO.known (t := 13) rfl (congrArg Bool.not c18) ?_
    refine GO.on rfl rfl rfl rfl ?_
    refine GO.ldBoxA (j := 0) ([.slice A_d_Crossings d_Crossings.length c_d_Crossings, .int .i64 d_Circles]) HS rfl rfl rfl rfl ag28 rfl ?_
    refine GO.back ?_
    refine GO.on rfl rfl rfl rfl ?_
    refine GO.fn rfl Try.func103 fok103.1 fok103.2 rfl rfl (spec_l25Counts.calls HS (RdIn.drop 1 h_d_Crossings) h20) (fun _ wd21 ⟨h22, HS⟩ => ⟨_, h22, ?_⟩)
    refine GO.back ?_
    refine GO.on rfl rfl rfl rfl ?_
    refine GO.not rfl rfl rfl ?_
    refine GO.back ?_
    refine GO.pickF rfl rfl rfl rfl rfl ?_
    refine GO.nil ?_
    rcases ite_elim H with ⟨c23, H⟩ | ⟨c23, H⟩
    ·
     refine G.noB rfl (congrArg Bool.not c23) ?_
     refine G.skip ?_
     refine G.seq ?_
     obtain ⟨t24, h25, H⟩ := Option.bind_eq_some_iff.1 H
     obtain ⟨t31, h32, H⟩ := Option.bind_eq_some_iff.1 H
     refine G.regionAny mixed (by decide) (fun b a w => ∃ (Y1_0 : Value) (Y2_1 : Value) (Y3_2 : Value) (Y4_3 : Value) (Y5_4 : Value) (Y6_5 : Value) (Y7_6 : Value) (Y8_7 : Value) (Y9_8 : Value) (Y10_9 : Value) (Y11_10 : Value) (Y12_11 : Value) (A26 : Option Addr) (c27 : Nat) (y28 : Nat → (Ty.slice 2 (TInt .i64)).Lay) (O13_2 : HObj), Sat 29 [(2, Y12_11), (18, Y1_0), (19, Y2_1), (20, Y3_2), (21, Y4_3), (22, Y5_4), (23, Y6_5), (24, Y7_6), (25, Y8_7), (26, Y9_8), (27, Y10_9), (28, Y11_10), (1, .pointer (some ⟨b1, 0, none⟩))] a ∧ St w0 w (Box b1 28 [.slice A_d_Crossings d_Crossings.length c_d_Crossings, .int .i64 d_Circles] :: O13_2 :: L) ∧ (b 11 = true → Y12_11 = (.bool (decide ((t24.length : Int) = w64 ((d_Crossings.length : Int) + (w64 (2 * t31))))))) ∧ (b 0 = true → Y1_0 = (.agg [.slice A_d_Crossings d_Crossings.length c_d_Crossings, .int .i64 d_Circles].toArray)) ∧ (b 1 = true → Y2_1 = (.slice A26 t24.length c27)) ∧ (b 2 = true → Y3_2 = (.int .i64 (t24.length : Int))) ∧ (b 3 = true → Y4_3 = (.pointer (some ⟨b1, 0, none⟩))) ∧ (b 4 = true → Y5_4 = (.slice A_d_Crossings d_Crossings.length c_d_Crossings)) ∧ (b 5 = true → Y6_5 = (.int .i64 (d_Crossings.length : Int))) ∧ (b 6 = true → Y7_6 = (.agg [.slice A_d_Crossings d_Crossings.length c_d_Crossings, .int .i64 d_Circles].toArray)) ∧ (b 7 = true → Y8_7 = (.int .i64 t31)) ∧ (b 8 = true → Y9_8 = (.int .i64 (w64 (2 * t31)))) ∧ (b 9 = true → Y10_9 = (.int .i64 (w64 ((d_Crossings.length : Int) + (w64 (2 * t31)))))) ∧ (b 10 = true → Y11_10 = (.bool (decide ((t24.length : Int) = w64 ((d_Crossings.length : Int) + (w64 (2 * t31))))))) ∧ (b 1 = true → O13_2 = Own (Ty.slice 2 (TInt .i64)) 43 A26 c27 y28 t24)) ?_ ?_ ?_
     ·
      intro a hs
      obtain ⟨Y12_11, hs⟩ := hs.ext (d := 2) rfl
      obtain ⟨Y1_0, hs⟩ := hs.ext (d := 18) rfl
      obtain ⟨Y2_1, hs⟩ := hs.ext (d := 19) rfl
      obtain ⟨Y3_2, hs⟩ := hs.ext (d := 20) rfl
      obtain ⟨Y4_3, hs⟩ := hs.ext (d := 21) rfl
      obtain ⟨Y5_4, hs⟩ := hs.ext (d := 22) rfl
      obtain ⟨Y6_5, hs⟩ := hs.ext (d := 23) rfl
      obtain ⟨Y7_6, hs⟩ := hs.ext (d := 24) rfl
      obtain ⟨Y8_7, hs⟩ := hs.ext (d := 25) rfl
      obtain ⟨Y9_8, hs⟩ := hs.ext (d := 26) rfl
      obtain ⟨Y10_9, hs⟩ := hs.ext (d := 27) rfl
      obtain ⟨Y11_10, hs⟩ := hs.ext (d := 28) rfl
      exact ⟨Y1_0, Y2_1, Y3_2, Y4_3, Y5_4, Y6_5, Y7_6, Y8_7, Y9_8, Y10_9, Y11_10, Y12_11, none, 0, (fun _ => ⟨none, 0, fun _ => ()⟩), Emp, hs.weak ⟨rfl, rfl, rfl, rfl, rfl, rfl, rfl, rfl, rfl, rfl, rfl, rfl, rfl, trivial⟩, (HS.drew.emp.pk 2 [1, 0] rfl), fun h => Bool.noConfusion h, fun h => Bool.noConfusion h, fun h => Bool.noConfusion h, fun h => Bool.noConfusion h, fun h => Bool.noConfusion h, fun h => Bool.noConfusion h, fun h => Bool.noConfusion h, fun h => Bool.noConfusion h, fun h => Bool.noConfusion h, fun h => Bool.noConfusion h, fun h => Bool.noConfusion h, fun h => Bool.noConfusion h, fun h => Bool.noConfusion h⟩
     ·
      intro j hj b a w
      refine exI fun Y1_0 => exI fun Y2_1 => exI fun Y3_2 => exI fun Y4_3 => exI fun Y5_4 => exI fun Y6_5 => exI fun Y7_6 => exI fun Y8_7 => exI fun Y9_8 => exI fun Y10_9 => exI fun Y11_10 => exI fun Y12_11 => exI fun A26 => exI fun c27 => exI fun y28 => exI fun O13_2 => anI fun hs => anI fun HS => anI fun f11 => anI fun f0 => anI fun f1 => anI fun f2 => anI fun f3 => anI fun f4 => anI fun f5 => anI fun f6 => anI fun f7 => anI fun f8 => anI fun f9 => anI fun f10 => fun o2_0 hb hd hcl => ?_
      match j, hj with
      | 0, _ =>
       refine GO.at hs ?_
       refine GO.ldBoxA (j := 0) ([.slice A_d_Crossings d_Crossings.length c_d_Crossings, .int .i64 d_Circles]) HS rfl rfl rfl rfl ag28 rfl ?_
       refine GO.fin (fun a hs => ?_)
       exact ⟨(.agg [.slice A_d_Crossings d_Crossings.length c_d_Crossings, .int .i64 d_Circles].toArray), _, _, _, _, _, _, _, _, _, _, _, A26, c27, y28, _, by exact hs.setAt 1 rfl, HS, f11, fun _ => rfl, f1, f2, f3, f4, f5, f6, f7, f8, f9, f10, o2_0⟩
      | 1, _ =>
       have hb0 : b 0 = true := hd 0 (by decide)
       obtain rfl := f0 hb0
       refine GO.at hs ?_
       refine GO.fn rfl Try.func68 fok68.1 fok68.2 rfl rfl (spec_l25Regions.calls HS (RdIn.drop 2 h_d_Crossings) h25) (fun _ wd29 ⟨A26, c27, y28, h30, HS⟩ => ⟨_, h30, ?_⟩)
       refine GO.fin (fun a hs => ?_)
       exact ⟨_, (.slice A26 t24.length c27), _, _, _, _, _, _, _, _, _, _, A26, c27, y28, Own (Ty.slice 2 (TInt .i64)) 43 A26 c27 y28 t24, by exact hs.setAt 2 rfl, HS.pk 3 [1, 0] rfl, f11, f0, fun _ => rfl, f2, f3, f4, f5, f6, f7, f8, f9, f10, fun _ => rfl⟩
      | 2, _ =>
       have hb1 : b 1 = true := hd 1 (by decide)
       obtain rfl := f1 hb1
       refine GO.at hs ?_
       refine GO.lenS rfl rfl Try.underlying42 rfl ?_
       refine GO.fin (fun a hs => ?_)
       exact ⟨_, _, (.int .i64 (t24.length : Int)), _, _, _, _, _, _, _, _, _, A26, c27, y28, _, by exact hs.setAt 3 rfl, HS, f11, f0, f1, fun _ => rfl, f3, f4, f5, f6, f7, f8, f9, f10, o2_0⟩
      | 3, _ =>
       refine GO.at hs ?_
       refine GO.fld (⟨b1, 0, none⟩) rfl rfl fl28_0 rfl rfl ?_
       refine GO.fin (fun a hs => ?_)
       exact ⟨_, _, _, (.pointer (some ⟨b1, 0, none⟩)), _, _, _, _, _, _, _, _, A26, c27, y28, _, by exact hs.setAt 4 rfl, HS, f11, f0, f1, f2, fun _ => rfl, f4, f5, f6, f7, f8, f9, f10, o2_0⟩
      | 4, _ =>
       have hb3 : b 3 = true := hd 3 (by decide)
       obtain rfl := f3 hb3
       refine GO.at hs ?_
       refine GO.ldBox (j := 0) HS rfl rfl rfl rfl na26 rfl ?_
       refine GO.fin (fun a hs => ?_)
       exact ⟨_, _, _, _, (.slice A_d_Crossings d_Crossings.length c_d_Crossings), _, _, _, _, _, _, _, A26, c27, y28, _, by exact hs.setAt 5 rfl, HS, f11, f0, f1, f2, f3, fun _ => rfl, f5, f6, f7, f8, f9, f10, o2_0⟩
      | 5, _ =>
       have hb4 : b 4 = true := hd 4 (by decide)
       obtain rfl := f4 hb4
       refine GO.at hs ?_
       refine GO.lenS rfl rfl Try.underlying26 rfl ?_
       refine GO.fin (fun a hs => ?_)
       exact ⟨_, _, _, _, _, (.int .i64 (d_Crossings.length : Int)), _, _, _, _, _, _, A26, c27, y28, _, by exact hs.setAt 6 rfl, HS, f11, f0, f1, f2, f3, f4, fun _ => rfl, f6, f7, f8, f9, f10, o2_0⟩
      | 6, _ =>
       refine GO.at hs ?_
       refine GO.ldBoxA (j := 0) ([.slice A_d_Crossings d_Crossings.length c_d_Crossings, .int .i64 d_Circles]) HS rfl rfl rfl rfl ag28 rfl ?_
       refine GO.fin (fun a hs => ?_)
       exact ⟨_, _, _, _, _, _, (.agg [.slice A_d_Crossings d_Crossings.length c_d_Crossings, .int .i64 d_Circles].toArray), _, _, _, _, _, A26, c27, y28, _, by exact hs.setAt 7 rfl, HS, f11, f0, f1, f2, f3, f4, f5, fun _ => rfl, f7, f8, f9, f10, o2_0⟩
      | 7, _ =>
       have hb6 : b 6 = true := hd 6 (by decide)
       obtain rfl := f6 hb6
       refine GO.at hs ?_
       refine GO.fn rfl Try.func104 fok104.1 fok104.2 rfl rfl (spec_l25PartCount.calls HS (RdIn.drop 2 h_d_Crossings) h32) (fun _ wd33 ⟨h34, HS⟩ => ⟨_, h34, ?_⟩)
       refine GO.fin (fun a hs => ?_)
       exact ⟨_, _, _, _, _, _, _, (.int .i64 t31), _, _, _, _, A26, c27, y28, _, by exact hs.setAt 8 rfl, HS, f11, f0, f1, f2, f3, f4, f5, f6, fun _ => rfl, f8, f9, f10, o2_0⟩
      | 8, _ =>
       have hb7 : b 7 = true := hd 7 (by decide)
       obtain rfl := f7 hb7
       refine GO.at hs ?_
       refine GO.mul rfl rfl rfl rfl ?_
       refine GO.fin (fun a hs => ?_)
       exact ⟨_, _, _, _, _, _, _, _, (.int .i64 (w64 (2 * t31))), _, _, _, A26, c27, y28, _, by exact hs.setAt 9 rfl, HS, f11, f0, f1, f2, f3, f4, f5, f6, f7, fun _ => rfl, f9, f10, o2_0⟩
      | 9, _ =>
       have hb5 : b 5 = true := hd 5 (by decide)
       obtain rfl := f5 hb5
       have hb8 : b 8 = true := hd 8 (by decide)
       obtain rfl := f8 hb8
       refine GO.at hs ?_
       refine GO.add rfl rfl rfl rfl ?_
       refine GO.fin (fun a hs => ?_)
       exact ⟨_, _, _, _, _, _, _, _, _, (.int .i64 (w64 ((d_Crossings.length : Int) + (w64 (2 * t31))))), _, _, A26, c27, y28, _, by exact hs.setAt 10 rfl, HS, f11, f0, f1, f2, f3, f4, f5, f6, f7, f8, fun _ => rfl, f10, o2_0⟩
      | 10, _ =>
       have hb2 : b 2 = true := hd 2 (by decide)
       obtain rfl := f2 hb2
       have hb9 : b 9 = true := hd 9 (by decide)
       obtain rfl := f9 hb9
       refine GO.at hs ?_
       refine GO.eql rfl rfl rfl rfl ?_
       refine GO.fin (fun a hs => ?_)
       exact ⟨_, _, _, _, _, _, _, _, _, _, (.bool (decide ((t24.length : Int) = w64 ((d_Crossings.length : Int) + (w64 (2 * t31)))))), _, A26, c27, y28, _, by exact hs.setAt 11 rfl, HS, f11, f0, f1, f2, f3, f4, f5, f6, f7, f8, f9, fun _ => rfl, o2_0⟩
      | 11, _ =>
       have hb10 : b 10 = true := hd 10 (by decide)
       obtain rfl := f10 hb10
       refine GO.at hs ?_
       refine GO.assign rfl rfl rfl ?_
       refine GO.fin (fun a hs => ?_)
       exact ⟨_, _, _, _, _, _, _, _, _, _, _, (.bool (decide ((t24.length : Int) = w64 ((d_Crossings.length : Int) + (w64 (2 * t31)))))), A26, c27, y28, _, by exact hs.setAt 0 rfl, HS, fun _ => rfl, f0, f1, f2, f3, f4, f5, f6, f7, f8, f9, f10, o2_0⟩
      | k + 12, hj => exact absurd hj (Nat.not_lt.2 (Nat.le_add_left 12 k))
     ·
      intro b a w hall
      refine exI fun Y1_0 => exI fun Y2_1 => exI fun Y3_2 => exI fun Y4_3 => exI fun Y5_4 => exI fun Y6_5 => exI fun Y7_6 => exI fun Y8_7 => exI fun Y9_8 => exI fun Y10_9 => exI fun Y11_10 => exI fun Y12_11 => exI fun A26 => exI fun c27 => exI fun y28 => exI fun O13_2 => anI fun hs => anI fun HS => anI fun f11 => anI fun f0 => anI fun f1 => anI fun f2 => anI fun f3 => anI fun f4 => anI fun f5 => anI fun f6 => anI fun f7 => anI fun f8 => anI fun f9 => anI fun f10 => fun o2_0 => ?_
      obtain rfl := f11 (hall 11 (by decide))
      obtain rfl := f0 (hall 0 (by decide))
      obtain rfl := f1 (hall 1 (by decide))
      obtain rfl := f2 (hall 2 (by decide))
      obtain rfl := f3 (hall 3 (by decide))
      obtain rfl := f4 (hall 4 (by decide))
      obtain rfl := f5 (hall 5 (by decide))
      obtain rfl := f6 (hall 6 (by decide))
      obtain rfl := f7 (hall 7 (by decide))
      obtain rfl := f8 (hall 8 (by decide))
      obtain rfl := f9 (hall 9 (by decide))
      obtain rfl := f10 (hall 10 (by decide))
      obtain rfl := o2_0 (hall 1 (by decide))
      refine G.at hs ?_
      obtain rfl := Option.some.inj H
      exact G.ret1 _ Try.func40 rfl rfl ⟨rfl, (HS.pk 2 [] rfl)⟩
    ·
     refine G.yesB rfl (congrArg Bool.not (bnot_of c23)) ?_
     refine G.seq ?_
     refine G.region ?_
     refine GO.assign rfl rfl rfl ?_
     refine GO.nil ?_
     obtain rfl := Option.some.inj H
     exact G.ret1 _ Try.func40 rfl rfl ⟨rfl, (HS.pk 1 [] rfl)⟩
   ·
    refine G.region ?_
    refine GO.fld (⟨b1, 0, none⟩) rfl rfl fl28_0 rfl rfl ?_
    refine GO.ldBox (j := 0) HS rfl rfl rfl rfl na26 rfl ?_
    refine GO.lenS rfl rfl Try.underlying26 rfl ?_
    refine GO.gtr rfl rfl rfl rfl ?_
    refine GO.move rfl rfl rfl ?_
    refine GO.known (t := 7) rfl (decide_eq_false c13) ?_
    refine GO.on rfl rfl rfl rfl ?_
    refine GO.fld (⟨b1, 1, none⟩) rfl rfl fl28_1 rfl rfl ?_
    refine GO.back ?_
    refine GO.on rfl rfl rfl rfl ?_
    refine GO.ldBox (j := 0) HS rfl rfl rfl rfl na2 rfl ?_
    refine GO.back ?_
    refine GO.on rfl rfl rfl rfl ?_
    refine GO.fn rfl Try.func41 fok41.1 fok41.2 rfl rfl (spec_l01In.calls HS  h15) (fun _ wd16 ⟨h17, HS⟩ => ⟨_, h17, ?_⟩)
    refine GO.back ?_
    refine GO.on rfl rfl rfl rfl ?_
    refine GO.not rfl rfl rfl ?_
    refine GO.back ?_
    refine GO.pickF rfl rfl rfl rfl rfl ?_
    refine GO.move rfl rfl rfl ?_
    refine GO.known (t := 13) rfl (congrArg Bool.not (bnot_of c18)) ?_
    refine GO.off rfl rfl rfl rfl rfl rfl ?_
    refine GO.off rfl rfl rfl rfl rfl rfl ?_
    refine GO.off rfl rfl rfl rfl rfl rfl ?_
    refine GO.pickT rfl rfl rfl rfl rfl ?_
    refine GO.nil ?_
    refine G.yesB rfl rfl ?_
    refine G.seq ?_
    refine G.region ?_
    refine GO.assign rfl rfl rfl ?_
    refine GO.nil ?_
    obtain rfl := Option.some.inj H
    exact G.ret1 _ Try.func40 rfl rfl ⟨rfl, (HS.pk 1 [] rfl)⟩

set_option maxRecDepth 20000 in
set_option maxHeartbeats 40000000 in
theorem spec_l25Next.calls {w0 w : World} {L : List HObj} {K : Nat} {d_Crossings : List GCrossing} {d_Circles : Int} {a_ : Int} {A_d_Crossings : Option Addr} {c_d_Crossings : Nat} {r1 : Int} (HS : St w0 w (L)) (h_d_Crossings : RdIn w0 L T_GCrossing A_d_Crossings c_d_Crossings (fun _ => ()) d_Crossings) (H : spec_l25Next.f K d_Crossings d_Circles a_ = some r1) :
    Calls Try.prog 127 #[.agg [.slice A_d_Crossings d_Crossings.length c_d_Crossings, .int .i64 d_Circles].toArray, .int .i64 a_] w (spec_l25Next.post w0 L d_Crossings d_Circles a_ A_d_Crossings c_d_Crossings r1) := by
  unfold spec_l25Next.f at H
  refine Calls.of_G Try.func127 rfl rfl rfl ?_
  refine G.seq ?_
  refine G.region ?_
  refine GO.box (cs := [.slice A_d_Crossings d_Crossings.length c_d_Crossings, .int .i64 d_Circles]) HS rfl rfl rfl rfl ?_; intro b1 wd2 HS
  refine GO.assign rfl rfl rfl ?_
  refine GO.nil ?_
  refine G.seq ?_
  obtain ⟨t3, t4, h5, H⟩ := bind2_elim H
  refine G.region ?_
  refine GO.ldBoxA (j := 0) ([.slice A_d_Crossings d_Crossings.length c_d_Crossings, .int .i64 d_Circles]) HS rfl rfl rfl rfl ag28 rfl ?_
  refine GO.move rfl rfl rfl ?_
  refine GO.fn rfl Try.func42 fok42.1 fok42.2 rfl rfl (spec_l25Place.calls HS (RdIn.drop 1 h_d_Crossings) h5) (fun _ wd6 ⟨h7, HS⟩ => ⟨_, h7, ?_⟩)
  refine GO.move rfl rfl rfl ?_
  refine GO.extract rfl rfl rfl rfl ?_
  refine GO.extract rfl rfl rfl rfl ?_
  refine GO.assign rfl rfl rfl ?_
  refine GO.assign rfl rfl rfl ?_
  refine GO.nil ?_
  refine G.seq ?_
  obtain ⟨c8, H⟩ := ite_none H
  obtain ⟨e9, h10, H⟩ := bnd_elim H
  obtain ⟨t11, h12, H⟩ := Option.bind_eq_some_iff.1 H
  refine G.region ?_
  refine GO.fld (⟨b1, 0, none⟩) rfl rfl fl28_0 rfl rfl ?_
  refine GO.ldBox (j := 0) HS rfl rfl rfl rfl na26 rfl ?_
  refine GO.move rfl rfl rfl ?_
  refine GO.ix rfl rfl rfl Try.underlying26 sz58 ((RdIn.drop 1 h_d_Crossings) _ HS).2.2.1 c8.1 c8.2 rfl ?_
  refine GO.ldRdA (T := T_GCrossing) (n := t3.toNat) HS (RdIn.drop 1 h_d_Crossings) rfl rfl (getD_eq (ltN c8) h10) ag58 rfl ?_
  refine GO.move rfl rfl rfl ?_
  refine GO.add rfl rfl rfl rfl ?_
  refine GO.rem rfl rfl rfl (by decide) rfl ?_
  refine GO.fn rfl Try.func105 fok105.1 fok105.2 rfl rfl (spec_l25End.calls HS  h12) (fun _ wd13 ⟨h14, HS⟩ => ⟨_, h14, ?_⟩)
  refine GO.assign rfl rfl rfl ?_
  refine GO.nil ?_
  obtain rfl := Option.some.inj H
  exact G.ret1 _ Try.func127 rfl rfl ⟨rfl, (HS.pk 1 [] rfl)⟩

set_option maxRecDepth 20000 in
set_option maxHeartbeats 40000000 in
theorem spec_l28Unite.calls {w0 w : World} {L : List HObj} {K : Nat} {t_Crossings : List GCrossing} {t_Circles : Int} {o : List Bool} {A : List Int} {A_t_Crossings : Option Addr} {c_t_Crossings : Nat} {A_o : Option Addr} {c_o : Nat} {A_A : Option Addr} {c_A : Nat} {r1 : List GCrossing} {r2 : Int} (HS : St w0 w (L)) (h_t_Crossings : RdIn w0 L T_GCrossing A_t_Crossings c_t_Crossings (fun _ => ()) t_Crossings) (h_o : RdIn w0 L TBool A_o c_o (fun _ => ()) o) (h_A : RdIn w0 L (TInt .i64) A_A c_A (fun _ => ()) A) (H : spec_l28Unite.f K t_Crossings t_Circles o A = some (r1, r2)) :
    Calls Try.prog 64 #[.agg [.slice A_t_Crossings t_Crossings.length c_t_Crossings, .int .i64 t_Circles].toArray, .slice A_o o.length c_o, .slice A_A A.length c_A] w (spec_l28Unite.post w0 L t_Crossings t_Circles o A A_t_Crossings c_t_Crossings A_o c_o A_A c_A r1 r2) := by
  unfold spec_l28Unite.f at H
  refine Calls.of_G Try.func64 rfl rfl rfl ?_
  refine G.seq ?_
  refine G.region ?_
  refine GO.box (cs := [.slice A_t_Crossings t_Crossings.length c_t_Crossings, .int .i64 t_Circles]) HS rfl rfl rfl rfl ?_; intro b1 wd2 HS
  refine GO.alloc HS rfl zr28 rfl rfl ?_; intro b3 wd4 HS
  refine GO.nil ?_
  refine G.seq ?_
  refine G.region ?_
  refine GO.fld (⟨b1, 1, none⟩) rfl rfl fl28_1 rfl rfl ?_
  refine GO.ldBox (j := 1) HS rfl rfl rfl rfl na2 rfl ?_
  refine GO.buildV (.agg [.slice none 0 0, .int .i64 t_Circles].toArray) rfl rfl (fun _ => by kernel_rfl) rfl ?_
  refine GO.alloc HS rfl zr28 rfl rfl ?_; intro b5 wd6 HS
  refine GO.stBox (j := 0) (vs := [.slice none 0 0, .int .i64 t_Circles]) ([.slice none 0 0, .int .i64 t_Circles]) HS rfl rfl rfl rfl rfl (htA ag28) rfl rfl rfl ?_; intro wd7 HS
  refine GO.nil ?_
  refine G.seq ?_
  refine G.region ?_
  refine GO.fld (⟨b1, 0, none⟩) rfl rfl fl28_0 rfl rfl ?_
  refine GO.ldBox (j := 2) HS rfl rfl rfl rfl na26 rfl ?_
  refine GO.lenS rfl rfl Try.underlying26 rfl ?_
  refine GO.mul rfl rfl rfl rfl ?_
  refine GO.assign rfl rfl rfl ?_
  refine GO.nil ?_
  refine G.seq ?_
  obtain ⟨c8, H⟩ := ite_none H
  obtain ⟨c9, H⟩ := ite_none H
  refine G.region ?_
  refine GO.move rfl rfl rfl ?_
  refine GO.make (T := (TInt .i64)) 0 () HS flat_flat rfl rfl rfl Try.underlying43 inf2 rfl rfl rfl c8 c9 rfl ?_; intro b10 wd11 HS
  refine GO.assign rfl rfl rfl ?_
  refine GO.nil ?_
  refine G.seq ?_
  obtain ⟨c12, H⟩ := ite_none H
  refine G.region ?_
  refine GO.move rfl rfl rfl ?_
  refine GO.make (T := TBool) false () HS flat_flat rfl rfl rfl Try.underlying83 inf4 rfl rfl rfl c8 c12 rfl ?_; intro b13 wd14 HS
  refine GO.assign rfl rfl rfl ?_
  refine GO.nil ?_
  refine G.seq ?_
  refine G.region ?_
  refine GO.assign rfl rfl rfl ?_
  refine GO.nil ?_
  refine G.seq ?_
  refine G.seq ?_
  refine G.region ?_
  refine GO.assign rfl rfl rfl ?_
  refine GO.nil ?_
  refine G.block ?_
  refine G.loop ?_
  refine G.name (fun k_l1 hk_l1 => ?_)
  have at_l1 : ∀ m_l1, m_l1 ≤ K → ∀ (x220 : List Int) (x221 : List Bool) (x222 : Int) (x223 : Int) (w : World), spec_l28Unite.l1 K m_l1 t_Crossings t_Circles o A x220 x221 x222 x223 = some (r1, r2) → St w0 w (Box b1 28 [.slice A_t_Crossings t_Crossings.length c_t_Crossings, .int .i64 t_Circles] :: Box b3 28 [.slice none 0 0, .int .i64 0] :: Box b5 28 [.slice none 0 0, .int .i64 t_Circles] :: Own (TInt .i64) 2 (some ⟨b10, 0, none⟩) ((w64 (2 * (t_Crossings.length : Int))).toNat) (fun _ => ()) x220 :: Own TBool 4 (some ⟨b13, 0, none⟩) ((w64 (2 * (t_Crossings.length : Int))).toNat) (fun _ => ()) x221 :: L) → G Try.prog 64 145 [(1, .slice A_o o.length c_o), (2, .slice A_A A.length c_A), (3, .pointer (some ⟨b1, 0, none⟩)), (6, .pointer (some ⟨b3, 0, none⟩)), (7, .pointer (some ⟨b5, 0, none⟩)), (8, .int .i64 (w64 (2 * (t_Crossings.length : Int)))), (9, .slice (some ⟨b10, 0, none⟩) x220.length ((w64 (2 * (t_Crossings.length : Int))).toNat)), (10, .slice (some ⟨b13, 0, none⟩) x221.length ((w64 (2 * (t_Crossings.length : Int))).toNat)), (11, .int .i64 x222), (12, .int .i64 x223)] k_l1 w (spec_l28Unite.post w0 L t_Crossings t_Circles o A A_t_Crossings c_t_Crossings A_o c_o A_A c_A r1 r2) := by
   intro m_l1
   induction m_l1 using Nat.strongRecOn with
   | _ m_l1 ih_l1 =>
    intro hm_l1 x220 x221 x222 x223 w H HS
    cases m_l1 with
    | zero => rw [spec_l28Unite.l1] at H; cases H
    | succ n_l1 =>
     rw [spec_l28Unite.l1] at H
     subst hk_l1
     refine G.seq ?_
     refine G.seq ?_
     refine G.region ?_
     refine GO.move rfl rfl rfl ?_
     refine GO.move rfl rfl rfl ?_
     refine GO.lss rfl rfl rfl rfl ?_
     refine GO.nil ?_
     rcases ite_elim H with ⟨c559, H⟩ | ⟨c559, H⟩
     ·
      refine G.yesB rfl (decide_eq_true c559) ?_
      refine G.skip ?_
      refine G.seq ?_
      refine G.block ?_
      refine G.seq ?_
      refine G.seq ?_
      obtain ⟨t560, t561, h562, H⟩ := bind2_elim H
      refine G.region ?_
      refine GO.ldBoxA (j := 0) ([.slice A_t_Crossings t_Crossings.length c_t_Crossings, .int .i64 t_Circles]) HS rfl rfl rfl rfl ag28 rfl ?_
      refine GO.move rfl rfl rfl ?_
      refine GO.fn rfl Try.func42 fok42.1 fok42.2 rfl rfl (spec_l25Place.calls HS (RdIn.drop 5 h_t_Crossings) h562) (fun _ wd563 ⟨h564, HS⟩ => ⟨_, h564, ?_⟩)
      refine GO.move rfl rfl rfl ?_
      refine GO.extract rfl rfl rfl rfl ?_
      refine GO.extract rfl rfl rfl rfl ?_
      refine GO.assign rfl rfl rfl ?_
      refine GO.assign rfl rfl rfl ?_
      refine GO.nil ?_
      refine G.seq ?_
      obtain ⟨c565, H⟩ := ite_none H
      refine G.region ?_
      refine GO.move rfl rfl rfl ?_
      refine GO.move rfl rfl rfl ?_
      refine GO.ix rfl rfl rfl Try.underlying83 sz4 ((RdIn.drop 5 h_o) _ HS).2.2.1 c565.1 c565.2 rfl ?_
      refine GO.ldRd (T := TBool) (n := t560.toNat) (o := 0) HS (RdIn.drop 5 h_o) rfl rfl (getD_some (d := false) (ltN c565)) rfl rfl na4 rfl ?_
      refine GO.nil ?_
      rcases ite_elim H with ⟨c566, H⟩ | ⟨c566, H⟩
      ·
       refine G.yesB rfl c566 ?_
       refine G.exit rfl ?_
       refine G.region ?_
       refine GO.move rfl rfl rfl ?_
       refine GO.add rfl rfl rfl rfl ?_
       refine GO.assign rfl rfl rfl ?_
       refine GO.nil ?_
       refine G.again ?_
       refine G.weak ?_ (ih_l1 n_l1 (Nat.lt_succ_of_le (Nat.le_refl _)) (Nat.le_of_succ_le hm_l1) _ _ _ _ _ H HS)
       exact ⟨rfl, rfl, rfl, rfl, rfl, rfl, rfl, rfl, rfl, rfl, trivial⟩
      ·
       refine G.noB rfl (bnot_of c566) ?_
       refine G.skip ?_
       refine G.seq ?_
       refine G.seq ?_
       refine G.region ?_
       refine GO.move rfl rfl rfl ?_
       refine GO.assign rfl rfl rfl ?_
       refine GO.nil ?_
       refine G.block ?_
       refine G.loop ?_
       refine G.name (fun k_l14 hk_l14 => ?_)
       have at_l14 : ∀ m_l14, m_l14 ≤ n_l1 → ∀ (x579 : List Int) (x580 : List Bool) (x581 : Int) (w : World), spec_l28Unite.l14 K m_l14 t_Crossings t_Circles o A x222 x223 x579 x580 x581 = some (r1, r2) → St w0 w (Box b1 28 [.slice A_t_Crossings t_Crossings.length c_t_Crossings, .int .i64 t_Circles] :: Box b3 28 [.slice none 0 0, .int .i64 0] :: Box b5 28 [.slice none 0 0, .int .i64 t_Circles] :: Own (TInt .i64) 2 (some ⟨b10, 0, none⟩) ((w64 (2 * (t_Crossings.length : Int))).toNat) (fun _ => ()) x579 :: Own TBool 4 (some ⟨b13, 0, none⟩) ((w64 (2 * (t_Crossings.length : Int))).toNat) (fun _ => ()) x580 :: L) → G Try.prog 64 145 [(1, .slice A_o o.length c_o), (2, .slice A_A A.length c_A), (3, .pointer (some ⟨b1, 0, none⟩)), (6, .pointer (some ⟨b3, 0, none⟩)), (7, .pointer (some ⟨b5, 0, none⟩)), (8, .int .i64 (w64 (2 * (t_Crossings.length : Int)))), (9, .slice (some ⟨b10, 0, none⟩) x579.length ((w64 (2 * (t_Crossings.length : Int))).toNat)), (10, .slice (some ⟨b13, 0, none⟩) x580.length ((w64 (2 * (t_Crossings.length : Int))).toNat)), (11, .int .i64 x222), (12, .int .i64 x223), (15, .int .i64 x581)] k_l14 w (spec_l28Unite.post w0 L t_Crossings t_Circles o A A_t_Crossings c_t_Crossings A_o c_o A_A c_A r1 r2) := by
        intro m_l14
        induction m_l14 using Nat.strongRecOn with
        | _ m_l14 ih_l14 =>
         intro hm_l14 x579 x580 x581 w H HS
         cases m_l14 with
         | zero => rw [spec_l28Unite.l14] at H; cases H
         | succ n_l14 =>
          rw [spec_l28Unite.l14] at H
          subst hk_l14
          refine G.seq ?_
          refine G.block ?_
          refine G.seq ?_
          obtain ⟨c594, H⟩ := ite_none H
          refine G.region ?_
          refine GO.move rfl rfl rfl ?_
          refine GO.move rfl rfl rfl ?_
          refine GO.ix rfl rfl rfl Try.underlying83 sz4 (fun _ => ⟨_, _, rfl⟩) c594.1 c594.2 rfl ?_
          refine GO.stRow (T := TBool) (j := 4) (n := x581.toNat) (o := 0) (vs := [.bool true]) true HS rfl flat_flat rfl rfl rfl rfl (htN na4 rfl) rfl (getD_some (d := false) (ltN c594)) rfl rfl ?_; intro wd595 HS
          refine GO.nil ?_
          refine G.len (t := 10) (m := (x580.set x581.toNat true).length) rfl (by simp only [List.length_set] <;> rfl) ?_
          refine G.seq ?_
          obtain ⟨c596, H⟩ := ite_none H
          refine G.region ?_
          refine GO.move rfl rfl rfl ?_
          refine GO.move rfl rfl rfl ?_
          refine GO.move rfl rfl rfl ?_
          refine GO.ix rfl rfl rfl Try.underlying43 sz2 (fun _ => ⟨_, _, rfl⟩) c596.1 c596.2 rfl ?_
          refine GO.stRow (T := (TInt .i64)) (j := 3) (n := x581.toNat) (o := 0) (vs := [.int .i64 x222]) x222 HS rfl flat_flat rfl rfl rfl rfl (htN na2 rfl) rfl (getD_some (d := 0) (ltN c596)) rfl rfl ?_; intro wd597 HS
          refine GO.nil ?_
          refine G.len (t := 9) (m := (x579.set x581.toNat x222).length) rfl (by simp only [List.length_set] <;> rfl) ?_
          refine G.seq ?_
          obtain ⟨t598, t599, h600, H⟩ := bind2_elim H
          refine G.region ?_
          refine GO.ldBoxA (j := 0) ([.slice A_t_Crossings t_Crossings.length c_t_Crossings, .int .i64 t_Circles]) HS rfl rfl rfl rfl ag28 rfl ?_
          refine GO.move rfl rfl rfl ?_
          refine GO.fn rfl Try.func42 fok42.1 fok42.2 rfl rfl (spec_l25Place.calls HS (RdIn.drop 5 h_t_Crossings) h600) (fun _ wd601 ⟨h602, HS⟩ => ⟨_, h602, ?_⟩)
          refine GO.move rfl rfl rfl ?_
          refine GO.extract rfl rfl rfl rfl ?_
          refine GO.extract rfl rfl rfl rfl ?_
          refine GO.assign rfl rfl rfl ?_
          refine GO.assign rfl rfl rfl ?_
          refine GO.nil ?_
          refine G.seq ?_
          obtain ⟨c603, H⟩ := ite_none H
          refine G.region ?_
          refine GO.move rfl rfl rfl ?_
          refine GO.move rfl rfl rfl ?_
          refine GO.ix rfl rfl rfl Try.underlying83 sz4 ((RdIn.drop 5 h_o) _ HS).2.2.1 c603.1 c603.2 rfl ?_
          refine GO.ldRd (T := TBool) (n := t598.toNat) (o := 0) HS (RdIn.drop 5 h_o) rfl rfl (getD_some (d := false) (ltN c603)) rfl rfl na4 rfl ?_
          refine GO.not rfl rfl rfl ?_
          refine GO.nil ?_
          rcases ite_elim H with ⟨c604, H⟩ | ⟨c604, H⟩
          ·
           refine G.noB rfl (congrArg Bool.not c604) ?_
           refine G.skip ?_
           refine G.blockEnd ?_
           obtain ⟨c605, H⟩ := ite_none H
           refine G.region ?_
           refine GO.move rfl rfl rfl ?_
           refine GO.move rfl rfl rfl ?_
           refine GO.ix rfl rfl rfl Try.underlying43 sz2 ((RdIn.drop 5 h_A) _ HS).2.2.1 c605.1 c605.2 rfl ?_
           refine GO.ldRd (T := (TInt .i64)) (n := x581.toNat) (o := 0) HS (RdIn.drop 5 h_A) rfl rfl (getD_some (d := 0) (ltN c605)) rfl rfl na2 rfl ?_
           refine GO.assign rfl rfl rfl ?_
           refine GO.nil ?_
           refine G.again ?_
           refine G.weak ?_ (ih_l14 n_l14 (Nat.lt_succ_of_le (Nat.le_refl _)) (Nat.le_of_succ_le hm_l14) _ _ _ _ H HS)
           exact ⟨rfl, rfl, rfl, rfl, rfl, rfl, rfl, rfl, rfl, rfl, rfl, trivial⟩
          ·
           refine G.yesB rfl (congrArg Bool.not (bnot_of c604)) ?_
           refine G.exit rfl ?_
           refine G.region ?_
           refine GO.move rfl rfl rfl ?_
           refine GO.add rfl rfl rfl rfl ?_
           refine GO.assign rfl rfl rfl ?_
           refine GO.nil ?_
           refine G.blockEnd ?_
           refine G.region ?_
           refine GO.move rfl rfl rfl ?_
           refine GO.add rfl rfl rfl rfl ?_
           refine GO.assign rfl rfl rfl ?_
           refine GO.nil ?_
           refine G.again ?_
           refine G.weak ?_ (ih_l1 n_l14 (Nat.lt_succ_of_le (Nat.le_of_succ_le hm_l14)) (Nat.le_trans (Nat.le_of_succ_le hm_l14) (Nat.le_of_succ_le hm_l1)) _ _ _ _ _ H HS)
           exact ⟨rfl, rfl, rfl, rfl, rfl, rfl, rfl, rfl, rfl, rfl, trivial⟩
       refine G.weak ?_ (at_l14 n_l1 (Nat.le_refl _) _ _ _ _ H HS)
       exact ⟨rfl, rfl, rfl, rfl, rfl, rfl, rfl, rfl, rfl, rfl, rfl, trivial⟩
     ·
      refine G.noB rfl (decide_eq_false c559) ?_
      refine G.exit rfl ?_
      refine G.seq ?_
      refine G.seq ?_
      refine G.region ?_
      refine GO.assign rfl rfl rfl ?_
      refine GO.nil ?_
      refine G.block ?_
      refine G.loop ?_
      refine G.name (fun k_l15 hk_l15 => ?_)
      have at_l15 : ∀ m_l15, m_l15 ≤ n_l1 → ∀ (x701 : Int) (x702 : List Bool) (x703 : Int) (w : World), spec_l28Unite.l15 K m_l15 t_Crossings o A x220 x701 x702 x703 = some (r1, r2) → St w0 w (Box b1 28 [.slice A_t_Crossings t_Crossings.length c_t_Crossings, .int .i64 t_Circles] :: Box b3 28 [.slice none 0 0, .int .i64 0] :: Box b5 28 [.slice none 0 0, .int .i64 x701] :: Own (TInt .i64) 2 (some ⟨b10, 0, none⟩) ((w64 (2 * (t_Crossings.length : Int))).toNat) (fun _ => ()) x220 :: Own TBool 4 (some ⟨b13, 0, none⟩) ((w64 (2 * (t_Crossings.length : Int))).toNat) (fun _ => ()) x702 :: L) → G Try.prog 64 145 [(1, .slice A_o o.length c_o), (2, .slice A_A A.length c_A), (3, .pointer (some ⟨b1, 0, none⟩)), (6, .pointer (some ⟨b3, 0, none⟩)), (7, .pointer (some ⟨b5, 0, none⟩)), (8, .int .i64 (w64 (2 * (t_Crossings.length : Int)))), (9, .slice (some ⟨b10, 0, none⟩) x220.length ((w64 (2 * (t_Crossings.length : Int))).toNat)), (10, .slice (some ⟨b13, 0, none⟩) x702.length ((w64 (2 * (t_Crossings.length : Int))).toNat)), (18, .int .i64 x703)] k_l15 w (spec_l28Unite.post w0 L t_Crossings t_Circles o A A_t_Crossings c_t_Crossings A_o c_o A_A c_A r1 r2) := by
       intro m_l15
       induction m_l15 using Nat.strongRecOn with
       | _ m_l15 ih_l15 =>
        intro hm_l15 x701 x702 x703 w H HS
        cases m_l15 with
        | zero => rw [spec_l28Unite.l15] at H; cases H
        | succ n_l15 =>
         rw [spec_l28Unite.l15] at H
         subst hk_l15
         refine G.seq ?_
         refine G.seq ?_
         refine G.region ?_
         refine GO.move rfl rfl rfl ?_
         refine GO.move rfl rfl rfl ?_
         refine GO.lss rfl rfl rfl rfl ?_
         refine GO.nil ?_
         rcases ite_elim H with ⟨c799, H⟩ | ⟨c799, H⟩
         ·
          refine G.yesB rfl (decide_eq_true c799) ?_
          refine G.skip ?_
          refine G.seq ?_
          refine G.block ?_
          refine G.seq ?_
          refine G.seq ?_
          obtain ⟨c800, H⟩ := ite_none H
          refine G.region ?_
          refine GO.move rfl rfl rfl ?_
          refine GO.move rfl rfl rfl ?_
          refine GO.ix rfl rfl rfl Try.underlying83 sz4 (fun _ => ⟨_, _, rfl⟩) c800.1 c800.2 rfl ?_
          refine GO.ldRd (T := TBool) (n := x703.toNat) (o := 0) HS (RdIn.own (j := 4) rfl) rfl rfl (getD_some (d := false) (ltN c800)) rfl rfl na4 rfl ?_
          refine GO.nil ?_
          rcases ite_elim H with ⟨c801, H⟩ | ⟨c801, H⟩
          ·
           refine G.yesB rfl c801 ?_
           refine G.exit rfl ?_
           refine G.region ?_
           refine GO.move rfl rfl rfl ?_
           refine GO.add rfl rfl rfl rfl ?_
           refine GO.assign rfl rfl rfl ?_
           refine GO.nil ?_
           refine G.again ?_
           refine G.weak ?_ (ih_l15 n_l15 (Nat.lt_succ_of_le (Nat.le_refl _)) (Nat.le_of_succ_le hm_l15) _ _ _ _ H HS)
           exact ⟨rfl, rfl, rfl, rfl, rfl, rfl, rfl, rfl, rfl, trivial⟩
          ·
           refine G.noB rfl (bnot_of c801) ?_
           refine G.skip ?_
           refine G.seq ?_
           refine G.region ?_
           refine GO.fld (⟨b5, 1, none⟩) rfl rfl fl28_1 rfl rfl ?_
           refine GO.ldBox (j := 2) HS rfl rfl rfl rfl na2 rfl ?_
           refine GO.add rfl rfl rfl rfl ?_
           refine GO.fld (⟨b5, 1, none⟩) rfl rfl fl28_1 rfl rfl ?_
           refine GO.stBox (j := 2) (vs := [.int .i64 (w64 (x701 + 1))]) ([.slice none 0 0, .int .i64 (w64 (x701 + 1))]) HS rfl rfl rfl rfl rfl (htN na2 rfl) rfl rfl rfl ?_; intro wd802 HS
           refine GO.nil ?_
           refine G.seq ?_
           refine G.region ?_
           refine GO.move rfl rfl rfl ?_
           refine GO.assign rfl rfl rfl ?_
           refine GO.nil ?_
           refine G.block ?_
           refine G.loop ?_
           refine G.name (fun k_l20 hk_l20 => ?_)
           have at_l20 : ∀ m_l20, m_l20 ≤ n_l15 → ∀ (x805 : List Bool) (x806 : Int) (w : World), spec_l28Unite.l20 K m_l20 t_Crossings o A x220 x701 x703 x805 x806 = some (r1, r2) → St w0 w (Box b1 28 [.slice A_t_Crossings t_Crossings.length c_t_Crossings, .int .i64 t_Circles] :: Box b3 28 [.slice none 0 0, .int .i64 0] :: Box b5 28 [.slice none 0 0, .int .i64 (w64 (x701 + 1))] :: Own (TInt .i64) 2 (some ⟨b10, 0, none⟩) ((w64 (2 * (t_Crossings.length : Int))).toNat) (fun _ => ()) x220 :: Own TBool 4 (some ⟨b13, 0, none⟩) ((w64 (2 * (t_Crossings.length : Int))).toNat) (fun _ => ()) x805 :: L) → G Try.prog 64 145 [(1, .slice A_o o.length c_o), (2, .slice A_A A.length c_A), (3, .pointer (some ⟨b1, 0, none⟩)), (6, .pointer (some ⟨b3, 0, none⟩)), (7, .pointer (some ⟨b5, 0, none⟩)), (8, .int .i64 (w64 (2 * (t_Crossings.length : Int)))), (9, .slice (some ⟨b10, 0, none⟩) x220.length ((w64 (2 * (t_Crossings.length : Int))).toNat)), (10, .slice (some ⟨b13, 0, none⟩) x805.length ((w64 (2 * (t_Crossings.length : Int))).toNat)), (18, .int .i64 x703), (19, .int .i64 x806)] k_l20 w (spec_l28Unite.post w0 L t_Crossings t_Circles o A A_t_Crossings c_t_Crossings A_o c_o A_A c_A r1 r2) := by
            intro m_l20
            induction m_l20 using Nat.strongRecOn with
            | _ m_l20 ih_l20 =>
             intro hm_l20 x805 x806 w H HS
             cases m_l20 with
             | zero => rw [spec_l28Unite.l20] at H; cases H
             | succ n_l20 =>
              rw [spec_l28Unite.l20] at H
              subst hk_l20
              refine G.seq ?_
              refine G.seq ?_
              obtain ⟨c811, H⟩ := ite_none H
              refine G.region ?_
              refine GO.move rfl rfl rfl ?_
              refine GO.move rfl rfl rfl ?_
              refine GO.ix rfl rfl rfl Try.underlying83 sz4 (fun _ => ⟨_, _, rfl⟩) c811.1 c811.2 rfl ?_
              refine GO.ldRd (T := TBool) (n := x806.toNat) (o := 0) HS (RdIn.own (j := 4) rfl) rfl rfl (getD_some (d := false) (ltN c811)) rfl rfl na4 rfl ?_
              refine GO.not rfl rfl rfl ?_
              refine GO.nil ?_
              rcases ite_elim H with ⟨c812, H⟩ | ⟨c812, H⟩
              ·
               refine G.noB rfl (congrArg Bool.not c812) ?_
               refine G.exit rfl ?_
               refine G.blockEnd ?_
               refine G.region ?_
               refine GO.move rfl rfl rfl ?_
               refine GO.add rfl rfl rfl rfl ?_
               refine GO.assign rfl rfl rfl ?_
               refine GO.nil ?_
               refine G.again ?_
               refine G.weak ?_ (ih_l15 n_l20 (Nat.lt_succ_of_le (Nat.le_of_succ_le hm_l20)) (Nat.le_trans (Nat.le_of_succ_le hm_l20) (Nat.le_of_succ_le hm_l15)) _ _ _ _ H HS)
               exact ⟨rfl, rfl, rfl, rfl, rfl, rfl, rfl, rfl, rfl, trivial⟩
              ·
               refine G.yesB rfl (congrArg Bool.not (bnot_of c812)) ?_
               refine G.skip ?_
               refine G.seq ?_
               refine G.block ?_
               refine G.region ?_
               refine GO.move rfl rfl rfl ?_
               refine GO.move rfl rfl rfl ?_
               refine GO.ix rfl rfl rfl Try.underlying83 sz4 (fun _ => ⟨_, _, rfl⟩) c811.1 c811.2 rfl ?_
               refine GO.stRow (T := TBool) (j := 4) (n := x806.toNat) (o := 0) (vs := [.bool true]) true HS rfl flat_flat rfl rfl rfl rfl (htN na4 rfl) rfl (getD_some (d := false) (ltN c811)) rfl rfl ?_; intro wd813 HS
               refine GO.nil ?_
               refine G.len (t := 10) (m := (x805.set x806.toNat true).length) rfl (by simp only [List.length_set] <;> rfl) ?_
               refine G.blockEnd ?_
               obtain ⟨c814, H⟩ := ite_none H
               refine G.region ?_
               refine GO.move rfl rfl rfl ?_
               refine GO.move rfl rfl rfl ?_
               refine GO.ix rfl rfl rfl Try.underlying43 sz2 ((RdIn.drop 5 h_A) _ HS).2.2.1 c814.1 c814.2 rfl ?_
               refine GO.ldRd (T := (TInt .i64)) (n := x806.toNat) (o := 0) HS (RdIn.drop 5 h_A) rfl rfl (getD_some (d := 0) (ltN c814)) rfl rfl na2 rfl ?_
               refine GO.assign rfl rfl rfl ?_
               refine GO.nil ?_
               refine G.again ?_
               refine G.weak ?_ (ih_l20 n_l20 (Nat.lt_succ_of_le (Nat.le_refl _)) (Nat.le_of_succ_le hm_l20) _ _ _ H HS)
               exact ⟨rfl, rfl, rfl, rfl, rfl, rfl, rfl, rfl, rfl, rfl, trivial⟩
           refine G.weak ?_ (at_l20 n_l15 (Nat.le_refl _) _ _ _ H HS)
           exact ⟨rfl, rfl, rfl, rfl, rfl, rfl, rfl, rfl, rfl, rfl, trivial⟩
         ·
          refine G.noB rfl (decide_eq_false c799) ?_
          refine G.exit rfl ?_
          refine G.seq ?_
          refine G.seq ?_
          refine G.region ?_
          refine GO.assign rfl rfl rfl ?_
          refine GO.nil ?_
          refine G.block ?_
          refine G.loop ?_
          refine G.name (fun k_l21 hk_l21 => ?_)
          have at_l21 : ∀ m_l21, m_l21 ≤ n_l15 → ∀ (A840 : Option Addr) (c841 : Nat) (x842 : List GCrossing) (x843 : Int) (w : World), spec_l28Unite.l21 K m_l21 t_Crossings o x220 x701 x842 x843 = some (r1, r2) → St w0 w (Box b1 28 [.slice A_t_Crossings t_Crossings.length c_t_Crossings, .int .i64 t_Circles] :: Box b3 28 [.slice none 0 0, .int .i64 0] :: Box b5 28 [.slice A840 x842.length c841, .int .i64 x701] :: Own T_GCrossing 58 A840 c841 (fun _ => ()) x842 :: Own (TInt .i64) 2 (some ⟨b10, 0, none⟩) ((w64 (2 * (t_Crossings.length : Int))).toNat) (fun _ => ()) x220 :: L) → G Try.prog 64 145 [(1, .slice A_o o.length c_o), (3, .pointer (some ⟨b1, 0, none⟩)), (6, .pointer (some ⟨b3, 0, none⟩)), (7, .pointer (some ⟨b5, 0, none⟩)), (9, .slice (some ⟨b10, 0, none⟩) x220.length ((w64 (2 * (t_Crossings.length : Int))).toNat)), (20, .int .i64 x843)] k_l21 w (spec_l28Unite.post w0 L t_Crossings t_Circles o A A_t_Crossings c_t_Crossings A_o c_o A_A c_A r1 r2) := by
           intro m_l21
           induction m_l21 using Nat.strongRecOn with
           | _ m_l21 ih_l21 =>
            intro hm_l21 A840 c841 x842 x843 w H HS
            cases m_l21 with
            | zero => rw [spec_l28Unite.l21] at H; cases H
            | succ n_l21 =>
             rw [spec_l28Unite.l21] at H
             subst hk_l21
             refine G.seq ?_
             refine G.seq ?_
             refine G.region ?_
             refine GO.move rfl rfl rfl ?_
             refine GO.fld (⟨b1, 0, none⟩) rfl rfl fl28_0 rfl rfl ?_
             refine GO.ldBox (j := 0) HS rfl rfl rfl rfl na26 rfl ?_
             refine GO.lenS rfl rfl Try.underlying26 rfl ?_
             refine GO.lss rfl rfl rfl rfl ?_
             refine GO.nil ?_
             rcases ite_elim H with ⟨c869, H⟩ | ⟨c869, H⟩
             ·
              refine G.yesB rfl (decide_eq_true c869) ?_
              refine G.skip ?_
              refine G.seq ?_
              refine G.block ?_
              refine G.seq ?_
              obtain ⟨c870, H⟩ := ite_none H
              obtain ⟨e871, h872, H⟩ := bnd_elim H
              refine G.region ?_
              refine GO.fld (⟨b1, 0, none⟩) rfl rfl fl28_0 rfl rfl ?_
              refine GO.ldBox (j := 0) HS rfl rfl rfl rfl na26 rfl ?_
              refine GO.move rfl rfl rfl ?_
              refine GO.ix rfl rfl rfl Try.underlying26 sz58 ((RdIn.drop 5 h_t_Crossings) _ HS).2.2.1 c870.1 c870.2 rfl ?_
              refine GO.ldRdA (T := T_GCrossing) (n := x843.toNat) HS (RdIn.drop 5 h_t_Crossings) rfl rfl (getD_eq (ltN c870) h872) ag58 rfl ?_
              refine GO.alloc HS rfl zr58 rfl rfl ?_; intro b873 wd874 HS
              refine GO.stBox (j := 0) (vs := [.int .i64 e871.A, .int .i64 e871.B, .int .i64 e871.C, .int .i64 e871.D, .int .i64 e871.Sign]) ([.int .i64 e871.A, .int .i64 e871.B, .int .i64 e871.C, .int .i64 e871.D, .int .i64 e871.Sign]) HS rfl rfl rfl rfl rfl (htA ag58) rfl rfl rfl ?_; intro wd875 HS
              refine GO.nil ?_
              refine G.seq ?_
              obtain ⟨c876, H⟩ := ite_none H
              refine G.region ?_
              refine GO.move rfl rfl rfl ?_
              refine GO.move rfl rfl rfl ?_
              refine GO.ix rfl rfl rfl Try.underlying83 sz4 ((RdIn.drop 6 h_o) _ HS).2.2.1 c876.1 c876.2 rfl ?_
              refine GO.ldRd (T := TBool) (n := x843.toNat) (o := 0) HS (RdIn.drop 6 h_o) rfl rfl (getD_some (d := false) (ltN c876)) rfl rfl na4 rfl ?_
              refine GO.not rfl rfl rfl ?_
              refine GO.nil ?_
              rcases ite_elim H with ⟨c877, H⟩ | ⟨c877, H⟩
              ·
               refine G.noB rfl (congrArg Bool.not c877) ?_
               refine G.skip ?_
               refine G.blockEnd ?_
               refine G.region ?_
               refine GO.move rfl rfl rfl ?_
               refine GO.add rfl rfl rfl rfl ?_
               refine GO.assign rfl rfl rfl ?_
               refine GO.nil ?_
               refine G.again ?_
               refine G.weak ?_ (ih_l21 n_l21 (Nat.lt_succ_of_le (Nat.le_refl _)) (Nat.le_of_succ_le hm_l21) _ _ _ _ _ H (HS.pk 6 [1, 2, 3, 4, 5] rfl))
               exact ⟨rfl, rfl, rfl, rfl, rfl, rfl, trivial⟩
              ·
               refine G.yesB rfl (congrArg Bool.not (bnot_of c877)) ?_
               obtain ⟨c878, H⟩ := ite_none H
               have h879 := ((RdIn.own (j := 5) rfl) _ HS).2.2.1
               obtain ⟨c880, H⟩ := ite_none H
               have h881 := ((RdIn.own (j := 5) rfl) _ HS).2.2.1
               obtain ⟨c882, H⟩ := ite_none H
               have h883 := ((RdIn.own (j := 5) rfl) _ HS).2.2.1
               obtain ⟨c884, H⟩ := ite_none H
               have h885 := ((RdIn.own (j := 5) rfl) _ HS).2.2.1
               obtain ⟨c891, H⟩ := ite_none H
               refine G.regionAny mixed (by decide) (fun b a w => ∃ (Y1_0 : Value) (Y2_1 : Value) (Y3_2 : Value) (Y4_3 : Value) (Y5_4 : Value) (Y6_5 : Value) (Y7_6 : Value) (Y8_7 : Value) (Y9_8 : Value) (Y10_9 : Value) (Y11_10 : Value) (Y12_11 : Value) (Y13_12 : Value) (Y14_13 : Value) (Y15_14 : Value) (Y16_15 : Value) (Y17_16 : Value) (Y18_17 : Value) (Y19_18 : Value) (Y20_19 : Value) (Y21_20 : Value) (Y22_21 : Value) (Y23_22 : Value) (Y24_23 : Value) (Y25_24 : Value) (Y26_25 : Value) (Y27_26 : Value) (Y28_27 : Value) (b886 : Nat) (A889 : Option Addr) (c890 : Nat) (O30_157 : HObj) (O29_162 : HObj) (O31_166 : HObj), Sat 145 [(116, Y1_0), (117, Y2_1), (118, Y3_2), (119, Y4_3), (120, Y5_4), (121, Y6_5), (122, Y7_6), (123, Y8_7), (124, Y9_8), (125, Y10_9), (126, Y11_10), (127, Y12_11), (128, Y13_12), (129, Y14_13), (130, Y15_14), (131, Y16_15), (132, Y17_16), (133, Y18_17), (134, Y19_18), (135, Y20_19), (136, Y21_20), (137, Y22_21), (138, Y23_22), (139, Y24_23), (140, Y25_24), (141, Y26_25), (142, Y27_26), (143, Y28_27), (1, .slice A_o o.length c_o), (3, .pointer (some ⟨b1, 0, none⟩)), (6, .pointer (some ⟨b3, 0, none⟩)), (7, .pointer (some ⟨b5, 0, none⟩)), (9, .slice (some ⟨b10, 0, none⟩) x220.length ((w64 (2 * (t_Crossings.length : Int))).toNat)), (20, .int .i64 x843), (21, .pointer (some ⟨b873, 0, none⟩))] a ∧ St w0 w (Box b873 58 [.int .i64 e871.A, .int .i64 e871.B, .int .i64 e871.C, .int .i64 e871.D, .int .i64 e871.Sign] :: Box b1 28 [.slice A_t_Crossings t_Crossings.length c_t_Crossings, .int .i64 t_Circles] :: Box b3 28 [.slice none 0 0, .int .i64 0] :: O30_157 :: O29_162 :: Own (TInt .i64) 2 (some ⟨b10, 0, none⟩) ((w64 (2 * (t_Crossings.length : Int))).toNat) (fun _ => ()) x220 :: O31_166 :: L) ∧ (b 0 = true → Y1_0 = (.pointer (some ⟨b5, 0, none⟩))) ∧ (b 1 = true → Y2_1 = (.slice A840 x842.length c841)) ∧ (b 2 = true → Y3_2 = (.slice (some ⟨b10, 0, none⟩) x220.length ((w64 (2 * (t_Crossings.length : Int))).toNat))) ∧ (b 3 = true → Y4_3 = (.pointer (some ⟨b873, 0, none⟩))) ∧ (b 4 = true → Y5_4 = (.int .i64 e871.A)) ∧ (b 5 = true → Y6_5 = (.pointer (some (ea (some ⟨b10, 0, none⟩) (e871.A.toNat * 1))))) ∧ (b 6 = true → Y7_6 = (.int .i64 (x220.getD e871.A.toNat 0))) ∧ (b 7 = true → Y8_7 = (.slice (some ⟨b10, 0, none⟩) x220.length ((w64 (2 * (t_Crossings.length : Int))).toNat))) ∧ (b 8 = true → Y9_8 = (.pointer (some ⟨b873, 1, none⟩))) ∧ (b 9 = true → Y10_9 = (.int .i64 e871.B)) ∧ (b 10 = true → Y11_10 = (.pointer (some (ea (some ⟨b10, 0, none⟩) (e871.B.toNat * 1))))) ∧ (b 11 = true → Y12_11 = (.int .i64 (x220.getD e871.B.toNat 0))) ∧ (b 12 = true → Y13_12 = (.slice (some ⟨b10, 0, none⟩) x220.length ((w64 (2 * (t_Crossings.length : Int))).toNat))) ∧ (b 13 = true → Y14_13 = (.pointer (some ⟨b873, 2, none⟩))) ∧ (b 14 = true → Y15_14 = (.int .i64 e871.C)) ∧ (b 15 = true → Y16_15 = (.pointer (some (ea (some ⟨b10, 0, none⟩) (e871.C.toNat * 1))))) ∧ (b 16 = true → Y17_16 = (.int .i64 (x220.getD e871.C.toNat 0))) ∧ (b 17 = true → Y18_17 = (.slice (some ⟨b10, 0, none⟩) x220.length ((w64 (2 * (t_Crossings.length : Int))).toNat))) ∧ (b 18 = true → Y19_18 = (.pointer (some ⟨b873, 3, none⟩))) ∧ (b 19 = true → Y20_19 = (.int .i64 e871.D)) ∧ (b 20 = true → Y21_20 = (.pointer (some (ea (some ⟨b10, 0, none⟩) (e871.D.toNat * 1))))) ∧ (b 21 = true → Y22_21 = (.int .i64 (x220.getD e871.D.toNat 0))) ∧ (b 22 = true → Y23_22 = (.pointer (some ⟨b873, 4, none⟩))) ∧ (b 23 = true → Y24_23 = (.int .i64 e871.Sign)) ∧ (b 24 = true → Y25_24 = (.agg [.int .i64 (x220.getD e871.A.toNat 0), .int .i64 (x220.getD e871.B.toNat 0), .int .i64 (x220.getD e871.C.toNat 0), .int .i64 (x220.getD e871.D.toNat 0), .int .i64 e871.Sign].toArray)) ∧ (b 25 = true → Y26_25 = (.slice (some ⟨b886, 0, none⟩) 1 1)) ∧ (b 26 = true → Y27_26 = (.slice A889 (x842 ++ [(⟨x220.getD e871.A.toNat 0, x220.getD e871.B.toNat 0, x220.getD e871.C.toNat 0, x220.getD e871.D.toNat 0, e871.Sign⟩ : GCrossing)]).length c890)) ∧ (b 27 = true → Y28_27 = (.pointer (some ⟨b5, 0, none⟩))) ∧ (b 28 = false → O30_157 = Box b5 28 [.slice A840 x842.length c841, .int .i64 x701]) ∧ (b 28 = true → O30_157 = Box b5 28 [.slice A889 (x842 ++ [(⟨x220.getD e871.A.toNat 0, x220.getD e871.B.toNat 0, x220.getD e871.C.toNat 0, x220.getD e871.D.toNat 0, e871.Sign⟩ : GCrossing)]).length c890, .int .i64 x701]) ∧ (b 26 = false → O29_162 = Own T_GCrossing 58 A840 c841 (fun _ => ()) x842) ∧ (b 26 = true → O29_162 = Own T_GCrossing 58 A889 c890 (fun _ => ()) (x842 ++ [(⟨x220.getD e871.A.toNat 0, x220.getD e871.B.toNat 0, x220.getD e871.C.toNat 0, x220.getD e871.D.toNat 0, e871.Sign⟩ : GCrossing)])) ∧ (b 25 = true → O31_166 = Box b886 58 [.int .i64 (x220.getD e871.A.toNat 0), .int .i64 (x220.getD e871.B.toNat 0), .int .i64 (x220.getD e871.C.toNat 0), .int .i64 (x220.getD e871.D.toNat 0), .int .i64 e871.Sign])) ?_ ?_ ?_
               ·
                intro a hs
                obtain ⟨Y1_0, hs⟩ := hs.ext (d := 116) rfl
                obtain ⟨Y2_1, hs⟩ := hs.ext (d := 117) rfl
                obtain ⟨Y3_2, hs⟩ := hs.ext (d := 118) rfl
                obtain ⟨Y4_3, hs⟩ := hs.ext (d := 119) rfl
                obtain ⟨Y5_4, hs⟩ := hs.ext (d := 120) rfl
                obtain ⟨Y6_5, hs⟩ := hs.ext (d := 121) rfl
                obtain ⟨Y7_6, hs⟩ := hs.ext (d := 122) rfl
                obtain ⟨Y8_7, hs⟩ := hs.ext (d := 123) rfl
                obtain ⟨Y9_8, hs⟩ := hs.ext (d := 124) rfl
                obtain ⟨Y10_9, hs⟩ := hs.ext (d := 125) rfl
                obtain ⟨Y11_10, hs⟩ := hs.ext (d := 126) rfl
                obtain ⟨Y12_11, hs⟩ := hs.ext (d := 127) rfl
                obtain ⟨Y13_12, hs⟩ := hs.ext (d := 128) rfl
                obtain ⟨Y14_13, hs⟩ := hs.ext (d := 129) rfl
                obtain ⟨Y15_14, hs⟩ := hs.ext (d := 130) rfl
                obtain ⟨Y16_15, hs⟩ := hs.ext (d := 131) rfl
                obtain ⟨Y17_16, hs⟩ := hs.ext (d := 132) rfl
                obtain ⟨Y18_17, hs⟩ := hs.ext (d := 133) rfl
                obtain ⟨Y19_18, hs⟩ := hs.ext (d := 134) rfl
                obtain ⟨Y20_19, hs⟩ := hs.ext (d := 135) rfl
                obtain ⟨Y21_20, hs⟩ := hs.ext (d := 136) rfl
                obtain ⟨Y22_21, hs⟩ := hs.ext (d := 137) rfl
                obtain ⟨Y23_22, hs⟩ := hs.ext (d := 138) rfl
                obtain ⟨Y24_23, hs⟩ := hs.ext (d := 139) rfl
                obtain ⟨Y25_24, hs⟩ := hs.ext (d := 140) rfl
                obtain ⟨Y26_25, hs⟩ := hs.ext (d := 141) rfl
                obtain ⟨Y27_26, hs⟩ := hs.ext (d := 142) rfl
                obtain ⟨Y28_27, hs⟩ := hs.ext (d := 143) rfl
                exact ⟨Y1_0, Y2_1, Y3_2, Y4_3, Y5_4, Y6_5, Y7_6, Y8_7, Y9_8, Y10_9, Y11_10, Y12_11, Y13_12, Y14_13, Y15_14, Y16_15, Y17_16, Y18_17, Y19_18, Y20_19, Y21_20, Y22_21, Y23_22, Y24_23, Y25_24, Y26_25, Y27_26, Y28_27, 0, none, 0, Box b5 28 [.slice A840 x842.length c841, .int .i64 x701], Own T_GCrossing 58 A840 c841 (fun _ => ()) x842, Emp, hs.weak ⟨rfl, rfl, rfl, rfl, rfl, rfl, rfl, rfl, rfl, rfl, rfl, rfl, rfl, rfl, rfl, rfl, rfl, rfl, rfl, rfl, rfl, rfl, rfl, rfl, rfl, rfl, rfl, rfl, rfl, rfl, rfl, rfl, rfl, rfl, rfl, trivial⟩, (HS.drew.emp.pk 7 [1, 2, 3, 4, 5, 6, 0] rfl), fun h => Bool.noConfusion h, fun h => Bool.noConfusion h, fun h => Bool.noConfusion h, fun h => Bool.noConfusion h, fun h => Bool.noConfusion h, fun h => Bool.noConfusion h, fun h => Bool.noConfusion h, fun h => Bool.noConfusion h, fun h => Bool.noConfusion h, fun h => Bool.noConfusion h, fun h => Bool.noConfusion h, fun h => Bool.noConfusion h, fun h => Bool.noConfusion h, fun h => Bool.noConfusion h, fun h => Bool.noConfusion h, fun h => Bool.noConfusion h, fun h => Bool.noConfusion h, fun h => Bool.noConfusion h, fun h => Bool.noConfusion h, fun h => Bool.noConfusion h, fun h => Bool.noConfusion h, fun h => Bool.noConfusion h, fun h => Bool.noConfusion h, fun h => Bool.noConfusion h, fun h => Bool.noConfusion h, fun h => Bool.noConfusion h, fun h => Bool.noConfusion h, fun h => Bool.noConfusion h, fun _ => rfl, fun h => Bool.noConfusion h, fun _ => rfl, fun h => Bool.noConfusion h, fun h => Bool.noConfusion h⟩
               ·
                intro j hj b a w
                refine exI fun Y1_0 => exI fun Y2_1 => exI fun Y3_2 => exI fun Y4_3 => exI fun Y5_4 => exI fun Y6_5 => exI fun Y7_6 => exI fun Y8_7 => exI fun Y9_8 => exI fun Y10_9 => exI fun Y11_10 => exI fun Y12_11 => exI fun Y13_12 => exI fun Y14_13 => exI fun Y15_14 => exI fun Y16_15 => exI fun Y17_16 => exI fun Y18_17 => exI fun Y19_18 => exI fun Y20_19 => exI fun Y21_20 => exI fun Y22_21 => exI fun Y23_22 => exI fun Y24_23 => exI fun Y25_24 => exI fun Y26_25 => exI fun Y27_26 => exI fun Y28_27 => exI fun b886 => exI fun A889 => exI fun c890 => exI fun O30_157 => exI fun O29_162 => exI fun O31_166 => anI fun hs => anI fun HS => anI fun f0 => anI fun f1 => anI fun f2 => anI fun f3 => anI fun f4 => anI fun f5 => anI fun f6 => anI fun f7 => anI fun f8 => anI fun f9 => anI fun f10 => anI fun f11 => anI fun f12 => anI fun f13 => anI fun f14 => anI fun f15 => anI fun f16 => anI fun f17 => anI fun f18 => anI fun f19 => anI fun f20 => anI fun f21 => anI fun f22 => anI fun f23 => anI fun f24 => anI fun f25 => anI fun f26 => anI fun f27 => anI fun o157_0 => anI fun o157_1 => anI fun o162_0 => anI fun o162_1 => fun o166_0 hb hd hcl => ?_
                match j, hj with
                | 0, _ =>
                 refine GO.at hs ?_
                 refine GO.fld (⟨b5, 0, none⟩) rfl rfl fl28_0 rfl rfl ?_
                 refine GO.fin (fun a hs => ?_)
                 exact ⟨(.pointer (some ⟨b5, 0, none⟩)), _, _, _, _, _, _, _, _, _, _, _, _, _, _, _, _, _, _, _, _, _, _, _, _, _, _, _, b886, A889, c890, _, _, _, by exact hs.setAt 0 rfl, HS, fun _ => rfl, f1, f2, f3, f4, f5, f6, f7, f8, f9, f10, f11, f12, f13, f14, f15, f16, f17, f18, f19, f20, f21, f22, f23, f24, f25, f26, f27, o157_0, o157_1, o162_0, o162_1, o166_0⟩
                | 1, _ =>
                 have hb0 : b 0 = true := hd 0 (by decide)
                 obtain rfl := f0 hb0
                 have d28 : b 28 = false := bfalse (fun hh => hcl 28 (by decide) (hh) 1 (by decide)) hb
                 obtain rfl := o157_0 d28
                 refine GO.at hs ?_
                 refine GO.ldBox (j := 3) HS rfl rfl rfl rfl na26 rfl ?_
                 refine GO.fin (fun a hs => ?_)
                 exact ⟨_, (.slice A840 x842.length c841), _, _, _, _, _, _, _, _, _, _, _, _, _, _, _, _, _, _, _, _, _, _, _, _, _, _, b886, A889, c890, _, _, _, by exact hs.setAt 1 rfl, HS, f0, fun _ => rfl, f2, f3, f4, f5, f6, f7, f8, f9, f10, f11, f12, f13, f14, f15, f16, f17, f18, f19, f20, f21, f22, f23, f24, f25, f26, f27, o157_0, o157_1, o162_0, o162_1, o166_0⟩
                | 2, _ =>
                 refine GO.at hs ?_
                 refine GO.move rfl rfl rfl ?_
                 refine GO.fin (fun a hs => ?_)
                 exact ⟨_, _, (.slice (some ⟨b10, 0, none⟩) x220.length ((w64 (2 * (t_Crossings.length : Int))).toNat)), _, _, _, _, _, _, _, _, _, _, _, _, _, _, _, _, _, _, _, _, _, _, _, _, _, b886, A889, c890, _, _, _, by exact hs.setAt 2 rfl, HS, f0, f1, fun _ => rfl, f3, f4, f5, f6, f7, f8, f9, f10, f11, f12, f13, f14, f15, f16, f17, f18, f19, f20, f21, f22, f23, f24, f25, f26, f27, o157_0, o157_1, o162_0, o162_1, o166_0⟩
                | 3, _ =>
                 refine GO.at hs ?_
                 refine GO.fld (⟨b873, 0, none⟩) rfl rfl fl58_0 rfl rfl ?_
                 refine GO.fin (fun a hs => ?_)
                 exact ⟨_, _, _, (.pointer (some ⟨b873, 0, none⟩)), _, _, _, _, _, _, _, _, _, _, _, _, _, _, _, _, _, _, _, _, _, _, _, _, b886, A889, c890, _, _, _, by exact hs.setAt 3 rfl, HS, f0, f1, f2, fun _ => rfl, f4, f5, f6, f7, f8, f9, f10, f11, f12, f13, f14, f15, f16, f17, f18, f19, f20, f21, f22, f23, f24, f25, f26, f27, o157_0, o157_1, o162_0, o162_1, o166_0⟩
                | 4, _ =>
                 have hb3 : b 3 = true := hd 3 (by decide)
                 obtain rfl := f3 hb3
                 refine GO.at hs ?_
                 refine GO.ldBox (j := 0) HS rfl rfl rfl rfl na2 rfl ?_
                 refine GO.fin (fun a hs => ?_)
                 exact ⟨_, _, _, _, (.int .i64 e871.A), _, _, _, _, _, _, _, _, _, _, _, _, _, _, _, _, _, _, _, _, _, _, _, b886, A889, c890, _, _, _, by exact hs.setAt 4 rfl, HS, f0, f1, f2, f3, fun _ => rfl, f5, f6, f7, f8, f9, f10, f11, f12, f13, f14, f15, f16, f17, f18, f19, f20, f21, f22, f23, f24, f25, f26, f27, o157_0, o157_1, o162_0, o162_1, o166_0⟩
                | 5, _ =>
                 have hb2 : b 2 = true := hd 2 (by decide)
                 obtain rfl := f2 hb2
                 have hb4 : b 4 = true := hd 4 (by decide)
                 obtain rfl := f4 hb4
                 refine GO.at hs ?_
                 refine GO.ix rfl rfl rfl Try.underlying43 sz2 h879 c878.1 c878.2 rfl ?_
                 refine GO.fin (fun a hs => ?_)
                 exact ⟨_, _, _, _, _, (.pointer (some (ea (some ⟨b10, 0, none⟩) (e871.A.toNat * 1)))), _, _, _, _, _, _, _, _, _, _, _, _, _, _, _, _, _, _, _, _, _, _, b886, A889, c890, _, _, _, by exact hs.setAt 5 rfl, HS, f0, f1, f2, f3, f4, fun _ => rfl, f6, f7, f8, f9, f10, f11, f12, f13, f14, f15, f16, f17, f18, f19, f20, f21, f22, f23, f24, f25, f26, f27, o157_0, o157_1, o162_0, o162_1, o166_0⟩
                | 6, _ =>
                 have hb5 : b 5 = true := hd 5 (by decide)
                 obtain rfl := f5 hb5
                 refine GO.at hs ?_
                 refine GO.ldRd (T := (TInt .i64)) (n := e871.A.toNat) (o := 0) HS (RdIn.own (j := 5) rfl) rfl rfl (getD_some (d := 0) (ltN c878)) rfl rfl na2 rfl ?_
                 refine GO.fin (fun a hs => ?_)
                 exact ⟨_, _, _, _, _, _, (.int .i64 (x220.getD e871.A.toNat 0)), _, _, _, _, _, _, _, _, _, _, _, _, _, _, _, _, _, _, _, _, _, b886, A889, c890, _, _, _, by exact hs.setAt 6 rfl, HS, f0, f1, f2, f3, f4, f5, fun _ => rfl, f7, f8, f9, f10, f11, f12, f13, f14, f15, f16, f17, f18, f19, f20, f21, f22, f23, f24, f25, f26, f27, o157_0, o157_1, o162_0, o162_1, o166_0⟩
                | 7, _ =>
                 refine GO.at hs ?_
                 refine GO.move rfl rfl rfl ?_
                 refine GO.fin (fun a hs => ?_)
                 exact ⟨_, _, _, _, _, _, _, (.slice (some ⟨b10, 0, none⟩) x220.length ((w64 (2 * (t_Crossings.length : Int))).toNat)), _, _, _, _, _, _, _, _, _, _, _, _, _, _, _, _, _, _, _, _, b886, A889, c890, _, _, _, by exact hs.setAt 7 rfl, HS, f0, f1, f2, f3, f4, f5, f6, fun _ => rfl, f8, f9, f10, f11, f12, f13, f14, f15, f16, f17, f18, f19, f20, f21, f22, f23, f24, f25, f26, f27, o157_0, o157_1, o162_0, o162_1, o166_0⟩
                | 8, _ =>
                 refine GO.at hs ?_
                 refine GO.fld (⟨b873, 1, none⟩) rfl rfl fl58_1 rfl rfl ?_
                 refine GO.fin (fun a hs => ?_)
                 exact ⟨_, _, _, _, _, _, _, _, (.pointer (some ⟨b873, 1, none⟩)), _, _, _, _, _, _, _, _, _, _, _, _, _, _, _, _, _, _, _, b886, A889, c890, _, _, _, by exact hs.setAt 8 rfl, HS, f0, f1, f2, f3, f4, f5, f6, f7, fun _ => rfl, f9, f10, f11, f12, f13, f14, f15, f16, f17, f18, f19, f20, f21, f22, f23, f24, f25, f26, f27, o157_0, o157_1, o162_0, o162_1, o166_0⟩
                | 9, _ =>
                 have hb8 : b 8 = true := hd 8 (by decide)
                 obtain rfl := f8 hb8
                 refine GO.at hs ?_
                 refine GO.ldBox (j := 0) HS rfl rfl rfl rfl na2 rfl ?_
                 refine GO.fin (fun a hs => ?_)
                 exact ⟨_, _, _, _, _, _, _, _, _, (.int .i64 e871.B), _, _, _, _, _, _, _, _, _, _, _, _, _, _, _, _, _, _, b886, A889, c890, _, _, _, by exact hs.setAt 9 rfl, HS, f0, f1, f2, f3, f4, f5, f6, f7, f8, fun _ => rfl, f10, f11, f12, f13, f14, f15, f16, f17, f18, f19, f20, f21, f22, f23, f24, f25, f26, f27, o157_0, o157_1, o162_0, o162_1, o166_0⟩
                | 10, _ =>
                 have hb7 : b 7 = true := hd 7 (by decide)
                 obtain rfl := f7 hb7
                 have hb9 : b 9 = true := hd 9 (by decide)
                 obtain rfl := f9 hb9
                 refine GO.at hs ?_
                 refine GO.ix rfl rfl rfl Try.underlying43 sz2 h881 c880.1 c880.2 rfl ?_
                 refine GO.fin (fun a hs => ?_)
                 exact ⟨_, _, _, _, _, _, _, _, _, _, (.pointer (some (ea (some ⟨b10, 0, none⟩) (e871.B.toNat * 1)))), _, _, _, _, _, _, _, _, _, _, _, _, _, _, _, _, _, b886, A889, c890, _, _, _, by exact hs.setAt 10 rfl, HS, f0, f1, f2, f3, f4, f5, f6, f7, f8, f9, fun _ => rfl, f11, f12, f13, f14, f15, f16, f17, f18, f19, f20, f21, f22, f23, f24, f25, f26, f27, o157_0, o157_1, o162_0, o162_1, o166_0⟩
                | 11, _ =>
                 have hb10 : b 10 = true := hd 10 (by decide)
                 obtain rfl := f10 hb10
                 refine GO.at hs ?_
                 refine GO.ldRd (T := (TInt .i64)) (n := e871.B.toNat) (o := 0) HS (RdIn.own (j := 5) rfl) rfl rfl (getD_some (d := 0) (ltN c880)) rfl rfl na2 rfl ?_
                 refine GO.fin (fun a hs => ?_)
                 exact ⟨_, _, _, _, _, _, _, _, _, _, _, (.int .i64 (x220.getD e871.B.toNat 0)), _, _, _, _, _, _, _, _, _, _, _, _, _, _, _, _, b886, A889, c890, _, _, _, by exact hs.setAt 11 rfl, HS, f0, f1, f2, f3, f4, f5, f6, f7, f8, f9, f10, fun _ => rfl, f12, f13, f14, f15, f16, f17, f18, f19, f20, f21, f22, f23, f24, f25, f26, f27, o157_0, o157_1, o162_0, o162_1, o166_0⟩
                | 12, _ =>
                 refine GO.at hs ?_
                 refine GO.move rfl rfl rfl ?_
                 refine GO.fin (fun a hs => ?_)
                 exact ⟨_, _, _, _, _, _, _, _, _, _, _, _, (.slice (some ⟨b10, 0, none⟩) x220.length ((w64 (2 * (t_Crossings.length : Int))).toNat)), _, _, _, _, _, _, _, _, _, _, _, _, _, _, _, b886, A889, c890, _, _, _, by exact hs.setAt 12 rfl, HS, f0, f1, f2, f3, f4, f5, f6, f7, f8, f9, f10, f11, fun _ => rfl, f13, f14, f15, f16, f17, f18, f19, f20, f21, f22, f23, f24, f25, f26, f27, o157_0, o157_1, o162_0, o162_1, o166_0⟩
                | 13, _ =>
                 refine GO.at hs ?_
                 refine GO.fld (⟨b873, 2, none⟩) rfl rfl fl58_2 rfl rfl ?_
                 refine GO.fin (fun a hs => ?_)
                 exact ⟨_, _, _, _, _, _, _, _, _, _, _, _, _, (.pointer (some ⟨b873, 2, none⟩)), _, _, _, _, _, _, _, _, _, _, _, _, _, _, b886, A889, c890, _, _, _, by exact hs.setAt 13 rfl, HS, f0, f1, f2, f3, f4, f5, f6, f7, f8, f9, f10, f11, f12, fun _ => rfl, f14, f15, f16, f17, f18, f19, f20, f21, f22, f23, f24, f25, f26, f27, o157_0, o157_1, o162_0, o162_1, o166_0⟩
                | 14, _ =>
                 have hb13 : b 13 = true := hd 13 (by decide)
                 obtain rfl := f13 hb13
                 refine GO.at hs ?_
                 refine GO.ldBox (j := 0) HS rfl rfl rfl rfl na2 rfl ?_
                 refine GO.fin (fun a hs => ?_)
                 exact ⟨_, _, _, _, _, _, _, _, _, _, _, _, _, _, (.int .i64 e871.C), _, _, _, _, _, _, _, _, _, _, _, _, _, b886, A889, c890, _, _, _, by exact hs.setAt 14 rfl, HS, f0, f1, f2, f3, f4, f5, f6, f7, f8, f9, f10, f11, f12, f13, fun _ => rfl, f15, f16, f17, f18, f19, f20, f21, f22, f23, f24, f25, f26, f27, o157_0, o157_1, o162_0, o162_1, o166_0⟩
                | 15, _ =>
                 have hb12 : b 12 = true := hd 12 (by decide)
                 obtain rfl := f12 hb12
                 have hb14 : b 14 = true := hd 14 (by decide)
                 obtain rfl := f14 hb14
                 refine GO.at hs ?_
                 refine GO.ix rfl rfl rfl Try.underlying43 sz2 h883 c882.1 c882.2 rfl ?_
                 refine GO.fin (fun a hs => ?_)
                 exact ⟨_, _, _, _, _, _, _, _, _, _, _, _, _, _, _, (.pointer (some (ea (some ⟨b10, 0, none⟩) (e871.C.toNat * 1)))), _, _, _, _, _, _, _, _, _, _, _, _, b886, A889, c890, _, _, _, by exact hs.setAt 15 rfl, HS, f0, f1, f2, f3, f4, f5, f6, f7, f8, f9, f10, f11, f12, f13, f14, fun _ => rfl, f16, f17, f18, f19, f20, f21, f22, f23, f24, f25, f26, f27, o157_0, o157_1, o162_0, o162_1, o166_0⟩
                | 16, _ =>
                 have hb15 : b 15 = true := hd 15 (by decide)
                 obtain rfl := f15 hb15
                 refine GO.at hs ?_
                 refine GO.ldRd (T := (TInt .i64)) (n := e871.C.toNat) (o := 0) HS (RdIn.own (j := 5) rfl) rfl rfl (getD_some (d := 0) (ltN c882)) rfl rfl na2 rfl ?_
                 refine GO.fin (fun a hs => ?_)
                 exact ⟨_, _, _, _, _, _, _, _, _, _, _, _, _, _, _, _, (.int .i64 (x220.getD e871.C.toNat 0)), _, _, _, _, _, _, _, _, _, _, _, b886, A889, c890, _, _, _, by exact hs.setAt 16 rfl, HS, f0, f1, f2, f3, f4, f5, f6, f7, f8, f9, f10, f11, f12, f13, f14, f15, fun _ => rfl, f17, f18, f19, f20, f21, f22, f23, f24, f25, f26, f27, o157_0, o157_1, o162_0, o162_1, o166_0⟩
                | 17, _ =>
                 refine GO.at hs ?_
                 refine GO.move rfl rfl rfl ?_
                 refine GO.fin (fun a hs => ?_)
                 exact ⟨_, _, _, _, _, _, _, _, _, _, _, _, _, _, _, _, _, (.slice (some ⟨b10, 0, none⟩) x220.length ((w64 (2 * (t_Crossings.length : Int))).toNat)), _, _, _, _, _, _, _, _, _, _, b886, A889, c890, _, _, _, by exact hs.setAt 17 rfl, HS, f0, f1, f2, f3, f4, f5, f6, f7, f8, f9, f10, f11, f12, f13, f14, f15, f16, fun _ => rfl, f18, f19, f20, f21, f22, f23, f24, f25, f26, f27, o157_0, o157_1, o162_0, o162_1, o166_0⟩
                | 18, _ =>
                 refine GO.at hs ?_
                 refine GO.fld (⟨b873, 3, none⟩) rfl rfl fl58_3 rfl rfl ?_
                 refine GO.fin (fun a hs => ?_)
                 exact ⟨_, _, _, _, _, _, _, _, _, _, _, _, _, _, _, _, _, _, (.pointer (some ⟨b873, 3, none⟩)), _, _, _, _, _, _, _, _, _, b886, A889, c890, _, _, _, by exact hs.setAt 18 rfl, HS, f0, f1, f2, f3, f4, f5, f6, f7, f8, f9, f10, f11, f12, f13, f14, f15, f16, f17, fun _ => rfl, f19, f20, f21, f22, f23, f24, f25, f26, f27, o157_0, o157_1, o162_0, o162_1, o166_0⟩
                | 19, _ =>
                 have hb18 : b 18 = true := hd 18 (by decide)
                 obtain rfl := f18 hb18
                 refine GO.at hs ?_
                 refine GO.ldBox (j := 0) HS rfl rfl rfl rfl na2 rfl ?_
                 refine GO.fin (fun a hs => ?_)
                 exact ⟨_, _, _, _, _, _, _, _, _, _, _, _, _, _, _, _, _, _, _, (.int .i64 e871.D), _, _, _, _, _, _, _, _, b886, A889, c890, _, _, _, by exact hs.setAt 19 rfl, HS, f0, f1, f2, f3, f4, f5, f6, f7, f8, f9, f10, f11, f12, f13, f14, f15, f16, f17, f18, fun _ => rfl, f20, f21, f22, f23, f24, f25, f26, f27, o157_0, o157_1, o162_0, o162_1, o166_0⟩
                | 20, _ =>
                 have hb17 : b 17 = true := hd 17 (by decide)
                 obtain rfl := f17 hb17
                 have hb19 : b 19 = true := hd 19 (by decide)
                 obtain rfl := f19 hb19
                 refine GO.at hs ?_
                 refine GO.ix rfl rfl rfl Try.underlying43 sz2 h885 c884.1 c884.2 rfl ?_
                 refine GO.fin (fun a hs => ?_)
                 exact ⟨_, _, _, _, _, _, _, _, _, _, _, _, _, _, _, _, _, _, _, _, (.pointer (some (ea (some ⟨b10, 0, none⟩) (e871.D.toNat * 1)))), _, _, _, _, _, _, _, b886, A889, c890, _, _, _, by exact hs.setAt 20 rfl, HS, f0, f1, f2, f3, f4, f5, f6, f7, f8, f9, f10, f11, f12, f13, f14, f15, f16, f17, f18, f19, fun _ => rfl, f21, f22, f23, f24, f25, f26, f27, o157_0, o157_1, o162_0, o162_1, o166_0⟩
                | 21, _ =>
                 have hb20 : b 20 = true := hd 20 (by decide)
                 obtain rfl := f20 hb20
                 refine GO.at hs ?_
                 refine GO.ldRd (T := (TInt .i64)) (n := e871.D.toNat) (o := 0) HS (RdIn.own (j := 5) rfl) rfl rfl (getD_some (d := 0) (ltN c884)) rfl rfl na2 rfl ?_
                 refine GO.fin (fun a hs => ?_)
                 exact ⟨_, _, _, _, _, _, _, _, _, _, _, _, _, _, _, _, _, _, _, _, _, (.int .i64 (x220.getD e871.D.toNat 0)), _, _, _, _, _, _, b886, A889, c890, _, _, _, by exact hs.setAt 21 rfl, HS, f0, f1, f2, f3, f4, f5, f6, f7, f8, f9, f10, f11, f12, f13, f14, f15, f16, f17, f18, f19, f20, fun _ => rfl, f22, f23, f24, f25, f26, f27, o157_0, o157_1, o162_0, o162_1, o166_0⟩
                | 22, _ =>
                 refine GO.at hs ?_
                 refine GO.fld (⟨b873, 4, none⟩) rfl rfl fl58_4 rfl rfl ?_
                 refine GO.fin (fun a hs => ?_)
                 exact ⟨_, _, _, _, _, _, _, _, _, _, _, _, _, _, _, _, _, _, _, _, _, _, (.pointer (some ⟨b873, 4, none⟩)), _, _, _, _, _, b886, A889, c890, _, _, _, by exact hs.setAt 22 rfl, HS, f0, f1, f2, f3, f4, f5, f6, f7, f8, f9, f10, f11, f12, f13, f14, f15, f16, f17, f18, f19, f20, f21, fun _ => rfl, f23, f24, f25, f26, f27, o157_0, o157_1, o162_0, o162_1, o166_0⟩
                | 23, _ =>
                 have hb22 : b 22 = true := hd 22 (by decide)
                 obtain rfl := f22 hb22
                 refine GO.at hs ?_
                 refine GO.ldBox (j := 0) HS rfl rfl rfl rfl na2 rfl ?_
                 refine GO.fin (fun a hs => ?_)
                 exact ⟨_, _, _, _, _, _, _, _, _, _, _, _, _, _, _, _, _, _, _, _, _, _, _, (.int .i64 e871.Sign), _, _, _, _, b886, A889, c890, _, _, _, by exact hs.setAt 23 rfl, HS, f0, f1, f2, f3, f4, f5, f6, f7, f8, f9, f10, f11, f12, f13, f14, f15, f16, f17, f18, f19, f20, f21, f22, fun _ => rfl, f24, f25, f26, f27, o157_0, o157_1, o162_0, o162_1, o166_0⟩
                | 24, _ =>
                 have hb6 : b 6 = true := hd 6 (by decide)
                 obtain rfl := f6 hb6
                 have hb11 : b 11 = true := hd 11 (by decide)
                 obtain rfl := f11 hb11
                 have hb16 : b 16 = true := hd 16 (by decide)
                 obtain rfl := f16 hb16
                 have hb21 : b 21 = true := hd 21 (by decide)
                 obtain rfl := f21 hb21
                 have hb23 : b 23 = true := hd 23 (by decide)
                 obtain rfl := f23 hb23
                 refine GO.at hs ?_
                 refine GO.buildV (.agg [.int .i64 (x220.getD e871.A.toNat 0), .int .i64 (x220.getD e871.B.toNat 0), .int .i64 (x220.getD e871.C.toNat 0), .int .i64 (x220.getD e871.D.toNat 0), .int .i64 e871.Sign].toArray) rfl rfl (fun _ => by kernel_rfl) rfl ?_
                 refine GO.fin (fun a hs => ?_)
                 exact ⟨_, _, _, _, _, _, _, _, _, _, _, _, _, _, _, _, _, _, _, _, _, _, _, _, (.agg [.int .i64 (x220.getD e871.A.toNat 0), .int .i64 (x220.getD e871.B.toNat 0), .int .i64 (x220.getD e871.C.toNat 0), .int .i64 (x220.getD e871.D.toNat 0), .int .i64 e871.Sign].toArray), _, _, _, b886, A889, c890, _, _, _, by exact hs.setAt 24 rfl, HS, f0, f1, f2, f3, f4, f5, f6, f7, f8, f9, f10, f11, f12, f13, f14, f15, f16, f17, f18, f19, f20, f21, f22, f23, fun _ => rfl, f25, f26, f27, o157_0, o157_1, o162_0, o162_1, o166_0⟩
                | 25, _ =>
                 have hb24 : b 24 = true := hd 24 (by decide)
                 obtain rfl := f24 hb24
                 refine GO.at hs ?_
                 refine GO.buildS (el := 58) ([.int .i64 (x220.getD e871.A.toNat 0), .int .i64 (x220.getD e871.B.toNat 0), .int .i64 (x220.getD e871.C.toNat 0), .int .i64 (x220.getD e871.D.toNat 0), .int .i64 e871.Sign]) HS rfl rfl (fun _ => by kernel_rfl) rfl ?_; intro b886 wd887 HS
                 refine GO.fin (fun a hs => ?_)
                 exact ⟨_, _, _, _, _, _, _, _, _, _, _, _, _, _, _, _, _, _, _, _, _, _, _, _, _, (.slice (some ⟨b886, 0, none⟩) 1 1), _, _, b886, A889, c890, _, _, Box b886 58 [.int .i64 (x220.getD e871.A.toNat 0), .int .i64 (x220.getD e871.B.toNat 0), .int .i64 (x220.getD e871.C.toNat 0), .int .i64 (x220.getD e871.D.toNat 0), .int .i64 e871.Sign], by exact hs.setAt 25 rfl, HS.pk 8 [1, 2, 3, 4, 5, 6, 0] rfl, f0, f1, f2, f3, f4, f5, f6, f7, f8, f9, f10, f11, f12, f13, f14, f15, f16, f17, f18, f19, f20, f21, f22, f23, f24, fun _ => rfl, f26, f27, o157_0, o157_1, o162_0, o162_1, fun _ => rfl⟩
                | 26, _ =>
                 have hb1 : b 1 = true := hd 1 (by decide)
                 obtain rfl := f1 hb1
                 have hb25 : b 25 = true := hd 25 (by decide)
                 obtain rfl := f25 hb25
                 obtain rfl := o166_0 hb25
                 obtain rfl := o162_0 hb
                 refine GO.at hs ?_
                 refine GO.app1 (T := T_GCrossing) (j := 4) (jb := 6) (⟨x220.getD e871.A.toNat 0, x220.getD e871.B.toNat 0, x220.getD e871.C.toNat 0, x220.getD e871.D.toNat 0, e871.Sign⟩ : GCrossing) HS rfl rfl flat_flat rfl rfl rfl Try.underlying26 inf58 rfl rfl rfl c891 rfl ?_; intro A889 c890 wd888 HS
                 refine GO.fin (fun a hs => ?_)
                 exact ⟨_, _, _, _, _, _, _, _, _, _, _, _, _, _, _, _, _, _, _, _, _, _, _, _, _, _, (.slice A889 (x842 ++ [(⟨x220.getD e871.A.toNat 0, x220.getD e871.B.toNat 0, x220.getD e871.C.toNat 0, x220.getD e871.D.toNat 0, e871.Sign⟩ : GCrossing)]).length c890), _, b886, A889, c890, _, Own T_GCrossing 58 A889 c890 (fun _ => ()) (x842 ++ [(⟨x220.getD e871.A.toNat 0, x220.getD e871.B.toNat 0, x220.getD e871.C.toNat 0, x220.getD e871.D.toNat 0, e871.Sign⟩ : GCrossing)]), _, by exact hs.setAt 26 rfl, HS, f0, f1, f2, f3, f4, f5, f6, f7, f8, f9, f10, f11, f12, f13, f14, f15, f16, f17, f18, f19, f20, f21, f22, f23, f24, f25, fun _ => rfl, f27, o157_0, fun hh => (Bool.noConfusion ((hcl 28 (by decide) hh 26 (by decide)).symm.trans hb)), fun h => Bool.noConfusion h, fun _ => rfl, o166_0⟩
                | 27, _ =>
                 refine GO.at hs ?_
                 refine GO.fld (⟨b5, 0, none⟩) rfl rfl fl28_0 rfl rfl ?_
                 refine GO.fin (fun a hs => ?_)
                 exact ⟨_, _, _, _, _, _, _, _, _, _, _, _, _, _, _, _, _, _, _, _, _, _, _, _, _, _, _, (.pointer (some ⟨b5, 0, none⟩)), b886, A889, c890, _, _, _, by exact hs.setAt 27 rfl, HS, f0, f1, f2, f3, f4, f5, f6, f7, f8, f9, f10, f11, f12, f13, f14, f15, f16, f17, f18, f19, f20, f21, f22, f23, f24, f25, f26, fun _ => rfl, o157_0, o157_1, o162_0, o162_1, o166_0⟩
                | 28, _ =>
                 have hb26 : b 26 = true := hd 26 (by decide)
                 obtain rfl := f26 hb26
                 have hb27 : b 27 = true := hd 27 (by decide)
                 obtain rfl := f27 hb27
                 obtain rfl := o157_0 hb
                 refine GO.at hs ?_
                 refine GO.stBox (j := 3) (vs := [.slice A889 (x842 ++ [(⟨x220.getD e871.A.toNat 0, x220.getD e871.B.toNat 0, x220.getD e871.C.toNat 0, x220.getD e871.D.toNat 0, e871.Sign⟩ : GCrossing)]).length c890]) ([.slice A889 (x842 ++ [(⟨x220.getD e871.A.toNat 0, x220.getD e871.B.toNat 0, x220.getD e871.C.toNat 0, x220.getD e871.D.toNat 0, e871.Sign⟩ : GCrossing)]).length c890, .int .i64 x701]) HS rfl rfl rfl rfl rfl (htN na26 rfl) rfl rfl rfl ?_; intro wd892 HS
                 refine GO.fin (fun a hs => ?_)
                 exact ⟨_, _, _, _, _, _, _, _, _, _, _, _, _, _, _, _, _, _, _, _, _, _, _, _, _, _, _, _, b886, A889, c890, Box b5 28 [.slice A889 (x842 ++ [(⟨x220.getD e871.A.toNat 0, x220.getD e871.B.toNat 0, x220.getD e871.C.toNat 0, x220.getD e871.D.toNat 0, e871.Sign⟩ : GCrossing)]).length c890, .int .i64 x701], _, _, hs, HS, f0, f1, f2, f3, f4, f5, f6, f7, f8, f9, f10, f11, f12, f13, f14, f15, f16, f17, f18, f19, f20, f21, f22, f23, f24, f25, f26, f27, fun h => Bool.noConfusion h, fun _ => rfl, o162_0, o162_1, o166_0⟩
                | k + 29, hj => exact absurd hj (Nat.not_lt.2 (Nat.le_add_left 29 k))
               ·
                intro b a w hall
                refine exI fun Y1_0 => exI fun Y2_1 => exI fun Y3_2 => exI fun Y4_3 => exI fun Y5_4 => exI fun Y6_5 => exI fun Y7_6 => exI fun Y8_7 => exI fun Y9_8 => exI fun Y10_9 => exI fun Y11_10 => exI fun Y12_11 => exI fun Y13_12 => exI fun Y14_13 => exI fun Y15_14 => exI fun Y16_15 => exI fun Y17_16 => exI fun Y18_17 => exI fun Y19_18 => exI fun Y20_19 => exI fun Y21_20 => exI fun Y22_21 => exI fun Y23_22 => exI fun Y24_23 => exI fun Y25_24 => exI fun Y26_25 => exI fun Y27_26 => exI fun Y28_27 => exI fun b886 => exI fun A889 => exI fun c890 => exI fun O30_157 => exI fun O29_162 => exI fun O31_166 => anI fun hs => anI fun HS => anI fun f0 => anI fun f1 => anI fun f2 => anI fun f3 => anI fun f4 => anI fun f5 => anI fun f6 => anI fun f7 => anI fun f8 => anI fun f9 => anI fun f10 => anI fun f11 => anI fun f12 => anI fun f13 => anI fun f14 => anI fun f15 => anI fun f16 => anI fun f17 => anI fun f18 => anI fun f19 => anI fun f20 => anI fun f21 => anI fun f22 => anI fun f23 => anI fun f24 => anI fun f25 => anI fun f26 => anI fun f27 => anI fun o157_0 => anI fun o157_1 => anI fun o162_0 => anI fun o162_1 => fun o166_0 => ?_
                obtain rfl := f0 (hall 0 (by decide))
                obtain rfl := f1 (hall 1 (by decide))
                obtain rfl := f2 (hall 2 (by decide))
                obtain rfl := f3 (hall 3 (by decide))
                obtain rfl := f4 (hall 4 (by decide))
                obtain rfl := f5 (hall 5 (by decide))
                obtain rfl := f6 (hall 6 (by decide))
                obtain rfl := f7 (hall 7 (by decide))
                obtain rfl := f8 (hall 8 (by decide))
                obtain rfl := f9 (hall 9 (by decide))
                obtain rfl := f10 (hall 10 (by decide))
                obtain rfl := f11 (hall 11 (by decide))
                obtain rfl := f12 (hall 12 (by decide))
                obtain rfl := f13 (hall 13 (by decide))
                obtain rfl := f14 (hall 14 (by decide))
                obtain rfl := f15 (hall 15 (by decide))
                obtain rfl := f16 (hall 16 (by decide))
                obtain rfl := f17 (hall 17 (by decide))
                obtain rfl := f18 (hall 18 (by decide))
                obtain rfl := f19 (hall 19 (by decide))
                obtain rfl := f20 (hall 20 (by decide))
                obtain rfl := f21 (hall 21 (by decide))
                obtain rfl := f22 (hall 22 (by decide))
                obtain rfl := f23 (hall 23 (by decide))
                obtain rfl := f24 (hall 24 (by decide))
                obtain rfl := f25 (hall 25 (by decide))
                obtain rfl := f26 (hall 26 (by decide))
                obtain rfl := f27 (hall 27 (by decide))
                obtain rfl := o157_1 (hall 28 (by decide))
                obtain rfl := o162_1 (hall 26 (by decide))
                obtain rfl := o166_0 (hall 25 (by decide))
                refine G.at hs ?_
                refine G.blockEnd ?_
                refine G.region ?_
                refine GO.move rfl rfl rfl ?_
                refine GO.add rfl rfl rfl rfl ?_
                refine GO.assign rfl rfl rfl ?_
                refine GO.nil ?_
                refine G.again ?_
                refine G.weak ?_ (ih_l21 n_l21 (Nat.lt_succ_of_le (Nat.le_refl _)) (Nat.le_of_succ_le hm_l21) _ _ _ _ _ H (HS.pk 7 [1, 2, 3, 4, 5] rfl))
                exact ⟨rfl, rfl, rfl, rfl, rfl, rfl, trivial⟩
             ·
              refine G.noB rfl (decide_eq_false c869) ?_
              refine G.exit rfl ?_
              refine G.seq ?_
              refine G.region ?_
              refine GO.ldBoxA (j := 2) ([.slice A840 x842.length c841, .int .i64 x701]) HS rfl rfl rfl rfl ag28 rfl ?_
              refine GO.stBox (j := 1) (vs := [.slice A840 x842.length c841, .int .i64 x701]) ([.slice A840 x842.length c841, .int .i64 x701]) HS rfl rfl rfl rfl rfl (htA ag28) rfl rfl rfl ?_; intro wd893 HS
              refine GO.nil ?_
              obtain ⟨rfl, rfl⟩ := some2 H
              exact G.ret1 _ Try.func64 rfl (Res1.boxA (j := 1) (vs := [.slice A840 x842.length c841, .int .i64 x701]) HS rfl rfl rfl ag28) ⟨_, _, rfl, (HS.pk 5 [3] rfl)⟩
          replace HS := HS.nilRow T_GCrossing 58 (fun _ => ())
          refine G.weak ?_ (at_l21 n_l15 (Nat.le_refl _) _ _ _ _ _ H (HS.pk 6 [1, 2, 3, 0, 4] rfl))
          exact ⟨rfl, rfl, rfl, rfl, rfl, rfl, trivial⟩
      refine G.weak ?_ (at_l15 n_l1 (Nat.le_refl _) _ _ _ _ H HS)
      exact ⟨rfl, rfl, rfl, rfl, rfl, rfl, rfl, rfl, rfl, trivial⟩
  refine G.weak ?_ (at_l1 K (Nat.le_refl _) _ _ _ _ _ H (HS.pk 5 [4, 3, 2, 1, 0] rfl))
  exact ⟨rfl, rfl, rfl, rfl, rfl, rfl, rfl, rfl, rfl, rfl, trivial⟩

end Go.Proofs.Ytdafmbaeiefacaa
