/-
  The walks through the functions: a call comes to what its list function says.
-/
import Derived.Test.YtdafmbaeiefacaaAlF
import Derived.Test.YtdafmbaeiefacaaAlW2
set_option linter.unusedVariables false
set_option linter.unusedSimpArgs false
namespace Go.Proofs.Ytdafmbaeiefacaa
open Go.RowKit
set_option maxRecDepth 20000 in
set_option maxHeartbeats 40000000 in
theorem math_bits_Len64.calls {w0 w : World} {L : List HObj} {K : Nat} {x : Int} {r1 : Int} (HS : St w0 w (L)) (H : math_bits_Len64.f K x = some r1) :
    Calls Try.prog 192 #[.int .u64 x] w (math_bits_Len64.post w0 L x r1) := by
  unfold math_bits_Len64.f at H
  refine Calls.of_G Try.func192 rfl rfl rfl ?_
  refine G.seq ?_
  refine G.region ?_
  refine GO.assign rfl rfl rfl ?_
  refine GO.nil ?_
  refine G.seq ?_
  refine G.seq ?_
  refine G.region ?_
  refine GO.move rfl rfl rfl ?_
  refine GO.geq rfl rfl rfl rfl ?_
  refine GO.nil ?_
  refine G.nameT (fun k_j1 hk_j1 => ?_)
  have at_j1 : ∀ m_j1, m_j1 ≤ K → ∀ (x_2 : Int) (n_3 : Int) (w : World), math_bits_Len64.j1 K m_j1 x_2 n_3 = some r1 → St w0 w (L) → G Try.prog 192 25 [(0, .int .u64 x_2), (2, .int .i64 n_3)] k_j1 w (math_bits_Len64.post w0 L x r1) := by
   intro m_j1 hm_j1 x_2 n_3 w H HS
   cases m_j1 with
   | zero => rw [math_bits_Len64.j1] at H; cases H
   | succ n_j1 =>
    rw [math_bits_Len64.j1] at H
    subst hk_j1
    refine G.seq ?_
    refine G.seq ?_
    refine G.region ?_
    refine GO.move rfl rfl rfl ?_
    refine GO.geq rfl rfl rfl rfl ?_
    refine GO.nil ?_
    refine G.nameT (fun k_j2 hk_j2 => ?_)
    have at_j2 : ∀ m_j2, m_j2 ≤ n_j1 → ∀ (x_5 : Int) (n_6 : Int) (w : World), math_bits_Len64.j2 K m_j2 x_5 n_6 = some r1 → St w0 w (L) → G Try.prog 192 25 [(0, .int .u64 x_5), (2, .int .i64 n_6)] k_j2 w (math_bits_Len64.post w0 L x r1) := by
     intro m_j2 hm_j2 x_5 n_6 w H HS
     cases m_j2 with
     | zero => rw [math_bits_Len64.j2] at H; cases H
     | succ n_j2 =>
      rw [math_bits_Len64.j2] at H
      subst hk_j2
      refine G.seq ?_
      refine G.seq ?_
      refine G.region ?_
      refine GO.move rfl rfl rfl ?_
      refine GO.geq rfl rfl rfl rfl ?_
      refine GO.nil ?_
      refine G.nameT (fun k_j3 hk_j3 => ?_)
      have at_j3 : ∀ m_j3, m_j3 ≤ n_j2 → ∀ (x_8 : Int) (n_9 : Int) (w : World), math_bits_Len64.j3 K m_j3 x_8 n_9 = some r1 → St w0 w (L) → G Try.prog 192 25 [(0, .int .u64 x_8), (2, .int .i64 n_9)] k_j3 w (math_bits_Len64.post w0 L x r1) := by
       intro m_j3 hm_j3 x_8 n_9 w H HS
       cases m_j3 with
       | zero => rw [math_bits_Len64.j3] at H; cases H
       | succ n_j3 =>
        rw [math_bits_Len64.j3] at H
        subst hk_j3
        refine G.seq ?_
        obtain ⟨c10, H⟩ := ite_none H
        refine G.region ?_
        refine GO.move rfl rfl rfl ?_
        refine GO.move rfl rfl rfl ?_
        refine GO.conv rfl rfl Try.underlying170 Try.underlying5 rfl ?_
        refine GO.ixStr ([0, 1, 2, 2, 3, 3, 3, 3, 4, 4, 4, 4, 4, 4, 4, 4, 5, 5, 5, 5, 5, 5, 5, 5, 5, 5, 5, 5, 5, 5, 5, 5, 6, 6, 6, 6, 6, 6, 6, 6, 6, 6, 6, 6, 6, 6, 6, 6, 6, 6, 6, 6, 6, 6, 6, 6, 6, 6, 6, 6, 6, 6, 6, 6, 7, 7, 7, 7, 7, 7, 7, 7, 7, 7, 7, 7, 7, 7, 7, 7, 7, 7, 7, 7, 7, 7, 7, 7, 7, 7, 7, 7, 7, 7, 7, 7, 7, 7, 7, 7, 7, 7, 7, 7, 7, 7, 7, 7, 7, 7, 7, 7, 7, 7, 7, 7, 7, 7, 7, 7, 7, 7, 7, 7, 7, 7, 7, 7, 8, 8, 8, 8, 8, 8, 8, 8, 8, 8, 8, 8, 8, 8, 8, 8, 8, 8, 8, 8, 8, 8, 8, 8, 8, 8, 8, 8, 8, 8, 8, 8, 8, 8, 8, 8, 8, 8, 8, 8, 8, 8, 8, 8, 8, 8, 8, 8, 8, 8, 8, 8, 8, 8, 8, 8, 8, 8, 8, 8, 8, 8, 8, 8, 8, 8, 8, 8, 8, 8, 8, 8, 8, 8, 8, 8, 8, 8, 8, 8, 8, 8, 8, 8, 8, 8, 8, 8, 8, 8, 8, 8, 8, 8, 8, 8, 8, 8, 8, 8, 8, 8, 8, 8, 8, 8, 8, 8, 8, 8, 8, 8, 8, 8, 8, 8, 8, 8, 8, 8, 8, 8, 8, 8, 8, 8, 8, 8] : List Int) rfl rfl (by kernel_rfl) rfl Try.underlying9 c10.1 c10.2 rfl ?_
        refine GO.conv rfl rfl Try.underlying5 Try.underlying3 rfl ?_
        refine GO.add rfl rfl rfl rfl ?_
        refine GO.assign rfl rfl rfl ?_
        refine GO.nil ?_
        obtain rfl := Option.some.inj H
        exact G.ret1 _ Try.func192 rfl rfl ⟨rfl, HS⟩
      rcases ite_elim H with ⟨c11, H⟩ | ⟨c11, H⟩
      ·
       refine G.yesB rfl (decide_eq_true c11) ?_
       refine G.seq ?_
       refine G.region ?_
       refine GO.move rfl rfl rfl ?_
       refine GO.shr rfl rfl rfl (by decide) (by decide) rfl ?_
       refine GO.assign rfl rfl rfl ?_
       refine GO.nil ?_
       refine G.region ?_
       refine GO.move rfl rfl rfl ?_
       refine GO.add rfl rfl rfl rfl ?_
       refine GO.assign rfl rfl rfl ?_
       refine GO.nil ?_
       refine G.weak ?_ (at_j3 n_j2 (Nat.le_refl _) _ _ _ H HS)
       exact ⟨rfl, rfl, trivial⟩
      ·
       refine G.noB rfl (decide_eq_false c11) ?_
       refine G.skip ?_
       refine G.weak ?_ (at_j3 n_j2 (Nat.le_refl _) _ _ _ H HS)
       exact ⟨rfl, rfl, trivial⟩
    rcases ite_elim H with ⟨c12, H⟩ | ⟨c12, H⟩
    ·
     refine G.yesB rfl (decide_eq_true c12) ?_
     refine G.seq ?_
     refine G.region ?_
     refine GO.move rfl rfl rfl ?_
     refine GO.shr rfl rfl rfl (by decide) (by decide) rfl ?_
     refine GO.assign rfl rfl rfl ?_
     refine GO.nil ?_
     refine G.region ?_
     refine GO.move rfl rfl rfl ?_
     refine GO.add rfl rfl rfl rfl ?_
     refine GO.assign rfl rfl rfl ?_
     refine GO.nil ?_
     refine G.weak ?_ (at_j2 n_j1 (Nat.le_refl _) _ _ _ H HS)
     exact ⟨rfl, rfl, trivial⟩
    ·
     refine G.noB rfl (decide_eq_false c12) ?_
     refine G.skip ?_
     refine G.weak ?_ (at_j2 n_j1 (Nat.le_refl _) _ _ _ H HS)
     exact ⟨rfl, rfl, trivial⟩
  rcases ite_elim H with ⟨c13, H⟩ | ⟨c13, H⟩
  ·
   refine G.yesB rfl (decide_eq_true c13) ?_
   refine G.seq ?_
   refine G.region ?_
   refine GO.move rfl rfl rfl ?_
   refine GO.shr rfl rfl rfl (by decide) (by decide) rfl ?_
   refine GO.assign rfl rfl rfl ?_
   refine GO.nil ?_
   refine G.region ?_
   refine GO.assign rfl rfl rfl ?_
   refine GO.nil ?_
   refine G.weak ?_ (at_j1 K (Nat.le_refl _) _ _ _ H HS)
   exact ⟨rfl, rfl, trivial⟩
  ·
   refine G.noB rfl (decide_eq_false c13) ?_
   refine G.skip ?_
   refine G.weak ?_ (at_j1 K (Nat.le_refl _) _ _ _ H HS)
   exact ⟨rfl, rfl, trivial⟩

set_option maxRecDepth 20000 in
set_option maxHeartbeats 40000000 in
theorem math_bits_Len.calls {w0 w : World} {L : List HObj} {K : Nat} {x : Int} {r1 : Int} (HS : St w0 w (L)) (H : math_bits_Len.f K x = some r1) :
    Calls Try.prog 176 #[.int .u64 x] w (math_bits_Len.post w0 L x r1) := by
  unfold math_bits_Len.f at H
  refine Calls.of_G Try.func176 rfl rfl rfl ?_
  refine G.seq ?_
  refine G.region ?_
  refine GO.assign rfl rfl rfl ?_
  refine GO.nil ?_
  refine G.seq ?_
  refine G.noB rfl rfl ?_
  refine G.skip ?_
  refine G.seq ?_
  obtain ⟨t1, h2, H⟩ := Option.bind_eq_some_iff.1 H
  refine G.region ?_
  refine GO.move rfl rfl rfl ?_
  refine GO.fn rfl Try.func192 fok192.1 fok192.2 rfl rfl (math_bits_Len64.calls HS  h2) (fun _ wd3 ⟨h4, HS⟩ => ⟨_, h4, ?_⟩)
  refine GO.assign rfl rfl rfl ?_
  refine GO.nil ?_
  obtain rfl := Option.some.inj H
  exact G.ret1 _ Try.func176 rfl rfl ⟨rfl, HS⟩

set_option maxRecDepth 20000 in
set_option maxHeartbeats 40000000 in
theorem cmp_isNaN_int64.calls {w0 w : World} {L : List HObj} {x : Int} {r1 : Bool} (HS : St w0 w (L)) (H : cmp_isNaN_int64.f x = some r1) :
    Calls Try.prog 198 #[.int .i64 x] w (cmp_isNaN_int64.post w0 L x r1) := by
  unfold cmp_isNaN_int64.f at H
  refine Calls.of_G Try.func198 rfl rfl rfl ?_
  refine G.seq ?_
  refine G.region ?_
  refine GO.assign rfl rfl rfl ?_
  refine GO.nil ?_
  refine G.seq ?_
  refine G.region ?_
  refine GO.move rfl rfl rfl ?_
  refine GO.move rfl rfl rfl ?_
  refine GO.neq rfl rfl rfl rfl ?_
  refine GO.assign rfl rfl rfl ?_
  refine GO.nil ?_
  obtain rfl := Option.some.inj H
  exact G.ret1 _ Try.func198 rfl rfl ⟨rfl, HS⟩

set_option maxRecDepth 20000 in
set_option maxHeartbeats 40000000 in
theorem cmp_Less_int64.calls {w0 w : World} {L : List HObj} {x : Int} {y : Int} {r1 : Bool} (HS : St w0 w (L)) (H : cmp_Less_int64.f x y = some r1) :
    Calls Try.prog 188 #[.int .i64 x, .int .i64 y] w (cmp_Less_int64.post w0 L x y r1) := by
  unfold cmp_Less_int64.f at H
  refine Calls.of_G Try.func188 rfl rfl rfl ?_
  refine G.seq ?_
  refine G.region ?_
  refine GO.assign rfl rfl rfl ?_
  refine GO.nil ?_
  refine G.seq ?_
  obtain ⟨t1, h2, H⟩ := Option.bind_eq_some_iff.1 H
  rcases ite_elim H with ⟨c5, H⟩ | ⟨c5, H⟩
  ·
   obtain ⟨t6, h7, H⟩ := Option.bind_eq_some_iff.1 H
   rcases ite_elim H with ⟨c10, H⟩ | ⟨c10, H⟩
   ·
    refine G.region ?_
    refine GO.move rfl rfl rfl ?_
    refine GO.fn rfl Try.func198 fok198.1 fok198.2 rfl rfl (cmp_isNaN_int64.calls HS  h2) (fun _ wd3 ⟨h4, HS⟩ => ⟨_, h4, ?_⟩)
    refine GO.move rfl rfl rfl ?_
    refine GO.known (t := 7) rfl c5 ?_
    refine GO.on rfl rfl rfl rfl ?_
    refine GO.move rfl rfl rfl ?_
    refine GO.back ?_
    refine GO.on rfl rfl rfl rfl ?_
    refine GO.fn rfl Try.func198 fok198.1 fok198.2 rfl rfl (cmp_isNaN_int64.calls HS  h7) (fun _ wd8 ⟨h9, HS⟩ => ⟨_, h9, ?_⟩)
    refine GO.back ?_
    refine GO.on rfl rfl rfl rfl ?_
    refine GO.not rfl rfl rfl ?_
    refine GO.back ?_
    refine GO.pickT rfl rfl rfl rfl rfl ?_
    refine GO.move rfl rfl rfl ?_
    refine GO.known (t := 12) rfl (congrArg Bool.not c10) ?_
    refine GO.on rfl rfl rfl rfl ?_
    refine GO.move rfl rfl rfl ?_
    refine GO.back ?_
    refine GO.on rfl rfl rfl rfl ?_
    refine GO.move rfl rfl rfl ?_
    refine GO.back ?_
    refine GO.on rfl rfl rfl rfl ?_
    refine GO.lss rfl rfl rfl rfl ?_
    refine GO.back ?_
    refine GO.pickF rfl rfl rfl rfl rfl ?_
    refine GO.assign rfl rfl rfl ?_
    refine GO.nil ?_
    obtain rfl := Option.some.inj H
    exact G.ret1 _ Try.func188 rfl rfl ⟨rfl, HS⟩
   ·
    refine G.region ?_
    refine GO.move rfl rfl rfl ?_
    refine GO.fn rfl Try.func198 fok198.1 fok198.2 rfl rfl (cmp_isNaN_int64.calls HS  h2) (fun _ wd3 ⟨h4, HS⟩ => ⟨_, h4, ?_⟩)
    refine GO.move rfl rfl rfl ?_
    refine GO.known (t := 7) rfl c5 ?_
    refine GO.on rfl rfl rfl rfl ?_
    refine GO.move rfl rfl rfl ?_
    refine GO.back ?_
    refine GO.on rfl rfl rfl rfl ?_
    refine GO.fn rfl Try.func198 fok198.1 fok198.2 rfl rfl (cmp_isNaN_int64.calls HS  h7) (fun _ wd8 ⟨h9, HS⟩ => ⟨_, h9, ?_⟩)
    refine GO.back ?_
    refine GO.on rfl rfl rfl rfl ?_
    refine GO.not rfl rfl rfl ?_
    refine GO.back ?_
    refine GO.pickT rfl rfl rfl rfl rfl ?_
    refine GO.move rfl rfl rfl ?_
    refine GO.known (t := 12) rfl (congrArg Bool.not (bnot_of c10)) ?_
    refine GO.off rfl rfl rfl rfl rfl rfl ?_
    refine GO.off rfl rfl rfl rfl rfl rfl ?_
    refine GO.off rfl rfl rfl rfl rfl rfl ?_
    refine GO.pickT rfl rfl rfl rfl rfl ?_
    refine GO.assign rfl rfl rfl ?_
    refine GO.nil ?_
    obtain rfl := Option.some.inj H
    exact G.ret1 _ Try.func188 rfl rfl ⟨rfl, HS⟩
  ·
   refine G.region ?_
   refine GO.move rfl rfl rfl ?_
   refine GO.fn rfl Try.func198 fok198.1 fok198.2 rfl rfl (cmp_isNaN_int64.calls HS  h2) (fun _ wd3 ⟨h4, HS⟩ => ⟨_, h4, ?_⟩)
   refine GO.move rfl rfl rfl ?_
   refine GO.known (t := 7) rfl (bnot_of c5) ?_
   refine GO.off rfl rfl rfl rfl rfl rfl ?_
   refine GO.off rfl rfl rfl rfl rfl rfl ?_
   refine GO.off rfl rfl rfl rfl rfl rfl ?_
   refine GO.pickF rfl rfl rfl rfl rfl ?_
   refine GO.move rfl rfl rfl ?_
   refine GO.on rfl rfl rfl rfl ?_
   refine GO.move rfl rfl rfl ?_
   refine GO.back ?_
   refine GO.on rfl rfl rfl rfl ?_
   refine GO.move rfl rfl rfl ?_
   refine GO.back ?_
   refine GO.on rfl rfl rfl rfl ?_
   refine GO.lss rfl rfl rfl rfl ?_
   refine GO.back ?_
   refine GO.pickF rfl rfl rfl rfl rfl ?_
   refine GO.assign rfl rfl rfl ?_
   refine GO.nil ?_
   obtain rfl := Option.some.inj H
   exact G.ret1 _ Try.func188 rfl rfl ⟨rfl, HS⟩

set_option maxRecDepth 20000 in
set_option maxHeartbeats 40000000 in
theorem slices_insertionSortOrdered_int64.calls {w0 w : World} {L : List HObj} {K : Nat} {data : List Int} {a_ : Int} {b_ : Int} {A_data : Option Addr} {c_data : Nat} {u_data : TypeId} {r1 : List Int} (HS : St w0 w (Own (TInt .i64) u_data A_data c_data (fun _ => ()) data :: L)) (H : slices_insertionSortOrdered_int64.f K data a_ b_ = some r1) :
    Calls Try.prog 182 #[.slice A_data data.length c_data, .int .i64 a_, .int .i64 b_] w (slices_insertionSortOrdered_int64.post w0 L data a_ b_ A_data c_data u_data r1) := by
  unfold slices_insertionSortOrdered_int64.f at H
  refine Calls.of_G Try.func182 rfl rfl rfl ?_
  refine G.seq ?_
  refine G.region ?_
  refine GO.move rfl rfl rfl ?_
  refine GO.add rfl rfl rfl rfl ?_
  refine GO.assign rfl rfl rfl ?_
  refine GO.nil ?_
  refine G.block ?_
  refine G.loop ?_
  refine G.name (fun k_l1 hk_l1 => ?_)
  have at_l1 : ∀ m_l1, m_l1 ≤ K → ∀ (x76 : List Int) (i_77 : Int) (w : World), slices_insertionSortOrdered_int64.l1 K m_l1 a_ b_ x76 i_77 = some r1 → St w0 w (Own (TInt .i64) u_data A_data c_data (fun _ => ()) x76 :: L) → G Try.prog 182 49 [(0, .slice A_data x76.length c_data), (1, .int .i64 a_), (2, .int .i64 b_), (6, .int .i64 i_77)] k_l1 w (slices_insertionSortOrdered_int64.post w0 L data a_ b_ A_data c_data u_data r1) := by
   intro m_l1
   induction m_l1 using Nat.strongRecOn with
   | _ m_l1 ih_l1 =>
    intro hm_l1 x76 i_77 w H HS
    cases m_l1 with
    | zero => rw [slices_insertionSortOrdered_int64.l1] at H; cases H
    | succ n_l1 =>
     rw [slices_insertionSortOrdered_int64.l1] at H
     subst hk_l1
     refine G.seq ?_
     refine G.seq ?_
     refine G.region ?_
     refine GO.move rfl rfl rfl ?_
     refine GO.move rfl rfl rfl ?_
     refine GO.lss rfl rfl rfl rfl ?_
     refine GO.nil ?_
     rcases ite_elim H with ⟨c153, H⟩ | ⟨c153, H⟩
     ·
      refine G.yesB rfl (decide_eq_true c153) ?_
      refine G.skip ?_
      refine G.seq ?_
      refine G.block ?_
      refine G.seq ?_
      refine G.region ?_
      refine GO.move rfl rfl rfl ?_
      refine GO.assign rfl rfl rfl ?_
      refine GO.nil ?_
      refine G.block ?_
      refine G.loop ?_
      refine G.name (fun k_l4 hk_l4 => ?_)
      have at_l4 : ∀ m_l4, m_l4 ≤ n_l1 → ∀ (x178 : List Int) (j_179 : Int) (w : World), slices_insertionSortOrdered_int64.l4 K m_l4 a_ b_ i_77 x178 j_179 = some r1 → St w0 w (Own (TInt .i64) u_data A_data c_data (fun _ => ()) x178 :: L) → G Try.prog 182 49 [(0, .slice A_data x178.length c_data), (1, .int .i64 a_), (2, .int .i64 b_), (6, .int .i64 i_77), (7, .int .i64 j_179)] k_l4 w (slices_insertionSortOrdered_int64.post w0 L data a_ b_ A_data c_data u_data r1) := by
       intro m_l4
       induction m_l4 using Nat.strongRecOn with
       | _ m_l4 ih_l4 =>
        intro hm_l4 x178 j_179 w H HS
        cases m_l4 with
        | zero => rw [slices_insertionSortOrdered_int64.l4] at H; cases H
        | succ n_l4 =>
         rw [slices_insertionSortOrdered_int64.l4] at H
         subst hk_l4
         refine G.seq ?_
         refine G.seq ?_
         rcases ite_elim H with ⟨c211, H⟩ | ⟨c211, H⟩
         ·
          obtain ⟨c212, H⟩ := ite_none H
          have h213 := ((RdIn.own (j := 0) rfl) _ HS).2.2.1
          obtain ⟨c214, H⟩ := ite_none H
          have h215 := ((RdIn.own (j := 0) rfl) _ HS).2.2.1
          obtain ⟨t216, h217, H⟩ := Option.bind_eq_some_iff.1 H
          refine G.regionAny mixed (by decide) (fun b a w => ∃ (Y1_0 : Value) (Y2_1 : Value) (Y3_2 : Value) (Y4_3 : Value) (Y5_4 : Value) (Y6_5 : Value) (Y7_6 : Value) (Y8_7 : Value) (Y9_8 : Value) (Y10_9 : Value) (Y11_10 : Value) (Y12_11 : Value) (Y13_12 : Value) (Y14_13 : Value) (Y15_14 : Value), Sat 49 [(16, Y1_0), (17, Y2_1), (18, Y3_2), (19, Y4_3), (20, Y5_4), (21, Y6_5), (22, Y7_6), (23, Y8_7), (24, Y9_8), (25, Y10_9), (26, Y11_10), (27, Y12_11), (28, Y13_12), (29, Y14_13), (30, Y15_14), (0, .slice A_data x178.length c_data), (1, .int .i64 a_), (2, .int .i64 b_), (6, .int .i64 i_77), (7, .int .i64 j_179)] a ∧ St w0 w (Own (TInt .i64) u_data A_data c_data (fun _ => ()) x178 :: L) ∧ (b 0 = true → Y1_0 = (.int .i64 j_179)) ∧ (b 1 = true → Y2_1 = (.int .i64 a_)) ∧ (b 2 = true → Y3_2 = (.bool (decide (a_ < j_179)))) ∧ (b 3 = true → Y4_3 = (.bool true)) ∧ (b 4 = true → Y5_4 = (.slice A_data x178.length c_data)) ∧ (b 5 = true → Y6_5 = (.int .i64 j_179)) ∧ (b 6 = true → Y7_6 = (.pointer (some (ea A_data (j_179.toNat * 1))))) ∧ (b 7 = true → Y8_7 = (.int .i64 (x178.getD j_179.toNat 0))) ∧ (b 8 = true → Y9_8 = (.slice A_data x178.length c_data)) ∧ (b 9 = true → Y10_9 = (.int .i64 j_179)) ∧ (b 10 = true → Y11_10 = (.int .i64 (w64 (j_179 - 1)))) ∧ (b 11 = true → Y12_11 = (.pointer (some (ea A_data (((w64 (j_179 - 1)).toNat) * 1))))) ∧ (b 12 = true → Y13_12 = (.int .i64 (x178.getD ((w64 (j_179 - 1)).toNat) 0))) ∧ (b 13 = true → Y14_13 = (.bool t216)) ∧ (b 14 = true → Y15_14 = (.bool t216))) ?_ ?_ ?_
          ·
           intro a hs
           obtain ⟨Y1_0, hs⟩ := hs.ext (d := 16) rfl
           obtain ⟨Y2_1, hs⟩ := hs.ext (d := 17) rfl
           obtain ⟨Y3_2, hs⟩ := hs.ext (d := 18) rfl
           obtain ⟨Y4_3, hs⟩ := hs.ext (d := 19) rfl
           obtain ⟨Y5_4, hs⟩ := hs.ext (d := 20) rfl
           obtain ⟨Y6_5, hs⟩ := hs.ext (d := 21) rfl
           obtain ⟨Y7_6, hs⟩ := hs.ext (d := 22) rfl
           obtain ⟨Y8_7, hs⟩ := hs.ext (d := 23) rfl
           obtain ⟨Y9_8, hs⟩ := hs.ext (d := 24) rfl
           obtain ⟨Y10_9, hs⟩ := hs.ext (d := 25) rfl
           obtain ⟨Y11_10, hs⟩ := hs.ext (d := 26) rfl
           obtain ⟨Y12_11, hs⟩ := hs.ext (d := 27) rfl
           obtain ⟨Y13_12, hs⟩ := hs.ext (d := 28) rfl
           obtain ⟨Y14_13, hs⟩ := hs.ext (d := 29) rfl
           obtain ⟨Y15_14, hs⟩ := hs.ext (d := 30) rfl
           exact ⟨Y1_0, Y2_1, Y3_2, Y4_3, Y5_4, Y6_5, Y7_6, Y8_7, Y9_8, Y10_9, Y11_10, Y12_11, Y13_12, Y14_13, Y15_14, hs.weak ⟨rfl, rfl, rfl, rfl, rfl, rfl, rfl, rfl, rfl, rfl, rfl, rfl, rfl, rfl, rfl, rfl, rfl, rfl, rfl, rfl, trivial⟩, (HS.drew.pk 1 [0] rfl), fun h => Bool.noConfusion h, fun h => Bool.noConfusion h, fun h => Bool.noConfusion h, fun h => Bool.noConfusion h, fun h => Bool.noConfusion h, fun h => Bool.noConfusion h, fun h => Bool.noConfusion h, fun h => Bool.noConfusion h, fun h => Bool.noConfusion h, fun h => Bool.noConfusion h, fun h => Bool.noConfusion h, fun h => Bool.noConfusion h, fun h => Bool.noConfusion h, fun h => Bool.noConfusion h, fun h => Bool.noConfusion h⟩
          ·
           intro j hj b a w
           refine exI fun Y1_0 => exI fun Y2_1 => exI fun Y3_2 => exI fun Y4_3 => exI fun Y5_4 => exI fun Y6_5 => exI fun Y7_6 => exI fun Y8_7 => exI fun Y9_8 => exI fun Y10_9 => exI fun Y11_10 => exI fun Y12_11 => exI fun Y13_12 => exI fun Y14_13 => exI fun Y15_14 => anI fun hs => anI fun HS => anI fun f0 => anI fun f1 => anI fun f2 => anI fun f3 => anI fun f4 => anI fun f5 => anI fun f6 => anI fun f7 => anI fun f8 => anI fun f9 => anI fun f10 => anI fun f11 => anI fun f12 => anI fun f13 => fun f14 hb hd hcl => ?_
           match j, hj with
           | 0, _ =>
            refine GO.at hs ?_
            refine GO.move rfl rfl rfl ?_
            refine GO.fin (fun a hs => ?_)
            exact ⟨(.int .i64 j_179), _, _, _, _, _, _, _, _, _, _, _, _, _, _, by exact hs.setAt 0 rfl, HS, fun _ => rfl, f1, f2, f3, f4, f5, f6, f7, f8, f9, f10, f11, f12, f13, f14⟩
           | 1, _ =>
            refine GO.at hs ?_
            refine GO.move rfl rfl rfl ?_
            refine GO.fin (fun a hs => ?_)
            exact ⟨_, (.int .i64 a_), _, _, _, _, _, _, _, _, _, _, _, _, _, by exact hs.setAt 1 rfl, HS, f0, fun _ => rfl, f2, f3, f4, f5, f6, f7, f8, f9, f10, f11, f12, f13, f14⟩
           | 2, _ =>
            have hb0 : b 0 = true := hd 0 (by decide)
            obtain rfl := f0 hb0
            have hb1 : b 1 = true := hd 1 (by decide)
            obtain rfl := f1 hb1
            refine GO.at hs ?_
            refine GO.gtr rfl rfl rfl rfl ?_
            refine GO.fin (fun a hs => ?_)
            exact ⟨_, _, (.bool (decide (a_ < j_179))), _, _, _, _, _, _, _, _, _, _, _, _, by exact hs.setAt 2 rfl, HS, f0, f1, fun _ => rfl, f3, f4, f5, f6, f7, f8, f9, f10, f11, f12, f13, f14⟩
           | 3, _ =>
            have hb2 : b 2 = true := hd 2 (by decide)
            obtain rfl := f2 hb2
            refine GO.at hs ?_
            refine GO.move rfl rfl rfl ?_
            refine GO.known (t := 19) rfl (decide_eq_true c211) ?_
            refine GO.fin (fun a hs => ?_)
            exact ⟨_, _, _, (.bool true), _, _, _, _, _, _, _, _, _, _, _, hs.weak ⟨rfl, rfl, rfl, rfl, rfl, rfl, rfl, rfl, rfl, rfl, rfl, rfl, rfl, rfl, rfl, rfl, rfl, rfl, rfl, rfl, trivial⟩, HS, f0, f1, f2, fun _ => rfl, f4, f5, f6, f7, f8, f9, f10, f11, f12, f13, f14⟩
           | 4, _ =>
            have hb3 : b 3 = true := hd 3 (by decide)
            obtain rfl := f3 hb3
            refine GO.at hs ?_
            refine GO.on rfl rfl rfl rfl ?_
            refine GO.move rfl rfl rfl ?_
            refine GO.back ?_
            refine GO.fin (fun a hs => ?_)
            exact ⟨_, _, _, _, (.slice A_data x178.length c_data), _, _, _, _, _, _, _, _, _, _, by exact hs.setAt 4 rfl, HS, f0, f1, f2, f3, fun _ => rfl, f5, f6, f7, f8, f9, f10, f11, f12, f13, f14⟩
           | 5, _ =>
            have hb3 : b 3 = true := hd 3 (by decide)
            obtain rfl := f3 hb3
            refine GO.at hs ?_
            refine GO.on rfl rfl rfl rfl ?_
            refine GO.move rfl rfl rfl ?_
            refine GO.back ?_
            refine GO.fin (fun a hs => ?_)
            exact ⟨_, _, _, _, _, (.int .i64 j_179), _, _, _, _, _, _, _, _, _, by exact hs.setAt 5 rfl, HS, f0, f1, f2, f3, f4, fun _ => rfl, f6, f7, f8, f9, f10, f11, f12, f13, f14⟩
           | 6, _ =>
            have hb3 : b 3 = true := hd 3 (by decide)
            obtain rfl := f3 hb3
            have hb4 : b 4 = true := hd 4 (by decide)
            obtain rfl := f4 hb4
            have hb5 : b 5 = true := hd 5 (by decide)
            obtain rfl := f5 hb5
            refine GO.at hs ?_
            refine GO.on rfl rfl rfl rfl ?_
            refine GO.ix rfl rfl rfl Try.underlying43 sz2 h213 c212.1 c212.2 rfl ?_
            refine GO.back ?_
            refine GO.fin (fun a hs => ?_)
            exact ⟨_, _, _, _, _, _, (.pointer (some (ea A_data (j_179.toNat * 1)))), _, _, _, _, _, _, _, _, by exact hs.setAt 6 rfl, HS, f0, f1, f2, f3, f4, f5, fun _ => rfl, f7, f8, f9, f10, f11, f12, f13, f14⟩
           | 7, _ =>
            have hb3 : b 3 = true := hd 3 (by decide)
            obtain rfl := f3 hb3
            have hb6 : b 6 = true := hd 6 (by decide)
            obtain rfl := f6 hb6
            refine GO.at hs ?_
            refine GO.on rfl rfl rfl rfl ?_
            refine GO.ldRd (T := (TInt .i64)) (n := j_179.toNat) (o := 0) HS (RdIn.own (j := 0) rfl) rfl rfl (getD_some (d := 0) (ltN c212)) rfl rfl na2 rfl ?_
            refine GO.back ?_
            refine GO.fin (fun a hs => ?_)
            exact ⟨_, _, _, _, _, _, _, (.int .i64 (x178.getD j_179.toNat 0)), _, _, _, _, _, _, _, by exact hs.setAt 7 rfl, HS, f0, f1, f2, f3, f4, f5, f6, fun _ => rfl, f8, f9, f10, f11, f12, f13, f14⟩
           | 8, _ =>
            have hb3 : b 3 = true := hd 3 (by decide)
            obtain rfl := f3 hb3
            refine GO.at hs ?_
            refine GO.on rfl rfl rfl rfl ?_
            refine GO.move rfl rfl rfl ?_
            refine GO.back ?_
            refine GO.fin (fun a hs => ?_)
            exact ⟨_, _, _, _, _, _, _, _, (.slice A_data x178.length c_data), _, _, _, _, _, _, by exact hs.setAt 8 rfl, HS, f0, f1, f2, f3, f4, f5, f6, f7, fun _ => rfl, f9, f10, f11, f12, f13, f14⟩
           | 9, _ =>
            have hb3 : b 3 = true := hd 3 (by decide)
            obtain rfl := f3 hb3
            refine GO.at hs ?_
            refine GO.on rfl rfl rfl rfl ?_
            refine GO.move rfl rfl rfl ?_
            refine GO.back ?_
            refine GO.fin (fun a hs => ?_)
            exact ⟨_, _, _, _, _, _, _, _, _, (.int .i64 j_179), _, _, _, _, _, by exact hs.setAt 9 rfl, HS, f0, f1, f2, f3, f4, f5, f6, f7, f8, fun _ => rfl, f10, f11, f12, f13, f14⟩
           | 10, _ =>
            have hb3 : b 3 = true := hd 3 (by decide)
            obtain rfl := f3 hb3
            have hb9 : b 9 = true := hd 9 (by decide)
            obtain rfl := f9 hb9
            refine GO.at hs ?_
            refine GO.on rfl rfl rfl rfl ?_
            refine GO.sub rfl rfl rfl rfl ?_
            refine GO.back ?_
            refine GO.fin (fun a hs => ?_)
            exact ⟨_, _, _, _, _, _, _, _, _, _, (.int .i64 (w64 (j_179 - 1))), _, _, _, _, by exact hs.setAt 10 rfl, HS, f0, f1, f2, f3, f4, f5, f6, f7, f8, f9, fun _ => rfl, f11, f12, f13, f14⟩
           | 11, _ =>
            have hb3 : b 3 = true := hd 3 (by decide)
            obtain rfl := f3 hb3
            have hb8 : b 8 = true := hd 8 (by decide)
            obtain rfl := f8 hb8
            have hb10 : b 10 = true := hd 10 (by decide)
            obtain rfl := f10 hb10
            refine GO.at hs ?_
            refine GO.on rfl rfl rfl rfl ?_
            refine GO.ix rfl rfl rfl Try.underlying43 sz2 h215 c214.1 c214.2 rfl ?_
            refine GO.back ?_
            refine GO.fin (fun a hs => ?_)
            exact ⟨_, _, _, _, _, _, _, _, _, _, _, (.pointer (some (ea A_data (((w64 (j_179 - 1)).toNat) * 1)))), _, _, _, by exact hs.setAt 11 rfl, HS, f0, f1, f2, f3, f4, f5, f6, f7, f8, f9, f10, fun _ => rfl, f12, f13, f14⟩
           | 12, _ =>
            have hb3 : b 3 = true := hd 3 (by decide)
            obtain rfl := f3 hb3
            have hb11 : b 11 = true := hd 11 (by decide)
            obtain rfl := f11 hb11
            refine GO.at hs ?_
            refine GO.on rfl rfl rfl rfl ?_
            refine GO.ldRd (T := (TInt .i64)) (n := (w64 (j_179 - 1)).toNat) (o := 0) HS (RdIn.own (j := 0) rfl) rfl rfl (getD_some (d := 0) (ltN c214)) rfl rfl na2 rfl ?_
            refine GO.back ?_
            refine GO.fin (fun a hs => ?_)
            exact ⟨_, _, _, _, _, _, _, _, _, _, _, _, (.int .i64 (x178.getD ((w64 (j_179 - 1)).toNat) 0)), _, _, by exact hs.setAt 12 rfl, HS, f0, f1, f2, f3, f4, f5, f6, f7, f8, f9, f10, f11, fun _ => rfl, f13, f14⟩
           | 13, _ =>
            have hb3 : b 3 = true := hd 3 (by decide)
            obtain rfl := f3 hb3
            have hb7 : b 7 = true := hd 7 (by decide)
            obtain rfl := f7 hb7
            have hb12 : b 12 = true := hd 12 (by decide)
            obtain rfl := f12 hb12
            refine GO.at hs ?_
            refine GO.on rfl rfl rfl rfl ?_
            refine GO.fn rfl Try.func188 fok188.1 fok188.2 rfl rfl (cmp_Less_int64.calls HS  h217) (fun _ wd218 ⟨h219, HS⟩ => ⟨_, h219, ?_⟩)
            refine GO.back ?_
            refine GO.fin (fun a hs => ?_)
            exact ⟨_, _, _, _, _, _, _, _, _, _, _, _, _, (.bool t216), _, by exact hs.setAt 13 rfl, HS, f0, f1, f2, f3, f4, f5, f6, f7, f8, f9, f10, f11, f12, fun _ => rfl, f14⟩
           | 14, _ =>
            have hb3 : b 3 = true := hd 3 (by decide)
            obtain rfl := f3 hb3
            have hb13 : b 13 = true := hd 13 (by decide)
            obtain rfl := f13 hb13
            refine GO.at hs ?_
            refine GO.pickT rfl rfl rfl rfl rfl ?_
            refine GO.fin (fun a hs => ?_)
            exact ⟨_, _, _, _, _, _, _, _, _, _, _, _, _, _, (.bool t216), by exact hs.setAt 14 rfl, HS, f0, f1, f2, f3, f4, f5, f6, f7, f8, f9, f10, f11, f12, f13, fun _ => rfl⟩
           | k + 15, hj => exact absurd hj (Nat.not_lt.2 (Nat.le_add_left 15 k))
          ·
           intro b a w hall
           refine exI fun Y1_0 => exI fun Y2_1 => exI fun Y3_2 => exI fun Y4_3 => exI fun Y5_4 => exI fun Y6_5 => exI fun Y7_6 => exI fun Y8_7 => exI fun Y9_8 => exI fun Y10_9 => exI fun Y11_10 => exI fun Y12_11 => exI fun Y13_12 => exI fun Y14_13 => exI fun Y15_14 => anI fun hs => anI fun HS => anI fun f0 => anI fun f1 => anI fun f2 => anI fun f3 => anI fun f4 => anI fun f5 => anI fun f6 => anI fun f7 => anI fun f8 => anI fun f9 => anI fun f10 => anI fun f11 => anI fun f12 => anI fun f13 => fun f14 => ?_
           obtain rfl := f0 (hall 0 (by decide))
           obtain rfl := f1 (hall 1 (by decide))
           obtain rfl := f2 (hall 2 (by decide))
           obtain rfl := f3 (hall 3 (by decide))
           obtain rfl := f4 (hall 4 (by decide))
           obtain rfl := f5 (hall 5 (by decide))
           obtain rfl := f6 (hall 6 (by decide))
           obtain rfl := f7 (hall 7 (by decide))
           obtain rfl := f8 (hall 8 (by decide))
           obtain rfl := f9 (hall 9 (by decide))
           obtain rfl := f10 (hall 10 (by decide))
           obtain rfl := f11 (hall 11 (by decide))
           obtain rfl := f12 (hall 12 (by decide))
           obtain rfl := f13 (hall 13 (by decide))
           obtain rfl := f14 (hall 14 (by decide))
           refine G.at hs ?_
           rcases ite_elim H with ⟨c220, H⟩ | ⟨c220, H⟩
           ·
            refine G.yesB rfl c220 ?_
            refine G.skip ?_
            refine G.seq ?_
            refine G.block ?_
            have h221 := ((RdIn.own (j := 0) rfl) _ HS).2.2.1
            have h222 := ((RdIn.own (j := 0) rfl) _ HS).2.2.1
            have h223 := ((RdIn.own (j := 0) rfl) _ HS).2.2.1
            have h225 := ((RdIn.own (j := 0) rfl) _ HS).2.2.1
            obtain ⟨c227, H⟩ := ite_none H
            refine G.regionAny mixed (by decide) (fun b a w => ∃ (Y16_0 : Value) (Y17_1 : Value) (Y18_2 : Value) (Y19_3 : Value) (Y20_4 : Value) (Y21_5 : Value) (Y22_6 : Value) (Y23_7 : Value) (Y24_8 : Value) (Y25_9 : Value) (Y26_10 : Value) (Y27_11 : Value) (Y28_12 : Value) (Y29_13 : Value) (Y30_14 : Value) (Y31_16 : Value) (O32_1 : HObj), Sat 49 [(33, Y16_0), (34, Y17_1), (35, Y18_2), (36, Y19_3), (37, Y20_4), (38, Y21_5), (39, Y22_6), (40, Y23_7), (41, Y24_8), (42, Y25_9), (43, Y26_10), (44, Y27_11), (45, Y28_12), (46, Y29_13), (47, Y30_14), (48, Y31_16), (0, .slice A_data x178.length c_data), (1, .int .i64 a_), (2, .int .i64 b_), (6, .int .i64 i_77), (7, .int .i64 j_179), (20, .slice A_data x178.length c_data), (21, .int .i64 j_179), (22, .pointer (some (ea A_data (j_179.toNat * 1)))), (23, .int .i64 (x178.getD j_179.toNat 0)), (24, .slice A_data x178.length c_data), (25, .int .i64 j_179), (26, .int .i64 (w64 (j_179 - 1))), (27, .pointer (some (ea A_data (((w64 (j_179 - 1)).toNat) * 1)))), (28, .int .i64 (x178.getD ((w64 (j_179 - 1)).toNat) 0)), (29, .bool t216)] a ∧ St w0 w (O32_1 :: L) ∧ (b 0 = true → Y16_0 = (.slice A_data x178.length c_data)) ∧ (b 1 = true → Y17_1 = (.int .i64 j_179)) ∧ (b 2 = true → Y18_2 = (.slice A_data x178.length c_data)) ∧ (b 3 = true → Y19_3 = (.int .i64 j_179)) ∧ (b 4 = true → Y20_4 = (.int .i64 (w64 (j_179 - 1)))) ∧ (b 5 = true → Y21_5 = (.slice A_data x178.length c_data)) ∧ (b 6 = true → Y22_6 = (.int .i64 j_179)) ∧ (b 7 = true → Y23_7 = (.int .i64 (w64 (j_179 - 1)))) ∧ (b 8 = true → Y24_8 = (.pointer (some (ea A_data (((w64 (j_179 - 1)).toNat) * 1))))) ∧ (b 9 = true → Y25_9 = (.int .i64 (x178.getD ((w64 (j_179 - 1)).toNat) 0))) ∧ (b 10 = true → Y26_10 = (.slice A_data x178.length c_data)) ∧ (b 11 = true → Y27_11 = (.int .i64 j_179)) ∧ (b 12 = true → Y28_12 = (.pointer (some (ea A_data (j_179.toNat * 1))))) ∧ (b 13 = true → Y29_13 = (.int .i64 (x178.getD j_179.toNat 0))) ∧ (b 14 = true → Y30_14 = (.pointer (some (ea A_data (j_179.toNat * 1))))) ∧ (b 16 = true → Y31_16 = (.pointer (some (ea A_data (((w64 (j_179 - 1)).toNat) * 1))))) ∧ (b 15 = false → O32_1 = Own (TInt .i64) u_data A_data c_data (fun _ => ()) x178) ∧ (b 15 = true → b 17 = false → O32_1 = Own (TInt .i64) u_data A_data c_data (fun _ => ()) (x178.set j_179.toNat (x178.getD ((w64 (j_179 - 1)).toNat) 0))) ∧ (b 17 = true → O32_1 = Own (TInt .i64) u_data A_data c_data (fun _ => ()) ((x178.set j_179.toNat (x178.getD ((w64 (j_179 - 1)).toNat) 0)).set ((w64 (j_179 - 1)).toNat) (x178.getD j_179.toNat 0)))) ?_ ?_ ?_
            ·
             intro a hs
             obtain ⟨Y16_0, hs⟩ := hs.ext (d := 33) rfl
             obtain ⟨Y17_1, hs⟩ := hs.ext (d := 34) rfl
             obtain ⟨Y18_2, hs⟩ := hs.ext (d := 35) rfl
             obtain ⟨Y19_3, hs⟩ := hs.ext (d := 36) rfl
             obtain ⟨Y20_4, hs⟩ := hs.ext (d := 37) rfl
             obtain ⟨Y21_5, hs⟩ := hs.ext (d := 38) rfl
             obtain ⟨Y22_6, hs⟩ := hs.ext (d := 39) rfl
             obtain ⟨Y23_7, hs⟩ := hs.ext (d := 40) rfl
             obtain ⟨Y24_8, hs⟩ := hs.ext (d := 41) rfl
             obtain ⟨Y25_9, hs⟩ := hs.ext (d := 42) rfl
             obtain ⟨Y26_10, hs⟩ := hs.ext (d := 43) rfl
             obtain ⟨Y27_11, hs⟩ := hs.ext (d := 44) rfl
             obtain ⟨Y28_12, hs⟩ := hs.ext (d := 45) rfl
             obtain ⟨Y29_13, hs⟩ := hs.ext (d := 46) rfl
             obtain ⟨Y30_14, hs⟩ := hs.ext (d := 47) rfl
             obtain ⟨Y31_16, hs⟩ := hs.ext (d := 48) rfl
             exact ⟨Y16_0, Y17_1, Y18_2, Y19_3, Y20_4, Y21_5, Y22_6, Y23_7, Y24_8, Y25_9, Y26_10, Y27_11, Y28_12, Y29_13, Y30_14, Y31_16, Own (TInt .i64) u_data A_data c_data (fun _ => ()) x178, hs.weak ⟨rfl, rfl, rfl, rfl, rfl, rfl, rfl, rfl, rfl, rfl, rfl, rfl, rfl, rfl, rfl, rfl, rfl, rfl, rfl, rfl, rfl, rfl, rfl, rfl, rfl, rfl, rfl, rfl, rfl, rfl, rfl, trivial⟩, (HS.drew.pk 1 [0] rfl), fun h => Bool.noConfusion h, fun h => Bool.noConfusion h, fun h => Bool.noConfusion h, fun h => Bool.noConfusion h, fun h => Bool.noConfusion h, fun h => Bool.noConfusion h, fun h => Bool.noConfusion h, fun h => Bool.noConfusion h, fun h => Bool.noConfusion h, fun h => Bool.noConfusion h, fun h => Bool.noConfusion h, fun h => Bool.noConfusion h, fun h => Bool.noConfusion h, fun h => Bool.noConfusion h, fun h => Bool.noConfusion h, fun h => Bool.noConfusion h, fun _ => rfl, fun h => Bool.noConfusion h, fun h => Bool.noConfusion h⟩
            ·
             intro j hj b a w
             refine exI fun Y16_0 => exI fun Y17_1 => exI fun Y18_2 => exI fun Y19_3 => exI fun Y20_4 => exI fun Y21_5 => exI fun Y22_6 => exI fun Y23_7 => exI fun Y24_8 => exI fun Y25_9 => exI fun Y26_10 => exI fun Y27_11 => exI fun Y28_12 => exI fun Y29_13 => exI fun Y30_14 => exI fun Y31_16 => exI fun O32_1 => anI fun hs => anI fun HS => anI fun f0 => anI fun f1 => anI fun f2 => anI fun f3 => anI fun f4 => anI fun f5 => anI fun f6 => anI fun f7 => anI fun f8 => anI fun f9 => anI fun f10 => anI fun f11 => anI fun f12 => anI fun f13 => anI fun f14 => anI fun f16 => anI fun o1_0 => anI fun o1_1 => fun o1_2 hb hd hcl => ?_
             match j, hj with
             | 0, _ =>
              refine GO.at hs ?_
              refine GO.move rfl rfl rfl ?_
              refine GO.fin (fun a hs => ?_)
              exact ⟨(.slice A_data x178.length c_data), _, _, _, _, _, _, _, _, _, _, _, _, _, _, _, _, by exact hs.setAt 0 rfl, HS, fun _ => rfl, f1, f2, f3, f4, f5, f6, f7, f8, f9, f10, f11, f12, f13, f14, f16, o1_0, o1_1, o1_2⟩
             | 1, _ =>
              refine GO.at hs ?_
              refine GO.move rfl rfl rfl ?_
              refine GO.fin (fun a hs => ?_)
              exact ⟨_, (.int .i64 j_179), _, _, _, _, _, _, _, _, _, _, _, _, _, _, _, by exact hs.setAt 1 rfl, HS, f0, fun _ => rfl, f2, f3, f4, f5, f6, f7, f8, f9, f10, f11, f12, f13, f14, f16, o1_0, o1_1, o1_2⟩
             | 2, _ =>
              refine GO.at hs ?_
              refine GO.move rfl rfl rfl ?_
              refine GO.fin (fun a hs => ?_)
              exact ⟨_, _, (.slice A_data x178.length c_data), _, _, _, _, _, _, _, _, _, _, _, _, _, _, by exact hs.setAt 2 rfl, HS, f0, f1, fun _ => rfl, f3, f4, f5, f6, f7, f8, f9, f10, f11, f12, f13, f14, f16, o1_0, o1_1, o1_2⟩
             | 3, _ =>
              refine GO.at hs ?_
              refine GO.move rfl rfl rfl ?_
              refine GO.fin (fun a hs => ?_)
              exact ⟨_, _, _, (.int .i64 j_179), _, _, _, _, _, _, _, _, _, _, _, _, _, by exact hs.setAt 3 rfl, HS, f0, f1, f2, fun _ => rfl, f4, f5, f6, f7, f8, f9, f10, f11, f12, f13, f14, f16, o1_0, o1_1, o1_2⟩
             | 4, _ =>
              have hb3 : b 3 = true := hd 3 (by decide)
              obtain rfl := f3 hb3
              refine GO.at hs ?_
              refine GO.sub rfl rfl rfl rfl ?_
              refine GO.fin (fun a hs => ?_)
              exact ⟨_, _, _, _, (.int .i64 (w64 (j_179 - 1))), _, _, _, _, _, _, _, _, _, _, _, _, by exact hs.setAt 4 rfl, HS, f0, f1, f2, f3, fun _ => rfl, f5, f6, f7, f8, f9, f10, f11, f12, f13, f14, f16, o1_0, o1_1, o1_2⟩
             | 5, _ =>
              refine GO.at hs ?_
              refine GO.move rfl rfl rfl ?_
              refine GO.fin (fun a hs => ?_)
              exact ⟨_, _, _, _, _, (.slice A_data x178.length c_data), _, _, _, _, _, _, _, _, _, _, _, by exact hs.setAt 5 rfl, HS, f0, f1, f2, f3, f4, fun _ => rfl, f6, f7, f8, f9, f10, f11, f12, f13, f14, f16, o1_0, o1_1, o1_2⟩
             | 6, _ =>
              refine GO.at hs ?_
              refine GO.move rfl rfl rfl ?_
              refine GO.fin (fun a hs => ?_)
              exact ⟨_, _, _, _, _, _, (.int .i64 j_179), _, _, _, _, _, _, _, _, _, _, by exact hs.setAt 6 rfl, HS, f0, f1, f2, f3, f4, f5, fun _ => rfl, f7, f8, f9, f10, f11, f12, f13, f14, f16, o1_0, o1_1, o1_2⟩
             | 7, _ =>
              have hb6 : b 6 = true := hd 6 (by decide)
              obtain rfl := f6 hb6
              refine GO.at hs ?_
              refine GO.sub rfl rfl rfl rfl ?_
              refine GO.fin (fun a hs => ?_)
              exact ⟨_, _, _, _, _, _, _, (.int .i64 (w64 (j_179 - 1))), _, _, _, _, _, _, _, _, _, by exact hs.setAt 7 rfl, HS, f0, f1, f2, f3, f4, f5, f6, fun _ => rfl, f8, f9, f10, f11, f12, f13, f14, f16, o1_0, o1_1, o1_2⟩
             | 8, _ =>
              have hb5 : b 5 = true := hd 5 (by decide)
              obtain rfl := f5 hb5
              have hb7 : b 7 = true := hd 7 (by decide)
              obtain rfl := f7 hb7
              refine GO.at hs ?_
              refine GO.ix rfl rfl rfl Try.underlying43 sz2 h221 c214.1 c214.2 rfl ?_
              refine GO.fin (fun a hs => ?_)
              exact ⟨_, _, _, _, _, _, _, _, (.pointer (some (ea A_data (((w64 (j_179 - 1)).toNat) * 1)))), _, _, _, _, _, _, _, _, by exact hs.setAt 8 rfl, HS, f0, f1, f2, f3, f4, f5, f6, f7, fun _ => rfl, f9, f10, f11, f12, f13, f14, f16, o1_0, o1_1, o1_2⟩
             | 9, _ =>
              have hb8 : b 8 = true := hd 8 (by decide)
              obtain rfl := f8 hb8
              have d15 : b 15 = false := bfalse (fun hh => hcl 15 (by decide) (hh) 9 (by decide)) hb
              obtain rfl := o1_0 d15
              refine GO.at hs ?_
              refine GO.ldRd (T := (TInt .i64)) (n := (w64 (j_179 - 1)).toNat) (o := 0) HS (RdIn.own (j := 0) rfl) rfl rfl (getD_some (d := 0) (ltN c214)) rfl rfl na2 rfl ?_
              refine GO.fin (fun a hs => ?_)
              exact ⟨_, _, _, _, _, _, _, _, _, (.int .i64 (x178.getD ((w64 (j_179 - 1)).toNat) 0)), _, _, _, _, _, _, _, by exact hs.setAt 9 rfl, HS, f0, f1, f2, f3, f4, f5, f6, f7, f8, fun _ => rfl, f10, f11, f12, f13, f14, f16, o1_0, o1_1, o1_2⟩
             | 10, _ =>
              refine GO.at hs ?_
              refine GO.move rfl rfl rfl ?_
              refine GO.fin (fun a hs => ?_)
              exact ⟨_, _, _, _, _, _, _, _, _, _, (.slice A_data x178.length c_data), _, _, _, _, _, _, by exact hs.setAt 10 rfl, HS, f0, f1, f2, f3, f4, f5, f6, f7, f8, f9, fun _ => rfl, f11, f12, f13, f14, f16, o1_0, o1_1, o1_2⟩
             | 11, _ =>
              refine GO.at hs ?_
              refine GO.move rfl rfl rfl ?_
              refine GO.fin (fun a hs => ?_)
              exact ⟨_, _, _, _, _, _, _, _, _, _, _, (.int .i64 j_179), _, _, _, _, _, by exact hs.setAt 11 rfl, HS, f0, f1, f2, f3, f4, f5, f6, f7, f8, f9, f10, fun _ => rfl, f12, f13, f14, f16, o1_0, o1_1, o1_2⟩
             | 12, _ =>
              have hb10 : b 10 = true := hd 10 (by decide)
              obtain rfl := f10 hb10
              have hb11 : b 11 = true := hd 11 (by decide)
              obtain rfl := f11 hb11
              refine GO.at hs ?_
              refine GO.ix rfl rfl rfl Try.underlying43 sz2 h222 c212.1 c212.2 rfl ?_
              refine GO.fin (fun a hs => ?_)
              exact ⟨_, _, _, _, _, _, _, _, _, _, _, _, (.pointer (some (ea A_data (j_179.toNat * 1)))), _, _, _, _, by exact hs.setAt 12 rfl, HS, f0, f1, f2, f3, f4, f5, f6, f7, f8, f9, f10, f11, fun _ => rfl, f13, f14, f16, o1_0, o1_1, o1_2⟩
             | 13, _ =>
              have hb12 : b 12 = true := hd 12 (by decide)
              obtain rfl := f12 hb12
              have d15 : b 15 = false := bfalse (fun hh => hcl 15 (by decide) (hh) 13 (by decide)) hb
              obtain rfl := o1_0 d15
              refine GO.at hs ?_
              refine GO.ldRd (T := (TInt .i64)) (n := j_179.toNat) (o := 0) HS (RdIn.own (j := 0) rfl) rfl rfl (getD_some (d := 0) (ltN c212)) rfl rfl na2 rfl ?_
              refine GO.fin (fun a hs => ?_)
              exact ⟨_, _, _, _, _, _, _, _, _, _, _, _, _, (.int .i64 (x178.getD j_179.toNat 0)), _, _, _, by exact hs.setAt 13 rfl, HS, f0, f1, f2, f3, f4, f5, f6, f7, f8, f9, f10, f11, f12, fun _ => rfl, f14, f16, o1_0, o1_1, o1_2⟩
             | 14, _ =>
              have hb0 : b 0 = true := hd 0 (by decide)
              obtain rfl := f0 hb0
              have hb1 : b 1 = true := hd 1 (by decide)
              obtain rfl := f1 hb1
              refine GO.at hs ?_
              refine GO.ix rfl rfl rfl Try.underlying43 sz2 h223 c212.1 c212.2 rfl ?_
              refine GO.fin (fun a hs => ?_)
              exact ⟨_, _, _, _, _, _, _, _, _, _, _, _, _, _, (.pointer (some (ea A_data (j_179.toNat * 1)))), _, _, by exact hs.setAt 14 rfl, HS, f0, f1, f2, f3, f4, f5, f6, f7, f8, f9, f10, f11, f12, f13, fun _ => rfl, f16, o1_0, o1_1, o1_2⟩
             | 15, _ =>
              have hb9 : b 9 = true := hd 9 (by decide)
              obtain rfl := f9 hb9
              have hb14 : b 14 = true := hd 14 (by decide)
              obtain rfl := f14 hb14
              obtain rfl := o1_0 hb
              refine GO.at hs ?_
              refine GO.stRow (T := (TInt .i64)) (j := 0) (n := j_179.toNat) (o := 0) (vs := [.int .i64 (x178.getD ((w64 (j_179 - 1)).toNat) 0)]) (x178.getD ((w64 (j_179 - 1)).toNat) 0) HS rfl flat_flat rfl rfl rfl rfl (htN na2 rfl) rfl (getD_some (d := 0) (ltN c212)) rfl rfl ?_; intro wd224 HS
              refine GO.fin (fun a hs => ?_)
              exact ⟨_, _, _, _, _, _, _, _, _, _, _, _, _, _, _, _, Own (TInt .i64) u_data A_data c_data (fun _ => ()) (x178.set j_179.toNat (x178.getD ((w64 (j_179 - 1)).toNat) 0)), hs, HS, f0, f1, f2, f3, f4, f5, f6, f7, f8, f9, f10, f11, f12, f13, f14, f16, fun h => Bool.noConfusion h, fun _ _ => rfl, fun hh => (Bool.noConfusion ((hcl 17 (by decide) hh 15 (by decide)).symm.trans hb))⟩
             | 16, _ =>
              have hb2 : b 2 = true := hd 2 (by decide)
              obtain rfl := f2 hb2
              have hb4 : b 4 = true := hd 4 (by decide)
              obtain rfl := f4 hb4
              refine GO.at hs ?_
              refine GO.ix rfl rfl rfl Try.underlying43 sz2 h225 c214.1 c214.2 rfl ?_
              refine GO.fin (fun a hs => ?_)
              exact ⟨_, _, _, _, _, _, _, _, _, _, _, _, _, _, _, (.pointer (some (ea A_data (((w64 (j_179 - 1)).toNat) * 1)))), _, by exact hs.setAt 15 rfl, HS, f0, f1, f2, f3, f4, f5, f6, f7, f8, f9, f10, f11, f12, f13, f14, fun _ => rfl, o1_0, o1_1, o1_2⟩
             | 17, _ =>
              have hb13 : b 13 = true := hd 13 (by decide)
              obtain rfl := f13 hb13
              have hb16 : b 16 = true := hd 16 (by decide)
              obtain rfl := f16 hb16
              have hb15 : b 15 = true := hd 15 (by decide)
              obtain rfl := o1_1 hb15 hb
              refine GO.at hs ?_
              refine GO.stRow (T := (TInt .i64)) (j := 0) (n := (w64 (j_179 - 1)).toNat) (o := 0) (vs := [.int .i64 (x178.getD j_179.toNat 0)]) (x178.getD j_179.toNat 0) HS rfl flat_flat rfl rfl rfl rfl (htN na2 rfl) rfl (getD_some (d := 0) (ltN c227)) rfl rfl ?_; intro wd226 HS
              refine GO.fin (fun a hs => ?_)
              exact ⟨_, _, _, _, _, _, _, _, _, _, _, _, _, _, _, _, Own (TInt .i64) u_data A_data c_data (fun _ => ()) ((x178.set j_179.toNat (x178.getD ((w64 (j_179 - 1)).toNat) 0)).set ((w64 (j_179 - 1)).toNat) (x178.getD j_179.toNat 0)), hs, HS, f0, f1, f2, f3, f4, f5, f6, f7, f8, f9, f10, f11, f12, f13, f14, f16, fun hh => (Bool.noConfusion (hb15.symm.trans hh)), fun _ h => Bool.noConfusion h, fun _ => rfl⟩
             | k + 18, hj => exact absurd hj (Nat.not_lt.2 (Nat.le_add_left 18 k))
            ·
             intro b a w hall
             refine exI fun Y16_0 => exI fun Y17_1 => exI fun Y18_2 => exI fun Y19_3 => exI fun Y20_4 => exI fun Y21_5 => exI fun Y22_6 => exI fun Y23_7 => exI fun Y24_8 => exI fun Y25_9 => exI fun Y26_10 => exI fun Y27_11 => exI fun Y28_12 => exI fun Y29_13 => exI fun Y30_14 => exI fun Y31_16 => exI fun O32_1 => anI fun hs => anI fun HS => anI fun f0 => anI fun f1 => anI fun f2 => anI fun f3 => anI fun f4 => anI fun f5 => anI fun f6 => anI fun f7 => anI fun f8 => anI fun f9 => anI fun f10 => anI fun f11 => anI fun f12 => anI fun f13 => anI fun f14 => anI fun f16 => anI fun o1_0 => anI fun o1_1 => fun o1_2 => ?_
             obtain rfl := f0 (hall 0 (by decide))
             obtain rfl := f1 (hall 1 (by decide))
             obtain rfl := f2 (hall 2 (by decide))
             obtain rfl := f3 (hall 3 (by decide))
             obtain rfl := f4 (hall 4 (by decide))
             obtain rfl := f5 (hall 5 (by decide))
             obtain rfl := f6 (hall 6 (by decide))
             obtain rfl := f7 (hall 7 (by decide))
             obtain rfl := f8 (hall 8 (by decide))
             obtain rfl := f9 (hall 9 (by decide))
             obtain rfl := f10 (hall 10 (by decide))
             obtain rfl := f11 (hall 11 (by decide))
             obtain rfl := f12 (hall 12 (by decide))
             obtain rfl := f13 (hall 13 (by decide))
             obtain rfl := f14 (hall 14 (by decide))
             obtain rfl := f16 (hall 16 (by decide))
             obtain rfl := o1_2 (hall 17 (by decide))
             refine G.at hs ?_
             refine G.len (t := 0) (m := ((x178.set j_179.toNat (x178.getD ((w64 (j_179 - 1)).toNat) 0)).set ((w64 (j_179 - 1)).toNat) (x178.getD j_179.toNat 0)).length) rfl (by simp only [List.length_set] <;> rfl) ?_
             refine G.len (t := 20) (m := ((x178.set j_179.toNat (x178.getD ((w64 (j_179 - 1)).toNat) 0)).set ((w64 (j_179 - 1)).toNat) (x178.getD j_179.toNat 0)).length) rfl (by simp only [List.length_set] <;> rfl) ?_
             refine G.len (t := 24) (m := ((x178.set j_179.toNat (x178.getD ((w64 (j_179 - 1)).toNat) 0)).set ((w64 (j_179 - 1)).toNat) (x178.getD j_179.toNat 0)).length) rfl (by simp only [List.length_set] <;> rfl) ?_
             refine G.blockEnd ?_
             refine G.region ?_
             refine GO.move rfl rfl rfl ?_
             refine GO.sub rfl rfl rfl rfl ?_
             refine GO.assign rfl rfl rfl ?_
             refine GO.nil ?_
             refine G.again ?_
             refine G.weak ?_ (ih_l4 n_l4 (Nat.lt_succ_of_le (Nat.le_refl _)) (Nat.le_of_succ_le hm_l4) _ _ _ H HS)
             exact ⟨rfl, rfl, rfl, rfl, rfl, trivial⟩
           ·
            refine G.noB rfl (bnot_of c220) ?_
            refine G.exit rfl ?_
            refine G.blockEnd ?_
            refine G.region ?_
            refine GO.move rfl rfl rfl ?_
            refine GO.add rfl rfl rfl rfl ?_
            refine GO.assign rfl rfl rfl ?_
            refine GO.nil ?_
            refine G.again ?_
            refine G.weak ?_ (ih_l1 n_l4 (Nat.lt_succ_of_le (Nat.le_of_succ_le hm_l4)) (Nat.le_trans (Nat.le_of_succ_le hm_l4) (Nat.le_of_succ_le hm_l1)) _ _ _ H HS)
            exact ⟨rfl, rfl, rfl, rfl, trivial⟩
         ·
          refine G.regionAny mixed (by decide) (fun b a w => ∃ (Y33_0 : Value) (Y34_1 : Value) (Y35_2 : Value) (Y36_3 : Value) (Y37_4 : Value) (Y38_5 : Value) (Y39_6 : Value) (Y40_7 : Value) (Y41_8 : Value) (Y42_9 : Value) (Y43_10 : Value) (Y44_11 : Value) (Y45_12 : Value) (Y46_13 : Value) (Y47_14 : Value), Sat 49 [(16, Y33_0), (17, Y34_1), (18, Y35_2), (19, Y36_3), (20, Y37_4), (21, Y38_5), (22, Y39_6), (23, Y40_7), (24, Y41_8), (25, Y42_9), (26, Y43_10), (27, Y44_11), (28, Y45_12), (29, Y46_13), (30, Y47_14), (0, .slice A_data x178.length c_data), (1, .int .i64 a_), (2, .int .i64 b_), (6, .int .i64 i_77), (7, .int .i64 j_179)] a ∧ St w0 w (Own (TInt .i64) u_data A_data c_data (fun _ => ()) x178 :: L) ∧ (b 0 = true → Y33_0 = (.int .i64 j_179)) ∧ (b 1 = true → Y34_1 = (.int .i64 a_)) ∧ (b 2 = true → Y35_2 = (.bool (decide (a_ < j_179)))) ∧ (b 3 = true → Y36_3 = (.bool false)) ∧ (b 4 = true → Y37_4 = (undef)) ∧ (b 5 = true → Y38_5 = (undef)) ∧ (b 6 = true → Y39_6 = (undef)) ∧ (b 7 = true → Y40_7 = (undef)) ∧ (b 8 = true → Y41_8 = (undef)) ∧ (b 9 = true → Y42_9 = (undef)) ∧ (b 10 = true → Y43_10 = (undef)) ∧ (b 11 = true → Y44_11 = (undef)) ∧ (b 12 = true → Y45_12 = (undef)) ∧ (b 13 = true → Y46_13 = (undef)) ∧ (b 14 = true → Y47_14 = (.bool false))) ?_ ?_ ?_
          ·
           intro a hs
           obtain ⟨Y33_0, hs⟩ := hs.ext (d := 16) rfl
           obtain ⟨Y34_1, hs⟩ := hs.ext (d := 17) rfl
           obtain ⟨Y35_2, hs⟩ := hs.ext (d := 18) rfl
           obtain ⟨Y36_3, hs⟩ := hs.ext (d := 19) rfl
           obtain ⟨Y37_4, hs⟩ := hs.ext (d := 20) rfl
           obtain ⟨Y38_5, hs⟩ := hs.ext (d := 21) rfl
           obtain ⟨Y39_6, hs⟩ := hs.ext (d := 22) rfl
           obtain ⟨Y40_7, hs⟩ := hs.ext (d := 23) rfl
           obtain ⟨Y41_8, hs⟩ := hs.ext (d := 24) rfl
           obtain ⟨Y42_9, hs⟩ := hs.ext (d := 25) rfl
           obtain ⟨Y43_10, hs⟩ := hs.ext (d := 26) rfl
           obtain ⟨Y44_11, hs⟩ := hs.ext (d := 27) rfl
           obtain ⟨Y45_12, hs⟩ := hs.ext (d := 28) rfl
           obtain ⟨Y46_13, hs⟩ := hs.ext (d := 29) rfl
           obtain ⟨Y47_14, hs⟩ := hs.ext (d := 30) rfl
           exact ⟨Y33_0, Y34_1, Y35_2, Y36_3, Y37_4, Y38_5, Y39_6, Y40_7, Y41_8, Y42_9, Y43_10, Y44_11, Y45_12, Y46_13, Y47_14, hs.weak ⟨rfl, rfl, rfl, rfl, rfl, rfl, rfl, rfl, rfl, rfl, rfl, rfl, rfl, rfl, rfl, rfl, rfl, rfl, rfl, rfl, trivial⟩, (HS.drew.pk 1 [0] rfl), fun h => Bool.noConfusion h, fun h => Bool.noConfusion h, fun h => Bool.noConfusion h, fun h => Bool.noConfusion h, fun h => Bool.noConfusion h, fun h => Bool.noConfusion h, fun h => Bool.noConfusion h, fun h => Bool.noConfusion h, fun h => Bool.noConfusion h, fun h => Bool.noConfusion h, fun h => Bool.noConfusion h, fun h => Bool.noConfusion h, fun h => Bool.noConfusion h, fun h => Bool.noConfusion h, fun h => Bool.noConfusion h⟩
          ·
           intro j hj b a w
           refine exI fun Y33_0 => exI fun Y34_1 => exI fun Y35_2 => exI fun Y36_3 => exI fun Y37_4 => exI fun Y38_5 => exI fun Y39_6 => exI fun Y40_7 => exI fun Y41_8 => exI fun Y42_9 => exI fun Y43_10 => exI fun Y44_11 => exI fun Y45_12 => exI fun Y46_13 => exI fun Y47_14 => anI fun hs => anI fun HS => anI fun f0 => anI fun f1 => anI fun f2 => anI fun f3 => anI fun f4 => anI fun f5 => anI fun f6 => anI fun f7 => anI fun f8 => anI fun f9 => anI fun f10 => anI fun f11 => anI fun f12 => anI fun f13 => fun f14 hb hd hcl => ?_
           match j, hj with
           | 0, _ =>
            refine GO.at hs ?_
            refine GO.move rfl rfl rfl ?_
            refine GO.fin (fun a hs => ?_)
            exact ⟨(.int .i64 j_179), _, _, _, _, _, _, _, _, _, _, _, _, _, _, by exact hs.setAt 0 rfl, HS, fun _ => rfl, f1, f2, f3, f4, f5, f6, f7, f8, f9, f10, f11, f12, f13, f14⟩
           | 1, _ =>
            refine GO.at hs ?_
            refine GO.move rfl rfl rfl ?_
            refine GO.fin (fun a hs => ?_)
            exact ⟨_, (.int .i64 a_), _, _, _, _, _, _, _, _, _, _, _, _, _, by exact hs.setAt 1 rfl, HS, f0, fun _ => rfl, f2, f3, f4, f5, f6, f7, f8, f9, f10, f11, f12, f13, f14⟩
           | 2, _ =>
            have hb0 : b 0 = true := hd 0 (by decide)
            obtain rfl := f0 hb0
            have hb1 : b 1 = true := hd 1 (by decide)
            obtain rfl := f1 hb1
            refine GO.at hs ?_
            refine GO.gtr rfl rfl rfl rfl ?_
            refine GO.fin (fun a hs => ?_)
            exact ⟨_, _, (.bool (decide (a_ < j_179))), _, _, _, _, _, _, _, _, _, _, _, _, by exact hs.setAt 2 rfl, HS, f0, f1, fun _ => rfl, f3, f4, f5, f6, f7, f8, f9, f10, f11, f12, f13, f14⟩
           | 3, _ =>
            have hb2 : b 2 = true := hd 2 (by decide)
            obtain rfl := f2 hb2
            refine GO.at hs ?_
            refine GO.move rfl rfl rfl ?_
            refine GO.known (t := 19) rfl (decide_eq_false c211) ?_
            refine GO.fin (fun a hs => ?_)
            exact ⟨_, _, _, (.bool false), _, _, _, _, _, _, _, _, _, _, _, hs.weak ⟨rfl, rfl, rfl, rfl, rfl, rfl, rfl, rfl, rfl, rfl, rfl, rfl, rfl, rfl, rfl, rfl, rfl, rfl, rfl, rfl, trivial⟩, HS, f0, f1, f2, fun _ => rfl, f4, f5, f6, f7, f8, f9, f10, f11, f12, f13, f14⟩
           | 4, _ =>
            have hb3 : b 3 = true := hd 3 (by decide)
            obtain rfl := f3 hb3
            refine GO.at hs ?_
            refine GO.off rfl rfl rfl rfl rfl rfl ?_
            refine GO.fin (fun a hs => ?_)
            exact ⟨_, _, _, _, (undef), _, _, _, _, _, _, _, _, _, _, by exact hs.setAt 4 rfl, HS, f0, f1, f2, f3, fun _ => rfl, f5, f6, f7, f8, f9, f10, f11, f12, f13, f14⟩
           | 5, _ =>
            have hb3 : b 3 = true := hd 3 (by decide)
            obtain rfl := f3 hb3
            refine GO.at hs ?_
            refine GO.off rfl rfl rfl rfl rfl rfl ?_
            refine GO.fin (fun a hs => ?_)
            exact ⟨_, _, _, _, _, (undef), _, _, _, _, _, _, _, _, _, by exact hs.setAt 5 rfl, HS, f0, f1, f2, f3, f4, fun _ => rfl, f6, f7, f8, f9, f10, f11, f12, f13, f14⟩
           | 6, _ =>
            have hb3 : b 3 = true := hd 3 (by decide)
            obtain rfl := f3 hb3
            have hb4 : b 4 = true := hd 4 (by decide)
            obtain rfl := f4 hb4
            have hb5 : b 5 = true := hd 5 (by decide)
            obtain rfl := f5 hb5
            refine GO.at hs ?_
            refine GO.off rfl rfl rfl rfl rfl rfl ?_
            refine GO.fin (fun a hs => ?_)
            exact ⟨_, _, _, _, _, _, (undef), _, _, _, _, _, _, _, _, by exact hs.setAt 6 rfl, HS, f0, f1, f2, f3, f4, f5, fun _ => rfl, f7, f8, f9, f10, f11, f12, f13, f14⟩
           | 7, _ =>
            have hb3 : b 3 = true := hd 3 (by decide)
            obtain rfl := f3 hb3
            have hb6 : b 6 = true := hd 6 (by decide)
            obtain rfl := f6 hb6
            refine GO.at hs ?_
            refine GO.off rfl rfl rfl rfl rfl rfl ?_
            refine GO.fin (fun a hs => ?_)
            exact ⟨_, _, _, _, _, _, _, (undef), _, _, _, _, _, _, _, by exact hs.setAt 7 rfl, HS, f0, f1, f2, f3, f4, f5, f6, fun _ => rfl, f8, f9, f10, f11, f12, f13, f14⟩
           | 8, _ =>
            have hb3 : b 3 = true := hd 3 (by decide)
            obtain rfl := f3 hb3
            refine GO.at hs ?_
            refine GO.off rfl rfl rfl rfl rfl rfl ?_
            refine GO.fin (fun a hs => ?_)
            exact ⟨_, _, _, _, _, _, _, _, (undef), _, _, _, _, _, _, by exact hs.setAt 8 rfl, HS, f0, f1, f2, f3, f4, f5, f6, f7, fun _ => rfl, f9, f10, f11, f12, f13, f14⟩
           | 9, _ =>
            have hb3 : b 3 = true := hd 3 (by decide)
            obtain rfl := f3 hb3
            refine GO.at hs ?_
            refine GO.off rfl rfl rfl rfl rfl rfl ?_
            refine GO.fin (fun a hs => ?_)
            exact ⟨_, _, _, _, _, _, _, _, _, (undef), _, _, _, _, _, by exact hs.setAt 9 rfl, HS, f0, f1, f2, f3, f4, f5, f6, f7, f8, fun _ => rfl, f10, f11, f12, f13, f14⟩
           | 10, _ =>
            have hb3 : b 3 = true := hd 3 (by decide)
            obtain rfl := f3 hb3
            have hb9 : b 9 = true := hd 9 (by decide)
            obtain rfl := f9 hb9
            refine GO.at hs ?_
            refine GO.off rfl rfl rfl rfl rfl rfl ?_
            refine GO.fin (fun a hs => ?_)
            exact ⟨_, _, _, _, _, _, _, _, _, _, (undef), _, _, _, _, by exact hs.setAt 10 rfl, HS, f0, f1, f2, f3, f4, f5, f6, f7, f8, f9, fun _ => rfl, f11, f12, f13, f14⟩
           | 11, _ =>
            have hb3 : b 3 = true := hd 3 (by decide)
            obtain rfl := f3 hb3
            have hb8 : b 8 = true := hd 8 (by decide)
            obtain rfl := f8 hb8
            have hb10 : b 10 = true := hd 10 (by decide)
            obtain rfl := f10 hb10
            refine GO.at hs ?_
            refine GO.off rfl rfl rfl rfl rfl rfl ?_
            refine GO.fin (fun a hs => ?_)
            exact ⟨_, _, _, _, _, _, _, _, _, _, _, (undef), _, _, _, by exact hs.setAt 11 rfl, HS, f0, f1, f2, f3, f4, f5, f6, f7, f8, f9, f10, fun _ => rfl, f12, f13, f14⟩
           | 12, _ =>
            have hb3 : b 3 = true := hd 3 (by decide)
            obtain rfl := f3 hb3
            have hb11 : b 11 = true := hd 11 (by decide)
            obtain rfl := f11 hb11
            refine GO.at hs ?_
            refine GO.off rfl rfl rfl rfl rfl rfl ?_
            refine GO.fin (fun a hs => ?_)
            exact ⟨_, _, _, _, _, _, _, _, _, _, _, _, (undef), _, _, by exact hs.setAt 12 rfl, HS, f0, f1, f2, f3, f4, f5, f6, f7, f8, f9, f10, f11, fun _ => rfl, f13, f14⟩
           | 13, _ =>
            have hb3 : b 3 = true := hd 3 (by decide)
            obtain rfl := f3 hb3
            have hb7 : b 7 = true := hd 7 (by decide)
            obtain rfl := f7 hb7
            have hb12 : b 12 = true := hd 12 (by decide)
            obtain rfl := f12 hb12
            refine GO.at hs ?_
            refine GO.off rfl rfl rfl rfl rfl rfl ?_
            refine GO.fin (fun a hs => ?_)
            exact ⟨_, _, _, _, _, _, _, _, _, _, _, _, _, (undef), _, by exact hs.setAt 13 rfl, HS, f0, f1, f2, f3, f4, f5, f6, f7, f8, f9, f10, f11, f12, fun _ => rfl, f14⟩
           | 14, _ =>
            have hb3 : b 3 = true := hd 3 (by decide)
            obtain rfl := f3 hb3
            have hb13 : b 13 = true := hd 13 (by decide)
            obtain rfl := f13 hb13
            refine GO.at hs ?_
            refine GO.pickF rfl rfl rfl rfl rfl ?_
            refine GO.fin (fun a hs => ?_)
            exact ⟨_, _, _, _, _, _, _, _, _, _, _, _, _, _, (.bool false), by exact hs.setAt 14 rfl, HS, f0, f1, f2, f3, f4, f5, f6, f7, f8, f9, f10, f11, f12, f13, fun _ => rfl⟩
           | k + 15, hj => exact absurd hj (Nat.not_lt.2 (Nat.le_add_left 15 k))
          ·
           intro b a w hall
           refine exI fun Y33_0 => exI fun Y34_1 => exI fun Y35_2 => exI fun Y36_3 => exI fun Y37_4 => exI fun Y38_5 => exI fun Y39_6 => exI fun Y40_7 => exI fun Y41_8 => exI fun Y42_9 => exI fun Y43_10 => exI fun Y44_11 => exI fun Y45_12 => exI fun Y46_13 => exI fun Y47_14 => anI fun hs => anI fun HS => anI fun f0 => anI fun f1 => anI fun f2 => anI fun f3 => anI fun f4 => anI fun f5 => anI fun f6 => anI fun f7 => anI fun f8 => anI fun f9 => anI fun f10 => anI fun f11 => anI fun f12 => anI fun f13 => fun f14 => ?_
           obtain rfl := f0 (hall 0 (by decide))
           obtain rfl := f1 (hall 1 (by decide))
           obtain rfl := f2 (hall 2 (by decide))
           obtain rfl := f3 (hall 3 (by decide))
           obtain rfl := f4 (hall 4 (by decide))
           obtain rfl := f5 (hall 5 (by decide))
           obtain rfl := f6 (hall 6 (by decide))
           obtain rfl := f7 (hall 7 (by decide))
           obtain rfl := f8 (hall 8 (by decide))
           obtain rfl := f9 (hall 9 (by decide))
           obtain rfl := f10 (hall 10 (by decide))
           obtain rfl := f11 (hall 11 (by decide))
           obtain rfl := f12 (hall 12 (by decide))
           obtain rfl := f13 (hall 13 (by decide))
           obtain rfl := f14 (hall 14 (by decide))
           refine G.at hs ?_
           refine G.noB rfl rfl ?_
           refine G.exit rfl ?_
           refine G.blockEnd ?_
           refine G.region ?_
           refine GO.move rfl rfl rfl ?_
           refine GO.add rfl rfl rfl rfl ?_
           refine GO.assign rfl rfl rfl ?_
           refine GO.nil ?_
           refine G.again ?_
           refine G.weak ?_ (ih_l1 n_l4 (Nat.lt_succ_of_le (Nat.le_of_succ_le hm_l4)) (Nat.le_trans (Nat.le_of_succ_le hm_l4) (Nat.le_of_succ_le hm_l1)) _ _ _ H HS)
           exact ⟨rfl, rfl, rfl, rfl, trivial⟩
      refine G.weak ?_ (at_l4 n_l1 (Nat.le_refl _) _ _ _ H HS)
      exact ⟨rfl, rfl, rfl, rfl, rfl, trivial⟩
     ·
      refine G.noB rfl (decide_eq_false c153) ?_
      refine G.exit rfl ?_
      obtain rfl := Option.some.inj H
      exact G.end0 Try.func182 rfl ⟨rfl, HS⟩
  refine G.weak ?_ (at_l1 K (Nat.le_refl _) _ _ _ H HS)
  exact ⟨rfl, rfl, rfl, rfl, trivial⟩

set_option maxRecDepth 20000 in
set_option maxHeartbeats 40000000 in
theorem slices_pdqsortOrdered_int64.calls {w0 w : World} {L : List HObj} {K : Nat} {t : List Int} {o : Int} {A : Int} {r : Int} {A_t : Option Addr} {c_t : Nat} {u_t : TypeId} {r1 : List Int} (HS : St w0 w (Own (TInt .i64) u_t A_t c_t (fun _ => ()) t :: L)) (H : slices_pdqsortOrdered_int64.f K t o A r = some r1) :
    Calls Try.prog 175 #[.slice A_t t.length c_t, .int .i64 o, .int .i64 A, .int .i64 r] w (slices_pdqsortOrdered_int64.post w0 L t o A r A_t c_t u_t r1) := by
  unfold slices_pdqsortOrdered_int64.f at H
  refine Calls.of_G Try.func175 rfl rfl rfl ?_
  refine G.seq ?_
  refine G.region ?_
  refine GO.assign rfl rfl rfl ?_
  refine GO.nil ?_
  refine G.seq ?_
  refine G.region ?_
  refine GO.assign rfl rfl rfl ?_
  refine GO.nil ?_
  refine G.block ?_
  refine G.loop ?_
  refine G.name (fun k_l1 hk_l1 => ?_)
  have at_l1 : ∀ m_l1, m_l1 ≤ K → ∀ (w : World), slices_pdqsortOrdered_int64.l1 K m_l1 t o A r = some r1 → St w0 w (Own (TInt .i64) u_t A_t c_t (fun _ => ()) t :: L) → G Try.prog 175 134 [(0, .slice A_t t.length c_t), (1, .int .i64 o), (2, .int .i64 A), (3, .int .i64 r), (8, .bool true), (9, .bool true)] k_l1 w (slices_pdqsortOrdered_int64.post w0 L t o A r A_t c_t u_t r1) := by
   intro m_l1
   induction m_l1 using Nat.strongRecOn with
   | _ m_l1 ih_l1 =>
    intro hm_l1 w H HS
    cases m_l1 with
    | zero => rw [slices_pdqsortOrdered_int64.l1] at H; cases H
    | succ n_l1 =>
     rw [slices_pdqsortOrdered_int64.l1] at H
     subst hk_l1
     refine G.block ?_
     refine G.seq ?_
     refine G.region ?_
     refine GO.move rfl rfl rfl ?_
     refine GO.move rfl rfl rfl ?_
     refine GO.sub rfl rfl rfl rfl ?_
     refine GO.assign rfl rfl rfl ?_
     refine GO.nil ?_
     refine G.seq ?_
     refine G.seq ?_
     refine G.region ?_
     refine GO.move rfl rfl rfl ?_
     refine GO.leq rfl rfl rfl rfl ?_
     refine GO.nil ?_
     rcases ite_elim H with ⟨c8, H⟩ | ⟨c8, H⟩
     ·
      refine G.yesB rfl (decide_eq_true c8) ?_
      refine G.seq ?_
      obtain ⟨t9, h10, H⟩ := Option.bind_eq_some_iff.1 H
      obtain ⟨c11, H⟩ := ite_none H
      refine G.region ?_
      refine GO.move rfl rfl rfl ?_
      refine GO.move rfl rfl rfl ?_
      refine GO.move rfl rfl rfl ?_
      replace HS := HS.pk 1 [0] rfl
      refine GO.fn rfl Try.func182 fok182.1 fok182.2 rfl rfl (slices_insertionSortOrdered_int64.calls HS  h10) (fun _ wd12 ⟨h13, HS⟩ => ⟨_, h13, ?_⟩)
      refine GO.nil ?_
      obtain rfl := Option.some.inj H
      exact G.ret0 Try.func175 rfl ⟨rfl, HS⟩
     ·
      refine G.noB rfl (decide_eq_false c8) ?_
      refine G.skip ?_
      refine G.seq ?_
      refine G.seq ?_
      refine G.region ?_
      refine GO.move rfl rfl rfl ?_
      refine GO.eql rfl rfl rfl rfl ?_
      refine GO.nil ?_
      rcases ite_elim H with ⟨c14, H⟩ | ⟨c14, H⟩
      ·
       refine G.yesB rfl (decide_eq_true c14) ?_
       refine G.seq ?_
       cases H
      ·
       refine G.noB rfl (decide_eq_false c14) ?_
       refine G.skip ?_
       refine G.seq ?_
       refine G.seq ?_
       refine G.region ?_
       refine GO.move rfl rfl rfl ?_
       refine GO.not rfl rfl rfl ?_
       refine GO.nil ?_
       refine G.noB rfl rfl ?_
       refine G.skip ?_
       refine G.seq ?_
       cases H
  refine G.weak ?_ (at_l1 K (Nat.le_refl _)  _ H HS)
  exact ⟨rfl, rfl, rfl, rfl, rfl, rfl, trivial⟩

set_option maxRecDepth 20000 in
set_option maxHeartbeats 40000000 in
theorem slices_Sort_int64_int64.calls {w0 w : World} {L : List HObj} {K : Nat} {x : List Int} {A_x : Option Addr} {c_x : Nat} {u_x : TypeId} {r1 : List Int} (HS : St w0 w (Own (TInt .i64) u_x A_x c_x (fun _ => ()) x :: L)) (H : slices_Sort_int64_int64.f K x = some r1) :
    Calls Try.prog 153 #[.slice A_x x.length c_x] w (slices_Sort_int64_int64.post w0 L x A_x c_x u_x r1) := by
  unfold slices_Sort_int64_int64.f at H
  refine Calls.of_G Try.func153 rfl rfl rfl ?_
  refine G.seq ?_
  refine G.region ?_
  refine GO.move rfl rfl rfl ?_
  refine GO.lenS rfl rfl Try.underlying43 rfl ?_
  refine GO.assign rfl rfl rfl ?_
  refine GO.nil ?_
  obtain ⟨t1, h2, H⟩ := Option.bind_eq_some_iff.1 H
  obtain ⟨t5, h6, H⟩ := Option.bind_eq_some_iff.1 H
  obtain ⟨c7, H⟩ := ite_none H
  refine G.region ?_
  refine GO.move rfl rfl rfl ?_
  refine GO.move rfl rfl rfl ?_
  refine GO.move rfl rfl rfl ?_
  refine GO.conv rfl rfl Try.underlying3 Try.underlying156 rfl ?_
  refine GO.fn rfl Try.func176 fok176.1 fok176.2 rfl rfl (math_bits_Len.calls HS  h2) (fun _ wd3 ⟨h4, HS⟩ => ⟨_, h4, ?_⟩)
  replace HS := HS.pk 1 [0] rfl
  refine GO.fn rfl Try.func175 fok175.1 fok175.2 rfl rfl (slices_pdqsortOrdered_int64.calls HS  h6) (fun _ wd8 ⟨h9, HS⟩ => ⟨_, h9, ?_⟩)
  refine GO.nil ?_
  obtain rfl := Option.some.inj H
  exact G.end0 Try.func153 rfl ⟨rfl, HS⟩

set_option maxRecDepth 20000 in
set_option maxHeartbeats 40000000 in
theorem slices_Compact_int64_int64.calls {w0 w : World} {L : List HObj} {K : Nat} {s : List Int} {A_s : Option Addr} {c_s : Nat} {u_s : TypeId} {r1 : List Int} (HS : St w0 w (Own (TInt .i64) u_s A_s c_s (fun _ => ()) s :: L)) (H : slices_Compact_int64_int64.f K s = some r1) :
    Calls Try.prog 154 #[.slice A_s s.length c_s] w (slices_Compact_int64_int64.post w0 L s A_s c_s u_s r1) := by
  unfold slices_Compact_int64_int64.f at H
  refine Calls.of_G Try.func154 rfl rfl rfl ?_
  refine G.seq ?_
  refine G.region ?_
  refine GO.assign rfl rfl rfl ?_
  refine GO.nil ?_
  refine G.seq ?_
  refine G.seq ?_
  refine G.region ?_
  refine GO.move rfl rfl rfl ?_
  refine GO.lenS rfl rfl Try.underlying43 rfl ?_
  refine GO.lss rfl rfl rfl rfl ?_
  refine GO.nil ?_
  rcases ite_elim H with ⟨c1, H⟩ | ⟨c1, H⟩
  ·
   refine G.yesB rfl (decide_eq_true c1) ?_
   refine G.seq ?_
   refine G.region ?_
   refine GO.move rfl rfl rfl ?_
   refine GO.assign rfl rfl rfl ?_
   refine GO.nil ?_
   obtain rfl := Option.some.inj H
   exact G.ret1 _ Try.func154 rfl rfl ⟨_, _, rfl, HS⟩
  ·
   refine G.noB rfl (decide_eq_false c1) ?_
   refine G.skip ?_
   refine G.seq ?_
   refine G.seq ?_
   refine G.region ?_
   refine GO.assign rfl rfl rfl ?_
   refine GO.nil ?_
   refine G.block ?_
   refine G.loop ?_
   refine G.name (fun k_l1 hk_l1 => ?_)
   have at_l1 : ∀ m_l1, m_l1 ≤ K → ∀ (k_45 : Int) (w : World), slices_Compact_int64_int64.l1 K m_l1 s k_45 = some r1 → St w0 w (Own (TInt .i64) u_s A_s c_s (fun _ => ()) s :: L) → G Try.prog 154 61 [(0, .slice A_s s.length c_s), (3, .int .i64 k_45)] k_l1 w (slices_Compact_int64_int64.post w0 L s A_s c_s u_s r1) := by
    intro m_l1
    induction m_l1 using Nat.strongRecOn with
    | _ m_l1 ih_l1 =>
     intro hm_l1 k_45 w H HS
     cases m_l1 with
     | zero => rw [slices_Compact_int64_int64.l1] at H; cases H
     | succ n_l1 =>
      rw [slices_Compact_int64_int64.l1] at H
      subst hk_l1
      refine G.seq ?_
      refine G.seq ?_
      refine G.region ?_
      refine GO.move rfl rfl rfl ?_
      refine GO.move rfl rfl rfl ?_
      refine GO.lenS rfl rfl Try.underlying43 rfl ?_
      refine GO.lss rfl rfl rfl rfl ?_
      refine GO.nil ?_
      rcases ite_elim H with ⟨c89, H⟩ | ⟨c89, H⟩
      ·
       refine G.yesB rfl (decide_eq_true c89) ?_
       refine G.skip ?_
       refine G.seq ?_
       refine G.block ?_
       refine G.seq ?_
       obtain ⟨c90, H⟩ := ite_none H
       have h91 := ((RdIn.own (j := 0) rfl) _ HS).2.2.1
       obtain ⟨c92, H⟩ := ite_none H
       have h93 := ((RdIn.own (j := 0) rfl) _ HS).2.2.1
       refine G.regionAny mixed (by decide) (fun b a w => ∃ (Y1_0 : Value) (Y2_1 : Value) (Y3_2 : Value) (Y4_3 : Value) (Y5_4 : Value) (Y6_5 : Value) (Y7_6 : Value) (Y8_7 : Value) (Y9_8 : Value) (Y10_9 : Value), Sat 61 [(16, Y1_0), (17, Y2_1), (18, Y3_2), (19, Y4_3), (20, Y5_4), (21, Y6_5), (22, Y7_6), (23, Y8_7), (24, Y9_8), (25, Y10_9), (0, .slice A_s s.length c_s), (3, .int .i64 k_45)] a ∧ St w0 w (Own (TInt .i64) u_s A_s c_s (fun _ => ()) s :: L) ∧ (b 0 = true → Y1_0 = (.slice A_s s.length c_s)) ∧ (b 1 = true → Y2_1 = (.int .i64 k_45)) ∧ (b 2 = true → Y3_2 = (.pointer (some (ea A_s (k_45.toNat * 1))))) ∧ (b 3 = true → Y4_3 = (.int .i64 (s.getD k_45.toNat 0))) ∧ (b 4 = true → Y5_4 = (.slice A_s s.length c_s)) ∧ (b 5 = true → Y6_5 = (.int .i64 k_45)) ∧ (b 6 = true → Y7_6 = (.int .i64 (w64 (k_45 - 1)))) ∧ (b 7 = true → Y8_7 = (.pointer (some (ea A_s (((w64 (k_45 - 1)).toNat) * 1))))) ∧ (b 8 = true → Y9_8 = (.int .i64 (s.getD ((w64 (k_45 - 1)).toNat) 0))) ∧ (b 9 = true → Y10_9 = (.bool (decide (s.getD k_45.toNat 0 = s.getD ((w64 (k_45 - 1)).toNat) 0))))) ?_ ?_ ?_
       ·
        intro a hs
        obtain ⟨Y1_0, hs⟩ := hs.ext (d := 16) rfl
        obtain ⟨Y2_1, hs⟩ := hs.ext (d := 17) rfl
        obtain ⟨Y3_2, hs⟩ := hs.ext (d := 18) rfl
        obtain ⟨Y4_3, hs⟩ := hs.ext (d := 19) rfl
        obtain ⟨Y5_4, hs⟩ := hs.ext (d := 20) rfl
        obtain ⟨Y6_5, hs⟩ := hs.ext (d := 21) rfl
        obtain ⟨Y7_6, hs⟩ := hs.ext (d := 22) rfl
        obtain ⟨Y8_7, hs⟩ := hs.ext (d := 23) rfl
        obtain ⟨Y9_8, hs⟩ := hs.ext (d := 24) rfl
        obtain ⟨Y10_9, hs⟩ := hs.ext (d := 25) rfl
        exact ⟨Y1_0, Y2_1, Y3_2, Y4_3, Y5_4, Y6_5, Y7_6, Y8_7, Y9_8, Y10_9, hs.weak ⟨rfl, rfl, rfl, rfl, rfl, rfl, rfl, rfl, rfl, rfl, rfl, rfl, trivial⟩, (HS.drew.pk 1 [0] rfl), fun h => Bool.noConfusion h, fun h => Bool.noConfusion h, fun h => Bool.noConfusion h, fun h => Bool.noConfusion h, fun h => Bool.noConfusion h, fun h => Bool.noConfusion h, fun h => Bool.noConfusion h, fun h => Bool.noConfusion h, fun h => Bool.noConfusion h, fun h => Bool.noConfusion h⟩
       ·
        intro j hj b a w
        refine exI fun Y1_0 => exI fun Y2_1 => exI fun Y3_2 => exI fun Y4_3 => exI fun Y5_4 => exI fun Y6_5 => exI fun Y7_6 => exI fun Y8_7 => exI fun Y9_8 => exI fun Y10_9 => anI fun hs => anI fun HS => anI fun f0 => anI fun f1 => anI fun f2 => anI fun f3 => anI fun f4 => anI fun f5 => anI fun f6 => anI fun f7 => anI fun f8 => fun f9 hb hd hcl => ?_
        match j, hj with
        | 0, _ =>
         refine GO.at hs ?_
         refine GO.move rfl rfl rfl ?_
         refine GO.fin (fun a hs => ?_)
         exact ⟨(.slice A_s s.length c_s), _, _, _, _, _, _, _, _, _, by exact hs.setAt 0 rfl, HS, fun _ => rfl, f1, f2, f3, f4, f5, f6, f7, f8, f9⟩
        | 1, _ =>
         refine GO.at hs ?_
         refine GO.move rfl rfl rfl ?_
         refine GO.fin (fun a hs => ?_)
         exact ⟨_, (.int .i64 k_45), _, _, _, _, _, _, _, _, by exact hs.setAt 1 rfl, HS, f0, fun _ => rfl, f2, f3, f4, f5, f6, f7, f8, f9⟩
        | 2, _ =>
         have hb0 : b 0 = true := hd 0 (by decide)
         obtain rfl := f0 hb0
         have hb1 : b 1 = true := hd 1 (by decide)
         obtain rfl := f1 hb1
         refine GO.at hs ?_
         refine GO.ix rfl rfl rfl Try.underlying43 sz2 h91 c90.1 c90.2 rfl ?_
         refine GO.fin (fun a hs => ?_)
         exact ⟨_, _, (.pointer (some (ea A_s (k_45.toNat * 1)))), _, _, _, _, _, _, _, by exact hs.setAt 2 rfl, HS, f0, f1, fun _ => rfl, f3, f4, f5, f6, f7, f8, f9⟩
        | 3, _ =>
         have hb2 : b 2 = true := hd 2 (by decide)
         obtain rfl := f2 hb2
         refine GO.at hs ?_
         refine GO.ldRd (T := (TInt .i64)) (n := k_45.toNat) (o := 0) HS (RdIn.own (j := 0) rfl) rfl rfl (getD_some (d := 0) (ltN c90)) rfl rfl na2 rfl ?_
         refine GO.fin (fun a hs => ?_)
         exact ⟨_, _, _, (.int .i64 (s.getD k_45.toNat 0)), _, _, _, _, _, _, by exact hs.setAt 3 rfl, HS, f0, f1, f2, fun _ => rfl, f4, f5, f6, f7, f8, f9⟩
        | 4, _ =>
         refine GO.at hs ?_
         refine GO.move rfl rfl rfl ?_
         refine GO.fin (fun a hs => ?_)
         exact ⟨_, _, _, _, (.slice A_s s.length c_s), _, _, _, _, _, by exact hs.setAt 4 rfl, HS, f0, f1, f2, f3, fun _ => rfl, f5, f6, f7, f8, f9⟩
        | 5, _ =>
         refine GO.at hs ?_
         refine GO.move rfl rfl rfl ?_
         refine GO.fin (fun a hs => ?_)
         exact ⟨_, _, _, _, _, (.int .i64 k_45), _, _, _, _, by exact hs.setAt 5 rfl, HS, f0, f1, f2, f3, f4, fun _ => rfl, f6, f7, f8, f9⟩
        | 6, _ =>
         have hb5 : b 5 = true := hd 5 (by decide)
         obtain rfl := f5 hb5
         refine GO.at hs ?_
         refine GO.sub rfl rfl rfl rfl ?_
         refine GO.fin (fun a hs => ?_)
         exact ⟨_, _, _, _, _, _, (.int .i64 (w64 (k_45 - 1))), _, _, _, by exact hs.setAt 6 rfl, HS, f0, f1, f2, f3, f4, f5, fun _ => rfl, f7, f8, f9⟩
        | 7, _ =>
         have hb4 : b 4 = true := hd 4 (by decide)
         obtain rfl := f4 hb4
         have hb6 : b 6 = true := hd 6 (by decide)
         obtain rfl := f6 hb6
         refine GO.at hs ?_
         refine GO.ix rfl rfl rfl Try.underlying43 sz2 h93 c92.1 c92.2 rfl ?_
         refine GO.fin (fun a hs => ?_)
         exact ⟨_, _, _, _, _, _, _, (.pointer (some (ea A_s (((w64 (k_45 - 1)).toNat) * 1)))), _, _, by exact hs.setAt 7 rfl, HS, f0, f1, f2, f3, f4, f5, f6, fun _ => rfl, f8, f9⟩
        | 8, _ =>
         have hb7 : b 7 = true := hd 7 (by decide)
         obtain rfl := f7 hb7
         refine GO.at hs ?_
         refine GO.ldRd (T := (TInt .i64)) (n := (w64 (k_45 - 1)).toNat) (o := 0) HS (RdIn.own (j := 0) rfl) rfl rfl (getD_some (d := 0) (ltN c92)) rfl rfl na2 rfl ?_
         refine GO.fin (fun a hs => ?_)
         exact ⟨_, _, _, _, _, _, _, _, (.int .i64 (s.getD ((w64 (k_45 - 1)).toNat) 0)), _, by exact hs.setAt 8 rfl, HS, f0, f1, f2, f3, f4, f5, f6, f7, fun _ => rfl, f9⟩
        | 9, _ =>
         have hb3 : b 3 = true := hd 3 (by decide)
         obtain rfl := f3 hb3
         have hb8 : b 8 = true := hd 8 (by decide)
         obtain rfl := f8 hb8
         refine GO.at hs ?_
         refine GO.eql rfl rfl rfl rfl ?_
         refine GO.fin (fun a hs => ?_)
         exact ⟨_, _, _, _, _, _, _, _, _, (.bool (decide (s.getD k_45.toNat 0 = s.getD ((w64 (k_45 - 1)).toNat) 0))), by exact hs.setAt 9 rfl, HS, f0, f1, f2, f3, f4, f5, f6, f7, f8, fun _ => rfl⟩
        | k + 10, hj => exact absurd hj (Nat.not_lt.2 (Nat.le_add_left 10 k))
       ·
        intro b a w hall
        refine exI fun Y1_0 => exI fun Y2_1 => exI fun Y3_2 => exI fun Y4_3 => exI fun Y5_4 => exI fun Y6_5 => exI fun Y7_6 => exI fun Y8_7 => exI fun Y9_8 => exI fun Y10_9 => anI fun hs => anI fun HS => anI fun f0 => anI fun f1 => anI fun f2 => anI fun f3 => anI fun f4 => anI fun f5 => anI fun f6 => anI fun f7 => anI fun f8 => fun f9 => ?_
        obtain rfl := f0 (hall 0 (by decide))
        obtain rfl := f1 (hall 1 (by decide))
        obtain rfl := f2 (hall 2 (by decide))
        obtain rfl := f3 (hall 3 (by decide))
        obtain rfl := f4 (hall 4 (by decide))
        obtain rfl := f5 (hall 5 (by decide))
        obtain rfl := f6 (hall 6 (by decide))
        obtain rfl := f7 (hall 7 (by decide))
        obtain rfl := f8 (hall 8 (by decide))
        obtain rfl := f9 (hall 9 (by decide))
        refine G.at hs ?_
        rcases ite_elim H with ⟨c94, H⟩ | ⟨c94, H⟩
        ·
         refine G.yesB rfl (decide_eq_true c94) ?_
         refine G.seq ?_
         obtain ⟨c95, H⟩ := ite_none H
         refine G.region ?_
         refine GO.move rfl rfl rfl ?_
         refine GO.move rfl rfl rfl ?_
         refine GO.slL (T := (TInt .i64)) HS (RdIn.own (j := 0) rfl) rfl rfl rfl Try.underlying43 sz2 c95.1 c95.2 rfl ?_
         refine GO.assign rfl rfl rfl ?_
         refine GO.nil ?_
         refine G.seq ?_
         refine G.seq ?_
         refine G.region ?_
         refine GO.assign rfl rfl rfl ?_
         refine GO.nil ?_
         refine G.block ?_
         refine G.loop ?_
         refine G.name (fun k_l4 hk_l4 => ?_)
         have at_l4 : ∀ m_l4, m_l4 ≤ n_l1 → ∀ (x105 : List Int) (k_106 : Int) (k2_107 : Int) (w : World), slices_Compact_int64_int64.l4 K m_l4 k_45 x105 k_106 k2_107 = some r1 → St w0 w (Own (TInt .i64) u_s A_s c_s (fun _ => ()) x105 :: L) → G Try.prog 154 61 [(0, .slice A_s x105.length c_s), (3, .int .i64 k_106), (4, .slice (cutA A_s k_45.toNat c_s 1) ((x105.take x105.length).drop k_45.toNat).length (c_s - k_45.toNat)), (5, .int .i64 k2_107)] k_l4 w (slices_Compact_int64_int64.post w0 L s A_s c_s u_s r1) := by
          intro m_l4
          induction m_l4 using Nat.strongRecOn with
          | _ m_l4 ih_l4 =>
           intro hm_l4 x105 k_106 k2_107 w H HS
           cases m_l4 with
           | zero => rw [slices_Compact_int64_int64.l4] at H; cases H
           | succ n_l4 =>
            rw [slices_Compact_int64_int64.l4] at H
            subst hk_l4
            obtain ⟨c120, H⟩ := ite_none H
            refine G.seq ?_
            refine G.seq ?_
            refine G.region ?_
            refine GO.move rfl rfl rfl ?_
            refine GO.move rfl rfl rfl ?_
            refine GO.lenS rfl rfl Try.underlying43 rfl ?_
            refine GO.lss rfl rfl rfl rfl ?_
            refine GO.nil ?_
            rcases ite_elim H with ⟨c121, H⟩ | ⟨c121, H⟩
            ·
             refine G.yesB rfl (decide_eq_true c121) ?_
             refine G.skip ?_
             refine G.seq ?_
             refine G.block ?_
             refine G.seq ?_
             obtain ⟨c122, H⟩ := ite_none H
             obtain ⟨c123, H⟩ := ite_none H
             refine G.regionAny mixed (by decide) (fun b a w => ∃ (Y11_0 : Value) (Y12_1 : Value) (Y13_2 : Value) (Y14_3 : Value) (Y15_4 : Value) (Y16_5 : Value) (Y17_6 : Value) (Y18_7 : Value) (Y19_8 : Value) (Y20_9 : Value), Sat 61 [(35, Y11_0), (36, Y12_1), (37, Y13_2), (38, Y14_3), (39, Y15_4), (40, Y16_5), (41, Y17_6), (42, Y18_7), (43, Y19_8), (44, Y20_9), (0, .slice A_s x105.length c_s), (3, .int .i64 k_106), (4, .slice (cutA A_s k_45.toNat c_s 1) ((x105.take x105.length).drop k_45.toNat).length (c_s - k_45.toNat)), (5, .int .i64 k2_107)] a ∧ St w0 w (Own (TInt .i64) u_s A_s c_s (fun _ => ()) x105 :: L) ∧ (b 0 = true → Y11_0 = (.slice (cutA A_s k_45.toNat c_s 1) ((x105.take x105.length).drop k_45.toNat).length (c_s - k_45.toNat))) ∧ (b 1 = true → Y12_1 = (.int .i64 k2_107)) ∧ (b 2 = true → Y13_2 = (.pointer (some (ea (cutA A_s k_45.toNat c_s 1) (k2_107.toNat * 1))))) ∧ (b 3 = true → Y14_3 = (.int .i64 (((x105.take x105.length).drop k_45.toNat).getD k2_107.toNat 0))) ∧ (b 4 = true → Y15_4 = (.slice (cutA A_s k_45.toNat c_s 1) ((x105.take x105.length).drop k_45.toNat).length (c_s - k_45.toNat))) ∧ (b 5 = true → Y16_5 = (.int .i64 k2_107)) ∧ (b 6 = true → Y17_6 = (.int .i64 (w64 (k2_107 - 1)))) ∧ (b 7 = true → Y18_7 = (.pointer (some (ea (cutA A_s k_45.toNat c_s 1) (((w64 (k2_107 - 1)).toNat) * 1))))) ∧ (b 8 = true → Y19_8 = (.int .i64 (((x105.take x105.length).drop k_45.toNat).getD ((w64 (k2_107 - 1)).toNat) 0))) ∧ (b 9 = true → Y20_9 = (.bool (!(decide (((x105.take x105.length).drop k_45.toNat).getD k2_107.toNat 0 = ((x105.take x105.length).drop k_45.toNat).getD ((w64 (k2_107 - 1)).toNat) 0)))))) ?_ ?_ ?_
             ·
              intro a hs
              obtain ⟨Y11_0, hs⟩ := hs.ext (d := 35) rfl
              obtain ⟨Y12_1, hs⟩ := hs.ext (d := 36) rfl
              obtain ⟨Y13_2, hs⟩ := hs.ext (d := 37) rfl
              obtain ⟨Y14_3, hs⟩ := hs.ext (d := 38) rfl
              obtain ⟨Y15_4, hs⟩ := hs.ext (d := 39) rfl
              obtain ⟨Y16_5, hs⟩ := hs.ext (d := 40) rfl
              obtain ⟨Y17_6, hs⟩ := hs.ext (d := 41) rfl
              obtain ⟨Y18_7, hs⟩ := hs.ext (d := 42) rfl
              obtain ⟨Y19_8, hs⟩ := hs.ext (d := 43) rfl
              obtain ⟨Y20_9, hs⟩ := hs.ext (d := 44) rfl
              exact ⟨Y11_0, Y12_1, Y13_2, Y14_3, Y15_4, Y16_5, Y17_6, Y18_7, Y19_8, Y20_9, hs.weak ⟨rfl, rfl, rfl, rfl, rfl, rfl, rfl, rfl, rfl, rfl, rfl, rfl, rfl, rfl, trivial⟩, (HS.drew.pk 1 [0] rfl), fun h => Bool.noConfusion h, fun h => Bool.noConfusion h, fun h => Bool.noConfusion h, fun h => Bool.noConfusion h, fun h => Bool.noConfusion h, fun h => Bool.noConfusion h, fun h => Bool.noConfusion h, fun h => Bool.noConfusion h, fun h => Bool.noConfusion h, fun h => Bool.noConfusion h⟩
             ·
              intro j hj b a w
              refine exI fun Y11_0 => exI fun Y12_1 => exI fun Y13_2 => exI fun Y14_3 => exI fun Y15_4 => exI fun Y16_5 => exI fun Y17_6 => exI fun Y18_7 => exI fun Y19_8 => exI fun Y20_9 => anI fun hs => anI fun HS => anI fun f0 => anI fun f1 => anI fun f2 => anI fun f3 => anI fun f4 => anI fun f5 => anI fun f6 => anI fun f7 => anI fun f8 => fun f9 hb hd hcl => ?_
              match j, hj with
              | 0, _ =>
               refine GO.at hs ?_
               refine GO.move rfl rfl rfl ?_
               refine GO.fin (fun a hs => ?_)
               exact ⟨(.slice (cutA A_s k_45.toNat c_s 1) ((x105.take x105.length).drop k_45.toNat).length (c_s - k_45.toNat)), _, _, _, _, _, _, _, _, _, by exact hs.setAt 0 rfl, HS, fun _ => rfl, f1, f2, f3, f4, f5, f6, f7, f8, f9⟩
              | 1, _ =>
               refine GO.at hs ?_
               refine GO.move rfl rfl rfl ?_
               refine GO.fin (fun a hs => ?_)
               exact ⟨_, (.int .i64 k2_107), _, _, _, _, _, _, _, _, by exact hs.setAt 1 rfl, HS, f0, fun _ => rfl, f2, f3, f4, f5, f6, f7, f8, f9⟩
              | 2, _ =>
               have hb0 : b 0 = true := hd 0 (by decide)
               obtain rfl := f0 hb0
               have hb1 : b 1 = true := hd 1 (by decide)
               obtain rfl := f1 hb1
               refine GO.at hs ?_
               refine GO.ix rfl rfl rfl Try.underlying43 sz2 ((RdIn.cut (RdIn.own (j := 0) rfl) (leN c120) (Nat.le_refl _)) _ HS).2.2.1 c122.1 c122.2 rfl ?_
               refine GO.fin (fun a hs => ?_)
               exact ⟨_, _, (.pointer (some (ea (cutA A_s k_45.toNat c_s 1) (k2_107.toNat * 1)))), _, _, _, _, _, _, _, by exact hs.setAt 2 rfl, HS, f0, f1, fun _ => rfl, f3, f4, f5, f6, f7, f8, f9⟩
              | 3, _ =>
               have hb2 : b 2 = true := hd 2 (by decide)
               obtain rfl := f2 hb2
               refine GO.at hs ?_
               refine GO.ldRd (T := (TInt .i64)) (n := k2_107.toNat) (o := 0) HS (RdIn.cut (RdIn.own (j := 0) rfl) (leN c120) (Nat.le_refl _)) rfl rfl (getD_some (d := 0) (ltN c122)) rfl rfl na2 rfl ?_
               refine GO.fin (fun a hs => ?_)
               exact ⟨_, _, _, (.int .i64 (((x105.take x105.length).drop k_45.toNat).getD k2_107.toNat 0)), _, _, _, _, _, _, by exact hs.setAt 3 rfl, HS, f0, f1, f2, fun _ => rfl, f4, f5, f6, f7, f8, f9⟩
              | 4, _ =>
               refine GO.at hs ?_
               refine GO.move rfl rfl rfl ?_
               refine GO.fin (fun a hs => ?_)
               exact ⟨_, _, _, _, (.slice (cutA A_s k_45.toNat c_s 1) ((x105.take x105.length).drop k_45.toNat).length (c_s - k_45.toNat)), _, _, _, _, _, by exact hs.setAt 4 rfl, HS, f0, f1, f2, f3, fun _ => rfl, f5, f6, f7, f8, f9⟩
              | 5, _ =>
               refine GO.at hs ?_
               refine GO.move rfl rfl rfl ?_
               refine GO.fin (fun a hs => ?_)
               exact ⟨_, _, _, _, _, (.int .i64 k2_107), _, _, _, _, by exact hs.setAt 5 rfl, HS, f0, f1, f2, f3, f4, fun _ => rfl, f6, f7, f8, f9⟩
              | 6, _ =>
               have hb5 : b 5 = true := hd 5 (by decide)
               obtain rfl := f5 hb5
               refine GO.at hs ?_
               refine GO.sub rfl rfl rfl rfl ?_
               refine GO.fin (fun a hs => ?_)
               exact ⟨_, _, _, _, _, _, (.int .i64 (w64 (k2_107 - 1))), _, _, _, by exact hs.setAt 6 rfl, HS, f0, f1, f2, f3, f4, f5, fun _ => rfl, f7, f8, f9⟩
              | 7, _ =>
               have hb4 : b 4 = true := hd 4 (by decide)
               obtain rfl := f4 hb4
               have hb6 : b 6 = true := hd 6 (by decide)
               obtain rfl := f6 hb6
               refine GO.at hs ?_
               refine GO.ix rfl rfl rfl Try.underlying43 sz2 ((RdIn.cut (RdIn.own (j := 0) rfl) (leN c120) (Nat.le_refl _)) _ HS).2.2.1 c123.1 c123.2 rfl ?_
               refine GO.fin (fun a hs => ?_)
               exact ⟨_, _, _, _, _, _, _, (.pointer (some (ea (cutA A_s k_45.toNat c_s 1) (((w64 (k2_107 - 1)).toNat) * 1)))), _, _, by exact hs.setAt 7 rfl, HS, f0, f1, f2, f3, f4, f5, f6, fun _ => rfl, f8, f9⟩
              | 8, _ =>
               have hb7 : b 7 = true := hd 7 (by decide)
               obtain rfl := f7 hb7
               refine GO.at hs ?_
               refine GO.ldRd (T := (TInt .i64)) (n := (w64 (k2_107 - 1)).toNat) (o := 0) HS (RdIn.cut (RdIn.own (j := 0) rfl) (leN c120) (Nat.le_refl _)) rfl rfl (getD_some (d := 0) (ltN c123)) rfl rfl na2 rfl ?_
               refine GO.fin (fun a hs => ?_)
               exact ⟨_, _, _, _, _, _, _, _, (.int .i64 (((x105.take x105.length).drop k_45.toNat).getD ((w64 (k2_107 - 1)).toNat) 0)), _, by exact hs.setAt 8 rfl, HS, f0, f1, f2, f3, f4, f5, f6, f7, fun _ => rfl, f9⟩
              | 9, _ =>
               have hb3 : b 3 = true := hd 3 (by decide)
               obtain rfl := f3 hb3
               have hb8 : b 8 = true := hd 8 (by decide)
               obtain rfl := f8 hb8
               refine GO.at hs ?_
               refine GO.neq rfl rfl rfl rfl ?_
               refine GO.fin (fun a hs => ?_)
               exact ⟨_, _, _, _, _, _, _, _, _, (.bool (!(decide (((x105.take x105.length).drop k_45.toNat).getD k2_107.toNat 0 = ((x105.take x105.length).drop k_45.toNat).getD ((w64 (k2_107 - 1)).toNat) 0)))), by exact hs.setAt 9 rfl, HS, f0, f1, f2, f3, f4, f5, f6, f7, f8, fun _ => rfl⟩
              | k + 10, hj => exact absurd hj (Nat.not_lt.2 (Nat.le_add_left 10 k))
             ·
              intro b a w hall
              refine exI fun Y11_0 => exI fun Y12_1 => exI fun Y13_2 => exI fun Y14_3 => exI fun Y15_4 => exI fun Y16_5 => exI fun Y17_6 => exI fun Y18_7 => exI fun Y19_8 => exI fun Y20_9 => anI fun hs => anI fun HS => anI fun f0 => anI fun f1 => anI fun f2 => anI fun f3 => anI fun f4 => anI fun f5 => anI fun f6 => anI fun f7 => anI fun f8 => fun f9 => ?_
              obtain rfl := f0 (hall 0 (by decide))
              obtain rfl := f1 (hall 1 (by decide))
              obtain rfl := f2 (hall 2 (by decide))
              obtain rfl := f3 (hall 3 (by decide))
              obtain rfl := f4 (hall 4 (by decide))
              obtain rfl := f5 (hall 5 (by decide))
              obtain rfl := f6 (hall 6 (by decide))
              obtain rfl := f7 (hall 7 (by decide))
              obtain rfl := f8 (hall 8 (by decide))
              obtain rfl := f9 (hall 9 (by decide))
              refine G.at hs ?_
              rcases ite_elim H with ⟨c124, H⟩ | ⟨c124, H⟩
              ·
               refine G.noB rfl (congrArg Bool.not (decide_eq_true c124)) ?_
               refine G.skip ?_
               refine G.blockEnd ?_
               refine G.region ?_
               refine GO.move rfl rfl rfl ?_
               refine GO.add rfl rfl rfl rfl ?_
               refine GO.assign rfl rfl rfl ?_
               refine GO.nil ?_
               refine G.again ?_
               refine G.weak ?_ (ih_l4 n_l4 (Nat.lt_succ_of_le (Nat.le_refl _)) (Nat.le_of_succ_le hm_l4) _ _ _ _ H HS)
               exact ⟨rfl, rfl, rfl, rfl, trivial⟩
              ·
               refine G.yesB rfl (congrArg Bool.not (decide_eq_false c124)) ?_
               refine G.seq ?_
               obtain ⟨c125, H⟩ := ite_none H
               refine G.region ?_
               refine GO.move rfl rfl rfl ?_
               refine GO.move rfl rfl rfl ?_
               refine GO.move rfl rfl rfl ?_
               refine GO.move rfl rfl rfl ?_
               refine GO.ix rfl rfl rfl Try.underlying43 sz2 ((RdIn.cut (RdIn.own (j := 0) rfl) (leN c120) (Nat.le_refl _)) _ HS).2.2.1 c122.1 c122.2 rfl ?_
               refine GO.ldRd (T := (TInt .i64)) (n := k2_107.toNat) (o := 0) HS (RdIn.cut (RdIn.own (j := 0) rfl) (leN c120) (Nat.le_refl _)) rfl rfl (getD_some (d := 0) (ltN c122)) rfl rfl na2 rfl ?_
               refine GO.ix rfl rfl rfl Try.underlying43 sz2 ((RdIn.own (j := 0) rfl) _ HS).2.2.1 c125.1 c125.2 rfl ?_
               refine GO.stRow (T := (TInt .i64)) (j := 0) (n := k_106.toNat) (o := 0) (vs := [.int .i64 (((x105.take x105.length).drop k_45.toNat).getD k2_107.toNat 0)]) (((x105.take x105.length).drop k_45.toNat).getD k2_107.toNat 0) HS rfl flat_flat rfl rfl rfl rfl (htN na2 rfl) rfl (getD_some (d := 0) (ltN c125)) rfl rfl ?_; intro wd126 HS
               refine GO.nil ?_
               refine G.len (t := 0) (m := (x105.set k_106.toNat (((x105.take x105.length).drop k_45.toNat).getD k2_107.toNat 0)).length) rfl (by simp only [List.length_set] <;> rfl) ?_
               obtain ⟨c127, H⟩ := ite_none H
               refine G.len (t := 4) (m := (((x105.set k_106.toNat (((x105.take x105.length).drop k_45.toNat).getD k2_107.toNat 0)).take ((x105.set k_106.toNat (((x105.take x105.length).drop k_45.toNat).getD k2_107.toNat 0)).length)).drop k_45.toNat).length) rfl (by simp only [List.length_drop, List.length_take, Nat.min_self, List.length_set]) ?_
               refine G.region ?_
               refine GO.move rfl rfl rfl ?_
               refine GO.add rfl rfl rfl rfl ?_
               refine GO.assign rfl rfl rfl ?_
               refine GO.nil ?_
               refine G.blockEnd ?_
               refine G.region ?_
               refine GO.move rfl rfl rfl ?_
               refine GO.add rfl rfl rfl rfl ?_
               refine GO.assign rfl rfl rfl ?_
               refine GO.nil ?_
               refine G.again ?_
               refine G.weak ?_ (ih_l4 n_l4 (Nat.lt_succ_of_le (Nat.le_refl _)) (Nat.le_of_succ_le hm_l4) _ _ _ _ H HS)
               exact ⟨rfl, rfl, rfl, rfl, trivial⟩
            ·
             refine G.noB rfl (decide_eq_false c121) ?_
             refine G.exit rfl ?_
             refine G.seq ?_
             obtain ⟨c128, H⟩ := ite_none H
             have h130 := over_lenR (xs := x105) (z := 0) (cutN (leN c128) (Nat.le_refl _))
             refine G.region ?_
             refine GO.move rfl rfl rfl ?_
             refine GO.move rfl rfl rfl ?_
             refine GO.slL (T := (TInt .i64)) HS (RdIn.own (j := 0) rfl) rfl rfl rfl Try.underlying43 sz2 c128.1 c128.2 rfl ?_
             refine GO.clearC (T := (TInt .i64)) (j := 0) (l := k_106.toNat) 0 () HS rfl flat_flat rfl rfl Try.underlying43 zr2 rfl rfl (cutC (Nat.le_refl _) ((RdIn.own (j := 0) rfl) _ HS).1) (cutN (leN c128) (Nat.le_refl _)) (fun _ => rfl) ?_; intro wd129 HS
             refine GO.nil ?_
             refine G.len (t := 0) (m := (over x105 k_106.toNat (List.replicate ((x105.take x105.length).drop k_106.toNat).length 0)).length) rfl (by simp only [List.length_set, h130] <;> rfl) ?_
             refine G.seq ?_
             obtain ⟨c131, H⟩ := ite_none H
             refine G.region ?_
             refine GO.move rfl rfl rfl ?_
             refine GO.move rfl rfl rfl ?_
             refine GO.slH (T := (TInt .i64)) HS (RdIn.own (j := 0) rfl) rfl rfl rfl Try.underlying43 sz2 c131.1 c131.2 rfl ?_
             refine GO.assign rfl rfl rfl ?_
             refine GO.nil ?_
             replace HS := HS.shrink (A' := (cutA A_s 0 c_s 1)) (c' := (c_s - 0)) (j := 0) (m := k_106.toNat) rfl flat_flat (leN c131) (cutA_zero _ _ _) rfl
             obtain rfl := Option.some.inj H
             exact G.ret1 _ Try.func154 rfl rfl ⟨_, _, rfl, HS⟩
         refine G.weak ?_ (at_l4 n_l1 (Nat.le_refl _) _ _ _ _ H HS)
         exact ⟨rfl, rfl, rfl, rfl, trivial⟩
        ·
         refine G.noB rfl (decide_eq_false c94) ?_
         refine G.skip ?_
         refine G.blockEnd ?_
         refine G.region ?_
         refine GO.move rfl rfl rfl ?_
         refine GO.add rfl rfl rfl rfl ?_
         refine GO.assign rfl rfl rfl ?_
         refine GO.nil ?_
         refine G.again ?_
         refine G.weak ?_ (ih_l1 n_l1 (Nat.lt_succ_of_le (Nat.le_refl _)) (Nat.le_of_succ_le hm_l1) _ _ H HS)
         exact ⟨rfl, rfl, trivial⟩
      ·
       refine G.noB rfl (decide_eq_false c89) ?_
       refine G.exit rfl ?_
       refine G.seq ?_
       refine G.region ?_
       refine GO.move rfl rfl rfl ?_
       refine GO.assign rfl rfl rfl ?_
       refine GO.nil ?_
       obtain rfl := Option.some.inj H
       exact G.ret1 _ Try.func154 rfl rfl ⟨_, _, rfl, HS⟩
   refine G.weak ?_ (at_l1 K (Nat.le_refl _) _ _ H HS)
   exact ⟨rfl, rfl, trivial⟩

set_option maxRecDepth 20000 in
set_option maxHeartbeats 40000000 in
theorem impl_isKink.calls {w0 w : World} {L : List HObj} {K : Nat} {c_A : Int} {c_B : Int} {c_C : Int} {c_D : Int} {c_Sign : Int} {r1 : Bool} (HS : St w0 w (L)) (H : impl_isKink.f K c_A c_B c_C c_D c_Sign = some r1) :
    Calls Try.prog 90 #[.agg [.int .i64 c_A, .int .i64 c_B, .int .i64 c_C, .int .i64 c_D, .int .i64 c_Sign].toArray] w (impl_isKink.post w0 L c_A c_B c_C c_D c_Sign r1) := by
  unfold impl_isKink.f at H
  refine Calls.of_G Try.func90 rfl rfl rfl ?_
  refine G.seq ?_
  refine G.region ?_
  refine GO.box (cs := [.int .i64 c_A, .int .i64 c_B, .int .i64 c_C, .int .i64 c_D, .int .i64 c_Sign]) HS rfl rfl rfl rfl ?_; intro b1 wd2 HS
  refine GO.assign rfl rfl rfl ?_
  refine GO.nil ?_
  refine G.seq ?_
  obtain ⟨t3, t4, t5, t6, h7, H⟩ := bind4_elim H
  refine G.region ?_
  refine GO.ldBoxA (j := 0) ([.int .i64 c_A, .int .i64 c_B, .int .i64 c_C, .int .i64 c_D, .int .i64 c_Sign]) HS rfl rfl rfl rfl ag58 rfl ?_
  refine GO.fn rfl Try.func75 fok75.1 fok75.2 rfl rfl (impl_Crossing_ends.calls HS  h7) (fun _ wd8 ⟨h9, HS⟩ => ⟨_, h9, ?_⟩)
  refine GO.alloc HS rfl zr93 rfl rfl ?_; intro b10 wd11 HS
  refine GO.stBox (j := 0) (vs := [.int .i64 t3, .int .i64 t4, .int .i64 t5, .int .i64 t6]) ([.int .i64 t3, .int .i64 t4, .int .i64 t5, .int .i64 t6]) HS rfl rfl rfl rfl rfl (htA ag93) rfl rfl rfl ?_; intro wd12 HS
  refine GO.nil ?_
  refine G.seq ?_
  obtain ⟨t13, h14, H⟩ := Option.bind_eq_some_iff.1 H
  obtain ⟨c15, H⟩ := ite_none H
  refine G.region ?_
  replace HS := HS.boxRow (T := (TInt .i64)) (j := 0) rfl flat_flat (fun _ => ()) ([t3, t4, t5, t6] : List Int) rfl (bndL rfl)
  refine GO.slArr (c := ([t3, t4, t5, t6] : List Int).length) (xs := ([t3, t4, t5, t6] : List Int)) rfl rfl Try.underlying93 sz2 rfl rfl rfl ?_
  replace HS := HS.pk 2 [0, 1] rfl
  refine GO.fn rfl Try.func153 fok153.1 fok153.2 rfl rfl (slices_Sort_int64_int64.calls HS  h14) (fun _ wd16 ⟨h17, HS⟩ => ⟨_, h17, ?_⟩)
  refine GO.nil ?_
  refine G.seq ?_
  obtain ⟨t18, h19, H⟩ := Option.bind_eq_some_iff.1 H
  refine G.region ?_
  refine GO.slArr (c := ([t3, t4, t5, t6] : List Int).length) (xs := t13) rfl rfl Try.underlying93 sz2 (c15.trans rfl) rfl rfl ?_
  replace HS := HS.pk 2 [0, 1] rfl
  refine GO.fn rfl Try.func154 fok154.1 fok154.2 rfl rfl (slices_Compact_int64_int64.calls HS  h19) (fun _ wd22 ⟨A20, c21, h23, HS⟩ => ⟨_, h23, ?_⟩)
  refine GO.lenS rfl rfl Try.underlying43 rfl ?_
  refine GO.lss rfl rfl rfl rfl ?_
  refine GO.assign rfl rfl rfl ?_
  refine GO.nil ?_
  obtain rfl := Option.some.inj H
  exact G.ret1 _ Try.func90 rfl rfl ⟨rfl, (HS.pk 2 [] rfl)⟩

set_option maxRecDepth 20000 in
set_option maxHeartbeats 40000000 in
theorem slices_Clone_impl_Crossing_impl_Crossing.calls {w0 w : World} {L : List HObj} {s : List GCrossing} {A_s : Option Addr} {c_s : Nat} {r1 : List GCrossing} (HS : St w0 w (L)) (h_s : RdIn w0 L T_GCrossing A_s c_s (fun _ => ()) s) (H : slices_Clone_impl_Crossing_impl_Crossing.f s = some r1) :
    Calls Try.prog 112 #[.slice A_s s.length c_s] w (slices_Clone_impl_Crossing_impl_Crossing.post w0 L s A_s c_s r1) := by
  unfold slices_Clone_impl_Crossing_impl_Crossing.f at H
  refine Calls.of_G Try.func112 rfl rfl rfl ?_
  refine G.seq ?_
  refine G.region ?_
  refine GO.assign rfl rfl rfl ?_
  refine GO.nil ?_
  refine G.seq ?_
  refine G.seq ?_
  refine G.region ?_
  refine GO.move rfl rfl rfl ?_
  refine GO.eqNil rfl rfl rfl Try.underlying26 rfl ?_
  refine GO.nil ?_
  rcases Decidable.em (A_s.isNone = true) with c1 | c1
  ·
   obtain rfl := nil_of_none h_s HS c1
   refine G.yesB rfl c1 ?_
   refine G.seq ?_
   refine G.region ?_
   refine GO.assign rfl rfl rfl ?_
   refine GO.nil ?_
   replace HS := HS.nilRow T_GCrossing 58 (fun _ => ())
   replace H : some ([] : List GCrossing) = some r1 := H
   obtain rfl := Option.some.inj H
   exact G.ret1 _ Try.func112 rfl rfl ⟨_, _, rfl, HS⟩
  ·
   refine G.noB rfl (bnot_of c1) ?_
   refine G.skip ?_
   refine G.seq ?_
   obtain ⟨c7, H⟩ := ite_none H
   refine G.region ?_
   refine GO.buildS (el := 58) ([]) HS rfl rfl (fun _ => by kernel_rfl) rfl ?_; intro b2 wd3 HS
   refine GO.move rfl rfl rfl ?_
   replace HS := HS.boxRow (T := T_GCrossing) (j := 0) rfl flat_flat (fun _ => ()) ([] : List GCrossing) rfl (bndL rfl)
   refine GO.lenC (t := 5) (m := ([] : List GCrossing).length) (c' := ([] : List GCrossing).length) rfl rfl rfl ?_
   refine GO.appS (T := T_GCrossing) (j := 0) HS rfl (RdIn.drop 1 h_s) flat_flat rfl rfl rfl Try.underlying26 inf58 rfl rfl rfl c7 rfl (fun _ => rfl) ?_; intro A5 c6 wd4 HS
   refine GO.assign rfl rfl rfl ?_
   refine GO.nil ?_
   obtain rfl := Option.some.inj H
   exact G.ret1 _ Try.func112 rfl rfl ⟨_, _, rfl, HS⟩

set_option maxRecDepth 20000 in
set_option maxHeartbeats 40000000 in
theorem impl_copyDiagram.calls {w0 w : World} {L : List HObj} {d_Crossings : List GCrossing} {d_Circles : Int} {A_d_Crossings : Option Addr} {c_d_Crossings : Nat} {r1 : List GCrossing} {r2 : Int} (HS : St w0 w (L)) (h_d_Crossings : RdIn w0 L T_GCrossing A_d_Crossings c_d_Crossings (fun _ => ()) d_Crossings) (H : impl_copyDiagram.f d_Crossings d_Circles = some (r1, r2)) :
    Calls Try.prog 49 #[.agg [.slice A_d_Crossings d_Crossings.length c_d_Crossings, .int .i64 d_Circles].toArray] w (impl_copyDiagram.post w0 L d_Crossings d_Circles A_d_Crossings c_d_Crossings r1 r2) := by
  unfold impl_copyDiagram.f at H
  refine Calls.of_G Try.func49 rfl rfl rfl ?_
  refine G.seq ?_
  refine G.region ?_
  refine GO.box (cs := [.slice A_d_Crossings d_Crossings.length c_d_Crossings, .int .i64 d_Circles]) HS rfl rfl rfl rfl ?_; intro b1 wd2 HS
  refine GO.alloc HS rfl zr28 rfl rfl ?_; intro b3 wd4 HS
  refine GO.nil ?_
  refine G.seq ?_
  obtain ⟨t5, h6, H⟩ := Option.bind_eq_some_iff.1 H
  refine G.region ?_
  refine GO.fld (⟨b1, 0, none⟩) rfl rfl fl28_0 rfl rfl ?_
  refine GO.ldBox (j := 1) HS rfl rfl rfl rfl na26 rfl ?_
  refine GO.fn rfl Try.func112 fok112.1 fok112.2 rfl rfl (slices_Clone_impl_Crossing_impl_Crossing.calls HS (RdIn.drop 2 h_d_Crossings) h6) (fun _ wd9 ⟨A7, c8, h10, HS⟩ => ⟨_, h10, ?_⟩)
  refine GO.fld (⟨b1, 0, none⟩) rfl rfl fl28_0 rfl rfl ?_
  refine GO.stBox (j := 2) (vs := [.slice A7 t5.length c8]) ([.slice A7 t5.length c8, .int .i64 d_Circles]) HS rfl rfl rfl rfl rfl (htN na26 rfl) rfl rfl rfl ?_; intro wd11 HS
  refine GO.nil ?_
  refine G.seq ?_
  refine G.region ?_
  refine GO.ldBoxA (j := 2) ([.slice A7 t5.length c8, .int .i64 d_Circles]) HS rfl rfl rfl rfl ag28 rfl ?_
  refine GO.stBox (j := 1) (vs := [.slice A7 t5.length c8, .int .i64 d_Circles]) ([.slice A7 t5.length c8, .int .i64 d_Circles]) HS rfl rfl rfl rfl rfl (htA ag28) rfl rfl rfl ?_; intro wd12 HS
  refine GO.nil ?_
  obtain ⟨rfl, rfl⟩ := some2 H
  exact G.ret1 _ Try.func49 rfl (Res1.boxA (j := 1) (vs := [.slice A7 t5.length c8, .int .i64 d_Circles]) HS rfl rfl rfl ag28) ⟨_, _, rfl, (HS.pk 3 [0] rfl)⟩

set_option maxRecDepth 20000 in
set_option maxHeartbeats 40000000 in
theorem slices_Repeat_int64_int64.calls {w0 w : World} {L : List HObj} {K : Nat} {x : List Int} {count : Int} {A_x : Option Addr} {c_x : Nat} {r1 : List Int} (HS : St w0 w (L)) (h_x : RdIn w0 L (TInt .i64) A_x c_x (fun _ => ()) x) (H : slices_Repeat_int64_int64.f K x count = some r1) :
    Calls Try.prog 118 #[.slice A_x x.length c_x, .int .i64 count] w (slices_Repeat_int64_int64.post w0 L x count A_x c_x r1) := by
  unfold slices_Repeat_int64_int64.f at H
  refine Calls.of_G Try.func118 rfl rfl rfl ?_
  refine G.seq ?_
  refine G.region ?_
  refine GO.assign rfl rfl rfl ?_
  refine GO.nil ?_
  refine G.seq ?_
  refine G.seq ?_
  refine G.region ?_
  refine GO.move rfl rfl rfl ?_
  refine GO.lss rfl rfl rfl rfl ?_
  refine GO.nil ?_
  rcases ite_elim H with ⟨c2, H⟩ | ⟨c2, H⟩
  ·
   refine G.yesB rfl (decide_eq_true c2) ?_
   cases H
  ·
   refine G.noB rfl (decide_eq_false c2) ?_
   refine G.skip ?_
   refine G.seq ?_
   obtain ⟨t3, t4, h5, H⟩ := bind2_elim H
   refine G.region ?_
   refine GO.move rfl rfl rfl ?_
   refine GO.lenS rfl rfl Try.underlying43 rfl ?_
   refine GO.conv rfl rfl Try.underlying3 Try.underlying156 rfl ?_
   refine GO.move rfl rfl rfl ?_
   refine GO.conv rfl rfl Try.underlying3 Try.underlying156 rfl ?_
   refine GO.fn rfl Try.func162 fok162.1 fok162.2 rfl rfl (math_bits_Mul.calls HS  h5) (fun _ wd6 ⟨h7, HS⟩ => ⟨_, h7, ?_⟩)
   refine GO.move rfl rfl rfl ?_
   refine GO.extract rfl rfl rfl rfl ?_
   refine GO.extract rfl rfl rfl rfl ?_
   refine GO.assign rfl rfl rfl ?_
   refine GO.assign rfl rfl rfl ?_
   refine GO.nil ?_
   refine G.seq ?_
   refine G.seq ?_
   refine G.nameT (fun k_j2 hk_j2 => ?_)
   have at_j2 : ∀ m_j2, m_j2 ≤ K → ∀ (x10 : Bool) (w : World), slices_Repeat_int64_int64.j2 K m_j2 x t4 x10 = some r1 → St w0 w (L) → G Try.prog 118 48 [(0, .slice A_x x.length c_x), (6, .int .u64 t4), (26, .bool x10)] k_j2 w (slices_Repeat_int64_int64.post w0 L x count A_x c_x r1) := by
    intro m_j2 hm_j2 x10 w H HS
    cases m_j2 with
    | zero => rw [slices_Repeat_int64_int64.j2] at H; cases H
    | succ n_j2 =>
     rw [slices_Repeat_int64_int64.j2] at H
     subst hk_j2
     rcases ite_elim H with ⟨c12, H⟩ | ⟨c12, H⟩
     ·
      refine G.yesB rfl c12 ?_
      cases H
     ·
      refine G.noB rfl (bnot_of c12) ?_
      refine G.skip ?_
      refine G.seq ?_
      obtain ⟨c13, H⟩ := ite_none H
      obtain ⟨c14, H⟩ := ite_none H
      refine G.region ?_
      refine GO.move rfl rfl rfl ?_
      refine GO.conv rfl rfl Try.underlying156 Try.underlying3 rfl ?_
      refine GO.make (T := (TInt .i64)) 0 () HS flat_flat rfl rfl rfl Try.underlying43 inf2 rfl rfl rfl c13 c14 rfl ?_; intro b15 wd16 HS
      refine GO.assign rfl rfl rfl ?_
      refine GO.nil ?_
      refine G.seq ?_
      have h18 := over_len (xs := (List.replicate (w64 (t4)).toNat (0 : Int))) (ys := x) (Nat.le_of_eq (Nat.zero_add _))
      refine G.region ?_
      refine GO.move rfl rfl rfl ?_
      refine GO.move rfl rfl rfl ?_
      refine GO.copyP (T := (TInt .i64)) (j := 0) (l := 0) HS rfl (RdIn.drop 1 h_x) flat_flat rfl rfl rfl Try.underlying43 sz2 rfl wholeC (Nat.le_of_eq (Nat.zero_add _)) (fun _ _ => rfl) (fun _ => rfl) ?_; intro wd17 HS
      refine GO.assign rfl rfl rfl ?_
      refine GO.nil ?_
      refine G.len (t := 7) (m := (over (List.replicate (w64 (t4)).toNat (0 : Int)) 0 (x.take ((List.replicate (w64 (t4)).toNat (0 : Int)).length))).length) rfl (by simp only [List.length_set, h18] <;> rfl) ?_
      refine G.seq ?_
      refine G.block ?_
      refine G.loop ?_
      refine G.name (fun k_l4 hk_l4 => ?_)
      have at_l4 : ∀ m_l4, m_l4 ≤ n_j2 → ∀ (newslice_23 : List Int) (n_24 : Int) (w : World), slices_Repeat_int64_int64.l4 K m_l4 newslice_23 n_24 = some r1 → St w0 w (Own (TInt .i64) 2 (some ⟨b15, 0, none⟩) ((w64 (t4)).toNat) (fun _ => ()) newslice_23 :: L) → G Try.prog 118 48 [(7, .slice (some ⟨b15, 0, none⟩) newslice_23.length ((w64 (t4)).toNat)), (8, .int .i64 n_24)] k_l4 w (slices_Repeat_int64_int64.post w0 L x count A_x c_x r1) := by
       intro m_l4
       induction m_l4 using Nat.strongRecOn with
       | _ m_l4 ih_l4 =>
        intro hm_l4 newslice_23 n_24 w H HS
        cases m_l4 with
        | zero => rw [slices_Repeat_int64_int64.l4] at H; cases H
        | succ n_l4 =>
         rw [slices_Repeat_int64_int64.l4] at H
         subst hk_l4
         refine G.seq ?_
         refine G.seq ?_
         refine G.region ?_
         refine GO.move rfl rfl rfl ?_
         refine GO.move rfl rfl rfl ?_
         refine GO.lenS rfl rfl Try.underlying43 rfl ?_
         refine GO.lss rfl rfl rfl rfl ?_
         refine GO.nil ?_
         rcases ite_elim H with ⟨c29, H⟩ | ⟨c29, H⟩
         ·
          refine G.yesB rfl (decide_eq_true c29) ?_
          refine G.skip ?_
          refine G.block ?_
          obtain ⟨c30, H⟩ := ite_none H
          have h32 := over_len (xs := newslice_23) (ys := ((newslice_23.take n_24.toNat).drop 0)) (cutN (leN c30) (Nat.le_refl _))
          refine G.regionAny mixed (by decide) (fun b a w => ∃ (Y1_0 : Value) (Y2_1 : Value) (Y3_2 : Value) (Y4_3 : Value) (Y5_4 : Value) (Y6_5 : Value) (Y7_6 : Value) (Y8_7 : Value) (Y9_8 : Value) (Y10_9 : Value) (O11_2 : HObj), Sat 48 [(8, Y10_9), (38, Y1_0), (39, Y2_1), (40, Y3_2), (41, Y4_3), (42, Y5_4), (43, Y6_5), (44, Y7_6), (45, Y8_7), (46, Y9_8), (7, .slice (some ⟨b15, 0, none⟩) newslice_23.length ((w64 (t4)).toNat))] a ∧ St w0 w (O11_2 :: L) ∧ (b 9 = true → Y10_9 = (.int .i64 (w64 (n_24 + (((((newslice_23.take n_24.toNat).drop 0)).take (((newslice_23.take newslice_23.length).drop n_24.toNat).length)).length : Int))))) ∧ (b 9 = false → Y10_9 = (.int .i64 n_24)) ∧ (b 0 = true → Y1_0 = (.int .i64 n_24)) ∧ (b 1 = true → Y2_1 = (.slice (some ⟨b15, 0, none⟩) newslice_23.length ((w64 (t4)).toNat))) ∧ (b 2 = true → Y3_2 = (.int .i64 n_24)) ∧ (b 3 = true → Y4_3 = (.slice (cutA (some ⟨b15, 0, none⟩) n_24.toNat ((w64 (t4)).toNat) 1) ((newslice_23.take newslice_23.length).drop n_24.toNat).length ((w64 (t4)).toNat - n_24.toNat))) ∧ (b 4 = true → Y5_4 = (.slice (some ⟨b15, 0, none⟩) newslice_23.length ((w64 (t4)).toNat))) ∧ (b 5 = true → Y6_5 = (.int .i64 n_24)) ∧ (b 6 = true → Y7_6 = (.slice (cutA (some ⟨b15, 0, none⟩) 0 ((w64 (t4)).toNat) 1) ((newslice_23.take n_24.toNat).drop 0).length ((w64 (t4)).toNat - 0))) ∧ (b 7 = true → Y8_7 = (.int .i64 (((((newslice_23.take n_24.toNat).drop 0)).take (((newslice_23.take newslice_23.length).drop n_24.toNat).length)).length : Int))) ∧ (b 8 = true → Y9_8 = (.int .i64 (w64 (n_24 + (((((newslice_23.take n_24.toNat).drop 0)).take (((newslice_23.take newslice_23.length).drop n_24.toNat).length)).length : Int))))) ∧ (b 7 = false → O11_2 = Own (TInt .i64) 2 (some ⟨b15, 0, none⟩) ((w64 (t4)).toNat) (fun _ => ()) newslice_23) ∧ (b 7 = true → O11_2 = Own (TInt .i64) 2 (some ⟨b15, 0, none⟩) ((w64 (t4)).toNat) (fun _ => ()) (over newslice_23 n_24.toNat (((newslice_23.take n_24.toNat).drop 0).take (((newslice_23.take newslice_23.length).drop n_24.toNat).length))))) ?_ ?_ ?_
          ·
           intro a hs
           obtain ⟨Y1_0, hs⟩ := hs.ext (d := 38) rfl
           obtain ⟨Y2_1, hs⟩ := hs.ext (d := 39) rfl
           obtain ⟨Y3_2, hs⟩ := hs.ext (d := 40) rfl
           obtain ⟨Y4_3, hs⟩ := hs.ext (d := 41) rfl
           obtain ⟨Y5_4, hs⟩ := hs.ext (d := 42) rfl
           obtain ⟨Y6_5, hs⟩ := hs.ext (d := 43) rfl
           obtain ⟨Y7_6, hs⟩ := hs.ext (d := 44) rfl
           obtain ⟨Y8_7, hs⟩ := hs.ext (d := 45) rfl
           obtain ⟨Y9_8, hs⟩ := hs.ext (d := 46) rfl
           exact ⟨Y1_0, Y2_1, Y3_2, Y4_3, Y5_4, Y6_5, Y7_6, Y8_7, Y9_8, (.int .i64 n_24), Own (TInt .i64) 2 (some ⟨b15, 0, none⟩) ((w64 (t4)).toNat) (fun _ => ()) newslice_23, hs.weak ⟨rfl, rfl, rfl, rfl, rfl, rfl, rfl, rfl, rfl, rfl, rfl, trivial⟩, (HS.drew.pk 1 [0] rfl), fun h => Bool.noConfusion h, fun _ => rfl, fun h => Bool.noConfusion h, fun h => Bool.noConfusion h, fun h => Bool.noConfusion h, fun h => Bool.noConfusion h, fun h => Bool.noConfusion h, fun h => Bool.noConfusion h, fun h => Bool.noConfusion h, fun h => Bool.noConfusion h, fun h => Bool.noConfusion h, fun _ => rfl, fun h => Bool.noConfusion h⟩
          ·
           intro j hj b a w
           refine exI fun Y1_0 => exI fun Y2_1 => exI fun Y3_2 => exI fun Y4_3 => exI fun Y5_4 => exI fun Y6_5 => exI fun Y7_6 => exI fun Y8_7 => exI fun Y9_8 => exI fun Y10_9 => exI fun O11_2 => anI fun hs => anI fun HS => anI fun f9 => anI fun g9 => anI fun f0 => anI fun f1 => anI fun f2 => anI fun f3 => anI fun f4 => anI fun f5 => anI fun f6 => anI fun f7 => anI fun f8 => anI fun o2_0 => fun o2_1 hb hd hcl => ?_
           match j, hj with
           | 0, _ =>
            have d9 : b 9 = false := bfalse (fun hh => hcl 9 (by decide) (hh) 0 (by decide)) hb
            obtain rfl := g9 d9
            refine GO.at hs ?_
            refine GO.move rfl rfl rfl ?_
            refine GO.fin (fun a hs => ?_)
            exact ⟨(.int .i64 n_24), _, _, _, _, _, _, _, _, _, _, by exact hs.setAt 1 rfl, HS, f9, g9, fun _ => rfl, f1, f2, f3, f4, f5, f6, f7, f8, o2_0, o2_1⟩
           | 1, _ =>
            refine GO.at hs ?_
            refine GO.move rfl rfl rfl ?_
            refine GO.fin (fun a hs => ?_)
            exact ⟨_, (.slice (some ⟨b15, 0, none⟩) newslice_23.length ((w64 (t4)).toNat)), _, _, _, _, _, _, _, _, _, by exact hs.setAt 2 rfl, HS, f9, g9, f0, fun _ => rfl, f2, f3, f4, f5, f6, f7, f8, o2_0, o2_1⟩
           | 2, _ =>
            have d9 : b 9 = false := bfalse (fun hh => hcl 9 (by decide) (hh) 2 (by decide)) hb
            obtain rfl := g9 d9
            refine GO.at hs ?_
            refine GO.move rfl rfl rfl ?_
            refine GO.fin (fun a hs => ?_)
            exact ⟨_, _, (.int .i64 n_24), _, _, _, _, _, _, _, _, by exact hs.setAt 3 rfl, HS, f9, g9, f0, f1, fun _ => rfl, f3, f4, f5, f6, f7, f8, o2_0, o2_1⟩
           | 3, _ =>
            have hb1 : b 1 = true := hd 1 (by decide)
            obtain rfl := f1 hb1
            have hb2 : b 2 = true := hd 2 (by decide)
            obtain rfl := f2 hb2
            have d7 : b 7 = false := bfalse (fun hh => hcl 7 (by decide) (hh) 3 (by decide)) hb
            obtain rfl := o2_0 d7
            refine GO.at hs ?_
            refine GO.slL (T := (TInt .i64)) HS (RdIn.own (j := 0) rfl) rfl rfl rfl Try.underlying43 sz2 c30.1 c30.2 rfl ?_
            refine GO.fin (fun a hs => ?_)
            exact ⟨_, _, _, (.slice (cutA (some ⟨b15, 0, none⟩) n_24.toNat ((w64 (t4)).toNat) 1) ((newslice_23.take newslice_23.length).drop n_24.toNat).length ((w64 (t4)).toNat - n_24.toNat)), _, _, _, _, _, _, _, by exact hs.setAt 4 rfl, HS, f9, g9, f0, f1, f2, fun _ => rfl, f4, f5, f6, f7, f8, o2_0, o2_1⟩
           | 4, _ =>
            refine GO.at hs ?_
            refine GO.move rfl rfl rfl ?_
            refine GO.fin (fun a hs => ?_)
            exact ⟨_, _, _, _, (.slice (some ⟨b15, 0, none⟩) newslice_23.length ((w64 (t4)).toNat)), _, _, _, _, _, _, by exact hs.setAt 5 rfl, HS, f9, g9, f0, f1, f2, f3, fun _ => rfl, f5, f6, f7, f8, o2_0, o2_1⟩
           | 5, _ =>
            have d9 : b 9 = false := bfalse (fun hh => hcl 9 (by decide) (hh) 5 (by decide)) hb
            obtain rfl := g9 d9
            refine GO.at hs ?_
            refine GO.move rfl rfl rfl ?_
            refine GO.fin (fun a hs => ?_)
            exact ⟨_, _, _, _, _, (.int .i64 n_24), _, _, _, _, _, by exact hs.setAt 6 rfl, HS, f9, g9, f0, f1, f2, f3, f4, fun _ => rfl, f6, f7, f8, o2_0, o2_1⟩
           | 6, _ =>
            have hb4 : b 4 = true := hd 4 (by decide)
            obtain rfl := f4 hb4
            have hb5 : b 5 = true := hd 5 (by decide)
            obtain rfl := f5 hb5
            have d7 : b 7 = false := bfalse (fun hh => hcl 7 (by decide) (hh) 6 (by decide)) hb
            obtain rfl := o2_0 d7
            refine GO.at hs ?_
            refine GO.slH (T := (TInt .i64)) HS (RdIn.own (j := 0) rfl) rfl rfl rfl Try.underlying43 sz2 c30.1 c30.2 rfl ?_
            refine GO.fin (fun a hs => ?_)
            exact ⟨_, _, _, _, _, _, (.slice (cutA (some ⟨b15, 0, none⟩) 0 ((w64 (t4)).toNat) 1) ((newslice_23.take n_24.toNat).drop 0).length ((w64 (t4)).toNat - 0)), _, _, _, _, by exact hs.setAt 7 rfl, HS, f9, g9, f0, f1, f2, f3, f4, f5, fun _ => rfl, f7, f8, o2_0, o2_1⟩
           | 7, _ =>
            have hb3 : b 3 = true := hd 3 (by decide)
            obtain rfl := f3 hb3
            have hb6 : b 6 = true := hd 6 (by decide)
            obtain rfl := f6 hb6
            obtain rfl := o2_0 hb
            refine GO.at hs ?_
            refine GO.copyP (T := (TInt .i64)) (j := 0) (l := n_24.toNat) HS rfl (RdIn.cut (RdIn.own (j := 0) rfl) (Nat.zero_le _) (leN c30)) flat_flat rfl rfl rfl Try.underlying43 sz2 rfl (cutC (Nat.le_refl _) ((RdIn.own (j := 0) rfl) _ HS).1) (cutN (leN c30) (Nat.le_refl _)) (fun _ _ => rfl) (fun _ => rfl) ?_; intro wd31 HS
            refine GO.fin (fun a hs => ?_)
            exact ⟨_, _, _, _, _, _, _, (.int .i64 (((((newslice_23.take n_24.toNat).drop 0)).take (((newslice_23.take newslice_23.length).drop n_24.toNat).length)).length : Int)), _, _, Own (TInt .i64) 2 (some ⟨b15, 0, none⟩) ((w64 (t4)).toNat) (fun _ => ()) (over newslice_23 n_24.toNat (((newslice_23.take n_24.toNat).drop 0).take (((newslice_23.take newslice_23.length).drop n_24.toNat).length))), by exact hs.setAt 8 rfl, HS, f9, g9, f0, f1, f2, f3, f4, f5, f6, fun _ => rfl, f8, fun h => Bool.noConfusion h, fun _ => rfl⟩
           | 8, _ =>
            have hb0 : b 0 = true := hd 0 (by decide)
            obtain rfl := f0 hb0
            have hb7 : b 7 = true := hd 7 (by decide)
            obtain rfl := f7 hb7
            refine GO.at hs ?_
            refine GO.add rfl rfl rfl rfl ?_
            refine GO.fin (fun a hs => ?_)
            exact ⟨_, _, _, _, _, _, _, _, (.int .i64 (w64 (n_24 + (((((newslice_23.take n_24.toNat).drop 0)).take (((newslice_23.take newslice_23.length).drop n_24.toNat).length)).length : Int)))), _, _, by exact hs.setAt 9 rfl, HS, f9, g9, f0, f1, f2, f3, f4, f5, f6, f7, fun _ => rfl, o2_0, o2_1⟩
           | 9, _ =>
            have hb8 : b 8 = true := hd 8 (by decide)
            obtain rfl := f8 hb8
            refine GO.at hs ?_
            refine GO.assign rfl rfl rfl ?_
            refine GO.fin (fun a hs => ?_)
            exact ⟨_, _, _, _, _, _, _, _, _, (.int .i64 (w64 (n_24 + (((((newslice_23.take n_24.toNat).drop 0)).take (((newslice_23.take newslice_23.length).drop n_24.toNat).length)).length : Int)))), _, by exact hs.setAt 0 rfl, HS, fun _ => rfl, fun h => Bool.noConfusion h, f0, f1, f2, f3, f4, f5, f6, f7, f8, o2_0, o2_1⟩
           | k + 10, hj => exact absurd hj (Nat.not_lt.2 (Nat.le_add_left 10 k))
          ·
           intro b a w hall
           refine exI fun Y1_0 => exI fun Y2_1 => exI fun Y3_2 => exI fun Y4_3 => exI fun Y5_4 => exI fun Y6_5 => exI fun Y7_6 => exI fun Y8_7 => exI fun Y9_8 => exI fun Y10_9 => exI fun O11_2 => anI fun hs => anI fun HS => anI fun f9 => anI fun g9 => anI fun f0 => anI fun f1 => anI fun f2 => anI fun f3 => anI fun f4 => anI fun f5 => anI fun f6 => anI fun f7 => anI fun f8 => anI fun o2_0 => fun o2_1 => ?_
           obtain rfl := f9 (hall 9 (by decide))
           obtain rfl := f0 (hall 0 (by decide))
           obtain rfl := f1 (hall 1 (by decide))
           obtain rfl := f2 (hall 2 (by decide))
           obtain rfl := f3 (hall 3 (by decide))
           obtain rfl := f4 (hall 4 (by decide))
           obtain rfl := f5 (hall 5 (by decide))
           obtain rfl := f6 (hall 6 (by decide))
           obtain rfl := f7 (hall 7 (by decide))
           obtain rfl := f8 (hall 8 (by decide))
           obtain rfl := o2_1 (hall 7 (by decide))
           refine G.at hs ?_
           refine G.len (t := 7) (m := (over newslice_23 n_24.toNat (((newslice_23.take n_24.toNat).drop 0).take (((newslice_23.take newslice_23.length).drop n_24.toNat).length))).length) rfl (by simp only [List.length_set, h32] <;> rfl) ?_
           refine G.blockEnd ?_
           refine G.again ?_
           refine G.weak ?_ (ih_l4 n_l4 (Nat.lt_succ_of_le (Nat.le_refl _)) (Nat.le_of_succ_le hm_l4) _ _ _ H HS)
           exact ⟨rfl, rfl, trivial⟩
         ·
          refine G.noB rfl (decide_eq_false c29) ?_
          refine G.exit rfl ?_
          refine G.seq ?_
          refine G.region ?_
          refine GO.move rfl rfl rfl ?_
          refine GO.assign rfl rfl rfl ?_
          refine GO.nil ?_
          obtain rfl := Option.some.inj H
          exact G.ret1 _ Try.func118 rfl rfl ⟨_, _, rfl, HS⟩
      refine G.weak ?_ (at_l4 n_j2 (Nat.le_refl _) _ _ _ H HS)
      exact ⟨rfl, rfl, trivial⟩
   rcases ite_elim H with ⟨c33, H⟩ | ⟨c33, H⟩
   ·
    refine G.region ?_
    refine GO.move rfl rfl rfl ?_
    refine GO.gtr rfl rfl rfl rfl ?_
    refine GO.move rfl rfl rfl ?_
    refine GO.known (t := 23) rfl (decide_eq_true c33) ?_
    refine GO.off rfl rfl rfl rfl rfl rfl ?_
    refine GO.off rfl rfl rfl rfl rfl rfl ?_
    refine GO.pickT rfl rfl rfl rfl rfl ?_
    refine GO.nil ?_
    refine G.weak ?_ (at_j2 K (Nat.le_refl _) _ _ H HS)
    exact ⟨rfl, rfl, rfl, trivial⟩
   ·
    refine G.region ?_
    refine GO.move rfl rfl rfl ?_
    refine GO.gtr rfl rfl rfl rfl ?_
    refine GO.move rfl rfl rfl ?_
    refine GO.known (t := 23) rfl (decide_eq_false c33) ?_
    refine GO.on rfl rfl rfl rfl ?_
    refine GO.move rfl rfl rfl ?_
    refine GO.back ?_
    refine GO.on rfl rfl rfl rfl ?_
    refine GO.gtr rfl rfl rfl rfl ?_
    refine GO.back ?_
    refine GO.pickF rfl rfl rfl rfl rfl ?_
    refine GO.nil ?_
    refine G.weak ?_ (at_j2 K (Nat.le_refl _) _ _ H HS)
    exact ⟨rfl, rfl, rfl, trivial⟩

set_option maxRecDepth 20000 in
set_option maxHeartbeats 40000000 in
theorem slices_Index_int64_int64.calls {w0 w : World} {L : List HObj} {K : Nat} {s : List Int} {v : Int} {A_s : Option Addr} {c_s : Nat} {r1 : Int} (HS : St w0 w (L)) (h_s : RdIn w0 L (TInt .i64) A_s c_s (fun _ => ()) s) (H : slices_Index_int64_int64.f K s v = some r1) :
    Calls Try.prog 164 #[.slice A_s s.length c_s, .int .i64 v] w (slices_Index_int64_int64.post w0 L s v A_s c_s r1) := by
  unfold slices_Index_int64_int64.f at H
  refine Calls.of_G Try.func164 rfl rfl rfl ?_
  refine G.seq ?_
  refine G.region ?_
  refine GO.assign rfl rfl rfl ?_
  refine GO.nil ?_
  refine G.seq ?_
  refine G.seq ?_
  refine G.region ?_
  refine GO.move rfl rfl rfl ?_
  refine GO.lenS rfl rfl Try.underlying43 rfl ?_
  refine GO.move rfl rfl rfl ?_
  refine GO.nil ?_
  refine G.block ?_
  refine G.loop ?_
  refine G.name (fun k_l1 hk_l1 => ?_)
  have at_l1 : ∀ m_l1, m_l1 ≤ K → ∀ (x4 : Int) (w : World), slices_Index_int64_int64.l1 K m_l1 s v x4 = some r1 → St w0 w (L) → G Try.prog 164 19 [(0, .slice A_s s.length c_s), (1, .int .i64 v), (7, .int .i64 (s.length : Int)), (8, .int .i64 x4)] k_l1 w (slices_Index_int64_int64.post w0 L s v A_s c_s r1) := by
   intro m_l1
   induction m_l1 using Nat.strongRecOn with
   | _ m_l1 ih_l1 =>
    intro hm_l1 x4 w H HS
    cases m_l1 with
    | zero => rw [slices_Index_int64_int64.l1] at H; cases H
    | succ n_l1 =>
     rw [slices_Index_int64_int64.l1] at H
     subst hk_l1
     refine G.seq ?_
     refine G.region ?_
     refine GO.lss rfl rfl rfl rfl ?_
     refine GO.nil ?_
     refine G.seq ?_
     rcases ite_elim H with ⟨c8, H⟩ | ⟨c8, H⟩
     ·
      refine G.yesB rfl (decide_eq_true c8) ?_
      refine G.skip ?_
      refine G.seq ?_
      refine G.block ?_
      refine G.seq ?_
      refine G.region ?_
      refine GO.move rfl rfl rfl ?_
      refine GO.assign rfl rfl rfl ?_
      refine GO.nil ?_
      refine G.seq ?_
      obtain ⟨c9, H⟩ := ite_none H
      refine G.region ?_
      refine GO.move rfl rfl rfl ?_
      refine GO.move rfl rfl rfl ?_
      refine GO.move rfl rfl rfl ?_
      refine GO.ix rfl rfl rfl Try.underlying43 sz2 (h_s _ HS).2.2.1 c9.1 c9.2 rfl ?_
      refine GO.ldRd (T := (TInt .i64)) (n := x4.toNat) (o := 0) HS h_s rfl rfl (getD_some (d := 0) (ltN c9)) rfl rfl na2 rfl ?_
      refine GO.eql rfl rfl rfl rfl ?_
      refine GO.nil ?_
      rcases ite_elim H with ⟨c10, H⟩ | ⟨c10, H⟩
      ·
       refine G.yesB rfl (decide_eq_true c10) ?_
       refine G.seq ?_
       refine G.region ?_
       refine GO.move rfl rfl rfl ?_
       refine GO.assign rfl rfl rfl ?_
       refine GO.nil ?_
       obtain rfl := Option.some.inj H
       exact G.ret1 _ Try.func164 rfl rfl ⟨rfl, HS⟩
      ·
       refine G.noB rfl (decide_eq_false c10) ?_
       refine G.skip ?_
       refine G.blockEnd ?_
       refine G.region ?_
       refine GO.add rfl rfl rfl rfl ?_
       refine GO.move rfl rfl rfl ?_
       refine GO.nil ?_
       refine G.again ?_
       refine G.weak ?_ (ih_l1 n_l1 (Nat.lt_succ_of_le (Nat.le_refl _)) (Nat.le_of_succ_le hm_l1) _ _ H HS)
       exact ⟨rfl, rfl, rfl, rfl, trivial⟩
     ·
      refine G.noB rfl (decide_eq_false c8) ?_
      refine G.exit rfl ?_
      refine G.seq ?_
      refine G.region ?_
      refine GO.assign rfl rfl rfl ?_
      refine GO.nil ?_
      obtain rfl := Option.some.inj H
      exact G.ret1 _ Try.func164 rfl rfl ⟨rfl, HS⟩
  refine G.weak ?_ (at_l1 K (Nat.le_refl _) _ _ H HS)
  exact ⟨rfl, rfl, rfl, rfl, trivial⟩

set_option maxRecDepth 20000 in
set_option maxHeartbeats 40000000 in
theorem slices_Contains_int64_int64.calls {w0 w : World} {L : List HObj} {K : Nat} {s : List Int} {v : Int} {A_s : Option Addr} {c_s : Nat} {r1 : Bool} (HS : St w0 w (L)) (h_s : RdIn w0 L (TInt .i64) A_s c_s (fun _ => ()) s) (H : slices_Contains_int64_int64.f K s v = some r1) :
    Calls Try.prog 131 #[.slice A_s s.length c_s, .int .i64 v] w (slices_Contains_int64_int64.post w0 L s v A_s c_s r1) := by
  unfold slices_Contains_int64_int64.f at H
  refine Calls.of_G Try.func131 rfl rfl rfl ?_
  refine G.seq ?_
  refine G.region ?_
  refine GO.assign rfl rfl rfl ?_
  refine GO.nil ?_
  refine G.seq ?_
  obtain ⟨t1, h2, H⟩ := Option.bind_eq_some_iff.1 H
  refine G.region ?_
  refine GO.move rfl rfl rfl ?_
  refine GO.move rfl rfl rfl ?_
  refine GO.fn rfl Try.func164 fok164.1 fok164.2 rfl rfl (slices_Index_int64_int64.calls HS h_s h2) (fun _ wd3 ⟨h4, HS⟩ => ⟨_, h4, ?_⟩)
  refine GO.geq rfl rfl rfl rfl ?_
  refine GO.assign rfl rfl rfl ?_
  refine GO.nil ?_
  obtain rfl := Option.some.inj H
  exact G.ret1 _ Try.func131 rfl rfl ⟨rfl, HS⟩

set_option maxRecDepth 20000 in
set_option maxHeartbeats 40000000 in
theorem impl_Diagram_without_fn1_free.calls {w0 w : World} {L : List HObj} {K : Nat} {e_crossing : Int} {e_position : Int} {v0_2 : List Int} {b_v0 : Nat} {A_v0_2 : Option Addr} {c_v0_2 : Nat} {r1 : Bool} (HS : St w0 w (Box b_v0 43 [.slice A_v0_2 v0_2.length c_v0_2] :: L)) (h_v0_2 : RdIn w0 L (TInt .i64) A_v0_2 c_v0_2 (fun _ => ()) v0_2) (H : impl_Diagram_without_fn1_free.f K e_crossing e_position v0_2 = some r1) :
    Calls Try.prog 130 #[.agg [.int .i64 e_crossing, .int .i64 e_position].toArray, .pointer (some ⟨b_v0, 0, none⟩)] w (impl_Diagram_without_fn1_free.post w0 L e_crossing e_position v0_2 b_v0 A_v0_2 c_v0_2 r1) := by
  unfold impl_Diagram_without_fn1_free.f at H
  refine Calls.of_G Try.func130 rfl rfl rfl ?_
  refine G.seq ?_
  refine G.region ?_
  refine GO.box (cs := [.int .i64 e_crossing, .int .i64 e_position]) HS rfl rfl rfl rfl ?_; intro b1 wd2 HS
  refine GO.assign rfl rfl rfl ?_
  refine GO.nil ?_
  refine G.seq ?_
  obtain ⟨t3, h4, H⟩ := Option.bind_eq_some_iff.1 H
  refine G.region ?_
  refine GO.ldBox (j := 1) HS rfl rfl rfl rfl na43 rfl ?_
  refine GO.fld (⟨b1, 0, none⟩) rfl rfl fl68_0 rfl rfl ?_
  refine GO.ldBox (j := 0) HS rfl rfl rfl rfl na2 rfl ?_
  refine GO.fn rfl Try.func131 fok131.1 fok131.2 rfl rfl (slices_Contains_int64_int64.calls HS (RdIn.drop 2 h_v0_2) h4) (fun _ wd5 ⟨h6, HS⟩ => ⟨_, h6, ?_⟩)
  refine GO.assign rfl rfl rfl ?_
  refine GO.nil ?_
  obtain rfl := Option.some.inj H
  exact G.ret1 _ Try.func130 rfl rfl ⟨rfl, (HS.pk 2 [1] rfl)⟩

set_option maxRecDepth 20000 in
set_option maxHeartbeats 40000000 in
theorem impl_Diagram_next.calls {w0 w : World} {L : List HObj} {d_Crossings : List GCrossing} {d_Circles : Int} {a_from : List GEnd} {a_to : List GEnd} {arc : Int} {A_d_Crossings : Option Addr} {c_d_Crossings : Nat} {A_a_from : Option Addr} {c_a_from : Nat} {A_a_to : Option Addr} {c_a_to : Nat} {r1 : Int} (HS : St w0 w (L)) (h_d_Crossings : RdIn w0 L T_GCrossing A_d_Crossings c_d_Crossings (fun _ => ()) d_Crossings) (h_a_from : RdIn w0 L T_GEnd A_a_from c_a_from (fun _ => ()) a_from) (h_a_to : RdIn w0 L T_GEnd A_a_to c_a_to (fun _ => ()) a_to) (H : impl_Diagram_next.f d_Crossings d_Circles a_from a_to arc = some r1) :
    Calls Try.prog 132 #[.agg [.slice A_d_Crossings d_Crossings.length c_d_Crossings, .int .i64 d_Circles].toArray, .agg [.slice A_a_from a_from.length c_a_from, .slice A_a_to a_to.length c_a_to].toArray, .int .i64 arc] w (impl_Diagram_next.post w0 L d_Crossings d_Circles a_from a_to arc A_d_Crossings c_d_Crossings A_a_from c_a_from A_a_to c_a_to r1) := by
  unfold impl_Diagram_next.f at H
  refine Calls.of_G Try.func132 rfl rfl rfl ?_
  refine G.seq ?_
  refine G.region ?_
  refine GO.box (cs := [.slice A_d_Crossings d_Crossings.length c_d_Crossings, .int .i64 d_Circles]) HS rfl rfl rfl rfl ?_; intro b1 wd2 HS
  refine GO.box (cs := [.slice A_a_from a_from.length c_a_from, .slice A_a_to a_to.length c_a_to]) HS rfl rfl rfl rfl ?_; intro b3 wd4 HS
  refine GO.assign rfl rfl rfl ?_
  refine GO.nil ?_
  refine G.seq ?_
  obtain ⟨c5, H⟩ := ite_none H
  obtain ⟨e6, h7, H⟩ := bnd_elim H
  refine G.region ?_
  refine GO.fld (⟨b3, 1, none⟩) rfl rfl fl63_1 rfl rfl ?_
  refine GO.ldBox (j := 0) HS rfl rfl rfl rfl na61 rfl ?_
  refine GO.move rfl rfl rfl ?_
  refine GO.ix rfl rfl rfl Try.underlying61 sz68 ((RdIn.drop 2 h_a_to) _ HS).2.2.1 c5.1 c5.2 rfl ?_
  refine GO.ldRdA (T := T_GEnd) (n := arc.toNat) HS (RdIn.drop 2 h_a_to) rfl rfl (getD_eq (ltN c5) h7) ag68 rfl ?_
  refine GO.alloc HS rfl zr68 rfl rfl ?_; intro b8 wd9 HS
  refine GO.stBox (j := 0) (vs := [.int .i64 e6.crossing, .int .i64 e6.position]) ([.int .i64 e6.crossing, .int .i64 e6.position]) HS rfl rfl rfl rfl rfl (htA ag68) rfl rfl rfl ?_; intro wd10 HS
  refine GO.nil ?_
  refine G.seq ?_
  obtain ⟨c11, H⟩ := ite_none H
  obtain ⟨e12, h13, H⟩ := bnd_elim H
  obtain ⟨t14, t15, t16, t17, h18, H⟩ := bind4_elim H
  obtain ⟨c21, H⟩ := ite_none H
  refine G.regionAny mixed (by decide) (fun b a w => ∃ (Y1_0 : Value) (Y2_1 : Value) (Y3_2 : Value) (Y4_3 : Value) (Y5_4 : Value) (Y6_5 : Value) (Y7_6 : Value) (Y8_7 : Value) (Y9_8 : Value) (Y10_9 : Value) (Y11_10 : Value) (Y12_11 : Value) (Y13_12 : Value), Sat 25 [(6, Y13_12), (13, Y1_0), (14, Y2_1), (15, Y3_2), (16, Y4_3), (17, Y5_4), (18, Y6_5), (19, Y7_6), (20, Y8_7), (21, Y9_8), (22, Y10_9), (23, Y11_10), (24, Y12_11), (3, .pointer (some ⟨b1, 0, none⟩)), (7, .pointer (some ⟨b8, 0, none⟩))] a ∧ St w0 w (Box b8 68 [.int .i64 e6.crossing, .int .i64 e6.position] :: Box b3 63 [.slice A_a_from a_from.length c_a_from, .slice A_a_to a_to.length c_a_to] :: Box b1 28 [.slice A_d_Crossings d_Crossings.length c_d_Crossings, .int .i64 d_Circles] :: L) ∧ (b 12 = true → Y13_12 = (.int .i64 (([t14, t15, t16, t17] : List Int).getD ((w64 (e6.position + 2)).tmod 4).toNat 0))) ∧ (b 0 = true → Y1_0 = (.pointer (some ⟨b1, 0, none⟩))) ∧ (b 1 = true → Y2_1 = (.slice A_d_Crossings d_Crossings.length c_d_Crossings)) ∧ (b 2 = true → Y3_2 = (.pointer (some ⟨b8, 0, none⟩))) ∧ (b 3 = true → Y4_3 = (.int .i64 e6.crossing)) ∧ (b 4 = true → Y5_4 = (.pointer (some (ea A_d_Crossings (e6.crossing.toNat * 5))))) ∧ (b 5 = true → Y6_5 = (.agg [.int .i64 e12.A, .int .i64 e12.B, .int .i64 e12.C, .int .i64 e12.D, .int .i64 e12.Sign].toArray)) ∧ (b 6 = true → Y7_6 = (.agg [.int .i64 t14, .int .i64 t15, .int .i64 t16, .int .i64 t17].toArray)) ∧ (b 7 = true → Y8_7 = (.pointer (some ⟨b8, 1, none⟩))) ∧ (b 8 = true → Y9_8 = (.int .i64 e6.position)) ∧ (b 9 = true → Y10_9 = (.int .i64 (w64 (e6.position + 2)))) ∧ (b 10 = true → Y11_10 = (.int .i64 ((w64 (e6.position + 2)).tmod 4))) ∧ (b 11 = true → Y12_11 = (.int .i64 (([t14, t15, t16, t17] : List Int).getD ((w64 (e6.position + 2)).tmod 4).toNat 0)))) ?_ ?_ ?_
  ·
   intro a hs
   obtain ⟨Y13_12, hs⟩ := hs.ext (d := 6) rfl
   obtain ⟨Y1_0, hs⟩ := hs.ext (d := 13) rfl
   obtain ⟨Y2_1, hs⟩ := hs.ext (d := 14) rfl
   obtain ⟨Y3_2, hs⟩ := hs.ext (d := 15) rfl
   obtain ⟨Y4_3, hs⟩ := hs.ext (d := 16) rfl
   obtain ⟨Y5_4, hs⟩ := hs.ext (d := 17) rfl
   obtain ⟨Y6_5, hs⟩ := hs.ext (d := 18) rfl
   obtain ⟨Y7_6, hs⟩ := hs.ext (d := 19) rfl
   obtain ⟨Y8_7, hs⟩ := hs.ext (d := 20) rfl
   obtain ⟨Y9_8, hs⟩ := hs.ext (d := 21) rfl
   obtain ⟨Y10_9, hs⟩ := hs.ext (d := 22) rfl
   obtain ⟨Y11_10, hs⟩ := hs.ext (d := 23) rfl
   obtain ⟨Y12_11, hs⟩ := hs.ext (d := 24) rfl
   exact ⟨Y1_0, Y2_1, Y3_2, Y4_3, Y5_4, Y6_5, Y7_6, Y8_7, Y9_8, Y10_9, Y11_10, Y12_11, Y13_12, hs.weak ⟨rfl, rfl, rfl, rfl, rfl, rfl, rfl, rfl, rfl, rfl, rfl, rfl, rfl, rfl, rfl, trivial⟩, (HS.drew.pk 3 [0, 1, 2] rfl), fun h => Bool.noConfusion h, fun h => Bool.noConfusion h, fun h => Bool.noConfusion h, fun h => Bool.noConfusion h, fun h => Bool.noConfusion h, fun h => Bool.noConfusion h, fun h => Bool.noConfusion h, fun h => Bool.noConfusion h, fun h => Bool.noConfusion h, fun h => Bool.noConfusion h, fun h => Bool.noConfusion h, fun h => Bool.noConfusion h, fun h => Bool.noConfusion h⟩
  ·
   intro j hj b a w
   refine exI fun Y1_0 => exI fun Y2_1 => exI fun Y3_2 => exI fun Y4_3 => exI fun Y5_4 => exI fun Y6_5 => exI fun Y7_6 => exI fun Y8_7 => exI fun Y9_8 => exI fun Y10_9 => exI fun Y11_10 => exI fun Y12_11 => exI fun Y13_12 => anI fun hs => anI fun HS => anI fun f12 => anI fun f0 => anI fun f1 => anI fun f2 => anI fun f3 => anI fun f4 => anI fun f5 => anI fun f6 => anI fun f7 => anI fun f8 => anI fun f9 => anI fun f10 => fun f11 hb hd hcl => ?_
   match j, hj with
   | 0, _ =>
    refine GO.at hs ?_
    refine GO.fld (⟨b1, 0, none⟩) rfl rfl fl28_0 rfl rfl ?_
    refine GO.fin (fun a hs => ?_)
    exact ⟨(.pointer (some ⟨b1, 0, none⟩)), _, _, _, _, _, _, _, _, _, _, _, _, by exact hs.setAt 1 rfl, HS, f12, fun _ => rfl, f1, f2, f3, f4, f5, f6, f7, f8, f9, f10, f11⟩
   | 1, _ =>
    have hb0 : b 0 = true := hd 0 (by decide)
    obtain rfl := f0 hb0
    refine GO.at hs ?_
    refine GO.ldBox (j := 2) HS rfl rfl rfl rfl na26 rfl ?_
    refine GO.fin (fun a hs => ?_)
    exact ⟨_, (.slice A_d_Crossings d_Crossings.length c_d_Crossings), _, _, _, _, _, _, _, _, _, _, _, by exact hs.setAt 2 rfl, HS, f12, f0, fun _ => rfl, f2, f3, f4, f5, f6, f7, f8, f9, f10, f11⟩
   | 2, _ =>
    refine GO.at hs ?_
    refine GO.fld (⟨b8, 0, none⟩) rfl rfl fl68_0 rfl rfl ?_
    refine GO.fin (fun a hs => ?_)
    exact ⟨_, _, (.pointer (some ⟨b8, 0, none⟩)), _, _, _, _, _, _, _, _, _, _, by exact hs.setAt 3 rfl, HS, f12, f0, f1, fun _ => rfl, f3, f4, f5, f6, f7, f8, f9, f10, f11⟩
   | 3, _ =>
    have hb2 : b 2 = true := hd 2 (by decide)
    obtain rfl := f2 hb2
    refine GO.at hs ?_
    refine GO.ldBox (j := 0) HS rfl rfl rfl rfl na2 rfl ?_
    refine GO.fin (fun a hs => ?_)
    exact ⟨_, _, _, (.int .i64 e6.crossing), _, _, _, _, _, _, _, _, _, by exact hs.setAt 4 rfl, HS, f12, f0, f1, f2, fun _ => rfl, f4, f5, f6, f7, f8, f9, f10, f11⟩
   | 4, _ =>
    have hb1 : b 1 = true := hd 1 (by decide)
    obtain rfl := f1 hb1
    have hb3 : b 3 = true := hd 3 (by decide)
    obtain rfl := f3 hb3
    refine GO.at hs ?_
    refine GO.ix rfl rfl rfl Try.underlying26 sz58 ((RdIn.drop 3 h_d_Crossings) _ HS).2.2.1 c11.1 c11.2 rfl ?_
    refine GO.fin (fun a hs => ?_)
    exact ⟨_, _, _, _, (.pointer (some (ea A_d_Crossings (e6.crossing.toNat * 5)))), _, _, _, _, _, _, _, _, by exact hs.setAt 5 rfl, HS, f12, f0, f1, f2, f3, fun _ => rfl, f5, f6, f7, f8, f9, f10, f11⟩
   | 5, _ =>
    have hb4 : b 4 = true := hd 4 (by decide)
    obtain rfl := f4 hb4
    refine GO.at hs ?_
    refine GO.ldRdA (T := T_GCrossing) (n := e6.crossing.toNat) HS (RdIn.drop 3 h_d_Crossings) rfl rfl (getD_eq (ltN c11) h13) ag58 rfl ?_
    refine GO.fin (fun a hs => ?_)
    exact ⟨_, _, _, _, _, (.agg [.int .i64 e12.A, .int .i64 e12.B, .int .i64 e12.C, .int .i64 e12.D, .int .i64 e12.Sign].toArray), _, _, _, _, _, _, _, by exact hs.setAt 6 rfl, HS, f12, f0, f1, f2, f3, f4, fun _ => rfl, f6, f7, f8, f9, f10, f11⟩
   | 6, _ =>
    have hb5 : b 5 = true := hd 5 (by decide)
    obtain rfl := f5 hb5
    refine GO.at hs ?_
    refine GO.fn rfl Try.func75 fok75.1 fok75.2 rfl rfl (impl_Crossing_ends.calls HS  h18) (fun _ wd19 ⟨h20, HS⟩ => ⟨_, h20, ?_⟩)
    refine GO.fin (fun a hs => ?_)
    exact ⟨_, _, _, _, _, _, (.agg [.int .i64 t14, .int .i64 t15, .int .i64 t16, .int .i64 t17].toArray), _, _, _, _, _, _, by exact hs.setAt 7 rfl, HS, f12, f0, f1, f2, f3, f4, f5, fun _ => rfl, f7, f8, f9, f10, f11⟩
   | 7, _ =>
    refine GO.at hs ?_
    refine GO.fld (⟨b8, 1, none⟩) rfl rfl fl68_1 rfl rfl ?_
    refine GO.fin (fun a hs => ?_)
    exact ⟨_, _, _, _, _, _, _, (.pointer (some ⟨b8, 1, none⟩)), _, _, _, _, _, by exact hs.setAt 8 rfl, HS, f12, f0, f1, f2, f3, f4, f5, f6, fun _ => rfl, f8, f9, f10, f11⟩
   | 8, _ =>
    have hb7 : b 7 = true := hd 7 (by decide)
    obtain rfl := f7 hb7
    refine GO.at hs ?_
    refine GO.ldBox (j := 0) HS rfl rfl rfl rfl na2 rfl ?_
    refine GO.fin (fun a hs => ?_)
    exact ⟨_, _, _, _, _, _, _, _, (.int .i64 e6.position), _, _, _, _, by exact hs.setAt 9 rfl, HS, f12, f0, f1, f2, f3, f4, f5, f6, f7, fun _ => rfl, f9, f10, f11⟩
   | 9, _ =>
    have hb8 : b 8 = true := hd 8 (by decide)
    obtain rfl := f8 hb8
    refine GO.at hs ?_
    refine GO.add rfl rfl rfl rfl ?_
    refine GO.fin (fun a hs => ?_)
    exact ⟨_, _, _, _, _, _, _, _, _, (.int .i64 (w64 (e6.position + 2))), _, _, _, by exact hs.setAt 10 rfl, HS, f12, f0, f1, f2, f3, f4, f5, f6, f7, f8, fun _ => rfl, f10, f11⟩
   | 10, _ =>
    have hb9 : b 9 = true := hd 9 (by decide)
    obtain rfl := f9 hb9
    refine GO.at hs ?_
    refine GO.rem rfl rfl rfl (by decide) rfl ?_
    refine GO.fin (fun a hs => ?_)
    exact ⟨_, _, _, _, _, _, _, _, _, _, (.int .i64 ((w64 (e6.position + 2)).tmod 4)), _, _, by exact hs.setAt 11 rfl, HS, f12, f0, f1, f2, f3, f4, f5, f6, f7, f8, f9, fun _ => rfl, f11⟩
   | 11, _ =>
    have hb6 : b 6 = true := hd 6 (by decide)
    obtain rfl := f6 hb6
    have hb10 : b 10 = true := hd 10 (by decide)
    obtain rfl := f10 hb10
    refine GO.at hs ?_
    refine GO.ixArr ([t14, t15, t16, t17] : List Int) rfl rfl rfl Try.underlying93 Try.underlying2 sz2 rfl c21.1 c21.2 rfl ?_
    refine GO.fin (fun a hs => ?_)
    exact ⟨_, _, _, _, _, _, _, _, _, _, _, (.int .i64 (([t14, t15, t16, t17] : List Int).getD ((w64 (e6.position + 2)).tmod 4).toNat 0)), _, by exact hs.setAt 12 rfl, HS, f12, f0, f1, f2, f3, f4, f5, f6, f7, f8, f9, f10, fun _ => rfl⟩
   | 12, _ =>
    have hb11 : b 11 = true := hd 11 (by decide)
    obtain rfl := f11 hb11
    refine GO.at hs ?_
    refine GO.assign rfl rfl rfl ?_
    refine GO.fin (fun a hs => ?_)
    exact ⟨_, _, _, _, _, _, _, _, _, _, _, _, (.int .i64 (([t14, t15, t16, t17] : List Int).getD ((w64 (e6.position + 2)).tmod 4).toNat 0)), by exact hs.setAt 0 rfl, HS, fun _ => rfl, f0, f1, f2, f3, f4, f5, f6, f7, f8, f9, f10, f11⟩
   | k + 13, hj => exact absurd hj (Nat.not_lt.2 (Nat.le_add_left 13 k))
  ·
   intro b a w hall
   refine exI fun Y1_0 => exI fun Y2_1 => exI fun Y3_2 => exI fun Y4_3 => exI fun Y5_4 => exI fun Y6_5 => exI fun Y7_6 => exI fun Y8_7 => exI fun Y9_8 => exI fun Y10_9 => exI fun Y11_10 => exI fun Y12_11 => exI fun Y13_12 => anI fun hs => anI fun HS => anI fun f12 => anI fun f0 => anI fun f1 => anI fun f2 => anI fun f3 => anI fun f4 => anI fun f5 => anI fun f6 => anI fun f7 => anI fun f8 => anI fun f9 => anI fun f10 => fun f11 => ?_
   obtain rfl := f12 (hall 12 (by decide))
   obtain rfl := f0 (hall 0 (by decide))
   obtain rfl := f1 (hall 1 (by decide))
   obtain rfl := f2 (hall 2 (by decide))
   obtain rfl := f3 (hall 3 (by decide))
   obtain rfl := f4 (hall 4 (by decide))
   obtain rfl := f5 (hall 5 (by decide))
   obtain rfl := f6 (hall 6 (by decide))
   obtain rfl := f7 (hall 7 (by decide))
   obtain rfl := f8 (hall 8 (by decide))
   obtain rfl := f9 (hall 9 (by decide))
   obtain rfl := f10 (hall 10 (by decide))
   obtain rfl := f11 (hall 11 (by decide))
   refine G.at hs ?_
   obtain rfl := Option.some.inj H
   exact G.ret1 _ Try.func132 rfl rfl ⟨rfl, (HS.pk 3 [] rfl)⟩

set_option maxRecDepth 20000 in
set_option maxHeartbeats 40000000 in
theorem impl_crossingOf.calls {w0 w : World} {L : List HObj} {ends_0 : Int} {ends_1 : Int} {ends_2 : Int} {ends_3 : Int} {sign : Int} {r1 : Int} {r2 : Int} {r3 : Int} {r4 : Int} {r5 : Int} (HS : St w0 w (L)) (H : impl_crossingOf.f ends_0 ends_1 ends_2 ends_3 sign = some (r1, r2, r3, r4, r5)) :
    Calls Try.prog 113 #[.agg [.int .i64 ends_0, .int .i64 ends_1, .int .i64 ends_2, .int .i64 ends_3].toArray, .int .i64 sign] w (impl_crossingOf.post w0 L ends_0 ends_1 ends_2 ends_3 sign r1 r2 r3 r4 r5) := by
  unfold impl_crossingOf.f at H
  refine Calls.of_G Try.func113 rfl rfl rfl ?_
  refine G.seq ?_
  refine G.region ?_
  refine GO.box (cs := [.int .i64 ends_0, .int .i64 ends_1, .int .i64 ends_2, .int .i64 ends_3]) HS rfl rfl rfl rfl ?_; intro b1 wd2 HS
  refine GO.alloc HS rfl zr58 rfl rfl ?_; intro b3 wd4 HS
  refine GO.nil ?_
  refine G.seq ?_
  refine G.region ?_
  refine GO.ixP 0 rfl rfl rfl rfl Try.underlying93 sz2 rfl rfl ?_
  refine GO.ldBox (j := 1) HS rfl rfl rfl rfl na2 rfl ?_
  refine GO.ixP 1 rfl rfl rfl rfl Try.underlying93 sz2 rfl rfl ?_
  refine GO.ldBox (j := 1) HS rfl rfl rfl rfl na2 rfl ?_
  refine GO.ixP 2 rfl rfl rfl rfl Try.underlying93 sz2 rfl rfl ?_
  refine GO.ldBox (j := 1) HS rfl rfl rfl rfl na2 rfl ?_
  refine GO.ixP 3 rfl rfl rfl rfl Try.underlying93 sz2 rfl rfl ?_
  refine GO.ldBox (j := 1) HS rfl rfl rfl rfl na2 rfl ?_
  refine GO.move rfl rfl rfl ?_
  refine GO.buildV (.agg [.int .i64 ends_0, .int .i64 ends_1, .int .i64 ends_2, .int .i64 ends_3, .int .i64 sign].toArray) rfl rfl (fun _ => by kernel_rfl) rfl ?_
  refine GO.stBox (j := 0) (vs := [.int .i64 ends_0, .int .i64 ends_1, .int .i64 ends_2, .int .i64 ends_3, .int .i64 sign]) ([.int .i64 ends_0, .int .i64 ends_1, .int .i64 ends_2, .int .i64 ends_3, .int .i64 sign]) HS rfl rfl rfl rfl rfl (htA ag58) rfl rfl rfl ?_; intro wd5 HS
  refine GO.nil ?_
  obtain ⟨rfl, rfl, rfl, rfl, rfl⟩ := some5 H
  exact G.ret1 _ Try.func113 rfl (Res1.boxA (j := 0) (vs := [.int .i64 ends_0, .int .i64 ends_1, .int .i64 ends_2, .int .i64 ends_3, .int .i64 sign]) HS rfl rfl rfl ag58) ⟨rfl, (HS.pk 2 [] rfl)⟩

set_option maxRecDepth 20000 in
set_option maxHeartbeats 40000000 in
theorem impl_Diagram_set.calls {w0 w : World} {L : List HObj} {d_Crossings : List GCrossing} {d_Circles : Int} {e_crossing : Int} {e_position : Int} {arc : Int} {A_d_Crossings : Option Addr} {c_d_Crossings : Nat} {r1 : List GCrossing} (HS : St w0 w (Own T_GCrossing 58 A_d_Crossings c_d_Crossings (fun _ => ()) d_Crossings :: L)) (H : impl_Diagram_set.f d_Crossings d_Circles e_crossing e_position arc = some r1) :
    Calls Try.prog 50 #[.agg [.slice A_d_Crossings d_Crossings.length c_d_Crossings, .int .i64 d_Circles].toArray, .agg [.int .i64 e_crossing, .int .i64 e_position].toArray, .int .i64 arc] w (impl_Diagram_set.post w0 L d_Crossings d_Circles e_crossing e_position arc A_d_Crossings c_d_Crossings r1) := by
  unfold impl_Diagram_set.f at H
  refine Calls.of_G Try.func50 rfl rfl rfl ?_
  refine G.seq ?_
  refine G.region ?_
  refine GO.box (cs := [.slice A_d_Crossings d_Crossings.length c_d_Crossings, .int .i64 d_Circles]) HS rfl rfl rfl rfl ?_; intro b1 wd2 HS
  refine GO.box (cs := [.int .i64 e_crossing, .int .i64 e_position]) HS rfl rfl rfl rfl ?_; intro b3 wd4 HS
  refine GO.nil ?_
  refine G.seq ?_
  obtain ⟨c5, H⟩ := ite_none H
  obtain ⟨e6, h7, H⟩ := bnd_elim H
  refine G.region ?_
  refine GO.fld (⟨b1, 0, none⟩) rfl rfl fl28_0 rfl rfl ?_
  refine GO.ldBox (j := 1) HS rfl rfl rfl rfl na26 rfl ?_
  refine GO.fld (⟨b3, 0, none⟩) rfl rfl fl68_0 rfl rfl ?_
  refine GO.ldBox (j := 0) HS rfl rfl rfl rfl na2 rfl ?_
  refine GO.ix rfl rfl rfl Try.underlying26 sz58 ((RdIn.own (j := 2) rfl) _ HS).2.2.1 c5.1 c5.2 rfl ?_
  refine GO.ldRdA (T := T_GCrossing) (n := e_crossing.toNat) HS (RdIn.own (j := 2) rfl) rfl rfl (getD_eq (ltN c5) h7) ag58 rfl ?_
  refine GO.alloc HS rfl zr58 rfl rfl ?_; intro b8 wd9 HS
  refine GO.stBox (j := 0) (vs := [.int .i64 e6.A, .int .i64 e6.B, .int .i64 e6.C, .int .i64 e6.D, .int .i64 e6.Sign]) ([.int .i64 e6.A, .int .i64 e6.B, .int .i64 e6.C, .int .i64 e6.D, .int .i64 e6.Sign]) HS rfl rfl rfl rfl rfl (htA ag58) rfl rfl rfl ?_; intro wd10 HS
  refine GO.nil ?_
  refine G.seq ?_
  obtain ⟨t11, t12, t13, t14, h15, H⟩ := bind4_elim H
  refine G.region ?_
  refine GO.ldBoxA (j := 0) ([.int .i64 e6.A, .int .i64 e6.B, .int .i64 e6.C, .int .i64 e6.D, .int .i64 e6.Sign]) HS rfl rfl rfl rfl ag58 rfl ?_
  refine GO.fn rfl Try.func75 fok75.1 fok75.2 rfl rfl (impl_Crossing_ends.calls HS  h15) (fun _ wd16 ⟨h17, HS⟩ => ⟨_, h17, ?_⟩)
  refine GO.alloc HS rfl zr93 rfl rfl ?_; intro b18 wd19 HS
  refine GO.stBox (j := 0) (vs := [.int .i64 t11, .int .i64 t12, .int .i64 t13, .int .i64 t14]) ([.int .i64 t11, .int .i64 t12, .int .i64 t13, .int .i64 t14]) HS rfl rfl rfl rfl rfl (htA ag93) rfl rfl rfl ?_; intro wd20 HS
  refine GO.nil ?_
  refine G.seq ?_
  rcases ite_elim H with ⟨c21, H⟩ | ⟨c21, H⟩
  ·
   refine G.region ?_
   refine GO.fld (⟨b3, 1, none⟩) rfl rfl fl68_1 rfl rfl ?_
   refine GO.ldBox (j := 2) HS rfl rfl rfl rfl na2 rfl ?_
   refine GO.move rfl rfl rfl ?_
   refine GO.ixP 0 rfl rfl rfl c21 Try.underlying93 sz2 rfl rfl ?_
   refine GO.stBox (j := 0) (vs := [.int .i64 arc]) ([.int .i64 arc, .int .i64 t12, .int .i64 t13, .int .i64 t14]) HS rfl rfl rfl rfl rfl (htN na2 rfl) rfl rfl rfl ?_; intro wd22 HS
   refine GO.nil ?_
   obtain ⟨t23, t24, t25, t26, t27, h28, H⟩ := bind5_elim H
   have h31 := ((RdIn.own (j := 4) rfl) _ HS).2.2.1
   refine G.regionAny mixed (by decide) (fun b a w => ∃ (Y1_0 : Value) (Y2_1 : Value) (Y3_2 : Value) (Y4_3 : Value) (Y5_4 : Value) (Y6_5 : Value) (Y7_6 : Value) (Y8_7 : Value) (Y9_8 : Value) (O10_1 : HObj), Sat 29 [(20, Y1_0), (21, Y2_1), (22, Y3_2), (23, Y4_3), (24, Y5_4), (25, Y6_5), (26, Y7_6), (27, Y8_7), (28, Y9_8), (3, .pointer (some ⟨b1, 0, none⟩)), (4, .pointer (some ⟨b3, 0, none⟩)), (6, .pointer (some ⟨b8, 0, none⟩)), (7, .pointer (some ⟨b18, 0, none⟩))] a ∧ St w0 w (Box b18 93 [.int .i64 arc, .int .i64 t12, .int .i64 t13, .int .i64 t14] :: Box b8 58 [.int .i64 e6.A, .int .i64 e6.B, .int .i64 e6.C, .int .i64 e6.D, .int .i64 e6.Sign] :: Box b3 68 [.int .i64 e_crossing, .int .i64 e_position] :: Box b1 28 [.slice A_d_Crossings d_Crossings.length c_d_Crossings, .int .i64 d_Circles] :: O10_1 :: L) ∧ (b 0 = true → Y1_0 = (.pointer (some ⟨b1, 0, none⟩))) ∧ (b 1 = true → Y2_1 = (.slice A_d_Crossings d_Crossings.length c_d_Crossings)) ∧ (b 2 = true → Y3_2 = (.pointer (some ⟨b3, 0, none⟩))) ∧ (b 3 = true → Y4_3 = (.int .i64 e_crossing)) ∧ (b 4 = true → Y5_4 = (.agg [.int .i64 arc, .int .i64 t12, .int .i64 t13, .int .i64 t14].toArray)) ∧ (b 5 = true → Y6_5 = (.pointer (some ⟨b8, 4, none⟩))) ∧ (b 6 = true → Y7_6 = (.int .i64 e6.Sign)) ∧ (b 7 = true → Y8_7 = (.agg [.int .i64 t23, .int .i64 t24, .int .i64 t25, .int .i64 t26, .int .i64 t27].toArray)) ∧ (b 8 = true → Y9_8 = (.pointer (some (ea A_d_Crossings (e_crossing.toNat * 5))))) ∧ (b 9 = false → O10_1 = Own T_GCrossing 58 A_d_Crossings c_d_Crossings (fun _ => ()) d_Crossings) ∧ (b 9 = true → O10_1 = Own T_GCrossing 58 A_d_Crossings c_d_Crossings (fun _ => ()) (d_Crossings.set e_crossing.toNat (⟨t23, t24, t25, t26, t27⟩ : GCrossing)))) ?_ ?_ ?_
   ·
    intro a hs
    obtain ⟨Y1_0, hs⟩ := hs.ext (d := 20) rfl
    obtain ⟨Y2_1, hs⟩ := hs.ext (d := 21) rfl
    obtain ⟨Y3_2, hs⟩ := hs.ext (d := 22) rfl
    obtain ⟨Y4_3, hs⟩ := hs.ext (d := 23) rfl
    obtain ⟨Y5_4, hs⟩ := hs.ext (d := 24) rfl
    obtain ⟨Y6_5, hs⟩ := hs.ext (d := 25) rfl
    obtain ⟨Y7_6, hs⟩ := hs.ext (d := 26) rfl
    obtain ⟨Y8_7, hs⟩ := hs.ext (d := 27) rfl
    obtain ⟨Y9_8, hs⟩ := hs.ext (d := 28) rfl
    exact ⟨Y1_0, Y2_1, Y3_2, Y4_3, Y5_4, Y6_5, Y7_6, Y8_7, Y9_8, Own T_GCrossing 58 A_d_Crossings c_d_Crossings (fun _ => ()) d_Crossings, hs.weak ⟨rfl, rfl, rfl, rfl, rfl, rfl, rfl, rfl, rfl, rfl, rfl, rfl, rfl, trivial⟩, (HS.drew.pk 5 [0, 1, 2, 3, 4] rfl), fun h => Bool.noConfusion h, fun h => Bool.noConfusion h, fun h => Bool.noConfusion h, fun h => Bool.noConfusion h, fun h => Bool.noConfusion h, fun h => Bool.noConfusion h, fun h => Bool.noConfusion h, fun h => Bool.noConfusion h, fun h => Bool.noConfusion h, fun _ => rfl, fun h => Bool.noConfusion h⟩
   ·
    intro j hj b a w
    refine exI fun Y1_0 => exI fun Y2_1 => exI fun Y3_2 => exI fun Y4_3 => exI fun Y5_4 => exI fun Y6_5 => exI fun Y7_6 => exI fun Y8_7 => exI fun Y9_8 => exI fun O10_1 => anI fun hs => anI fun HS => anI fun f0 => anI fun f1 => anI fun f2 => anI fun f3 => anI fun f4 => anI fun f5 => anI fun f6 => anI fun f7 => anI fun f8 => anI fun o1_0 => fun o1_1 hb hd hcl => ?_
    match j, hj with
    | 0, _ =>
     refine GO.at hs ?_
     refine GO.fld (⟨b1, 0, none⟩) rfl rfl fl28_0 rfl rfl ?_
     refine GO.fin (fun a hs => ?_)
     exact ⟨(.pointer (some ⟨b1, 0, none⟩)), _, _, _, _, _, _, _, _, _, by exact hs.setAt 0 rfl, HS, fun _ => rfl, f1, f2, f3, f4, f5, f6, f7, f8, o1_0, o1_1⟩
    | 1, _ =>
     have hb0 : b 0 = true := hd 0 (by decide)
     obtain rfl := f0 hb0
     refine GO.at hs ?_
     refine GO.ldBox (j := 3) HS rfl rfl rfl rfl na26 rfl ?_
     refine GO.fin (fun a hs => ?_)
     exact ⟨_, (.slice A_d_Crossings d_Crossings.length c_d_Crossings), _, _, _, _, _, _, _, _, by exact hs.setAt 1 rfl, HS, f0, fun _ => rfl, f2, f3, f4, f5, f6, f7, f8, o1_0, o1_1⟩
    | 2, _ =>
     refine GO.at hs ?_
     refine GO.fld (⟨b3, 0, none⟩) rfl rfl fl68_0 rfl rfl ?_
     refine GO.fin (fun a hs => ?_)
     exact ⟨_, _, (.pointer (some ⟨b3, 0, none⟩)), _, _, _, _, _, _, _, by exact hs.setAt 2 rfl, HS, f0, f1, fun _ => rfl, f3, f4, f5, f6, f7, f8, o1_0, o1_1⟩
    | 3, _ =>
     have hb2 : b 2 = true := hd 2 (by decide)
     obtain rfl := f2 hb2
     refine GO.at hs ?_
     refine GO.ldBox (j := 2) HS rfl rfl rfl rfl na2 rfl ?_
     refine GO.fin (fun a hs => ?_)
     exact ⟨_, _, _, (.int .i64 e_crossing), _, _, _, _, _, _, by exact hs.setAt 3 rfl, HS, f0, f1, f2, fun _ => rfl, f4, f5, f6, f7, f8, o1_0, o1_1⟩
    | 4, _ =>
     refine GO.at hs ?_
     refine GO.ldBoxA (j := 0) ([.int .i64 arc, .int .i64 t12, .int .i64 t13, .int .i64 t14]) HS rfl rfl rfl rfl ag93 rfl ?_
     refine GO.fin (fun a hs => ?_)
     exact ⟨_, _, _, _, (.agg [.int .i64 arc, .int .i64 t12, .int .i64 t13, .int .i64 t14].toArray), _, _, _, _, _, by exact hs.setAt 4 rfl, HS, f0, f1, f2, f3, fun _ => rfl, f5, f6, f7, f8, o1_0, o1_1⟩
    | 5, _ =>
     refine GO.at hs ?_
     refine GO.fld (⟨b8, 4, none⟩) rfl rfl fl58_4 rfl rfl ?_
     refine GO.fin (fun a hs => ?_)
     exact ⟨_, _, _, _, _, (.pointer (some ⟨b8, 4, none⟩)), _, _, _, _, by exact hs.setAt 5 rfl, HS, f0, f1, f2, f3, f4, fun _ => rfl, f6, f7, f8, o1_0, o1_1⟩
    | 6, _ =>
     have hb5 : b 5 = true := hd 5 (by decide)
     obtain rfl := f5 hb5
     refine GO.at hs ?_
     refine GO.ldBox (j := 1) HS rfl rfl rfl rfl na2 rfl ?_
     refine GO.fin (fun a hs => ?_)
     exact ⟨_, _, _, _, _, _, (.int .i64 e6.Sign), _, _, _, by exact hs.setAt 6 rfl, HS, f0, f1, f2, f3, f4, f5, fun _ => rfl, f7, f8, o1_0, o1_1⟩
    | 7, _ =>
     have hb4 : b 4 = true := hd 4 (by decide)
     obtain rfl := f4 hb4
     have hb6 : b 6 = true := hd 6 (by decide)
     obtain rfl := f6 hb6
     refine GO.at hs ?_
     refine GO.fn rfl Try.func113 fok113.1 fok113.2 rfl rfl (impl_crossingOf.calls HS  h28) (fun _ wd29 ⟨h30, HS⟩ => ⟨_, h30, ?_⟩)
     refine GO.fin (fun a hs => ?_)
     exact ⟨_, _, _, _, _, _, _, (.agg [.int .i64 t23, .int .i64 t24, .int .i64 t25, .int .i64 t26, .int .i64 t27].toArray), _, _, by exact hs.setAt 7 rfl, HS, f0, f1, f2, f3, f4, f5, f6, fun _ => rfl, f8, o1_0, o1_1⟩
    | 8, _ =>
     have hb1 : b 1 = true := hd 1 (by decide)
     obtain rfl := f1 hb1
     have hb3 : b 3 = true := hd 3 (by decide)
     obtain rfl := f3 hb3
     refine GO.at hs ?_
     refine GO.ix rfl rfl rfl Try.underlying26 sz58 h31 c5.1 c5.2 rfl ?_
     refine GO.fin (fun a hs => ?_)
     exact ⟨_, _, _, _, _, _, _, _, (.pointer (some (ea A_d_Crossings (e_crossing.toNat * 5)))), _, by exact hs.setAt 8 rfl, HS, f0, f1, f2, f3, f4, f5, f6, f7, fun _ => rfl, o1_0, o1_1⟩
    | 9, _ =>
     have hb7 : b 7 = true := hd 7 (by decide)
     obtain rfl := f7 hb7
     have hb8 : b 8 = true := hd 8 (by decide)
     obtain rfl := f8 hb8
     obtain rfl := o1_0 hb
     refine GO.at hs ?_
     refine GO.stRow (T := T_GCrossing) (j := 4) (n := e_crossing.toNat) (o := 0) (vs := [.int .i64 t23, .int .i64 t24, .int .i64 t25, .int .i64 t26, .int .i64 t27]) (⟨t23, t24, t25, t26, t27⟩ : GCrossing) HS rfl flat_flat rfl rfl rfl rfl (htA ag58) rfl (getD_some (d := z_GCrossing) (ltN c5)) rfl rfl ?_; intro wd32 HS
     refine GO.fin (fun a hs => ?_)
     exact ⟨_, _, _, _, _, _, _, _, _, Own T_GCrossing 58 A_d_Crossings c_d_Crossings (fun _ => ()) (d_Crossings.set e_crossing.toNat (⟨t23, t24, t25, t26, t27⟩ : GCrossing)), hs, HS, f0, f1, f2, f3, f4, f5, f6, f7, f8, fun h => Bool.noConfusion h, fun _ => rfl⟩
    | k + 10, hj => exact absurd hj (Nat.not_lt.2 (Nat.le_add_left 10 k))
   ·
    intro b a w hall
    refine exI fun Y1_0 => exI fun Y2_1 => exI fun Y3_2 => exI fun Y4_3 => exI fun Y5_4 => exI fun Y6_5 => exI fun Y7_6 => exI fun Y8_7 => exI fun Y9_8 => exI fun O10_1 => anI fun hs => anI fun HS => anI fun f0 => anI fun f1 => anI fun f2 => anI fun f3 => anI fun f4 => anI fun f5 => anI fun f6 => anI fun f7 => anI fun f8 => anI fun o1_0 => fun o1_1 => ?_
    obtain rfl := f0 (hall 0 (by decide))
    obtain rfl := f1 (hall 1 (by decide))
    obtain rfl := f2 (hall 2 (by decide))
    obtain rfl := f3 (hall 3 (by decide))
    obtain rfl := f4 (hall 4 (by decide))
    obtain rfl := f5 (hall 5 (by decide))
    obtain rfl := f6 (hall 6 (by decide))
    obtain rfl := f7 (hall 7 (by decide))
    obtain rfl := f8 (hall 8 (by decide))
    obtain rfl := o1_1 (hall 9 (by decide))
    refine G.at hs ?_
    replace HS := HS.boxEq (j := 3) (cs' := [.slice A_d_Crossings (d_Crossings.set e_crossing.toNat (⟨t23, t24, t25, t26, t27⟩ : GCrossing)).length c_d_Crossings, .int .i64 d_Circles]) rfl (by simp only [List.length_set] <;> rfl)
    obtain rfl := Option.some.inj H
    exact G.end0 Try.func50 rfl ⟨rfl, (HS.pk 5 [4] rfl)⟩
  ·
   rcases ite_elim H with ⟨c33, H⟩ | ⟨c33, H⟩
   ·
    refine G.region ?_
    refine GO.fld (⟨b3, 1, none⟩) rfl rfl fl68_1 rfl rfl ?_
    refine GO.ldBox (j := 2) HS rfl rfl rfl rfl na2 rfl ?_
    refine GO.move rfl rfl rfl ?_
    refine GO.ixP 1 rfl rfl rfl c33 Try.underlying93 sz2 rfl rfl ?_
    refine GO.stBox (j := 0) (vs := [.int .i64 arc]) ([.int .i64 t11, .int .i64 arc, .int .i64 t13, .int .i64 t14]) HS rfl rfl rfl rfl rfl (htN na2 rfl) rfl rfl rfl ?_; intro wd34 HS
    refine GO.nil ?_
    obtain ⟨t35, t36, t37, t38, t39, h40, H⟩ := bind5_elim H
    have h43 := ((RdIn.own (j := 4) rfl) _ HS).2.2.1
    refine G.regionAny mixed (by decide) (fun b a w => ∃ (Y11_0 : Value) (Y12_1 : Value) (Y13_2 : Value) (Y14_3 : Value) (Y15_4 : Value) (Y16_5 : Value) (Y17_6 : Value) (Y18_7 : Value) (Y19_8 : Value) (O20_1 : HObj), Sat 29 [(20, Y11_0), (21, Y12_1), (22, Y13_2), (23, Y14_3), (24, Y15_4), (25, Y16_5), (26, Y17_6), (27, Y18_7), (28, Y19_8), (3, .pointer (some ⟨b1, 0, none⟩)), (4, .pointer (some ⟨b3, 0, none⟩)), (6, .pointer (some ⟨b8, 0, none⟩)), (7, .pointer (some ⟨b18, 0, none⟩))] a ∧ St w0 w (Box b18 93 [.int .i64 t11, .int .i64 arc, .int .i64 t13, .int .i64 t14] :: Box b8 58 [.int .i64 e6.A, .int .i64 e6.B, .int .i64 e6.C, .int .i64 e6.D, .int .i64 e6.Sign] :: Box b3 68 [.int .i64 e_crossing, .int .i64 e_position] :: Box b1 28 [.slice A_d_Crossings d_Crossings.length c_d_Crossings, .int .i64 d_Circles] :: O20_1 :: L) ∧ (b 0 = true → Y11_0 = (.pointer (some ⟨b1, 0, none⟩))) ∧ (b 1 = true → Y12_1 = (.slice A_d_Crossings d_Crossings.length c_d_Crossings)) ∧ (b 2 = true → Y13_2 = (.pointer (some ⟨b3, 0, none⟩))) ∧ (b 3 = true → Y14_3 = (.int .i64 e_crossing)) ∧ (b 4 = true → Y15_4 = (.agg [.int .i64 t11, .int .i64 arc, .int .i64 t13, .int .i64 t14].toArray)) ∧ (b 5 = true → Y16_5 = (.pointer (some ⟨b8, 4, none⟩))) ∧ (b 6 = true → Y17_6 = (.int .i64 e6.Sign)) ∧ (b 7 = true → Y18_7 = (.agg [.int .i64 t35, .int .i64 t36, .int .i64 t37, .int .i64 t38, .int .i64 t39].toArray)) ∧ (b 8 = true → Y19_8 = (.pointer (some (ea A_d_Crossings (e_crossing.toNat * 5))))) ∧ (b 9 = false → O20_1 = Own T_GCrossing 58 A_d_Crossings c_d_Crossings (fun _ => ()) d_Crossings) ∧ (b 9 = true → O20_1 = Own T_GCrossing 58 A_d_Crossings c_d_Crossings (fun _ => ()) (d_Crossings.set e_crossing.toNat (⟨t35, t36, t37, t38, t39⟩ : GCrossing)))) ?_ ?_ ?_
    ·
     intro a hs
     obtain ⟨Y11_0, hs⟩ := hs.ext (d := 20) rfl
     obtain ⟨Y12_1, hs⟩ := hs.ext (d := 21) rfl
     obtain ⟨Y13_2, hs⟩ := hs.ext (d := 22) rfl
     obtain ⟨Y14_3, hs⟩ := hs.ext (d := 23) rfl
     obtain ⟨Y15_4, hs⟩ := hs.ext (d := 24) rfl
     obtain ⟨Y16_5, hs⟩ := hs.ext (d := 25) rfl
     obtain ⟨Y17_6, hs⟩ := hs.ext (d := 26) rfl
     obtain ⟨Y18_7, hs⟩ := hs.ext (d := 27) rfl
     obtain ⟨Y19_8, hs⟩ := hs.ext (d := 28) rfl
     exact ⟨Y11_0, Y12_1, Y13_2, Y14_3, Y15_4, Y16_5, Y17_6, Y18_7, Y19_8, Own T_GCrossing 58 A_d_Crossings c_d_Crossings (fun _ => ()) d_Crossings, hs.weak ⟨rfl, rfl, rfl, rfl, rfl, rfl, rfl, rfl, rfl, rfl, rfl, rfl, rfl, trivial⟩, (HS.drew.pk 5 [0, 1, 2, 3, 4] rfl), fun h => Bool.noConfusion h, fun h => Bool.noConfusion h, fun h => Bool.noConfusion h, fun h => Bool.noConfusion h, fun h => Bool.noConfusion h, fun h => Bool.noConfusion h, fun h => Bool.noConfusion h, fun h => Bool.noConfusion h, fun h => Bool.noConfusion h, fun _ => rfl, fun h => Bool.noConfusion h⟩
    ·
     intro j hj b a w
     refine exI fun Y11_0 => exI fun Y12_1 => exI fun Y13_2 => exI fun Y14_3 => exI fun Y15_4 => exI fun Y16_5 => exI fun Y17_6 => exI fun Y18_7 => exI fun Y19_8 => exI fun O20_1 => anI fun hs => anI fun HS => anI fun f0 => anI fun f1 => anI fun f2 => anI fun f3 => anI fun f4 => anI fun f5 => anI fun f6 => anI fun f7 => anI fun f8 => anI fun o1_0 => fun o1_1 hb hd hcl => ?_
     match j, hj with
     | 0, _ =>
      refine GO.at hs ?_
      refine GO.fld (⟨b1, 0, none⟩) rfl rfl fl28_0 rfl rfl ?_
      refine GO.fin (fun a hs => ?_)
      exact ⟨(.pointer (some ⟨b1, 0, none⟩)), _, _, _, _, _, _, _, _, _, by exact hs.setAt 0 rfl, HS, fun _ => rfl, f1, f2, f3, f4, f5, f6, f7, f8, o1_0, o1_1⟩
     | 1, _ =>
      have hb0 : b 0 = true := hd 0 (by decide)
      obtain rfl := f0 hb0
      refine GO.at hs ?_
      refine GO.ldBox (j := 3) HS rfl rfl rfl rfl na26 rfl ?_
      refine GO.fin (fun a hs => ?_)
      exact ⟨_, (.slice A_d_Crossings d_Crossings.length c_d_Crossings), _, _, _, _, _, _, _, _, by exact hs.setAt 1 rfl, HS, f0, fun _ => rfl, f2, f3, f4, f5, f6, f7, f8, o1_0, o1_1⟩
     | 2, _ =>
      refine GO.at hs ?_
      refine GO.fld (⟨b3, 0, none⟩) rfl rfl fl68_0 rfl rfl ?_
      refine GO.fin (fun a hs => ?_)
      exact ⟨_, _, (.pointer (some ⟨b3, 0, none⟩)), _, _, _, _, _, _, _, by exact hs.setAt 2 rfl, HS, f0, f1, fun _ => rfl, f3, f4, f5, f6, f7, f8, o1_0, o1_1⟩
     | 3, _ =>
      have hb2 : b 2 = true := hd 2 (by decide)
      obtain rfl := f2 hb2
      refine GO.at hs ?_
      refine GO.ldBox (j := 2) HS rfl rfl rfl rfl na2 rfl ?_
      refine GO.fin (fun a hs => ?_)
      exact ⟨_, _, _, (.int .i64 e_crossing), _, _, _, _, _, _, by exact hs.setAt 3 rfl, HS, f0, f1, f2, fun _ => rfl, f4, f5, f6, f7, f8, o1_0, o1_1⟩
     | 4, _ =>
      refine GO.at hs ?_
      refine GO.ldBoxA (j := 0) ([.int .i64 t11, .int .i64 arc, .int .i64 t13, .int .i64 t14]) HS rfl rfl rfl rfl ag93 rfl ?_
      refine GO.fin (fun a hs => ?_)
      exact ⟨_, _, _, _, (.agg [.int .i64 t11, .int .i64 arc, .int .i64 t13, .int .i64 t14].toArray), _, _, _, _, _, by exact hs.setAt 4 rfl, HS, f0, f1, f2, f3, fun _ => rfl, f5, f6, f7, f8, o1_0, o1_1⟩
     | 5, _ =>
      refine GO.at hs ?_
      refine GO.fld (⟨b8, 4, none⟩) rfl rfl fl58_4 rfl rfl ?_
      refine GO.fin (fun a hs => ?_)
      exact ⟨_, _, _, _, _, (.pointer (some ⟨b8, 4, none⟩)), _, _, _, _, by exact hs.setAt 5 rfl, HS, f0, f1, f2, f3, f4, fun _ => rfl, f6, f7, f8, o1_0, o1_1⟩
     | 6, _ =>
      have hb5 : b 5 = true := hd 5 (by decide)
      obtain rfl := f5 hb5
      refine GO.at hs ?_
      refine GO.ldBox (j := 1) HS rfl rfl rfl rfl na2 rfl ?_
      refine GO.fin (fun a hs => ?_)
      exact ⟨_, _, _, _, _, _, (.int .i64 e6.Sign), _, _, _, by exact hs.setAt 6 rfl, HS, f0, f1, f2, f3, f4, f5, fun _ => rfl, f7, f8, o1_0, o1_1⟩
     | 7, _ =>
      have hb4 : b 4 = true := hd 4 (by decide)
      obtain rfl := f4 hb4
      have hb6 : b 6 = true := hd 6 (by decide)
      obtain rfl := f6 hb6
      refine GO.at hs ?_
      refine GO.fn rfl Try.func113 fok113.1 fok113.2 rfl rfl (impl_crossingOf.calls HS  h40) (fun _ wd41 ⟨h42, HS⟩ => ⟨_, h42, ?_⟩)
      refine GO.fin (fun a hs => ?_)
      exact ⟨_, _, _, _, _, _, _, (.agg [.int .i64 t35, .int .i64 t36, .int .i64 t37, .int .i64 t38, .int .i64 t39].toArray), _, _, by exact hs.setAt 7 rfl, HS, f0, f1, f2, f3, f4, f5, f6, fun _ => rfl, f8, o1_0, o1_1⟩
     | 8, _ =>
      have hb1 : b 1 = true := hd 1 (by decide)
      obtain rfl := f1 hb1
      have hb3 : b 3 = true := hd 3 (by decide)
      obtain rfl := f3 hb3
      refine GO.at hs ?_
      refine GO.ix rfl rfl rfl Try.underlying26 sz58 h43 c5.1 c5.2 rfl ?_
      refine GO.fin (fun a hs => ?_)
      exact ⟨_, _, _, _, _, _, _, _, (.pointer (some (ea A_d_Crossings (e_crossing.toNat * 5)))), _, by exact hs.setAt 8 rfl, HS, f0, f1, f2, f3, f4, f5, f6, f7, fun _ => rfl, o1_0, o1_1⟩
     | 9, _ =>
      have hb7 : b 7 = true := hd 7 (by decide)
      obtain rfl := f7 hb7
      have hb8 : b 8 = true := hd 8 (by decide)
      obtain rfl := f8 hb8
      obtain rfl := o1_0 hb
      refine GO.at hs ?_
      refine GO.stRow (T := T_GCrossing) (j := 4) (n := e_crossing.toNat) (o := 0) (vs := [.int .i64 t35, .int .i64 t36, .int .i64 t37, .int .i64 t38, .int .i64 t39]) (⟨t35, t36, t37, t38, t39⟩ : GCrossing) HS rfl flat_flat rfl rfl rfl rfl (htA ag58) rfl (getD_some (d := z_GCrossing) (ltN c5)) rfl rfl ?_; intro wd44 HS
      refine GO.fin (fun a hs => ?_)
      exact ⟨_, _, _, _, _, _, _, _, _, Own T_GCrossing 58 A_d_Crossings c_d_Crossings (fun _ => ()) (d_Crossings.set e_crossing.toNat (⟨t35, t36, t37, t38, t39⟩ : GCrossing)), hs, HS, f0, f1, f2, f3, f4, f5, f6, f7, f8, fun h => Bool.noConfusion h, fun _ => rfl⟩
     | k + 10, hj => exact absurd hj (Nat.not_lt.2 (Nat.le_add_left 10 k))
    ·
     intro b a w hall
     refine exI fun Y11_0 => exI fun Y12_1 => exI fun Y13_2 => exI fun Y14_3 => exI fun Y15_4 => exI fun Y16_5 => exI fun Y17_6 => exI fun Y18_7 => exI fun Y19_8 => exI fun O20_1 => anI fun hs => anI fun HS => anI fun f0 => anI fun f1 => anI fun f2 => anI fun f3 => anI fun f4 => anI fun f5 => anI fun f6 => anI fun f7 => anI fun f8 => anI fun o1_0 => fun o1_1 => ?_
     obtain rfl := f0 (hall 0 (by decide))
     obtain rfl := f1 (hall 1 (by decide))
     obtain rfl := f2 (hall 2 (by decide))
     obtain rfl := f3 (hall 3 (by decide))
     obtain rfl := f4 (hall 4 (by decide))
     obtain rfl := f5 (hall 5 (by decide))
     obtain rfl := f6 (hall 6 (by decide))
     obtain rfl := f7 (hall 7 (by decide))
     obtain rfl := f8 (hall 8 (by decide))
     obtain rfl := o1_1 (hall 9 (by decide))
     refine G.at hs ?_
     replace HS := HS.boxEq (j := 3) (cs' := [.slice A_d_Crossings (d_Crossings.set e_crossing.toNat (⟨t35, t36, t37, t38, t39⟩ : GCrossing)).length c_d_Crossings, .int .i64 d_Circles]) rfl (by simp only [List.length_set] <;> rfl)
     obtain rfl := Option.some.inj H
     exact G.end0 Try.func50 rfl ⟨rfl, (HS.pk 5 [4] rfl)⟩
   ·
    rcases ite_elim H with ⟨c45, H⟩ | ⟨c45, H⟩
    ·
     refine G.region ?_
     refine GO.fld (⟨b3, 1, none⟩) rfl rfl fl68_1 rfl rfl ?_
     refine GO.ldBox (j := 2) HS rfl rfl rfl rfl na2 rfl ?_
     refine GO.move rfl rfl rfl ?_
     refine GO.ixP 2 rfl rfl rfl c45 Try.underlying93 sz2 rfl rfl ?_
     refine GO.stBox (j := 0) (vs := [.int .i64 arc]) ([.int .i64 t11, .int .i64 t12, .int .i64 arc, .int .i64 t14]) HS rfl rfl rfl rfl rfl (htN na2 rfl) rfl rfl rfl ?_; intro wd46 HS
     refine GO.nil ?_
     obtain ⟨t47, t48, t49, t50, t51, h52, H⟩ := bind5_elim H
     have h55 := ((RdIn.own (j := 4) rfl) _ HS).2.2.1
     refine G.regionAny mixed (by decide) (fun b a w => ∃ (Y21_0 : Value) (Y22_1 : Value) (Y23_2 : Value) (Y24_3 : Value) (Y25_4 : Value) (Y26_5 : Value) (Y27_6 : Value) (Y28_7 : Value) (Y29_8 : Value) (O30_1 : HObj), Sat 29 [(20, Y21_0), (21, Y22_1), (22, Y23_2), (23, Y24_3), (24, Y25_4), (25, Y26_5), (26, Y27_6), (27, Y28_7), (28, Y29_8), (3, .pointer (some ⟨b1, 0, none⟩)), (4, .pointer (some ⟨b3, 0, none⟩)), (6, .pointer (some ⟨b8, 0, none⟩)), (7, .pointer (some ⟨b18, 0, none⟩))] a ∧ St w0 w (Box b18 93 [.int .i64 t11, .int .i64 t12, .int .i64 arc, .int .i64 t14] :: Box b8 58 [.int .i64 e6.A, .int .i64 e6.B, .int .i64 e6.C, .int .i64 e6.D, .int .i64 e6.Sign] :: Box b3 68 [.int .i64 e_crossing, .int .i64 e_position] :: Box b1 28 [.slice A_d_Crossings d_Crossings.length c_d_Crossings, .int .i64 d_Circles] :: O30_1 :: L) ∧ (b 0 = true → Y21_0 = (.pointer (some ⟨b1, 0, none⟩))) ∧ (b 1 = true → Y22_1 = (.slice A_d_Crossings d_Crossings.length c_d_Crossings)) ∧ (b 2 = true → Y23_2 = (.pointer (some ⟨b3, 0, none⟩))) ∧ (b 3 = true → Y24_3 = (.int .i64 e_crossing)) ∧ (b 4 = true → Y25_4 = (.agg [.int .i64 t11, .int .i64 t12, .int .i64 arc, .int .i64 t14].toArray)) ∧ (b 5 = true → Y26_5 = (.pointer (some ⟨b8, 4, none⟩))) ∧ (b 6 = true → Y27_6 = (.int .i64 e6.Sign)) ∧ (b 7 = true → Y28_7 = (.agg [.int .i64 t47, .int .i64 t48, .int .i64 t49, .int .i64 t50, .int .i64 t51].toArray)) ∧ (b 8 = true → Y29_8 = (.pointer (some (ea A_d_Crossings (e_crossing.toNat * 5))))) ∧ (b 9 = false → O30_1 = Own T_GCrossing 58 A_d_Crossings c_d_Crossings (fun _ => ()) d_Crossings) ∧ (b 9 = true → O30_1 = Own T_GCrossing 58 A_d_Crossings c_d_Crossings (fun _ => ()) (d_Crossings.set e_crossing.toNat (⟨t47, t48, t49, t50, t51⟩ : GCrossing)))) ?_ ?_ ?_
     ·
      intro a hs
      obtain ⟨Y21_0, hs⟩ := hs.ext (d := 20) rfl
      obtain ⟨Y22_1, hs⟩ := hs.ext (d := 21) rfl
      obtain ⟨Y23_2, hs⟩ := hs.ext (d := 22) rfl
      obtain ⟨Y24_3, hs⟩ := hs.ext (d := 23) rfl
      obtain ⟨Y25_4, hs⟩ := hs.ext (d := 24) rfl
      obtain ⟨Y26_5, hs⟩ := hs.ext (d := 25) rfl
      obtain ⟨Y27_6, hs⟩ := hs.ext (d := 26) rfl
      obtain ⟨Y28_7, hs⟩ := hs.ext (d := 27) rfl
      obtain ⟨Y29_8, hs⟩ := hs.ext (d := 28) rfl
      exact ⟨Y21_0, Y22_1, Y23_2, Y24_3, Y25_4, Y26_5, Y27_6, Y28_7, Y29_8, Own T_GCrossing 58 A_d_Crossings c_d_Crossings (fun _ => ()) d_Crossings, hs.weak ⟨rfl, rfl, rfl, rfl, rfl, rfl, rfl, rfl, rfl, rfl, rfl, rfl, rfl, trivial⟩, (HS.drew.pk 5 [0, 1, 2, 3, 4] rfl), fun h => Bool.noConfusion h, fun h => Bool.noConfusion h, fun h => Bool.noConfusion h, fun h => Bool.noConfusion h, fun h => Bool.noConfusion h, fun h => Bool.noConfusion h, fun h => Bool.noConfusion h, fun h => Bool.noConfusion h, fun h => Bool.noConfusion h, fun _ => rfl, fun h => Bool.noConfusion h⟩
     ·
      intro j hj b a w
      refine exI fun Y21_0 => exI fun Y22_1 => exI fun Y23_2 => exI fun Y24_3 => exI fun Y25_4 => exI fun Y26_5 => exI fun Y27_6 => exI fun Y28_7 => exI fun Y29_8 => exI fun O30_1 => anI fun hs => anI fun HS => anI fun f0 => anI fun f1 => anI fun f2 => anI fun f3 => anI fun f4 => anI fun f5 => anI fun f6 => anI fun f7 => anI fun f8 => anI fun o1_0 => fun o1_1 hb hd hcl => ?_
      match j, hj with
      | 0, _ =>
       refine GO.at hs ?_
       refine GO.fld (⟨b1, 0, none⟩) rfl rfl fl28_0 rfl rfl ?_
       refine GO.fin (fun a hs => ?_)
       exact ⟨(.pointer (some ⟨b1, 0, none⟩)), _, _, _, _, _, _, _, _, _, by exact hs.setAt 0 rfl, HS, fun _ => rfl, f1, f2, f3, f4, f5, f6, f7, f8, o1_0, o1_1⟩
      | 1, _ =>
       have hb0 : b 0 = true := hd 0 (by decide)
       obtain rfl := f0 hb0
       refine GO.at hs ?_
       refine GO.ldBox (j := 3) HS rfl rfl rfl rfl na26 rfl ?_
       refine GO.fin (fun a hs => ?_)
       exact ⟨_, (.slice A_d_Crossings d_Crossings.length c_d_Crossings), _, _, _, _, _, _, _, _, by exact hs.setAt 1 rfl, HS, f0, fun _ => rfl, f2, f3, f4, f5, f6, f7, f8, o1_0, o1_1⟩
      | 2, _ =>
       refine GO.at hs ?_
       refine GO.fld (⟨b3, 0, none⟩) rfl rfl fl68_0 rfl rfl ?_
       refine GO.fin (fun a hs => ?_)
       exact ⟨_, _, (.pointer (some ⟨b3, 0, none⟩)), _, _, _, _, _, _, _, by exact hs.setAt 2 rfl, HS, f0, f1, fun _ => rfl, f3, f4, f5, f6, f7, f8, o1_0, o1_1⟩
      | 3, _ =>
       have hb2 : b 2 = true := hd 2 (by decide)
       obtain rfl := f2 hb2
       refine GO.at hs ?_
       refine GO.ldBox (j := 2) HS rfl rfl rfl rfl na2 rfl ?_
       refine GO.fin (fun a hs => ?_)
       exact ⟨_, _, _, (.int .i64 e_crossing), _, _, _, _, _, _, by exact hs.setAt 3 rfl, HS, f0, f1, f2, fun _ => rfl, f4, f5, f6, f7, f8, o1_0, o1_1⟩
      | 4, _ =>
       refine GO.at hs ?_
       refine GO.ldBoxA (j := 0) ([.int .i64 t11, .int .i64 t12, .int .i64 arc, .int .i64 t14]) HS rfl rfl rfl rfl ag93 rfl ?_
       refine GO.fin (fun a hs => ?_)
       exact ⟨_, _, _, _, (.agg [.int .i64 t11, .int .i64 t12, .int .i64 arc, .int .i64 t14].toArray), _, _, _, _, _, by exact hs.setAt 4 rfl, HS, f0, f1, f2, f3, fun _ => rfl, f5, f6, f7, f8, o1_0, o1_1⟩
      | 5, _ =>
       refine GO.at hs ?_
       refine GO.fld (⟨b8, 4, none⟩) rfl rfl fl58_4 rfl rfl ?_
       refine GO.fin (fun a hs => ?_)
       exact ⟨_, _, _, _, _, (.pointer (some ⟨b8, 4, none⟩)), _, _, _, _, by exact hs.setAt 5 rfl, HS, f0, f1, f2, f3, f4, fun _ => rfl, f6, f7, f8, o1_0, o1_1⟩
      | 6, _ =>
       have hb5 : b 5 = true := hd 5 (by decide)
       obtain rfl := f5 hb5
       refine GO.at hs ?_
       refine GO.ldBox (j := 1) HS rfl rfl rfl rfl na2 rfl ?_
       refine GO.fin (fun a hs => ?_)
       exact ⟨_, _, _, _, _, _, (.int .i64 e6.Sign), _, _, _, by exact hs.setAt 6 rfl, HS, f0, f1, f2, f3, f4, f5, fun _ => rfl, f7, f8, o1_0, o1_1⟩
      | 7, _ =>
       have hb4 : b 4 = true := hd 4 (by decide)
       obtain rfl := f4 hb4
       have hb6 : b 6 = true := hd 6 (by decide)
       obtain rfl := f6 hb6
       refine GO.at hs ?_
       refine GO.fn rfl Try.func113 fok113.1 fok113.2 rfl rfl (impl_crossingOf.calls HS  h52) (fun _ wd53 ⟨h54, HS⟩ => ⟨_, h54, ?_⟩)
       refine GO.fin (fun a hs => ?_)
       exact ⟨_, _, _, _, _, _, _, (.agg [.int .i64 t47, .int .i64 t48, .int .i64 t49, .int .i64 t50, .int .i64 t51].toArray), _, _, by exact hs.setAt 7 rfl, HS, f0, f1, f2, f3, f4, f5, f6, fun _ => rfl, f8, o1_0, o1_1⟩
      | 8, _ =>
       have hb1 : b 1 = true := hd 1 (by decide)
       obtain rfl := f1 hb1
       have hb3 : b 3 = true := hd 3 (by decide)
       obtain rfl := f3 hb3
       refine GO.at hs ?_
       refine GO.ix rfl rfl rfl Try.underlying26 sz58 h55 c5.1 c5.2 rfl ?_
       refine GO.fin (fun a hs => ?_)
       exact ⟨_, _, _, _, _, _, _, _, (.pointer (some (ea A_d_Crossings (e_crossing.toNat * 5)))), _, by exact hs.setAt 8 rfl, HS, f0, f1, f2, f3, f4, f5, f6, f7, fun _ => rfl, o1_0, o1_1⟩
      | 9, _ =>
       have hb7 : b 7 = true := hd 7 (by decide)
       obtain rfl := f7 hb7
       have hb8 : b 8 = true := hd 8 (by decide)
       obtain rfl := f8 hb8
       obtain rfl := o1_0 hb
       refine GO.at hs ?_
       refine GO.stRow (T := T_GCrossing) (j := 4) (n := e_crossing.toNat) (o := 0) (vs := [.int .i64 t47, .int .i64 t48, .int .i64 t49, .int .i64 t50, .int .i64 t51]) (⟨t47, t48, t49, t50, t51⟩ : GCrossing) HS rfl flat_flat rfl rfl rfl rfl (htA ag58) rfl (getD_some (d := z_GCrossing) (ltN c5)) rfl rfl ?_; intro wd56 HS
       refine GO.fin (fun a hs => ?_)
       exact ⟨_, _, _, _, _, _, _, _, _, Own T_GCrossing 58 A_d_Crossings c_d_Crossings (fun _ => ()) (d_Crossings.set e_crossing.toNat (⟨t47, t48, t49, t50, t51⟩ : GCrossing)), hs, HS, f0, f1, f2, f3, f4, f5, f6, f7, f8, fun h => Bool.noConfusion h, fun _ => rfl⟩
      | k + 10, hj => exact absurd hj (Nat.not_lt.2 (Nat.le_add_left 10 k))
     ·
      intro b a w hall
      refine exI fun Y21_0 => exI fun Y22_1 => exI fun Y23_2 => exI fun Y24_3 => exI fun Y25_4 => exI fun Y26_5 => exI fun Y27_6 => exI fun Y28_7 => exI fun Y29_8 => exI fun O30_1 => anI fun hs => anI fun HS => anI fun f0 => anI fun f1 => anI fun f2 => anI fun f3 => anI fun f4 => anI fun f5 => anI fun f6 => anI fun f7 => anI fun f8 => anI fun o1_0 => fun o1_1 => ?_
      obtain rfl := f0 (hall 0 (by decide))
      obtain rfl := f1 (hall 1 (by decide))
      obtain rfl := f2 (hall 2 (by decide))
      obtain rfl := f3 (hall 3 (by decide))
      obtain rfl := f4 (hall 4 (by decide))
      obtain rfl := f5 (hall 5 (by decide))
      obtain rfl := f6 (hall 6 (by decide))
      obtain rfl := f7 (hall 7 (by decide))
      obtain rfl := f8 (hall 8 (by decide))
      obtain rfl := o1_1 (hall 9 (by decide))
      refine G.at hs ?_
      replace HS := HS.boxEq (j := 3) (cs' := [.slice A_d_Crossings (d_Crossings.set e_crossing.toNat (⟨t47, t48, t49, t50, t51⟩ : GCrossing)).length c_d_Crossings, .int .i64 d_Circles]) rfl (by simp only [List.length_set] <;> rfl)
      obtain rfl := Option.some.inj H
      exact G.end0 Try.func50 rfl ⟨rfl, (HS.pk 5 [4] rfl)⟩
    ·
     rcases ite_elim H with ⟨c57, H⟩ | ⟨c57, H⟩
     ·
      refine G.region ?_
      refine GO.fld (⟨b3, 1, none⟩) rfl rfl fl68_1 rfl rfl ?_
      refine GO.ldBox (j := 2) HS rfl rfl rfl rfl na2 rfl ?_
      refine GO.move rfl rfl rfl ?_
      refine GO.ixP 3 rfl rfl rfl c57 Try.underlying93 sz2 rfl rfl ?_
      refine GO.stBox (j := 0) (vs := [.int .i64 arc]) ([.int .i64 t11, .int .i64 t12, .int .i64 t13, .int .i64 arc]) HS rfl rfl rfl rfl rfl (htN na2 rfl) rfl rfl rfl ?_; intro wd58 HS
      refine GO.nil ?_
      obtain ⟨t59, t60, t61, t62, t63, h64, H⟩ := bind5_elim H
      have h67 := ((RdIn.own (j := 4) rfl) _ HS).2.2.1
      refine G.regionAny mixed (by decide) (fun b a w => ∃ (Y31_0 : Value) (Y32_1 : Value) (Y33_2 : Value) (Y34_3 : Value) (Y35_4 : Value) (Y36_5 : Value) (Y37_6 : Value) (Y38_7 : Value) (Y39_8 : Value) (O40_1 : HObj), Sat 29 [(20, Y31_0), (21, Y32_1), (22, Y33_2), (23, Y34_3), (24, Y35_4), (25, Y36_5), (26, Y37_6), (27, Y38_7), (28, Y39_8), (3, .pointer (some ⟨b1, 0, none⟩)), (4, .pointer (some ⟨b3, 0, none⟩)), (6, .pointer (some ⟨b8, 0, none⟩)), (7, .pointer (some ⟨b18, 0, none⟩))] a ∧ St w0 w (Box b18 93 [.int .i64 t11, .int .i64 t12, .int .i64 t13, .int .i64 arc] :: Box b8 58 [.int .i64 e6.A, .int .i64 e6.B, .int .i64 e6.C, .int .i64 e6.D, .int .i64 e6.Sign] :: Box b3 68 [.int .i64 e_crossing, .int .i64 e_position] :: Box b1 28 [.slice A_d_Crossings d_Crossings.length c_d_Crossings, .int .i64 d_Circles] :: O40_1 :: L) ∧ (b 0 = true → Y31_0 = (.pointer (some ⟨b1, 0, none⟩))) ∧ (b 1 = true → Y32_1 = (.slice A_d_Crossings d_Crossings.length c_d_Crossings)) ∧ (b 2 = true → Y33_2 = (.pointer (some ⟨b3, 0, none⟩))) ∧ (b 3 = true → Y34_3 = (.int .i64 e_crossing)) ∧ (b 4 = true → Y35_4 = (.agg [.int .i64 t11, .int .i64 t12, .int .i64 t13, .int .i64 arc].toArray)) ∧ (b 5 = true → Y36_5 = (.pointer (some ⟨b8, 4, none⟩))) ∧ (b 6 = true → Y37_6 = (.int .i64 e6.Sign)) ∧ (b 7 = true → Y38_7 = (.agg [.int .i64 t59, .int .i64 t60, .int .i64 t61, .int .i64 t62, .int .i64 t63].toArray)) ∧ (b 8 = true → Y39_8 = (.pointer (some (ea A_d_Crossings (e_crossing.toNat * 5))))) ∧ (b 9 = false → O40_1 = Own T_GCrossing 58 A_d_Crossings c_d_Crossings (fun _ => ()) d_Crossings) ∧ (b 9 = true → O40_1 = Own T_GCrossing 58 A_d_Crossings c_d_Crossings (fun _ => ()) (d_Crossings.set e_crossing.toNat (⟨t59, t60, t61, t62, t63⟩ : GCrossing)))) ?_ ?_ ?_
      ·
       intro a hs
       obtain ⟨Y31_0, hs⟩ := hs.ext (d := 20) rfl
       obtain ⟨Y32_1, hs⟩ := hs.ext (d := 21) rfl
       obtain ⟨Y33_2, hs⟩ := hs.ext (d := 22) rfl
       obtain ⟨Y34_3, hs⟩ := hs.ext (d := 23) rfl
       obtain ⟨Y35_4, hs⟩ := hs.ext (d := 24) rfl
       obtain ⟨Y36_5, hs⟩ := hs.ext (d := 25) rfl
       obtain ⟨Y37_6, hs⟩ := hs.ext (d := 26) rfl
       obtain ⟨Y38_7, hs⟩ := hs.ext (d := 27) rfl
       obtain ⟨Y39_8, hs⟩ := hs.ext (d := 28) rfl
       exact ⟨Y31_0, Y32_1, Y33_2, Y34_3, Y35_4, Y36_5, Y37_6, Y38_7, Y39_8, Own T_GCrossing 58 A_d_Crossings c_d_Crossings (fun _ => ()) d_Crossings, hs.weak ⟨rfl, rfl, rfl, rfl, rfl, rfl, rfl, rfl, rfl, rfl, rfl, rfl, rfl, trivial⟩, (HS.drew.pk 5 [0, 1, 2, 3, 4] rfl), fun h => Bool.noConfusion h, fun h => Bool.noConfusion h, fun h => Bool.noConfusion h, fun h => Bool.noConfusion h, fun h => Bool.noConfusion h, fun h => Bool.noConfusion h, fun h => Bool.noConfusion h, fun h => Bool.noConfusion h, fun h => Bool.noConfusion h, fun _ => rfl, fun h => Bool.noConfusion h⟩
      ·
       intro j hj b a w
       refine exI fun Y31_0 => exI fun Y32_1 => exI fun Y33_2 => exI fun Y34_3 => exI fun Y35_4 => exI fun Y36_5 => exI fun Y37_6 => exI fun Y38_7 => exI fun Y39_8 => exI fun O40_1 => anI fun hs => anI fun HS => anI fun f0 => anI fun f1 => anI fun f2 => anI fun f3 => anI fun f4 => anI fun f5 => anI fun f6 => anI fun f7 => anI fun f8 => anI fun o1_0 => fun o1_1 hb hd hcl => ?_
       match j, hj with
       | 0, _ =>
        refine GO.at hs ?_
        refine GO.fld (⟨b1, 0, none⟩) rfl rfl fl28_0 rfl rfl ?_
        refine GO.fin (fun a hs => ?_)
        exact ⟨(.pointer (some ⟨b1, 0, none⟩)), _, _, _, _, _, _, _, _, _, by exact hs.setAt 0 rfl, HS, fun _ => rfl, f1, f2, f3, f4, f5, f6, f7, f8, o1_0, o1_1⟩
       | 1, _ =>
        have hb0 : b 0 = true := hd 0 (by decide)
        obtain rfl := f0 hb0
        refine GO.at hs ?_
        refine GO.ldBox (j := 3) HS rfl rfl rfl rfl na26 rfl ?_
        refine GO.fin (fun a hs => ?_)
        exact ⟨_, (.slice A_d_Crossings d_Crossings.length c_d_Crossings), _, _, _, _, _, _, _, _, by exact hs.setAt 1 rfl, HS, f0, fun _ => rfl, f2, f3, f4, f5, f6, f7, f8, o1_0, o1_1⟩
       | 2, _ =>
        refine GO.at hs ?_
        refine GO.fld (⟨b3, 0, none⟩) rfl rfl fl68_0 rfl rfl ?_
        refine GO.fin (fun a hs => ?_)
        exact ⟨_, _, (.pointer (some ⟨b3, 0, none⟩)), _, _, _, _, _, _, _, by exact hs.setAt 2 rfl, HS, f0, f1, fun _ => rfl, f3, f4, f5, f6, f7, f8, o1_0, o1_1⟩
       | 3, _ =>
        have hb2 : b 2 = true := hd 2 (by decide)
        obtain rfl := f2 hb2
        refine GO.at hs ?_
        refine GO.ldBox (j := 2) HS rfl rfl rfl rfl na2 rfl ?_
        refine GO.fin (fun a hs => ?_)
        exact ⟨_, _, _, (.int .i64 e_crossing), _, _, _, _, _, _, by exact hs.setAt 3 rfl, HS, f0, f1, f2, fun _ => rfl, f4, f5, f6, f7, f8, o1_0, o1_1⟩
       | 4, _ =>
        refine GO.at hs ?_
        refine GO.ldBoxA (j := 0) ([.int .i64 t11, .int .i64 t12, .int .i64 t13, .int .i64 arc]) HS rfl rfl rfl rfl ag93 rfl ?_
        refine GO.fin (fun a hs => ?_)
        exact ⟨_, _, _, _, (.agg [.int .i64 t11, .int .i64 t12, .int .i64 t13, .int .i64 arc].toArray), _, _, _, _, _, by exact hs.setAt 4 rfl, HS, f0, f1, f2, f3, fun _ => rfl, f5, f6, f7, f8, o1_0, o1_1⟩
       | 5, _ =>
        refine GO.at hs ?_
        refine GO.fld (⟨b8, 4, none⟩) rfl rfl fl58_4 rfl rfl ?_
        refine GO.fin (fun a hs => ?_)
        exact ⟨_, _, _, _, _, (.pointer (some ⟨b8, 4, none⟩)), _, _, _, _, by exact hs.setAt 5 rfl, HS, f0, f1, f2, f3, f4, fun _ => rfl, f6, f7, f8, o1_0, o1_1⟩
       | 6, _ =>
        have hb5 : b 5 = true := hd 5 (by decide)
        obtain rfl := f5 hb5
        refine GO.at hs ?_
        refine GO.ldBox (j := 1) HS rfl rfl rfl rfl na2 rfl ?_
        refine GO.fin (fun a hs => ?_)
        exact ⟨_, _, _, _, _, _, (.int .i64 e6.Sign), _, _, _, by exact hs.setAt 6 rfl, HS, f0, f1, f2, f3, f4, f5, fun _ => rfl, f7, f8, o1_0, o1_1⟩
       | 7, _ =>
        have hb4 : b 4 = true := hd 4 (by decide)
        obtain rfl := f4 hb4
        have hb6 : b 6 = true := hd 6 (by decide)
        obtain rfl := f6 hb6
        refine GO.at hs ?_
        refine GO.fn rfl Try.func113 fok113.1 fok113.2 rfl rfl (impl_crossingOf.calls HS  h64) (fun _ wd65 ⟨h66, HS⟩ => ⟨_, h66, ?_⟩)
        refine GO.fin (fun a hs => ?_)
        exact ⟨_, _, _, _, _, _, _, (.agg [.int .i64 t59, .int .i64 t60, .int .i64 t61, .int .i64 t62, .int .i64 t63].toArray), _, _, by exact hs.setAt 7 rfl, HS, f0, f1, f2, f3, f4, f5, f6, fun _ => rfl, f8, o1_0, o1_1⟩
       | 8, _ =>
        have hb1 : b 1 = true := hd 1 (by decide)
        obtain rfl := f1 hb1
        have hb3 : b 3 = true := hd 3 (by decide)
        obtain rfl := f3 hb3
        refine GO.at hs ?_
        refine GO.ix rfl rfl rfl Try.underlying26 sz58 h67 c5.1 c5.2 rfl ?_
        refine GO.fin (fun a hs => ?_)
        exact ⟨_, _, _, _, _, _, _, _, (.pointer (some (ea A_d_Crossings (e_crossing.toNat * 5)))), _, by exact hs.setAt 8 rfl, HS, f0, f1, f2, f3, f4, f5, f6, f7, fun _ => rfl, o1_0, o1_1⟩
       | 9, _ =>
        have hb7 : b 7 = true := hd 7 (by decide)
        obtain rfl := f7 hb7
        have hb8 : b 8 = true := hd 8 (by decide)
        obtain rfl := f8 hb8
        obtain rfl := o1_0 hb
        refine GO.at hs ?_
        refine GO.stRow (T := T_GCrossing) (j := 4) (n := e_crossing.toNat) (o := 0) (vs := [.int .i64 t59, .int .i64 t60, .int .i64 t61, .int .i64 t62, .int .i64 t63]) (⟨t59, t60, t61, t62, t63⟩ : GCrossing) HS rfl flat_flat rfl rfl rfl rfl (htA ag58) rfl (getD_some (d := z_GCrossing) (ltN c5)) rfl rfl ?_; intro wd68 HS
        refine GO.fin (fun a hs => ?_)
        exact ⟨_, _, _, _, _, _, _, _, _, Own T_GCrossing 58 A_d_Crossings c_d_Crossings (fun _ => ()) (d_Crossings.set e_crossing.toNat (⟨t59, t60, t61, t62, t63⟩ : GCrossing)), hs, HS, f0, f1, f2, f3, f4, f5, f6, f7, f8, fun h => Bool.noConfusion h, fun _ => rfl⟩
       | k + 10, hj => exact absurd hj (Nat.not_lt.2 (Nat.le_add_left 10 k))
      ·
       intro b a w hall
       refine exI fun Y31_0 => exI fun Y32_1 => exI fun Y33_2 => exI fun Y34_3 => exI fun Y35_4 => exI fun Y36_5 => exI fun Y37_6 => exI fun Y38_7 => exI fun Y39_8 => exI fun O40_1 => anI fun hs => anI fun HS => anI fun f0 => anI fun f1 => anI fun f2 => anI fun f3 => anI fun f4 => anI fun f5 => anI fun f6 => anI fun f7 => anI fun f8 => anI fun o1_0 => fun o1_1 => ?_
       obtain rfl := f0 (hall 0 (by decide))
       obtain rfl := f1 (hall 1 (by decide))
       obtain rfl := f2 (hall 2 (by decide))
       obtain rfl := f3 (hall 3 (by decide))
       obtain rfl := f4 (hall 4 (by decide))
       obtain rfl := f5 (hall 5 (by decide))
       obtain rfl := f6 (hall 6 (by decide))
       obtain rfl := f7 (hall 7 (by decide))
       obtain rfl := f8 (hall 8 (by decide))
       obtain rfl := o1_1 (hall 9 (by decide))
       refine G.at hs ?_
       replace HS := HS.boxEq (j := 3) (cs' := [.slice A_d_Crossings (d_Crossings.set e_crossing.toNat (⟨t59, t60, t61, t62, t63⟩ : GCrossing)).length c_d_Crossings, .int .i64 d_Circles]) rfl (by simp only [List.length_set] <;> rfl)
       obtain rfl := Option.some.inj H
       exact G.end0 Try.func50 rfl ⟨rfl, (HS.pk 5 [4] rfl)⟩
     ·
      cases H

set_option maxRecDepth 20000 in
set_option maxHeartbeats 40000000 in
theorem impl_Diagram_strands.calls {w0 w : World} {L : List HObj} {K : Nat} {d_Crossings : List GCrossing} {d_Circles : Int} {a_from : List GEnd} {a_to : List GEnd} {A_d_Crossings : Option Addr} {c_d_Crossings : Nat} {A_a_from : Option Addr} {c_a_from : Nat} {A_a_to : Option Addr} {c_a_to : Nat} {r1 : List (List Int)} (HS : St w0 w (L)) (h_d_Crossings : RdIn w0 L T_GCrossing A_d_Crossings c_d_Crossings (fun _ => ()) d_Crossings) (h_a_from : RdIn w0 L T_GEnd A_a_from c_a_from (fun _ => ()) a_from) (h_a_to : RdIn w0 L T_GEnd A_a_to c_a_to (fun _ => ()) a_to) (H : impl_Diagram_strands.f K d_Crossings d_Circles a_from a_to = some r1) :
    Calls Try.prog 133 #[.agg [.slice A_d_Crossings d_Crossings.length c_d_Crossings, .int .i64 d_Circles].toArray, .agg [.slice A_a_from a_from.length c_a_from, .slice A_a_to a_to.length c_a_to].toArray] w (impl_Diagram_strands.post w0 L d_Crossings d_Circles a_from a_to A_d_Crossings c_d_Crossings A_a_from c_a_from A_a_to c_a_to r1) := by
  unfold impl_Diagram_strands.f at H
  refine Calls.of_G Try.func133 rfl rfl rfl ?_
  refine G.seq ?_
  refine G.region ?_
  refine GO.box (cs := [.slice A_d_Crossings d_Crossings.length c_d_Crossings, .int .i64 d_Circles]) HS rfl rfl rfl rfl ?_; intro b1 wd2 HS
  refine GO.box (cs := [.slice A_a_from a_from.length c_a_from, .slice A_a_to a_to.length c_a_to]) HS rfl rfl rfl rfl ?_; intro b3 wd4 HS
  refine GO.assign rfl rfl rfl ?_
  refine GO.nil ?_
  refine G.seq ?_
  refine G.region ?_
  refine GO.assign rfl rfl rfl ?_
  refine GO.nil ?_
  refine G.seq ?_
  obtain ⟨c5, H⟩ := ite_none H
  obtain ⟨c6, H⟩ := ite_none H
  refine G.region ?_
  refine GO.fld (⟨b3, 1, none⟩) rfl rfl fl63_1 rfl rfl ?_
  refine GO.ldBox (j := 0) HS rfl rfl rfl rfl na61 rfl ?_
  refine GO.lenS rfl rfl Try.underlying61 rfl ?_
  refine GO.make (T := TBool) false () HS flat_flat rfl rfl rfl Try.underlying83 inf4 rfl rfl rfl c5 c6 rfl ?_; intro b7 wd8 HS
  refine GO.assign rfl rfl rfl ?_
  refine GO.nil ?_
  refine G.seq ?_
  refine G.seq ?_
  refine G.region ?_
  refine GO.move rfl rfl rfl ?_
  refine GO.lenS rfl rfl Try.underlying83 rfl ?_
  refine GO.move rfl rfl rfl ?_
  refine GO.nil ?_
  refine G.block ?_
  refine G.loop ?_
  refine G.name (fun k_l1 hk_l1 => ?_)
  have at_l1 : ∀ m_l1, m_l1 ≤ K → ∀ (A70 : Option Addr) (c71 : Nat) (out_72 : List (List Int)) (y73 : Nat → (Ty.slice 2 (TInt .i64)).Lay) (seen_74 : List Bool) (x75 : Int) (w : World), impl_Diagram_strands.l1 K m_l1 d_Crossings d_Circles a_from a_to out_72 seen_74 x75 = some r1 → St w0 w (Box b1 28 [.slice A_d_Crossings d_Crossings.length c_d_Crossings, .int .i64 d_Circles] :: Box b3 63 [.slice A_a_from a_from.length c_a_from, .slice A_a_to a_to.length c_a_to] :: Own (Ty.slice 2 (TInt .i64)) 43 A70 c71 y73 out_72 :: Own TBool 4 (some ⟨b7, 0, none⟩) ((a_to.length : Int).toNat) (fun _ => ()) seen_74 :: L) → G Try.prog 133 45 [(2, .pointer (some ⟨b1, 0, none⟩)), (3, .pointer (some ⟨b3, 0, none⟩)), (5, .slice A70 out_72.length c71), (6, .slice (some ⟨b7, 0, none⟩) seen_74.length ((a_to.length : Int).toNat)), (15, .int .i64 ((List.replicate (a_to.length : Int).toNat false).length : Int)), (16, .int .i64 x75)] k_l1 w (impl_Diagram_strands.post w0 L d_Crossings d_Circles a_from a_to A_d_Crossings c_d_Crossings A_a_from c_a_from A_a_to c_a_to r1) := by
   intro m_l1
   induction m_l1 using Nat.strongRecOn with
   | _ m_l1 ih_l1 =>
    intro hm_l1 A70 c71 out_72 y73 seen_74 x75 w H HS
    cases m_l1 with
    | zero => rw [impl_Diagram_strands.l1] at H; cases H
    | succ n_l1 =>
     rw [impl_Diagram_strands.l1] at H
     subst hk_l1
     refine G.seq ?_
     refine G.region ?_
     refine GO.lss rfl rfl rfl rfl ?_
     refine GO.nil ?_
     refine G.seq ?_
     rcases ite_elim H with ⟨c137, H⟩ | ⟨c137, H⟩
     ·
      refine G.yesB rfl (decide_eq_true c137) ?_
      refine G.skip ?_
      refine G.seq ?_
      refine G.block ?_
      refine G.seq ?_
      refine G.region ?_
      refine GO.move rfl rfl rfl ?_
      refine GO.assign rfl rfl rfl ?_
      refine GO.nil ?_
      refine G.seq ?_
      refine G.region ?_
      refine GO.assign rfl rfl rfl ?_
      refine GO.nil ?_
      refine G.seq ?_
      refine G.seq ?_
      refine G.region ?_
      refine GO.move rfl rfl rfl ?_
      refine GO.assign rfl rfl rfl ?_
      refine GO.nil ?_
      refine G.block ?_
      refine G.loop ?_
      refine G.name (fun k_l4 hk_l4 => ?_)
      have at_l4 : ∀ m_l4, m_l4 ≤ n_l1 → ∀ (seen_151 : List Bool) (A152 : Option Addr) (c153 : Nat) (list_154 : List Int) (arc_155 : Int) (w : World), impl_Diagram_strands.l4 K m_l4 d_Crossings d_Circles a_from a_to out_72 x75 seen_151 list_154 arc_155 = some r1 → St w0 w (Box b1 28 [.slice A_d_Crossings d_Crossings.length c_d_Crossings, .int .i64 d_Circles] :: Box b3 63 [.slice A_a_from a_from.length c_a_from, .slice A_a_to a_to.length c_a_to] :: Own (Ty.slice 2 (TInt .i64)) 43 A70 c71 y73 out_72 :: Own TBool 4 (some ⟨b7, 0, none⟩) ((a_to.length : Int).toNat) (fun _ => ()) seen_151 :: Own (TInt .i64) 2 A152 c153 (fun _ => ()) list_154 :: L) → G Try.prog 133 45 [(2, .pointer (some ⟨b1, 0, none⟩)), (3, .pointer (some ⟨b3, 0, none⟩)), (5, .slice A70 out_72.length c71), (6, .slice (some ⟨b7, 0, none⟩) seen_151.length ((a_to.length : Int).toNat)), (8, .slice A152 list_154.length c153), (9, .int .i64 arc_155), (15, .int .i64 ((List.replicate (a_to.length : Int).toNat false).length : Int)), (16, .int .i64 x75)] k_l4 w (impl_Diagram_strands.post w0 L d_Crossings d_Circles a_from a_to A_d_Crossings c_d_Crossings A_a_from c_a_from A_a_to c_a_to r1) := by
       intro m_l4
       induction m_l4 using Nat.strongRecOn with
       | _ m_l4 ih_l4 =>
        intro hm_l4 seen_151 A152 c153 list_154 arc_155 w H HS
        cases m_l4 with
        | zero => rw [impl_Diagram_strands.l4] at H; cases H
        | succ n_l4 =>
         rw [impl_Diagram_strands.l4] at H
         subst hk_l4
         refine G.seq ?_
         refine G.seq ?_
         obtain ⟨c177, H⟩ := ite_none H
         refine G.region ?_
         refine GO.move rfl rfl rfl ?_
         refine GO.move rfl rfl rfl ?_
         refine GO.ix rfl rfl rfl Try.underlying83 sz4 (fun _ => ⟨_, _, rfl⟩) c177.1 c177.2 rfl ?_
         refine GO.ldRd (T := TBool) (n := arc_155.toNat) (o := 0) HS (RdIn.own (j := 3) rfl) rfl rfl (getD_some (d := false) (ltN c177)) rfl rfl na4 rfl ?_
         refine GO.not rfl rfl rfl ?_
         refine GO.nil ?_
         rcases ite_elim H with ⟨c178, H⟩ | ⟨c178, H⟩
         ·
          refine G.noB rfl (congrArg Bool.not c178) ?_
          refine G.exit rfl ?_
          refine G.seq ?_
          refine G.region ?_
          refine GO.move rfl rfl rfl ?_
          refine GO.lenS rfl rfl Try.underlying43 rfl ?_
          refine GO.gtr rfl rfl rfl rfl ?_
          refine GO.nil ?_
          rcases ite_elim H with ⟨c179, H⟩ | ⟨c179, H⟩
          ·
           refine G.yesB rfl (decide_eq_true c179) ?_
           obtain ⟨c185, H⟩ := ite_none H
           refine G.region ?_
           refine GO.move rfl rfl rfl ?_
           refine GO.move rfl rfl rfl ?_
           refine GO.buildS (el := 43) ([.slice A152 list_154.length c153]) HS rfl rfl (fun _ => by kernel_rfl) rfl ?_; intro b180 wd181 HS
           replace HS := HS.pk 6 [3, 0, 5, 1, 2, 4] rfl
           refine GO.appR (S := (TInt .i64)) (u := 2) HS rfl rfl rfl Try.underlying42 inf43 rfl rfl c185 rfl ?_; intro A183 c184 y186 wd182 HS
           refine GO.assign rfl rfl rfl ?_
           refine GO.nil ?_
           refine G.blockEnd ?_
           refine G.region ?_
           refine GO.add rfl rfl rfl rfl ?_
           refine GO.move rfl rfl rfl ?_
           refine GO.nil ?_
           refine G.again ?_
           refine G.weak ?_ (ih_l1 n_l4 (Nat.lt_succ_of_le (Nat.le_of_succ_le hm_l4)) (Nat.le_trans (Nat.le_of_succ_le hm_l4) (Nat.le_of_succ_le hm_l1)) _ _ _ _ _ _ _ H (HS.pk 5 [2, 3, 0, 4] rfl))
           exact ⟨rfl, rfl, rfl, rfl, rfl, rfl, trivial⟩
          ·
           refine G.noB rfl (decide_eq_false c179) ?_
           refine G.skip ?_
           refine G.blockEnd ?_
           refine G.region ?_
           refine GO.add rfl rfl rfl rfl ?_
           refine GO.move rfl rfl rfl ?_
           refine GO.nil ?_
           refine G.again ?_
           refine G.weak ?_ (ih_l1 n_l4 (Nat.lt_succ_of_le (Nat.le_of_succ_le hm_l4)) (Nat.le_trans (Nat.le_of_succ_le hm_l4) (Nat.le_of_succ_le hm_l1)) _ _ _ _ _ _ _ H (HS.pk 5 [0, 1, 2, 3] rfl))
           exact ⟨rfl, rfl, rfl, rfl, rfl, rfl, trivial⟩
         ·
          refine G.yesB rfl (congrArg Bool.not (bnot_of c178)) ?_
          refine G.skip ?_
          refine G.seq ?_
          refine G.block ?_
          refine G.seq ?_
          refine G.region ?_
          refine GO.move rfl rfl rfl ?_
          refine GO.move rfl rfl rfl ?_
          refine GO.ix rfl rfl rfl Try.underlying83 sz4 (fun _ => ⟨_, _, rfl⟩) c177.1 c177.2 rfl ?_
          refine GO.stRow (T := TBool) (j := 3) (n := arc_155.toNat) (o := 0) (vs := [.bool true]) true HS rfl flat_flat rfl rfl rfl rfl (htN na4 rfl) rfl (getD_some (d := false) (ltN c177)) rfl rfl ?_; intro wd187 HS
          refine GO.nil ?_
          refine G.len (t := 6) (m := (seen_151.set arc_155.toNat true).length) rfl (by simp only [List.length_set] <;> rfl) ?_
          obtain ⟨c193, H⟩ := ite_none H
          refine G.region ?_
          refine GO.move rfl rfl rfl ?_
          refine GO.move rfl rfl rfl ?_
          refine GO.buildS (el := 2) ([.int .i64 arc_155]) HS rfl rfl (fun _ => by kernel_rfl) rfl ?_; intro b188 wd189 HS
          refine GO.app1 (T := (TInt .i64)) (j := 5) (jb := 0) arc_155 HS rfl rfl flat_flat rfl rfl rfl Try.underlying43 inf2 rfl rfl rfl c193 rfl ?_; intro A191 c192 wd190 HS
          refine GO.assign rfl rfl rfl ?_
          refine GO.nil ?_
          refine G.blockEnd ?_
          obtain ⟨t194, h195, H⟩ := Option.bind_eq_some_iff.1 H
          refine G.region ?_
          refine GO.ldBoxA (j := 1) ([.slice A_d_Crossings d_Crossings.length c_d_Crossings, .int .i64 d_Circles]) HS rfl rfl rfl rfl ag28 rfl ?_
          refine GO.ldBoxA (j := 2) ([.slice A_a_from a_from.length c_a_from, .slice A_a_to a_to.length c_a_to]) HS rfl rfl rfl rfl ag63 rfl ?_
          refine GO.move rfl rfl rfl ?_
          refine GO.fn rfl Try.func132 fok132.1 fok132.2 rfl rfl (impl_Diagram_next.calls HS (RdIn.drop 6 h_d_Crossings) (RdIn.drop 6 h_a_from) (RdIn.drop 6 h_a_to) h195) (fun _ wd196 ⟨h197, HS⟩ => ⟨_, h197, ?_⟩)
          refine GO.assign rfl rfl rfl ?_
          refine GO.nil ?_
          refine G.again ?_
          refine G.weak ?_ (ih_l4 n_l4 (Nat.lt_succ_of_le (Nat.le_refl _)) (Nat.le_of_succ_le hm_l4) _ _ _ _ _ _ H (HS.pk 6 [1, 2, 3, 4, 5] rfl))
          exact ⟨rfl, rfl, rfl, rfl, rfl, rfl, rfl, rfl, trivial⟩
      replace HS := HS.nilRow (TInt .i64) 2 (fun _ => ())
      refine G.weak ?_ (at_l4 n_l1 (Nat.le_refl _) _ _ _ _ _ _ H (HS.pk 5 [1, 2, 3, 4, 0] rfl))
      exact ⟨rfl, rfl, rfl, rfl, rfl, rfl, rfl, rfl, trivial⟩
     ·
      refine G.noB rfl (decide_eq_false c137) ?_
      refine G.exit rfl ?_
      refine G.seq ?_
      refine G.region ?_
      refine GO.move rfl rfl rfl ?_
      refine GO.assign rfl rfl rfl ?_
      refine GO.nil ?_
      obtain rfl := Option.some.inj H
      exact G.ret1 _ Try.func133 rfl rfl ⟨_, _, _, rfl, (HS.pk 4 [2] rfl)⟩
  replace HS := HS.nilRow (Ty.slice 2 (TInt .i64)) 43 (fun _ => ⟨none, 0, fun _ => ()⟩)
  refine G.weak ?_ (at_l1 K (Nat.le_refl _) _ _ _ _ _ _ _ H (HS.pk 4 [3, 2, 0, 1] rfl))
  exact ⟨rfl, rfl, rfl, rfl, rfl, rfl, trivial⟩

end Go.Proofs.Ytdafmbaeiefacaa
