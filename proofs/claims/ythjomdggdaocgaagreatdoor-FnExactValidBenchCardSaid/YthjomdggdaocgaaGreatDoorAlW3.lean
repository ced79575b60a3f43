/-
  The walks through the functions: a call comes to what its list function says.
-/
import Derived.Test.YthjomdggdaocgaaGreatDoorAlF
import Derived.Test.YthjomdggdaocgaaGreatDoorAlW2
set_option linter.unusedVariables false
set_option linter.unusedSimpArgs false
namespace Go.Proofs.YthjomdggdaocgaaGreatDoor
open Go.RowKit
open Tryz
set_option maxRecDepth 20000
set_option maxHeartbeats 40000000
theorem impl_Face_target.calls {w0 w : World} {L : List HObj} {K : Nat} {f_Tet f_Perm : Int} {face r1 : Int} (HS : St w0 w (L)) (H : impl_Face_target.f K f_Tet f_Perm face = some r1) :
    Calls prog 179 #[.agg [.int .i64 f_Tet, .int .i64 f_Perm].toArray, .int .i64 face] w (impl_Face_target.post w0 L r1) := by
  unfold impl_Face_target.f at H
  refine Calls.of_G func179 rfl rfl rfl ?_
  refine G.seq (G.region (GO.box (cs := [.int .i64 f_Tet, .int .i64 f_Perm]) HS rfl rfl rfl rfl fun b1 wd2 HS => GO.assign rfl rfl rfl (GO.nil (G.seq ?_))))
  obtain ⟨t3, t4, t5, t6, h7, H⟩ := bind4_elim H
  obtain ⟨c10, H⟩ := ite_none H
  refine G.region (GO.fld (⟨b1, 1, none⟩) rfl rfl fl140_1 rfl rfl (GO.ldBox (j := 0) HS rfl rfl rfl rfl na2 rfl (GO.fn rfl func194 fok194.1 fok194.2 rfl rfl (impl_perm.calls HS  h7) (fun _ wd8 ⟨h9, HS⟩ => ⟨_, h9, (GO.move rfl rfl rfl (GO.ixArr ([t3, t4, t5, t6] : List Int) rfl rfl rfl underlying214 underlying2 sz2 rfl c10.1 c10.2 rfl (GO.assign rfl rfl rfl (GO.nil ?_))))⟩))))
  obtain rfl := Option.some.inj H
  exact G.ret1 _ func179 rfl rfl ⟨rfl, (HS.pk 1 [] rfl)⟩
theorem impl_indexOf.calls {w0 w : World} {L : List HObj} {K : Nat} {images_0 images_1 : Int} {images_2 images_3 r1 : Int} (HS : St w0 w (L)) (H : impl_indexOf.f K images_0 images_1 images_2 images_3 = some r1) :
    Calls prog 208 #[.agg [.int .i64 images_0, .int .i64 images_1, .int .i64 images_2, .int .i64 images_3].toArray] w (impl_indexOf.post w0 L r1) := by
  unfold impl_indexOf.f at H
  refine Calls.of_G func208 rfl rfl rfl ?_
  refine G.seq (G.region (GO.box (cs := [.int .i64 images_0, .int .i64 images_1, .int .i64 images_2, .int .i64 images_3]) HS rfl rfl rfl rfl fun b1 wd2 HS => GO.assign rfl rfl rfl (GO.nil (G.run 4 rfl (G.region (GO.buildS (el := 2) ([.int .i64 6, .int .i64 2, .int .i64 1, .int .i64 1]) HS rfl rfl (fun _ => by kernel_rfl) rfl fun b3 wd4 HS => GO.lenS rfl rfl underlying41 rfl (GO.move rfl rfl rfl (GO.nil (G.run 2 rfl ?_)))))))))
  replace HS := HS.boxRow (T := (TInt .i64)) (j := 0) rfl flat_flat (fun _ => ()) ([6, 2, 1, 1] : List Int) rfl (bndL rfl)
  refine G.lenC (t := 9) (m := ([6, 2, 1, 1] : List Int).length) (c' := ([6, 2, 1, 1] : List Int).length) rfl rfl rfl ?_
  refine G.name (fun k_l1 hk_l1 => ?_)
  have at_l1 : ∀ m_l1, m_l1 ≤ K → ∀ (out_18 x19 : Int) (w : World), impl_indexOf.l1 K m_l1 images_0 images_1 images_2 images_3 out_18 x19 = some r1 → St w0 w (Box b1 214 [.int .i64 images_0, .int .i64 images_1, .int .i64 images_2, .int .i64 images_3] :: Own (TInt .i64) 2 (some ⟨b3, 0, none⟩) (([6, 2, 1, 1] : List Int).length) (fun _ => ()) ([6, 2, 1, 1] : List Int) :: L) → G prog 208 41 [(1, .pointer (some ⟨b1, 0, none⟩)), (3, .int .i64 out_18), (9, .slice (some ⟨b3, 0, none⟩) ([6, 2, 1, 1] : List Int).length (([6, 2, 1, 1] : List Int).length)), (10, .int .i64 4), (11, .int .i64 x19)] k_l1 w (impl_indexOf.post w0 L r1) := by
   intro m_l1
   induction m_l1 using Nat.strongRecOn with
   | _ m_l1 ih_l1 =>
    intro hm_l1 out_18 x19 w H HS
    cases m_l1 with
    | zero => rw [impl_indexOf.l1] at H; cases H
    | succ n_l1 =>
     rw [impl_indexOf.l1] at H
     subst hk_l1
     refine G.run 3 rfl ?_
     rcases ite_elim H with ⟨c35, H⟩ | ⟨c35, H⟩
     ·
      refine G.yesB rfl (decide_eq_true c35) (G.run 4 rfl ?_)
      obtain ⟨c36, H⟩ := ite_none H
      refine G.region (GO.move rfl rfl rfl (GO.ix rfl rfl rfl underlying41 sz2 (fun _ => ⟨_, _, rfl⟩) c36.1 c36.2 rfl (GO.ldRd (T := (TInt .i64)) (n := x19.toNat) (o := 0) HS (RdIn.own (j := 1) rfl) rfl rfl (getD_some (d := 0) (ltN c36)) rfl rfl na2 rfl (GO.ps 2 rfl (GO.nil (G.seq ?_))))))
      obtain ⟨c37, H⟩ := ite_none H
      refine G.region (GO.move rfl rfl rfl (GO.ixV rfl rfl rfl underlying214 sz2 c37.1 c37.2 rfl (GO.ldBoxV (j := 0) (kd := .i64) ([images_0, images_1, images_2, images_3] : List Int) HS rfl rfl rfl (ltN c37) na2 rfl rfl (GO.assign rfl rfl rfl (GO.nil (G.run 2 rfl ?_))))))
      obtain ⟨c38, H⟩ := ite_none H
      refine G.region (GO.move rfl rfl rfl (GO.slArrH (m := (([images_0, images_1, images_2, images_3] : List Int).take x19.toNat).length) rfl rfl rfl underlying214 sz2 c38 (lenTake (leN c38)) rfl (GO.lenS rfl rfl underlying41 rfl (GO.move rfl rfl rfl (GO.nil (G.run 2 rfl ?_))))))
      refine G.name (fun k_l4 hk_l4 => ?_)
      have at_l4 : ∀ m_l4, m_l4 ≤ n_l1 → ∀ (less_42 x43 : Int) (w : World), impl_indexOf.l4 K m_l4 images_0 images_1 images_2 images_3 out_18 x19 less_42 x43 = some r1 → St w0 w (Box b1 214 [.int .i64 images_0, .int .i64 images_1, .int .i64 images_2, .int .i64 images_3] :: Own (TInt .i64) 2 (some ⟨b3, 0, none⟩) (([6, 2, 1, 1] : List Int).length) (fun _ => ()) ([6, 2, 1, 1] : List Int) :: L) → G prog 208 41 [(1, .pointer (some ⟨b1, 0, none⟩)), (3, .int .i64 out_18), (4, .int .i64 x19), (5, .int .i64 (([6, 2, 1, 1] : List Int).getD x19.toNat 0)), (6, .int .i64 less_42), (9, .slice (some ⟨b3, 0, none⟩) ([6, 2, 1, 1] : List Int).length (([6, 2, 1, 1] : List Int).length)), (10, .int .i64 4), (11, .int .i64 x19), (20, .slice (some ⟨b1, 0, none⟩) (([images_0, images_1, images_2, images_3] : List Int).take x19.toNat).length 4), (21, .int .i64 ((([images_0, images_1, images_2, images_3] : List Int).take x19.toNat).length : Int)), (22, .int .i64 x43)] k_l4 w (impl_indexOf.post w0 L r1) := by
       intro m_l4
       induction m_l4 using Nat.strongRecOn with
       | _ m_l4 ih_l4 =>
        intro hm_l4 less_42 x43 w H HS
        cases m_l4 with
        | zero => rw [impl_indexOf.l4] at H; cases H
        | succ n_l4 =>
         rw [impl_indexOf.l4] at H
         subst hk_l4
         refine G.run 3 rfl ?_
         rcases ite_elim H with ⟨c47, H⟩ | ⟨c47, H⟩
         ·
          refine G.yesB rfl (decide_eq_true c47) (G.run 4 rfl ?_)
          obtain ⟨c48, H⟩ := ite_none H
          refine G.region (GO.ix rfl rfl rfl underlying41 sz2 (fun _ => ⟨_, _, rfl⟩) c48.1 c48.2 rfl (GO.ldRd (T := (TInt .i64)) (n := x43.toNat) (o := 0) HS (RdIn.take (RdIn.box (j := 0) (fun _ => ()) ([images_0, images_1, images_2, images_3] : List Int) rfl rfl rfl rfl (fun _ _ _ _ _ => trivial)) (leN c38)) rfl rfl (getD_some (d := 0) (ltN c48)) rfl rfl na2 rfl (GO.assign rfl rfl rfl (GO.nil (G.seq (G.region (GO.ps 2 rfl (GO.ixV rfl rfl rfl underlying214 sz2 c37.1 c37.2 rfl (GO.ldBoxV (j := 0) (kd := .i64) ([images_0, images_1, images_2, images_3] : List Int) HS rfl rfl rfl (ltN c37) na2 rfl rfl (GO.lss rfl rfl rfl rfl (GO.nil ?_)))))))))))
          rcases ite_elim H with ⟨c49, H⟩ | ⟨c49, H⟩
          ·
           refine G.yesB rfl (decide_eq_true c49) (G.run 4 rfl (G.weak ?_ (ih_l4 n_l4 (Nat.lt_succ_of_le (Nat.le_refl _)) (Nat.le_of_succ_le hm_l4) _ _ _ H HS)))
           exact ⟨rfl, rfl, rfl, rfl, rfl, rfl, rfl, rfl, rfl, rfl, rfl, trivial⟩
          refine G.noB rfl (decide_eq_false c49) (G.run 4 rfl (G.weak ?_ (ih_l4 n_l4 (Nat.lt_succ_of_le (Nat.le_refl _)) (Nat.le_of_succ_le hm_l4) _ _ _ H HS)))
          exact ⟨rfl, rfl, rfl, rfl, rfl, rfl, rfl, rfl, rfl, rfl, rfl, trivial⟩
         refine G.noB rfl (decide_eq_false c47) (G.run 5 rfl (G.weak ?_ (ih_l1 n_l4 (by omega) (by omega) _ _ _ H HS)))
         exact ⟨rfl, rfl, rfl, rfl, rfl, trivial⟩
      refine G.weak ?_ (at_l4 n_l1 (Nat.le_refl _) _ _ _ H HS)
      exact ⟨rfl, rfl, rfl, rfl, rfl, rfl, rfl, rfl, rfl, rfl, rfl, trivial⟩
     refine G.noB rfl (decide_eq_false c35) (G.run 3 rfl ?_)
     obtain rfl := Option.some.inj H
     exact G.ret1 _ func208 rfl rfl ⟨rfl, (HS.pk 2 [] rfl)⟩
  refine G.weak ?_ (at_l1 K (Nat.le_refl _) _ _ _ H (HS.pk 2 [1, 0] rfl))
  exact ⟨rfl, rfl, rfl, rfl, rfl, trivial⟩
theorem impl_invert.calls {w0 w : World} {L : List HObj} {K : Nat} {p r1 : Int} (HS : St w0 w (L)) (H : impl_invert.f K p = some r1) :
    Calls prog 195 #[.int .i64 p] w (impl_invert.post w0 L r1) := by
  unfold impl_invert.f at H
  refine Calls.of_G func195 rfl rfl rfl ?_
  refine G.run 3 rfl (G.region (GO.alloc HS rfl zr214 rfl rfl fun b1 wd2 HS => GO.nil (G.run 2 rfl ?_)))
  obtain ⟨t3, t4, t5, t6, h7, H⟩ := bind4_elim H
  refine G.region (GO.move rfl rfl rfl (GO.fn rfl func194 fok194.1 fok194.2 rfl rfl (impl_perm.calls HS  h7) (fun _ wd8 ⟨h9, HS⟩ => ⟨_, h9, (GO.move rfl rfl rfl (GO.nil (G.run 2 rfl ?_)))⟩)))
  refine G.name (fun k_l1 hk_l1 => ?_)
  have at_l1 : ∀ m_l1, m_l1 ≤ K → ∀ (x18 out_33 : Int) (out_34 out_35 out_36 : Int) (w : World), impl_invert.l1 K m_l1 t3 t4 t5 t6 x18 out_33 out_34 out_35 out_36 = some r1 → St w0 w (Box b1 214 [.int .i64 out_33, .int .i64 out_34, .int .i64 out_35, .int .i64 out_36] :: L) → G prog 195 18 [(3, .pointer (some ⟨b1, 0, none⟩)), (7, .agg [.int .i64 t3, .int .i64 t4, .int .i64 t5, .int .i64 t6].toArray), (8, .int .i64 x18)] k_l1 w (impl_invert.post w0 L r1) := by
   intro m_l1
   induction m_l1 using Nat.strongRecOn with
   | _ m_l1 ih_l1 =>
    intro hm_l1 x18 out_33 out_34 out_35 out_36 w H HS
    cases m_l1 with
    | zero => rw [impl_invert.l1] at H; cases H
    | succ n_l1 =>
     rw [impl_invert.l1] at H
     subst hk_l1
     refine G.run 3 rfl ?_
     rcases ite_elim H with ⟨c51, H⟩ | ⟨c51, H⟩
     ·
      refine G.yesB rfl (decide_eq_true c51) (G.run 4 rfl ?_)
      obtain ⟨c52, H⟩ := ite_none H
      refine G.region (GO.move rfl rfl rfl (GO.ixArr ([t3, t4, t5, t6] : List Int) rfl rfl rfl underlying214 underlying2 sz2 rfl c52.1 c52.2 rfl (GO.ps 2 rfl (GO.nil ?_))))
      rcases ite_elim H with ⟨c53, H⟩ | ⟨c53, H⟩
      ·
       refine G.region (GO.ps 2 rfl (GO.ixP 0 rfl rfl rfl c53 underlying214 sz2 rfl rfl (GO.stBox (j := 0) (vs := [.int .i64 x18]) ([.int .i64 x18, .int .i64 out_34, .int .i64 out_35, .int .i64 out_36]) HS rfl rfl rfl rfl rfl (htN na2 rfl) rfl rfl rfl fun wd54 HS => GO.nil (G.run 3 rfl (G.weak ?_ (ih_l1 n_l1 (Nat.lt_succ_of_le (Nat.le_refl _)) (Nat.le_of_succ_le hm_l1) _ _ _ _ _ _ H HS))))))
       exact ⟨rfl, rfl, rfl, trivial⟩
      rcases ite_elim H with ⟨c55, H⟩ | ⟨c55, H⟩
      ·
       refine G.region (GO.ps 2 rfl (GO.ixP 1 rfl rfl rfl c55 underlying214 sz2 rfl rfl (GO.stBox (j := 0) (vs := [.int .i64 x18]) ([.int .i64 out_33, .int .i64 x18, .int .i64 out_35, .int .i64 out_36]) HS rfl rfl rfl rfl rfl (htN na2 rfl) rfl rfl rfl fun wd56 HS => GO.nil (G.run 3 rfl (G.weak ?_ (ih_l1 n_l1 (Nat.lt_succ_of_le (Nat.le_refl _)) (Nat.le_of_succ_le hm_l1) _ _ _ _ _ _ H HS))))))
       exact ⟨rfl, rfl, rfl, trivial⟩
      rcases ite_elim H with ⟨c57, H⟩ | ⟨c57, H⟩
      ·
       refine G.region (GO.ps 2 rfl (GO.ixP 2 rfl rfl rfl c57 underlying214 sz2 rfl rfl (GO.stBox (j := 0) (vs := [.int .i64 x18]) ([.int .i64 out_33, .int .i64 out_34, .int .i64 x18, .int .i64 out_36]) HS rfl rfl rfl rfl rfl (htN na2 rfl) rfl rfl rfl fun wd58 HS => GO.nil (G.run 3 rfl (G.weak ?_ (ih_l1 n_l1 (Nat.lt_succ_of_le (Nat.le_refl _)) (Nat.le_of_succ_le hm_l1) _ _ _ _ _ _ H HS))))))
       exact ⟨rfl, rfl, rfl, trivial⟩
      rcases ite_elim H with ⟨c59, H⟩ | ⟨c59, H⟩
      ·
       refine G.region (GO.ps 2 rfl (GO.ixP 3 rfl rfl rfl c59 underlying214 sz2 rfl rfl (GO.stBox (j := 0) (vs := [.int .i64 x18]) ([.int .i64 out_33, .int .i64 out_34, .int .i64 out_35, .int .i64 x18]) HS rfl rfl rfl rfl rfl (htN na2 rfl) rfl rfl rfl fun wd60 HS => GO.nil (G.run 3 rfl (G.weak ?_ (ih_l1 n_l1 (Nat.lt_succ_of_le (Nat.le_refl _)) (Nat.le_of_succ_le hm_l1) _ _ _ _ _ _ H HS))))))
       exact ⟨rfl, rfl, rfl, trivial⟩
      cases H
     refine G.noB rfl (decide_eq_false c51) (G.run 2 rfl ?_)
     obtain ⟨t61, h62, H⟩ := Option.bind_eq_some_iff.1 H
     refine G.region (GO.ldBoxA (j := 0) ([.int .i64 out_33, .int .i64 out_34, .int .i64 out_35, .int .i64 out_36]) HS rfl rfl rfl rfl ag214 rfl (GO.fn rfl func208 fok208.1 fok208.2 rfl rfl (impl_indexOf.calls HS  h62) (fun _ wd63 ⟨h64, HS⟩ => ⟨_, h64, (GO.assign rfl rfl rfl (GO.nil ?_))⟩)))
     obtain rfl := Option.some.inj H
     exact G.ret1 _ func195 rfl rfl ⟨rfl, (HS.pk 1 [] rfl)⟩
  refine G.weak ?_ (at_l1 K (Nat.le_refl _) _ _ _ _ _ _ H HS)
  exact ⟨rfl, rfl, rfl, trivial⟩
theorem impl_Face_partner.calls {w0 w : World} {L : List HObj} {K : Nat} {f_Tet f_Perm : Int} {tet r1 r2 : Int} (HS : St w0 w (L)) (H : impl_Face_partner.f K f_Tet f_Perm tet = some (r1, r2)) :
    Calls prog 180 #[.agg [.int .i64 f_Tet, .int .i64 f_Perm].toArray, .int .i64 tet] w (impl_Face_partner.post w0 L r1 r2) := by
  unfold impl_Face_partner.f at H
  refine Calls.of_G func180 rfl rfl rfl ?_
  refine G.seq (G.region (GO.box (cs := [.int .i64 f_Tet, .int .i64 f_Perm]) HS rfl rfl rfl rfl fun b1 wd2 HS => GO.alloc HS rfl zr140 rfl rfl fun b3 wd4 HS => GO.nil (G.seq ?_)))
  obtain ⟨t5, h6, H⟩ := Option.bind_eq_some_iff.1 H
  refine G.region (GO.move rfl rfl rfl (GO.fld (⟨b1, 1, none⟩) rfl rfl fl140_1 rfl rfl (GO.ldBox (j := 1) HS rfl rfl rfl rfl na2 rfl (GO.fn rfl func195 fok195.1 fok195.2 rfl rfl (impl_invert.calls HS  h6) (fun _ wd7 ⟨h8, HS⟩ => ⟨_, h8, (GO.buildV (.agg [.int .i64 tet, .int .i64 t5].toArray) rfl rfl (fun _ => by kernel_rfl) rfl (GO.stBox (j := 0) (vs := [.int .i64 tet, .int .i64 t5]) ([.int .i64 tet, .int .i64 t5]) HS rfl rfl rfl rfl rfl (htA ag140) rfl rfl rfl fun wd9 HS => GO.nil ?_))⟩)))))
  obtain ⟨rfl, rfl⟩ := some2 H
  exact G.ret1 _ func180 rfl (Res1.boxA (j := 0) (vs := [.int .i64 tet, .int .i64 t5]) HS rfl rfl rfl ag140) ⟨rfl, (HS.pk 2 [] rfl)⟩
theorem impl_Triangulation_isGood.calls {w0 w : World} {L : List HObj} {K : Nat} {t_Tets : List (List GFace)} {tet f : Int} {A_a : Option Addr} {c_a : Nat} {y_a : Nat → (Ty.slice 140 T_GFace).Lay} {r1 : Bool} (HS : St w0 w (L)) (r_a : RdIn w0 L (Ty.slice 140 T_GFace) A_a c_a y_a t_Tets) (H : impl_Triangulation_isGood.f K t_Tets tet f = some r1) :
    Calls prog 162 #[.agg [.slice A_a t_Tets.length c_a].toArray, .int .i64 tet, .int .i64 f] w (impl_Triangulation_isGood.post w0 L r1) := by
  unfold impl_Triangulation_isGood.f at H
  refine Calls.of_G func162 rfl rfl rfl ?_
  refine G.seq (G.region (GO.box (cs := [.slice A_a t_Tets.length c_a]) HS rfl rfl rfl rfl fun b1 wd2 HS => GO.assign rfl rfl rfl (GO.nil (G.seq ?_))))
  obtain ⟨c3, H⟩ := ite_none H
  obtain ⟨c4, H⟩ := ite_none H
  obtain ⟨e5, h6, H⟩ := bnd_elim H
  refine G.region (GO.fld (⟨b1, 0, none⟩) rfl rfl fl37_0 rfl rfl (GO.ldBox (j := 0) HS rfl rfl rfl rfl na35 rfl (GO.move rfl rfl rfl (GO.ix rfl rfl rfl underlying35 sz136 ((RdIn.drop 1 r_a) _ HS).2.2.1 c3.1 c3.2 rfl (GO.ldRd (T := (Ty.slice 140 T_GFace)) (n := tet.toNat) (o := 0) HS (RdIn.drop 1 r_a) rfl rfl (getD_some (d := []) (ltN c3)) rfl rfl na136 rfl (GO.move rfl rfl rfl (GO.ix rfl rfl rfl underlying136 sz140 ((RdIn.elem (RdIn.drop 1 r_a) c3.1 c3.2) _ HS).2.2.1 c4.1 c4.2 rfl (GO.ldRdA (T := T_GFace) (n := f.toNat) HS (RdIn.elem (RdIn.drop 1 r_a) c3.1 c3.2) rfl rfl (getD_eq (ltN c4) h6) ag140 rfl (GO.alloc HS rfl zr140 rfl rfl fun b7 wd8 HS => GO.stBox (j := 0) (vs := [.int .i64 e5.Tet, .int .i64 e5.Perm]) ([.int .i64 e5.Tet, .int .i64 e5.Perm]) HS rfl rfl rfl rfl rfl (htA ag140) rfl rfl rfl fun wd9 HS => GO.nil (G.run 2 rfl (G.region (GO.fld (⟨b7, 0, none⟩) rfl rfl fl140_0 rfl rfl ?_))))))))))))
  refine GO.ldBox (j := 0) HS rfl rfl rfl rfl na2 rfl (GO.eql rfl rfl rfl rfl (GO.nil ?_))
  rcases ite_elim H with ⟨c10, H⟩ | ⟨c10, H⟩
  ·
   refine G.yesB rfl (decide_eq_true c10) (G.seq (G.region (GO.fld (⟨b7, 1, none⟩) rfl rfl fl140_1 rfl rfl (GO.ldBox (j := 0) HS rfl rfl rfl rfl na2 rfl (GO.ps 2 rfl (GO.nil ?_))))))
   obtain rfl := Option.some.inj H
   exact G.ret1 _ func162 rfl rfl ⟨rfl, (HS.pk 2 [] rfl)⟩
  refine G.noB rfl (decide_eq_false c10) (G.run 3 rfl ?_)
  obtain ⟨t20, h21, H⟩ := Option.bind_eq_some_iff.1 H
  rcases ite_elim H with ⟨c24, H⟩ | ⟨c24, H⟩
  ·
   obtain ⟨t25, h26, H⟩ := Option.bind_eq_some_iff.1 H
   refine G.region (GO.fld (⟨b1, 0, none⟩) rfl rfl fl37_0 rfl rfl (GO.ldBox (j := 1) HS rfl rfl rfl rfl na35 rfl (GO.fld (⟨b7, 0, none⟩) rfl rfl fl140_0 rfl rfl (GO.ldBox (j := 0) HS rfl rfl rfl rfl na2 rfl (GO.fn rfl func178 fok178.1 fok178.2 rfl rfl (impl_hasIndex_impl_Face.calls HS (RdIn.drop 2 r_a) h21) (fun _ wd22 ⟨h23, HS⟩ => ⟨_, h23, (GO.ps 2 rfl (GO.known (t := 29) rfl (congrArg Bool.not c24) (GO.on rfl rfl rfl rfl (GO.fld (⟨b7, 1, none⟩) rfl rfl fl140_1 rfl rfl (GO.back (GO.on rfl rfl rfl rfl (GO.ldBox (j := 0) HS rfl rfl rfl rfl na2 rfl (GO.back (GO.on rfl rfl rfl rfl ?_)))))))))⟩))))))
   refine GO.fn rfl func173 fok173.1 fok173.2 rfl rfl (impl_isPerm.calls HS  h26) (fun _ wd27 ⟨h28, HS⟩ => ⟨_, h28, (GO.back (GO.on rfl rfl rfl rfl (GO.not rfl rfl rfl (GO.back (GO.pickF rfl rfl rfl rfl rfl (GO.nil ?_))))))⟩)
   rcases ite_elim H with ⟨c29, H⟩ | ⟨c29, H⟩
   ·
    refine G.noB rfl (congrArg Bool.not c29) (G.run 2 rfl ?_)
    obtain ⟨t30, h31, H⟩ := Option.bind_eq_some_iff.1 H
    refine G.region (GO.ldBoxA (j := 0) ([.int .i64 e5.Tet, .int .i64 e5.Perm]) HS rfl rfl rfl rfl ag140 rfl (GO.move rfl rfl rfl (GO.fn rfl func179 fok179.1 fok179.2 rfl rfl (impl_Face_target.calls HS  h31) (fun _ wd32 ⟨h33, HS⟩ => ⟨_, h33, (GO.assign rfl rfl rfl (GO.nil (G.seq ?_)))⟩))))
    obtain ⟨c34, H⟩ := ite_none H
    obtain ⟨c35, H⟩ := ite_none H
    obtain ⟨e36, h37, H⟩ := bnd_elim H
    obtain ⟨t38, t39, h40, H⟩ := bind2_elim H
    rcases ite_elim H with ⟨c43, H⟩ | ⟨c43, H⟩
    ·
     rcases ite_elim H with ⟨c44, H⟩ | ⟨c44, H⟩
     ·
      refine G.lexS mixed (fun w => St w0 w (Box b7 140 [.int .i64 e5.Tet, .int .i64 e5.Perm] :: Box b1 37 [.slice A_a t_Tets.length c_a] :: L)) [1, 3, 5, 8, 9, 15] [0, 2, 6, 10, 1, 3, 4, 5, 7, 8, 9, 11, 12, 13, 14, 16, 15, 17, 18, 19, 20, 21, 22, 23, 24] 25 (by kernel_rfl) (by kernel_rfl) HS.drew ?_
      replace HS := HS.drew
      refine GX.l0 rfl rfl (fun _ _ g => GO.fld (⟨b1, 0, none⟩) rfl rfl fl37_0 rfl rfl g) rfl (GX.l0 rfl rfl (fun _ _ g => GO.fld (⟨b7, 0, none⟩) rfl rfl fl140_0 rfl rfl g) rfl (GX.ps 2 rfl (GX.ls rfl rfl rfl HS (fun _ HS _ g => GO.ldBox (j := 1) HS rfl rfl rfl rfl na35 rfl g) rfl (GX.ls rfl rfl rfl HS (fun _ HS _ g => GO.ldBox (j := 0) HS rfl rfl rfl rfl na2 rfl g) rfl (GX.l0 rfl rfl (fun _ _ g => GO.ix rfl rfl rfl underlying35 sz136 ((RdIn.drop 2 r_a) _ HS).2.2.1 c34.1 c34.2 rfl g) rfl (GX.ls rfl rfl rfl HS (fun _ HS _ g => GO.ldRd (T := (Ty.slice 140 T_GFace)) (n := e5.Tet.toNat) (o := 0) HS (RdIn.drop 2 r_a) rfl rfl (getD_some (d := []) (ltN c34)) rfl rfl na136 rfl g) rfl (GX.l0 rfl rfl (fun _ _ g => GO.ix rfl rfl rfl underlying136 sz140 ((RdIn.elem (RdIn.drop 2 r_a) c34.1 c34.2) _ HS).2.2.1 c35.1 c35.2 rfl g) rfl (GX.ls rfl rfl rfl HS (fun _ HS _ g => GO.ldRdA (T := T_GFace) (n := t30.toNat) HS (RdIn.elem (RdIn.drop 2 r_a) c34.1 c34.2) rfl rfl (getD_eq (ltN c35) h37) ag140 rfl g) rfl (GX.ls rfl rfl rfl HS (fun _ HS _ g => GO.ldBoxA (j := 0) ([.int .i64 e5.Tet, .int .i64 e5.Perm]) HS rfl rfl rfl rfl ag140 rfl g) rfl (GX.l2 rfl (GO.fn rfl func180 fok180.1 fok180.2 rfl rfl (impl_Face_partner.calls HS  h40) (fun _ wd41 ⟨h42, HS⟩ => ⟨_, h42, (GX.fin HS (GX.l0 rfl rfl (fun _ _ g => GO.eqlA rfl rfl rfl ng140 (fun _ => eq140) rfl g) rfl (GX.l0 rfl rfl (fun _ _ g => GO.move rfl rfl rfl (GO.known (t := 51) rfl (decide_eq_true c43) g)) rfl ?_)))⟩))))))))))))
      refine GX.l0 rfl rfl (fun _ _ g => GO.on rfl rfl rfl rfl (GO.fld (⟨b7, 0, none⟩) rfl rfl fl140_0 rfl rfl (GO.back g))) rfl (GX.l0 rfl rfl (fun _ _ g => GO.on rfl rfl rfl rfl (GO.move rfl rfl rfl (GO.back g))) rfl (GX.ls rfl rfl rfl HS (fun _ HS _ g => GO.on rfl rfl rfl rfl (GO.ldBox (j := 0) HS rfl rfl rfl rfl na2 rfl (GO.back g))) rfl (GX.l0 rfl rfl (fun _ _ g => GO.on rfl rfl rfl rfl (GO.neq rfl rfl rfl rfl (GO.back g))) rfl (GX.l0 rfl rfl (fun _ _ g => GO.on rfl rfl rfl rfl (GO.move rfl rfl rfl (GO.back (GO.known (t := 56) rfl (congrArg Bool.not (decide_eq_true c44)) g)))) rfl (GX.l0 rfl rfl (fun _ _ g => GO.on rfl rfl rfl rfl (GO.move rfl rfl rfl (GO.back g))) rfl (GX.l0 rfl rfl (fun _ _ g => GO.on rfl rfl rfl rfl (GO.move rfl rfl rfl (GO.back g))) rfl (GX.l0 rfl rfl (fun _ _ g => GO.on rfl rfl rfl rfl (GO.neq rfl rfl rfl rfl (GO.back g))) rfl (GX.l0 rfl rfl (fun _ _ g => GO.on rfl rfl rfl rfl (GO.pickF rfl rfl rfl rfl rfl (GO.back g))) rfl (GX.ps 2 rfl (GX.nil ?_))))))))))
      obtain rfl := Option.some.inj H
      exact G.ret1 _ func162 rfl rfl ⟨rfl, (HS.pk 2 [] rfl)⟩
     refine G.lexS mixed (fun w => St w0 w (Box b7 140 [.int .i64 e5.Tet, .int .i64 e5.Perm] :: Box b1 37 [.slice A_a t_Tets.length c_a] :: L)) [1, 3, 5, 8, 9, 15] [0, 2, 6, 10, 1, 3, 4, 5, 7, 8, 9, 11, 12, 13, 14, 16, 15, 17, 18, 19, 20, 21, 22, 23, 24] 25 (by kernel_rfl) (by kernel_rfl) HS.drew ?_
     replace HS := HS.drew
     refine GX.l0 rfl rfl (fun _ _ g => GO.fld (⟨b1, 0, none⟩) rfl rfl fl37_0 rfl rfl g) rfl (GX.l0 rfl rfl (fun _ _ g => GO.fld (⟨b7, 0, none⟩) rfl rfl fl140_0 rfl rfl g) rfl (GX.ps 2 rfl (GX.ls rfl rfl rfl HS (fun _ HS _ g => GO.ldBox (j := 1) HS rfl rfl rfl rfl na35 rfl g) rfl (GX.ls rfl rfl rfl HS (fun _ HS _ g => GO.ldBox (j := 0) HS rfl rfl rfl rfl na2 rfl g) rfl (GX.l0 rfl rfl (fun _ _ g => GO.ix rfl rfl rfl underlying35 sz136 ((RdIn.drop 2 r_a) _ HS).2.2.1 c34.1 c34.2 rfl g) rfl (GX.ls rfl rfl rfl HS (fun _ HS _ g => GO.ldRd (T := (Ty.slice 140 T_GFace)) (n := e5.Tet.toNat) (o := 0) HS (RdIn.drop 2 r_a) rfl rfl (getD_some (d := []) (ltN c34)) rfl rfl na136 rfl g) rfl (GX.l0 rfl rfl (fun _ _ g => GO.ix rfl rfl rfl underlying136 sz140 ((RdIn.elem (RdIn.drop 2 r_a) c34.1 c34.2) _ HS).2.2.1 c35.1 c35.2 rfl g) rfl (GX.ls rfl rfl rfl HS (fun _ HS _ g => GO.ldRdA (T := T_GFace) (n := t30.toNat) HS (RdIn.elem (RdIn.drop 2 r_a) c34.1 c34.2) rfl rfl (getD_eq (ltN c35) h37) ag140 rfl g) rfl (GX.ls rfl rfl rfl HS (fun _ HS _ g => GO.ldBoxA (j := 0) ([.int .i64 e5.Tet, .int .i64 e5.Perm]) HS rfl rfl rfl rfl ag140 rfl g) rfl (GX.l2 rfl (GO.fn rfl func180 fok180.1 fok180.2 rfl rfl (impl_Face_partner.calls HS  h40) (fun _ wd41 ⟨h42, HS⟩ => ⟨_, h42, (GX.fin HS (GX.l0 rfl rfl (fun _ _ g => GO.eqlA rfl rfl rfl ng140 (fun _ => eq140) rfl g) rfl (GX.l0 rfl rfl (fun _ _ g => GO.move rfl rfl rfl (GO.known (t := 51) rfl (decide_eq_true c43) g)) rfl ?_)))⟩))))))))))))
     refine GX.l0 rfl rfl (fun _ _ g => GO.on rfl rfl rfl rfl (GO.fld (⟨b7, 0, none⟩) rfl rfl fl140_0 rfl rfl (GO.back g))) rfl (GX.l0 rfl rfl (fun _ _ g => GO.on rfl rfl rfl rfl (GO.move rfl rfl rfl (GO.back g))) rfl (GX.ls rfl rfl rfl HS (fun _ HS _ g => GO.on rfl rfl rfl rfl (GO.ldBox (j := 0) HS rfl rfl rfl rfl na2 rfl (GO.back g))) rfl (GX.l0 rfl rfl (fun _ _ g => GO.on rfl rfl rfl rfl (GO.neq rfl rfl rfl rfl (GO.back g))) rfl (GX.l0 rfl rfl (fun _ _ g => GO.on rfl rfl rfl rfl (GO.move rfl rfl rfl (GO.back (GO.known (t := 56) rfl (congrArg Bool.not (decide_eq_false c44)) g)))) rfl (GX.l0 rfl rfl (fun _ _ g => GO.off rfl rfl rfl rfl rfl rfl g) rfl (GX.l0 rfl rfl (fun _ _ g => GO.off rfl rfl rfl rfl rfl rfl g) rfl (GX.l0 rfl rfl (fun _ _ g => GO.off rfl rfl rfl rfl rfl rfl g) rfl (GX.l0 rfl rfl (fun _ _ g => GO.on rfl rfl rfl rfl (GO.pickT rfl rfl rfl rfl rfl (GO.back g))) rfl (GX.ps 2 rfl (GX.nil ?_))))))))))
     obtain rfl := Option.some.inj H
     exact G.ret1 _ func162 rfl rfl ⟨rfl, (HS.pk 2 [] rfl)⟩
    refine G.lexS mixed (fun w => St w0 w (Box b7 140 [.int .i64 e5.Tet, .int .i64 e5.Perm] :: Box b1 37 [.slice A_a t_Tets.length c_a] :: L)) [1, 3, 5, 8, 9, 15] [0, 2, 6, 10, 1, 3, 4, 5, 7, 8, 9, 11, 12, 13, 14, 16, 15, 17, 18, 19, 20, 21, 22, 23, 24] 25 (by kernel_rfl) (by kernel_rfl) HS.drew ?_
    replace HS := HS.drew
    refine GX.l0 rfl rfl (fun _ _ g => GO.fld (⟨b1, 0, none⟩) rfl rfl fl37_0 rfl rfl g) rfl (GX.l0 rfl rfl (fun _ _ g => GO.fld (⟨b7, 0, none⟩) rfl rfl fl140_0 rfl rfl g) rfl (GX.ps 2 rfl (GX.ls rfl rfl rfl HS (fun _ HS _ g => GO.ldBox (j := 1) HS rfl rfl rfl rfl na35 rfl g) rfl (GX.ls rfl rfl rfl HS (fun _ HS _ g => GO.ldBox (j := 0) HS rfl rfl rfl rfl na2 rfl g) rfl (GX.l0 rfl rfl (fun _ _ g => GO.ix rfl rfl rfl underlying35 sz136 ((RdIn.drop 2 r_a) _ HS).2.2.1 c34.1 c34.2 rfl g) rfl (GX.ls rfl rfl rfl HS (fun _ HS _ g => GO.ldRd (T := (Ty.slice 140 T_GFace)) (n := e5.Tet.toNat) (o := 0) HS (RdIn.drop 2 r_a) rfl rfl (getD_some (d := []) (ltN c34)) rfl rfl na136 rfl g) rfl (GX.l0 rfl rfl (fun _ _ g => GO.ix rfl rfl rfl underlying136 sz140 ((RdIn.elem (RdIn.drop 2 r_a) c34.1 c34.2) _ HS).2.2.1 c35.1 c35.2 rfl g) rfl (GX.ls rfl rfl rfl HS (fun _ HS _ g => GO.ldRdA (T := T_GFace) (n := t30.toNat) HS (RdIn.elem (RdIn.drop 2 r_a) c34.1 c34.2) rfl rfl (getD_eq (ltN c35) h37) ag140 rfl g) rfl (GX.ls rfl rfl rfl HS (fun _ HS _ g => GO.ldBoxA (j := 0) ([.int .i64 e5.Tet, .int .i64 e5.Perm]) HS rfl rfl rfl rfl ag140 rfl g) rfl (GX.l2 rfl (GO.fn rfl func180 fok180.1 fok180.2 rfl rfl (impl_Face_partner.calls HS  h40) (fun _ wd41 ⟨h42, HS⟩ => ⟨_, h42, (GX.fin HS (GX.l0 rfl rfl (fun _ _ g => GO.eqlA rfl rfl rfl ng140 (fun _ => eq140) rfl g) rfl (GX.l0 rfl rfl (fun _ _ g => GO.move rfl rfl rfl (GO.known (t := 51) rfl (decide_eq_false c43) g)) rfl ?_)))⟩))))))))))))
    refine GX.l0 rfl rfl (fun _ _ g => GO.off rfl rfl rfl rfl rfl rfl g) rfl (GX.l0 rfl rfl (fun _ _ g => GO.off rfl rfl rfl rfl rfl rfl g) rfl (GX.ls rfl rfl rfl HS (fun _ HS _ g => GO.off rfl rfl rfl rfl rfl rfl g) rfl (GX.l0 rfl rfl (fun _ _ g => GO.off rfl rfl rfl rfl rfl rfl g) rfl (GX.l0 rfl rfl (fun _ _ g => GO.off rfl rfl rfl rfl rfl rfl g) rfl (GX.l0 rfl rfl (fun _ _ g => GO.offU rfl rfl rfl rfl rfl rfl g) rfl (GX.l0 rfl rfl (fun _ _ g => GO.offU rfl rfl rfl rfl rfl rfl g) rfl (GX.l0 rfl rfl (fun _ _ g => GO.offU rfl rfl rfl rfl rfl rfl g) rfl (GX.l0 rfl rfl (fun _ _ g => GO.off rfl rfl rfl rfl rfl rfl g) rfl (GX.ps 2 rfl (GX.nil ?_))))))))))
    obtain rfl := Option.some.inj H
    exact G.ret1 _ func162 rfl rfl ⟨rfl, (HS.pk 2 [] rfl)⟩
   refine G.yesB rfl (congrArg Bool.not (bnot_of c29)) (G.run 2 rfl ?_)
   obtain rfl := Option.some.inj H
   exact G.ret1 _ func162 rfl rfl ⟨rfl, (HS.pk 2 [] rfl)⟩
  refine G.region (GO.fld (⟨b1, 0, none⟩) rfl rfl fl37_0 rfl rfl (GO.ldBox (j := 1) HS rfl rfl rfl rfl na35 rfl (GO.fld (⟨b7, 0, none⟩) rfl rfl fl140_0 rfl rfl (GO.ldBox (j := 0) HS rfl rfl rfl rfl na2 rfl (GO.fn rfl func178 fok178.1 fok178.2 rfl rfl (impl_hasIndex_impl_Face.calls HS (RdIn.drop 2 r_a) h21) (fun _ wd22 ⟨h23, HS⟩ => ⟨_, h23, (GO.ps 2 rfl (GO.known (t := 29) rfl (congrArg Bool.not (bnot_of c24)) (GO.off rfl rfl rfl rfl rfl rfl (GO.off rfl rfl rfl rfl rfl rfl (GO.off rfl rfl rfl rfl rfl rfl (GO.off rfl rfl rfl rfl rfl rfl (GO.pickT rfl rfl rfl rfl rfl (GO.nil (G.run 3 rfl ?_)))))))))⟩))))))
  obtain rfl := Option.some.inj H
  exact G.ret1 _ func162 rfl rfl ⟨rfl, (HS.pk 2 [] rfl)⟩
theorem impl_isTriangulation.calls {w0 w : World} {L : List HObj} {K : Nat} {t_Tets : List (List GFace)} {A_a : Option Addr} {c_a : Nat} {y_a : Nat → (Ty.slice 140 T_GFace).Lay} {r1 : Bool} (HS : St w0 w (L)) (r_a : RdIn w0 L (Ty.slice 140 T_GFace) A_a c_a y_a t_Tets) (H : impl_isTriangulation.f K t_Tets = some r1) :
    Calls prog 138 #[.agg [.slice A_a t_Tets.length c_a].toArray] w (impl_isTriangulation.post w0 L r1) := by
  unfold impl_isTriangulation.f at H
  refine Calls.of_G func138 rfl rfl rfl ?_
  refine G.seq (G.region (GO.box (cs := [.slice A_a t_Tets.length c_a]) HS rfl rfl rfl rfl fun b1 wd2 HS => GO.assign rfl rfl rfl (GO.nil (G.run 2 rfl ?_))))
  rcases ite_elim H with ⟨c8, H⟩ | ⟨c8, H⟩
  ·
   refine G.region (GO.fld (⟨b1, 0, none⟩) rfl rfl fl37_0 rfl rfl (GO.ldBox (j := 0) HS rfl rfl rfl rfl na35 rfl (GO.lenS rfl rfl underlying35 rfl (GO.ps 2 rfl (GO.known (t := 9) rfl (decide_eq_true c8) (GO.off rfl rfl rfl rfl rfl rfl (GO.off rfl rfl rfl rfl rfl rfl (GO.off rfl rfl rfl rfl rfl rfl (GO.pickT rfl rfl rfl rfl rfl (GO.nil (G.run 3 rfl ?_)))))))))))
   obtain rfl := Option.some.inj H
   exact G.ret1 _ func138 rfl rfl ⟨rfl, (HS.pk 1 [] rfl)⟩
  obtain ⟨t9, h10, H⟩ := Option.bind_eq_some_iff.1 H
  refine G.region (GO.fld (⟨b1, 0, none⟩) rfl rfl fl37_0 rfl rfl (GO.ldBox (j := 0) HS rfl rfl rfl rfl na35 rfl (GO.lenS rfl rfl underlying35 rfl (GO.ps 2 rfl (GO.known (t := 9) rfl (decide_eq_false c8) (GO.on rfl rfl rfl rfl (GO.fld (⟨b1, 0, none⟩) rfl rfl fl37_0 rfl rfl (GO.back (GO.on rfl rfl rfl rfl (GO.ldBox (j := 0) HS rfl rfl rfl rfl na35 rfl (GO.back (GO.on rfl rfl rfl rfl (GO.fn rfl func159 fok159.1 fok159.2 rfl rfl (slices_ContainsFunc_impl_Face_impl_Face_isTriangulation_fn1.calls HS (RdIn.drop 1 r_a) h10) (fun _ wd11 ⟨h12, HS⟩ => ⟨_, h12, (GO.back ?_)⟩))))))))))))))
  refine GO.pickF rfl rfl rfl rfl rfl (GO.nil ?_)
  rcases ite_elim H with ⟨c13, H⟩ | ⟨c13, H⟩
  ·
   refine G.yesB rfl c13 (G.run 2 rfl ?_)
   obtain rfl := Option.some.inj H
   exact G.ret1 _ func138 rfl rfl ⟨rfl, (HS.pk 1 [] rfl)⟩
  refine G.noB rfl (bnot_of c13) (G.run 3 rfl ?_)
  obtain ⟨t14, h15, H⟩ := Option.bind_eq_some_iff.1 H
  refine G.region (GO.fld (⟨b1, 0, none⟩) rfl rfl fl37_0 rfl rfl (GO.ldBox (j := 0) HS rfl rfl rfl rfl na35 rfl (GO.fn rfl func161 fok161.1 fok161.2 rfl rfl (impl_size_impl_Face.calls HS (RdIn.drop 1 r_a) h15) (fun _ wd16 ⟨h17, HS⟩ => ⟨_, h17, (GO.move rfl rfl rfl (GO.nil (G.run 2 rfl ?_)))⟩))))
  refine G.name (fun k_l1 hk_l1 => ?_)
  have at_l1 : ∀ m_l1, m_l1 ≤ K → ∀ (x37 : Int) (w : World), impl_isTriangulation.l1 K m_l1 t_Tets t14 x37 = some r1 → St w0 w (Box b1 37 [.slice A_a t_Tets.length c_a] :: L) → G prog 138 30 [(1, .pointer (some ⟨b1, 0, none⟩)), (16, .int .i64 t14), (17, .int .i64 x37)] k_l1 w (impl_isTriangulation.post w0 L r1) := by
   intro m_l1
   induction m_l1 using Nat.strongRecOn with
   | _ m_l1 ih_l1 =>
    intro hm_l1 x37 w H HS
    cases m_l1 with
    | zero => rw [impl_isTriangulation.l1] at H; cases H
    | succ n_l1 =>
     rw [impl_isTriangulation.l1] at H
     subst hk_l1
     refine G.run 3 rfl ?_
     rcases ite_elim H with ⟨c57, H⟩ | ⟨c57, H⟩
     ·
      refine G.yesB rfl (decide_eq_true c57) (G.run 9 rfl ?_)
      refine G.name (fun k_l4 hk_l4 => ?_)
      have at_l4 : ∀ m_l4, m_l4 ≤ n_l1 → ∀ (x63 : Int) (w : World), impl_isTriangulation.l4 K m_l4 t_Tets t14 x37 x63 = some r1 → St w0 w (Box b1 37 [.slice A_a t_Tets.length c_a] :: L) → G prog 138 30 [(1, .pointer (some ⟨b1, 0, none⟩)), (3, .int .i64 x37), (16, .int .i64 t14), (17, .int .i64 x37), (20, .int .i64 x63)] k_l4 w (impl_isTriangulation.post w0 L r1) := by
       intro m_l4
       induction m_l4 using Nat.strongRecOn with
       | _ m_l4 ih_l4 =>
        intro hm_l4 x63 w H HS
        cases m_l4 with
        | zero => rw [impl_isTriangulation.l4] at H; cases H
        | succ n_l4 =>
         rw [impl_isTriangulation.l4] at H
         subst hk_l4
         refine G.run 3 rfl ?_
         rcases ite_elim H with ⟨c70, H⟩ | ⟨c70, H⟩
         ·
          refine G.yesB rfl (decide_eq_true c70) (G.run 6 rfl ?_)
          obtain ⟨t71, h72, H⟩ := Option.bind_eq_some_iff.1 H
          refine G.region (GO.ldBoxA (j := 0) ([.slice A_a t_Tets.length c_a]) HS rfl rfl rfl rfl ag37 rfl (GO.ps 2 rfl (GO.fn rfl func162 fok162.1 fok162.2 rfl rfl (impl_Triangulation_isGood.calls HS (RdIn.drop 1 r_a) h72) (fun _ wd73 ⟨h74, HS⟩ => ⟨_, h74, (GO.not rfl rfl rfl (GO.nil ?_))⟩))))
          rcases ite_elim H with ⟨c75, H⟩ | ⟨c75, H⟩
          ·
           refine G.noB rfl (congrArg Bool.not c75) (G.run 4 rfl (G.weak ?_ (ih_l4 n_l4 (Nat.lt_succ_of_le (Nat.le_refl _)) (Nat.le_of_succ_le hm_l4) _ _ H HS)))
           exact ⟨rfl, rfl, rfl, rfl, rfl, trivial⟩
          refine G.yesB rfl (congrArg Bool.not (bnot_of c75)) (G.run 2 rfl ?_)
          obtain rfl := Option.some.inj H
          exact G.ret1 _ func138 rfl rfl ⟨rfl, (HS.pk 1 [] rfl)⟩
         refine G.noB rfl (decide_eq_false c70) (G.run 4 rfl (G.weak ?_ (ih_l1 n_l4 (by omega) (by omega) _ _ H HS)))
         exact ⟨rfl, rfl, rfl, trivial⟩
      refine G.weak ?_ (at_l4 n_l1 (Nat.le_refl _) _ _ H HS)
      exact ⟨rfl, rfl, rfl, rfl, rfl, trivial⟩
     refine G.noB rfl (decide_eq_false c57) (G.run 3 rfl ?_)
     obtain rfl := Option.some.inj H
     exact G.ret1 _ func138 rfl rfl ⟨rfl, (HS.pk 1 [] rfl)⟩
  refine G.weak ?_ (at_l1 K (Nat.le_refl _) _ _ H HS)
  exact ⟨rfl, rfl, rfl, trivial⟩
theorem impl_size_impl_Crossing.calls {w0 w : World} {L : List HObj} {list : List GCrossing} {A_a : Option Addr} {c_a : Nat} {r1 : Int} (HS : St w0 w (L)) (r_a : RdIn w0 L T_GCrossing A_a c_a (fun _ => ()) list) (H : impl_size_impl_Crossing.f list = some r1) :
    Calls prog 181 #[.slice A_a list.length c_a] w (impl_size_impl_Crossing.post w0 L r1) := by
  unfold impl_size_impl_Crossing.f at H
  refine Calls.of_G func181 rfl rfl rfl ?_
  refine G.run 3 rfl (G.region (GO.move rfl rfl rfl (GO.lenS rfl rfl underlying38 rfl (GO.assign rfl rfl rfl (GO.nil ?_)))))
  obtain rfl := Option.some.inj H
  exact G.ret1 _ func181 rfl rfl ⟨rfl, HS⟩
theorem impl_Diagram_drawing_fn1.calls {w0 w : World} {L : List HObj} {c_A c_B : Int} {c_C c_D c_Sign : Int} {r1 : Bool} (HS : St w0 w (L)) (H : impl_Diagram_drawing_fn1.f c_A c_B c_C c_D c_Sign = some r1) :
    Calls prog 183 #[.agg [.int .i64 c_A, .int .i64 c_B, .int .i64 c_C, .int .i64 c_D, .int .i64 c_Sign].toArray] w (impl_Diagram_drawing_fn1.post w0 L r1) := by
  unfold impl_Diagram_drawing_fn1.f at H
  refine Calls.of_G func183 rfl rfl rfl ?_
  refine G.seq (G.region (GO.box (cs := [.int .i64 c_A, .int .i64 c_B, .int .i64 c_C, .int .i64 c_D, .int .i64 c_Sign]) HS rfl rfl rfl rfl fun b1 wd2 HS => GO.assign rfl rfl rfl (GO.nil (G.seq ?_))))
  rcases ite_elim H with ⟨c3, H⟩ | ⟨c3, H⟩
  ·
   refine G.region (GO.fld (⟨b1, 4, none⟩) rfl rfl fl143_4 rfl rfl (GO.ldBox (j := 0) HS rfl rfl rfl rfl na2 rfl (GO.ps 2 rfl (GO.known (t := 6) rfl (congrArg Bool.not (decide_eq_true c3)) (GO.off rfl rfl rfl rfl rfl rfl (GO.off rfl rfl rfl rfl rfl rfl (GO.off rfl rfl rfl rfl rfl rfl (GO.ps 2 rfl (GO.nil ?_)))))))))
   obtain rfl := Option.some.inj H
   exact G.ret1 _ func183 rfl rfl ⟨rfl, (HS.pk 1 [] rfl)⟩
  refine G.region (GO.fld (⟨b1, 4, none⟩) rfl rfl fl143_4 rfl rfl (GO.ldBox (j := 0) HS rfl rfl rfl rfl na2 rfl (GO.ps 2 rfl (GO.known (t := 6) rfl (congrArg Bool.not (decide_eq_false c3)) (GO.on rfl rfl rfl rfl (GO.fld (⟨b1, 4, none⟩) rfl rfl fl143_4 rfl rfl (GO.back (GO.on rfl rfl rfl rfl (GO.ldBox (j := 0) HS rfl rfl rfl rfl na2 rfl (GO.back (GO.on rfl rfl rfl rfl (GO.neq rfl rfl rfl rfl (GO.back (GO.ps 2 rfl ?_))))))))))))))
  refine GO.nil ?_
  obtain rfl := Option.some.inj H
  exact G.ret1 _ func183 rfl rfl ⟨rfl, (HS.pk 1 [] rfl)⟩
theorem slices_IndexFunc_impl_Crossing_impl_Crossing_109.calls {w0 w : World} {L : List HObj} {K : Nat} {s : List GCrossing} {A_a : Option Addr} {c_a : Nat} {r1 : Int} (HS : St w0 w (L)) (r_a : RdIn w0 L T_GCrossing A_a c_a (fun _ => ()) s) (H : slices_IndexFunc_impl_Crossing_impl_Crossing_109.f K s = some r1) :
    Calls prog 196 #[.slice A_a s.length c_a, .func (.func 183) #[] #[]] w (slices_IndexFunc_impl_Crossing_impl_Crossing_109.post w0 L r1) := by
  unfold slices_IndexFunc_impl_Crossing_impl_Crossing_109.f at H
  refine Calls.of_G func196 rfl rfl rfl ?_
  refine G.run 4 rfl (G.region (GO.move rfl rfl rfl (GO.lenS rfl rfl underlying38 rfl (GO.move rfl rfl rfl (GO.nil (G.run 2 rfl ?_))))))
  refine G.name (fun k_l1 hk_l1 => ?_)
  have at_l1 : ∀ m_l1, m_l1 ≤ K → ∀ (x10 : Int) (w : World), slices_IndexFunc_impl_Crossing_impl_Crossing_109.l1 K m_l1 s x10 = some r1 → St w0 w (L) → G prog 196 19 [(0, .slice A_a s.length c_a), (1, .func (.func 183) #[] #[]), (7, .int .i64 (s.length : Int)), (8, .int .i64 x10)] k_l1 w (slices_IndexFunc_impl_Crossing_impl_Crossing_109.post w0 L r1) := by
   intro m_l1
   induction m_l1 using Nat.strongRecOn with
   | _ m_l1 ih_l1 =>
    intro hm_l1 x10 w H HS
    cases m_l1 with
    | zero => rw [slices_IndexFunc_impl_Crossing_impl_Crossing_109.l1] at H; cases H
    | succ n_l1 =>
     rw [slices_IndexFunc_impl_Crossing_impl_Crossing_109.l1] at H
     subst hk_l1
     refine G.run 3 rfl ?_
     rcases ite_elim H with ⟨c20, H⟩ | ⟨c20, H⟩
     ·
      refine G.yesB rfl (decide_eq_true c20) (G.run 6 rfl ?_)
      obtain ⟨c21, H⟩ := ite_none H
      obtain ⟨e22, h23, H⟩ := bnd_elim H
      obtain ⟨t24, h25, H⟩ := Option.bind_eq_some_iff.1 H
      refine G.region (GO.ps 3 rfl (GO.ix rfl rfl rfl underlying38 sz143 (r_a _ HS).2.2.1 c21.1 c21.2 rfl (GO.ldRdA (T := T_GCrossing) (n := x10.toNat) HS r_a rfl rfl (getD_eq (ltN c21) h23) ag143 rfl (GO.clo rfl rfl func183 fok183.1 fok183.2 rfl rfl (impl_Diagram_drawing_fn1.calls HS  h25) (fun _ wd26 ⟨h27, HS⟩ => ⟨_, h27, (GO.nil ?_)⟩)))))
      rcases ite_elim H with ⟨c28, H⟩ | ⟨c28, H⟩
      ·
       refine G.yesB rfl c28 (G.run 2 rfl ?_)
       obtain rfl := Option.some.inj H
       exact G.ret1 _ func196 rfl rfl ⟨rfl, HS⟩
      refine G.noB rfl (bnot_of c28) (G.run 4 rfl (G.weak ?_ (ih_l1 n_l1 (Nat.lt_succ_of_le (Nat.le_refl _)) (Nat.le_of_succ_le hm_l1) _ _ H HS)))
      exact ⟨rfl, rfl, rfl, rfl, trivial⟩
     refine G.noB rfl (decide_eq_false c20) (G.run 3 rfl ?_)
     obtain rfl := Option.some.inj H
     exact G.ret1 _ func196 rfl rfl ⟨rfl, HS⟩
  refine G.weak ?_ (at_l1 K (Nat.le_refl _) _ _ H HS)
  exact ⟨rfl, rfl, rfl, rfl, trivial⟩
theorem slices_ContainsFunc_impl_Crossing_impl_Crossing_109.calls {w0 w : World} {L : List HObj} {K : Nat} {s : List GCrossing} {A_a : Option Addr} {c_a : Nat} {r1 : Bool} (HS : St w0 w (L)) (r_a : RdIn w0 L T_GCrossing A_a c_a (fun _ => ()) s) (H : slices_ContainsFunc_impl_Crossing_impl_Crossing_109.f K s = some r1) :
    Calls prog 182 #[.slice A_a s.length c_a, .func (.func 183) #[] #[]] w (slices_ContainsFunc_impl_Crossing_impl_Crossing_109.post w0 L r1) := by
  unfold slices_ContainsFunc_impl_Crossing_impl_Crossing_109.f at H
  refine Calls.of_G func182 rfl rfl rfl ?_
  refine G.run 3 rfl ?_
  obtain ⟨t1, h2, H⟩ := Option.bind_eq_some_iff.1 H
  refine G.region (GO.ps 2 rfl (GO.fn rfl func196 fok196.1 fok196.2 rfl rfl (slices_IndexFunc_impl_Crossing_impl_Crossing_109.calls HS r_a h2) (fun _ wd3 ⟨h4, HS⟩ => ⟨_, h4, (GO.ps 2 rfl (GO.nil ?_))⟩)))
  obtain rfl := Option.some.inj H
  exact G.ret1 _ func182 rfl rfl ⟨rfl, HS⟩
theorem math_bits_Mul64.calls {w0 w : World} {L : List HObj} {x y : Int} {r1 r2 : Int} (HS : St w0 w (L)) (H : math_bits_Mul64.f x y = some (r1, r2)) :
    Calls prog 213 #[.int .u64 x, .int .u64 y] w (math_bits_Mul64.post w0 L r1 r2) := by
  unfold math_bits_Mul64.f at H
  refine Calls.of_G func213 rfl rfl rfl ?_
  refine G.run 3 rfl (G.region (GO.move rfl rfl rfl (GO.bits (by simp) rfl rfl rfl rfl (GO.assign rfl rfl rfl (GO.nil (G.seq (G.region (GO.move rfl rfl rfl (GO.shr rfl rfl rfl (by decide) (by decide) rfl (GO.assign rfl rfl rfl (GO.nil (G.seq (G.region (GO.move rfl rfl rfl ?_))))))))))))))
  refine GO.bits (by simp) rfl rfl rfl rfl (GO.assign rfl rfl rfl (GO.nil (G.seq (G.region (GO.move rfl rfl rfl (GO.shr rfl rfl rfl (by decide) (by decide) rfl (GO.assign rfl rfl rfl (GO.nil (G.run 3 rfl (G.region (GO.ps 4 rfl (GO.shr rfl rfl rfl (by decide) (by decide) rfl (GO.ps 2 rfl (GO.nil ?_))))))))))))))
  refine G.seq (G.region (GO.move rfl rfl rfl (GO.bits (by simp) rfl rfl rfl rfl (GO.assign rfl rfl rfl (GO.nil (G.seq (G.region (GO.move rfl rfl rfl (GO.shr rfl rfl rfl (by decide) (by decide) rfl (GO.assign rfl rfl rfl (GO.nil (G.run 3 rfl (G.region (GO.ps 6 rfl ?_))))))))))))))
  refine GO.shr rfl rfl rfl (by decide) (by decide) rfl (GO.ps 2 rfl (GO.nil (G.run 2 rfl ?_)))
  obtain ⟨rfl, rfl⟩ := some2 H
  exact G.ret2 _ _ func213 rfl rfl rfl ⟨rfl, HS⟩
theorem math_bits_Mul.calls {w0 w : World} {L : List HObj} {x y : Int} {r1 r2 : Int} (HS : St w0 w (L)) (H : math_bits_Mul.f x y = some (r1, r2)) :
    Calls prog 209 #[.int .u64 x, .int .u64 y] w (math_bits_Mul.post w0 L r1 r2) := by
  unfold math_bits_Mul.f at H
  refine Calls.of_G func209 rfl rfl rfl ?_
  refine G.run 6 rfl ?_
  obtain ⟨t1, t2, h3, H⟩ := bind2_elim H
  refine G.region (GO.ps 2 rfl (GO.fn rfl func213 fok213.1 fok213.2 rfl rfl (math_bits_Mul64.calls HS  h3) (fun _ wd4 ⟨h5, HS⟩ => ⟨_, h5, (GO.ps 5 rfl (GO.nil (G.run 2 rfl ?_)))⟩)))
  obtain ⟨rfl, rfl⟩ := some2 H
  exact G.ret2 _ _ func209 rfl rfl rfl ⟨rfl, HS⟩
theorem slices_Repeat_impl_end_impl_end.calls {w0 w : World} {L : List HObj} {K : Nat} {x : List GEnd} {count : Int} {A_a : Option Addr} {c_a : Nat} {r1 : List GEnd} (HS : St w0 w (L)) (r_a : RdIn w0 L T_GEnd A_a c_a (fun _ => ()) x) (H : slices_Repeat_impl_end_impl_end.f K x count = some r1) :
    Calls prog 197 #[.slice A_a x.length c_a, .int .i64 count] w (slices_Repeat_impl_end_impl_end.post w0 L r1) := by
  unfold slices_Repeat_impl_end_impl_end.f at H
  refine Calls.of_G func197 rfl rfl rfl ?_
  refine G.run 5 rfl ?_
  rcases ite_elim H with ⟨c2, H⟩ | ⟨c2, H⟩
  ·
   refine G.yesB rfl (decide_eq_true c2) ?_
   cases H
  refine G.noB rfl (decide_eq_false c2) (G.run 2 rfl ?_)
  obtain ⟨t3, t4, h5, H⟩ := bind2_elim H
  refine G.region (GO.move rfl rfl rfl (GO.lenS rfl rfl underlying189 rfl (GO.conv rfl rfl underlying3 underlying137 rfl (GO.move rfl rfl rfl (GO.conv rfl rfl underlying3 underlying137 rfl (GO.fn rfl func209 fok209.1 fok209.2 rfl rfl (math_bits_Mul.calls HS  h5) (fun _ wd6 ⟨h7, HS⟩ => ⟨_, h7, (GO.ps 5 rfl (GO.nil (G.run 2 rfl ?_)))⟩)))))))
  refine G.nameT (fun k_j2 hk_j2 => ?_)
  have at_j2 : ∀ m_j2, m_j2 ≤ K → ∀ (x10 : Bool) (w : World), slices_Repeat_impl_end_impl_end.j2 K m_j2 x t4 x10 = some r1 → St w0 w (L) → G prog 197 48 [(0, .slice A_a x.length c_a), (6, .int .u64 t4), (26, .bool x10)] k_j2 w (slices_Repeat_impl_end_impl_end.post w0 L r1) := by
   intro m_j2 hm_j2 x10 w H HS
   cases m_j2 with
   | zero => rw [slices_Repeat_impl_end_impl_end.j2] at H; cases H
   | succ n_j2 =>
    rw [slices_Repeat_impl_end_impl_end.j2] at H
    subst hk_j2
    rcases ite_elim H with ⟨c12, H⟩ | ⟨c12, H⟩
    ·
     refine G.yesB rfl c12 ?_
     cases H
    refine G.noB rfl (bnot_of c12) (G.run 2 rfl ?_)
    obtain ⟨c13, H⟩ := ite_none H
    obtain ⟨c14, H⟩ := ite_none H
    refine G.region (GO.move rfl rfl rfl (GO.conv rfl rfl underlying137 underlying3 rfl (GO.make (T := T_GEnd) z_GEnd () HS flat_flat rfl rfl rfl underlying189 inf219 rfl rfl rfl c13 c14 rfl fun b15 wd16 HS => GO.assign rfl rfl rfl (GO.nil (G.seq ?_)))))
    have h18 := over_len (xs := (List.replicate (w64 (t4)).toNat z_GEnd)) (ys := x) (Nat.le_of_eq (Nat.zero_add _))
    refine G.region (GO.ps 2 rfl (GO.copyP (T := T_GEnd) (j := 0) (l := 0) HS rfl (RdIn.drop 1 r_a) flat_flat rfl rfl rfl underlying189 sz219 rfl wholeC (Nat.le_of_eq (Nat.zero_add _)) (fun _ _ => rfl) (fun _ => rfl) fun wd17 HS => GO.assign rfl rfl rfl (GO.nil (G.len (t := 7) (m := (over (List.replicate (w64 (t4)).toNat z_GEnd) 0 (x.take ((List.replicate (w64 (t4)).toNat z_GEnd).length))).length) rfl (by simp only [List.length_set, h18] <;> rfl) (G.run 3 rfl ?_)))))
    refine G.name (fun k_l4 hk_l4 => ?_)
    have at_l4 : ∀ m_l4, m_l4 ≤ n_j2 → ∀ (newslice_23 : List GEnd) (n_24 : Int) (w : World), slices_Repeat_impl_end_impl_end.l4 K m_l4 newslice_23 n_24 = some r1 → St w0 w (Own T_GEnd 219 (some ⟨b15, 0, none⟩) ((w64 (t4)).toNat) (fun _ => ()) newslice_23 :: L) → G prog 197 48 [(7, .slice (some ⟨b15, 0, none⟩) newslice_23.length ((w64 (t4)).toNat)), (8, .int .i64 n_24)] k_l4 w (slices_Repeat_impl_end_impl_end.post w0 L r1) := by
     intro m_l4
     induction m_l4 using Nat.strongRecOn with
     | _ m_l4 ih_l4 =>
      intro hm_l4 newslice_23 n_24 w H HS
      cases m_l4 with
      | zero => rw [slices_Repeat_impl_end_impl_end.l4] at H; cases H
      | succ n_l4 =>
       rw [slices_Repeat_impl_end_impl_end.l4] at H
       subst hk_l4
       refine G.run 2 rfl (G.region (GO.ps 2 rfl (GO.lenS rfl rfl underlying189 rfl (GO.lss rfl rfl rfl rfl (GO.nil ?_)))))
       rcases ite_elim H with ⟨c29, H⟩ | ⟨c29, H⟩
       ·
        refine G.yesB rfl (decide_eq_true c29) (G.run 2 rfl ?_)
        obtain ⟨c30, H⟩ := ite_none H
        have h32 := over_len (xs := newslice_23) (ys := ((newslice_23.take n_24.toNat).drop 0)) (cutN (leN c30) (Nat.le_refl _))
        refine G.lex mixed [0, 1, 2, 4, 5, 3, 6, 7, 8, 9] (by kernel_rfl) ?_
        replace HS := HS.drew
        refine GX.ps 5 rfl (GX.l1 rfl rfl rfl (fun _ g => GO.slL (T := T_GEnd) HS (RdIn.own (j := 0) rfl) rfl rfl rfl underlying189 sz219 c30.1 c30.2 rfl g) rfl (GX.l1 rfl rfl rfl (fun _ g => GO.slH (T := T_GEnd) HS (RdIn.own (j := 0) rfl) rfl rfl rfl underlying189 sz219 c30.1 c30.2 rfl g) rfl (GX.l2 rfl (GO.copyP (T := T_GEnd) (j := 0) (l := n_24.toNat) HS rfl (RdIn.cut (RdIn.own (j := 0) rfl) (Nat.zero_le _) (leN c30)) flat_flat rfl rfl rfl underlying189 sz219 rfl (cutC (Nat.le_refl _) ((RdIn.own (j := 0) rfl) _ HS).1) (cutN (leN c30) (Nat.le_refl _)) (fun _ _ => rfl) (fun _ => rfl) fun wd31 HS => GX.fin trivial (GX.ps 2 rfl (GX.nil (G.len (t := 7) (m := (over newslice_23 n_24.toNat (((newslice_23.take n_24.toNat).drop 0).take (((newslice_23.take newslice_23.length).drop n_24.toNat).length))).length) rfl (by simp only [List.length_set, h32] <;> rfl) (G.run 2 rfl (G.weak ?_ (ih_l4 n_l4 (Nat.lt_succ_of_le (Nat.le_refl _)) (Nat.le_of_succ_le hm_l4) _ _ _ H HS))))))))))
        exact ⟨rfl, rfl, trivial⟩
       refine G.noB rfl (decide_eq_false c29) (G.run 3 rfl ?_)
       obtain rfl := Option.some.inj H
       exact G.ret1 _ func197 rfl rfl ⟨_, _, rfl, HS⟩
    refine G.weak ?_ (at_l4 n_j2 (Nat.le_refl _) _ _ _ H HS)
    exact ⟨rfl, rfl, trivial⟩
  rcases ite_elim H with ⟨c33, H⟩ | ⟨c33, H⟩
  ·
   refine G.region (GO.ps 3 rfl (GO.known (t := 23) rfl (decide_eq_true c33) (GO.off rfl rfl rfl rfl rfl rfl (GO.off rfl rfl rfl rfl rfl rfl (GO.pickT rfl rfl rfl rfl rfl (GO.nil (G.weak ?_ (at_j2 K (Nat.le_refl _) _ _ H HS))))))))
   exact ⟨rfl, rfl, rfl, trivial⟩
  refine G.region (GO.ps 3 rfl (GO.known (t := 23) rfl (decide_eq_false c33) (GO.on rfl rfl rfl rfl (GO.move rfl rfl rfl (GO.back (GO.on rfl rfl rfl rfl (GO.gtr rfl rfl rfl rfl (GO.back (GO.pickF rfl rfl rfl rfl rfl (GO.nil (G.weak ?_ (at_j2 K (Nat.le_refl _) _ _ H HS))))))))))))
  exact ⟨rfl, rfl, rfl, trivial⟩
theorem impl_Crossing_ends.calls {w0 w : World} {L : List HObj} {c_A c_B : Int} {c_C c_D : Int} {c_Sign r1 : Int} {r2 r3 r4 : Int} (HS : St w0 w (L)) (H : impl_Crossing_ends.f c_A c_B c_C c_D c_Sign = some (r1, r2, r3, r4)) :
    Calls prog 198 #[.agg [.int .i64 c_A, .int .i64 c_B, .int .i64 c_C, .int .i64 c_D, .int .i64 c_Sign].toArray] w (impl_Crossing_ends.post w0 L r1 r2 r3 r4) := by
  unfold impl_Crossing_ends.f at H
  refine Calls.of_G func198 rfl rfl rfl ?_
  refine G.seq (G.region (GO.box (cs := [.int .i64 c_A, .int .i64 c_B, .int .i64 c_C, .int .i64 c_D, .int .i64 c_Sign]) HS rfl rfl rfl rfl fun b1 wd2 HS => GO.alloc HS rfl zr214 rfl rfl fun b3 wd4 HS => GO.nil (G.seq (G.region (GO.fld (⟨b1, 0, none⟩) rfl rfl fl143_0 rfl rfl (GO.ldBox (j := 1) HS rfl rfl rfl rfl na2 rfl (GO.fld (⟨b1, 1, none⟩) rfl rfl fl143_1 rfl rfl (GO.ldBox (j := 1) HS rfl rfl rfl rfl na2 rfl (GO.fld (⟨b1, 2, none⟩) rfl rfl fl143_2 rfl rfl (GO.ldBox (j := 1) HS rfl rfl rfl rfl na2 rfl (GO.fld (⟨b1, 3, none⟩) rfl rfl fl143_3 rfl rfl (GO.ldBox (j := 1) HS rfl rfl rfl rfl na2 rfl ?_))))))))))))
  refine GO.buildV (.agg [.int .i64 c_A, .int .i64 c_B, .int .i64 c_C, .int .i64 c_D].toArray) rfl rfl (fun _ => by kernel_rfl) rfl (GO.stBox (j := 0) (vs := [.int .i64 c_A, .int .i64 c_B, .int .i64 c_C, .int .i64 c_D]) ([.int .i64 c_A, .int .i64 c_B, .int .i64 c_C, .int .i64 c_D]) HS rfl rfl rfl rfl rfl (htA ag214) rfl rfl rfl fun wd5 HS => GO.nil ?_)
  obtain ⟨rfl, rfl, rfl, rfl⟩ := some4 H
  exact G.ret1 _ func198 rfl (Res1.boxA (j := 0) (vs := [.int .i64 c_A, .int .i64 c_B, .int .i64 c_C, .int .i64 c_D]) HS rfl rfl rfl ag214) ⟨rfl, (HS.pk 2 [] rfl)⟩
theorem impl_Crossing_enters.calls {w0 w : World} {L : List HObj} {c_A c_B : Int} {c_C c_D : Int} {c_Sign p : Int} {r1 : Bool} (HS : St w0 w (L)) (H : impl_Crossing_enters.f c_A c_B c_C c_D c_Sign p = some r1) :
    Calls prog 199 #[.agg [.int .i64 c_A, .int .i64 c_B, .int .i64 c_C, .int .i64 c_D, .int .i64 c_Sign].toArray, .int .i64 p] w (impl_Crossing_enters.post w0 L r1) := by
  unfold impl_Crossing_enters.f at H
  refine Calls.of_G func199 rfl rfl rfl ?_
  refine G.seq (G.region (GO.box (cs := [.int .i64 c_A, .int .i64 c_B, .int .i64 c_C, .int .i64 c_D, .int .i64 c_Sign]) HS rfl rfl rfl rfl fun b1 wd2 HS => GO.assign rfl rfl rfl (GO.nil (G.seq ?_))))
  rcases ite_elim H with ⟨c3, H⟩ | ⟨c3, H⟩
  ·
   refine G.region (GO.ps 3 rfl (GO.known (t := 7) rfl (decide_eq_true c3) (GO.off rfl rfl rfl rfl rfl rfl (GO.off rfl rfl rfl rfl rfl rfl (GO.off rfl rfl rfl rfl rfl rfl (GO.off rfl rfl rfl rfl rfl rfl (GO.off rfl rfl rfl rfl rfl rfl (GO.ps 2 rfl (GO.nil ?_)))))))))
   obtain rfl := Option.some.inj H
   exact G.ret1 _ func199 rfl rfl ⟨rfl, (HS.pk 1 [] rfl)⟩
  refine G.region (GO.ps 3 rfl (GO.known (t := 7) rfl (decide_eq_false c3) (GO.on rfl rfl rfl rfl (GO.move rfl rfl rfl (GO.back (GO.on rfl rfl rfl rfl (GO.fld (⟨b1, 4, none⟩) rfl rfl fl143_4 rfl rfl (GO.back (GO.on rfl rfl rfl rfl (GO.ldBox (j := 0) HS rfl rfl rfl rfl na2 rfl (GO.back (GO.on rfl rfl rfl rfl (GO.add rfl rfl rfl rfl (GO.back ?_))))))))))))))
  refine GO.on rfl rfl rfl rfl (GO.eql rfl rfl rfl rfl (GO.back (GO.ps 2 rfl (GO.nil ?_))))
  obtain rfl := Option.some.inj H
  exact G.ret1 _ func199 rfl rfl ⟨rfl, (HS.pk 1 [] rfl)⟩
theorem impl_size_impl_end.calls {w0 w : World} {L : List HObj} {list : List GEnd} {A_a : Option Addr} {c_a : Nat} {r1 : Int} (HS : St w0 w (L)) (r_a : RdIn w0 L T_GEnd A_a c_a (fun _ => ()) list) (H : impl_size_impl_end.f list = some r1) :
    Calls prog 210 #[.slice A_a list.length c_a] w (impl_size_impl_end.post w0 L r1) := by
  unfold impl_size_impl_end.f at H
  refine Calls.of_G func210 rfl rfl rfl ?_
  refine G.run 3 rfl (G.region (GO.move rfl rfl rfl (GO.lenS rfl rfl underlying189 rfl (GO.assign rfl rfl rfl (GO.nil ?_)))))
  obtain rfl := Option.some.inj H
  exact G.ret1 _ func210 rfl rfl ⟨rfl, HS⟩
theorem impl_hasIndex_impl_end.calls {w0 w : World} {L : List HObj} {list : List GEnd} {i : Int} {A_a : Option Addr} {c_a : Nat} {r1 : Bool} (HS : St w0 w (L)) (r_a : RdIn w0 L T_GEnd A_a c_a (fun _ => ()) list) (H : impl_hasIndex_impl_end.f list i = some r1) :
    Calls prog 200 #[.slice A_a list.length c_a, .int .i64 i] w (impl_hasIndex_impl_end.post w0 L r1) := by
  unfold impl_hasIndex_impl_end.f at H
  refine Calls.of_G func200 rfl rfl rfl ?_
  refine G.run 3 rfl ?_
  obtain ⟨t1, h2, H⟩ := Option.bind_eq_some_iff.1 H
  obtain ⟨t5, h6, H⟩ := Option.bind_eq_some_iff.1 H
  refine G.region (GO.ps 2 rfl (GO.fn rfl func210 fok210.1 fok210.2 rfl rfl (impl_size_impl_end.calls HS r_a h2) (fun _ wd3 ⟨h4, HS⟩ => ⟨_, h4, (GO.sub rfl rfl rfl rfl (GO.fn rfl func136 fok136.1 fok136.2 rfl rfl (impl_inRange.calls HS  h6) (fun _ wd7 ⟨h8, HS⟩ => ⟨_, h8, (GO.assign rfl rfl rfl (GO.nil ?_))⟩)))⟩)))
  obtain rfl := Option.some.inj H
  exact G.ret1 _ func200 rfl rfl ⟨rfl, HS⟩
theorem impl_Diagram_arrows.calls {w0 w : World} {L : List HObj} {K : Nat} {d_Crossings : List GCrossing} {d_Circles : Int} {A_a : Option Addr} {c_a : Nat} {r1 r2 : List GEnd} {r3 : Bool} (HS : St w0 w (L)) (r_a : RdIn w0 L T_GCrossing A_a c_a (fun _ => ()) d_Crossings) (H : impl_Diagram_arrows.f K d_Crossings d_Circles = some (r1, r2, r3)) :
    Calls prog 184 #[.agg [.slice A_a d_Crossings.length c_a, .int .i64 d_Circles].toArray] w (impl_Diagram_arrows.post w0 L r1 r2 r3) := by
  unfold impl_Diagram_arrows.f at H
  refine Calls.of_G func184 rfl rfl rfl ?_
  refine G.seq (G.region (GO.box (cs := [.slice A_a d_Crossings.length c_a, .int .i64 d_Circles]) HS rfl rfl rfl rfl fun b1 wd2 HS => GO.alloc HS rfl zr191 rfl rfl fun b3 wd4 HS => GO.assign rfl rfl rfl (GO.nil (G.seq (G.region (GO.fld (⟨b1, 0, none⟩) rfl rfl fl40_0 rfl rfl (GO.ldBox (j := 1) HS rfl rfl rfl rfl na38 rfl (GO.lenS rfl rfl underlying38 rfl (GO.ps 2 rfl (GO.nil (G.seq ?_)))))))))))
  obtain ⟨t7, h8, H⟩ := Option.bind_eq_some_iff.1 H
  obtain ⟨t15, h16, H⟩ := Option.bind_eq_some_iff.1 H
  refine G.region (GO.buildV (.agg [.int .i64 (-1), .int .i64 0].toArray) rfl rfl (fun _ => by kernel_rfl) rfl (GO.buildS (el := 219) ([.int .i64 (-1), .int .i64 0]) HS rfl rfl (fun _ => by kernel_rfl) rfl fun b5 wd6 HS => GO.move rfl rfl rfl ?_))
  replace HS := HS.boxRow (T := T_GEnd) (j := 0) rfl flat_flat (fun _ => ()) ([(⟨(-1), 0⟩ : GEnd)] : List GEnd) rfl (bndL rfl)
  refine GO.lenC (t := 16) (m := ([(⟨(-1), 0⟩ : GEnd)] : List GEnd).length) (c' := ([(⟨(-1), 0⟩ : GEnd)] : List GEnd).length) rfl rfl rfl (GO.fn rfl func197 fok197.1 fok197.2 rfl rfl (slices_Repeat_impl_end_impl_end.calls HS (RdIn.own (j := 0) rfl) h8) (fun _ wd11 ⟨A9, c10, h12, HS⟩ => ⟨_, h12, (GO.buildV (.agg [.int .i64 (-1), .int .i64 0].toArray) rfl rfl (fun _ => by kernel_rfl) rfl (GO.buildS (el := 219) ([.int .i64 (-1), .int .i64 0]) HS rfl rfl (fun _ => by kernel_rfl) rfl fun b13 wd14 HS => GO.move rfl rfl rfl ?_))⟩))
  replace HS := HS.boxRow (T := T_GEnd) (j := 0) rfl flat_flat (fun _ => ()) ([(⟨(-1), 0⟩ : GEnd)] : List GEnd) rfl (bndL rfl)
  refine GO.lenC (t := 20) (m := ([(⟨(-1), 0⟩ : GEnd)] : List GEnd).length) (c' := ([(⟨(-1), 0⟩ : GEnd)] : List GEnd).length) rfl rfl rfl (GO.fn rfl func197 fok197.1 fok197.2 rfl rfl (slices_Repeat_impl_end_impl_end.calls HS (RdIn.own (j := 0) rfl) h16) (fun _ wd19 ⟨A17, c18, h20, HS⟩ => ⟨_, h20, (GO.buildV (.agg [.slice A9 t7.length c10, .slice A17 t15.length c18].toArray) rfl rfl (fun _ => by kernel_rfl) rfl (GO.alloc HS rfl zr191 rfl rfl fun b21 wd22 HS => GO.stBox (j := 0) (vs := [.slice A9 t7.length c10, .slice A17 t15.length c18]) ([.slice A9 t7.length c10, .slice A17 t15.length c18]) HS rfl rfl rfl rfl rfl (htA ag191) rfl rfl rfl fun wd23 HS => GO.nil (G.run 2 rfl (G.region (GO.fld (⟨b1, 0, none⟩) rfl rfl fl40_0 rfl rfl (GO.ldBox (j := 6) HS rfl rfl rfl rfl na38 rfl (GO.lenS rfl rfl underlying38 rfl (GO.move rfl rfl rfl (GO.nil (G.run 2 rfl ?_))))))))))⟩))
  refine G.name (fun k_l1 hk_l1 => ?_)
  have at_l1 : ∀ m_l1, m_l1 ≤ K → ∀ (a_193 a_194 : List GEnd) (x195 : Int) (w : World), impl_Diagram_arrows.l1 K m_l1 d_Crossings a_193 a_194 x195 = some (r1, r2, r3) → St w0 w (Box b3 191 [.slice none 0 0, .slice none 0 0] :: Box b21 191 [.slice A9 a_193.length c10, .slice A17 a_194.length c18] :: Own T_GEnd 219 A9 c10 (fun _ => ()) a_193 :: Own T_GEnd 219 A17 c18 (fun _ => ()) a_194 :: L) → G prog 184 67 [(2, .pointer (some ⟨b3, 0, none⟩)), (5, .pointer (some ⟨b21, 0, none⟩)), (25, .slice A_a d_Crossings.length c_a), (26, .int .i64 (d_Crossings.length : Int)), (27, .int .i64 x195)] k_l1 w (impl_Diagram_arrows.post w0 L r1 r2 r3) := by
   intro m_l1
   induction m_l1 using Nat.strongRecOn with
   | _ m_l1 ih_l1 =>
    intro hm_l1 a_193 a_194 x195 w H HS
    cases m_l1 with
    | zero => rw [impl_Diagram_arrows.l1] at H; cases H
    | succ n_l1 =>
     rw [impl_Diagram_arrows.l1] at H
     subst hk_l1
     refine G.run 3 rfl ?_
     rcases ite_elim H with ⟨c365, H⟩ | ⟨c365, H⟩
     ·
      refine G.yesB rfl (decide_eq_true c365) (G.run 4 rfl ?_)
      obtain ⟨c366, H⟩ := ite_none H
      obtain ⟨e367, h368, H⟩ := bnd_elim H
      refine G.region (GO.move rfl rfl rfl (GO.ix rfl rfl rfl underlying38 sz143 ((RdIn.drop 4 r_a) _ HS).2.2.1 c366.1 c366.2 rfl (GO.ldRdA (T := T_GCrossing) (n := x195.toNat) HS (RdIn.drop 4 r_a) rfl rfl (getD_eq (ltN c366) h368) ag143 rfl (GO.alloc HS rfl zr143 rfl rfl fun b369 wd370 HS => GO.assign rfl rfl rfl (GO.stBox (j := 0) (vs := [.int .i64 e367.A, .int .i64 e367.B, .int .i64 e367.C, .int .i64 e367.D, .int .i64 e367.Sign]) ([.int .i64 e367.A, .int .i64 e367.B, .int .i64 e367.C, .int .i64 e367.D, .int .i64 e367.Sign]) HS rfl rfl rfl rfl rfl (htA ag143) rfl rfl rfl fun wd371 HS => GO.nil (G.seq ?_))))))
      obtain ⟨t372, t373, t374, t375, h376, H⟩ := bind4_elim H
      refine G.region (GO.ldBoxA (j := 0) ([.int .i64 e367.A, .int .i64 e367.B, .int .i64 e367.C, .int .i64 e367.D, .int .i64 e367.Sign]) HS rfl rfl rfl rfl ag143 rfl (GO.fn rfl func198 fok198.1 fok198.2 rfl rfl (impl_Crossing_ends.calls HS  h376) (fun _ wd377 ⟨h378, HS⟩ => ⟨_, h378, (GO.move rfl rfl rfl (GO.nil (G.run 2 rfl ?_)))⟩)))
      refine G.name (fun k_l10 hk_l10 => ?_)
      have at_l10 : ∀ m_l10, m_l10 ≤ n_l1 → ∀ (a_428 a_429 : List GEnd) (x430 : Int) (w : World), impl_Diagram_arrows.l10 K m_l10 d_Crossings x195 e367 t372 t373 t374 t375 a_428 a_429 x430 = some (r1, r2, r3) → St w0 w (Box b3 191 [.slice none 0 0, .slice none 0 0] :: Box b21 191 [.slice A9 a_428.length c10, .slice A17 a_429.length c18] :: Own T_GEnd 219 A9 c10 (fun _ => ()) a_428 :: Own T_GEnd 219 A17 c18 (fun _ => ()) a_429 :: Box b369 143 [.int .i64 e367.A, .int .i64 e367.B, .int .i64 e367.C, .int .i64 e367.D, .int .i64 e367.Sign] :: L) → G prog 184 67 [(2, .pointer (some ⟨b3, 0, none⟩)), (5, .pointer (some ⟨b21, 0, none⟩)), (6, .int .i64 x195), (7, .pointer (some ⟨b369, 0, none⟩)), (25, .slice A_a d_Crossings.length c_a), (26, .int .i64 (d_Crossings.length : Int)), (27, .int .i64 x195), (33, .agg [.int .i64 t372, .int .i64 t373, .int .i64 t374, .int .i64 t375].toArray), (34, .int .i64 x430)] k_l10 w (impl_Diagram_arrows.post w0 L r1 r2 r3) := by
       intro m_l10
       induction m_l10 using Nat.strongRecOn with
       | _ m_l10 ih_l10 =>
        intro hm_l10 a_428 a_429 x430 w H HS
        cases m_l10 with
        | zero => rw [impl_Diagram_arrows.l10] at H; cases H
        | succ n_l10 =>
         rw [impl_Diagram_arrows.l10] at H
         subst hk_l10
         refine G.run 3 rfl ?_
         rcases ite_elim H with ⟨c482, H⟩ | ⟨c482, H⟩
         ·
          refine G.yesB rfl (decide_eq_true c482) (G.run 4 rfl ?_)
          obtain ⟨c483, H⟩ := ite_none H
          refine G.region (GO.move rfl rfl rfl (GO.ixArr ([t372, t373, t374, t375] : List Int) rfl rfl rfl underlying214 underlying2 sz2 rfl c483.1 c483.2 rfl (GO.ps 2 rfl (GO.nil (G.seq (G.region (GO.fld (⟨b21, 0, none⟩) rfl rfl fl191_0 rfl rfl (GO.ldBox (j := 1) HS rfl rfl rfl rfl na189 rfl (GO.assign rfl rfl rfl (GO.nil (G.run 2 rfl ?_)))))))))))
          obtain ⟨t484, h485, H⟩ := Option.bind_eq_some_iff.1 H
          refine G.region (GO.ldBoxA (j := 4) ([.int .i64 e367.A, .int .i64 e367.B, .int .i64 e367.C, .int .i64 e367.D, .int .i64 e367.Sign]) HS rfl rfl rfl rfl ag143 rfl (GO.move rfl rfl rfl (GO.fn rfl func199 fok199.1 fok199.2 rfl rfl (impl_Crossing_enters.calls HS  h485) (fun _ wd486 ⟨h487, HS⟩ => ⟨_, h487, (GO.nil ?_)⟩))))
          rcases ite_elim H with ⟨c492, H⟩ | ⟨c492, H⟩
          ·
           refine G.yesB rfl c492 (G.region (GO.fld (⟨b21, 1, none⟩) rfl rfl fl191_1 rfl rfl (GO.ldBox (j := 1) HS rfl rfl rfl rfl na189 rfl (GO.assign rfl rfl rfl (GO.nil (G.run 2 rfl ?_))))))
           obtain ⟨t501, h502, H⟩ := Option.bind_eq_some_iff.1 H
           rcases ite_elim H with ⟨c505, H⟩ | ⟨c505, H⟩
           ·
            obtain ⟨c506, H⟩ := ite_none H
            obtain ⟨e507, h508, H⟩ := bnd_elim H
            refine G.region (GO.ps 2 rfl (GO.fn rfl func200 fok200.1 fok200.2 rfl rfl (impl_hasIndex_impl_end.calls HS (RdIn.own (j := 3) rfl) h502) (fun _ wd503 ⟨h504, HS⟩ => ⟨_, h504, (GO.ps 2 rfl (GO.known (t := 49) rfl (congrArg Bool.not c505) (GO.on rfl rfl rfl rfl (GO.move rfl rfl rfl (GO.back (GO.on rfl rfl rfl rfl (GO.move rfl rfl rfl (GO.back (GO.on rfl rfl rfl rfl (GO.ix rfl rfl rfl underlying189 sz219 ((RdIn.own (j := 3) rfl) _ HS).2.2.1 c506.1 c506.2 rfl (GO.back (GO.on rfl rfl rfl rfl ?_))))))))))))⟩)))
            refine GO.fld (ea A17 (((([t372, t373, t374, t375] : List Int).getD x430.toNat 0).toNat) * 2)) rfl rfl fl219_0 rfl rfl (GO.back (GO.on rfl rfl rfl rfl (GO.ldRd (T := T_GEnd) (n := (([t372, t373, t374, t375] : List Int).getD x430.toNat 0).toNat) (o := 0) HS (RdIn.own (j := 3) rfl) rfl rfl (getD_eq (ltN c506) h508) rfl rfl na2 rfl (GO.back (GO.on rfl rfl rfl rfl (GO.geq rfl rfl rfl rfl (GO.back (GO.pickF rfl rfl rfl rfl rfl (GO.nil ?_)))))))))
            rcases ite_elim H with ⟨c509, H⟩ | ⟨c509, H⟩
            ·
             refine G.yesB rfl (decide_eq_true c509) (G.seq (G.region (GO.ldBoxA (j := 1) ([.slice A9 a_428.length c10, .slice A17 a_429.length c18]) HS rfl rfl rfl rfl ag191 rfl (GO.stBox (j := 0) (vs := [.slice A9 a_428.length c10, .slice A17 a_429.length c18]) ([.slice A9 a_428.length c10, .slice A17 a_429.length c18]) HS rfl rfl rfl rfl rfl (htA ag191) rfl rfl rfl fun wd510 HS => GO.assign rfl rfl rfl (GO.nil ?_)))))
             obtain ⟨rfl, rfl, rfl⟩ := some3 H
             exact G.ret2 _ _ func184 rfl (Res1.boxA (j := 0) (vs := [.slice A9 a_428.length c10, .slice A17 a_429.length c18]) HS rfl rfl rfl ag191) rfl ⟨_, _, _, _, rfl, (HS.pk 5 [2, 3] rfl)⟩
            refine G.noB rfl (decide_eq_false c509) (G.skip (G.region (GO.ps 4 rfl (GO.buildV (.agg [.int .i64 x195, .int .i64 x430].toArray) rfl rfl (fun _ => by kernel_rfl) rfl (GO.ix rfl rfl rfl underlying189 sz219 ((RdIn.own (j := 3) rfl) _ HS).2.2.1 c506.1 c506.2 rfl (GO.stRow (T := T_GEnd) (j := 3) (n := (([t372, t373, t374, t375] : List Int).getD x430.toNat 0).toNat) (o := 0) (vs := [.int .i64 x195, .int .i64 x430]) (⟨x195, x430⟩ : GEnd) HS rfl flat_flat rfl rfl rfl rfl (htA ag219) rfl (getD_some (d := z_GEnd) (ltN c506)) rfl rfl fun wd511 HS => GO.nil (G.len (t := 50) (m := (a_429.set ((([t372, t373, t374, t375] : List Int).getD x430.toNat 0).toNat) (⟨x195, x430⟩ : GEnd)).length) rfl (by simp only [List.length_set] <;> rfl) ?_)))))))
            replace HS := HS.boxEq (j := 1) (cs' := [.slice A9 a_428.length c10, .slice A17 (a_429.set ((([t372, t373, t374, t375] : List Int).getD x430.toNat 0).toNat) (⟨x195, x430⟩ : GEnd)).length c18]) rfl (by simp only [List.length_set] <;> rfl)
            refine G.run 3 rfl (G.weak ?_ (ih_l10 n_l10 (Nat.lt_succ_of_le (Nat.le_refl _)) (Nat.le_of_succ_le hm_l10) _ _ _ _ H HS))
            exact ⟨rfl, rfl, rfl, rfl, rfl, rfl, rfl, rfl, rfl, trivial⟩
           refine G.region (GO.ps 2 rfl (GO.fn rfl func200 fok200.1 fok200.2 rfl rfl (impl_hasIndex_impl_end.calls HS (RdIn.own (j := 3) rfl) h502) (fun _ wd503 ⟨h504, HS⟩ => ⟨_, h504, (GO.ps 2 rfl (GO.known (t := 49) rfl (congrArg Bool.not (bnot_of c505)) (GO.off rfl rfl rfl rfl rfl rfl (GO.off rfl rfl rfl rfl rfl rfl (GO.off rfl rfl rfl rfl rfl rfl (GO.off rfl rfl rfl rfl rfl rfl (GO.off rfl rfl rfl rfl rfl rfl (GO.off rfl rfl rfl rfl rfl rfl (GO.pickT rfl rfl rfl rfl rfl (GO.nil (G.run 2 rfl (G.region ?_))))))))))))⟩)))
           refine GO.ldBoxA (j := 1) ([.slice A9 a_428.length c10, .slice A17 a_429.length c18]) HS rfl rfl rfl rfl ag191 rfl (GO.stBox (j := 0) (vs := [.slice A9 a_428.length c10, .slice A17 a_429.length c18]) ([.slice A9 a_428.length c10, .slice A17 a_429.length c18]) HS rfl rfl rfl rfl rfl (htA ag191) rfl rfl rfl fun wd512 HS => GO.assign rfl rfl rfl (GO.nil ?_))
           obtain ⟨rfl, rfl, rfl⟩ := some3 H
           exact G.ret2 _ _ func184 rfl (Res1.boxA (j := 0) (vs := [.slice A9 a_428.length c10, .slice A17 a_429.length c18]) HS rfl rfl rfl ag191) rfl ⟨_, _, _, _, rfl, (HS.pk 5 [2, 3] rfl)⟩
          refine G.noB rfl (bnot_of c492) (G.run 3 rfl ?_)
          obtain ⟨t521, h522, H⟩ := Option.bind_eq_some_iff.1 H
          rcases ite_elim H with ⟨c525, H⟩ | ⟨c525, H⟩
          ·
           obtain ⟨c526, H⟩ := ite_none H
           obtain ⟨e527, h528, H⟩ := bnd_elim H
           refine G.region (GO.ps 2 rfl (GO.fn rfl func200 fok200.1 fok200.2 rfl rfl (impl_hasIndex_impl_end.calls HS (RdIn.own (j := 2) rfl) h522) (fun _ wd523 ⟨h524, HS⟩ => ⟨_, h524, (GO.ps 2 rfl (GO.known (t := 49) rfl (congrArg Bool.not c525) (GO.on rfl rfl rfl rfl (GO.move rfl rfl rfl (GO.back (GO.on rfl rfl rfl rfl (GO.move rfl rfl rfl (GO.back (GO.on rfl rfl rfl rfl (GO.ix rfl rfl rfl underlying189 sz219 ((RdIn.own (j := 2) rfl) _ HS).2.2.1 c526.1 c526.2 rfl (GO.back (GO.on rfl rfl rfl rfl ?_))))))))))))⟩)))
           refine GO.fld (ea A9 (((([t372, t373, t374, t375] : List Int).getD x430.toNat 0).toNat) * 2)) rfl rfl fl219_0 rfl rfl (GO.back (GO.on rfl rfl rfl rfl (GO.ldRd (T := T_GEnd) (n := (([t372, t373, t374, t375] : List Int).getD x430.toNat 0).toNat) (o := 0) HS (RdIn.own (j := 2) rfl) rfl rfl (getD_eq (ltN c526) h528) rfl rfl na2 rfl (GO.back (GO.on rfl rfl rfl rfl (GO.geq rfl rfl rfl rfl (GO.back (GO.pickF rfl rfl rfl rfl rfl (GO.nil ?_)))))))))
           rcases ite_elim H with ⟨c529, H⟩ | ⟨c529, H⟩
           ·
            refine G.yesB rfl (decide_eq_true c529) (G.seq (G.region (GO.ldBoxA (j := 1) ([.slice A9 a_428.length c10, .slice A17 a_429.length c18]) HS rfl rfl rfl rfl ag191 rfl (GO.stBox (j := 0) (vs := [.slice A9 a_428.length c10, .slice A17 a_429.length c18]) ([.slice A9 a_428.length c10, .slice A17 a_429.length c18]) HS rfl rfl rfl rfl rfl (htA ag191) rfl rfl rfl fun wd530 HS => GO.assign rfl rfl rfl (GO.nil ?_)))))
            obtain ⟨rfl, rfl, rfl⟩ := some3 H
            exact G.ret2 _ _ func184 rfl (Res1.boxA (j := 0) (vs := [.slice A9 a_428.length c10, .slice A17 a_429.length c18]) HS rfl rfl rfl ag191) rfl ⟨_, _, _, _, rfl, (HS.pk 5 [2, 3] rfl)⟩
           refine G.noB rfl (decide_eq_false c529) (G.skip (G.region (GO.ps 4 rfl (GO.buildV (.agg [.int .i64 x195, .int .i64 x430].toArray) rfl rfl (fun _ => by kernel_rfl) rfl (GO.ix rfl rfl rfl underlying189 sz219 ((RdIn.own (j := 2) rfl) _ HS).2.2.1 c526.1 c526.2 rfl (GO.stRow (T := T_GEnd) (j := 2) (n := (([t372, t373, t374, t375] : List Int).getD x430.toNat 0).toNat) (o := 0) (vs := [.int .i64 x195, .int .i64 x430]) (⟨x195, x430⟩ : GEnd) HS rfl flat_flat rfl rfl rfl rfl (htA ag219) rfl (getD_some (d := z_GEnd) (ltN c526)) rfl rfl fun wd531 HS => GO.nil (G.len (t := 50) (m := (a_428.set ((([t372, t373, t374, t375] : List Int).getD x430.toNat 0).toNat) (⟨x195, x430⟩ : GEnd)).length) rfl (by simp only [List.length_set] <;> rfl) ?_)))))))
           replace HS := HS.boxEq (j := 1) (cs' := [.slice A9 (a_428.set ((([t372, t373, t374, t375] : List Int).getD x430.toNat 0).toNat) (⟨x195, x430⟩ : GEnd)).length c10, .slice A17 a_429.length c18]) rfl (by simp only [List.length_set] <;> rfl)
           refine G.run 3 rfl (G.weak ?_ (ih_l10 n_l10 (Nat.lt_succ_of_le (Nat.le_refl _)) (Nat.le_of_succ_le hm_l10) _ _ _ _ H HS))
           exact ⟨rfl, rfl, rfl, rfl, rfl, rfl, rfl, rfl, rfl, trivial⟩
          refine G.region (GO.ps 2 rfl (GO.fn rfl func200 fok200.1 fok200.2 rfl rfl (impl_hasIndex_impl_end.calls HS (RdIn.own (j := 2) rfl) h522) (fun _ wd523 ⟨h524, HS⟩ => ⟨_, h524, (GO.ps 2 rfl (GO.known (t := 49) rfl (congrArg Bool.not (bnot_of c525)) (GO.off rfl rfl rfl rfl rfl rfl (GO.off rfl rfl rfl rfl rfl rfl (GO.off rfl rfl rfl rfl rfl rfl (GO.off rfl rfl rfl rfl rfl rfl (GO.off rfl rfl rfl rfl rfl rfl (GO.off rfl rfl rfl rfl rfl rfl (GO.pickT rfl rfl rfl rfl rfl (GO.nil (G.run 2 rfl (G.region ?_))))))))))))⟩)))
          refine GO.ldBoxA (j := 1) ([.slice A9 a_428.length c10, .slice A17 a_429.length c18]) HS rfl rfl rfl rfl ag191 rfl (GO.stBox (j := 0) (vs := [.slice A9 a_428.length c10, .slice A17 a_429.length c18]) ([.slice A9 a_428.length c10, .slice A17 a_429.length c18]) HS rfl rfl rfl rfl rfl (htA ag191) rfl rfl rfl fun wd532 HS => GO.assign rfl rfl rfl (GO.nil ?_))
          obtain ⟨rfl, rfl, rfl⟩ := some3 H
          exact G.ret2 _ _ func184 rfl (Res1.boxA (j := 0) (vs := [.slice A9 a_428.length c10, .slice A17 a_429.length c18]) HS rfl rfl rfl ag191) rfl ⟨_, _, _, _, rfl, (HS.pk 5 [2, 3] rfl)⟩
         refine G.noB rfl (decide_eq_false c482) (G.run 4 rfl (G.weak ?_ (ih_l1 n_l10 (by omega) (by omega) _ _ _ _ H (HS.pk 5 [0, 1, 2, 3] rfl))))
         exact ⟨rfl, rfl, rfl, rfl, rfl, trivial⟩
      refine G.weak ?_ (at_l10 n_l1 (Nat.le_refl _) _ _ _ _ H (HS.pk 5 [1, 2, 3, 4, 0] rfl))
      exact ⟨rfl, rfl, rfl, rfl, rfl, rfl, rfl, rfl, rfl, trivial⟩
     refine G.noB rfl (decide_eq_false c365) (G.run 2 rfl (G.region (GO.ldBoxA (j := 1) ([.slice A9 a_193.length c10, .slice A17 a_194.length c18]) HS rfl rfl rfl rfl ag191 rfl (GO.stBox (j := 0) (vs := [.slice A9 a_193.length c10, .slice A17 a_194.length c18]) ([.slice A9 a_193.length c10, .slice A17 a_194.length c18]) HS rfl rfl rfl rfl rfl (htA ag191) rfl rfl rfl fun wd533 HS => GO.assign rfl rfl rfl (GO.nil ?_)))))
     obtain ⟨rfl, rfl, rfl⟩ := some3 H
     exact G.ret2 _ _ func184 rfl (Res1.boxA (j := 0) (vs := [.slice A9 a_193.length c10, .slice A17 a_194.length c18]) HS rfl rfl rfl ag191) rfl ⟨_, _, _, _, rfl, (HS.pk 4 [2, 3] rfl)⟩
  refine G.weak ?_ (at_l1 K (Nat.le_refl _) _ _ _ _ H (HS.pk 7 [5, 0, 3, 1] rfl))
  exact ⟨rfl, rfl, rfl, rfl, rfl, trivial⟩
theorem impl_Diagram_other.calls {w0 w : World} {L : List HObj} {d_Crossings : List GCrossing} {d_Circles : Int} {a_from a_to : List GEnd} {e_crossing e_position : Int} {A_a : Option Addr} {c_a : Nat} {A_b : Option Addr} {c_b : Nat} {A_c : Option Addr} {c_c : Nat} {r1 r2 : Int} (HS : St w0 w (L)) (r_a : RdIn w0 L T_GCrossing A_a c_a (fun _ => ()) d_Crossings) (r_b : RdIn w0 L T_GEnd A_b c_b (fun _ => ()) a_from) (r_c : RdIn w0 L T_GEnd A_c c_c (fun _ => ()) a_to) (H : impl_Diagram_other.f d_Crossings d_Circles a_from a_to e_crossing e_position = some (r1, r2)) :
    Calls prog 201 #[.agg [.slice A_a d_Crossings.length c_a, .int .i64 d_Circles].toArray, .agg [.slice A_b a_from.length c_b, .slice A_c a_to.length c_c].toArray, .agg [.int .i64 e_crossing, .int .i64 e_position].toArray] w (impl_Diagram_other.post w0 L r1 r2) := by
  unfold impl_Diagram_other.f at H
  refine Calls.of_G func201 rfl rfl rfl ?_
  refine G.seq (G.region (GO.box (cs := [.slice A_a d_Crossings.length c_a, .int .i64 d_Circles]) HS rfl rfl rfl rfl fun b1 wd2 HS => GO.box (cs := [.slice A_b a_from.length c_b, .slice A_c a_to.length c_c]) HS rfl rfl rfl rfl fun b3 wd4 HS => GO.box (cs := [.int .i64 e_crossing, .int .i64 e_position]) HS rfl rfl rfl rfl fun b5 wd6 HS => GO.alloc HS rfl zr219 rfl rfl fun b7 wd8 HS => GO.nil (G.seq ?_)))
  obtain ⟨c9, H⟩ := ite_none H
  obtain ⟨e10, h11, H⟩ := bnd_elim H
  refine G.region (GO.fld (⟨b1, 0, none⟩) rfl rfl fl40_0 rfl rfl (GO.ldBox (j := 3) HS rfl rfl rfl rfl na38 rfl (GO.fld (⟨b5, 0, none⟩) rfl rfl fl219_0 rfl rfl (GO.ldBox (j := 1) HS rfl rfl rfl rfl na2 rfl (GO.ix rfl rfl rfl underlying38 sz143 ((RdIn.drop 4 r_a) _ HS).2.2.1 c9.1 c9.2 rfl (GO.ldRdA (T := T_GCrossing) (n := e_crossing.toNat) HS (RdIn.drop 4 r_a) rfl rfl (getD_eq (ltN c9) h11) ag143 rfl (GO.alloc HS rfl zr143 rfl rfl fun b12 wd13 HS => GO.stBox (j := 0) (vs := [.int .i64 e10.A, .int .i64 e10.B, .int .i64 e10.C, .int .i64 e10.D, .int .i64 e10.Sign]) ([.int .i64 e10.A, .int .i64 e10.B, .int .i64 e10.C, .int .i64 e10.D, .int .i64 e10.Sign]) HS rfl rfl rfl rfl rfl (htA ag143) rfl rfl rfl fun wd14 HS => GO.nil (G.seq ?_))))))))
  obtain ⟨t15, t16, t17, t18, h19, H⟩ := bind4_elim H
  obtain ⟨c22, H⟩ := ite_none H
  refine G.lexS mixed (fun w => St w0 w (Box b12 143 [.int .i64 e10.A, .int .i64 e10.B, .int .i64 e10.C, .int .i64 e10.D, .int .i64 e10.Sign] :: Box b5 219 [.int .i64 e_crossing, .int .i64 e_position] :: L)) [0, 3] [2, 0, 3, 1, 4, 5] 6 (by kernel_rfl) (by kernel_rfl) (HS.drew.pk 5 [0, 2] rfl) ?_
  replace HS := HS.drew
  refine GX.l0 rfl rfl (fun _ _ g => GO.fld (⟨b5, 1, none⟩) rfl rfl fl219_1 rfl rfl g) rfl (GX.ls rfl rfl rfl (HS.pk 5 [0, 2] rfl) (fun _ HS _ g => GO.ldBoxA (j := 0) ([.int .i64 e10.A, .int .i64 e10.B, .int .i64 e10.C, .int .i64 e10.D, .int .i64 e10.Sign]) HS rfl rfl rfl rfl ag143 rfl g) rfl (GX.ls rfl rfl rfl (HS.pk 5 [0, 2] rfl) (fun _ HS _ g => GO.ldBox (j := 1) HS rfl rfl rfl rfl na2 rfl g) rfl (GX.l2 rfl (GO.fn rfl func198 fok198.1 fok198.2 rfl rfl (impl_Crossing_ends.calls HS  h19) (fun _ wd20 ⟨h21, HS⟩ => ⟨_, h21, (GX.fin (HS.pk 5 [0, 2] rfl) (GX.l0 rfl rfl (fun _ _ g => GO.ixArr ([t15, t16, t17, t18] : List Int) rfl rfl rfl underlying214 underlying2 sz2 rfl c22.1 c22.2 rfl g) rfl (GX.ps 1 rfl (GX.nil (G.run 2 rfl ?_)))))⟩)))))
  obtain ⟨t23, h24, H⟩ := Option.bind_eq_some_iff.1 H
  refine G.region (GO.ldBoxA (j := 0) ([.int .i64 e10.A, .int .i64 e10.B, .int .i64 e10.C, .int .i64 e10.D, .int .i64 e10.Sign]) HS rfl rfl rfl rfl ag143 rfl (GO.fld (⟨b5, 1, none⟩) rfl rfl fl219_1 rfl rfl (GO.ldBox (j := 2) HS rfl rfl rfl rfl na2 rfl (GO.fn rfl func199 fok199.1 fok199.2 rfl rfl (impl_Crossing_enters.calls HS  h24) (fun _ wd25 ⟨h26, HS⟩ => ⟨_, h26, (GO.nil ?_)⟩)))))
  rcases ite_elim H with ⟨c27, H⟩ | ⟨c27, H⟩
  ·
   refine G.yesB rfl c27 (G.seq ?_)
   obtain ⟨c28, H⟩ := ite_none H
   obtain ⟨e29, h30, H⟩ := bnd_elim H
   refine G.region (GO.fld (⟨b3, 0, none⟩) rfl rfl fl191_0 rfl rfl (GO.ldBox (j := 3) HS rfl rfl rfl rfl na189 rfl (GO.move rfl rfl rfl (GO.ix rfl rfl rfl underlying189 sz219 ((RdIn.drop 5 r_b) _ HS).2.2.1 c28.1 c28.2 rfl (GO.ldRdA (T := T_GEnd) (n := (([t15, t16, t17, t18] : List Int).getD e_position.toNat 0).toNat) HS (RdIn.drop 5 r_b) rfl rfl (getD_eq (ltN c28) h30) ag219 rfl (GO.stBox (j := 1) (vs := [.int .i64 e29.crossing, .int .i64 e29.position]) ([.int .i64 e29.crossing, .int .i64 e29.position]) HS rfl rfl rfl rfl rfl (htA ag219) rfl rfl rfl fun wd31 HS => GO.nil ?_))))))
   obtain ⟨rfl, rfl⟩ := some2 H
   exact G.ret1 _ func201 rfl (Res1.boxA (j := 1) (vs := [.int .i64 e29.crossing, .int .i64 e29.position]) HS rfl rfl rfl ag219) ⟨rfl, (HS.pk 5 [] rfl)⟩
  refine G.noB rfl (bnot_of c27) (G.run 2 rfl ?_)
  obtain ⟨c32, H⟩ := ite_none H
  obtain ⟨e33, h34, H⟩ := bnd_elim H
  refine G.region (GO.fld (⟨b3, 1, none⟩) rfl rfl fl191_1 rfl rfl (GO.ldBox (j := 3) HS rfl rfl rfl rfl na189 rfl (GO.move rfl rfl rfl (GO.ix rfl rfl rfl underlying189 sz219 ((RdIn.drop 5 r_c) _ HS).2.2.1 c32.1 c32.2 rfl (GO.ldRdA (T := T_GEnd) (n := (([t15, t16, t17, t18] : List Int).getD e_position.toNat 0).toNat) HS (RdIn.drop 5 r_c) rfl rfl (getD_eq (ltN c32) h34) ag219 rfl (GO.stBox (j := 1) (vs := [.int .i64 e33.crossing, .int .i64 e33.position]) ([.int .i64 e33.crossing, .int .i64 e33.position]) HS rfl rfl rfl rfl rfl (htA ag219) rfl rfl rfl fun wd35 HS => GO.nil ?_))))))
  obtain ⟨rfl, rfl⟩ := some2 H
  exact G.ret1 _ func201 rfl (Res1.boxA (j := 1) (vs := [.int .i64 e33.crossing, .int .i64 e33.position]) HS rfl rfl rfl ag219) ⟨rfl, (HS.pk 5 [] rfl)⟩
theorem impl_Diagram_regions.calls {w0 w : World} {L : List HObj} {K : Nat} {d_Crossings : List GCrossing} {d_Circles : Int} {a_from a_to : List GEnd} {A_a : Option Addr} {c_a : Nat} {A_b : Option Addr} {c_b : Nat} {A_c : Option Addr} {c_c : Nat} {r1 : List (List Int)} (HS : St w0 w (L)) (r_a : RdIn w0 L T_GCrossing A_a c_a (fun _ => ()) d_Crossings) (r_b : RdIn w0 L T_GEnd A_b c_b (fun _ => ()) a_from) (r_c : RdIn w0 L T_GEnd A_c c_c (fun _ => ()) a_to) (H : impl_Diagram_regions.f K d_Crossings d_Circles a_from a_to = some r1) :
    Calls prog 186 #[.agg [.slice A_a d_Crossings.length c_a, .int .i64 d_Circles].toArray, .agg [.slice A_b a_from.length c_b, .slice A_c a_to.length c_c].toArray] w (impl_Diagram_regions.post w0 L r1) := by
  unfold impl_Diagram_regions.f at H
  refine Calls.of_G func186 rfl rfl rfl ?_
  refine G.seq ?_
  refine G.region ?_
  refine GO.box (cs := [.slice A_a d_Crossings.length c_a, .int .i64 d_Circles]) HS rfl rfl rfl rfl ?_; intro b1 wd2 HS
  refine GO.box (cs := [.slice A_b a_from.length c_b, .slice A_c a_to.length c_c]) HS rfl rfl rfl rfl ?_; intro b3 wd4 HS
  refine GO.assign rfl rfl rfl ?_
  refine GO.nil ?_
  refine G.run 3 rfl ?_
  obtain ⟨c5, H⟩ := ite_none H
  obtain ⟨c6, H⟩ := ite_none H
  refine G.region ?_
  refine GO.fld (⟨b1, 0, none⟩) rfl rfl fl40_0 rfl rfl ?_
  refine GO.ldBox (j := 1) HS rfl rfl rfl rfl na38 rfl ?_
  refine GO.lenS rfl rfl underlying38 rfl ?_
  refine GO.mul rfl rfl rfl rfl ?_
  refine GO.make (T := TBool) false () HS flat_flat rfl rfl rfl underlying171 inf4 rfl rfl rfl c5 c6 rfl ?_; intro b7 wd8 HS
  refine GO.assign rfl rfl rfl ?_
  refine GO.nil ?_
  refine G.run 2 rfl ?_
  refine G.region ?_
  refine GO.move rfl rfl rfl ?_
  refine GO.lenS rfl rfl underlying171 rfl ?_
  refine GO.move rfl rfl rfl ?_
  refine GO.nil ?_
  refine G.run 2 rfl ?_
  refine G.name (fun k_l1 hk_l1 => ?_)
  have at_l1 : ∀ m_l1, m_l1 ≤ K → ∀ (A82 : Option Addr) (c83 : Nat) (out_84 : List (List Int)) (y85 : Nat → (Ty.slice 2 (TInt .i64)).Lay) (seen_86 : List Bool) (x87 : Int) (w : World), impl_Diagram_regions.l1 K m_l1 d_Crossings d_Circles a_from a_to out_84 seen_86 x87 = some r1 → St w0 w (Box b1 40 [.slice A_a d_Crossings.length c_a, .int .i64 d_Circles] :: Box b3 191 [.slice A_b a_from.length c_b, .slice A_c a_to.length c_c] :: Own (Ty.slice 2 (TInt .i64)) 41 A82 c83 y85 out_84 :: Own TBool 4 (some ⟨b7, 0, none⟩) ((w64 (4 * (d_Crossings.length : Int))).toNat) (fun _ => ()) seen_86 :: L) → G prog 186 58 [(2, .pointer (some ⟨b1, 0, none⟩)), (3, .pointer (some ⟨b3, 0, none⟩)), (5, .slice A82 out_84.length c83), (6, .slice (some ⟨b7, 0, none⟩) seen_86.length ((w64 (4 * (d_Crossings.length : Int))).toNat)), (17, .int .i64 ((List.replicate (w64 (4 * (d_Crossings.length : Int))).toNat false).length : Int)), (18, .int .i64 x87)] k_l1 w (impl_Diagram_regions.post w0 L r1) := by
   intro m_l1
   induction m_l1 using Nat.strongRecOn with
   | _ m_l1 ih_l1 =>
    intro hm_l1 A82 c83 out_84 y85 seen_86 x87 w H HS
    cases m_l1 with
    | zero => rw [impl_Diagram_regions.l1] at H; cases H
    | succ n_l1 =>
     rw [impl_Diagram_regions.l1] at H
     subst hk_l1
     refine G.run 3 rfl ?_
     rcases ite_elim H with ⟨c161, H⟩ | ⟨c161, H⟩
     ·
      refine G.yesB rfl (decide_eq_true c161) ?_
      refine G.run 12 rfl ?_
      refine G.name (fun k_l4 hk_l4 => ?_)
      have at_l4 : ∀ m_l4, m_l4 ≤ n_l1 → ∀ (seen_179 : List Bool) (A180 : Option Addr) (c181 : Nat) (region_182 : List Int) (k_183 : Int) (w : World), impl_Diagram_regions.l4 K m_l4 d_Crossings d_Circles a_from a_to out_84 x87 seen_179 region_182 k_183 = some r1 → St w0 w (Box b1 40 [.slice A_a d_Crossings.length c_a, .int .i64 d_Circles] :: Box b3 191 [.slice A_b a_from.length c_b, .slice A_c a_to.length c_c] :: Own (Ty.slice 2 (TInt .i64)) 41 A82 c83 y85 out_84 :: Own TBool 4 (some ⟨b7, 0, none⟩) ((w64 (4 * (d_Crossings.length : Int))).toNat) (fun _ => ()) seen_179 :: Own (TInt .i64) 2 A180 c181 (fun _ => ()) region_182 :: L) → G prog 186 58 [(2, .pointer (some ⟨b1, 0, none⟩)), (3, .pointer (some ⟨b3, 0, none⟩)), (5, .slice A82 out_84.length c83), (6, .slice (some ⟨b7, 0, none⟩) seen_179.length ((w64 (4 * (d_Crossings.length : Int))).toNat)), (8, .slice A180 region_182.length c181), (9, .int .i64 k_183), (17, .int .i64 ((List.replicate (w64 (4 * (d_Crossings.length : Int))).toNat false).length : Int)), (18, .int .i64 x87)] k_l4 w (impl_Diagram_regions.post w0 L r1) := by
       intro m_l4
       induction m_l4 using Nat.strongRecOn with
       | _ m_l4 ih_l4 =>
        intro hm_l4 seen_179 A180 c181 region_182 k_183 w H HS
        cases m_l4 with
        | zero => rw [impl_Diagram_regions.l4] at H; cases H
        | succ n_l4 =>
         rw [impl_Diagram_regions.l4] at H
         subst hk_l4
         refine G.run 2 rfl ?_
         obtain ⟨c209, H⟩ := ite_none H
         refine G.region ?_
         refine GO.ps 2 rfl ?_
         refine GO.ix rfl rfl rfl underlying171 sz4 (fun _ => ⟨_, _, rfl⟩) c209.1 c209.2 rfl ?_
         refine GO.ldRd (T := TBool) (n := k_183.toNat) (o := 0) HS (RdIn.own (j := 3) rfl) rfl rfl (getD_some (d := false) (ltN c209)) rfl rfl na4 rfl ?_
         refine GO.not rfl rfl rfl ?_
         refine GO.nil ?_
         rcases ite_elim H with ⟨c210, H⟩ | ⟨c210, H⟩
         ·
          refine G.noB rfl (congrArg Bool.not c210) ?_
          refine G.run 2 rfl ?_
          refine G.region ?_
          refine GO.move rfl rfl rfl ?_
          refine GO.lenS rfl rfl underlying41 rfl ?_
          refine GO.gtr rfl rfl rfl rfl ?_
          refine GO.nil ?_
          rcases ite_elim H with ⟨c211, H⟩ | ⟨c211, H⟩
          ·
           refine G.yesB rfl (decide_eq_true c211) ?_
           obtain ⟨c217, H⟩ := ite_none H
           refine G.region ?_
           refine GO.ps 2 rfl ?_
           refine GO.buildS (el := 41) ([.slice A180 region_182.length c181]) HS rfl rfl (fun _ => by kernel_rfl) rfl ?_; intro b212 wd213 HS
           replace HS := HS.pk 6 [3, 0, 5, 1, 2, 4] rfl
           refine GO.appR (S := (TInt .i64)) (u := 2) HS rfl rfl rfl underlying156 inf41 rfl rfl c217 rfl ?_; intro A215 c216 y218 wd214 HS
           refine GO.assign rfl rfl rfl ?_
           refine GO.nil ?_
           refine G.run 3 rfl ?_
           refine G.weak ?_ (ih_l1 n_l4 (by omega) (by omega) _ _ _ _ _ _ _ H (HS.pk 5 [2, 3, 0, 4] rfl))
           exact ⟨rfl, rfl, rfl, rfl, rfl, rfl, trivial⟩
          refine G.noB rfl (decide_eq_false c211) ?_
          refine G.run 4 rfl ?_
          refine G.weak ?_ (ih_l1 n_l4 (by omega) (by omega) _ _ _ _ _ _ _ H (HS.pk 5 [0, 1, 2, 3] rfl))
          exact ⟨rfl, rfl, rfl, rfl, rfl, rfl, trivial⟩
         refine G.yesB rfl (congrArg Bool.not (bnot_of c210)) ?_
         refine G.run 3 rfl ?_
         refine G.region ?_
         refine GO.ps 2 rfl ?_
         refine GO.ix rfl rfl rfl underlying171 sz4 (fun _ => ⟨_, _, rfl⟩) c209.1 c209.2 rfl ?_
         refine GO.stRow (T := TBool) (j := 3) (n := k_183.toNat) (o := 0) (vs := [.bool true]) true HS rfl flat_flat rfl rfl rfl rfl (htN na4 rfl) rfl (getD_some (d := false) (ltN c209)) rfl rfl ?_; intro wd219 HS
         refine GO.nil ?_
         refine G.len (t := 6) (m := (seen_179.set k_183.toNat true).length) rfl (by simp only [List.length_set] <;> rfl) ?_
         refine G.seq ?_
         obtain ⟨c225, H⟩ := ite_none H
         refine G.region ?_
         refine GO.ps 2 rfl ?_
         refine GO.buildS (el := 2) ([.int .i64 k_183]) HS rfl rfl (fun _ => by kernel_rfl) rfl ?_; intro b220 wd221 HS
         refine GO.app1 (T := (TInt .i64)) (j := 5) (jb := 0) k_183 HS rfl rfl flat_flat rfl rfl rfl underlying41 inf2 rfl rfl rfl c225 rfl ?_; intro A223 c224 wd222 HS
         refine GO.assign rfl rfl rfl ?_
         refine GO.nil ?_
         refine G.seq ?_
         obtain ⟨t226, t227, h228, H⟩ := bind2_elim H
         refine G.region ?_
         refine GO.ldBoxA (j := 1) ([.slice A_a d_Crossings.length c_a, .int .i64 d_Circles]) HS rfl rfl rfl rfl ag40 rfl ?_
         refine GO.ldBoxA (j := 2) ([.slice A_b a_from.length c_b, .slice A_c a_to.length c_c]) HS rfl rfl rfl rfl ag191 rfl ?_
         refine GO.move rfl rfl rfl ?_
         refine GO.quo rfl rfl rfl (by decide) rfl ?_
         refine GO.ps 2 rfl ?_
         refine GO.rem rfl rfl rfl (by decide) rfl ?_
         refine GO.buildV (.agg [.int .i64 (w64 (k_183.tdiv 4)), .int .i64 ((w64 (k_183 + 1)).tmod 4)].toArray) rfl rfl (fun _ => by kernel_rfl) rfl ?_
         refine GO.fn rfl func201 fok201.1 fok201.2 rfl rfl (impl_Diagram_other.calls HS (RdIn.drop 6 r_a) (RdIn.drop 6 r_b) (RdIn.drop 6 r_c) h228) (fun _ wd229 ⟨h230, HS⟩ => ⟨_, h230, ?_⟩)
         refine GO.alloc HS rfl zr219 rfl rfl ?_; intro b231 wd232 HS
         refine GO.stBox (j := 0) (vs := [.int .i64 t226, .int .i64 t227]) ([.int .i64 t226, .int .i64 t227]) HS rfl rfl rfl rfl rfl (htA ag219) rfl rfl rfl ?_; intro wd233 HS
         refine GO.nil ?_
         refine G.region ?_
         refine GO.fld (⟨b231, 0, none⟩) rfl rfl fl219_0 rfl rfl ?_
         refine GO.ldBox (j := 0) HS rfl rfl rfl rfl na2 rfl ?_
         refine GO.mul rfl rfl rfl rfl ?_
         refine GO.fld (⟨b231, 1, none⟩) rfl rfl fl219_1 rfl rfl ?_
         refine GO.ldBox (j := 0) HS rfl rfl rfl rfl na2 rfl ?_
         refine GO.ps 2 rfl ?_
         refine GO.nil ?_
         refine G.run 2 rfl ?_
         refine G.weak ?_ (ih_l4 n_l4 (Nat.lt_succ_of_le (Nat.le_refl _)) (Nat.le_of_succ_le hm_l4) _ _ _ _ _ _ H (HS.pk 7 [2, 3, 4, 5, 6] rfl))
         exact ⟨rfl, rfl, rfl, rfl, rfl, rfl, rfl, rfl, trivial⟩
      replace HS := HS.nilRow (TInt .i64) 2 (fun _ => ())
      refine G.weak ?_ (at_l4 n_l1 (Nat.le_refl _) _ _ _ _ _ _ H (HS.pk 5 [1, 2, 3, 4, 0] rfl))
      exact ⟨rfl, rfl, rfl, rfl, rfl, rfl, rfl, rfl, trivial⟩
     refine G.noB rfl (decide_eq_false c161) ?_
     refine G.run 3 rfl ?_
     obtain rfl := Option.some.inj H
     exact G.ret1 _ func186 rfl rfl ⟨_, _, _, rfl, (HS.pk 4 [2] rfl)⟩
  replace HS := HS.nilRow (Ty.slice 2 (TInt .i64)) 41 (fun _ => ⟨none, 0, (fun _ => ())⟩)
  refine G.weak ?_ (at_l1 K (Nat.le_refl _) _ _ _ _ _ _ _ H (HS.pk 4 [3, 2, 0, 1] rfl))
  exact ⟨rfl, rfl, rfl, rfl, rfl, rfl, trivial⟩
theorem impl_size_int64.calls {w0 w : World} {L : List HObj} {list : List (List Int)} {A_a : Option Addr} {c_a : Nat} {y_a : Nat → (Ty.slice 2 (TInt .i64)).Lay} {r1 : Int} (HS : St w0 w (L)) (r_a : RdIn w0 L (Ty.slice 2 (TInt .i64)) A_a c_a y_a list) (H : impl_size_int64.f list = some r1) :
    Calls prog 185 #[.slice A_a list.length c_a] w (impl_size_int64.post w0 L r1) := by
  unfold impl_size_int64.f at H
  refine Calls.of_G func185 rfl rfl rfl ?_
  refine G.run 3 rfl (G.region (GO.move rfl rfl rfl (GO.lenS rfl rfl underlying156 rfl (GO.assign rfl rfl rfl (GO.nil ?_)))))
  obtain rfl := Option.some.inj H
  exact G.ret1 _ func185 rfl rfl ⟨rfl, HS⟩
theorem impl_counting.calls {w0 w : World} {L : List HObj} {K : Nat} {n_ : Int} {r1 : List Int} (HS : St w0 w (L)) (H : impl_counting.f K n_ = some r1) :
    Calls prog 203 #[.int .i64 n_] w (impl_counting.post w0 L r1) := by
  unfold impl_counting.f at H
  refine Calls.of_G func203 rfl rfl rfl ?_
  refine G.run 9 rfl ?_
  refine G.name (fun k_l1 hk_l1 => ?_)
  have at_l1 : ∀ m_l1, m_l1 ≤ K → ∀ (A8 : Option Addr) (c9 : Nat) (out_10 : List Int) (x11 : Int) (w : World), impl_counting.l1 K m_l1 n_ out_10 x11 = some r1 → St w0 w (Own (TInt .i64) 2 A8 c9 (fun _ => ()) out_10 :: L) → G prog 203 15 [(3, .slice A8 out_10.length c9), (5, .int .i64 n_), (6, .int .i64 x11)] k_l1 w (impl_counting.post w0 L r1) := by
   intro m_l1
   induction m_l1 using Nat.strongRecOn with
   | _ m_l1 ih_l1 =>
    intro hm_l1 A8 c9 out_10 x11 w H HS
    cases m_l1 with
    | zero => rw [impl_counting.l1] at H; cases H
    | succ n_l1 =>
     rw [impl_counting.l1] at H
     subst hk_l1
     refine G.run 3 rfl ?_
     rcases ite_elim H with ⟨c19, H⟩ | ⟨c19, H⟩
     ·
      refine G.yesB rfl (decide_eq_true c19) (G.run 5 rfl ?_)
      obtain ⟨c25, H⟩ := ite_none H
      refine G.region (GO.ps 2 rfl (GO.buildS (el := 2) ([.int .i64 x11]) HS rfl rfl (fun _ => by kernel_rfl) rfl fun b20 wd21 HS => GO.app1 (T := (TInt .i64)) (j := 1) (jb := 0) x11 HS rfl rfl flat_flat rfl rfl rfl underlying41 inf2 rfl rfl rfl c25 rfl fun A23 c24 wd22 HS => GO.assign rfl rfl rfl (GO.nil (G.run 3 rfl (G.weak ?_ (ih_l1 n_l1 (Nat.lt_succ_of_le (Nat.le_refl _)) (Nat.le_of_succ_le hm_l1) _ _ _ _ _ H (HS.pk 2 [1] rfl)))))))
      exact ⟨rfl, rfl, rfl, trivial⟩
     refine G.noB rfl (decide_eq_false c19) (G.run 3 rfl ?_)
     obtain rfl := Option.some.inj H
     exact G.ret1 _ func203 rfl rfl ⟨_, _, rfl, HS⟩
  replace HS := HS.nilRow (TInt .i64) 2 (fun _ => ())
  refine G.weak ?_ (at_l1 K (Nat.le_refl _) _ _ _ _ _ H HS)
  exact ⟨rfl, rfl, rfl, trivial⟩
theorem impl_union.calls {w0 w : World} {L : List HObj} {K : Nat} {sets : List Int} {i k_ : Int} {A_a : Option Addr} {c_a : Nat} {r1 : List Int} (HS : St w0 w (Own (TInt .i64) 2 A_a c_a (fun _ => ()) sets :: L)) (H : impl_union.f K sets i k_ = some r1) :
    Calls prog 204 #[.slice A_a sets.length c_a, .int .i64 i, .int .i64 k_] w (impl_union.post w0 L A_a c_a r1) := by
  unfold impl_union.f at H
  refine Calls.of_G func204 rfl rfl rfl ?_
  refine G.seq ?_
  obtain ⟨c1, H⟩ := ite_none H
  have h2 := ((RdIn.own (j := 0) rfl) _ HS).2.2.1
  obtain ⟨c3, H⟩ := ite_none H
  have h4 := ((RdIn.own (j := 0) rfl) _ HS).2.2.1
  refine G.lex mixed [0, 1, 2, 4, 5, 6, 3, 7, 8, 9] (by kernel_rfl) ?_
  replace HS := HS.drew
  refine GX.ps 2 rfl (GX.l0 rfl rfl (fun _ _ g => GO.ix rfl rfl rfl underlying41 sz2 h2 c1.1 c1.2 rfl g) rfl (GX.ps 2 rfl (GX.l0 rfl rfl (fun _ _ g => GO.ix rfl rfl rfl underlying41 sz2 h4 c3.1 c3.2 rfl g) rfl (GX.l1 rfl rfl rfl (fun _ g => GO.ldRd (T := (TInt .i64)) (n := k_.toNat) (o := 0) HS (RdIn.own (j := 0) rfl) rfl rfl (getD_some (d := 0) (ltN c1)) rfl rfl na2 rfl g) rfl (GX.l1 rfl rfl rfl (fun _ g => GO.ldRd (T := (TInt .i64)) (n := i.toNat) (o := 0) HS (RdIn.own (j := 0) rfl) rfl rfl (getD_some (d := 0) (ltN c3)) rfl rfl na2 rfl g) rfl (GX.ps 2 rfl (GX.nil (G.seq (G.region (GO.move rfl rfl rfl (GO.lenS rfl rfl underlying41 rfl (GO.move rfl rfl rfl (GO.nil (G.run 2 rfl ?_))))))))))))))
  refine G.name (fun k_l1 hk_l1 => ?_)
  have at_l1 : ∀ m_l1, m_l1 ≤ K → ∀ (x9 : List Int) (x10 : Int) (w : World), impl_union.l1 K m_l1 sets i k_ x9 x10 = some r1 → St w0 w (Own (TInt .i64) 2 A_a c_a (fun _ => ()) x9 :: L) → G prog 204 33 [(0, .slice A_a x9.length c_a), (6, .int .i64 (sets.getD k_.toNat 0)), (7, .int .i64 (sets.getD i.toNat 0)), (18, .slice A_a x9.length c_a), (19, .int .i64 (sets.length : Int)), (20, .int .i64 x10)] k_l1 w (impl_union.post w0 L A_a c_a r1) := by
   intro m_l1
   induction m_l1 using Nat.strongRecOn with
   | _ m_l1 ih_l1 =>
    intro hm_l1 x9 x10 w H HS
    cases m_l1 with
    | zero => rw [impl_union.l1] at H; cases H
    | succ n_l1 =>
     rw [impl_union.l1] at H
     subst hk_l1
     refine G.run 3 rfl ?_
     rcases ite_elim H with ⟨c15, H⟩ | ⟨c15, H⟩
     ·
      refine G.yesB rfl (decide_eq_true c15) (G.run 4 rfl ?_)
      obtain ⟨c16, H⟩ := ite_none H
      refine G.region (GO.move rfl rfl rfl (GO.ix rfl rfl rfl underlying41 sz2 ((RdIn.own (j := 0) rfl) _ HS).2.2.1 c16.1 c16.2 rfl (GO.ldRd (T := (TInt .i64)) (n := x10.toNat) (o := 0) HS (RdIn.own (j := 0) rfl) rfl rfl (getD_some (d := 0) (ltN c16)) rfl rfl na2 rfl (GO.ps 2 rfl (GO.nil (G.run 2 rfl ?_))))))
      rcases ite_elim H with ⟨c17, H⟩ | ⟨c17, H⟩
      ·
       refine G.yesB rfl (decide_eq_true c17) (G.region (GO.ps 3 rfl (GO.ix rfl rfl rfl underlying41 sz2 ((RdIn.own (j := 0) rfl) _ HS).2.2.1 c16.1 c16.2 rfl (GO.stRow (T := (TInt .i64)) (j := 0) (n := x10.toNat) (o := 0) (vs := [.int .i64 (sets.getD i.toNat 0)]) (sets.getD i.toNat 0) HS rfl flat_flat rfl rfl rfl rfl (htN na2 rfl) rfl (getD_some (d := 0) (ltN c16)) rfl rfl fun wd18 HS => GO.nil (G.len (t := 0) (m := (x9.set x10.toNat (sets.getD i.toNat 0)).length) rfl (by simp only [List.length_set] <;> rfl) (G.len (t := 18) (m := (x9.set x10.toNat (sets.getD i.toNat 0)).length) rfl (by simp only [List.length_set] <;> rfl) (G.run 3 rfl (G.weak ?_ (ih_l1 n_l1 (Nat.lt_succ_of_le (Nat.le_refl _)) (Nat.le_of_succ_le hm_l1) _ _ _ H HS)))))))))
       exact ⟨rfl, rfl, rfl, rfl, rfl, rfl, trivial⟩
      refine G.noB rfl (decide_eq_false c17) (G.run 4 rfl (G.weak ?_ (ih_l1 n_l1 (Nat.lt_succ_of_le (Nat.le_refl _)) (Nat.le_of_succ_le hm_l1) _ _ _ H HS)))
      exact ⟨rfl, rfl, rfl, rfl, rfl, rfl, trivial⟩
     refine G.noB rfl (decide_eq_false c15) (G.exit rfl ?_)
     obtain rfl := Option.some.inj H
     exact G.end0 func204 rfl ⟨rfl, HS⟩
  refine G.weak ?_ (at_l1 K (Nat.le_refl _) _ _ _ H HS)
  exact ⟨rfl, rfl, rfl, rfl, rfl, rfl, trivial⟩
theorem impl_numbered.calls {w0 w : World} {L : List HObj} {K : Nat} {roots : List Int} {A_a : Option Addr} {c_a : Nat} {r1 : List Int} (HS : St w0 w (L)) (r_a : RdIn w0 L (TInt .i64) A_a c_a (fun _ => ()) roots) (H : impl_numbered.f K roots = some r1) :
    Calls prog 205 #[.slice A_a roots.length c_a] w (impl_numbered.post w0 L r1) := by
  unfold impl_numbered.f at H
  refine Calls.of_G func205 rfl rfl rfl ?_
  refine G.run 3 rfl (G.region (GO.newMapJ .i64 .i64 HS rfl rfl fun b1 wd2 HS => GO.assign rfl rfl rfl (GO.nil (G.run 4 rfl (G.region (GO.move rfl rfl rfl (GO.lenS rfl rfl underlying41 rfl (GO.move rfl rfl rfl (GO.nil (G.run 2 rfl ?_))))))))))
  refine G.name (fun k_l1 hk_l1 => ?_)
  have at_l1 : ∀ m_l1, m_l1 ≤ K → ∀ (numbers_16 : List (Int × Int)) (A17 : Option Addr) (c18 : Nat) (out_19 : List Int) (x20 : Int) (w : World), impl_numbered.l1 K m_l1 roots numbers_16 out_19 x20 = some r1 → St w0 w (MapJ b1 .i64 .i64 numbers_16 :: Own (TInt .i64) 2 A17 c18 (fun _ => ()) out_19 :: L) → G prog 205 36 [(3, .map (some b1)), (4, .slice A17 out_19.length c18), (10, .slice A_a roots.length c_a), (11, .int .i64 (roots.length : Int)), (12, .int .i64 x20)] k_l1 w (impl_numbered.post w0 L r1) := by
   intro m_l1
   induction m_l1 using Nat.strongRecOn with
   | _ m_l1 ih_l1 =>
    intro hm_l1 numbers_16 A17 c18 out_19 x20 w H HS
    cases m_l1 with
    | zero => rw [impl_numbered.l1] at H; cases H
    | succ n_l1 =>
     rw [impl_numbered.l1] at H
     subst hk_l1
     refine G.run 3 rfl ?_
     rcases ite_elim H with ⟨c34, H⟩ | ⟨c34, H⟩
     ·
      refine G.yesB rfl (decide_eq_true c34) (G.run 4 rfl ?_)
      obtain ⟨c35, H⟩ := ite_none H
      refine G.region (GO.ix rfl rfl rfl underlying41 sz2 ((RdIn.drop 2 r_a) _ HS).2.2.1 c35.1 c35.2 rfl (GO.ldRd (T := (TInt .i64)) (n := x20.toNat) (o := 0) HS (RdIn.drop 2 r_a) rfl rfl (getD_some (d := 0) (ltN c35)) rfl rfl na2 rfl (GO.assign rfl rfl rfl (GO.nil (G.run 2 rfl (G.region (GO.ps 2 rfl (GO.lookOkJ (j := 0) HS rfl rfl rfl rfl underlying230 underlying2 zr2 rfl (GO.ps 5 rfl (GO.nil (G.run 2 rfl ?_)))))))))))
      refine G.nameT (fun k_j4 hk_j4 => ?_)
      have at_j4 : ∀ m_j4, m_j4 ≤ n_l1 → ∀ (numbers_38 : List (Int × Int)) (w : World), impl_numbered.j4 K m_j4 roots out_19 x20 numbers_38 = some r1 → St w0 w (MapJ b1 .i64 .i64 numbers_38 :: Own (TInt .i64) 2 A17 c18 (fun _ => ()) out_19 :: L) → G prog 205 36 [(3, .map (some b1)), (4, .slice A17 out_19.length c18), (6, .int .i64 (roots.getD x20.toNat 0)), (10, .slice A_a roots.length c_a), (11, .int .i64 (roots.length : Int)), (12, .int .i64 x20)] k_j4 w (impl_numbered.post w0 L r1) := by
       intro m_j4 hm_j4 numbers_38 w H HS
       cases m_j4 with
       | zero => rw [impl_numbered.j4] at H; cases H
       | succ n_j4 =>
        rw [impl_numbered.j4] at H
        subst hk_j4
        obtain ⟨c44, H⟩ := ite_none H
        refine G.region (GO.ps 3 rfl (GO.lookJ (j := 0) HS rfl rfl rfl rfl underlying230 underlying2 zr2 rfl (GO.buildS (el := 2) ([.int .i64 ((mget numbers_38 (roots.getD x20.toNat 0)).getD 0)]) HS rfl rfl (fun _ => by kernel_rfl) rfl fun b39 wd40 HS => GO.app1 (T := (TInt .i64)) (j := 2) (jb := 0) ((mget numbers_38 (roots.getD x20.toNat 0)).getD 0) HS rfl rfl flat_flat rfl rfl rfl underlying41 inf2 rfl rfl rfl c44 rfl fun A42 c43 wd41 HS => GO.assign rfl rfl rfl (GO.nil (G.run 3 rfl (G.weak ?_ (ih_l1 n_j4 (by omega) (by omega) _ _ _ _ _ _ H (HS.pk 3 [1, 2] rfl))))))))
        exact ⟨rfl, rfl, rfl, rfl, rfl, trivial⟩
      rcases ite_elim H with ⟨c45, H⟩ | ⟨c45, H⟩
      ·
       refine G.noB rfl (congrArg Bool.not c45) (G.skip (G.weak ?_ (at_j4 n_l1 (Nat.le_refl _) _ _ H HS)))
       exact ⟨rfl, rfl, rfl, rfl, rfl, rfl, trivial⟩
      refine G.yesB rfl (congrArg Bool.not (bnot_of c45)) (G.region (GO.ps 3 rfl (GO.lenMJ (j := 0) HS rfl rfl rfl underlying230 rfl (GO.putMJ (j := 0) HS rfl rfl rfl rfl rfl underlying230 underlying2 fun wd46 HS => GO.nil (G.weak ?_ (at_j4 n_l1 (Nat.le_refl _) _ _ H HS))))))
      exact ⟨rfl, rfl, rfl, rfl, rfl, rfl, trivial⟩
     refine G.noB rfl (decide_eq_false c34) (G.run 3 rfl ?_)
     obtain rfl := Option.some.inj H
     exact G.ret1 _ func205 rfl rfl ⟨_, _, rfl, (HS.pk 2 [1] rfl)⟩
  replace HS := HS.nilRow (TInt .i64) 2 (fun _ => ())
  refine G.weak ?_ (at_l1 K (Nat.le_refl _) _ _ _ _ _ _ H (HS.pk 2 [1, 0] rfl))
  exact ⟨rfl, rfl, rfl, rfl, rfl, trivial⟩
theorem impl_Diagram_parts.calls {w0 w : World} {L : List HObj} {K : Nat} {d_Crossings : List GCrossing} {d_Circles : Int} {a_from a_to : List GEnd} {A_a : Option Addr} {c_a : Nat} {A_b : Option Addr} {c_b : Nat} {A_c : Option Addr} {c_c : Nat} {r1 : List Int} (HS : St w0 w (L)) (r_a : RdIn w0 L T_GCrossing A_a c_a (fun _ => ()) d_Crossings) (r_b : RdIn w0 L T_GEnd A_b c_b (fun _ => ()) a_from) (r_c : RdIn w0 L T_GEnd A_c c_c (fun _ => ()) a_to) (H : impl_Diagram_parts.f K d_Crossings d_Circles a_from a_to = some r1) :
    Calls prog 188 #[.agg [.slice A_a d_Crossings.length c_a, .int .i64 d_Circles].toArray, .agg [.slice A_b a_from.length c_b, .slice A_c a_to.length c_c].toArray] w (impl_Diagram_parts.post w0 L r1) := by
  unfold impl_Diagram_parts.f at H
  refine Calls.of_G func188 rfl rfl rfl ?_
  refine G.seq (G.region (GO.box (cs := [.slice A_a d_Crossings.length c_a, .int .i64 d_Circles]) HS rfl rfl rfl rfl fun b1 wd2 HS => GO.box (cs := [.slice A_b a_from.length c_b, .slice A_c a_to.length c_c]) HS rfl rfl rfl rfl fun b3 wd4 HS => GO.assign rfl rfl rfl (GO.nil (G.seq ?_))))
  obtain ⟨t5, h6, H⟩ := Option.bind_eq_some_iff.1 H
  obtain ⟨t9, h10, H⟩ := Option.bind_eq_some_iff.1 H
  refine G.region (GO.fld (⟨b1, 0, none⟩) rfl rfl fl40_0 rfl rfl (GO.ldBox (j := 1) HS rfl rfl rfl rfl na38 rfl (GO.fn rfl func181 fok181.1 fok181.2 rfl rfl (impl_size_impl_Crossing.calls HS (RdIn.drop 2 r_a) h6) (fun _ wd7 ⟨h8, HS⟩ => ⟨_, h8, (GO.fn rfl func203 fok203.1 fok203.2 rfl rfl (impl_counting.calls HS  h10) (fun _ wd13 ⟨A11, c12, h14, HS⟩ => ⟨_, h14, (GO.assign rfl rfl rfl (GO.nil (G.run 2 rfl (G.region (GO.fld (⟨b3, 0, none⟩) rfl rfl fl191_0 rfl rfl (GO.ldBox (j := 1) HS rfl rfl rfl rfl na189 rfl (GO.lenS rfl rfl underlying189 rfl (GO.move rfl rfl rfl (GO.nil (G.run 2 rfl ?_))))))))))⟩))⟩))))
  refine G.name (fun k_l1 hk_l1 => ?_)
  have at_l1 : ∀ m_l1, m_l1 ≤ K → ∀ (sets_36 : List Int) (x37 : Int) (w : World), impl_Diagram_parts.l1 K m_l1 a_from a_to sets_36 x37 = some r1 → St w0 w (Box b3 191 [.slice A_b a_from.length c_b, .slice A_c a_to.length c_c] :: Own (TInt .i64) 2 A11 c12 (fun _ => ()) sets_36 :: L) → G prog 188 33 [(3, .pointer (some ⟨b3, 0, none⟩)), (5, .slice A11 sets_36.length c12), (13, .slice A_b a_from.length c_b), (14, .int .i64 (a_from.length : Int)), (15, .int .i64 x37)] k_l1 w (impl_Diagram_parts.post w0 L r1) := by
   intro m_l1
   induction m_l1 using Nat.strongRecOn with
   | _ m_l1 ih_l1 =>
    intro hm_l1 sets_36 x37 w H HS
    cases m_l1 with
    | zero => rw [impl_Diagram_parts.l1] at H; cases H
    | succ n_l1 =>
     rw [impl_Diagram_parts.l1] at H
     subst hk_l1
     refine G.run 3 rfl ?_
     rcases ite_elim H with ⟨c59, H⟩ | ⟨c59, H⟩
     ·
      refine G.yesB rfl (decide_eq_true c59) (G.run 4 rfl ?_)
      obtain ⟨c60, H⟩ := ite_none H
      obtain ⟨e61, h62, H⟩ := bnd_elim H
      refine G.region (GO.move rfl rfl rfl (GO.ix rfl rfl rfl underlying189 sz219 ((RdIn.drop 2 r_b) _ HS).2.2.1 c60.1 c60.2 rfl (GO.ldRdA (T := T_GEnd) (n := x37.toNat) HS (RdIn.drop 2 r_b) rfl rfl (getD_eq (ltN c60) h62) ag219 rfl (GO.alloc HS rfl zr219 rfl rfl fun b63 wd64 HS => GO.assign rfl rfl rfl (GO.stBox (j := 0) (vs := [.int .i64 e61.crossing, .int .i64 e61.position]) ([.int .i64 e61.crossing, .int .i64 e61.position]) HS rfl rfl rfl rfl rfl (htA ag219) rfl rfl rfl fun wd65 HS => GO.nil ?_)))))
      obtain ⟨c66, H⟩ := ite_none H
      obtain ⟨e67, h68, H⟩ := bnd_elim H
      obtain ⟨t69, h70, H⟩ := Option.bind_eq_some_iff.1 H
      obtain ⟨c71, H⟩ := ite_none H
      refine G.lex mixed [0, 1, 3, 5, 2, 4, 6, 7, 8, 9] (by kernel_rfl) ?_
      replace HS := HS.drew
      refine GX.ps 1 rfl (GX.l0 rfl rfl (fun _ _ g => GO.fld (⟨b63, 0, none⟩) rfl rfl fl219_0 rfl rfl g) rfl (GX.l0 rfl rfl (fun _ _ g => GO.fld (⟨b3, 1, none⟩) rfl rfl fl191_1 rfl rfl g) rfl (GX.ps 1 rfl (GX.l1 rfl rfl rfl (fun _ g => GO.ldBox (j := 0) HS rfl rfl rfl rfl na2 rfl g) rfl (GX.l1 rfl rfl rfl (fun _ g => GO.ldBox (j := 1) HS rfl rfl rfl rfl na189 rfl g) rfl (GX.l0 rfl rfl (fun _ _ g => GO.ix rfl rfl rfl underlying189 sz219 ((RdIn.drop 3 r_c) _ HS).2.2.1 c66.1 c66.2 rfl g) rfl (GX.l0 rfl rfl (fun _ _ g => GO.fld (ea A_c (x37.toNat * 2)) rfl rfl fl219_0 rfl rfl g) rfl (GX.l1 rfl rfl rfl (fun _ g => GO.ldRd (T := T_GEnd) (n := x37.toNat) (o := 0) HS (RdIn.drop 3 r_c) rfl rfl (getD_eq (ltN c66) h68) rfl rfl na2 rfl g) rfl (GX.l2 rfl ?_)))))))))
      replace HS := HS.pk 3 [2, 0, 1] rfl
      refine GO.fn rfl func204 fok204.1 fok204.2 rfl rfl (impl_union.calls HS  h70) (fun _ wd72 ⟨h73, HS⟩ => ⟨_, h73, (GX.fin trivial (GX.nil (G.len (t := 5) (m := t69.length) rfl (by simp only [List.length_set, c71] <;> rfl) (G.run 3 rfl (G.weak ?_ (ih_l1 n_l1 (Nat.lt_succ_of_le (Nat.le_refl _)) (Nat.le_of_succ_le hm_l1) _ _ _ H (HS.pk 3 [2, 0] rfl)))))))⟩)
      exact ⟨rfl, rfl, rfl, rfl, rfl, trivial⟩
     refine G.noB rfl (decide_eq_false c59) (G.run 2 rfl ?_)
     obtain ⟨t74, h75, H⟩ := Option.bind_eq_some_iff.1 H
     refine G.region (GO.move rfl rfl rfl (GO.fn rfl func205 fok205.1 fok205.2 rfl rfl (impl_numbered.calls HS (RdIn.own (j := 1) rfl) h75) (fun _ wd78 ⟨A76, c77, h79, HS⟩ => ⟨_, h79, (GO.assign rfl rfl rfl (GO.nil ?_))⟩)))
     obtain rfl := Option.some.inj H
     exact G.ret1 _ func188 rfl rfl ⟨_, _, rfl, (HS.pk 3 [0] rfl)⟩
  refine G.weak ?_ (at_l1 K (Nat.le_refl _) _ _ _ H (HS.pk 3 [1, 0] rfl))
  exact ⟨rfl, rfl, rfl, rfl, rfl, trivial⟩
theorem slices_Max_int64_int64.calls {w0 w : World} {L : List HObj} {K : Nat} {x : List Int} {A_a : Option Addr} {c_a : Nat} {r1 : Int} (HS : St w0 w (L)) (r_a : RdIn w0 L (TInt .i64) A_a c_a (fun _ => ()) x) (H : slices_Max_int64_int64.f K x = some r1) :
    Calls prog 202 #[.slice A_a x.length c_a] w (slices_Max_int64_int64.post w0 L r1) := by
  unfold slices_Max_int64_int64.f at H
  refine Calls.of_G func202 rfl rfl rfl ?_
  refine G.run 4 rfl (G.region (GO.move rfl rfl rfl (GO.lenS rfl rfl underlying41 rfl (GO.lss rfl rfl rfl rfl (GO.nil ?_)))))
  rcases ite_elim H with ⟨c2, H⟩ | ⟨c2, H⟩
  ·
   refine G.yesB rfl (decide_eq_true c2) ?_
   cases H
  refine G.noB rfl (decide_eq_false c2) (G.run 2 rfl ?_)
  obtain ⟨c3, H⟩ := ite_none H
  refine G.region (GO.move rfl rfl rfl (GO.ix rfl rfl rfl underlying41 sz2 (r_a _ HS).2.2.1 c3.1 c3.2 rfl (GO.ldRd (T := (TInt .i64)) (n := 0) (o := 0) HS r_a rfl rfl (getD_some (d := 0) (ltN c3)) rfl rfl na2 rfl (GO.assign rfl rfl rfl (GO.nil (G.run 5 rfl ?_))))))
  refine G.name (fun k_l2 hk_l2 => ?_)
  have at_l2 : ∀ m_l2, m_l2 ≤ K → ∀ (m_6 i_7 : Int) (w : World), slices_Max_int64_int64.l2 K m_l2 x m_6 i_7 = some r1 → St w0 w (L) → G prog 202 25 [(0, .slice A_a x.length c_a), (3, .int .i64 m_6), (4, .int .i64 i_7)] k_l2 w (slices_Max_int64_int64.post w0 L r1) := by
   intro m_l2
   induction m_l2 using Nat.strongRecOn with
   | _ m_l2 ih_l2 =>
    intro hm_l2 m_6 i_7 w H HS
    cases m_l2 with
    | zero => rw [slices_Max_int64_int64.l2] at H; cases H
    | succ n_l2 =>
     rw [slices_Max_int64_int64.l2] at H
     subst hk_l2
     refine G.run 2 rfl (G.region (GO.ps 2 rfl (GO.lenS rfl rfl underlying41 rfl (GO.lss rfl rfl rfl rfl (GO.nil ?_)))))
     rcases ite_elim H with ⟨c10, H⟩ | ⟨c10, H⟩
     ·
      refine G.yesB rfl (decide_eq_true c10) (G.run 3 rfl ?_)
      obtain ⟨c11, H⟩ := ite_none H
      refine G.region (GO.ps 3 rfl (GO.ix rfl rfl rfl underlying41 sz2 (r_a _ HS).2.2.1 c11.1 c11.2 rfl (GO.ldRd (T := (TInt .i64)) (n := i_7.toNat) (o := 0) HS r_a rfl rfl (getD_some (d := 0) (ltN c11)) rfl rfl na2 rfl (GO.max2 rfl rfl rfl rfl (GO.assign rfl rfl rfl (GO.nil (G.run 3 rfl (G.weak ?_ (ih_l2 n_l2 (Nat.lt_succ_of_le (Nat.le_refl _)) (Nat.le_of_succ_le hm_l2) _ _ _ H HS)))))))))
      exact ⟨rfl, rfl, rfl, trivial⟩
     refine G.noB rfl (decide_eq_false c10) (G.run 3 rfl ?_)
     obtain rfl := Option.some.inj H
     exact G.ret1 _ func202 rfl rfl ⟨rfl, HS⟩
  refine G.weak ?_ (at_l2 K (Nat.le_refl _) _ _ _ H HS)
  exact ⟨rfl, rfl, rfl, trivial⟩
theorem impl_classCount.calls {w0 w : World} {L : List HObj} {K : Nat} {classes : List Int} {A_a : Option Addr} {c_a : Nat} {r1 : Int} (HS : St w0 w (L)) (r_a : RdIn w0 L (TInt .i64) A_a c_a (fun _ => ()) classes) (H : impl_classCount.f K classes = some r1) :
    Calls prog 187 #[.slice A_a classes.length c_a] w (impl_classCount.post w0 L r1) := by
  unfold impl_classCount.f at H
  refine Calls.of_G func187 rfl rfl rfl ?_
  refine G.run 4 rfl (G.region (GO.move rfl rfl rfl (GO.lenS rfl rfl underlying41 rfl (GO.eql rfl rfl rfl rfl (GO.nil ?_)))))
  rcases ite_elim H with ⟨c1, H⟩ | ⟨c1, H⟩
  ·
   refine G.yesB rfl (decide_eq_true c1) (G.run 2 rfl ?_)
   obtain rfl := Option.some.inj H
   exact G.ret1 _ func187 rfl rfl ⟨rfl, HS⟩
  refine G.noB rfl (decide_eq_false c1) (G.run 2 rfl ?_)
  obtain ⟨t2, h3, H⟩ := Option.bind_eq_some_iff.1 H
  refine G.region (GO.move rfl rfl rfl (GO.fn rfl func202 fok202.1 fok202.2 rfl rfl (slices_Max_int64_int64.calls HS r_a h3) (fun _ wd4 ⟨h5, HS⟩ => ⟨_, h5, (GO.ps 2 rfl (GO.nil ?_))⟩)))
  obtain rfl := Option.some.inj H
  exact G.ret1 _ func187 rfl rfl ⟨rfl, HS⟩
theorem impl_Diagram_drawing.calls {w0 w : World} {L : List HObj} {K : Nat} {d_Crossings : List GCrossing} {d_Circles : Int} {A_a : Option Addr} {c_a : Nat} {r1 r2 : List GEnd} {r3 : Bool} (HS : St w0 w (L)) (r_a : RdIn w0 L T_GCrossing A_a c_a (fun _ => ()) d_Crossings) (H : impl_Diagram_drawing.f K d_Crossings d_Circles = some (r1, r2, r3)) :
    Calls prog 163 #[.agg [.slice A_a d_Crossings.length c_a, .int .i64 d_Circles].toArray] w (impl_Diagram_drawing.post w0 L r1 r2 r3) := by
  unfold impl_Diagram_drawing.f at H
  refine Calls.of_G func163 rfl rfl rfl ?_
  refine G.seq (G.region (GO.box (cs := [.slice A_a d_Crossings.length c_a, .int .i64 d_Circles]) HS rfl rfl rfl rfl fun b1 wd2 HS => GO.alloc HS rfl zr191 rfl rfl fun b3 wd4 HS => GO.assign rfl rfl rfl (GO.nil (G.seq ?_))))
  obtain ⟨t5, h6, H⟩ := Option.bind_eq_some_iff.1 H
  refine G.region (GO.fld (⟨b1, 0, none⟩) rfl rfl fl40_0 rfl rfl (GO.ldBox (j := 1) HS rfl rfl rfl rfl na38 rfl (GO.fn rfl func181 fok181.1 fok181.2 rfl rfl (impl_size_impl_Crossing.calls HS (RdIn.drop 2 r_a) h6) (fun _ wd7 ⟨h8, HS⟩ => ⟨_, h8, (GO.assign rfl rfl rfl (GO.nil (G.run 2 rfl ?_)))⟩))))
  rcases ite_elim H with ⟨c19, H⟩ | ⟨c19, H⟩
  ·
   refine G.region (GO.ps 3 rfl (GO.known (t := 12) rfl (decide_eq_true c19) (GO.off rfl rfl rfl rfl rfl rfl (GO.off rfl rfl rfl rfl rfl rfl (GO.off rfl rfl rfl rfl rfl rfl (GO.off rfl rfl rfl rfl rfl rfl (GO.ps 2 rfl (GO.off rfl rfl rfl rfl rfl rfl (GO.off rfl rfl rfl rfl rfl rfl (GO.off rfl rfl rfl rfl rfl rfl (GO.pickT rfl rfl rfl rfl rfl (GO.nil (G.run 2 rfl (G.region ?_))))))))))))))
   refine GO.buildV (.agg [.slice none 0 0, .slice none 0 0].toArray) rfl rfl (fun _ => by kernel_rfl) rfl (GO.stBox (j := 0) (vs := [.slice none 0 0, .slice none 0 0]) ([.slice none 0 0, .slice none 0 0]) HS rfl rfl rfl rfl rfl (htA ag191) rfl rfl rfl fun wd20 HS => GO.assign rfl rfl rfl (GO.nil ?_))
   replace HS := HS.nilRow T_GEnd 219 (fun _ => ())
   replace HS := HS.nilRow T_GEnd 219 (fun _ => ())
   obtain ⟨rfl, rfl, rfl⟩ := some3 H
   exact G.ret2 _ _ func163 rfl (Res1.boxA (j := 2) (vs := [.slice none 0 0, .slice none 0 0]) HS rfl rfl rfl ag191) rfl ⟨_, _, _, _, rfl, (HS.pk 4 [1, 0] rfl)⟩
  obtain ⟨t21, h22, H⟩ := Option.bind_eq_some_iff.1 H
  rcases ite_elim H with ⟨c25, H⟩ | ⟨c25, H⟩
  ·
   obtain ⟨t26, h27, H⟩ := Option.bind_eq_some_iff.1 H
   refine G.region (GO.ps 3 rfl (GO.known (t := 12) rfl (decide_eq_false c19) (GO.on rfl rfl rfl rfl (GO.fld (⟨b1, 1, none⟩) rfl rfl fl40_1 rfl rfl (GO.back (GO.on rfl rfl rfl rfl (GO.ldBox (j := 1) HS rfl rfl rfl rfl na2 rfl (GO.back (GO.on rfl rfl rfl rfl (GO.fn rfl func136 fok136.1 fok136.2 rfl rfl (impl_inRange.calls HS  h22) (fun _ wd23 ⟨h24, HS⟩ => ⟨_, h24, (GO.back (GO.on rfl rfl rfl rfl (GO.not rfl rfl rfl (GO.back ?_))))⟩)))))))))))
   refine GO.ps 2 rfl (GO.known (t := 18) rfl (congrArg Bool.not c25) (GO.on rfl rfl rfl rfl (GO.fld (⟨b1, 0, none⟩) rfl rfl fl40_0 rfl rfl (GO.back (GO.on rfl rfl rfl rfl (GO.ldBox (j := 1) HS rfl rfl rfl rfl na38 rfl (GO.back (GO.on rfl rfl rfl rfl (GO.fn rfl func182 fok182.1 fok182.2 rfl rfl (slices_ContainsFunc_impl_Crossing_impl_Crossing_109.calls HS (RdIn.drop 2 r_a) h27) (fun _ wd28 ⟨h29, HS⟩ => ⟨_, h29, (GO.back (GO.pickF rfl rfl rfl rfl rfl (GO.nil ?_)))⟩))))))))))
   rcases ite_elim H with ⟨c30, H⟩ | ⟨c30, H⟩
   ·
    refine G.yesB rfl c30 (G.seq (G.region (GO.buildV (.agg [.slice none 0 0, .slice none 0 0].toArray) rfl rfl (fun _ => by kernel_rfl) rfl (GO.stBox (j := 0) (vs := [.slice none 0 0, .slice none 0 0]) ([.slice none 0 0, .slice none 0 0]) HS rfl rfl rfl rfl rfl (htA ag191) rfl rfl rfl fun wd31 HS => GO.assign rfl rfl rfl (GO.nil ?_)))))
    replace HS := HS.nilRow T_GEnd 219 (fun _ => ())
    replace HS := HS.nilRow T_GEnd 219 (fun _ => ())
    obtain ⟨rfl, rfl, rfl⟩ := some3 H
    exact G.ret2 _ _ func163 rfl (Res1.boxA (j := 2) (vs := [.slice none 0 0, .slice none 0 0]) HS rfl rfl rfl ag191) rfl ⟨_, _, _, _, rfl, (HS.pk 4 [1, 0] rfl)⟩
   refine G.noB rfl (bnot_of c30) (G.run 2 rfl ?_)
   obtain ⟨t32, t33, t34, h35, H⟩ := bind3_elim H
   refine G.region (GO.ldBoxA (j := 1) ([.slice A_a d_Crossings.length c_a, .int .i64 d_Circles]) HS rfl rfl rfl rfl ag40 rfl (GO.fn rfl func184 fok184.1 fok184.2 rfl rfl (impl_Diagram_arrows.calls HS (RdIn.drop 2 r_a) h35) (fun _ wd40 ⟨A36, c37, A38, c39, h41, HS⟩ => ⟨_, h41, (GO.ps 3 rfl (GO.alloc HS rfl zr191 rfl rfl fun b42 wd43 HS => GO.stBox (j := 0) (vs := [.slice A36 t32.length c37, .slice A38 t33.length c39]) ([.slice A36 t32.length c37, .slice A38 t33.length c39]) HS rfl rfl rfl rfl rfl (htA ag191) rfl rfl rfl fun wd44 HS => GO.assign rfl rfl rfl (GO.nil (G.run 2 rfl ?_))))⟩)))
   rcases ite_elim H with ⟨c67, H⟩ | ⟨c67, H⟩
   ·
    obtain ⟨t68, h69, H⟩ := Option.bind_eq_some_iff.1 H
    obtain ⟨t75, h76, H⟩ := Option.bind_eq_some_iff.1 H
    obtain ⟨t79, h80, H⟩ := Option.bind_eq_some_iff.1 H
    obtain ⟨t85, h86, H⟩ := Option.bind_eq_some_iff.1 H
    refine G.lexS mixed (fun w => St w0 w (Box b42 191 [.slice A36 t32.length c37, .slice A38 t33.length c39] :: Box b1 40 [.slice A_a d_Crossings.length c_a, .int .i64 d_Circles] :: L)) [3, 4, 8, 9] [0, 1, 2, 7, 3, 4, 8, 9, 5, 6, 10, 11, 12, 13, 14, 15] 16 (by kernel_rfl) (by kernel_rfl) (HS.drew.pk 5 [0, 4] rfl) ?_
    replace HS := HS.drew
    refine GX.ps 2 rfl (GX.l0 rfl rfl (fun _ _ g => GO.move rfl rfl rfl (GO.known (t := 31) rfl (congrArg Bool.not c67) g)) rfl (GX.l0 rfl rfl (fun _ _ g => GO.on rfl rfl rfl rfl (GO.move rfl rfl rfl (GO.back g))) rfl (GX.ls rfl rfl rfl (HS.pk 5 [0, 4] rfl) (fun _ HS _ g => GO.on rfl rfl rfl rfl (GO.ldBoxA (j := 1) ([.slice A_a d_Crossings.length c_a, .int .i64 d_Circles]) HS rfl rfl rfl rfl ag40 rfl (GO.back g))) rfl (GX.ls rfl rfl rfl (HS.pk 5 [0, 4] rfl) (fun _ HS _ g => GO.on rfl rfl rfl rfl (GO.ldBoxA (j := 0) ([.slice A36 t32.length c37, .slice A38 t33.length c39]) HS rfl rfl rfl rfl ag191 rfl (GO.back g))) rfl (GX.ls rfl rfl rfl (HS.pk 5 [0, 4] rfl) (fun _ HS _ g => GO.on rfl rfl rfl rfl (GO.ldBoxA (j := 1) ([.slice A_a d_Crossings.length c_a, .int .i64 d_Circles]) HS rfl rfl rfl rfl ag40 rfl (GO.back g))) rfl (GX.ls rfl rfl rfl (HS.pk 5 [0, 4] rfl) (fun _ HS _ g => GO.on rfl rfl rfl rfl (GO.ldBoxA (j := 0) ([.slice A36 t32.length c37, .slice A38 t33.length c39]) HS rfl rfl rfl rfl ag191 rfl (GO.back g))) rfl (GX.l2 rfl (GO.on rfl rfl rfl rfl (GO.fn rfl func186 fok186.1 fok186.2 rfl rfl (impl_Diagram_regions.calls HS (RdIn.drop 5 r_a) (RdIn.own (j := 1) rfl) (RdIn.own (j := 2) rfl) h69) (fun _ wd73 ⟨A70, c71, y72, h74, HS⟩ => ⟨_, h74, (GO.back (GX.fin (HS.pk 6 [1, 5] rfl) (GX.l2 rfl (GO.on rfl rfl rfl rfl (GO.fn rfl func185 fok185.1 fok185.2 rfl rfl (impl_size_int64.calls HS (RdIn.own (j := 0) rfl) h76) (fun _ wd77 ⟨h78, HS⟩ => ⟨_, h78, ?_⟩))))))⟩))))))))))
    refine GO.back (GX.fin (HS.pk 6 [1, 5] rfl) (GX.l2 rfl (GO.on rfl rfl rfl rfl (GO.fn rfl func188 fok188.1 fok188.2 rfl rfl (impl_Diagram_parts.calls HS (RdIn.drop 6 r_a) (RdIn.own (j := 2) rfl) (RdIn.own (j := 3) rfl) h80) (fun _ wd83 ⟨A81, c82, h84, HS⟩ => ⟨_, h84, (GO.back (GX.fin (HS.pk 7 [2, 6] rfl) (GX.l2 rfl (GO.on rfl rfl rfl rfl (GO.fn rfl func187 fok187.1 fok187.2 rfl rfl (impl_classCount.calls HS (RdIn.own (j := 0) rfl) h86) (fun _ wd87 ⟨h88, HS⟩ => ⟨_, h88, (GO.back (GX.fin (HS.pk 7 [2, 6] rfl) (GX.l0 rfl rfl (fun _ _ g => GO.on rfl rfl rfl rfl (GO.mul rfl rfl rfl rfl (GO.back g))) rfl (GX.l0 rfl rfl (fun _ _ g => GO.on rfl rfl rfl rfl (GO.add rfl rfl rfl rfl (GO.back g))) rfl (GX.l0 rfl rfl (fun _ _ g => GO.on rfl rfl rfl rfl (GO.neq rfl rfl rfl rfl (GO.back g))) rfl ?_)))))⟩))))))⟩)))))
    refine GX.ps 1 rfl (GX.nil ?_)
    rcases ite_elim H with ⟨c89, H⟩ | ⟨c89, H⟩
    ·
     refine G.noB rfl (congrArg Bool.not (decide_eq_true c89)) (G.run 2 rfl (G.region (GO.ldBoxA (j := 2) ([.slice A36 t32.length c37, .slice A38 t33.length c39]) HS rfl rfl rfl rfl ag191 rfl (GO.stBox (j := 5) (vs := [.slice A36 t32.length c37, .slice A38 t33.length c39]) ([.slice A36 t32.length c37, .slice A38 t33.length c39]) HS rfl rfl rfl rfl rfl (htA ag191) rfl rfl rfl fun wd90 HS => GO.assign rfl rfl rfl (GO.nil ?_)))))
     obtain ⟨rfl, rfl, rfl⟩ := some3 H
     exact G.ret2 _ _ func163 rfl (Res1.boxA (j := 5) (vs := [.slice A36 t32.length c37, .slice A38 t33.length c39]) HS rfl rfl rfl ag191) rfl ⟨_, _, _, _, rfl, (HS.pk 7 [3, 4] rfl)⟩
    refine G.yesB rfl (congrArg Bool.not (decide_eq_false c89)) (G.seq (G.region (GO.buildV (.agg [.slice none 0 0, .slice none 0 0].toArray) rfl rfl (fun _ => by kernel_rfl) rfl (GO.stBox (j := 5) (vs := [.slice none 0 0, .slice none 0 0]) ([.slice none 0 0, .slice none 0 0]) HS rfl rfl rfl rfl rfl (htA ag191) rfl rfl rfl fun wd91 HS => GO.assign rfl rfl rfl (GO.nil ?_)))))
    replace HS := HS.nilRow T_GEnd 219 (fun _ => ())
    replace HS := HS.nilRow T_GEnd 219 (fun _ => ())
    obtain ⟨rfl, rfl, rfl⟩ := some3 H
    exact G.ret2 _ _ func163 rfl (Res1.boxA (j := 7) (vs := [.slice none 0 0, .slice none 0 0]) HS rfl rfl rfl ag191) rfl ⟨_, _, _, _, rfl, (HS.pk 9 [1, 0] rfl)⟩
   refine G.lexS mixed (fun w => St w0 w (L)) [3, 4, 8, 9] [0, 1, 2, 7, 3, 4, 8, 9, 5, 6, 10, 11, 12, 13, 14, 15] 16 (by kernel_rfl) (by kernel_rfl) (HS.drew.pk 5 [] rfl) ?_
   replace HS := HS.drew
   refine GX.ps 2 rfl (GX.l0 rfl rfl (fun _ _ g => GO.move rfl rfl rfl (GO.known (t := 31) rfl (congrArg Bool.not (bnot_of c67)) g)) rfl (GX.l0 rfl rfl (fun _ _ g => GO.off rfl rfl rfl rfl rfl rfl g) rfl (GX.ls rfl rfl rfl (HS.pk 5 [] rfl) (fun _ HS _ g => GO.off rfl rfl rfl rfl rfl rfl g) rfl (GX.ls rfl rfl rfl (HS.pk 5 [] rfl) (fun _ HS _ g => GO.off rfl rfl rfl rfl rfl rfl g) rfl (GX.ls rfl rfl rfl (HS.pk 5 [] rfl) (fun _ HS _ g => GO.off rfl rfl rfl rfl rfl rfl g) rfl (GX.ls rfl rfl rfl (HS.pk 5 [] rfl) (fun _ HS _ g => GO.off rfl rfl rfl rfl rfl rfl g) rfl (GX.l2 rfl (GO.off rfl rfl rfl rfl rfl rfl (GX.fin (HS.pk 5 [] rfl) (GX.l2 rfl (GO.off rfl rfl rfl rfl rfl rfl (GX.fin (HS.pk 5 [] rfl) (GX.l2 rfl (GO.off rfl rfl rfl rfl rfl rfl ?_))))))))))))))
   refine GX.fin (HS.pk 5 [] rfl) (GX.l2 rfl (GO.off rfl rfl rfl rfl rfl rfl (GX.fin (HS.pk 5 [] rfl) (GX.l0 rfl rfl (fun _ _ g => GO.off rfl rfl rfl rfl rfl rfl g) rfl (GX.l0 rfl rfl (fun _ _ g => GO.off rfl rfl rfl rfl rfl rfl g) rfl (GX.l0 rfl rfl (fun _ _ g => GO.off rfl rfl rfl rfl rfl rfl g) rfl (GX.ps 1 rfl (GX.nil (G.run 2 rfl (G.region (GO.buildV (.agg [.slice none 0 0, .slice none 0 0].toArray) rfl rfl (fun _ => by kernel_rfl) rfl (GO.stBox (j := 3) (vs := [.slice none 0 0, .slice none 0 0]) ([.slice none 0 0, .slice none 0 0]) HS rfl rfl rfl rfl rfl (htA ag191) rfl rfl rfl fun wd92 HS => GO.assign rfl rfl rfl (GO.nil ?_)))))))))))))
   replace HS := HS.nilRow T_GEnd 219 (fun _ => ())
   replace HS := HS.nilRow T_GEnd 219 (fun _ => ())
   obtain ⟨rfl, rfl, rfl⟩ := some3 H
   exact G.ret2 _ _ func163 rfl (Res1.boxA (j := 5) (vs := [.slice none 0 0, .slice none 0 0]) HS rfl rfl rfl ag191) rfl ⟨_, _, _, _, rfl, (HS.pk 7 [1, 0] rfl)⟩
  refine G.region (GO.ps 3 rfl (GO.known (t := 12) rfl (decide_eq_false c19) (GO.on rfl rfl rfl rfl (GO.fld (⟨b1, 1, none⟩) rfl rfl fl40_1 rfl rfl (GO.back (GO.on rfl rfl rfl rfl (GO.ldBox (j := 1) HS rfl rfl rfl rfl na2 rfl (GO.back (GO.on rfl rfl rfl rfl (GO.fn rfl func136 fok136.1 fok136.2 rfl rfl (impl_inRange.calls HS  h22) (fun _ wd23 ⟨h24, HS⟩ => ⟨_, h24, (GO.back (GO.on rfl rfl rfl rfl (GO.not rfl rfl rfl (GO.back ?_))))⟩)))))))))))
  refine GO.ps 2 rfl (GO.known (t := 18) rfl (congrArg Bool.not (bnot_of c25)) (GO.off rfl rfl rfl rfl rfl rfl (GO.off rfl rfl rfl rfl rfl rfl (GO.off rfl rfl rfl rfl rfl rfl (GO.pickT rfl rfl rfl rfl rfl (GO.nil (G.run 2 rfl (G.region (GO.buildV (.agg [.slice none 0 0, .slice none 0 0].toArray) rfl rfl (fun _ => by kernel_rfl) rfl (GO.stBox (j := 0) (vs := [.slice none 0 0, .slice none 0 0]) ([.slice none 0 0, .slice none 0 0]) HS rfl rfl rfl rfl rfl (htA ag191) rfl rfl rfl fun wd93 HS => GO.assign rfl rfl rfl (GO.nil ?_)))))))))))
  replace HS := HS.nilRow T_GEnd 219 (fun _ => ())
  replace HS := HS.nilRow T_GEnd 219 (fun _ => ())
  obtain ⟨rfl, rfl, rfl⟩ := some3 H
  exact G.ret2 _ _ func163 rfl (Res1.boxA (j := 2) (vs := [.slice none 0 0, .slice none 0 0]) HS rfl rfl rfl ag191) rfl ⟨_, _, _, _, rfl, (HS.pk 4 [1, 0] rfl)⟩
theorem impl_isDiagram.calls {w0 w : World} {L : List HObj} {K : Nat} {d_Crossings : List GCrossing} {d_Circles : Int} {A_a : Option Addr} {c_a : Nat} {r1 : Bool} (HS : St w0 w (L)) (r_a : RdIn w0 L T_GCrossing A_a c_a (fun _ => ()) d_Crossings) (H : impl_isDiagram.f K d_Crossings d_Circles = some r1) :
    Calls prog 139 #[.agg [.slice A_a d_Crossings.length c_a, .int .i64 d_Circles].toArray] w (impl_isDiagram.post w0 L r1) := by
  unfold impl_isDiagram.f at H
  refine Calls.of_G func139 rfl rfl rfl ?_
  refine G.seq (G.region (GO.box (cs := [.slice A_a d_Crossings.length c_a, .int .i64 d_Circles]) HS rfl rfl rfl rfl fun b1 wd2 HS => GO.assign rfl rfl rfl (GO.nil (G.seq ?_))))
  obtain ⟨t3, t4, t5, h6, H⟩ := bind3_elim H
  refine G.region (GO.ldBoxA (j := 0) ([.slice A_a d_Crossings.length c_a, .int .i64 d_Circles]) HS rfl rfl rfl rfl ag40 rfl (GO.fn rfl func163 fok163.1 fok163.2 rfl rfl (impl_Diagram_drawing.calls HS (RdIn.drop 1 r_a) h6) (fun _ wd11 ⟨A7, c8, A9, c10, h12, HS⟩ => ⟨_, h12, (GO.ps 3 rfl (GO.alloc HS rfl zr191 rfl rfl fun b13 wd14 HS => GO.stBox (j := 0) (vs := [.slice A7 t3.length c8, .slice A9 t4.length c10]) ([.slice A7 t3.length c8, .slice A9 t4.length c10]) HS rfl rfl rfl rfl rfl (htA ag191) rfl rfl rfl fun wd15 HS => GO.assign rfl rfl rfl (GO.nil (G.run 2 rfl ?_))))⟩)))
  obtain rfl := Option.some.inj H
  exact G.ret1 _ func139 rfl rfl ⟨rfl, (HS.pk 4 [] rfl)⟩
theorem impl_isLetter.calls {w0 w : World} {L : List HObj} {strands letter : Int} {r1 : Bool} (HS : St w0 w (L)) (H : impl_isLetter.f strands letter = some r1) :
    Calls prog 166 #[.int .i64 strands, .int .i64 letter] w (impl_isLetter.post w0 L r1) := by
  unfold impl_isLetter.f at H
  refine Calls.of_G func166 rfl rfl rfl ?_
  refine G.run 3 rfl ?_
  rcases ite_elim H with ⟨c1, H⟩ | ⟨c1, H⟩
  ·
   refine G.region (GO.ps 3 rfl (GO.known (t := 7) rfl (congrArg Bool.not (decide_eq_true c1)) (GO.off rfl rfl rfl rfl rfl rfl (GO.off rfl rfl rfl rfl rfl rfl (GO.off rfl rfl rfl rfl rfl rfl (GO.off rfl rfl rfl rfl rfl rfl (GO.off rfl rfl rfl rfl rfl rfl (GO.off rfl rfl rfl rfl rfl rfl (GO.ps 2 rfl (GO.nil ?_))))))))))
   obtain rfl := Option.some.inj H
   exact G.ret1 _ func166 rfl rfl ⟨rfl, HS⟩
  obtain ⟨t2, h3, H⟩ := Option.bind_eq_some_iff.1 H
  refine G.region (GO.ps 3 rfl (GO.known (t := 7) rfl (congrArg Bool.not (decide_eq_false c1)) (GO.on rfl rfl rfl rfl (GO.move rfl rfl rfl (GO.back (GO.on rfl rfl rfl rfl (GO.move rfl rfl rfl (GO.back (GO.on rfl rfl rfl rfl (GO.sub rfl rfl rfl rfl (GO.back (GO.on rfl rfl rfl rfl (GO.move rfl rfl rfl (GO.back ?_))))))))))))))
  refine GO.on rfl rfl rfl rfl (GO.sub rfl rfl rfl rfl (GO.back (GO.on rfl rfl rfl rfl (GO.fn rfl func136 fok136.1 fok136.2 rfl rfl (impl_inRange.calls HS  h3) (fun _ wd4 ⟨h5, HS⟩ => ⟨_, h5, (GO.back (GO.ps 2 rfl (GO.nil ?_)))⟩)))))
  obtain rfl := Option.some.inj H
  exact G.ret1 _ func166 rfl rfl ⟨rfl, HS⟩
theorem impl_isBraid_fn1_free.calls {w0 w : World} {L : List HObj} {x v0_Strands : Int} {v0_Word : List Int} {b_v0 : Nat} {A_a : Option Addr} {c_a : Nat} {r1 : Bool} (HS : St w0 w (Box b_v0 43 [.int .i64 v0_Strands, .slice A_a v0_Word.length c_a] :: L)) (r_a : RdIn w0 L (TInt .i64) A_a c_a (fun _ => ()) v0_Word) (H : impl_isBraid_fn1_free.f x v0_Strands v0_Word = some r1) :
    Calls prog 165 #[.int .i64 x, .pointer (some ⟨b_v0, 0, none⟩)] w (impl_isBraid_fn1_free.post w0 L v0_Strands v0_Word b_v0 A_a c_a r1) := by
  unfold impl_isBraid_fn1_free.f at H
  refine Calls.of_G func165 rfl rfl rfl ?_
  refine G.run 3 rfl ?_
  obtain ⟨t1, h2, H⟩ := Option.bind_eq_some_iff.1 H
  refine G.region (GO.fld (⟨b_v0, 0, none⟩) rfl rfl fl43_0 rfl rfl (GO.ldBox (j := 0) HS rfl rfl rfl rfl na2 rfl (GO.move rfl rfl rfl (GO.fn rfl func166 fok166.1 fok166.2 rfl rfl (impl_isLetter.calls HS  h2) (fun _ wd3 ⟨h4, HS⟩ => ⟨_, h4, (GO.ps 2 rfl (GO.nil ?_))⟩)))))
  obtain rfl := Option.some.inj H
  exact G.ret1 _ func165 rfl rfl ⟨rfl, HS⟩
theorem slices_IndexFunc_int64_int64_isBraid_fn1.calls {w0 w : World} {L : List HObj} {K : Nat} {s : List Int} {cap_Strands : Int} {cap_Word : List Int} {A_a : Option Addr} {c_a b_cap : Nat} {A_b : Option Addr} {c_b : Nat} {r1 : Int} (HS : St w0 w (Box b_cap 43 [.int .i64 cap_Strands, .slice A_b cap_Word.length c_b] :: L)) (r_a : RdIn w0 L (TInt .i64) A_a c_a (fun _ => ()) s) (r_b : RdIn w0 L (TInt .i64) A_b c_b (fun _ => ()) cap_Word) (H : slices_IndexFunc_int64_int64_isBraid_fn1.f K s cap_Strands cap_Word = some r1) :
    Calls prog 189 #[.slice A_a s.length c_a, .func (.func 165) #[] #[.pointer (some ⟨b_cap, 0, none⟩)]] w (slices_IndexFunc_int64_int64_isBraid_fn1.post w0 L cap_Strands cap_Word b_cap A_b c_b r1) := by
  unfold slices_IndexFunc_int64_int64_isBraid_fn1.f at H
  refine Calls.of_G func189 rfl rfl rfl ?_
  refine G.run 4 rfl (G.region (GO.move rfl rfl rfl (GO.lenS rfl rfl underlying41 rfl (GO.move rfl rfl rfl (GO.nil (G.run 2 rfl ?_))))))
  refine G.name (fun k_l1 hk_l1 => ?_)
  have at_l1 : ∀ m_l1, m_l1 ≤ K → ∀ (x8 : Int) (w : World), slices_IndexFunc_int64_int64_isBraid_fn1.l1 K m_l1 s cap_Strands cap_Word x8 = some r1 → St w0 w (Box b_cap 43 [.int .i64 cap_Strands, .slice A_b cap_Word.length c_b] :: L) → G prog 189 19 [(0, .slice A_a s.length c_a), (1, .func (.func 165) #[] #[.pointer (some ⟨b_cap, 0, none⟩)]), (7, .int .i64 (s.length : Int)), (8, .int .i64 x8)] k_l1 w (slices_IndexFunc_int64_int64_isBraid_fn1.post w0 L cap_Strands cap_Word b_cap A_b c_b r1) := by
   intro m_l1
   induction m_l1 using Nat.strongRecOn with
   | _ m_l1 ih_l1 =>
    intro hm_l1 x8 w H HS
    cases m_l1 with
    | zero => rw [slices_IndexFunc_int64_int64_isBraid_fn1.l1] at H; cases H
    | succ n_l1 =>
     rw [slices_IndexFunc_int64_int64_isBraid_fn1.l1] at H
     subst hk_l1
     refine G.run 3 rfl ?_
     rcases ite_elim H with ⟨c16, H⟩ | ⟨c16, H⟩
     ·
      refine G.yesB rfl (decide_eq_true c16) (G.run 6 rfl ?_)
      obtain ⟨c17, H⟩ := ite_none H
      obtain ⟨t18, h19, H⟩ := Option.bind_eq_some_iff.1 H
      refine G.region (GO.ps 3 rfl (GO.ix rfl rfl rfl underlying41 sz2 ((RdIn.drop 1 r_a) _ HS).2.2.1 c17.1 c17.2 rfl (GO.ldRd (T := (TInt .i64)) (n := x8.toNat) (o := 0) HS (RdIn.drop 1 r_a) rfl rfl (getD_some (d := 0) (ltN c17)) rfl rfl na2 rfl ?_)))
      replace HS := HS.pk 1 [0] rfl
      refine GO.clo rfl rfl func165 fok165.1 fok165.2 rfl rfl (impl_isBraid_fn1_free.calls HS r_b h19) (fun _ wd20 ⟨h21, HS⟩ => ⟨_, h21, (GO.nil ?_)⟩)
      rcases ite_elim H with ⟨c22, H⟩ | ⟨c22, H⟩
      ·
       refine G.yesB rfl c22 (G.run 2 rfl ?_)
       obtain rfl := Option.some.inj H
       exact G.ret1 _ func189 rfl rfl ⟨rfl, HS⟩
      refine G.noB rfl (bnot_of c22) (G.run 4 rfl (G.weak ?_ (ih_l1 n_l1 (Nat.lt_succ_of_le (Nat.le_refl _)) (Nat.le_of_succ_le hm_l1) _ _ H HS)))
      exact ⟨rfl, rfl, rfl, rfl, trivial⟩
     refine G.noB rfl (decide_eq_false c16) (G.run 3 rfl ?_)
     obtain rfl := Option.some.inj H
     exact G.ret1 _ func189 rfl rfl ⟨rfl, HS⟩
  refine G.weak ?_ (at_l1 K (Nat.le_refl _) _ _ H HS)
  exact ⟨rfl, rfl, rfl, rfl, trivial⟩
theorem slices_ContainsFunc_int64_int64_isBraid_fn1.calls {w0 w : World} {L : List HObj} {K : Nat} {s : List Int} {cap_Strands : Int} {cap_Word : List Int} {A_a : Option Addr} {c_a b_cap : Nat} {A_b : Option Addr} {c_b : Nat} {r1 : Bool} (HS : St w0 w (Box b_cap 43 [.int .i64 cap_Strands, .slice A_b cap_Word.length c_b] :: L)) (r_a : RdIn w0 L (TInt .i64) A_a c_a (fun _ => ()) s) (r_b : RdIn w0 L (TInt .i64) A_b c_b (fun _ => ()) cap_Word) (H : slices_ContainsFunc_int64_int64_isBraid_fn1.f K s cap_Strands cap_Word = some r1) :
    Calls prog 164 #[.slice A_a s.length c_a, .func (.func 165) #[] #[.pointer (some ⟨b_cap, 0, none⟩)]] w (slices_ContainsFunc_int64_int64_isBraid_fn1.post w0 L cap_Strands cap_Word b_cap A_b c_b r1) := by
  unfold slices_ContainsFunc_int64_int64_isBraid_fn1.f at H
  refine Calls.of_G func164 rfl rfl rfl ?_
  refine G.run 3 rfl ?_
  obtain ⟨t1, h2, H⟩ := Option.bind_eq_some_iff.1 H
  refine G.region (GO.ps 2 rfl ?_)
  replace HS := HS.pk 1 [0] rfl
  refine GO.fn rfl func189 fok189.1 fok189.2 rfl rfl (slices_IndexFunc_int64_int64_isBraid_fn1.calls HS r_a r_b h2) (fun _ wd3 ⟨h4, HS⟩ => ⟨_, h4, (GO.ps 2 rfl (GO.nil ?_))⟩)
  obtain rfl := Option.some.inj H
  exact G.ret1 _ func164 rfl rfl ⟨rfl, HS⟩
theorem impl_isBraid.calls {w0 w : World} {L : List HObj} {K : Nat} {b_Strands : Int} {b_Word : List Int} {A_a : Option Addr} {c_a : Nat} {r1 : Bool} (HS : St w0 w (L)) (r_a : RdIn w0 L (TInt .i64) A_a c_a (fun _ => ()) b_Word) (H : impl_isBraid.f K b_Strands b_Word = some r1) :
    Calls prog 140 #[.agg [.int .i64 b_Strands, .slice A_a b_Word.length c_a].toArray] w (impl_isBraid.post w0 L r1) := by
  unfold impl_isBraid.f at H
  refine Calls.of_G func140 rfl rfl rfl ?_
  refine G.seq (G.region (GO.box (cs := [.int .i64 b_Strands, .slice A_a b_Word.length c_a]) HS rfl rfl rfl rfl fun b1 wd2 HS => GO.assign rfl rfl rfl (GO.nil (G.seq ?_))))
  obtain ⟨t3, h4, H⟩ := Option.bind_eq_some_iff.1 H
  rcases ite_elim H with ⟨c7, H⟩ | ⟨c7, H⟩
  ·
   rcases ite_elim H with ⟨c8, H⟩ | ⟨c8, H⟩
   ·
    obtain ⟨t9, h10, H⟩ := Option.bind_eq_some_iff.1 H
    refine G.region (GO.fld (⟨b1, 0, none⟩) rfl rfl fl43_0 rfl rfl (GO.ldBox (j := 0) HS rfl rfl rfl rfl na2 rfl (GO.fn rfl func136 fok136.1 fok136.2 rfl rfl (impl_inRange.calls HS  h4) (fun _ wd5 ⟨h6, HS⟩ => ⟨_, h6, (GO.move rfl rfl rfl (GO.known (t := 6) rfl c7 (GO.on rfl rfl rfl rfl (GO.fld (⟨b1, 1, none⟩) rfl rfl fl43_1 rfl rfl (GO.back (GO.on rfl rfl rfl rfl (GO.ldBox (j := 0) HS rfl rfl rfl rfl na41 rfl (GO.back (GO.on rfl rfl rfl rfl (GO.lenS rfl rfl underlying41 rfl (GO.back ?_)))))))))))⟩))))
    refine GO.on rfl rfl rfl rfl (GO.leq rfl rfl rfl rfl (GO.back (GO.ps 2 rfl (GO.known (t := 12) rfl (decide_eq_true c8) (GO.on rfl rfl rfl rfl (GO.fld (⟨b1, 1, none⟩) rfl rfl fl43_1 rfl rfl (GO.back (GO.on rfl rfl rfl rfl (GO.ldBox (j := 0) HS rfl rfl rfl rfl na41 rfl (GO.back (GO.on rfl rfl rfl rfl (GO.mkFunc rfl rfl rfl rfl (GO.back (GO.on rfl rfl rfl rfl ?_))))))))))))))
    replace HS := HS.pk 1 [0] rfl
    refine GO.fn rfl func164 fok164.1 fok164.2 rfl rfl (slices_ContainsFunc_int64_int64_isBraid_fn1.calls HS r_a r_a h10) (fun _ wd11 ⟨h12, HS⟩ => ⟨_, h12, (GO.back (GO.on rfl rfl rfl rfl (GO.not rfl rfl rfl (GO.back (GO.ps 2 rfl (GO.nil ?_))))))⟩)
    obtain rfl := Option.some.inj H
    exact G.ret1 _ func140 rfl rfl ⟨rfl, (HS.pk 1 [] rfl)⟩
   refine G.region (GO.fld (⟨b1, 0, none⟩) rfl rfl fl43_0 rfl rfl (GO.ldBox (j := 0) HS rfl rfl rfl rfl na2 rfl (GO.fn rfl func136 fok136.1 fok136.2 rfl rfl (impl_inRange.calls HS  h4) (fun _ wd5 ⟨h6, HS⟩ => ⟨_, h6, (GO.move rfl rfl rfl (GO.known (t := 6) rfl c7 (GO.on rfl rfl rfl rfl (GO.fld (⟨b1, 1, none⟩) rfl rfl fl43_1 rfl rfl (GO.back (GO.on rfl rfl rfl rfl (GO.ldBox (j := 0) HS rfl rfl rfl rfl na41 rfl (GO.back (GO.on rfl rfl rfl rfl (GO.lenS rfl rfl underlying41 rfl (GO.back ?_)))))))))))⟩))))
   refine GO.on rfl rfl rfl rfl (GO.leq rfl rfl rfl rfl (GO.back (GO.ps 2 rfl (GO.known (t := 12) rfl (decide_eq_false c8) (GO.off rfl rfl rfl rfl rfl rfl (GO.off rfl rfl rfl rfl rfl rfl (GO.off rfl rfl rfl rfl rfl rfl (GO.off rfl rfl rfl rfl rfl rfl (GO.off rfl rfl rfl rfl rfl rfl (GO.ps 2 rfl (GO.nil ?_)))))))))))
   obtain rfl := Option.some.inj H
   exact G.ret1 _ func140 rfl rfl ⟨rfl, (HS.pk 1 [] rfl)⟩
  refine G.region (GO.fld (⟨b1, 0, none⟩) rfl rfl fl43_0 rfl rfl (GO.ldBox (j := 0) HS rfl rfl rfl rfl na2 rfl (GO.fn rfl func136 fok136.1 fok136.2 rfl rfl (impl_inRange.calls HS  h4) (fun _ wd5 ⟨h6, HS⟩ => ⟨_, h6, (GO.move rfl rfl rfl (GO.known (t := 6) rfl (bnot_of c7) (GO.off rfl rfl rfl rfl rfl rfl (GO.off rfl rfl rfl rfl rfl rfl (GO.off rfl rfl rfl rfl rfl rfl (GO.off rfl rfl rfl rfl rfl rfl (GO.ps 2 rfl (GO.off rfl rfl rfl rfl rfl rfl (GO.off rfl rfl rfl rfl rfl rfl (GO.off rfl rfl rfl rfl rfl rfl (GO.off rfl rfl rfl rfl rfl rfl ?_)))))))))))⟩))))
  refine GO.off rfl rfl rfl rfl rfl rfl (GO.ps 2 rfl (GO.nil ?_))
  obtain rfl := Option.some.inj H
  exact G.ret1 _ func140 rfl rfl ⟨rfl, (HS.pk 1 [] rfl)⟩
theorem impl_isName.calls {w0 w : World} {L : List HObj} {name : Int} {r1 : Bool} (HS : St w0 w (L)) (H : impl_isName.f name = some r1) :
    Calls prog 167 #[.int .i64 name] w (impl_isName.post w0 L r1) := by
  unfold impl_isName.f at H
  refine Calls.of_G func167 rfl rfl rfl ?_
  refine G.run 3 rfl ?_
  obtain ⟨t1, h2, H⟩ := Option.bind_eq_some_iff.1 H
  refine G.region (GO.move rfl rfl rfl (GO.fn rfl func136 fok136.1 fok136.2 rfl rfl (impl_inRange.calls HS  h2) (fun _ wd3 ⟨h4, HS⟩ => ⟨_, h4, (GO.assign rfl rfl rfl (GO.nil ?_))⟩)))
  obtain rfl := Option.some.inj H
  exact G.ret1 _ func167 rfl rfl ⟨rfl, HS⟩
theorem impl_indices.calls {w0 w : World} {L : List HObj} {K : Nat} {kind r1 : Int} (HS : St w0 w (L)) (H : impl_indices.f K kind = some r1) :
    Calls prog 191 #[.int .i64 kind] w (impl_indices.post w0 L r1) := by
  unfold impl_indices.f at H
  refine Calls.of_G func191 rfl rfl rfl ?_
  refine G.run 9 rfl ?_
  refine G.nameT (fun k_j1 hk_j1 => ?_)
  have at_j1 : ∀ m_j1, m_j1 ≤ K → ∀ (x2 : Bool) (w : World), impl_indices.j1 K m_j1 kind x2 = some r1 → St w0 w (L) → G prog 191 11 [(3, .int .i64 kind), (4, .bool x2)] k_j1 w (impl_indices.post w0 L r1) := by
   intro m_j1 hm_j1 x2 w H HS
   cases m_j1 with
   | zero => rw [impl_indices.j1] at H; cases H
   | succ n_j1 =>
    rw [impl_indices.j1] at H
    subst hk_j1
    rcases ite_elim H with ⟨c3, H⟩ | ⟨c3, H⟩
    ·
     refine G.yesB rfl c3 (G.run 2 rfl ?_)
     obtain rfl := Option.some.inj H
     exact G.ret1 _ func191 rfl rfl ⟨rfl, HS⟩
    refine G.noB rfl (bnot_of c3) (G.run 2 rfl ?_)
    rcases ite_elim H with ⟨c4, H⟩ | ⟨c4, H⟩
    ·
     refine G.yesB rfl (decide_eq_true c4) (G.run 2 rfl ?_)
     obtain rfl := Option.some.inj H
     exact G.ret1 _ func191 rfl rfl ⟨rfl, HS⟩
    refine G.noB rfl (decide_eq_false c4) (G.run 2 rfl ?_)
    rcases ite_elim H with ⟨c5, H⟩ | ⟨c5, H⟩
    ·
     refine G.yesB rfl (decide_eq_true c5) (G.run 2 rfl ?_)
     obtain rfl := Option.some.inj H
     exact G.ret1 _ func191 rfl rfl ⟨rfl, HS⟩
    refine G.noB rfl (decide_eq_false c5) (G.run 4 rfl ?_)
    obtain rfl := Option.some.inj H
    exact G.ret1 _ func191 rfl rfl ⟨rfl, HS⟩
  rcases ite_elim H with ⟨c6, H⟩ | ⟨c6, H⟩
  ·
   refine G.yesB rfl (decide_eq_true c6) (G.skip (G.weak ?_ (at_j1 K (Nat.le_refl _) _ _ H HS)))
   exact ⟨rfl, rfl, trivial⟩
  refine G.noB rfl (decide_eq_false c6) (G.run 1 rfl (G.weak ?_ (at_j1 K (Nat.le_refl _) _ _ H HS)))
  exact ⟨rfl, rfl, trivial⟩
theorem internal_strconv_small.calls {w0 w : World} {L : List HObj} {i : Int} {r1 : ByteArray} (HS : St w0 w (L)) (H : internal_strconv_small.f i = some r1) :
    Calls prog 214 #[.int .i64 i] w (internal_strconv_small.post w0 L r1) := by
  unfold internal_strconv_small.f at H
  refine Calls.of_G func214 rfl rfl rfl ?_
  refine G.run 5 rfl ?_
  rcases ite_elim H with ⟨c1, H⟩ | ⟨c1, H⟩
  ·
   refine G.yesB rfl (decide_eq_true c1) (G.seq ?_)
   obtain ⟨c2, H⟩ := ite_none H
   obtain ⟨c3, H⟩ := ite_none H
   refine G.region (GO.ps 3 rfl (GO.cutLH rfl rfl rfl rfl underlying9 c2 c3 rfl (GO.assign rfl rfl rfl (GO.nil ?_))))
   obtain rfl := Option.some.inj H
   exact G.ret1 _ func214 rfl rfl ⟨rfl, HS⟩
  refine G.noB rfl (decide_eq_false c1) (G.run 2 rfl ?_)
  obtain ⟨c4, H⟩ := ite_none H
  obtain ⟨c5, H⟩ := ite_none H
  refine G.region (GO.ps 5 rfl (GO.cutLH rfl rfl rfl rfl underlying9 c4 c5 rfl (GO.assign rfl rfl rfl (GO.nil ?_))))
  obtain rfl := Option.some.inj H
  exact G.ret1 _ func214 rfl rfl ⟨rfl, HS⟩
theorem internal_strconv_FormatInt.calls {w0 w : World} {L : List HObj} {K : Nat} {i base : Int} {r1 : ByteArray} (HS : St w0 w (L)) (H : internal_strconv_FormatInt.f K i base = some r1) :
    Calls prog 211 #[.int .i64 i, .int .i64 base] w (internal_strconv_FormatInt.post w0 L r1) := by
  unfold internal_strconv_FormatInt.f at H
  refine Calls.of_G func211 rfl rfl rfl ?_
  refine G.run 5 rfl ?_
  rcases ite_elim H with ⟨c1, H⟩ | ⟨c1, H⟩
  ·
   refine G.yesB rfl (decide_eq_true c1) (G.run 2 rfl ?_)
   refine G.nameT (fun k_j1 hk_j1 => ?_)
   have at_j1 : ∀ m_j1, m_j1 ≤ K → ∀ (x4 : Bool) (w : World), internal_strconv_FormatInt.j1 K m_j1 i x4 = some r1 → St w0 w (L) → G prog 211 54 [(0, .int .i64 i), (17, .bool x4)] k_j1 w (internal_strconv_FormatInt.post w0 L r1) := by
    intro m_j1 hm_j1 x4 w H HS
    cases m_j1 with
    | zero => rw [internal_strconv_FormatInt.j1] at H; cases H
    | succ n_j1 =>
     rw [internal_strconv_FormatInt.j1] at H
     subst hk_j1
     rcases ite_elim H with ⟨c5, H⟩ | ⟨c5, H⟩
     ·
      refine G.yesB rfl c5 (G.seq ?_)
      obtain ⟨t6, h7, H⟩ := Option.bind_eq_some_iff.1 H
      refine G.region (GO.move rfl rfl rfl (GO.fn rfl func214 fok214.1 fok214.2 rfl rfl (internal_strconv_small.calls HS  h7) (fun _ wd8 ⟨h9, HS⟩ => ⟨_, h9, (GO.assign rfl rfl rfl (GO.nil ?_))⟩)))
      obtain rfl := Option.some.inj H
      exact G.ret1 _ func211 rfl rfl ⟨rfl, HS⟩
     refine G.noB rfl (bnot_of c5) (G.run 2 rfl (G.region (GO.alloc HS rfl zr238 rfl rfl fun b10 wd11 HS => GO.nil (G.seq (G.region (GO.move rfl rfl rfl (GO.conv rfl rfl underlying2 underlying235 rfl (GO.assign rfl rfl rfl (GO.nil (G.run 3 rfl ?_))))))))))
     refine G.nameT (fun k_j2 hk_j2 => ?_)
     have at_j2 : ∀ m_j2, m_j2 ≤ n_j1 → ∀ (u_13 : Int) (w : World), internal_strconv_FormatInt.j2 K m_j2 u_13 = some r1 → St w0 w (Box b10 238 [.int .u8 0, .int .u8 0, .int .u8 0, .int .u8 0, .int .u8 0, .int .u8 0, .int .u8 0, .int .u8 0, .int .u8 0, .int .u8 0, .int .u8 0, .int .u8 0, .int .u8 0, .int .u8 0, .int .u8 0, .int .u8 0, .int .u8 0, .int .u8 0, .int .u8 0, .int .u8 0, .int .u8 0, .int .u8 0, .int .u8 0, .int .u8 0] :: L) → G prog 211 54 [(0, .int .i64 i), (5, .pointer (some ⟨b10, 0, none⟩)), (6, .int .u64 u_13)] k_j2 w (internal_strconv_FormatInt.post w0 L r1) := by
      intro m_j2 hm_j2 u_13 w H HS
      cases m_j2 with
      | zero => rw [internal_strconv_FormatInt.j2] at H; cases H
      | succ n_j2 =>
       rw [internal_strconv_FormatInt.j2] at H
       subst hk_j2
       refine G.seq ?_
       cases H
     rcases ite_elim H with ⟨c14, H⟩ | ⟨c14, H⟩
     ·
      refine G.yesB rfl (decide_eq_true c14) (G.region (GO.move rfl rfl rfl (GO.neg rfl rfl rfl (GO.assign rfl rfl rfl (GO.nil (G.weak ?_ (at_j2 n_j1 (Nat.le_refl _) _ _ H HS)))))))
      exact ⟨rfl, rfl, rfl, trivial⟩
     refine G.noB rfl (decide_eq_false c14) (G.skip (G.weak ?_ (at_j2 n_j1 (Nat.le_refl _) _ _ H HS)))
     exact ⟨rfl, rfl, rfl, trivial⟩
   rcases ite_elim H with ⟨c15, H⟩ | ⟨c15, H⟩
   ·
    refine G.region (GO.ps 3 rfl (GO.known (t := 14) rfl (decide_eq_true c15) (GO.on rfl rfl rfl rfl (GO.move rfl rfl rfl (GO.back (GO.on rfl rfl rfl rfl (GO.lss rfl rfl rfl rfl (GO.back (GO.pickT rfl rfl rfl rfl rfl (GO.nil (G.weak ?_ (at_j1 K (Nat.le_refl _) _ _ H HS))))))))))))
    exact ⟨rfl, rfl, trivial⟩
   refine G.region (GO.ps 3 rfl (GO.known (t := 14) rfl (decide_eq_false c15) (GO.off rfl rfl rfl rfl rfl rfl (GO.off rfl rfl rfl rfl rfl rfl (GO.pickF rfl rfl rfl rfl rfl (GO.nil (G.weak ?_ (at_j1 K (Nat.le_refl _) _ _ H HS))))))))
   exact ⟨rfl, rfl, trivial⟩
  refine G.noB rfl (decide_eq_false c1) (G.run 2 rfl ?_)
  cases H
theorem strconv_FormatInt.calls {w0 w : World} {L : List HObj} {K : Nat} {i base : Int} {r1 : ByteArray} (HS : St w0 w (L)) (H : strconv_FormatInt.f K i base = some r1) :
    Calls prog 206 #[.int .i64 i, .int .i64 base] w (strconv_FormatInt.post w0 L r1) := by
  unfold strconv_FormatInt.f at H
  refine Calls.of_G func206 rfl rfl rfl ?_
  refine G.run 3 rfl ?_
  obtain ⟨t1, h2, H⟩ := Option.bind_eq_some_iff.1 H
  refine G.region (GO.ps 2 rfl (GO.fn rfl func211 fok211.1 fok211.2 rfl rfl (internal_strconv_FormatInt.calls HS  h2) (fun _ wd3 ⟨h4, HS⟩ => ⟨_, h4, (GO.assign rfl rfl rfl (GO.nil ?_))⟩)))
  obtain rfl := Option.some.inj H
  exact G.ret1 _ func206 rfl rfl ⟨rfl, HS⟩
theorem impl_decimal.calls {w0 w : World} {L : List HObj} {K : Nat} {n_ : Int} {r1 : ByteArray} (HS : St w0 w (L)) (H : impl_decimal.f K n_ = some r1) :
    Calls prog 192 #[.int .i64 n_] w (impl_decimal.post w0 L r1) := by
  unfold impl_decimal.f at H
  refine Calls.of_G func192 rfl rfl rfl ?_
  refine G.run 3 rfl ?_
  obtain ⟨t1, h2, H⟩ := Option.bind_eq_some_iff.1 H
  refine G.region (GO.move rfl rfl rfl (GO.fn rfl func206 fok206.1 fok206.2 rfl rfl (strconv_FormatInt.calls HS  h2) (fun _ wd3 ⟨h4, HS⟩ => ⟨_, h4, (GO.assign rfl rfl rfl (GO.nil ?_))⟩)))
  obtain rfl := Option.some.inj H
  exact G.ret1 _ func192 rfl rfl ⟨rfl, HS⟩
theorem impl_MoveText.calls {w0 w : World} {L : List HObj} {K : Nat} {m_Kind m_Tet m_Index : Int} {r1 : ByteArray} (HS : St w0 w (L)) (H : impl_MoveText.f K m_Kind m_Tet m_Index = some r1) :
    Calls prog 170 #[.agg [.int .i64 m_Kind, .int .i64 m_Tet, .int .i64 m_Index].toArray] w (impl_MoveText.post w0 L r1) := by
  unfold impl_MoveText.f at H
  refine Calls.of_G func170 rfl rfl rfl ?_
  refine G.seq (G.region (GO.box (cs := [.int .i64 m_Kind, .int .i64 m_Tet, .int .i64 m_Index]) HS rfl rfl rfl rfl fun b1 wd2 HS => GO.assign rfl rfl rfl (GO.nil (G.run 2 rfl ?_))))
  obtain ⟨t16, h17, H⟩ := Option.bind_eq_some_iff.1 H
  rcases ite_elim H with ⟨c20, H⟩ | ⟨c20, H⟩
  ·
   obtain ⟨t21, h22, H⟩ := Option.bind_eq_some_iff.1 H
   obtain ⟨t25, h26, H⟩ := Option.bind_eq_some_iff.1 H
   refine G.lexS mixed (fun w => St w0 w (Box b1 110 [.int .i64 m_Kind, .int .i64 m_Tet, .int .i64 m_Index] :: L)) [1, 6, 8] [0, 1, 2, 3, 4, 5, 7, 6, 8, 9, 10, 11, 12, 13] 14 (by kernel_rfl) (by kernel_rfl) HS.drew ?_
   replace HS := HS.drew
   refine GX.l0 rfl rfl (fun _ _ g => GO.fld (⟨b1, 1, none⟩) rfl rfl fl110_1 rfl rfl g) rfl (GX.ls rfl rfl rfl HS (fun _ HS _ g => GO.ldBox (j := 0) HS rfl rfl rfl rfl na2 rfl g) rfl (GX.l2 rfl (GO.fn rfl func136 fok136.1 fok136.2 rfl rfl (impl_inRange.calls HS  h17) (fun _ wd18 ⟨h19, HS⟩ => ⟨_, h19, (GX.fin HS (GX.ps 1 rfl (GX.l0 rfl rfl (fun _ _ g => GO.move rfl rfl rfl (GO.known (t := 7) rfl (congrArg Bool.not c20) g)) rfl (GX.l0 rfl rfl (fun _ _ g => GO.on rfl rfl rfl rfl (GO.fld (⟨b1, 2, none⟩) rfl rfl fl110_2 rfl rfl (GO.back g))) rfl (GX.l0 rfl rfl (fun _ _ g => GO.on rfl rfl rfl rfl (GO.fld (⟨b1, 0, none⟩) rfl rfl fl110_0 rfl rfl (GO.back g))) rfl (GX.ls rfl rfl rfl HS (fun _ HS _ g => GO.on rfl rfl rfl rfl (GO.ldBox (j := 0) HS rfl rfl rfl rfl na2 rfl (GO.back g))) rfl (GX.ls rfl rfl rfl HS (fun _ HS _ g => GO.on rfl rfl rfl rfl (GO.ldBox (j := 0) HS rfl rfl rfl rfl na2 rfl (GO.back g))) rfl (GX.l2 rfl (GO.on rfl rfl rfl rfl (GO.fn rfl func191 fok191.1 fok191.2 rfl rfl (impl_indices.calls HS  h22) (fun _ wd23 ⟨h24, HS⟩ => ⟨_, h24, (GO.back ?_)⟩)))))))))))⟩))))
   refine GX.fin HS (GX.l0 rfl rfl (fun _ _ g => GO.on rfl rfl rfl rfl (GO.sub rfl rfl rfl rfl (GO.back g))) rfl (GX.l2 rfl (GO.on rfl rfl rfl rfl (GO.fn rfl func136 fok136.1 fok136.2 rfl rfl (impl_inRange.calls HS  h26) (fun _ wd27 ⟨h28, HS⟩ => ⟨_, h28, (GO.back (GX.fin HS (GX.l0 rfl rfl (fun _ _ g => GO.on rfl rfl rfl rfl (GO.not rfl rfl rfl (GO.back g))) rfl (GX.ps 1 rfl (GX.nil ?_)))))⟩)))))
   rcases ite_elim H with ⟨c29, H⟩ | ⟨c29, H⟩
   ·
    refine G.noB rfl (congrArg Bool.not c29) (G.run 2 rfl ?_)
    obtain ⟨c30, H⟩ := ite_none H
    obtain ⟨c31, H⟩ := ite_none H
    obtain ⟨c32, H⟩ := ite_none H
    obtain ⟨t33, h34, H⟩ := Option.bind_eq_some_iff.1 H
    obtain ⟨c37, H⟩ := ite_none H
    obtain ⟨c38, H⟩ := ite_none H
    obtain ⟨t39, h40, H⟩ := Option.bind_eq_some_iff.1 H
    obtain ⟨c43, H⟩ := ite_none H
    refine G.lexS mixed (fun w => St w0 w (Box b1 110 [.int .i64 m_Kind, .int .i64 m_Tet, .int .i64 m_Index] :: L)) [1, 5, 7, 10, 15] [0, 4, 9, 14, 1, 2, 3, 5, 6, 7, 8, 10, 15, 11, 12, 13, 16, 17, 18] 19 (by kernel_rfl) (by kernel_rfl) HS.drew ?_
    replace HS := HS.drew
    refine GX.l0 rfl rfl (fun _ _ g => GO.fld (⟨b1, 0, none⟩) rfl rfl fl110_0 rfl rfl g) rfl (GX.l0 rfl rfl (fun _ _ g => GO.fld (⟨b1, 0, none⟩) rfl rfl fl110_0 rfl rfl g) rfl (GX.l0 rfl rfl (fun _ _ g => GO.fld (⟨b1, 1, none⟩) rfl rfl fl110_1 rfl rfl g) rfl (GX.l0 rfl rfl (fun _ _ g => GO.fld (⟨b1, 2, none⟩) rfl rfl fl110_2 rfl rfl g) rfl (GX.ls rfl rfl rfl HS (fun _ HS _ g => GO.ldBox (j := 0) HS rfl rfl rfl rfl na2 rfl g) rfl (GX.ps 2 rfl (GX.ls rfl rfl rfl HS (fun _ HS _ g => GO.ldBox (j := 0) HS rfl rfl rfl rfl na2 rfl g) rfl (GX.ps 1 rfl (GX.ls rfl rfl rfl HS (fun _ HS _ g => GO.cutLH rfl rfl rfl rfl underlying9 c30 c31 rfl g) rfl (GX.l0 rfl rfl (fun _ _ g => GO.catS rfl rfl rfl c32 rfl g) rfl (GX.ls rfl rfl rfl HS (fun _ HS _ g => GO.ldBox (j := 0) HS rfl rfl rfl rfl na2 rfl g) rfl (GX.ls rfl rfl rfl HS (fun _ HS _ g => GO.ldBox (j := 0) HS rfl rfl rfl rfl na2 rfl g) rfl (GX.l2 rfl (GO.fn rfl func192 fok192.1 fok192.2 rfl rfl (impl_decimal.calls HS  h34) (fun _ wd35 ⟨h36, HS⟩ => ⟨_, h36, (GX.fin HS ?_)⟩))))))))))))))
    refine GX.l0 rfl rfl (fun _ _ g => GO.catS rfl rfl rfl c37 rfl g) rfl (GX.l0 rfl rfl (fun _ _ g => GO.catS rfl rfl rfl c38 rfl g) rfl (GX.l2 rfl (GO.fn rfl func192 fok192.1 fok192.2 rfl rfl (impl_decimal.calls HS  h40) (fun _ wd41 ⟨h42, HS⟩ => ⟨_, h42, (GX.fin HS (GX.l0 rfl rfl (fun _ _ g => GO.catS rfl rfl rfl c43 rfl g) rfl (GX.ps 1 rfl (GX.nil ?_))))⟩))))
    obtain rfl := Option.some.inj H
    exact G.ret1 _ func170 rfl rfl ⟨rfl, (HS.pk 1 [] rfl)⟩
   refine G.yesB rfl (congrArg Bool.not (bnot_of c29)) (G.run 2 rfl ?_)
   obtain rfl := Option.some.inj H
   exact G.ret1 _ func170 rfl rfl ⟨rfl, (HS.pk 1 [] rfl)⟩
  refine G.lexS mixed (fun w => St w0 w (Box b1 110 [.int .i64 m_Kind, .int .i64 m_Tet, .int .i64 m_Index] :: L)) [1, 6, 8] [0, 1, 2, 3, 4, 5, 7, 6, 8, 9, 10, 11, 12, 13] 14 (by kernel_rfl) (by kernel_rfl) HS.drew ?_
  replace HS := HS.drew
  refine GX.l0 rfl rfl (fun _ _ g => GO.fld (⟨b1, 1, none⟩) rfl rfl fl110_1 rfl rfl g) rfl (GX.ls rfl rfl rfl HS (fun _ HS _ g => GO.ldBox (j := 0) HS rfl rfl rfl rfl na2 rfl g) rfl (GX.l2 rfl (GO.fn rfl func136 fok136.1 fok136.2 rfl rfl (impl_inRange.calls HS  h17) (fun _ wd18 ⟨h19, HS⟩ => ⟨_, h19, (GX.fin HS (GX.ps 1 rfl (GX.l0 rfl rfl (fun _ _ g => GO.move rfl rfl rfl (GO.known (t := 7) rfl (congrArg Bool.not (bnot_of c20)) g)) rfl (GX.l0 rfl rfl (fun _ _ g => GO.off rfl rfl rfl rfl rfl rfl g) rfl (GX.l0 rfl rfl (fun _ _ g => GO.off rfl rfl rfl rfl rfl rfl g) rfl (GX.ls rfl rfl rfl HS (fun _ HS _ g => GO.off rfl rfl rfl rfl rfl rfl g) rfl (GX.ls rfl rfl rfl HS (fun _ HS _ g => GO.off rfl rfl rfl rfl rfl rfl g) rfl (GX.l2 rfl (GO.off rfl rfl rfl rfl rfl rfl (GX.fin HS (GX.l0 rfl rfl (fun _ _ g => GO.off rfl rfl rfl rfl rfl rfl g) rfl ?_)))))))))))⟩))))
  refine GX.l2 rfl (GO.off rfl rfl rfl rfl rfl rfl (GX.fin HS (GX.l0 rfl rfl (fun _ _ g => GO.off rfl rfl rfl rfl rfl rfl g) rfl (GX.ps 1 rfl (GX.nil (G.run 3 rfl ?_))))))
  obtain rfl := Option.some.inj H
  exact G.ret1 _ func170 rfl rfl ⟨rfl, (HS.pk 1 [] rfl)⟩
theorem impl_isPlain_fn1.calls {w0 w : World} {L : List HObj} {K : Nat} {m_Kind m_Tet m_Index : Int} {r1 : Bool} (HS : St w0 w (L)) (H : impl_isPlain_fn1.f K m_Kind m_Tet m_Index = some r1) :
    Calls prog 169 #[.agg [.int .i64 m_Kind, .int .i64 m_Tet, .int .i64 m_Index].toArray] w (impl_isPlain_fn1.post w0 L r1) := by
  unfold impl_isPlain_fn1.f at H
  refine Calls.of_G func169 rfl rfl rfl ?_
  refine G.seq (G.region (GO.box (cs := [.int .i64 m_Kind, .int .i64 m_Tet, .int .i64 m_Index]) HS rfl rfl rfl rfl fun b1 wd2 HS => GO.assign rfl rfl rfl (GO.nil (G.seq ?_))))
  obtain ⟨t3, h4, H⟩ := Option.bind_eq_some_iff.1 H
  refine G.region (GO.ldBoxA (j := 0) ([.int .i64 m_Kind, .int .i64 m_Tet, .int .i64 m_Index]) HS rfl rfl rfl rfl ag110 rfl (GO.fn rfl func170 fok170.1 fok170.2 rfl rfl (impl_MoveText.calls HS  h4) (fun _ wd5 ⟨h6, HS⟩ => ⟨_, h6, (GO.eqlS rfl rfl rfl rfl (GO.assign rfl rfl rfl (GO.nil ?_)))⟩)))
  obtain rfl := Option.some.inj H
  exact G.ret1 _ func169 rfl rfl ⟨rfl, (HS.pk 1 [] rfl)⟩
theorem slices_IndexFunc_impl_Move_impl_Move_isPlain_fn1.calls {w0 w : World} {L : List HObj} {K : Nat} {s : List GMove} {A_a : Option Addr} {c_a : Nat} {r1 : Int} (HS : St w0 w (L)) (r_a : RdIn w0 L T_GMove A_a c_a (fun _ => ()) s) (H : slices_IndexFunc_impl_Move_impl_Move_isPlain_fn1.f K s = some r1) :
    Calls prog 190 #[.slice A_a s.length c_a, .func (.func 169) #[] #[]] w (slices_IndexFunc_impl_Move_impl_Move_isPlain_fn1.post w0 L r1) := by
  unfold slices_IndexFunc_impl_Move_impl_Move_isPlain_fn1.f at H
  refine Calls.of_G func190 rfl rfl rfl ?_
  refine G.run 4 rfl (G.region (GO.move rfl rfl rfl (GO.lenS rfl rfl underlying44 rfl (GO.move rfl rfl rfl (GO.nil (G.run 2 rfl ?_))))))
  refine G.name (fun k_l1 hk_l1 => ?_)
  have at_l1 : ∀ m_l1, m_l1 ≤ K → ∀ (x10 : Int) (w : World), slices_IndexFunc_impl_Move_impl_Move_isPlain_fn1.l1 K m_l1 s x10 = some r1 → St w0 w (L) → G prog 190 19 [(0, .slice A_a s.length c_a), (1, .func (.func 169) #[] #[]), (7, .int .i64 (s.length : Int)), (8, .int .i64 x10)] k_l1 w (slices_IndexFunc_impl_Move_impl_Move_isPlain_fn1.post w0 L r1) := by
   intro m_l1
   induction m_l1 using Nat.strongRecOn with
   | _ m_l1 ih_l1 =>
    intro hm_l1 x10 w H HS
    cases m_l1 with
    | zero => rw [slices_IndexFunc_impl_Move_impl_Move_isPlain_fn1.l1] at H; cases H
    | succ n_l1 =>
     rw [slices_IndexFunc_impl_Move_impl_Move_isPlain_fn1.l1] at H
     subst hk_l1
     refine G.run 3 rfl ?_
     rcases ite_elim H with ⟨c20, H⟩ | ⟨c20, H⟩
     ·
      refine G.yesB rfl (decide_eq_true c20) (G.run 6 rfl ?_)
      obtain ⟨c21, H⟩ := ite_none H
      obtain ⟨e22, h23, H⟩ := bnd_elim H
      obtain ⟨t24, h25, H⟩ := Option.bind_eq_some_iff.1 H
      refine G.region (GO.ps 3 rfl (GO.ix rfl rfl rfl underlying44 sz110 (r_a _ HS).2.2.1 c21.1 c21.2 rfl (GO.ldRdA (T := T_GMove) (n := x10.toNat) HS r_a rfl rfl (getD_eq (ltN c21) h23) ag110 rfl (GO.clo rfl rfl func169 fok169.1 fok169.2 rfl rfl (impl_isPlain_fn1.calls HS  h25) (fun _ wd26 ⟨h27, HS⟩ => ⟨_, h27, (GO.nil ?_)⟩)))))
      rcases ite_elim H with ⟨c28, H⟩ | ⟨c28, H⟩
      ·
       refine G.yesB rfl c28 (G.run 2 rfl ?_)
       obtain rfl := Option.some.inj H
       exact G.ret1 _ func190 rfl rfl ⟨rfl, HS⟩
      refine G.noB rfl (bnot_of c28) (G.run 4 rfl (G.weak ?_ (ih_l1 n_l1 (Nat.lt_succ_of_le (Nat.le_refl _)) (Nat.le_of_succ_le hm_l1) _ _ H HS)))
      exact ⟨rfl, rfl, rfl, rfl, trivial⟩
     refine G.noB rfl (decide_eq_false c20) (G.run 3 rfl ?_)
     obtain rfl := Option.some.inj H
     exact G.ret1 _ func190 rfl rfl ⟨rfl, HS⟩
  refine G.weak ?_ (at_l1 K (Nat.le_refl _) _ _ H HS)
  exact ⟨rfl, rfl, rfl, rfl, trivial⟩
theorem slices_ContainsFunc_impl_Move_impl_Move_isPlain_fn1.calls {w0 w : World} {L : List HObj} {K : Nat} {s : List GMove} {A_a : Option Addr} {c_a : Nat} {r1 : Bool} (HS : St w0 w (L)) (r_a : RdIn w0 L T_GMove A_a c_a (fun _ => ()) s) (H : slices_ContainsFunc_impl_Move_impl_Move_isPlain_fn1.f K s = some r1) :
    Calls prog 168 #[.slice A_a s.length c_a, .func (.func 169) #[] #[]] w (slices_ContainsFunc_impl_Move_impl_Move_isPlain_fn1.post w0 L r1) := by
  unfold slices_ContainsFunc_impl_Move_impl_Move_isPlain_fn1.f at H
  refine Calls.of_G func168 rfl rfl rfl ?_
  refine G.run 3 rfl ?_
  obtain ⟨t1, h2, H⟩ := Option.bind_eq_some_iff.1 H
  refine G.region (GO.ps 2 rfl (GO.fn rfl func190 fok190.1 fok190.2 rfl rfl (slices_IndexFunc_impl_Move_impl_Move_isPlain_fn1.calls HS r_a h2) (fun _ wd3 ⟨h4, HS⟩ => ⟨_, h4, (GO.ps 2 rfl (GO.nil ?_))⟩)))
  obtain rfl := Option.some.inj H
  exact G.ret1 _ func168 rfl rfl ⟨rfl, HS⟩
theorem impl_isPlain_fn2.calls {w0 w : World} {L : List HObj} {k_ : Int} {r1 : Bool} (HS : St w0 w (L)) (H : impl_isPlain_fn2.f k_ = some r1) :
    Calls prog 171 #[.int .i64 k_] w (impl_isPlain_fn2.post w0 L r1) := by
  unfold impl_isPlain_fn2.f at H
  refine Calls.of_G func171 rfl rfl rfl ?_
  refine G.run 3 rfl ?_
  obtain ⟨t1, h2, H⟩ := Option.bind_eq_some_iff.1 H
  refine G.region (GO.move rfl rfl rfl (GO.fn rfl func136 fok136.1 fok136.2 rfl rfl (impl_inRange.calls HS  h2) (fun _ wd3 ⟨h4, HS⟩ => ⟨_, h4, (GO.ps 2 rfl (GO.nil ?_))⟩)))
  obtain rfl := Option.some.inj H
  exact G.ret1 _ func171 rfl rfl ⟨rfl, HS⟩
theorem slices_IndexFunc_int64_int64_isPlain_fn2.calls {w0 w : World} {L : List HObj} {K : Nat} {s : List Int} {A_a : Option Addr} {c_a : Nat} {r1 : Int} (HS : St w0 w (L)) (r_a : RdIn w0 L (TInt .i64) A_a c_a (fun _ => ()) s) (H : slices_IndexFunc_int64_int64_isPlain_fn2.f K s = some r1) :
    Calls prog 189 #[.slice A_a s.length c_a, .func (.func 171) #[] #[]] w (slices_IndexFunc_int64_int64_isPlain_fn2.post w0 L r1) := by
  unfold slices_IndexFunc_int64_int64_isPlain_fn2.f at H
  refine Calls.of_G func189 rfl rfl rfl ?_
  refine G.run 4 rfl (G.region (GO.move rfl rfl rfl (GO.lenS rfl rfl underlying41 rfl (GO.move rfl rfl rfl (GO.nil (G.run 2 rfl ?_))))))
  refine G.name (fun k_l1 hk_l1 => ?_)
  have at_l1 : ∀ m_l1, m_l1 ≤ K → ∀ (x8 : Int) (w : World), slices_IndexFunc_int64_int64_isPlain_fn2.l1 K m_l1 s x8 = some r1 → St w0 w (L) → G prog 189 19 [(0, .slice A_a s.length c_a), (1, .func (.func 171) #[] #[]), (7, .int .i64 (s.length : Int)), (8, .int .i64 x8)] k_l1 w (slices_IndexFunc_int64_int64_isPlain_fn2.post w0 L r1) := by
   intro m_l1
   induction m_l1 using Nat.strongRecOn with
   | _ m_l1 ih_l1 =>
    intro hm_l1 x8 w H HS
    cases m_l1 with
    | zero => rw [slices_IndexFunc_int64_int64_isPlain_fn2.l1] at H; cases H
    | succ n_l1 =>
     rw [slices_IndexFunc_int64_int64_isPlain_fn2.l1] at H
     subst hk_l1
     refine G.run 3 rfl ?_
     rcases ite_elim H with ⟨c16, H⟩ | ⟨c16, H⟩
     ·
      refine G.yesB rfl (decide_eq_true c16) (G.run 6 rfl ?_)
      obtain ⟨c17, H⟩ := ite_none H
      obtain ⟨t18, h19, H⟩ := Option.bind_eq_some_iff.1 H
      refine G.region (GO.ps 3 rfl (GO.ix rfl rfl rfl underlying41 sz2 (r_a _ HS).2.2.1 c17.1 c17.2 rfl (GO.ldRd (T := (TInt .i64)) (n := x8.toNat) (o := 0) HS r_a rfl rfl (getD_some (d := 0) (ltN c17)) rfl rfl na2 rfl (GO.clo rfl rfl func171 fok171.1 fok171.2 rfl rfl (impl_isPlain_fn2.calls HS  h19) (fun _ wd20 ⟨h21, HS⟩ => ⟨_, h21, (GO.nil ?_)⟩)))))
      rcases ite_elim H with ⟨c22, H⟩ | ⟨c22, H⟩
      ·
       refine G.yesB rfl c22 (G.run 2 rfl ?_)
       obtain rfl := Option.some.inj H
       exact G.ret1 _ func189 rfl rfl ⟨rfl, HS⟩
      refine G.noB rfl (bnot_of c22) (G.run 4 rfl (G.weak ?_ (ih_l1 n_l1 (Nat.lt_succ_of_le (Nat.le_refl _)) (Nat.le_of_succ_le hm_l1) _ _ H HS)))
      exact ⟨rfl, rfl, rfl, rfl, trivial⟩
     refine G.noB rfl (decide_eq_false c16) (G.run 3 rfl ?_)
     obtain rfl := Option.some.inj H
     exact G.ret1 _ func189 rfl rfl ⟨rfl, HS⟩
  refine G.weak ?_ (at_l1 K (Nat.le_refl _) _ _ H HS)
  exact ⟨rfl, rfl, rfl, rfl, trivial⟩
theorem slices_ContainsFunc_int64_int64_isPlain_fn2.calls {w0 w : World} {L : List HObj} {K : Nat} {s : List Int} {A_a : Option Addr} {c_a : Nat} {r1 : Bool} (HS : St w0 w (L)) (r_a : RdIn w0 L (TInt .i64) A_a c_a (fun _ => ()) s) (H : slices_ContainsFunc_int64_int64_isPlain_fn2.f K s = some r1) :
    Calls prog 164 #[.slice A_a s.length c_a, .func (.func 171) #[] #[]] w (slices_ContainsFunc_int64_int64_isPlain_fn2.post w0 L r1) := by
  unfold slices_ContainsFunc_int64_int64_isPlain_fn2.f at H
  refine Calls.of_G func164 rfl rfl rfl ?_
  refine G.run 3 rfl ?_
  obtain ⟨t1, h2, H⟩ := Option.bind_eq_some_iff.1 H
  refine G.region (GO.ps 2 rfl (GO.fn rfl func189 fok189.1 fok189.2 rfl rfl (slices_IndexFunc_int64_int64_isPlain_fn2.calls HS r_a h2) (fun _ wd3 ⟨h4, HS⟩ => ⟨_, h4, (GO.ps 2 rfl (GO.nil ?_))⟩)))
  obtain rfl := Option.some.inj H
  exact G.ret1 _ func164 rfl rfl ⟨rfl, HS⟩
theorem impl_isPlain_fn3.calls {w0 w : World} {L : List HObj} {p : Int} {r1 : Bool} (HS : St w0 w (L)) (H : impl_isPlain_fn3.f p = some r1) :
    Calls prog 172 #[.int .i64 p] w (impl_isPlain_fn3.post w0 L r1) := by
  unfold impl_isPlain_fn3.f at H
  refine Calls.of_G func172 rfl rfl rfl ?_
  refine G.run 3 rfl ?_
  obtain ⟨t1, h2, H⟩ := Option.bind_eq_some_iff.1 H
  refine G.region (GO.move rfl rfl rfl (GO.fn rfl func173 fok173.1 fok173.2 rfl rfl (impl_isPerm.calls HS  h2) (fun _ wd3 ⟨h4, HS⟩ => ⟨_, h4, (GO.ps 2 rfl (GO.nil ?_))⟩)))
  obtain rfl := Option.some.inj H
  exact G.ret1 _ func172 rfl rfl ⟨rfl, HS⟩
theorem slices_IndexFunc_int64_int64_isPlain_fn3.calls {w0 w : World} {L : List HObj} {K : Nat} {s : List Int} {A_a : Option Addr} {c_a : Nat} {r1 : Int} (HS : St w0 w (L)) (r_a : RdIn w0 L (TInt .i64) A_a c_a (fun _ => ()) s) (H : slices_IndexFunc_int64_int64_isPlain_fn3.f K s = some r1) :
    Calls prog 189 #[.slice A_a s.length c_a, .func (.func 172) #[] #[]] w (slices_IndexFunc_int64_int64_isPlain_fn3.post w0 L r1) := by
  unfold slices_IndexFunc_int64_int64_isPlain_fn3.f at H
  refine Calls.of_G func189 rfl rfl rfl ?_
  refine G.run 4 rfl (G.region (GO.move rfl rfl rfl (GO.lenS rfl rfl underlying41 rfl (GO.move rfl rfl rfl (GO.nil (G.run 2 rfl ?_))))))
  refine G.name (fun k_l1 hk_l1 => ?_)
  have at_l1 : ∀ m_l1, m_l1 ≤ K → ∀ (x8 : Int) (w : World), slices_IndexFunc_int64_int64_isPlain_fn3.l1 K m_l1 s x8 = some r1 → St w0 w (L) → G prog 189 19 [(0, .slice A_a s.length c_a), (1, .func (.func 172) #[] #[]), (7, .int .i64 (s.length : Int)), (8, .int .i64 x8)] k_l1 w (slices_IndexFunc_int64_int64_isPlain_fn3.post w0 L r1) := by
   intro m_l1
   induction m_l1 using Nat.strongRecOn with
   | _ m_l1 ih_l1 =>
    intro hm_l1 x8 w H HS
    cases m_l1 with
    | zero => rw [slices_IndexFunc_int64_int64_isPlain_fn3.l1] at H; cases H
    | succ n_l1 =>
     rw [slices_IndexFunc_int64_int64_isPlain_fn3.l1] at H
     subst hk_l1
     refine G.run 3 rfl ?_
     rcases ite_elim H with ⟨c16, H⟩ | ⟨c16, H⟩
     ·
      refine G.yesB rfl (decide_eq_true c16) (G.run 6 rfl ?_)
      obtain ⟨c17, H⟩ := ite_none H
      obtain ⟨t18, h19, H⟩ := Option.bind_eq_some_iff.1 H
      refine G.region (GO.ps 3 rfl (GO.ix rfl rfl rfl underlying41 sz2 (r_a _ HS).2.2.1 c17.1 c17.2 rfl (GO.ldRd (T := (TInt .i64)) (n := x8.toNat) (o := 0) HS r_a rfl rfl (getD_some (d := 0) (ltN c17)) rfl rfl na2 rfl (GO.clo rfl rfl func172 fok172.1 fok172.2 rfl rfl (impl_isPlain_fn3.calls HS  h19) (fun _ wd20 ⟨h21, HS⟩ => ⟨_, h21, (GO.nil ?_)⟩)))))
      rcases ite_elim H with ⟨c22, H⟩ | ⟨c22, H⟩
      ·
       refine G.yesB rfl c22 (G.run 2 rfl ?_)
       obtain rfl := Option.some.inj H
       exact G.ret1 _ func189 rfl rfl ⟨rfl, HS⟩
      refine G.noB rfl (bnot_of c22) (G.run 4 rfl (G.weak ?_ (ih_l1 n_l1 (Nat.lt_succ_of_le (Nat.le_refl _)) (Nat.le_of_succ_le hm_l1) _ _ H HS)))
      exact ⟨rfl, rfl, rfl, rfl, trivial⟩
     refine G.noB rfl (decide_eq_false c16) (G.run 3 rfl ?_)
     obtain rfl := Option.some.inj H
     exact G.ret1 _ func189 rfl rfl ⟨rfl, HS⟩
  refine G.weak ?_ (at_l1 K (Nat.le_refl _) _ _ H HS)
  exact ⟨rfl, rfl, rfl, rfl, trivial⟩
theorem slices_ContainsFunc_int64_int64_isPlain_fn3.calls {w0 w : World} {L : List HObj} {K : Nat} {s : List Int} {A_a : Option Addr} {c_a : Nat} {r1 : Bool} (HS : St w0 w (L)) (r_a : RdIn w0 L (TInt .i64) A_a c_a (fun _ => ()) s) (H : slices_ContainsFunc_int64_int64_isPlain_fn3.f K s = some r1) :
    Calls prog 164 #[.slice A_a s.length c_a, .func (.func 172) #[] #[]] w (slices_ContainsFunc_int64_int64_isPlain_fn3.post w0 L r1) := by
  unfold slices_ContainsFunc_int64_int64_isPlain_fn3.f at H
  refine Calls.of_G func164 rfl rfl rfl ?_
  refine G.run 3 rfl ?_
  obtain ⟨t1, h2, H⟩ := Option.bind_eq_some_iff.1 H
  refine G.region (GO.ps 2 rfl (GO.fn rfl func189 fok189.1 fok189.2 rfl rfl (slices_IndexFunc_int64_int64_isPlain_fn3.calls HS r_a h2) (fun _ wd3 ⟨h4, HS⟩ => ⟨_, h4, (GO.ps 2 rfl (GO.nil ?_))⟩)))
  obtain rfl := Option.some.inj H
  exact G.ret1 _ func164 rfl rfl ⟨rfl, HS⟩
theorem impl_isPlain.calls {w0 w : World} {L : List HObj} {K : Nat} {c_Name c_Trait : Int} {c_Moves : List GMove} {c_Tets c_Perms : List Int} {A_a : Option Addr} {c_a : Nat} {A_b : Option Addr} {c_b : Nat} {A_c : Option Addr} {c_c : Nat} {r1 : Bool} (HS : St w0 w (L)) (r_a : RdIn w0 L T_GMove A_a c_a (fun _ => ()) c_Moves) (r_b : RdIn w0 L (TInt .i64) A_b c_b (fun _ => ()) c_Tets) (r_c : RdIn w0 L (TInt .i64) A_c c_c (fun _ => ()) c_Perms) (H : impl_isPlain.f K c_Name c_Trait c_Moves c_Tets c_Perms = some r1) :
    Calls prog 141 #[.agg [.int .i64 c_Name, .int .i64 c_Trait, .slice A_a c_Moves.length c_a, .slice A_b c_Tets.length c_b, .slice A_c c_Perms.length c_c].toArray] w (impl_isPlain.post w0 L r1) := by
  unfold impl_isPlain.f at H
  refine Calls.of_G func141 rfl rfl rfl ?_
  refine G.seq (G.region (GO.box (cs := [.int .i64 c_Name, .int .i64 c_Trait, .slice A_a c_Moves.length c_a, .slice A_b c_Tets.length c_b, .slice A_c c_Perms.length c_c]) HS rfl rfl rfl rfl fun b1 wd2 HS => GO.assign rfl rfl rfl (GO.nil (G.run 3 rfl ?_))))
  obtain ⟨t12, h13, H⟩ := Option.bind_eq_some_iff.1 H
  rcases ite_elim H with ⟨c16, H⟩ | ⟨c16, H⟩
  ·
   obtain ⟨t17, h18, H⟩ := Option.bind_eq_some_iff.1 H
   refine G.region (GO.fld (⟨b1, 0, none⟩) rfl rfl fl46_0 rfl rfl (GO.ldBox (j := 0) HS rfl rfl rfl rfl na2 rfl (GO.fn rfl func167 fok167.1 fok167.2 rfl rfl (impl_isName.calls HS  h13) (fun _ wd14 ⟨h15, HS⟩ => ⟨_, h15, (GO.ps 2 rfl (GO.known (t := 8) rfl (congrArg Bool.not c16) (GO.on rfl rfl rfl rfl (GO.fld (⟨b1, 1, none⟩) rfl rfl fl46_1 rfl rfl (GO.back (GO.on rfl rfl rfl rfl (GO.ldBox (j := 0) HS rfl rfl rfl rfl na2 rfl (GO.back (GO.on rfl rfl rfl rfl (GO.fn rfl func136 fok136.1 fok136.2 rfl rfl (impl_inRange.calls HS  h18) (fun _ wd19 ⟨h20, HS⟩ => ⟨_, h20, (GO.back ?_)⟩)))))))))))⟩))))
   refine GO.on rfl rfl rfl rfl (GO.not rfl rfl rfl (GO.back (GO.ps 2 rfl (GO.nil ?_))))
   rcases ite_elim H with ⟨c21, H⟩ | ⟨c21, H⟩
   ·
    refine G.noB rfl (congrArg Bool.not c21) (G.seq (G.region (GO.fld (⟨b1, 1, none⟩) rfl rfl fl46_1 rfl rfl (GO.ldBox (j := 0) HS rfl rfl rfl rfl na2 rfl (GO.ps 2 rfl (GO.nil ?_))))))
    rcases ite_elim H with ⟨c22, H⟩ | ⟨c22, H⟩
    ·
     refine G.noB rfl (congrArg Bool.not (decide_eq_true c22)) (G.run 3 rfl ?_)
     rcases ite_elim H with ⟨c23, H⟩ | ⟨c23, H⟩
     ·
      obtain ⟨t24, h25, H⟩ := Option.bind_eq_some_iff.1 H
      rcases ite_elim H with ⟨c28, H⟩ | ⟨c28, H⟩
      ·
       refine G.region (GO.fld (⟨b1, 2, none⟩) rfl rfl fl46_2 rfl rfl (GO.ldBox (j := 0) HS rfl rfl rfl rfl na44 rfl (GO.lenS rfl rfl underlying44 rfl (GO.ps 2 rfl (GO.known (t := 38) rfl (decide_eq_true c23) (GO.on rfl rfl rfl rfl (GO.fld (⟨b1, 2, none⟩) rfl rfl fl46_2 rfl rfl (GO.back (GO.on rfl rfl rfl rfl (GO.ldBox (j := 0) HS rfl rfl rfl rfl na44 rfl (GO.back (GO.on rfl rfl rfl rfl (GO.fn rfl func168 fok168.1 fok168.2 rfl rfl (slices_ContainsFunc_impl_Move_impl_Move_isPlain_fn1.calls HS (RdIn.drop 1 r_a) h25) (fun _ wd26 ⟨h27, HS⟩ => ⟨_, h27, (GO.back ?_)⟩))))))))))))))
       refine GO.on rfl rfl rfl rfl (GO.not rfl rfl rfl (GO.back (GO.ps 2 rfl (GO.known (t := 44) rfl (congrArg Bool.not c28) (GO.off rfl rfl rfl rfl rfl rfl (GO.off rfl rfl rfl rfl rfl rfl (GO.off rfl rfl rfl rfl rfl rfl (GO.off rfl rfl rfl rfl rfl rfl (GO.off rfl rfl rfl rfl rfl rfl (GO.off rfl rfl rfl rfl rfl rfl (GO.off rfl rfl rfl rfl rfl rfl (GO.ps 2 rfl (GO.off rfl rfl rfl rfl rfl rfl (GO.off rfl rfl rfl rfl rfl rfl ?_))))))))))))))
       refine GO.off rfl rfl rfl rfl rfl rfl (GO.off rfl rfl rfl rfl rfl rfl (GO.ps 2 rfl (GO.off rfl rfl rfl rfl rfl rfl (GO.off rfl rfl rfl rfl rfl rfl (GO.off rfl rfl rfl rfl rfl rfl (GO.off rfl rfl rfl rfl rfl rfl (GO.ps 2 rfl (GO.off rfl rfl rfl rfl rfl rfl (GO.off rfl rfl rfl rfl rfl rfl (GO.off rfl rfl rfl rfl rfl rfl (GO.off rfl rfl rfl rfl rfl rfl (GO.ps 2 rfl (GO.nil ?_)))))))))))))
       obtain rfl := Option.some.inj H
       exact G.ret1 _ func141 rfl rfl ⟨rfl, (HS.pk 1 [] rfl)⟩
      rcases ite_elim H with ⟨c29, H⟩ | ⟨c29, H⟩
      ·
       rcases ite_elim H with ⟨c30, H⟩ | ⟨c30, H⟩
       ·
        obtain ⟨t31, h32, H⟩ := Option.bind_eq_some_iff.1 H
        rcases ite_elim H with ⟨c35, H⟩ | ⟨c35, H⟩
        ·
         refine G.region (GO.fld (⟨b1, 2, none⟩) rfl rfl fl46_2 rfl rfl (GO.ldBox (j := 0) HS rfl rfl rfl rfl na44 rfl (GO.lenS rfl rfl underlying44 rfl (GO.ps 2 rfl (GO.known (t := 38) rfl (decide_eq_true c23) (GO.on rfl rfl rfl rfl (GO.fld (⟨b1, 2, none⟩) rfl rfl fl46_2 rfl rfl (GO.back (GO.on rfl rfl rfl rfl (GO.ldBox (j := 0) HS rfl rfl rfl rfl na44 rfl (GO.back (GO.on rfl rfl rfl rfl (GO.fn rfl func168 fok168.1 fok168.2 rfl rfl (slices_ContainsFunc_impl_Move_impl_Move_isPlain_fn1.calls HS (RdIn.drop 1 r_a) h25) (fun _ wd26 ⟨h27, HS⟩ => ⟨_, h27, (GO.back ?_)⟩))))))))))))))
         refine GO.on rfl rfl rfl rfl (GO.not rfl rfl rfl (GO.back (GO.ps 2 rfl (GO.known (t := 44) rfl (congrArg Bool.not (bnot_of c28)) (GO.on rfl rfl rfl rfl (GO.fld (⟨b1, 3, none⟩) rfl rfl fl46_3 rfl rfl (GO.back (GO.on rfl rfl rfl rfl (GO.ldBox (j := 0) HS rfl rfl rfl rfl na41 rfl (GO.back (GO.on rfl rfl rfl rfl (GO.lenS rfl rfl underlying41 rfl (GO.back (GO.on rfl rfl rfl rfl ?_))))))))))))))
         refine GO.fld (⟨b1, 4, none⟩) rfl rfl fl46_4 rfl rfl (GO.back (GO.on rfl rfl rfl rfl (GO.ldBox (j := 0) HS rfl rfl rfl rfl na41 rfl (GO.back (GO.on rfl rfl rfl rfl (GO.lenS rfl rfl underlying41 rfl (GO.back (GO.on rfl rfl rfl rfl (GO.eql rfl rfl rfl rfl (GO.back (GO.ps 2 rfl (GO.known (t := 53) rfl (decide_eq_true c29) (GO.on rfl rfl rfl rfl (GO.fld (⟨b1, 3, none⟩) rfl rfl fl46_3 rfl rfl ?_))))))))))))))
         refine GO.back (GO.on rfl rfl rfl rfl (GO.ldBox (j := 0) HS rfl rfl rfl rfl na41 rfl (GO.back (GO.on rfl rfl rfl rfl (GO.lenS rfl rfl underlying41 rfl (GO.back (GO.on rfl rfl rfl rfl (GO.leq rfl rfl rfl rfl (GO.back (GO.ps 2 rfl (GO.known (t := 59) rfl (decide_eq_true c30) (GO.on rfl rfl rfl rfl (GO.fld (⟨b1, 3, none⟩) rfl rfl fl46_3 rfl rfl (GO.back ?_))))))))))))))
         refine GO.on rfl rfl rfl rfl (GO.ldBox (j := 0) HS rfl rfl rfl rfl na41 rfl (GO.back (GO.on rfl rfl rfl rfl (GO.fn rfl func164 fok164.1 fok164.2 rfl rfl (slices_ContainsFunc_int64_int64_isPlain_fn2.calls HS (RdIn.drop 1 r_b) h32) (fun _ wd33 ⟨h34, HS⟩ => ⟨_, h34, (GO.back (GO.on rfl rfl rfl rfl (GO.not rfl rfl rfl (GO.back (GO.ps 2 rfl (GO.known (t := 65) rfl (congrArg Bool.not c35) (GO.off rfl rfl rfl rfl rfl rfl (GO.off rfl rfl rfl rfl rfl rfl (GO.off rfl rfl rfl rfl rfl rfl (GO.off rfl rfl rfl rfl rfl rfl ?_))))))))))⟩)))))
         refine GO.ps 2 rfl (GO.nil ?_)
         obtain rfl := Option.some.inj H
         exact G.ret1 _ func141 rfl rfl ⟨rfl, (HS.pk 1 [] rfl)⟩
        obtain ⟨t36, h37, H⟩ := Option.bind_eq_some_iff.1 H
        refine G.region (GO.fld (⟨b1, 2, none⟩) rfl rfl fl46_2 rfl rfl (GO.ldBox (j := 0) HS rfl rfl rfl rfl na44 rfl (GO.lenS rfl rfl underlying44 rfl (GO.ps 2 rfl (GO.known (t := 38) rfl (decide_eq_true c23) (GO.on rfl rfl rfl rfl (GO.fld (⟨b1, 2, none⟩) rfl rfl fl46_2 rfl rfl (GO.back (GO.on rfl rfl rfl rfl (GO.ldBox (j := 0) HS rfl rfl rfl rfl na44 rfl (GO.back (GO.on rfl rfl rfl rfl (GO.fn rfl func168 fok168.1 fok168.2 rfl rfl (slices_ContainsFunc_impl_Move_impl_Move_isPlain_fn1.calls HS (RdIn.drop 1 r_a) h25) (fun _ wd26 ⟨h27, HS⟩ => ⟨_, h27, (GO.back ?_)⟩))))))))))))))
        refine GO.on rfl rfl rfl rfl (GO.not rfl rfl rfl (GO.back (GO.ps 2 rfl (GO.known (t := 44) rfl (congrArg Bool.not (bnot_of c28)) (GO.on rfl rfl rfl rfl (GO.fld (⟨b1, 3, none⟩) rfl rfl fl46_3 rfl rfl (GO.back (GO.on rfl rfl rfl rfl (GO.ldBox (j := 0) HS rfl rfl rfl rfl na41 rfl (GO.back (GO.on rfl rfl rfl rfl (GO.lenS rfl rfl underlying41 rfl (GO.back (GO.on rfl rfl rfl rfl ?_))))))))))))))
        refine GO.fld (⟨b1, 4, none⟩) rfl rfl fl46_4 rfl rfl (GO.back (GO.on rfl rfl rfl rfl (GO.ldBox (j := 0) HS rfl rfl rfl rfl na41 rfl (GO.back (GO.on rfl rfl rfl rfl (GO.lenS rfl rfl underlying41 rfl (GO.back (GO.on rfl rfl rfl rfl (GO.eql rfl rfl rfl rfl (GO.back (GO.ps 2 rfl (GO.known (t := 53) rfl (decide_eq_true c29) (GO.on rfl rfl rfl rfl (GO.fld (⟨b1, 3, none⟩) rfl rfl fl46_3 rfl rfl ?_))))))))))))))
        refine GO.back (GO.on rfl rfl rfl rfl (GO.ldBox (j := 0) HS rfl rfl rfl rfl na41 rfl (GO.back (GO.on rfl rfl rfl rfl (GO.lenS rfl rfl underlying41 rfl (GO.back (GO.on rfl rfl rfl rfl (GO.leq rfl rfl rfl rfl (GO.back (GO.ps 2 rfl (GO.known (t := 59) rfl (decide_eq_true c30) (GO.on rfl rfl rfl rfl (GO.fld (⟨b1, 3, none⟩) rfl rfl fl46_3 rfl rfl (GO.back ?_))))))))))))))
        refine GO.on rfl rfl rfl rfl (GO.ldBox (j := 0) HS rfl rfl rfl rfl na41 rfl (GO.back (GO.on rfl rfl rfl rfl (GO.fn rfl func164 fok164.1 fok164.2 rfl rfl (slices_ContainsFunc_int64_int64_isPlain_fn2.calls HS (RdIn.drop 1 r_b) h32) (fun _ wd33 ⟨h34, HS⟩ => ⟨_, h34, (GO.back (GO.on rfl rfl rfl rfl (GO.not rfl rfl rfl (GO.back (GO.ps 2 rfl (GO.known (t := 65) rfl (congrArg Bool.not (bnot_of c35)) (GO.on rfl rfl rfl rfl (GO.fld (⟨b1, 4, none⟩) rfl rfl fl46_4 rfl rfl (GO.back (GO.on rfl rfl rfl rfl ?_))))))))))⟩)))))
        refine GO.ldBox (j := 0) HS rfl rfl rfl rfl na41 rfl (GO.back (GO.on rfl rfl rfl rfl (GO.fn rfl func164 fok164.1 fok164.2 rfl rfl (slices_ContainsFunc_int64_int64_isPlain_fn3.calls HS (RdIn.drop 1 r_c) h37) (fun _ wd38 ⟨h39, HS⟩ => ⟨_, h39, (GO.back (GO.on rfl rfl rfl rfl (GO.not rfl rfl rfl (GO.back (GO.ps 2 rfl (GO.nil ?_))))))⟩))))
        obtain rfl := Option.some.inj H
        exact G.ret1 _ func141 rfl rfl ⟨rfl, (HS.pk 1 [] rfl)⟩
       refine G.region (GO.fld (⟨b1, 2, none⟩) rfl rfl fl46_2 rfl rfl (GO.ldBox (j := 0) HS rfl rfl rfl rfl na44 rfl (GO.lenS rfl rfl underlying44 rfl (GO.ps 2 rfl (GO.known (t := 38) rfl (decide_eq_true c23) (GO.on rfl rfl rfl rfl (GO.fld (⟨b1, 2, none⟩) rfl rfl fl46_2 rfl rfl (GO.back (GO.on rfl rfl rfl rfl (GO.ldBox (j := 0) HS rfl rfl rfl rfl na44 rfl (GO.back (GO.on rfl rfl rfl rfl (GO.fn rfl func168 fok168.1 fok168.2 rfl rfl (slices_ContainsFunc_impl_Move_impl_Move_isPlain_fn1.calls HS (RdIn.drop 1 r_a) h25) (fun _ wd26 ⟨h27, HS⟩ => ⟨_, h27, (GO.back ?_)⟩))))))))))))))
       refine GO.on rfl rfl rfl rfl (GO.not rfl rfl rfl (GO.back (GO.ps 2 rfl (GO.known (t := 44) rfl (congrArg Bool.not (bnot_of c28)) (GO.on rfl rfl rfl rfl (GO.fld (⟨b1, 3, none⟩) rfl rfl fl46_3 rfl rfl (GO.back (GO.on rfl rfl rfl rfl (GO.ldBox (j := 0) HS rfl rfl rfl rfl na41 rfl (GO.back (GO.on rfl rfl rfl rfl (GO.lenS rfl rfl underlying41 rfl (GO.back (GO.on rfl rfl rfl rfl ?_))))))))))))))
       refine GO.fld (⟨b1, 4, none⟩) rfl rfl fl46_4 rfl rfl (GO.back (GO.on rfl rfl rfl rfl (GO.ldBox (j := 0) HS rfl rfl rfl rfl na41 rfl (GO.back (GO.on rfl rfl rfl rfl (GO.lenS rfl rfl underlying41 rfl (GO.back (GO.on rfl rfl rfl rfl (GO.eql rfl rfl rfl rfl (GO.back (GO.ps 2 rfl (GO.known (t := 53) rfl (decide_eq_true c29) (GO.on rfl rfl rfl rfl (GO.fld (⟨b1, 3, none⟩) rfl rfl fl46_3 rfl rfl ?_))))))))))))))
       refine GO.back (GO.on rfl rfl rfl rfl (GO.ldBox (j := 0) HS rfl rfl rfl rfl na41 rfl (GO.back (GO.on rfl rfl rfl rfl (GO.lenS rfl rfl underlying41 rfl (GO.back (GO.on rfl rfl rfl rfl (GO.leq rfl rfl rfl rfl (GO.back (GO.ps 2 rfl (GO.known (t := 59) rfl (decide_eq_false c30) (GO.off rfl rfl rfl rfl rfl rfl (GO.off rfl rfl rfl rfl rfl rfl (GO.off rfl rfl rfl rfl rfl rfl ?_))))))))))))))
       refine GO.off rfl rfl rfl rfl rfl rfl (GO.ps 2 rfl (GO.off rfl rfl rfl rfl rfl rfl (GO.off rfl rfl rfl rfl rfl rfl (GO.off rfl rfl rfl rfl rfl rfl (GO.off rfl rfl rfl rfl rfl rfl (GO.ps 2 rfl (GO.nil ?_)))))))
       obtain rfl := Option.some.inj H
       exact G.ret1 _ func141 rfl rfl ⟨rfl, (HS.pk 1 [] rfl)⟩
      refine G.region (GO.fld (⟨b1, 2, none⟩) rfl rfl fl46_2 rfl rfl (GO.ldBox (j := 0) HS rfl rfl rfl rfl na44 rfl (GO.lenS rfl rfl underlying44 rfl (GO.ps 2 rfl (GO.known (t := 38) rfl (decide_eq_true c23) (GO.on rfl rfl rfl rfl (GO.fld (⟨b1, 2, none⟩) rfl rfl fl46_2 rfl rfl (GO.back (GO.on rfl rfl rfl rfl (GO.ldBox (j := 0) HS rfl rfl rfl rfl na44 rfl (GO.back (GO.on rfl rfl rfl rfl (GO.fn rfl func168 fok168.1 fok168.2 rfl rfl (slices_ContainsFunc_impl_Move_impl_Move_isPlain_fn1.calls HS (RdIn.drop 1 r_a) h25) (fun _ wd26 ⟨h27, HS⟩ => ⟨_, h27, (GO.back ?_)⟩))))))))))))))
      refine GO.on rfl rfl rfl rfl (GO.not rfl rfl rfl (GO.back (GO.ps 2 rfl (GO.known (t := 44) rfl (congrArg Bool.not (bnot_of c28)) (GO.on rfl rfl rfl rfl (GO.fld (⟨b1, 3, none⟩) rfl rfl fl46_3 rfl rfl (GO.back (GO.on rfl rfl rfl rfl (GO.ldBox (j := 0) HS rfl rfl rfl rfl na41 rfl (GO.back (GO.on rfl rfl rfl rfl (GO.lenS rfl rfl underlying41 rfl (GO.back (GO.on rfl rfl rfl rfl ?_))))))))))))))
      refine GO.fld (⟨b1, 4, none⟩) rfl rfl fl46_4 rfl rfl (GO.back (GO.on rfl rfl rfl rfl (GO.ldBox (j := 0) HS rfl rfl rfl rfl na41 rfl (GO.back (GO.on rfl rfl rfl rfl (GO.lenS rfl rfl underlying41 rfl (GO.back (GO.on rfl rfl rfl rfl (GO.eql rfl rfl rfl rfl (GO.back (GO.ps 2 rfl (GO.known (t := 53) rfl (decide_eq_false c29) (GO.off rfl rfl rfl rfl rfl rfl (GO.off rfl rfl rfl rfl rfl rfl ?_))))))))))))))
      refine GO.off rfl rfl rfl rfl rfl rfl (GO.off rfl rfl rfl rfl rfl rfl (GO.ps 2 rfl (GO.off rfl rfl rfl rfl rfl rfl (GO.off rfl rfl rfl rfl rfl rfl (GO.off rfl rfl rfl rfl rfl rfl (GO.off rfl rfl rfl rfl rfl rfl (GO.ps 2 rfl (GO.off rfl rfl rfl rfl rfl rfl (GO.off rfl rfl rfl rfl rfl rfl (GO.off rfl rfl rfl rfl rfl rfl (GO.off rfl rfl rfl rfl rfl rfl (GO.ps 2 rfl (GO.nil ?_)))))))))))))
      obtain rfl := Option.some.inj H
      exact G.ret1 _ func141 rfl rfl ⟨rfl, (HS.pk 1 [] rfl)⟩
     refine G.region (GO.fld (⟨b1, 2, none⟩) rfl rfl fl46_2 rfl rfl (GO.ldBox (j := 0) HS rfl rfl rfl rfl na44 rfl (GO.lenS rfl rfl underlying44 rfl (GO.ps 2 rfl (GO.known (t := 38) rfl (decide_eq_false c23) (GO.off rfl rfl rfl rfl rfl rfl (GO.off rfl rfl rfl rfl rfl rfl (GO.off rfl rfl rfl rfl rfl rfl (GO.off rfl rfl rfl rfl rfl rfl (GO.ps 2 rfl (GO.off rfl rfl rfl rfl rfl rfl (GO.off rfl rfl rfl rfl rfl rfl (GO.off rfl rfl rfl rfl rfl rfl (GO.off rfl rfl rfl rfl rfl rfl ?_))))))))))))))
     refine GO.off rfl rfl rfl rfl rfl rfl (GO.off rfl rfl rfl rfl rfl rfl (GO.off rfl rfl rfl rfl rfl rfl (GO.ps 2 rfl (GO.off rfl rfl rfl rfl rfl rfl (GO.off rfl rfl rfl rfl rfl rfl (GO.off rfl rfl rfl rfl rfl rfl (GO.off rfl rfl rfl rfl rfl rfl (GO.ps 2 rfl (GO.off rfl rfl rfl rfl rfl rfl (GO.off rfl rfl rfl rfl rfl rfl (GO.off rfl rfl rfl rfl rfl rfl (GO.off rfl rfl rfl rfl rfl rfl (GO.ps 2 rfl (GO.off rfl rfl rfl rfl rfl rfl ?_))))))))))))))
     refine GO.off rfl rfl rfl rfl rfl rfl (GO.off rfl rfl rfl rfl rfl rfl (GO.off rfl rfl rfl rfl rfl rfl (GO.ps 2 rfl (GO.nil ?_))))
     obtain rfl := Option.some.inj H
     exact G.ret1 _ func141 rfl rfl ⟨rfl, (HS.pk 1 [] rfl)⟩
    refine G.yesB rfl (congrArg Bool.not (decide_eq_false c22)) (G.seq ?_)
    rcases ite_elim H with ⟨c40, H⟩ | ⟨c40, H⟩
    ·
     rcases ite_elim H with ⟨c41, H⟩ | ⟨c41, H⟩
     ·
      refine G.region (GO.fld (⟨b1, 2, none⟩) rfl rfl fl46_2 rfl rfl (GO.ldBox (j := 0) HS rfl rfl rfl rfl na44 rfl (GO.lenS rfl rfl underlying44 rfl (GO.ps 2 rfl (GO.known (t := 22) rfl (decide_eq_true c40) (GO.on rfl rfl rfl rfl (GO.fld (⟨b1, 3, none⟩) rfl rfl fl46_3 rfl rfl (GO.back (GO.on rfl rfl rfl rfl (GO.ldBox (j := 0) HS rfl rfl rfl rfl na41 rfl (GO.back (GO.on rfl rfl rfl rfl (GO.lenS rfl rfl underlying41 rfl (GO.back ?_))))))))))))))
      refine GO.on rfl rfl rfl rfl (GO.eql rfl rfl rfl rfl (GO.back (GO.ps 2 rfl (GO.known (t := 28) rfl (decide_eq_true c41) (GO.on rfl rfl rfl rfl (GO.fld (⟨b1, 4, none⟩) rfl rfl fl46_4 rfl rfl (GO.back (GO.on rfl rfl rfl rfl (GO.ldBox (j := 0) HS rfl rfl rfl rfl na41 rfl (GO.back (GO.on rfl rfl rfl rfl (GO.lenS rfl rfl underlying41 rfl (GO.back (GO.on rfl rfl rfl rfl ?_))))))))))))))
      refine GO.eql rfl rfl rfl rfl (GO.back (GO.ps 2 rfl (GO.nil ?_)))
      obtain rfl := Option.some.inj H
      exact G.ret1 _ func141 rfl rfl ⟨rfl, (HS.pk 1 [] rfl)⟩
     refine G.region (GO.fld (⟨b1, 2, none⟩) rfl rfl fl46_2 rfl rfl (GO.ldBox (j := 0) HS rfl rfl rfl rfl na44 rfl (GO.lenS rfl rfl underlying44 rfl (GO.ps 2 rfl (GO.known (t := 22) rfl (decide_eq_true c40) (GO.on rfl rfl rfl rfl (GO.fld (⟨b1, 3, none⟩) rfl rfl fl46_3 rfl rfl (GO.back (GO.on rfl rfl rfl rfl (GO.ldBox (j := 0) HS rfl rfl rfl rfl na41 rfl (GO.back (GO.on rfl rfl rfl rfl (GO.lenS rfl rfl underlying41 rfl (GO.back ?_))))))))))))))
     refine GO.on rfl rfl rfl rfl (GO.eql rfl rfl rfl rfl (GO.back (GO.ps 2 rfl (GO.known (t := 28) rfl (decide_eq_false c41) (GO.off rfl rfl rfl rfl rfl rfl (GO.off rfl rfl rfl rfl rfl rfl (GO.off rfl rfl rfl rfl rfl rfl (GO.off rfl rfl rfl rfl rfl rfl (GO.ps 2 rfl (GO.nil ?_))))))))))
     obtain rfl := Option.some.inj H
     exact G.ret1 _ func141 rfl rfl ⟨rfl, (HS.pk 1 [] rfl)⟩
    refine G.region (GO.fld (⟨b1, 2, none⟩) rfl rfl fl46_2 rfl rfl (GO.ldBox (j := 0) HS rfl rfl rfl rfl na44 rfl (GO.lenS rfl rfl underlying44 rfl (GO.ps 2 rfl (GO.known (t := 22) rfl (decide_eq_false c40) (GO.off rfl rfl rfl rfl rfl rfl (GO.off rfl rfl rfl rfl rfl rfl (GO.off rfl rfl rfl rfl rfl rfl (GO.off rfl rfl rfl rfl rfl rfl (GO.ps 2 rfl (GO.off rfl rfl rfl rfl rfl rfl (GO.off rfl rfl rfl rfl rfl rfl (GO.off rfl rfl rfl rfl rfl rfl (GO.off rfl rfl rfl rfl rfl rfl ?_))))))))))))))
    refine GO.ps 2 rfl (GO.nil ?_)
    obtain rfl := Option.some.inj H
    exact G.ret1 _ func141 rfl rfl ⟨rfl, (HS.pk 1 [] rfl)⟩
   refine G.yesB rfl (congrArg Bool.not (bnot_of c21)) (G.run 2 rfl ?_)
   obtain rfl := Option.some.inj H
   exact G.ret1 _ func141 rfl rfl ⟨rfl, (HS.pk 1 [] rfl)⟩
  refine G.region (GO.fld (⟨b1, 0, none⟩) rfl rfl fl46_0 rfl rfl (GO.ldBox (j := 0) HS rfl rfl rfl rfl na2 rfl (GO.fn rfl func167 fok167.1 fok167.2 rfl rfl (impl_isName.calls HS  h13) (fun _ wd14 ⟨h15, HS⟩ => ⟨_, h15, (GO.ps 2 rfl (GO.known (t := 8) rfl (congrArg Bool.not (bnot_of c16)) (GO.off rfl rfl rfl rfl rfl rfl (GO.off rfl rfl rfl rfl rfl rfl (GO.off rfl rfl rfl rfl rfl rfl (GO.off rfl rfl rfl rfl rfl rfl (GO.ps 2 rfl (GO.nil (G.run 3 rfl ?_)))))))))⟩))))
  obtain rfl := Option.some.inj H
  exact G.ret1 _ func141 rfl rfl ⟨rfl, (HS.pk 1 [] rfl)⟩
end Go.Proofs.YthjomdggdaocgaaGreatDoor
