/-
  The walks through the functions: a call comes to what its list function says.
-/
import Derived.Test.YtdfiglhdjlmakaaGreatAlF
import Derived.Test.YtdfiglhdjlmakaaGreatAlW1
import Derived.Test.YtdfiglhdjlmakaaGreatAlW2
import Derived.Test.YtdfiglhdjlmakaaGreatAlW3
set_option linter.unusedVariables false
set_option linter.unusedSimpArgs false
namespace Go.Proofs.YtdfiglhdjlmakaaGreat
open Go.RowKit
open Tryz
set_option maxRecDepth 20000
set_option maxHeartbeats 40000000
theorem impl_isTriangle.calls {w0 w : World} {L : List HObj} {K : Nat} {region : List Int} {A_a : Option Addr} {c_a : Nat} {r1 : Bool} (HS : St w0 w (L)) (r_a : RdIn w0 L (TInt .i64) A_a c_a (fun _ => ()) region) (H : impl_isTriangle.f K region = some r1) :
    Calls prog 112 #[.slice A_a region.length c_a] w (impl_isTriangle.post w0 L r1) := by
  unfold impl_isTriangle.f at H
  refine Calls.of_G func112 rfl rfl rfl ?_
  refine G.run 4 rfl ?_
  rcases ite_elim H with ⟨c7, H⟩ | ⟨c7, H⟩
  ·
   obtain ⟨c8, H⟩ := ite_none H
   obtain ⟨c9, H⟩ := ite_none H
   rcases ite_elim H with ⟨c10, H⟩ | ⟨c10, H⟩
   ·
    refine G.lex mixed [0, 1, 2, 3, 4, 5, 8, 9, 6, 7, 10, 11, 12, 13, 14, 15, 16, 19, 20, 17, 18, 21, 22, 23, 24, 25, 26, 27, 30, 31, 28, 29, 32, 33, 34, 35] (by kernel_rfl) ?_
    replace HS := HS.drew
    refine GX.ps 1 rfl (GX.l1 rfl rfl rfl (fun _ g => GO.lenS rfl rfl underlying74 rfl g) rfl (GX.ps 1 rfl (GX.l0 rfl rfl (fun _ _ g => GO.move rfl rfl rfl (GO.known (t := 12) rfl (congrArg Bool.not (decide_eq_true c7)) g)) rfl (GX.l0 rfl rfl (fun _ _ g => GO.on rfl rfl rfl rfl (GO.move rfl rfl rfl (GO.back g))) rfl (GX.l0 rfl rfl (fun _ _ g => GO.on rfl rfl rfl rfl (GO.ix rfl rfl rfl underlying74 sz2 (r_a _ HS).2.2.1 c8.1 c8.2 rfl (GO.back g))) rfl (GX.l0 rfl rfl (fun _ _ g => GO.on rfl rfl rfl rfl (GO.move rfl rfl rfl (GO.back g))) rfl (GX.l0 rfl rfl (fun _ _ g => GO.on rfl rfl rfl rfl (GO.ix rfl rfl rfl underlying74 sz2 (r_a _ HS).2.2.1 c9.1 c9.2 rfl (GO.back g))) rfl (GX.l1 rfl rfl rfl (fun _ g => GO.on rfl rfl rfl rfl (GO.ldRd (T := (TInt .i64)) (n := 0) (o := 0) HS r_a rfl rfl (getD_some (d := 0) (ltN c8)) rfl rfl na2 rfl (GO.back g))) rfl (GX.l0 rfl rfl (fun _ _ g => GO.on rfl rfl rfl rfl (GO.quo rfl rfl rfl (by decide) rfl (GO.back g))) rfl (GX.l1 rfl rfl rfl (fun _ g => GO.on rfl rfl rfl rfl (GO.ldRd (T := (TInt .i64)) (n := 1) (o := 0) HS r_a rfl rfl (getD_some (d := 0) (ltN c9)) rfl rfl na2 rfl (GO.back g))) rfl (GX.l0 rfl rfl (fun _ _ g => GO.on rfl rfl rfl rfl (GO.quo rfl rfl rfl (by decide) rfl (GO.back g))) rfl (GX.l0 rfl rfl (fun _ _ g => GO.on rfl rfl rfl rfl (GO.eql rfl rfl rfl rfl (GO.back g))) rfl (GX.ps 1 rfl (GX.l0 rfl rfl (fun _ _ g => GO.move rfl rfl rfl (GO.known (t := 23) rfl (decide_eq_true c10) g)) rfl ?_))))))))))))))
    refine GX.l0 rfl rfl (fun _ _ g => GO.off rfl rfl rfl rfl rfl rfl g) rfl (GX.l0 rfl rfl (fun _ _ g => GO.off rfl rfl rfl rfl rfl rfl g) rfl (GX.l0 rfl rfl (fun _ _ g => GO.off rfl rfl rfl rfl rfl rfl g) rfl (GX.l0 rfl rfl (fun _ _ g => GO.off rfl rfl rfl rfl rfl rfl g) rfl (GX.l1 rfl rfl rfl (fun _ g => GO.off rfl rfl rfl rfl rfl rfl g) rfl (GX.l0 rfl rfl (fun _ _ g => GO.off rfl rfl rfl rfl rfl rfl g) rfl (GX.l1 rfl rfl rfl (fun _ g => GO.off rfl rfl rfl rfl rfl rfl g) rfl (GX.l0 rfl rfl (fun _ _ g => GO.off rfl rfl rfl rfl rfl rfl g) rfl (GX.l0 rfl rfl (fun _ _ g => GO.off rfl rfl rfl rfl rfl rfl g) rfl (GX.ps 2 rfl (GX.l0 rfl rfl (fun _ _ g => GO.off rfl rfl rfl rfl rfl rfl g) rfl (GX.l0 rfl rfl (fun _ _ g => GO.off rfl rfl rfl rfl rfl rfl g) rfl (GX.l0 rfl rfl (fun _ _ g => GO.off rfl rfl rfl rfl rfl rfl g) rfl (GX.l0 rfl rfl (fun _ _ g => GO.off rfl rfl rfl rfl rfl rfl g) rfl (GX.l1 rfl rfl rfl (fun _ g => GO.off rfl rfl rfl rfl rfl rfl g) rfl ?_))))))))))))))
    refine GX.l0 rfl rfl (fun _ _ g => GO.off rfl rfl rfl rfl rfl rfl g) rfl (GX.l1 rfl rfl rfl (fun _ g => GO.off rfl rfl rfl rfl rfl rfl g) rfl (GX.l0 rfl rfl (fun _ _ g => GO.off rfl rfl rfl rfl rfl rfl g) rfl (GX.l0 rfl rfl (fun _ _ g => GO.off rfl rfl rfl rfl rfl rfl g) rfl (GX.ps 1 rfl (GX.nil (G.run 3 rfl ?_))))))
    obtain rfl := Option.some.inj H
    exact G.ret1 _ func112 rfl rfl ⟨rfl, HS⟩
   obtain ⟨c11, H⟩ := ite_none H
   rcases ite_elim H with ⟨c12, H⟩ | ⟨c12, H⟩
   ·
    refine G.lex mixed [0, 1, 2, 3, 4, 5, 8, 9, 6, 7, 10, 11, 12, 13, 14, 15, 16, 19, 20, 17, 18, 21, 22, 23, 24, 25, 26, 27, 30, 31, 28, 29, 32, 33, 34, 35] (by kernel_rfl) ?_
    replace HS := HS.drew
    refine GX.ps 1 rfl (GX.l1 rfl rfl rfl (fun _ g => GO.lenS rfl rfl underlying74 rfl g) rfl (GX.ps 1 rfl (GX.l0 rfl rfl (fun _ _ g => GO.move rfl rfl rfl (GO.known (t := 12) rfl (congrArg Bool.not (decide_eq_true c7)) g)) rfl (GX.l0 rfl rfl (fun _ _ g => GO.on rfl rfl rfl rfl (GO.move rfl rfl rfl (GO.back g))) rfl (GX.l0 rfl rfl (fun _ _ g => GO.on rfl rfl rfl rfl (GO.ix rfl rfl rfl underlying74 sz2 (r_a _ HS).2.2.1 c8.1 c8.2 rfl (GO.back g))) rfl (GX.l0 rfl rfl (fun _ _ g => GO.on rfl rfl rfl rfl (GO.move rfl rfl rfl (GO.back g))) rfl (GX.l0 rfl rfl (fun _ _ g => GO.on rfl rfl rfl rfl (GO.ix rfl rfl rfl underlying74 sz2 (r_a _ HS).2.2.1 c9.1 c9.2 rfl (GO.back g))) rfl (GX.l1 rfl rfl rfl (fun _ g => GO.on rfl rfl rfl rfl (GO.ldRd (T := (TInt .i64)) (n := 0) (o := 0) HS r_a rfl rfl (getD_some (d := 0) (ltN c8)) rfl rfl na2 rfl (GO.back g))) rfl (GX.l0 rfl rfl (fun _ _ g => GO.on rfl rfl rfl rfl (GO.quo rfl rfl rfl (by decide) rfl (GO.back g))) rfl (GX.l1 rfl rfl rfl (fun _ g => GO.on rfl rfl rfl rfl (GO.ldRd (T := (TInt .i64)) (n := 1) (o := 0) HS r_a rfl rfl (getD_some (d := 0) (ltN c9)) rfl rfl na2 rfl (GO.back g))) rfl (GX.l0 rfl rfl (fun _ _ g => GO.on rfl rfl rfl rfl (GO.quo rfl rfl rfl (by decide) rfl (GO.back g))) rfl (GX.l0 rfl rfl (fun _ _ g => GO.on rfl rfl rfl rfl (GO.eql rfl rfl rfl rfl (GO.back g))) rfl (GX.ps 1 rfl (GX.l0 rfl rfl (fun _ _ g => GO.move rfl rfl rfl (GO.known (t := 23) rfl (decide_eq_false c10) g)) rfl ?_))))))))))))))
    refine GX.l0 rfl rfl (fun _ _ g => GO.on rfl rfl rfl rfl (GO.move rfl rfl rfl (GO.back g))) rfl (GX.l0 rfl rfl (fun _ _ g => GO.on rfl rfl rfl rfl (GO.ix rfl rfl rfl underlying74 sz2 (r_a _ HS).2.2.1 c9.1 c9.2 rfl (GO.back g))) rfl (GX.l0 rfl rfl (fun _ _ g => GO.on rfl rfl rfl rfl (GO.move rfl rfl rfl (GO.back g))) rfl (GX.l0 rfl rfl (fun _ _ g => GO.on rfl rfl rfl rfl (GO.ix rfl rfl rfl underlying74 sz2 (r_a _ HS).2.2.1 c11.1 c11.2 rfl (GO.back g))) rfl (GX.l1 rfl rfl rfl (fun _ g => GO.on rfl rfl rfl rfl (GO.ldRd (T := (TInt .i64)) (n := 1) (o := 0) HS r_a rfl rfl (getD_some (d := 0) (ltN c9)) rfl rfl na2 rfl (GO.back g))) rfl (GX.l0 rfl rfl (fun _ _ g => GO.on rfl rfl rfl rfl (GO.quo rfl rfl rfl (by decide) rfl (GO.back g))) rfl (GX.l1 rfl rfl rfl (fun _ g => GO.on rfl rfl rfl rfl (GO.ldRd (T := (TInt .i64)) (n := 2) (o := 0) HS r_a rfl rfl (getD_some (d := 0) (ltN c11)) rfl rfl na2 rfl (GO.back g))) rfl (GX.l0 rfl rfl (fun _ _ g => GO.on rfl rfl rfl rfl (GO.quo rfl rfl rfl (by decide) rfl (GO.back g))) rfl (GX.l0 rfl rfl (fun _ _ g => GO.on rfl rfl rfl rfl (GO.eql rfl rfl rfl rfl (GO.back g))) rfl (GX.ps 1 rfl (GX.l0 rfl rfl (fun _ _ g => GO.move rfl rfl rfl (GO.known (t := 34) rfl (decide_eq_true c12) g)) rfl (GX.l0 rfl rfl (fun _ _ g => GO.off rfl rfl rfl rfl rfl rfl g) rfl (GX.l0 rfl rfl (fun _ _ g => GO.off rfl rfl rfl rfl rfl rfl g) rfl (GX.l0 rfl rfl (fun _ _ g => GO.off rfl rfl rfl rfl rfl rfl g) rfl (GX.l0 rfl rfl (fun _ _ g => GO.off rfl rfl rfl rfl rfl rfl g) rfl ?_))))))))))))))
    refine GX.l1 rfl rfl rfl (fun _ g => GO.off rfl rfl rfl rfl rfl rfl g) rfl (GX.l0 rfl rfl (fun _ _ g => GO.off rfl rfl rfl rfl rfl rfl g) rfl (GX.l1 rfl rfl rfl (fun _ g => GO.off rfl rfl rfl rfl rfl rfl g) rfl (GX.l0 rfl rfl (fun _ _ g => GO.off rfl rfl rfl rfl rfl rfl g) rfl (GX.l0 rfl rfl (fun _ _ g => GO.off rfl rfl rfl rfl rfl rfl g) rfl (GX.ps 1 rfl (GX.nil (G.run 3 rfl ?_)))))))
    obtain rfl := Option.some.inj H
    exact G.ret1 _ func112 rfl rfl ⟨rfl, HS⟩
   refine G.lex mixed [0, 1, 2, 3, 4, 5, 8, 9, 6, 7, 10, 11, 12, 13, 14, 15, 16, 19, 20, 17, 18, 21, 22, 23, 24, 25, 26, 27, 30, 31, 28, 29, 32, 33, 34, 35] (by kernel_rfl) ?_
   replace HS := HS.drew
   refine GX.ps 1 rfl (GX.l1 rfl rfl rfl (fun _ g => GO.lenS rfl rfl underlying74 rfl g) rfl (GX.ps 1 rfl (GX.l0 rfl rfl (fun _ _ g => GO.move rfl rfl rfl (GO.known (t := 12) rfl (congrArg Bool.not (decide_eq_true c7)) g)) rfl (GX.l0 rfl rfl (fun _ _ g => GO.on rfl rfl rfl rfl (GO.move rfl rfl rfl (GO.back g))) rfl (GX.l0 rfl rfl (fun _ _ g => GO.on rfl rfl rfl rfl (GO.ix rfl rfl rfl underlying74 sz2 (r_a _ HS).2.2.1 c8.1 c8.2 rfl (GO.back g))) rfl (GX.l0 rfl rfl (fun _ _ g => GO.on rfl rfl rfl rfl (GO.move rfl rfl rfl (GO.back g))) rfl (GX.l0 rfl rfl (fun _ _ g => GO.on rfl rfl rfl rfl (GO.ix rfl rfl rfl underlying74 sz2 (r_a _ HS).2.2.1 c9.1 c9.2 rfl (GO.back g))) rfl (GX.l1 rfl rfl rfl (fun _ g => GO.on rfl rfl rfl rfl (GO.ldRd (T := (TInt .i64)) (n := 0) (o := 0) HS r_a rfl rfl (getD_some (d := 0) (ltN c8)) rfl rfl na2 rfl (GO.back g))) rfl (GX.l0 rfl rfl (fun _ _ g => GO.on rfl rfl rfl rfl (GO.quo rfl rfl rfl (by decide) rfl (GO.back g))) rfl (GX.l1 rfl rfl rfl (fun _ g => GO.on rfl rfl rfl rfl (GO.ldRd (T := (TInt .i64)) (n := 1) (o := 0) HS r_a rfl rfl (getD_some (d := 0) (ltN c9)) rfl rfl na2 rfl (GO.back g))) rfl (GX.l0 rfl rfl (fun _ _ g => GO.on rfl rfl rfl rfl (GO.quo rfl rfl rfl (by decide) rfl (GO.back g))) rfl (GX.l0 rfl rfl (fun _ _ g => GO.on rfl rfl rfl rfl (GO.eql rfl rfl rfl rfl (GO.back g))) rfl (GX.ps 1 rfl (GX.l0 rfl rfl (fun _ _ g => GO.move rfl rfl rfl (GO.known (t := 23) rfl (decide_eq_false c10) g)) rfl ?_))))))))))))))
   refine GX.l0 rfl rfl (fun _ _ g => GO.on rfl rfl rfl rfl (GO.move rfl rfl rfl (GO.back g))) rfl (GX.l0 rfl rfl (fun _ _ g => GO.on rfl rfl rfl rfl (GO.ix rfl rfl rfl underlying74 sz2 (r_a _ HS).2.2.1 c9.1 c9.2 rfl (GO.back g))) rfl (GX.l0 rfl rfl (fun _ _ g => GO.on rfl rfl rfl rfl (GO.move rfl rfl rfl (GO.back g))) rfl (GX.l0 rfl rfl (fun _ _ g => GO.on rfl rfl rfl rfl (GO.ix rfl rfl rfl underlying74 sz2 (r_a _ HS).2.2.1 c11.1 c11.2 rfl (GO.back g))) rfl (GX.l1 rfl rfl rfl (fun _ g => GO.on rfl rfl rfl rfl (GO.ldRd (T := (TInt .i64)) (n := 1) (o := 0) HS r_a rfl rfl (getD_some (d := 0) (ltN c9)) rfl rfl na2 rfl (GO.back g))) rfl (GX.l0 rfl rfl (fun _ _ g => GO.on rfl rfl rfl rfl (GO.quo rfl rfl rfl (by decide) rfl (GO.back g))) rfl (GX.l1 rfl rfl rfl (fun _ g => GO.on rfl rfl rfl rfl (GO.ldRd (T := (TInt .i64)) (n := 2) (o := 0) HS r_a rfl rfl (getD_some (d := 0) (ltN c11)) rfl rfl na2 rfl (GO.back g))) rfl (GX.l0 rfl rfl (fun _ _ g => GO.on rfl rfl rfl rfl (GO.quo rfl rfl rfl (by decide) rfl (GO.back g))) rfl (GX.l0 rfl rfl (fun _ _ g => GO.on rfl rfl rfl rfl (GO.eql rfl rfl rfl rfl (GO.back g))) rfl (GX.ps 1 rfl (GX.l0 rfl rfl (fun _ _ g => GO.move rfl rfl rfl (GO.known (t := 34) rfl (decide_eq_false c12) g)) rfl (GX.l0 rfl rfl (fun _ _ g => GO.on rfl rfl rfl rfl (GO.move rfl rfl rfl (GO.back g))) rfl (GX.l0 rfl rfl (fun _ _ g => GO.on rfl rfl rfl rfl (GO.ix rfl rfl rfl underlying74 sz2 (r_a _ HS).2.2.1 c11.1 c11.2 rfl (GO.back g))) rfl (GX.l0 rfl rfl (fun _ _ g => GO.on rfl rfl rfl rfl (GO.move rfl rfl rfl (GO.back g))) rfl (GX.l0 rfl rfl (fun _ _ g => GO.on rfl rfl rfl rfl (GO.ix rfl rfl rfl underlying74 sz2 (r_a _ HS).2.2.1 c8.1 c8.2 rfl (GO.back g))) rfl ?_))))))))))))))
   refine GX.l1 rfl rfl rfl (fun _ g => GO.on rfl rfl rfl rfl (GO.ldRd (T := (TInt .i64)) (n := 2) (o := 0) HS r_a rfl rfl (getD_some (d := 0) (ltN c11)) rfl rfl na2 rfl (GO.back g))) rfl (GX.l0 rfl rfl (fun _ _ g => GO.on rfl rfl rfl rfl (GO.quo rfl rfl rfl (by decide) rfl (GO.back g))) rfl (GX.l1 rfl rfl rfl (fun _ g => GO.on rfl rfl rfl rfl (GO.ldRd (T := (TInt .i64)) (n := 0) (o := 0) HS r_a rfl rfl (getD_some (d := 0) (ltN c8)) rfl rfl na2 rfl (GO.back g))) rfl (GX.l0 rfl rfl (fun _ _ g => GO.on rfl rfl rfl rfl (GO.quo rfl rfl rfl (by decide) rfl (GO.back g))) rfl (GX.l0 rfl rfl (fun _ _ g => GO.on rfl rfl rfl rfl (GO.eql rfl rfl rfl rfl (GO.back g))) rfl (GX.ps 1 rfl (GX.nil ?_))))))
   rcases ite_elim H with ⟨c13, H⟩ | ⟨c13, H⟩
   ·
    refine G.yesB rfl (decide_eq_true c13) (G.run 2 rfl ?_)
    obtain rfl := Option.some.inj H
    exact G.ret1 _ func112 rfl rfl ⟨rfl, HS⟩
   refine G.noB rfl (decide_eq_false c13) (G.run 5 rfl (G.region (GO.move rfl rfl rfl (GO.lenS rfl rfl underlying74 rfl (GO.move rfl rfl rfl (GO.nil (G.run 2 rfl ?_)))))))
   refine G.name (fun k_l1 hk_l1 => ?_)
   have at_l1 : ∀ m_l1, m_l1 ≤ K → ∀ (upper_31 lower_32 : Bool) (x33 : Int) (w : World), impl_isTriangle.l1 K m_l1 region upper_31 lower_32 x33 = some r1 → St w0 w (L) → G prog 112 85 [(0, .slice A_a region.length c_a), (3, .bool upper_31), (4, .bool lower_32), (45, .slice A_a region.length c_a), (46, .int .i64 (region.length : Int)), (47, .int .i64 x33)] k_l1 w (impl_isTriangle.post w0 L r1) := by
    intro m_l1
    induction m_l1 using Nat.strongRecOn with
    | _ m_l1 ih_l1 =>
     intro hm_l1 upper_31 lower_32 x33 w H HS
     cases m_l1 with
     | zero => rw [impl_isTriangle.l1] at H; cases H
     | succ n_l1 =>
      rw [impl_isTriangle.l1] at H
      subst hk_l1
      refine G.run 3 rfl ?_
      rcases ite_elim H with ⟨c55, H⟩ | ⟨c55, H⟩
      ·
       refine G.yesB rfl (decide_eq_true c55) (G.run 4 rfl ?_)
       obtain ⟨c56, H⟩ := ite_none H
       refine G.region (GO.move rfl rfl rfl (GO.ix rfl rfl rfl underlying74 sz2 (r_a _ HS).2.2.1 c56.1 c56.2 rfl (GO.ldRd (T := (TInt .i64)) (n := x33.toNat) (o := 0) HS r_a rfl rfl (getD_some (d := 0) (ltN c56)) rfl rfl na2 rfl (GO.ps 2 rfl (GO.nil (G.seq ?_))))))
       obtain ⟨t57, h58, H⟩ := Option.bind_eq_some_iff.1 H
       obtain ⟨c61, H⟩ := ite_none H
       obtain ⟨t62, h63, H⟩ := Option.bind_eq_some_iff.1 H
       refine G.lexS mixed (fun w => St w0 w (L)) [9] [0, 1, 2, 4, 5, 6, 7, 8, 9, 10, 3, 11, 12, 13] 14 (by kernel_rfl) (by kernel_rfl) HS.drew ?_
       replace HS := HS.drew
       refine GX.ps 2 rfl (GX.l0 rfl rfl (fun _ _ g => GO.rem rfl rfl rfl (by decide) rfl g) rfl (GX.ps 3 rfl (GX.l0 rfl rfl (fun _ _ g => GO.rem rfl rfl rfl (by decide) rfl g) rfl (GX.l0 rfl rfl (fun _ _ g => GO.ix rfl rfl rfl underlying74 sz2 (r_a _ HS).2.2.1 c61.1 c61.2 rfl g) rfl (GX.ls rfl rfl rfl HS (fun _ HS _ g => GO.ldRd (T := (TInt .i64)) (n := ((w64 (x33 + 1)).tmod 3).toNat) (o := 0) HS r_a rfl rfl (getD_some (d := 0) (ltN c61)) rfl rfl na2 rfl g) rfl (GX.l0 rfl rfl (fun _ _ g => GO.rem rfl rfl rfl (by decide) rfl g) rfl (GX.l2 rfl (GO.fn rfl func109 fok109.1 fok109.2 rfl rfl (impl_isUpper.calls HS  h58) (fun _ wd59 ⟨h60, HS⟩ => ⟨_, h60, (GX.fin HS (GX.l2 rfl (GO.fn rfl func109 fok109.1 fok109.2 rfl rfl (impl_isUpper.calls HS  h63) (fun _ wd64 ⟨h65, HS⟩ => ⟨_, h65, (GX.fin HS (GX.ps 2 rfl (GX.nil ?_)))⟩))))⟩)))))))))
       refine G.seq ?_
       refine G.nameT (fun k_j4 hk_j4 => ?_)
       have at_j4 : ∀ m_j4, m_j4 ≤ n_l1 → ∀ (upper_70 : Bool) (w : World), impl_isTriangle.j4 K m_j4 region lower_32 x33 t57 t62 upper_70 = some r1 → St w0 w (L) → G prog 112 85 [(0, .slice A_a region.length c_a), (3, .bool upper_70), (4, .bool lower_32), (7, .bool t57), (8, .bool t62), (45, .slice A_a region.length c_a), (46, .int .i64 (region.length : Int)), (47, .int .i64 x33)] k_j4 w (impl_isTriangle.post w0 L r1) := by
        intro m_j4 hm_j4 upper_70 w H HS
        cases m_j4 with
        | zero => rw [impl_isTriangle.j4] at H; cases H
        | succ n_j4 =>
         rw [impl_isTriangle.j4] at H
         subst hk_j4
         rcases ite_elim H with ⟨c71, H⟩ | ⟨c71, H⟩
         ·
          refine G.region (GO.ps 2 rfl (GO.known (t := 72) rfl c71 (GO.off rfl rfl rfl rfl rfl rfl (GO.off rfl rfl rfl rfl rfl rfl (GO.off rfl rfl rfl rfl rfl rfl (GO.offU rfl rfl rfl rfl rfl rfl (GO.offU rfl rfl rfl rfl rfl rfl (GO.off rfl rfl rfl rfl rfl rfl (GO.ps 2 rfl (GO.nil (G.run 3 rfl (G.weak ?_ (ih_l1 n_j4 (by omega) (by omega) _ _ _ _ H HS)))))))))))))
          exact ⟨rfl, rfl, rfl, rfl, rfl, rfl, trivial⟩
         rcases ite_elim H with ⟨c72, H⟩ | ⟨c72, H⟩
         ·
          refine G.region (GO.ps 2 rfl (GO.known (t := 72) rfl (bnot_of c71) (GO.on rfl rfl rfl rfl (GO.move rfl rfl rfl (GO.back (GO.on rfl rfl rfl rfl (GO.not rfl rfl rfl (GO.back (GO.on rfl rfl rfl rfl (GO.move rfl rfl rfl (GO.back (GO.known (t := 75) rfl (congrArg Bool.not c72) (GO.off rfl rfl rfl rfl rfl rfl (GO.off rfl rfl rfl rfl rfl rfl ?_))))))))))))))
          refine GO.on rfl rfl rfl rfl (GO.pickF rfl rfl rfl rfl rfl (GO.back (GO.ps 2 rfl (GO.nil (G.run 3 rfl (G.weak ?_ (ih_l1 n_j4 (by omega) (by omega) _ _ _ _ H HS)))))))
          exact ⟨rfl, rfl, rfl, rfl, rfl, rfl, trivial⟩
         refine G.region (GO.ps 2 rfl (GO.known (t := 72) rfl (bnot_of c71) (GO.on rfl rfl rfl rfl (GO.move rfl rfl rfl (GO.back (GO.on rfl rfl rfl rfl (GO.not rfl rfl rfl (GO.back (GO.on rfl rfl rfl rfl (GO.move rfl rfl rfl (GO.back (GO.known (t := 75) rfl (congrArg Bool.not (bnot_of c72)) (GO.on rfl rfl rfl rfl (GO.move rfl rfl rfl ?_))))))))))))))
         refine GO.back (GO.on rfl rfl rfl rfl (GO.not rfl rfl rfl (GO.back (GO.on rfl rfl rfl rfl (GO.pickT rfl rfl rfl rfl rfl (GO.back (GO.ps 2 rfl (GO.nil (G.run 3 rfl (G.weak ?_ (ih_l1 n_j4 (by omega) (by omega) _ _ _ _ H HS)))))))))))
         exact ⟨rfl, rfl, rfl, rfl, rfl, rfl, trivial⟩
       rcases ite_elim H with ⟨c73, H⟩ | ⟨c73, H⟩
       ·
        refine G.region (GO.ps 2 rfl (GO.known (t := 65) rfl c73 (GO.off rfl rfl rfl rfl rfl rfl (GO.off rfl rfl rfl rfl rfl rfl (GO.offU rfl rfl rfl rfl rfl rfl (GO.off rfl rfl rfl rfl rfl rfl (GO.ps 2 rfl (GO.nil (G.weak ?_ (at_j4 n_l1 (Nat.le_refl _) _ _ H HS))))))))))
        exact ⟨rfl, rfl, rfl, rfl, rfl, rfl, rfl, rfl, trivial⟩
       rcases ite_elim H with ⟨c74, H⟩ | ⟨c74, H⟩
       ·
        refine G.region (GO.ps 2 rfl (GO.known (t := 65) rfl (bnot_of c73) (GO.on rfl rfl rfl rfl (GO.move rfl rfl rfl (GO.back (GO.on rfl rfl rfl rfl (GO.move rfl rfl rfl (GO.back (GO.known (t := 67) rfl c74 (GO.on rfl rfl rfl rfl (GO.move rfl rfl rfl (GO.back (GO.on rfl rfl rfl rfl (GO.pickT rfl rfl rfl rfl rfl ?_))))))))))))))
        refine GO.back (GO.ps 2 rfl (GO.nil (G.weak ?_ (at_j4 n_l1 (Nat.le_refl _) _ _ H HS))))
        exact ⟨rfl, rfl, rfl, rfl, rfl, rfl, rfl, rfl, trivial⟩
       refine G.region (GO.ps 2 rfl (GO.known (t := 65) rfl (bnot_of c73) (GO.on rfl rfl rfl rfl (GO.move rfl rfl rfl (GO.back (GO.on rfl rfl rfl rfl (GO.move rfl rfl rfl (GO.back (GO.known (t := 67) rfl (bnot_of c74) (GO.off rfl rfl rfl rfl rfl rfl (GO.on rfl rfl rfl rfl (GO.pickF rfl rfl rfl rfl rfl (GO.back (GO.ps 2 rfl ?_))))))))))))))
       refine GO.nil (G.weak ?_ (at_j4 n_l1 (Nat.le_refl _) _ _ H HS))
       exact ⟨rfl, rfl, rfl, rfl, rfl, rfl, rfl, rfl, trivial⟩
      refine G.noB rfl (decide_eq_false c55) (G.run 2 rfl ?_)
      rcases ite_elim H with ⟨c75, H⟩ | ⟨c75, H⟩
      ·
       refine G.region (GO.ps 2 rfl (GO.known (t := 82) rfl c75 (GO.on rfl rfl rfl rfl (GO.move rfl rfl rfl (GO.back (GO.ps 2 rfl (GO.nil ?_)))))))
       obtain rfl := Option.some.inj H
       exact G.ret1 _ func112 rfl rfl ⟨rfl, HS⟩
      refine G.region (GO.ps 2 rfl (GO.known (t := 82) rfl (bnot_of c75) (GO.off rfl rfl rfl rfl rfl rfl (GO.ps 2 rfl (GO.nil ?_)))))
      obtain rfl := Option.some.inj H
      exact G.ret1 _ func112 rfl rfl ⟨rfl, HS⟩
   refine G.weak ?_ (at_l1 K (Nat.le_refl _) _ _ _ _ H HS)
   exact ⟨rfl, rfl, rfl, rfl, rfl, rfl, trivial⟩
  refine G.lex mixed [0, 1, 2, 3, 4, 5, 8, 9, 6, 7, 10, 11, 12, 13, 14, 15, 16, 19, 20, 17, 18, 21, 22, 23, 24, 25, 26, 27, 30, 31, 28, 29, 32, 33, 34, 35] (by kernel_rfl) ?_
  replace HS := HS.drew
  refine GX.ps 1 rfl (GX.l1 rfl rfl rfl (fun _ g => GO.lenS rfl rfl underlying74 rfl g) rfl (GX.ps 1 rfl (GX.l0 rfl rfl (fun _ _ g => GO.move rfl rfl rfl (GO.known (t := 12) rfl (congrArg Bool.not (decide_eq_false c7)) g)) rfl (GX.l0 rfl rfl (fun _ _ g => GO.off rfl rfl rfl rfl rfl rfl g) rfl (GX.l0 rfl rfl (fun _ _ g => GO.off rfl rfl rfl rfl rfl rfl g) rfl (GX.l0 rfl rfl (fun _ _ g => GO.off rfl rfl rfl rfl rfl rfl g) rfl (GX.l0 rfl rfl (fun _ _ g => GO.off rfl rfl rfl rfl rfl rfl g) rfl (GX.l1 rfl rfl rfl (fun _ g => GO.off rfl rfl rfl rfl rfl rfl g) rfl (GX.l0 rfl rfl (fun _ _ g => GO.off rfl rfl rfl rfl rfl rfl g) rfl (GX.l1 rfl rfl rfl (fun _ g => GO.off rfl rfl rfl rfl rfl rfl g) rfl (GX.l0 rfl rfl (fun _ _ g => GO.off rfl rfl rfl rfl rfl rfl g) rfl (GX.l0 rfl rfl (fun _ _ g => GO.off rfl rfl rfl rfl rfl rfl g) rfl (GX.ps 2 rfl (GX.l0 rfl rfl (fun _ _ g => GO.off rfl rfl rfl rfl rfl rfl g) rfl ?_))))))))))))))
  refine GX.l0 rfl rfl (fun _ _ g => GO.off rfl rfl rfl rfl rfl rfl g) rfl (GX.l0 rfl rfl (fun _ _ g => GO.off rfl rfl rfl rfl rfl rfl g) rfl (GX.l0 rfl rfl (fun _ _ g => GO.off rfl rfl rfl rfl rfl rfl g) rfl (GX.l1 rfl rfl rfl (fun _ g => GO.off rfl rfl rfl rfl rfl rfl g) rfl (GX.l0 rfl rfl (fun _ _ g => GO.off rfl rfl rfl rfl rfl rfl g) rfl (GX.l1 rfl rfl rfl (fun _ g => GO.off rfl rfl rfl rfl rfl rfl g) rfl (GX.l0 rfl rfl (fun _ _ g => GO.off rfl rfl rfl rfl rfl rfl g) rfl (GX.l0 rfl rfl (fun _ _ g => GO.off rfl rfl rfl rfl rfl rfl g) rfl (GX.ps 2 rfl (GX.l0 rfl rfl (fun _ _ g => GO.off rfl rfl rfl rfl rfl rfl g) rfl (GX.l0 rfl rfl (fun _ _ g => GO.off rfl rfl rfl rfl rfl rfl g) rfl (GX.l0 rfl rfl (fun _ _ g => GO.off rfl rfl rfl rfl rfl rfl g) rfl (GX.l0 rfl rfl (fun _ _ g => GO.off rfl rfl rfl rfl rfl rfl g) rfl (GX.l1 rfl rfl rfl (fun _ g => GO.off rfl rfl rfl rfl rfl rfl g) rfl (GX.l0 rfl rfl (fun _ _ g => GO.off rfl rfl rfl rfl rfl rfl g) rfl ?_))))))))))))))
  refine GX.l1 rfl rfl rfl (fun _ g => GO.off rfl rfl rfl rfl rfl rfl g) rfl (GX.l0 rfl rfl (fun _ _ g => GO.off rfl rfl rfl rfl rfl rfl g) rfl (GX.l0 rfl rfl (fun _ _ g => GO.off rfl rfl rfl rfl rfl rfl g) rfl (GX.ps 1 rfl (GX.nil (G.run 3 rfl ?_)))))
  obtain rfl := Option.some.inj H
  exact G.ret1 _ func112 rfl rfl ⟨rfl, HS⟩
theorem impl_Diagram_triangles_fn1.calls {w0 w : World} {L : List HObj} {K : Nat} {region : List Int} {A_a : Option Addr} {c_a : Nat} {r1 : Bool} (HS : St w0 w (L)) (r_a : RdIn w0 L (TInt .i64) A_a c_a (fun _ => ()) region) (H : impl_Diagram_triangles_fn1.f K region = some r1) :
    Calls prog 111 #[.slice A_a region.length c_a] w (impl_Diagram_triangles_fn1.post w0 L r1) := by
  unfold impl_Diagram_triangles_fn1.f at H
  refine Calls.of_G func111 rfl rfl rfl ?_
  refine G.run 3 rfl ?_
  obtain ⟨t1, h2, H⟩ := Option.bind_eq_some_iff.1 H
  refine G.region (GO.move rfl rfl rfl (GO.fn rfl func112 fok112.1 fok112.2 rfl rfl (impl_isTriangle.calls HS r_a h2) (fun _ wd3 ⟨h4, HS⟩ => ⟨_, h4, (GO.ps 2 rfl (GO.nil ?_))⟩)))
  obtain rfl := Option.some.inj H
  exact G.ret1 _ func111 rfl rfl ⟨rfl, HS⟩
theorem slices_IndexFunc_int64_int64_123.calls {w0 w : World} {L : List HObj} {K : Nat} {s : List (List Int)} {A_a : Option Addr} {c_a : Nat} {y_a : Nat → (Ty.slice 2 (TInt .i64)).Lay} {r1 : Int} (HS : St w0 w (L)) (r_a : RdIn w0 L (Ty.slice 2 (TInt .i64)) A_a c_a y_a s) (H : slices_IndexFunc_int64_int64_123.f K s = some r1) :
    Calls prog 79 #[.slice A_a s.length c_a, .func (.func 111) #[] #[]] w (slices_IndexFunc_int64_int64_123.post w0 L r1) := by
  unfold slices_IndexFunc_int64_int64_123.f at H
  refine Calls.of_G func79 rfl rfl rfl ?_
  refine G.run 4 rfl (G.region (GO.move rfl rfl rfl (GO.lenS rfl rfl underlying55 rfl (GO.move rfl rfl rfl (GO.nil (G.run 2 rfl ?_))))))
  refine G.name (fun k_l1 hk_l1 => ?_)
  have at_l1 : ∀ m_l1, m_l1 ≤ K → ∀ (x8 : Int) (w : World), slices_IndexFunc_int64_int64_123.l1 K m_l1 s x8 = some r1 → St w0 w (L) → G prog 79 19 [(0, .slice A_a s.length c_a), (1, .func (.func 111) #[] #[]), (7, .int .i64 (s.length : Int)), (8, .int .i64 x8)] k_l1 w (slices_IndexFunc_int64_int64_123.post w0 L r1) := by
   intro m_l1
   induction m_l1 using Nat.strongRecOn with
   | _ m_l1 ih_l1 =>
    intro hm_l1 x8 w H HS
    cases m_l1 with
    | zero => rw [slices_IndexFunc_int64_int64_123.l1] at H; cases H
    | succ n_l1 =>
     rw [slices_IndexFunc_int64_int64_123.l1] at H
     subst hk_l1
     refine G.run 3 rfl ?_
     rcases ite_elim H with ⟨c16, H⟩ | ⟨c16, H⟩
     ·
      refine G.yesB rfl (decide_eq_true c16) (G.run 6 rfl ?_)
      obtain ⟨c17, H⟩ := ite_none H
      obtain ⟨t18, h19, H⟩ := Option.bind_eq_some_iff.1 H
      refine G.region (GO.ps 3 rfl (GO.ix rfl rfl rfl underlying55 sz74 (r_a _ HS).2.2.1 c17.1 c17.2 rfl (GO.ldRd (T := (Ty.slice 2 (TInt .i64))) (n := x8.toNat) (o := 0) HS r_a rfl rfl (getD_some (d := []) (ltN c17)) rfl rfl na74 rfl (GO.clo rfl rfl func111 fok111.1 fok111.2 rfl rfl (impl_Diagram_triangles_fn1.calls HS (RdIn.elem r_a c17.1 c17.2) h19) (fun _ wd20 ⟨h21, HS⟩ => ⟨_, h21, (GO.nil ?_)⟩)))))
      rcases ite_elim H with ⟨c22, H⟩ | ⟨c22, H⟩
      ·
       refine G.yesB rfl c22 (G.run 2 rfl ?_)
       obtain rfl := Option.some.inj H
       exact G.ret1 _ func79 rfl rfl ⟨rfl, HS⟩
      refine G.noB rfl (bnot_of c22) (G.run 4 rfl (G.weak ?_ (ih_l1 n_l1 (Nat.lt_succ_of_le (Nat.le_refl _)) (Nat.le_of_succ_le hm_l1) _ _ H HS)))
      exact ⟨rfl, rfl, rfl, rfl, trivial⟩
     refine G.noB rfl (decide_eq_false c16) (G.run 3 rfl ?_)
     obtain rfl := Option.some.inj H
     exact G.ret1 _ func79 rfl rfl ⟨rfl, HS⟩
  refine G.weak ?_ (at_l1 K (Nat.le_refl _) _ _ H HS)
  exact ⟨rfl, rfl, rfl, rfl, trivial⟩
theorem slices_DeleteFunc_int64_int64_123.calls {w0 w : World} {L : List HObj} {K : Nat} {s : List (List Int)} {A_a : Option Addr} {c_a : Nat} {y_a : Nat → (Ty.slice 2 (TInt .i64)).Lay} {r1 : List (List Int)} (HS : St w0 w (Own (Ty.slice 2 (TInt .i64)) 74 A_a c_a y_a s :: L)) (H : slices_DeleteFunc_int64_int64_123.f K s = some r1) :
    Calls prog 110 #[.slice A_a s.length c_a, .func (.func 111) #[] #[]] w (slices_DeleteFunc_int64_int64_123.post w0 L r1) := by
  unfold slices_DeleteFunc_int64_int64_123.f at H
  refine Calls.of_G func110 rfl rfl rfl ?_
  refine G.run 3 rfl ?_
  obtain ⟨t1, h2, H⟩ := Option.bind_eq_some_iff.1 H
  refine G.region (GO.ps 2 rfl (GO.fn rfl func79 fok79.1 fok79.2 rfl rfl (slices_IndexFunc_int64_int64_123.calls HS (RdIn.own (j := 0) rfl) h2) (fun _ wd3 ⟨h4, HS⟩ => ⟨_, h4, (GO.assign rfl rfl rfl (GO.nil (G.run 3 rfl ?_)))⟩)))
  rcases ite_elim H with ⟨c5, H⟩ | ⟨c5, H⟩
  ·
   refine G.yesB rfl (decide_eq_true c5) (G.run 2 rfl ?_)
   obtain rfl := Option.some.inj H
   exact G.ret1 _ func110 rfl rfl ⟨_, _, _, rfl, HS⟩
  refine G.noB rfl (decide_eq_false c5) (G.run 6 rfl ?_)
  replace HS := HS.split
  refine G.len (t := 0) (m := (allRows s.length).length) rfl (allRows_length _).symm ?_
  refine G.name (fun k_l1 hk_l1 => ?_)
  have at_l1 : ∀ m_l1, m_l1 ≤ K → ∀ (x22 : List (Option Nat)) (i_23 j_24 : Int) (w : World), slices_DeleteFunc_int64_int64_123.l1 K m_l1 s x22 i_23 j_24 = some r1 → St w0 w (Own (TIdx y_a s) 74 A_a c_a (fun _ => ()) x22 :: Rows_ (TInt .i64) 2 y_a s :: L) → G prog 110 42 [(0, .slice A_a x22.length c_a), (1, .func (.func 111) #[] #[]), (5, .int .i64 i_23), (6, .int .i64 j_24)] k_l1 w (slices_DeleteFunc_int64_int64_123.post w0 L r1) := by
   intro m_l1
   induction m_l1 using Nat.strongRecOn with
   | _ m_l1 ih_l1 =>
    intro hm_l1 x22 i_23 j_24 w H HS
    cases m_l1 with
    | zero => rw [slices_DeleteFunc_int64_int64_123.l1] at H; cases H
    | succ n_l1 =>
     rw [slices_DeleteFunc_int64_int64_123.l1] at H
     subst hk_l1
     refine G.run 2 rfl (G.region (GO.ps 2 rfl (GO.lenS rfl rfl underlying55 rfl (GO.lss rfl rfl rfl rfl (GO.nil ?_)))))
     rcases ite_elim H with ⟨c41, H⟩ | ⟨c41, H⟩
     ·
      refine G.yesB rfl (decide_eq_true c41) (G.run 4 rfl ?_)
      obtain ⟨c42, H⟩ := ite_none H
      obtain ⟨i43, h44, H⟩ := Option.bind_eq_some_iff.1 H
      obtain ⟨c45, H⟩ := ite_none H
      refine G.region (GO.ps 2 rfl (GO.ix rfl rfl rfl underlying55 sz74 ((RdIn.own (j := 0) rfl) _ HS).2.2.1 c42.1 c42.2 rfl (GO.ldRd (T := (TIdx y_a s)) (n := j_24.toNat) (o := 0) HS (RdIn.own (j := 0) rfl) rfl rfl (getD_eq (ltN c42) h44) rfl rfl na74 rfl (GO.assign rfl rfl rfl (GO.nil (G.seq ?_))))))
      obtain ⟨t46, h47, H⟩ := Option.bind_eq_some_iff.1 H
      refine G.region (GO.ps 2 rfl (GO.clo rfl rfl func111 fok111.1 fok111.2 rfl rfl (impl_Diagram_triangles_fn1.calls HS (RdIn.rows (j := 1) rfl c45) h47) (fun _ wd48 ⟨h49, HS⟩ => ⟨_, h49, (GO.not rfl rfl rfl (GO.nil ?_))⟩)))
      rcases ite_elim H with ⟨c50, H⟩ | ⟨c50, H⟩
      ·
       refine G.noB rfl (congrArg Bool.not c50) (G.run 4 rfl (G.weak ?_ (ih_l1 n_l1 (Nat.lt_succ_of_le (Nat.le_refl _)) (Nat.le_of_succ_le hm_l1) _ _ _ _ H HS)))
       exact ⟨rfl, rfl, rfl, rfl, trivial⟩
      refine G.yesB rfl (congrArg Bool.not (bnot_of c50)) (G.seq ?_)
      obtain ⟨c51, H⟩ := ite_none H
      refine G.region (GO.ps 3 rfl (GO.ix rfl rfl rfl underlying55 sz74 ((RdIn.own (j := 0) rfl) _ HS).2.2.1 c51.1 c51.2 rfl (GO.stRow (T := (TIdx y_a s)) (j := 0) (n := i_23.toNat) (o := 0) (vs := [.slice ((y_a i43).A) (s.getD i43 []).length ((y_a i43).c)]) (some i43) HS rfl flat_flat rfl rfl rfl rfl (htN na74 rfl) rfl (getD_some (d := none) (ltN c51)) rfl rfl fun wd52 HS => GO.nil (G.len (t := 0) (m := (x22.set i_23.toNat (some i43)).length) rfl (by simp only [List.length_set] <;> rfl) (G.run 4 rfl (G.weak ?_ (ih_l1 n_l1 (Nat.lt_succ_of_le (Nat.le_refl _)) (Nat.le_of_succ_le hm_l1) _ _ _ _ H HS)))))))
      exact ⟨rfl, rfl, rfl, rfl, trivial⟩
     refine G.noB rfl (decide_eq_false c41) (G.run 2 rfl ?_)
     obtain ⟨c53, H⟩ := ite_none H
     have h55 := over_lenR (xs := x22) (z := none) (cutN (leN c53) (Nat.le_refl _))
     refine G.region (GO.ps 2 rfl (GO.slL (T := (TIdx y_a s)) HS (RdIn.own (j := 0) rfl) rfl rfl rfl underlying55 sz74 c53.1 c53.2 rfl (GO.clearC (T := (TIdx y_a s)) (j := 0) (l := i_23.toNat) none () HS rfl flat_flat rfl rfl underlying55 zr74 rfl rfl (cutC (Nat.le_refl _) ((RdIn.own (j := 0) rfl) _ HS).1) (cutN (leN c53) (Nat.le_refl _)) (fun _ => rfl) fun wd54 HS => GO.nil (G.len (t := 0) (m := (over x22 i_23.toNat (List.replicate ((x22.take x22.length).drop i_23.toNat).length none)).length) rfl (by simp only [List.length_set, h55] <;> rfl) (G.seq ?_)))))
     obtain ⟨c56, H⟩ := ite_none H
     refine G.region (GO.ps 2 rfl (GO.slH (T := (TIdx y_a s)) HS (RdIn.own (j := 0) rfl) rfl rfl rfl underlying55 sz74 c56.1 c56.2 rfl (GO.assign rfl rfl rfl (GO.nil ?_))))
     obtain ⟨r57, h58, H⟩ := Option.bind_eq_some_iff.1 H
     obtain ⟨y59, h60, HS⟩ := St.unsplit (A' := (cutA A_a 0 c_a 1)) (c' := (c_a - 0)) HS (leN c56) h58 (cutA_zero _ _ _) rfl
     refine G.len (t := 4) (m := r57.length) rfl (by rw [h60, List.drop_zero, List.length_take]; exact Nat.min_eq_left (leN c56)) ?_
     obtain rfl := Option.some.inj H
     exact G.ret1 _ func110 rfl rfl ⟨_, _, _, rfl, HS⟩
  refine G.weak ?_ (at_l1 K (Nat.le_refl _) _ _ _ _ H HS)
  exact ⟨rfl, rfl, rfl, rfl, trivial⟩
theorem impl_Diagram_triangles.calls {w0 w : World} {L : List HObj} {K : Nat} {d_Crossings : List GCrossing} {d_Circles : Int} {a_from a_to : List GEnd} {A_a : Option Addr} {c_a : Nat} {A_b : Option Addr} {c_b : Nat} {A_c : Option Addr} {c_c : Nat} {r1 : List (List Int)} (HS : St w0 w (L)) (r_a : RdIn w0 L T_GCrossing A_a c_a (fun _ => ()) d_Crossings) (r_b : RdIn w0 L T_GEnd A_b c_b (fun _ => ()) a_from) (r_c : RdIn w0 L T_GEnd A_c c_c (fun _ => ()) a_to) (H : impl_Diagram_triangles.f K d_Crossings d_Circles a_from a_to = some r1) :
    Calls prog 78 #[.agg [.slice A_a d_Crossings.length c_a, .int .i64 d_Circles].toArray, .agg [.slice A_b a_from.length c_b, .slice A_c a_to.length c_c].toArray] w (impl_Diagram_triangles.post w0 L r1) := by
  unfold impl_Diagram_triangles.f at H
  refine Calls.of_G func78 rfl rfl rfl ?_
  refine G.seq (G.region (GO.box (cs := [.slice A_a d_Crossings.length c_a, .int .i64 d_Circles]) HS rfl rfl rfl rfl fun b1 wd2 HS => GO.box (cs := [.slice A_b a_from.length c_b, .slice A_c a_to.length c_c]) HS rfl rfl rfl rfl fun b3 wd4 HS => GO.assign rfl rfl rfl (GO.nil (G.seq ?_))))
  obtain ⟨t5, h6, H⟩ := Option.bind_eq_some_iff.1 H
  obtain ⟨t12, h13, H⟩ := Option.bind_eq_some_iff.1 H
  refine G.region (GO.ldBoxA (j := 1) ([.slice A_a d_Crossings.length c_a, .int .i64 d_Circles]) HS rfl rfl rfl rfl ag30 rfl (GO.ldBoxA (j := 0) ([.slice A_b a_from.length c_b, .slice A_c a_to.length c_c]) HS rfl rfl rfl rfl ag66 rfl (GO.fn rfl func64 fok64.1 fok64.2 rfl rfl (impl_Diagram_regions.calls HS (RdIn.drop 2 r_a) (RdIn.drop 2 r_b) (RdIn.drop 2 r_c) h6) (fun _ wd10 ⟨A7, c8, y9, h11, HS⟩ => ⟨_, h11, ?_⟩))))
  replace HS := HS.pk 3 [0, 1, 2] rfl
  refine GO.fn rfl func110 fok110.1 fok110.2 rfl rfl (slices_DeleteFunc_int64_int64_123.calls HS  h13) (fun _ wd17 ⟨A14, c15, y16, h18, HS⟩ => ⟨_, h18, (GO.assign rfl rfl rfl (GO.nil ?_))⟩)
  obtain rfl := Option.some.inj H
  exact G.ret1 _ func78 rfl rfl ⟨_, _, _, rfl, (HS.pk 3 [0] rfl)⟩
theorem impl_SlideTriangle_fn1_free.calls {w0 w : World} {L : List HObj} {region : List Int} {v0_2 : Int} {A_a : Option Addr} {c_a b_v0 : Nat} {r1 : Bool} (HS : St w0 w (Box b_v0 2 [.int .i64 v0_2] :: L)) (r_a : RdIn w0 L (TInt .i64) A_a c_a (fun _ => ()) region) (H : impl_SlideTriangle_fn1_free.f region v0_2 = some r1) :
    Calls prog 80 #[.slice A_a region.length c_a, .pointer (some ⟨b_v0, 0, none⟩)] w (impl_SlideTriangle_fn1_free.post w0 L v0_2 b_v0 r1) := by
  unfold impl_SlideTriangle_fn1_free.f at H
  refine Calls.of_G func80 rfl rfl rfl ?_
  refine G.run 3 rfl ?_
  obtain ⟨c1, H⟩ := ite_none H
  refine G.lex mixed [0, 1, 2, 3, 4, 5] (by kernel_rfl) ?_
  replace HS := HS.drew
  refine GX.ps 1 rfl (GX.l0 rfl rfl (fun _ _ g => GO.ix rfl rfl rfl underlying74 sz2 ((RdIn.drop 1 r_a) _ HS).2.2.1 c1.1 c1.2 rfl g) rfl (GX.l1 rfl rfl rfl (fun _ g => GO.ldRd (T := (TInt .i64)) (n := 0) (o := 0) HS (RdIn.drop 1 r_a) rfl rfl (getD_some (d := 0) (ltN c1)) rfl rfl na2 rfl g) rfl (GX.l1 rfl rfl rfl (fun _ g => GO.ldBox (j := 0) HS rfl rfl rfl rfl na2 rfl g) rfl (GX.ps 2 rfl (GX.nil ?_)))))
  obtain rfl := Option.some.inj H
  exact G.ret1 _ func80 rfl rfl ⟨rfl, HS⟩
theorem slices_IndexFunc_int64_int64_74.calls {w0 w : World} {L : List HObj} {K : Nat} {s : List (List Int)} {cap_2 : Int} {A_a : Option Addr} {c_a : Nat} {y_a : Nat → (Ty.slice 2 (TInt .i64)).Lay} {b_cap : Nat} {r1 : Int} (HS : St w0 w (Box b_cap 2 [.int .i64 cap_2] :: L)) (r_a : RdIn w0 L (Ty.slice 2 (TInt .i64)) A_a c_a y_a s) (H : slices_IndexFunc_int64_int64_74.f K s cap_2 = some r1) :
    Calls prog 79 #[.slice A_a s.length c_a, .func (.func 80) #[] #[.pointer (some ⟨b_cap, 0, none⟩)]] w (slices_IndexFunc_int64_int64_74.post w0 L cap_2 b_cap r1) := by
  unfold slices_IndexFunc_int64_int64_74.f at H
  refine Calls.of_G func79 rfl rfl rfl ?_
  refine G.run 4 rfl (G.region (GO.move rfl rfl rfl (GO.lenS rfl rfl underlying55 rfl (GO.move rfl rfl rfl (GO.nil (G.run 2 rfl ?_))))))
  refine G.name (fun k_l1 hk_l1 => ?_)
  have at_l1 : ∀ m_l1, m_l1 ≤ K → ∀ (x8 : Int) (w : World), slices_IndexFunc_int64_int64_74.l1 K m_l1 s cap_2 x8 = some r1 → St w0 w (Box b_cap 2 [.int .i64 cap_2] :: L) → G prog 79 19 [(0, .slice A_a s.length c_a), (1, .func (.func 80) #[] #[.pointer (some ⟨b_cap, 0, none⟩)]), (7, .int .i64 (s.length : Int)), (8, .int .i64 x8)] k_l1 w (slices_IndexFunc_int64_int64_74.post w0 L cap_2 b_cap r1) := by
   intro m_l1
   induction m_l1 using Nat.strongRecOn with
   | _ m_l1 ih_l1 =>
    intro hm_l1 x8 w H HS
    cases m_l1 with
    | zero => rw [slices_IndexFunc_int64_int64_74.l1] at H; cases H
    | succ n_l1 =>
     rw [slices_IndexFunc_int64_int64_74.l1] at H
     subst hk_l1
     refine G.run 3 rfl ?_
     rcases ite_elim H with ⟨c16, H⟩ | ⟨c16, H⟩
     ·
      refine G.yesB rfl (decide_eq_true c16) (G.run 6 rfl ?_)
      obtain ⟨c17, H⟩ := ite_none H
      obtain ⟨t18, h19, H⟩ := Option.bind_eq_some_iff.1 H
      refine G.region (GO.ps 3 rfl (GO.ix rfl rfl rfl underlying55 sz74 ((RdIn.drop 1 r_a) _ HS).2.2.1 c17.1 c17.2 rfl (GO.ldRd (T := (Ty.slice 2 (TInt .i64))) (n := x8.toNat) (o := 0) HS (RdIn.drop 1 r_a) rfl rfl (getD_some (d := []) (ltN c17)) rfl rfl na74 rfl ?_)))
      replace HS := HS.pk 1 [0] rfl
      refine GO.clo rfl rfl func80 fok80.1 fok80.2 rfl rfl (impl_SlideTriangle_fn1_free.calls HS (RdIn.elem r_a c17.1 c17.2) h19) (fun _ wd20 ⟨h21, HS⟩ => ⟨_, h21, (GO.nil ?_)⟩)
      rcases ite_elim H with ⟨c22, H⟩ | ⟨c22, H⟩
      ·
       refine G.yesB rfl c22 (G.run 2 rfl ?_)
       obtain rfl := Option.some.inj H
       exact G.ret1 _ func79 rfl rfl ⟨rfl, HS⟩
      refine G.noB rfl (bnot_of c22) (G.run 4 rfl (G.weak ?_ (ih_l1 n_l1 (Nat.lt_succ_of_le (Nat.le_refl _)) (Nat.le_of_succ_le hm_l1) _ _ H HS)))
      exact ⟨rfl, rfl, rfl, rfl, trivial⟩
     refine G.noB rfl (decide_eq_false c16) (G.run 3 rfl ?_)
     obtain rfl := Option.some.inj H
     exact G.ret1 _ func79 rfl rfl ⟨rfl, HS⟩
  refine G.weak ?_ (at_l1 K (Nat.le_refl _) _ _ H HS)
  exact ⟨rfl, rfl, rfl, rfl, trivial⟩
theorem impl_passOf.calls {w0 w : World} {L : List HObj} {e_crossing e_position r1 : Int} (HS : St w0 w (L)) (H : impl_passOf.f e_crossing e_position = some r1) :
    Calls prog 83 #[.agg [.int .i64 e_crossing, .int .i64 e_position].toArray] w (impl_passOf.post w0 L r1) := by
  unfold impl_passOf.f at H
  refine Calls.of_G func83 rfl rfl rfl ?_
  refine G.seq (G.region (GO.box (cs := [.int .i64 e_crossing, .int .i64 e_position]) HS rfl rfl rfl rfl fun b1 wd2 HS => GO.assign rfl rfl rfl (GO.nil (G.run 2 rfl ?_))))
  obtain ⟨t3, h4, H⟩ := Option.bind_eq_some_iff.1 H
  refine G.region (GO.fld (⟨b1, 1, none⟩) rfl rfl fl94_1 rfl rfl (GO.ldBox (j := 0) HS rfl rfl rfl rfl na2 rfl (GO.fn rfl func109 fok109.1 fok109.2 rfl rfl (impl_isUpper.calls HS  h4) (fun _ wd5 ⟨h6, HS⟩ => ⟨_, h6, (GO.nil ?_)⟩))))
  rcases ite_elim H with ⟨c7, H⟩ | ⟨c7, H⟩
  ·
   refine G.yesB rfl c7 (G.seq (G.region (GO.fld (⟨b1, 0, none⟩) rfl rfl fl94_0 rfl rfl (GO.ldBox (j := 0) HS rfl rfl rfl rfl na2 rfl (GO.ps 2 rfl (GO.nil ?_))))))
   obtain rfl := Option.some.inj H
   exact G.ret1 _ func83 rfl rfl ⟨rfl, (HS.pk 1 [] rfl)⟩
  refine G.noB rfl (bnot_of c7) (G.run 2 rfl (G.region (GO.fld (⟨b1, 0, none⟩) rfl rfl fl94_0 rfl rfl (GO.ldBox (j := 0) HS rfl rfl rfl rfl na2 rfl (GO.add rfl rfl rfl rfl (GO.neg rfl rfl rfl (GO.assign rfl rfl rfl (GO.nil ?_))))))))
  obtain rfl := Option.some.inj H
  exact G.ret1 _ func83 rfl rfl ⟨rfl, (HS.pk 1 [] rfl)⟩
theorem impl_abs.calls {w0 w : World} {L : List HObj} {x r1 : Int} (HS : St w0 w (L)) (H : impl_abs.f x = some r1) :
    Calls prog 113 #[.int .i64 x] w (impl_abs.post w0 L r1) := by
  unfold impl_abs.f at H
  refine Calls.of_G func113 rfl rfl rfl ?_
  refine G.run 5 rfl ?_
  rcases ite_elim H with ⟨c1, H⟩ | ⟨c1, H⟩
  ·
   refine G.yesB rfl (decide_eq_true c1) (G.seq (G.region (GO.move rfl rfl rfl (GO.neg rfl rfl rfl (GO.assign rfl rfl rfl (GO.nil ?_))))))
   obtain rfl := Option.some.inj H
   exact G.ret1 _ func113 rfl rfl ⟨rfl, HS⟩
  refine G.noB rfl (decide_eq_false c1) (G.run 3 rfl ?_)
  obtain rfl := Option.some.inj H
  exact G.ret1 _ func113 rfl rfl ⟨rfl, HS⟩
theorem impl_Diagram_through.calls {w0 w : World} {L : List HObj} {K : Nat} {d_Crossings : List GCrossing} {d_Circles pass : Int} {in_ out : Int} {A_a : Option Addr} {c_a : Nat} {r1 : List GCrossing} (HS : St w0 w (Own T_GCrossing 61 A_a c_a (fun _ => ()) d_Crossings :: L)) (H : impl_Diagram_through.f K d_Crossings d_Circles pass in_ out = some r1) :
    Calls prog 82 #[.agg [.slice A_a d_Crossings.length c_a, .int .i64 d_Circles].toArray, .int .i64 pass, .int .i64 in_, .int .i64 out] w (impl_Diagram_through.post w0 L A_a c_a r1) := by
  unfold impl_Diagram_through.f at H
  refine Calls.of_G func82 rfl rfl rfl ?_
  refine G.seq (G.region (GO.box (cs := [.slice A_a d_Crossings.length c_a, .int .i64 d_Circles]) HS rfl rfl rfl rfl fun b1 wd2 HS => GO.nil (G.seq ?_)))
  obtain ⟨t3, h4, H⟩ := Option.bind_eq_some_iff.1 H
  refine G.region (GO.move rfl rfl rfl (GO.fn rfl func113 fok113.1 fok113.2 rfl rfl (impl_abs.calls HS  h4) (fun _ wd5 ⟨h6, HS⟩ => ⟨_, h6, (GO.ps 2 rfl (GO.nil (G.run 5 rfl ?_)))⟩)))
  refine G.nameT (fun k_j1 hk_j1 => ?_)
  have at_j1 : ∀ m_j1, m_j1 ≤ K → ∀ (first_11 : Int) (w : World), impl_Diagram_through.j1 K m_j1 d_Crossings d_Circles in_ out t3 first_11 = some r1 → St w0 w (Own T_GCrossing 61 A_a c_a (fun _ => ()) d_Crossings :: Box b1 30 [.slice A_a d_Crossings.length c_a, .int .i64 d_Circles] :: L) → G prog 82 36 [(2, .int .i64 in_), (3, .int .i64 out), (4, .pointer (some ⟨b1, 0, none⟩)), (8, .int .i64 (w64 (t3 - 1))), (9, .int .i64 first_11)] k_j1 w (impl_Diagram_through.post w0 L A_a c_a r1) := by
   intro m_j1 hm_j1 first_11 w H HS
   cases m_j1 with
   | zero => rw [impl_Diagram_through.j1] at H; cases H
   | succ n_j1 =>
    rw [impl_Diagram_through.j1] at H
    subst hk_j1
    refine G.seq ?_
    obtain ⟨t12, h13, H⟩ := Option.bind_eq_some_iff.1 H
    obtain ⟨c14, H⟩ := ite_none H
    refine G.region (GO.ldBoxA (j := 1) ([.slice A_a d_Crossings.length c_a, .int .i64 d_Circles]) HS rfl rfl rfl rfl ag30 rfl (GO.ps 2 rfl (GO.buildV (.agg [.int .i64 (w64 (t3 - 1)), .int .i64 first_11].toArray) rfl rfl (fun _ => by kernel_rfl) rfl (GO.move rfl rfl rfl ?_))))
    replace HS := HS.pk 2 [0, 1] rfl
    refine GO.fn rfl func69 fok69.1 fok69.2 rfl rfl (impl_Diagram_set.calls HS  h13) (fun _ wd15 ⟨h16, HS⟩ => ⟨_, h16, (GO.nil ?_)⟩)
    replace HS := HS.boxEq (j := 1) (cs' := [.slice A_a t12.length c_a, .int .i64 d_Circles]) rfl (by simp only [List.length_set, c14] <;> rfl)
    obtain ⟨t17, h18, H⟩ := Option.bind_eq_some_iff.1 H
    obtain ⟨c19, H⟩ := ite_none H
    refine G.region (GO.ldBoxA (j := 1) ([.slice A_a t12.length c_a, .int .i64 d_Circles]) HS rfl rfl rfl rfl ag30 rfl (GO.ps 3 rfl (GO.rem rfl rfl rfl (by decide) rfl (GO.buildV (.agg [.int .i64 (w64 (t3 - 1)), .int .i64 ((w64 (first_11 + 2)).tmod 4)].toArray) rfl rfl (fun _ => by kernel_rfl) rfl (GO.move rfl rfl rfl ?_)))))
    replace HS := HS.pk 2 [0, 1] rfl
    refine GO.fn rfl func69 fok69.1 fok69.2 rfl rfl (impl_Diagram_set.calls HS  h18) (fun _ wd20 ⟨h21, HS⟩ => ⟨_, h21, (GO.nil ?_)⟩)
    replace HS := HS.boxEq (j := 1) (cs' := [.slice A_a t17.length c_a, .int .i64 d_Circles]) rfl (by simp only [List.length_set, c19] <;> rfl)
    obtain rfl := Option.some.inj H
    exact G.end0 func82 rfl ⟨rfl, (HS.pk 2 [0] rfl)⟩
  rcases ite_elim H with ⟨c22, H⟩ | ⟨c22, H⟩
  ·
   refine G.yesB rfl (decide_eq_true c22) ?_
   obtain ⟨c23, H⟩ := ite_none H
   obtain ⟨e24, h25, H⟩ := bnd_elim H
   refine G.region (GO.fld (⟨b1, 0, none⟩) rfl rfl fl30_0 rfl rfl (GO.ldBox (j := 0) HS rfl rfl rfl rfl na28 rfl (GO.move rfl rfl rfl (GO.ix rfl rfl rfl underlying28 sz61 ((RdIn.own (j := 1) rfl) _ HS).2.2.1 c23.1 c23.2 rfl (GO.fld (ea A_a (((w64 (t3 - 1)).toNat) * 5 + 4)) rfl rfl fl61_4 (ea_add _ _ _) rfl (GO.ldRd (T := T_GCrossing) (n := (w64 (t3 - 1)).toNat) (o := 4) HS (RdIn.own (j := 1) rfl) rfl rfl (getD_eq (ltN c23) h25) rfl rfl na2 rfl (GO.ps 2 rfl (GO.nil (G.weak ?_ (at_j1 K (Nat.le_refl _) _ _ H (HS.pk 2 [1, 0] rfl)))))))))))
   exact ⟨rfl, rfl, rfl, rfl, rfl, trivial⟩
  refine G.noB rfl (decide_eq_false c22) (G.skip (G.weak ?_ (at_j1 K (Nat.le_refl _) _ _ H (HS.pk 2 [1, 0] rfl))))
  exact ⟨rfl, rfl, rfl, rfl, rfl, trivial⟩
theorem impl_SlideTriangle.calls {w0 w : World} {L : List HObj} {K : Nat} {d_Crossings : List GCrossing} {d_Circles corner : Int} {A_a : Option Addr} {c_a : Nat} {r1 : List GCrossing} {r2 r3 : Int} (HS : St w0 w (L)) (r_a : RdIn w0 L T_GCrossing A_a c_a (fun _ => ()) d_Crossings) (H : impl_SlideTriangle.f K d_Crossings d_Circles corner = some (r1, r2, r3)) :
    Calls prog 43 #[.agg [.slice A_a d_Crossings.length c_a, .int .i64 d_Circles].toArray, .int .i64 corner] w (impl_SlideTriangle.post w0 L r1 r2 r3) := by
  unfold impl_SlideTriangle.f at H
  refine Calls.of_G func43 rfl rfl rfl ?_
  refine G.seq (G.region (GO.box (cs := [.slice A_a d_Crossings.length c_a, .int .i64 d_Circles]) HS rfl rfl rfl rfl fun b1 wd2 HS => GO.box (cs := [.int .i64 corner]) HS rfl rfl rfl rfl fun b3 wd4 HS => GO.alloc HS rfl zr30 rfl rfl fun b5 wd6 HS => GO.assign rfl rfl rfl (GO.nil (G.seq ?_))))
  obtain ⟨t7, t8, t9, h10, H⟩ := bind3_elim H
  refine G.region (GO.ldBoxA (j := 2) ([.slice A_a d_Crossings.length c_a, .int .i64 d_Circles]) HS rfl rfl rfl rfl ag30 rfl (GO.fn rfl func37 fok37.1 fok37.2 rfl rfl (impl_Diagram_drawing.calls HS (RdIn.drop 3 r_a) h10) (fun _ wd15 ⟨A11, c12, A13, c14, h16, HS⟩ => ⟨_, h16, (GO.ps 3 rfl (GO.alloc HS rfl zr66 rfl rfl fun b17 wd18 HS => GO.stBox (j := 0) (vs := [.slice A11 t7.length c12, .slice A13 t8.length c14]) ([.slice A11 t7.length c12, .slice A13 t8.length c14]) HS rfl rfl rfl rfl rfl (htA ag66) rfl rfl rfl fun wd19 HS => GO.assign rfl rfl rfl (GO.nil (G.run 3 rfl ?_))))⟩)))
  rcases ite_elim H with ⟨c20, H⟩ | ⟨c20, H⟩
  ·
   refine G.noB rfl (congrArg Bool.not c20) (G.run 2 rfl ?_)
   obtain ⟨t21, h22, H⟩ := Option.bind_eq_some_iff.1 H
   refine G.region (GO.ldBoxA (j := 5) ([.slice A_a d_Crossings.length c_a, .int .i64 d_Circles]) HS rfl rfl rfl rfl ag30 rfl (GO.ldBoxA (j := 0) ([.slice A11 t7.length c12, .slice A13 t8.length c14]) HS rfl rfl rfl rfl ag66 rfl (GO.fn rfl func78 fok78.1 fok78.2 rfl rfl (impl_Diagram_triangles.calls HS (RdIn.drop 6 r_a) (RdIn.own (j := 1) rfl) (RdIn.own (j := 2) rfl) h22) (fun _ wd26 ⟨A23, c24, y25, h27, HS⟩ => ⟨_, h27, (GO.assign rfl rfl rfl (GO.nil (G.seq ?_)))⟩))))
   obtain ⟨t28, h29, H⟩ := Option.bind_eq_some_iff.1 H
   refine G.region (GO.move rfl rfl rfl (GO.mkFunc rfl rfl rfl rfl ?_))
   replace HS := HS.pk 7 [5, 0, 1, 2, 3, 4, 6] rfl
   refine GO.fn rfl func79 fok79.1 fok79.2 rfl rfl (slices_IndexFunc_int64_int64_74.calls HS (RdIn.own (j := 0) rfl) h29) (fun _ wd30 ⟨h31, HS⟩ => ⟨_, h31, (GO.assign rfl rfl rfl (GO.nil (G.run 3 rfl ?_)))⟩)
   rcases ite_elim H with ⟨c32, H⟩ | ⟨c32, H⟩
   ·
    refine G.yesB rfl (decide_eq_true c32) (G.seq (G.region (GO.buildV (.agg [.slice none 0 0, .int .i64 0].toArray) rfl rfl (fun _ => by kernel_rfl) rfl (GO.stBox (j := 5) (vs := [.slice none 0 0, .int .i64 0]) ([.slice none 0 0, .int .i64 0]) HS rfl rfl rfl rfl rfl (htA ag30) rfl rfl rfl fun wd33 HS => GO.assign rfl rfl rfl (GO.nil ?_)))))
    replace HS := HS.nilRow T_GCrossing 61 (fun _ => ())
    obtain ⟨rfl, rfl, rfl⟩ := some3 H
    exact G.ret2 _ _ func43 rfl (Res1.boxA (j := 6) (vs := [.slice none 0 0, .int .i64 0]) HS rfl rfl rfl ag30) rfl ⟨_, _, rfl, (HS.pk 8 [0] rfl)⟩
   refine G.noB rfl (decide_eq_false c32) (G.run 2 rfl ?_)
   obtain ⟨t34, t35, h36, H⟩ := bind2_elim H
   refine G.region (GO.ldBoxA (j := 6) ([.slice A_a d_Crossings.length c_a, .int .i64 d_Circles]) HS rfl rfl rfl rfl ag30 rfl (GO.fn rfl func21 fok21.1 fok21.2 rfl rfl (impl_copyDiagram.calls HS (RdIn.drop 7 r_a) h36) (fun _ wd39 ⟨A37, c38, h40, HS⟩ => ⟨_, h40, (GO.alloc HS rfl zr30 rfl rfl fun b41 wd42 HS => GO.stBox (j := 0) (vs := [.slice A37 t34.length c38, .int .i64 t35]) ([.slice A37 t34.length c38, .int .i64 t35]) HS rfl rfl rfl rfl rfl (htA ag30) rfl rfl rfl fun wd43 HS => GO.nil (G.run 2 rfl ?_))⟩)))
   obtain ⟨c44, H⟩ := ite_none H
   refine G.region (GO.ps 2 rfl (GO.ix rfl rfl rfl underlying55 sz74 ((RdIn.own (j := 3) rfl) _ HS).2.2.1 c44.1 c44.2 rfl (GO.ldRd (T := (Ty.slice 2 (TInt .i64))) (n := t28.toNat) (o := 0) HS (RdIn.own (j := 3) rfl) rfl rfl (getD_some (d := []) (ltN c44)) rfl rfl na74 rfl (GO.lenS rfl rfl underlying74 rfl (GO.move rfl rfl rfl (GO.nil (G.run 2 rfl ?_)))))))
   refine G.name (fun k_l1 hk_l1 => ?_)
   have at_l1 : ∀ m_l1, m_l1 ≤ K → ∀ (out_113 : List GCrossing) (x114 : Int) (w : World), impl_SlideTriangle.l1 K m_l1 d_Crossings t7 t8 t21 t28 t35 out_113 x114 = some (r1, r2, r3) → St w0 w (Box b1 30 [.slice A_a d_Crossings.length c_a, .int .i64 d_Circles] :: Box b5 30 [.slice none 0 0, .int .i64 0] :: Box b17 66 [.slice A11 t7.length c12, .slice A13 t8.length c14] :: Own T_GEnd 94 A11 c12 (fun _ => ()) t7 :: Own T_GEnd 94 A13 c14 (fun _ => ()) t8 :: Box b41 30 [.slice A37 out_113.length c38, .int .i64 t35] :: Own T_GCrossing 61 A37 c38 (fun _ => ()) out_113 :: Own (Ty.slice 2 (TInt .i64)) 74 A23 c24 y25 t21 :: L) → G prog 43 105 [(2, .pointer (some ⟨b1, 0, none⟩)), (4, .pointer (some ⟨b5, 0, none⟩)), (6, .pointer (some ⟨b17, 0, none⟩)), (10, .pointer (some ⟨b41, 0, none⟩)), (40, .slice ((y25 t28.toNat).A) (t21.getD t28.toNat []).length ((y25 t28.toNat).c)), (41, .int .i64 ((t21.getD t28.toNat []).length : Int)), (42, .int .i64 x114)] k_l1 w (impl_SlideTriangle.post w0 L r1 r2 r3) := by
    intro m_l1
    induction m_l1 using Nat.strongRecOn with
    | _ m_l1 ih_l1 =>
     intro hm_l1 out_113 x114 w H HS
     cases m_l1 with
     | zero => rw [impl_SlideTriangle.l1] at H; cases H
     | succ n_l1 =>
      rw [impl_SlideTriangle.l1] at H
      subst hk_l1
      refine G.run 3 rfl ?_
      rcases ite_elim H with ⟨c183, H⟩ | ⟨c183, H⟩
      ·
       refine G.yesB rfl (decide_eq_true c183) (G.run 4 rfl ?_)
       obtain ⟨c184, H⟩ := ite_none H
       refine G.region (GO.ix rfl rfl rfl underlying74 sz2 ((RdIn.elem (RdIn.own (j := 7) rfl) c44.1 c44.2) _ HS).2.2.1 c184.1 c184.2 rfl (GO.ldRd (T := (TInt .i64)) (n := x114.toNat) (o := 0) HS (RdIn.elem (RdIn.own (j := 7) rfl) c44.1 c44.2) rfl rfl (getD_some (d := 0) (ltN c184)) rfl rfl na2 rfl (GO.assign rfl rfl rfl (GO.nil (G.seq ?_)))))
       obtain ⟨c185, H⟩ := ite_none H
       obtain ⟨e186, h187, H⟩ := bnd_elim H
       obtain ⟨t188, t189, t190, t191, h192, H⟩ := bind4_elim H
       obtain ⟨c195, H⟩ := ite_none H
       refine G.region (GO.fld (⟨b1, 0, none⟩) rfl rfl fl30_0 rfl rfl (GO.ldBox (j := 0) HS rfl rfl rfl rfl na28 rfl (GO.move rfl rfl rfl (GO.quo rfl rfl rfl (by decide) rfl (GO.ix rfl rfl rfl underlying28 sz61 ((RdIn.drop 8 r_a) _ HS).2.2.1 c185.1 c185.2 rfl (GO.ldRdA (T := T_GCrossing) (n := (w64 (((t21.getD t28.toNat []).getD x114.toNat 0).tdiv 4)).toNat) HS (RdIn.drop 8 r_a) rfl rfl (getD_eq (ltN c185) h187) ag61 rfl (GO.fn rfl func81 fok81.1 fok81.2 rfl rfl (impl_Crossing_ends.calls HS  h192) (fun _ wd193 ⟨h194, HS⟩ => ⟨_, h194, (GO.ps 2 rfl (GO.rem rfl rfl rfl (by decide) rfl (GO.ixArr ([t188, t189, t190, t191] : List Int) rfl rfl rfl underlying104 underlying2 sz2 rfl c195.1 c195.2 rfl (GO.assign rfl rfl rfl (GO.nil (G.seq ?_))))))⟩))))))))
       obtain ⟨c196, H⟩ := ite_none H
       have h197 := ((RdIn.own (j := 3) rfl) _ HS).2.2.1
       obtain ⟨e198, h199, H⟩ := bnd_elim H
       obtain ⟨c200, H⟩ := ite_none H
       have h201 := ((RdIn.own (j := 4) rfl) _ HS).2.2.1
       obtain ⟨e202, h203, H⟩ := bnd_elim H
       refine G.regionAny mixed (by decide) (fun b a w => ∃ (Y1_0 : Value) (Y2_1 : Value) (Y3_2 : Value) (Y4_3 : Value) (Y5_4 : Value) (Y6_5 : Value) (Y7_6 : Value) (Y8_7 : Value) (Y9_8 : Value) (Y10_9 : Value) (Y11_10 : Value) (Y12_11 : Value) (b204 : Nat) (b206 : Nat) (O14_23 : HObj) (O13_24 : HObj), Sat 105 [(14, Y11_10), (15, Y12_11), (57, Y1_0), (58, Y2_1), (59, Y3_2), (60, Y4_3), (61, Y5_4), (62, Y6_5), (63, Y7_6), (64, Y8_7), (65, Y9_8), (66, Y10_9), (2, .pointer (some ⟨b1, 0, none⟩)), (4, .pointer (some ⟨b5, 0, none⟩)), (6, .pointer (some ⟨b17, 0, none⟩)), (10, .pointer (some ⟨b41, 0, none⟩)), (13, .int .i64 (([t188, t189, t190, t191] : List Int).getD ((w64 (((t21.getD t28.toNat []).getD x114.toNat 0) + 1)).tmod 4).toNat 0)), (40, .slice ((y25 t28.toNat).A) (t21.getD t28.toNat []).length ((y25 t28.toNat).c)), (41, .int .i64 ((t21.getD t28.toNat []).length : Int)), (42, .int .i64 x114)] a ∧ St w0 w (Box b1 30 [.slice A_a d_Crossings.length c_a, .int .i64 d_Circles] :: Box b5 30 [.slice none 0 0, .int .i64 0] :: Box b17 66 [.slice A11 t7.length c12, .slice A13 t8.length c14] :: Own T_GEnd 94 A11 c12 (fun _ => ()) t7 :: Own T_GEnd 94 A13 c14 (fun _ => ()) t8 :: Box b41 30 [.slice A37 out_113.length c38, .int .i64 t35] :: Own T_GCrossing 61 A37 c38 (fun _ => ()) out_113 :: Own (Ty.slice 2 (TInt .i64)) 74 A23 c24 y25 t21 :: O14_23 :: O13_24 :: L) ∧ (b 10 = true → Y11_10 = (.pointer (some ⟨b204, 0, none⟩))) ∧ (b 11 = true → Y12_11 = (.pointer (some ⟨b206, 0, none⟩))) ∧ (b 0 = true → Y1_0 = (.pointer (some ⟨b17, 0, none⟩))) ∧ (b 1 = true → Y2_1 = (.slice A11 t7.length c12)) ∧ (b 2 = true → Y3_2 = (.int .i64 (([t188, t189, t190, t191] : List Int).getD ((w64 (((t21.getD t28.toNat []).getD x114.toNat 0) + 1)).tmod 4).toNat 0))) ∧ (b 3 = true → Y4_3 = (.pointer (some (ea A11 (((([t188, t189, t190, t191] : List Int).getD ((w64 (((t21.getD t28.toNat []).getD x114.toNat 0) + 1)).tmod 4).toNat 0).toNat) * 2))))) ∧ (b 4 = true → Y5_4 = (.agg [.int .i64 e198.crossing, .int .i64 e198.position].toArray)) ∧ (b 5 = true → Y6_5 = (.pointer (some ⟨b17, 1, none⟩))) ∧ (b 6 = true → Y7_6 = (.slice A13 t8.length c14)) ∧ (b 7 = true → Y8_7 = (.int .i64 (([t188, t189, t190, t191] : List Int).getD ((w64 (((t21.getD t28.toNat []).getD x114.toNat 0) + 1)).tmod 4).toNat 0))) ∧ (b 8 = true → Y9_8 = (.pointer (some (ea A13 (((([t188, t189, t190, t191] : List Int).getD ((w64 (((t21.getD t28.toNat []).getD x114.toNat 0) + 1)).tmod 4).toNat 0).toNat) * 2))))) ∧ (b 9 = true → Y10_9 = (.agg [.int .i64 e202.crossing, .int .i64 e202.position].toArray)) ∧ (b 10 = true → b 12 = false → O14_23 = Box b204 94 [.int .i64 0, .int .i64 0]) ∧ (b 12 = true → O14_23 = Box b204 94 [.int .i64 e198.crossing, .int .i64 e198.position]) ∧ (b 11 = true → b 13 = false → O13_24 = Box b206 94 [.int .i64 0, .int .i64 0]) ∧ (b 13 = true → O13_24 = Box b206 94 [.int .i64 e202.crossing, .int .i64 e202.position])) ?_ ?_ ?_
       ·
        intro a hs
        obtain ⟨Y11_10, hs⟩ := hs.ext (d := 14) rfl
        obtain ⟨Y12_11, hs⟩ := hs.ext (d := 15) rfl
        obtain ⟨Y1_0, hs⟩ := hs.ext (d := 57) rfl
        obtain ⟨Y2_1, hs⟩ := hs.ext (d := 58) rfl
        obtain ⟨Y3_2, hs⟩ := hs.ext (d := 59) rfl
        obtain ⟨Y4_3, hs⟩ := hs.ext (d := 60) rfl
        obtain ⟨Y5_4, hs⟩ := hs.ext (d := 61) rfl
        obtain ⟨Y6_5, hs⟩ := hs.ext (d := 62) rfl
        obtain ⟨Y7_6, hs⟩ := hs.ext (d := 63) rfl
        obtain ⟨Y8_7, hs⟩ := hs.ext (d := 64) rfl
        obtain ⟨Y9_8, hs⟩ := hs.ext (d := 65) rfl
        obtain ⟨Y10_9, hs⟩ := hs.ext (d := 66) rfl
        exact ⟨Y1_0, Y2_1, Y3_2, Y4_3, Y5_4, Y6_5, Y7_6, Y8_7, Y9_8, Y10_9, Y11_10, Y12_11, 0, 0, Emp, Emp, hs.weak ⟨rfl, rfl, rfl, rfl, rfl, rfl, rfl, rfl, rfl, rfl, rfl, rfl, rfl, rfl, rfl, rfl, rfl, rfl, rfl, rfl, trivial⟩, (HS.drew.emp.emp.pk 10 [2, 3, 4, 5, 6, 7, 8, 9, 1, 0] rfl), fun h => Bool.noConfusion h, fun h => Bool.noConfusion h, fun h => Bool.noConfusion h, fun h => Bool.noConfusion h, fun h => Bool.noConfusion h, fun h => Bool.noConfusion h, fun h => Bool.noConfusion h, fun h => Bool.noConfusion h, fun h => Bool.noConfusion h, fun h => Bool.noConfusion h, fun h => Bool.noConfusion h, fun h => Bool.noConfusion h, fun h => Bool.noConfusion h, fun h => Bool.noConfusion h, fun h => Bool.noConfusion h, fun h => Bool.noConfusion h⟩
       ·
        intro j hj b a w
        refine exI fun Y1_0 => exI fun Y2_1 => exI fun Y3_2 => exI fun Y4_3 => exI fun Y5_4 => exI fun Y6_5 => exI fun Y7_6 => exI fun Y8_7 => exI fun Y9_8 => exI fun Y10_9 => exI fun Y11_10 => exI fun Y12_11 => exI fun b204 => exI fun b206 => exI fun O14_23 => exI fun O13_24 => anI fun hs => anI fun HS => anI fun f10 => anI fun f11 => anI fun f0 => anI fun f1 => anI fun f2 => anI fun f3 => anI fun f4 => anI fun f5 => anI fun f6 => anI fun f7 => anI fun f8 => anI fun f9 => anI fun o23_0 => anI fun o23_1 => anI fun o24_0 => fun o24_1 hb hd hcl => ?_
        match j, hj with
        | 0, _ =>
         refine GO.at hs (GO.fld (⟨b17, 0, none⟩) rfl rfl fl66_0 rfl rfl (GO.fin (fun a hs => ⟨(.pointer (some ⟨b17, 0, none⟩)), _, _, _, _, _, _, _, _, _, _, _, b204, b206, _, _, by exact hs.setAt 2 rfl, HS, f10, f11, fun _ => rfl, f1, f2, f3, f4, f5, f6, f7, f8, f9, o23_0, o23_1, o24_0, o24_1⟩)))
        | 1, _ =>
         have hb0 : b 0 = true := hd 0 (by decide)
         obtain rfl := f0 hb0
         refine GO.at hs (GO.ldBox (j := 2) HS rfl rfl rfl rfl na64 rfl (GO.fin (fun a hs => ⟨_, (.slice A11 t7.length c12), _, _, _, _, _, _, _, _, _, _, b204, b206, _, _, by exact hs.setAt 3 rfl, HS, f10, f11, f0, fun _ => rfl, f2, f3, f4, f5, f6, f7, f8, f9, o23_0, o23_1, o24_0, o24_1⟩)))
        | 2, _ =>
         refine GO.at hs (GO.move rfl rfl rfl (GO.fin (fun a hs => ⟨_, _, (.int .i64 (([t188, t189, t190, t191] : List Int).getD ((w64 (((t21.getD t28.toNat []).getD x114.toNat 0) + 1)).tmod 4).toNat 0)), _, _, _, _, _, _, _, _, _, b204, b206, _, _, by exact hs.setAt 4 rfl, HS, f10, f11, f0, f1, fun _ => rfl, f3, f4, f5, f6, f7, f8, f9, o23_0, o23_1, o24_0, o24_1⟩)))
        | 3, _ =>
         have hb1 : b 1 = true := hd 1 (by decide)
         obtain rfl := f1 hb1
         have hb2 : b 2 = true := hd 2 (by decide)
         obtain rfl := f2 hb2
         refine GO.at hs (GO.ix rfl rfl rfl underlying64 sz94 h197 c196.1 c196.2 rfl (GO.fin (fun a hs => ⟨_, _, _, (.pointer (some (ea A11 (((([t188, t189, t190, t191] : List Int).getD ((w64 (((t21.getD t28.toNat []).getD x114.toNat 0) + 1)).tmod 4).toNat 0).toNat) * 2)))), _, _, _, _, _, _, _, _, b204, b206, _, _, by exact hs.setAt 5 rfl, HS, f10, f11, f0, f1, f2, fun _ => rfl, f4, f5, f6, f7, f8, f9, o23_0, o23_1, o24_0, o24_1⟩)))
        | 4, _ =>
         have hb3 : b 3 = true := hd 3 (by decide)
         obtain rfl := f3 hb3
         refine GO.at hs (GO.ldRdA (T := T_GEnd) (n := (([t188, t189, t190, t191] : List Int).getD ((w64 (((t21.getD t28.toNat []).getD x114.toNat 0) + 1)).tmod 4).toNat 0).toNat) HS (RdIn.own (j := 3) rfl) rfl rfl (getD_eq (ltN c196) h199) ag94 rfl (GO.fin (fun a hs => ⟨_, _, _, _, (.agg [.int .i64 e198.crossing, .int .i64 e198.position].toArray), _, _, _, _, _, _, _, b204, b206, _, _, by exact hs.setAt 6 rfl, HS, f10, f11, f0, f1, f2, f3, fun _ => rfl, f5, f6, f7, f8, f9, o23_0, o23_1, o24_0, o24_1⟩)))
        | 5, _ =>
         refine GO.at hs (GO.fld (⟨b17, 1, none⟩) rfl rfl fl66_1 rfl rfl (GO.fin (fun a hs => ⟨_, _, _, _, _, (.pointer (some ⟨b17, 1, none⟩)), _, _, _, _, _, _, b204, b206, _, _, by exact hs.setAt 7 rfl, HS, f10, f11, f0, f1, f2, f3, f4, fun _ => rfl, f6, f7, f8, f9, o23_0, o23_1, o24_0, o24_1⟩)))
        | 6, _ =>
         have hb5 : b 5 = true := hd 5 (by decide)
         obtain rfl := f5 hb5
         refine GO.at hs (GO.ldBox (j := 2) HS rfl rfl rfl rfl na64 rfl (GO.fin (fun a hs => ⟨_, _, _, _, _, _, (.slice A13 t8.length c14), _, _, _, _, _, b204, b206, _, _, by exact hs.setAt 8 rfl, HS, f10, f11, f0, f1, f2, f3, f4, f5, fun _ => rfl, f7, f8, f9, o23_0, o23_1, o24_0, o24_1⟩)))
        | 7, _ =>
         refine GO.at hs (GO.move rfl rfl rfl (GO.fin (fun a hs => ⟨_, _, _, _, _, _, _, (.int .i64 (([t188, t189, t190, t191] : List Int).getD ((w64 (((t21.getD t28.toNat []).getD x114.toNat 0) + 1)).tmod 4).toNat 0)), _, _, _, _, b204, b206, _, _, by exact hs.setAt 9 rfl, HS, f10, f11, f0, f1, f2, f3, f4, f5, f6, fun _ => rfl, f8, f9, o23_0, o23_1, o24_0, o24_1⟩)))
        | 8, _ =>
         have hb6 : b 6 = true := hd 6 (by decide)
         obtain rfl := f6 hb6
         have hb7 : b 7 = true := hd 7 (by decide)
         obtain rfl := f7 hb7
         refine GO.at hs (GO.ix rfl rfl rfl underlying64 sz94 h201 c200.1 c200.2 rfl (GO.fin (fun a hs => ⟨_, _, _, _, _, _, _, _, (.pointer (some (ea A13 (((([t188, t189, t190, t191] : List Int).getD ((w64 (((t21.getD t28.toNat []).getD x114.toNat 0) + 1)).tmod 4).toNat 0).toNat) * 2)))), _, _, _, b204, b206, _, _, by exact hs.setAt 10 rfl, HS, f10, f11, f0, f1, f2, f3, f4, f5, f6, f7, fun _ => rfl, f9, o23_0, o23_1, o24_0, o24_1⟩)))
        | 9, _ =>
         have hb8 : b 8 = true := hd 8 (by decide)
         obtain rfl := f8 hb8
         refine GO.at hs (GO.ldRdA (T := T_GEnd) (n := (([t188, t189, t190, t191] : List Int).getD ((w64 (((t21.getD t28.toNat []).getD x114.toNat 0) + 1)).tmod 4).toNat 0).toNat) HS (RdIn.own (j := 4) rfl) rfl rfl (getD_eq (ltN c200) h203) ag94 rfl (GO.fin (fun a hs => ⟨_, _, _, _, _, _, _, _, _, (.agg [.int .i64 e202.crossing, .int .i64 e202.position].toArray), _, _, b204, b206, _, _, by exact hs.setAt 11 rfl, HS, f10, f11, f0, f1, f2, f3, f4, f5, f6, f7, f8, fun _ => rfl, o23_0, o23_1, o24_0, o24_1⟩)))
        | 10, _ =>
         refine GO.at hs (GO.alloc HS rfl zr94 rfl rfl fun b204 wd205 HS => GO.fin (fun a hs => ⟨_, _, _, _, _, _, _, _, _, _, (.pointer (some ⟨b204, 0, none⟩)), _, b204, b206, Box b204 94 [.int .i64 0, .int .i64 0], _, by exact hs.setAt 0 rfl, HS.pk 11 [1, 2, 3, 4, 5, 6, 7, 8, 0, 10] rfl, fun _ => rfl, f11, f0, f1, f2, f3, f4, f5, f6, f7, f8, f9, fun _ _ => rfl, fun hh => (Bool.noConfusion ((hcl 12 (by decide) hh 10 (by decide)).symm.trans hb)), o24_0, o24_1⟩))
        | 11, _ =>
         refine GO.at hs (GO.alloc HS rfl zr94 rfl rfl fun b206 wd207 HS => GO.fin (fun a hs => ⟨_, _, _, _, _, _, _, _, _, _, _, (.pointer (some ⟨b206, 0, none⟩)), b204, b206, _, Box b206 94 [.int .i64 0, .int .i64 0], by exact hs.setAt 1 rfl, HS.pk 11 [1, 2, 3, 4, 5, 6, 7, 8, 9, 0] rfl, f10, fun _ => rfl, f0, f1, f2, f3, f4, f5, f6, f7, f8, f9, o23_0, o23_1, fun _ _ => rfl, fun hh => (Bool.noConfusion ((hcl 13 (by decide) hh 11 (by decide)).symm.trans hb))⟩))
        | 12, _ =>
         have hb10 : b 10 = true := hd 10 (by decide)
         obtain rfl := f10 hb10
         have hb4 : b 4 = true := hd 4 (by decide)
         obtain rfl := f4 hb4
         obtain rfl := o23_0 hb10 hb
         refine GO.at hs (GO.stBox (j := 8) (vs := [.int .i64 e198.crossing, .int .i64 e198.position]) ([.int .i64 e198.crossing, .int .i64 e198.position]) HS rfl rfl rfl rfl rfl (htA ag94) rfl rfl rfl fun wd208 HS => GO.fin (fun a hs => ⟨_, _, _, _, _, _, _, _, _, _, _, _, b204, b206, Box b204 94 [.int .i64 e198.crossing, .int .i64 e198.position], _, hs, HS, f10, f11, f0, f1, f2, f3, f4, f5, f6, f7, f8, f9, fun _ h => Bool.noConfusion h, fun _ => rfl, o24_0, o24_1⟩))
        | 13, _ =>
         have hb11 : b 11 = true := hd 11 (by decide)
         obtain rfl := f11 hb11
         have hb9 : b 9 = true := hd 9 (by decide)
         obtain rfl := f9 hb9
         obtain rfl := o24_0 hb11 hb
         refine GO.at hs (GO.stBox (j := 9) (vs := [.int .i64 e202.crossing, .int .i64 e202.position]) ([.int .i64 e202.crossing, .int .i64 e202.position]) HS rfl rfl rfl rfl rfl (htA ag94) rfl rfl rfl fun wd209 HS => GO.fin (fun a hs => ⟨_, _, _, _, _, _, _, _, _, _, _, _, b204, b206, _, Box b206 94 [.int .i64 e202.crossing, .int .i64 e202.position], hs, HS, f10, f11, f0, f1, f2, f3, f4, f5, f6, f7, f8, f9, o23_0, o23_1, fun _ h => Bool.noConfusion h, fun _ => rfl⟩))
        | k + 14, hj => exact absurd hj (Nat.not_lt.2 (Nat.le_add_left 14 k))
       ·
        intro b a w hall
        refine exI fun Y1_0 => exI fun Y2_1 => exI fun Y3_2 => exI fun Y4_3 => exI fun Y5_4 => exI fun Y6_5 => exI fun Y7_6 => exI fun Y8_7 => exI fun Y9_8 => exI fun Y10_9 => exI fun Y11_10 => exI fun Y12_11 => exI fun b204 => exI fun b206 => exI fun O14_23 => exI fun O13_24 => anI fun hs => anI fun HS => anI fun f10 => anI fun f11 => anI fun f0 => anI fun f1 => anI fun f2 => anI fun f3 => anI fun f4 => anI fun f5 => anI fun f6 => anI fun f7 => anI fun f8 => anI fun f9 => anI fun o23_0 => anI fun o23_1 => anI fun o24_0 => fun o24_1 => ?_
        obtain rfl := f10 (hall 10 (by decide))
        obtain rfl := f11 (hall 11 (by decide))
        obtain rfl := f0 (hall 0 (by decide))
        obtain rfl := f1 (hall 1 (by decide))
        obtain rfl := f2 (hall 2 (by decide))
        obtain rfl := f3 (hall 3 (by decide))
        obtain rfl := f4 (hall 4 (by decide))
        obtain rfl := f5 (hall 5 (by decide))
        obtain rfl := f6 (hall 6 (by decide))
        obtain rfl := f7 (hall 7 (by decide))
        obtain rfl := f8 (hall 8 (by decide))
        obtain rfl := f9 (hall 9 (by decide))
        obtain rfl := o23_1 (hall 12 (by decide))
        obtain rfl := o24_1 (hall 13 (by decide))
        refine G.at hs (G.seq ?_)
        obtain ⟨c210, H⟩ := ite_none H
        obtain ⟨e211, h212, H⟩ := bnd_elim H
        obtain ⟨t213, t214, t215, t216, h217, H⟩ := bind4_elim H
        obtain ⟨c220, H⟩ := ite_none H
        refine G.lexS mixed (fun w => St w0 w (Box b1 30 [.slice A_a d_Crossings.length c_a, .int .i64 d_Circles] :: Box b204 94 [.int .i64 e198.crossing, .int .i64 e198.position] :: L)) [1, 3, 5, 8] [0, 2, 7, 1, 3, 4, 5, 8, 9, 10, 6, 11, 12] 13 (by kernel_rfl) (by kernel_rfl) (HS.drew.pk 10 [0, 8] rfl) ?_
        replace HS := HS.drew
        refine GX.l0 rfl rfl (fun _ _ g => GO.fld (⟨b1, 0, none⟩) rfl rfl fl30_0 rfl rfl g) rfl (GX.l0 rfl rfl (fun _ _ g => GO.fld (⟨b204, 0, none⟩) rfl rfl fl94_0 rfl rfl g) rfl (GX.l0 rfl rfl (fun _ _ g => GO.fld (⟨b204, 1, none⟩) rfl rfl fl94_1 rfl rfl g) rfl (GX.ls rfl rfl rfl (HS.pk 10 [0, 8] rfl) (fun _ HS _ g => GO.ldBox (j := 0) HS rfl rfl rfl rfl na28 rfl g) rfl (GX.ls rfl rfl rfl (HS.pk 10 [0, 8] rfl) (fun _ HS _ g => GO.ldBox (j := 1) HS rfl rfl rfl rfl na2 rfl g) rfl (GX.l0 rfl rfl (fun _ _ g => GO.ix rfl rfl rfl underlying28 sz61 ((RdIn.drop 10 r_a) _ HS).2.2.1 c210.1 c210.2 rfl g) rfl (GX.ls rfl rfl rfl (HS.pk 10 [0, 8] rfl) (fun _ HS _ g => GO.ldRdA (T := T_GCrossing) (n := e198.crossing.toNat) HS (RdIn.drop 2 r_a) rfl rfl (getD_eq (ltN c210) h212) ag61 rfl g) rfl (GX.ls rfl rfl rfl (HS.pk 10 [0, 8] rfl) (fun _ HS _ g => GO.ldBox (j := 1) HS rfl rfl rfl rfl na2 rfl g) rfl (GX.ps 1 rfl (GX.l0 rfl rfl (fun _ _ g => GO.rem rfl rfl rfl (by decide) rfl g) rfl (GX.l2 rfl (GO.fn rfl func81 fok81.1 fok81.2 rfl rfl (impl_Crossing_ends.calls HS  h217) (fun _ wd218 ⟨h219, HS⟩ => ⟨_, h219, (GX.fin (HS.pk 10 [0, 8] rfl) (GX.l0 rfl rfl (fun _ _ g => GO.ixArr ([t213, t214, t215, t216] : List Int) rfl rfl rfl underlying104 underlying2 sz2 rfl c220.1 c220.2 rfl g) rfl (GX.ps 1 rfl ?_)))⟩))))))))))))
        refine GX.nil (G.seq ?_)
        obtain ⟨c221, H⟩ := ite_none H
        obtain ⟨e222, h223, H⟩ := bnd_elim H
        obtain ⟨t224, t225, t226, t227, h228, H⟩ := bind4_elim H
        obtain ⟨c231, H⟩ := ite_none H
        refine G.lexS mixed (fun w => St w0 w (Box b1 30 [.slice A_a d_Crossings.length c_a, .int .i64 d_Circles] :: Box b206 94 [.int .i64 e202.crossing, .int .i64 e202.position] :: L)) [1, 3, 5, 8] [0, 2, 7, 1, 3, 4, 5, 8, 9, 10, 6, 11, 12] 13 (by kernel_rfl) (by kernel_rfl) (HS.drew.pk 10 [0, 9] rfl) ?_
        replace HS := HS.drew
        refine GX.l0 rfl rfl (fun _ _ g => GO.fld (⟨b1, 0, none⟩) rfl rfl fl30_0 rfl rfl g) rfl (GX.l0 rfl rfl (fun _ _ g => GO.fld (⟨b206, 0, none⟩) rfl rfl fl94_0 rfl rfl g) rfl (GX.l0 rfl rfl (fun _ _ g => GO.fld (⟨b206, 1, none⟩) rfl rfl fl94_1 rfl rfl g) rfl (GX.ls rfl rfl rfl (HS.pk 10 [0, 9] rfl) (fun _ HS _ g => GO.ldBox (j := 0) HS rfl rfl rfl rfl na28 rfl g) rfl (GX.ls rfl rfl rfl (HS.pk 10 [0, 9] rfl) (fun _ HS _ g => GO.ldBox (j := 1) HS rfl rfl rfl rfl na2 rfl g) rfl (GX.l0 rfl rfl (fun _ _ g => GO.ix rfl rfl rfl underlying28 sz61 ((RdIn.drop 10 r_a) _ HS).2.2.1 c221.1 c221.2 rfl g) rfl (GX.ls rfl rfl rfl (HS.pk 10 [0, 9] rfl) (fun _ HS _ g => GO.ldRdA (T := T_GCrossing) (n := e202.crossing.toNat) HS (RdIn.drop 2 r_a) rfl rfl (getD_eq (ltN c221) h223) ag61 rfl g) rfl (GX.ls rfl rfl rfl (HS.pk 10 [0, 9] rfl) (fun _ HS _ g => GO.ldBox (j := 1) HS rfl rfl rfl rfl na2 rfl g) rfl (GX.ps 1 rfl (GX.l0 rfl rfl (fun _ _ g => GO.rem rfl rfl rfl (by decide) rfl g) rfl (GX.l2 rfl (GO.fn rfl func81 fok81.1 fok81.2 rfl rfl (impl_Crossing_ends.calls HS  h228) (fun _ wd229 ⟨h230, HS⟩ => ⟨_, h230, (GX.fin (HS.pk 10 [0, 9] rfl) (GX.l0 rfl rfl (fun _ _ g => GO.ixArr ([t224, t225, t226, t227] : List Int) rfl rfl rfl underlying104 underlying2 sz2 rfl c231.1 c231.2 rfl g) rfl (GX.ps 1 rfl ?_)))⟩))))))))))))
        refine GX.nil (G.seq ?_)
        obtain ⟨t232, h233, H⟩ := Option.bind_eq_some_iff.1 H
        obtain ⟨t236, h237, H⟩ := Option.bind_eq_some_iff.1 H
        obtain ⟨c238, H⟩ := ite_none H
        refine G.lexS mixed (fun w => St w0 w (Box b41 30 [.slice A37 out_113.length c38, .int .i64 t35] :: Box b206 94 [.int .i64 e202.crossing, .int .i64 e202.position] :: L)) [0, 1] [3, 4, 0, 1, 2, 5] 5 (by kernel_rfl) (by kernel_rfl) (HS.drew.pk 10 [5, 9] rfl) ?_
        replace HS := HS.drew
        refine GX.ps 2 rfl (GX.ls rfl rfl rfl (HS.pk 10 [5, 9] rfl) (fun _ HS _ g => GO.ldBoxA (j := 0) ([.slice A37 out_113.length c38, .int .i64 t35]) HS rfl rfl rfl rfl ag30 rfl g) rfl (GX.ls rfl rfl rfl (HS.pk 10 [5, 9] rfl) (fun _ HS _ g => GO.ldBoxA (j := 1) ([.int .i64 e202.crossing, .int .i64 e202.position]) HS rfl rfl rfl rfl ag94 rfl g) rfl (GX.l2 rfl (GO.fn rfl func83 fok83.1 fok83.2 rfl rfl (impl_passOf.calls HS  h233) (fun _ wd234 ⟨h235, HS⟩ => ⟨_, h235, (GX.fin (HS.pk 10 [5, 9] rfl) (GX.l2 rfl ?_))⟩)))))
        replace HS := HS.pk 10 [6, 0, 1, 2, 3, 4, 5, 7, 8, 9] rfl
        refine GO.fn rfl func82 fok82.1 fok82.2 rfl rfl (impl_Diagram_through.calls HS  h237) (fun _ wd239 ⟨h240, HS⟩ => ⟨_, h240, (GX.finZ (GX.nil ?_))⟩)
        replace HS := HS.boxEq (j := 6) (cs' := [.slice A37 t236.length c38, .int .i64 t35]) rfl (by simp only [List.length_set, c238] <;> rfl)
        obtain ⟨t241, h242, H⟩ := Option.bind_eq_some_iff.1 H
        obtain ⟨t245, h246, H⟩ := Option.bind_eq_some_iff.1 H
        obtain ⟨c247, H⟩ := ite_none H
        refine G.lexS mixed (fun w => St w0 w (Box b41 30 [.slice A37 t236.length c38, .int .i64 t35] :: Box b204 94 [.int .i64 e198.crossing, .int .i64 e198.position] :: L)) [0, 1] [3, 4, 0, 1, 2, 5] 5 (by kernel_rfl) (by kernel_rfl) (HS.drew.pk 10 [6, 8] rfl) ?_
        replace HS := HS.drew
        refine GX.ps 2 rfl (GX.ls rfl rfl rfl (HS.pk 10 [6, 8] rfl) (fun _ HS _ g => GO.ldBoxA (j := 0) ([.slice A37 t236.length c38, .int .i64 t35]) HS rfl rfl rfl rfl ag30 rfl g) rfl (GX.ls rfl rfl rfl (HS.pk 10 [6, 8] rfl) (fun _ HS _ g => GO.ldBoxA (j := 1) ([.int .i64 e198.crossing, .int .i64 e198.position]) HS rfl rfl rfl rfl ag94 rfl g) rfl (GX.l2 rfl (GO.fn rfl func83 fok83.1 fok83.2 rfl rfl (impl_passOf.calls HS  h242) (fun _ wd243 ⟨h244, HS⟩ => ⟨_, h244, (GX.fin (HS.pk 10 [6, 8] rfl) (GX.l2 rfl ?_))⟩)))))
        replace HS := HS.pk 10 [0, 1, 2, 3, 4, 5, 6, 7, 8, 9] rfl
        refine GO.fn rfl func82 fok82.1 fok82.2 rfl rfl (impl_Diagram_through.calls HS  h246) (fun _ wd248 ⟨h249, HS⟩ => ⟨_, h249, (GX.finZ (GX.nil ?_))⟩)
        replace HS := HS.boxEq (j := 6) (cs' := [.slice A37 t245.length c38, .int .i64 t35]) rfl (by simp only [List.length_set, c247] <;> rfl)
        refine G.run 3 rfl (G.weak ?_ (ih_l1 n_l1 (Nat.lt_succ_of_le (Nat.le_refl _)) (Nat.le_of_succ_le hm_l1) _ _ _ H (HS.pk 10 [1, 2, 3, 4, 5, 6, 0, 7] rfl)))
        exact ⟨rfl, rfl, rfl, rfl, rfl, rfl, rfl, trivial⟩
      refine G.noB rfl (decide_eq_false c183) (G.run 2 rfl (G.region (GO.ldBoxA (j := 5) ([.slice A37 out_113.length c38, .int .i64 t35]) HS rfl rfl rfl rfl ag30 rfl (GO.stBox (j := 1) (vs := [.slice A37 out_113.length c38, .int .i64 t35]) ([.slice A37 out_113.length c38, .int .i64 t35]) HS rfl rfl rfl rfl rfl (htA ag30) rfl rfl rfl fun wd250 HS => GO.assign rfl rfl rfl (GO.nil ?_)))))
      obtain ⟨rfl, rfl, rfl⟩ := some3 H
      exact G.ret2 _ _ func43 rfl (Res1.boxA (j := 1) (vs := [.slice A37 out_113.length c38, .int .i64 t35]) HS rfl rfl rfl ag30) rfl ⟨_, _, rfl, (HS.pk 8 [6] rfl)⟩
   refine G.weak ?_ (at_l1 K (Nat.le_refl _) _ _ _ H (HS.pk 9 [8, 7, 4, 5, 6, 0, 1, 3] rfl))
   exact ⟨rfl, rfl, rfl, rfl, rfl, rfl, rfl, trivial⟩
  refine G.yesB rfl (congrArg Bool.not (bnot_of c20)) (G.seq (G.region (GO.buildV (.agg [.slice none 0 0, .int .i64 0].toArray) rfl rfl (fun _ => by kernel_rfl) rfl (GO.stBox (j := 3) (vs := [.slice none 0 0, .int .i64 0]) ([.slice none 0 0, .int .i64 0]) HS rfl rfl rfl rfl rfl (htA ag30) rfl rfl rfl fun wd251 HS => GO.assign rfl rfl rfl (GO.nil ?_)))))
  replace HS := HS.nilRow T_GCrossing 61 (fun _ => ())
  obtain ⟨rfl, rfl, rfl⟩ := some3 H
  exact G.ret2 _ _ func43 rfl (Res1.boxA (j := 4) (vs := [.slice none 0 0, .int .i64 0]) HS rfl rfl rfl ag30) rfl ⟨_, _, rfl, (HS.pk 7 [0] rfl)⟩
theorem impl_applyKnotMove.calls {w0 w : World} {L : List HObj} {K : Nat} {d_Crossings : List GCrossing} {d_Circles m_Kind : Int} {m_I m_J : Int} {A_a : Option Addr} {c_a : Nat} {r1 : List GCrossing} {r2 r3 : Int} (HS : St w0 w (L)) (r_a : RdIn w0 L T_GCrossing A_a c_a (fun _ => ()) d_Crossings) (H : impl_applyKnotMove.f K d_Crossings d_Circles m_Kind m_I m_J = some (r1, r2, r3)) :
    Calls prog 22 #[.agg [.slice A_a d_Crossings.length c_a, .int .i64 d_Circles].toArray, .agg [.int .i64 m_Kind, .int .i64 m_I, .int .i64 m_J].toArray] w (impl_applyKnotMove.post w0 L r1 r2 r3) := by
  unfold impl_applyKnotMove.f at H
  refine Calls.of_G func22 rfl rfl rfl ?_
  refine G.seq (G.region (GO.box (cs := [.slice A_a d_Crossings.length c_a, .int .i64 d_Circles]) HS rfl rfl rfl rfl fun b1 wd2 HS => GO.box (cs := [.int .i64 m_Kind, .int .i64 m_I, .int .i64 m_J]) HS rfl rfl rfl rfl fun b3 wd4 HS => GO.alloc HS rfl zr30 rfl rfl fun b5 wd6 HS => GO.assign rfl rfl rfl (GO.nil (G.run 2 rfl (G.region (GO.fld (⟨b3, 0, none⟩) rfl rfl fl46_0 rfl rfl (GO.ldBox (j := 1) HS rfl rfl rfl rfl na2 rfl (GO.nil (G.run 3 rfl ?_)))))))))
  rcases ite_elim H with ⟨c7, H⟩ | ⟨c7, H⟩
  ·
   refine G.yesB rfl (decide_eq_true c7) (G.seq ?_)
   obtain ⟨t8, t9, t10, h11, H⟩ := bind3_elim H
   refine G.region (GO.ldBoxA (j := 2) ([.slice A_a d_Crossings.length c_a, .int .i64 d_Circles]) HS rfl rfl rfl rfl ag30 rfl (GO.fld (⟨b3, 1, none⟩) rfl rfl fl46_1 rfl rfl (GO.ldBox (j := 1) HS rfl rfl rfl rfl na2 rfl (GO.fld (⟨b3, 2, none⟩) rfl rfl fl46_2 rfl rfl (GO.ldBox (j := 1) HS rfl rfl rfl rfl na2 rfl (GO.fn rfl func39 fok39.1 fok39.2 rfl rfl (impl_AddKink.calls HS (RdIn.drop 3 r_a) h11) (fun _ wd14 ⟨A12, c13, h15, HS⟩ => ⟨_, h15, (GO.ps 2 rfl (GO.stBox (j := 1) (vs := [.slice A12 t8.length c13, .int .i64 t9]) ([.slice A12 t8.length c13, .int .i64 t9]) HS rfl rfl rfl rfl rfl (htA ag30) rfl rfl rfl fun wd16 HS => GO.assign rfl rfl rfl (GO.nil ?_)))⟩)))))))
   obtain ⟨rfl, rfl, rfl⟩ := some3 H
   exact G.ret2 _ _ func22 rfl (Res1.boxA (j := 1) (vs := [.slice A12 t8.length c13, .int .i64 t9]) HS rfl rfl rfl ag30) rfl ⟨_, _, rfl, (HS.pk 4 [0] rfl)⟩
  refine G.noB rfl (decide_eq_false c7) (G.run 2 rfl ?_)
  rcases ite_elim H with ⟨c17, H⟩ | ⟨c17, H⟩
  ·
   refine G.yesB rfl (decide_eq_true c17) (G.seq ?_)
   obtain ⟨t18, t19, t20, h21, H⟩ := bind3_elim H
   refine G.region (GO.ldBoxA (j := 2) ([.slice A_a d_Crossings.length c_a, .int .i64 d_Circles]) HS rfl rfl rfl rfl ag30 rfl (GO.fld (⟨b3, 1, none⟩) rfl rfl fl46_1 rfl rfl (GO.ldBox (j := 1) HS rfl rfl rfl rfl na2 rfl (GO.fn rfl func40 fok40.1 fok40.2 rfl rfl (impl_RemoveKink.calls HS (RdIn.drop 3 r_a) h21) (fun _ wd24 ⟨A22, c23, h25, HS⟩ => ⟨_, h25, (GO.ps 2 rfl (GO.stBox (j := 1) (vs := [.slice A22 t18.length c23, .int .i64 t19]) ([.slice A22 t18.length c23, .int .i64 t19]) HS rfl rfl rfl rfl rfl (htA ag30) rfl rfl rfl fun wd26 HS => GO.assign rfl rfl rfl (GO.nil ?_)))⟩)))))
   obtain ⟨rfl, rfl, rfl⟩ := some3 H
   exact G.ret2 _ _ func22 rfl (Res1.boxA (j := 1) (vs := [.slice A22 t18.length c23, .int .i64 t19]) HS rfl rfl rfl ag30) rfl ⟨_, _, rfl, (HS.pk 4 [0] rfl)⟩
  refine G.noB rfl (decide_eq_false c17) (G.run 2 rfl ?_)
  rcases ite_elim H with ⟨c27, H⟩ | ⟨c27, H⟩
  ·
   refine G.yesB rfl (decide_eq_true c27) (G.seq ?_)
   obtain ⟨t28, t29, t30, h31, H⟩ := bind3_elim H
   refine G.region (GO.ldBoxA (j := 2) ([.slice A_a d_Crossings.length c_a, .int .i64 d_Circles]) HS rfl rfl rfl rfl ag30 rfl (GO.fld (⟨b3, 1, none⟩) rfl rfl fl46_1 rfl rfl (GO.ldBox (j := 1) HS rfl rfl rfl rfl na2 rfl (GO.fld (⟨b3, 2, none⟩) rfl rfl fl46_2 rfl rfl (GO.ldBox (j := 1) HS rfl rfl rfl rfl na2 rfl (GO.fn rfl func41 fok41.1 fok41.2 rfl rfl (impl_AddBigon.calls HS (RdIn.drop 3 r_a) h31) (fun _ wd34 ⟨A32, c33, h35, HS⟩ => ⟨_, h35, (GO.ps 2 rfl (GO.stBox (j := 1) (vs := [.slice A32 t28.length c33, .int .i64 t29]) ([.slice A32 t28.length c33, .int .i64 t29]) HS rfl rfl rfl rfl rfl (htA ag30) rfl rfl rfl fun wd36 HS => GO.assign rfl rfl rfl (GO.nil ?_)))⟩)))))))
   obtain ⟨rfl, rfl, rfl⟩ := some3 H
   exact G.ret2 _ _ func22 rfl (Res1.boxA (j := 1) (vs := [.slice A32 t28.length c33, .int .i64 t29]) HS rfl rfl rfl ag30) rfl ⟨_, _, rfl, (HS.pk 4 [0] rfl)⟩
  refine G.noB rfl (decide_eq_false c27) (G.run 2 rfl ?_)
  rcases ite_elim H with ⟨c37, H⟩ | ⟨c37, H⟩
  ·
   refine G.yesB rfl (decide_eq_true c37) (G.seq ?_)
   obtain ⟨t38, t39, t40, h41, H⟩ := bind3_elim H
   refine G.region (GO.ldBoxA (j := 2) ([.slice A_a d_Crossings.length c_a, .int .i64 d_Circles]) HS rfl rfl rfl rfl ag30 rfl (GO.fld (⟨b3, 1, none⟩) rfl rfl fl46_1 rfl rfl (GO.ldBox (j := 1) HS rfl rfl rfl rfl na2 rfl (GO.fld (⟨b3, 2, none⟩) rfl rfl fl46_2 rfl rfl (GO.ldBox (j := 1) HS rfl rfl rfl rfl na2 rfl (GO.fn rfl func42 fok42.1 fok42.2 rfl rfl (impl_RemoveBigon.calls HS (RdIn.drop 3 r_a) h41) (fun _ wd44 ⟨A42, c43, h45, HS⟩ => ⟨_, h45, (GO.ps 2 rfl (GO.stBox (j := 1) (vs := [.slice A42 t38.length c43, .int .i64 t39]) ([.slice A42 t38.length c43, .int .i64 t39]) HS rfl rfl rfl rfl rfl (htA ag30) rfl rfl rfl fun wd46 HS => GO.assign rfl rfl rfl (GO.nil ?_)))⟩)))))))
   obtain ⟨rfl, rfl, rfl⟩ := some3 H
   exact G.ret2 _ _ func22 rfl (Res1.boxA (j := 1) (vs := [.slice A42 t38.length c43, .int .i64 t39]) HS rfl rfl rfl ag30) rfl ⟨_, _, rfl, (HS.pk 4 [0] rfl)⟩
  refine G.noB rfl (decide_eq_false c37) (G.run 2 rfl ?_)
  rcases ite_elim H with ⟨c47, H⟩ | ⟨c47, H⟩
  ·
   refine G.yesB rfl (decide_eq_true c47) (G.seq ?_)
   obtain ⟨t48, t49, t50, h51, H⟩ := bind3_elim H
   refine G.region (GO.ldBoxA (j := 2) ([.slice A_a d_Crossings.length c_a, .int .i64 d_Circles]) HS rfl rfl rfl rfl ag30 rfl (GO.fld (⟨b3, 1, none⟩) rfl rfl fl46_1 rfl rfl (GO.ldBox (j := 1) HS rfl rfl rfl rfl na2 rfl (GO.fn rfl func43 fok43.1 fok43.2 rfl rfl (impl_SlideTriangle.calls HS (RdIn.drop 3 r_a) h51) (fun _ wd54 ⟨A52, c53, h55, HS⟩ => ⟨_, h55, (GO.ps 2 rfl (GO.stBox (j := 1) (vs := [.slice A52 t48.length c53, .int .i64 t49]) ([.slice A52 t48.length c53, .int .i64 t49]) HS rfl rfl rfl rfl rfl (htA ag30) rfl rfl rfl fun wd56 HS => GO.assign rfl rfl rfl (GO.nil ?_)))⟩)))))
   obtain ⟨rfl, rfl, rfl⟩ := some3 H
   exact G.ret2 _ _ func22 rfl (Res1.boxA (j := 1) (vs := [.slice A52 t48.length c53, .int .i64 t49]) HS rfl rfl rfl ag30) rfl ⟨_, _, rfl, (HS.pk 4 [0] rfl)⟩
  refine G.noB rfl (decide_eq_false c47) (G.run 3 rfl (G.region (GO.buildV (.agg [.slice none 0 0, .int .i64 0].toArray) rfl rfl (fun _ => by kernel_rfl) rfl (GO.stBox (j := 0) (vs := [.slice none 0 0, .int .i64 0]) ([.slice none 0 0, .int .i64 0]) HS rfl rfl rfl rfl rfl (htA ag30) rfl rfl rfl fun wd57 HS => GO.assign rfl rfl rfl (GO.nil ?_)))))
  replace HS := HS.nilRow T_GCrossing 61 (fun _ => ())
  obtain ⟨rfl, rfl, rfl⟩ := some3 H
  exact G.ret2 _ _ func22 rfl (Res1.boxA (j := 1) (vs := [.slice none 0 0, .int .i64 0]) HS rfl rfl rfl ag30) rfl ⟨_, _, rfl, (HS.pk 4 [0] rfl)⟩
theorem impl_ApplyKnotMoves.calls {w0 w : World} {L : List HObj} {K : Nat} {d_Crossings : List GCrossing} {d_Circles : Int} {moves : List GKnotMove} {A_a : Option Addr} {c_a : Nat} {A_b : Option Addr} {c_b : Nat} {r1 : List GCrossing} {r2 r3 r4 : Int} (HS : St w0 w (L)) (r_a : RdIn w0 L T_GCrossing A_a c_a (fun _ => ()) d_Crossings) (r_b : RdIn w0 L T_GKnotMove A_b c_b (fun _ => ()) moves) (H : impl_ApplyKnotMoves.f K d_Crossings d_Circles moves = some (r1, r2, r3, r4)) :
    Calls prog 9 #[.agg [.slice A_a d_Crossings.length c_a, .int .i64 d_Circles].toArray, .slice A_b moves.length c_b] w (impl_ApplyKnotMoves.post w0 L r1 r2 r3 r4) := by
  unfold impl_ApplyKnotMoves.f at H
  refine Calls.of_G func9 rfl rfl rfl ?_
  refine G.seq (G.region (GO.box (cs := [.slice A_a d_Crossings.length c_a, .int .i64 d_Circles]) HS rfl rfl rfl rfl fun b1 wd2 HS => GO.alloc HS rfl zr30 rfl rfl fun b3 wd4 HS => GO.ps 2 rfl (GO.nil (G.run 3 rfl ?_))))
  obtain ⟨t5, h6, H⟩ := Option.bind_eq_some_iff.1 H
  refine G.region (GO.ldBoxA (j := 1) ([.slice A_a d_Crossings.length c_a, .int .i64 d_Circles]) HS rfl rfl rfl rfl ag30 rfl (GO.fn rfl func20 fok20.1 fok20.2 rfl rfl (impl_isDiagram.calls HS (RdIn.drop 2 r_a) h6) (fun _ wd7 ⟨h8, HS⟩ => ⟨_, h8, (GO.ps 2 rfl (GO.nil ?_))⟩)))
  rcases ite_elim H with ⟨c9, H⟩ | ⟨c9, H⟩
  ·
   refine G.noB rfl (congrArg Bool.not c9) (G.seq (G.region (GO.move rfl rfl rfl (GO.lenS rfl rfl underlying34 rfl (GO.ps 2 rfl (GO.nil ?_))))))
   rcases ite_elim H with ⟨c10, H⟩ | ⟨c10, H⟩
   ·
    refine G.yesB rfl (decide_eq_true c10) (G.seq (G.region (GO.buildV (.agg [.slice none 0 0, .int .i64 0].toArray) rfl rfl (fun _ => by kernel_rfl) rfl (GO.stBox (j := 0) (vs := [.slice none 0 0, .int .i64 0]) ([.slice none 0 0, .int .i64 0]) HS rfl rfl rfl rfl rfl (htA ag30) rfl rfl rfl fun wd11 HS => GO.ps 2 rfl (GO.nil ?_)))))
    replace HS := HS.nilRow T_GCrossing 61 (fun _ => ())
    obtain ⟨rfl, rfl, rfl, rfl⟩ := some4 H
    exact G.ret3 _ _ _ func9 rfl (Res1.boxA (j := 1) (vs := [.slice none 0 0, .int .i64 0]) HS rfl rfl rfl ag30) rfl rfl ⟨_, _, rfl, (HS.pk 3 [0] rfl)⟩
   refine G.noB rfl (decide_eq_false c10) (G.run 3 rfl ?_)
   obtain ⟨t12, t13, h14, H⟩ := bind2_elim H
   refine G.region (GO.ldBoxA (j := 1) ([.slice A_a d_Crossings.length c_a, .int .i64 d_Circles]) HS rfl rfl rfl rfl ag30 rfl (GO.fn rfl func21 fok21.1 fok21.2 rfl rfl (impl_copyDiagram.calls HS (RdIn.drop 2 r_a) h14) (fun _ wd17 ⟨A15, c16, h18, HS⟩ => ⟨_, h18, (GO.alloc HS rfl zr30 rfl rfl fun b19 wd20 HS => GO.stBox (j := 0) (vs := [.slice A15 t12.length c16, .int .i64 t13]) ([.slice A15 t12.length c16, .int .i64 t13]) HS rfl rfl rfl rfl rfl (htA ag30) rfl rfl rfl fun wd21 HS => GO.nil (G.run 2 rfl (G.region (GO.move rfl rfl rfl (GO.lenS rfl rfl underlying34 rfl (GO.move rfl rfl rfl (GO.nil (G.run 2 rfl ?_))))))))⟩)))
   refine G.name (fun k_l1 hk_l1 => ?_)
   have at_l1 : ∀ m_l1, m_l1 ≤ K → ∀ (A44 : Option Addr) (c45 : Nat) (out_46 : List GCrossing) (out_47 x48 : Int) (w : World), impl_ApplyKnotMoves.l1 K m_l1 moves out_46 out_47 x48 = some (r1, r2, r3, r4) → St w0 w (Box b3 30 [.slice none 0 0, .int .i64 0] :: Box b19 30 [.slice A44 out_46.length c45, .int .i64 out_47] :: Own T_GCrossing 61 A44 c45 (fun _ => ()) out_46 :: L) → G prog 9 45 [(4, .pointer (some ⟨b3, 0, none⟩)), (7, .pointer (some ⟨b19, 0, none⟩)), (24, .slice A_b moves.length c_b), (25, .int .i64 (moves.length : Int)), (26, .int .i64 x48)] k_l1 w (impl_ApplyKnotMoves.post w0 L r1 r2 r3 r4) := by
    intro m_l1
    induction m_l1 using Nat.strongRecOn with
    | _ m_l1 ih_l1 =>
     intro hm_l1 A44 c45 out_46 out_47 x48 w H HS
     cases m_l1 with
     | zero => rw [impl_ApplyKnotMoves.l1] at H; cases H
     | succ n_l1 =>
      rw [impl_ApplyKnotMoves.l1] at H
      subst hk_l1
      refine G.run 3 rfl ?_
      rcases ite_elim H with ⟨c71, H⟩ | ⟨c71, H⟩
      ·
       refine G.yesB rfl (decide_eq_true c71) (G.run 4 rfl ?_)
       obtain ⟨c72, H⟩ := ite_none H
       obtain ⟨e73, h74, H⟩ := bnd_elim H
       refine G.region (GO.move rfl rfl rfl (GO.ix rfl rfl rfl underlying34 sz46 ((RdIn.drop 3 r_b) _ HS).2.2.1 c72.1 c72.2 rfl (GO.ldRdA (T := T_GKnotMove) (n := x48.toNat) HS (RdIn.drop 3 r_b) rfl rfl (getD_eq (ltN c72) h74) ag46 rfl (GO.alloc HS rfl zr46 rfl rfl fun b75 wd76 HS => GO.assign rfl rfl rfl (GO.stBox (j := 0) (vs := [.int .i64 e73.Kind, .int .i64 e73.I, .int .i64 e73.J]) ([.int .i64 e73.Kind, .int .i64 e73.I, .int .i64 e73.J]) HS rfl rfl rfl rfl rfl (htA ag46) rfl rfl rfl fun wd77 HS => GO.nil (G.seq ?_))))))
       obtain ⟨t78, t79, t80, h81, H⟩ := bind3_elim H
       refine G.region (GO.ldBoxA (j := 2) ([.slice A44 out_46.length c45, .int .i64 out_47]) HS rfl rfl rfl rfl ag30 rfl (GO.ldBoxA (j := 0) ([.int .i64 e73.Kind, .int .i64 e73.I, .int .i64 e73.J]) HS rfl rfl rfl rfl ag46 rfl (GO.fn rfl func22 fok22.1 fok22.2 rfl rfl (impl_applyKnotMove.calls HS (RdIn.own (j := 3) rfl) h81) (fun _ wd84 ⟨A82, c83, h85, HS⟩ => ⟨_, h85, (GO.ps 3 rfl (GO.alloc HS rfl zr30 rfl rfl fun b86 wd87 HS => GO.stBox (j := 0) (vs := [.slice A82 t78.length c83, .int .i64 t79]) ([.slice A82 t78.length c83, .int .i64 t79]) HS rfl rfl rfl rfl rfl (htA ag30) rfl rfl rfl fun wd88 HS => GO.assign rfl rfl rfl (GO.nil (G.run 3 rfl ?_))))⟩))))
       rcases ite_elim H with ⟨c89, H⟩ | ⟨c89, H⟩
       ·
        refine G.noB rfl (congrArg Bool.not (decide_eq_true c89)) (G.skip (G.region (GO.ldBoxA (j := 0) ([.slice A82 t78.length c83, .int .i64 t79]) HS rfl rfl rfl rfl ag30 rfl (GO.stBox (j := 4) (vs := [.slice A82 t78.length c83, .int .i64 t79]) ([.slice A82 t78.length c83, .int .i64 t79]) HS rfl rfl rfl rfl rfl (htA ag30) rfl rfl rfl fun wd90 HS => GO.nil (G.run 3 rfl (G.weak ?_ (ih_l1 n_l1 (Nat.lt_succ_of_le (Nat.le_refl _)) (Nat.le_of_succ_le hm_l1) _ _ _ _ _ _ H (HS.pk 6 [3, 4, 1] rfl))))))))
        exact ⟨rfl, rfl, rfl, rfl, rfl, trivial⟩
       refine G.yesB rfl (congrArg Bool.not (decide_eq_false c89)) (G.seq (G.region (GO.buildV (.agg [.slice none 0 0, .int .i64 0].toArray) rfl rfl (fun _ => by kernel_rfl) rfl (GO.ps 2 rfl (GO.stBox (j := 3) (vs := [.slice none 0 0, .int .i64 0]) ([.slice none 0 0, .int .i64 0]) HS rfl rfl rfl rfl rfl (htA ag30) rfl rfl rfl fun wd91 HS => GO.ps 2 rfl (GO.nil ?_))))))
       replace HS := HS.nilRow T_GCrossing 61 (fun _ => ())
       obtain ⟨rfl, rfl, rfl, rfl⟩ := some4 H
       exact G.ret3 _ _ _ func9 rfl (Res1.boxA (j := 4) (vs := [.slice none 0 0, .int .i64 0]) HS rfl rfl rfl ag30) rfl rfl ⟨_, _, rfl, (HS.pk 7 [0] rfl)⟩
      refine G.noB rfl (decide_eq_false c71) (G.run 2 rfl (G.region (GO.ldBoxA (j := 1) ([.slice A44 out_46.length c45, .int .i64 out_47]) HS rfl rfl rfl rfl ag30 rfl (GO.stBox (j := 0) (vs := [.slice A44 out_46.length c45, .int .i64 out_47]) ([.slice A44 out_46.length c45, .int .i64 out_47]) HS rfl rfl rfl rfl rfl (htA ag30) rfl rfl rfl fun wd92 HS => GO.ps 2 rfl (GO.nil ?_)))))
      obtain ⟨rfl, rfl, rfl, rfl⟩ := some4 H
      exact G.ret3 _ _ _ func9 rfl (Res1.boxA (j := 0) (vs := [.slice A44 out_46.length c45, .int .i64 out_47]) HS rfl rfl rfl ag30) rfl rfl ⟨_, _, rfl, (HS.pk 3 [2] rfl)⟩
   refine G.weak ?_ (at_l1 K (Nat.le_refl _) _ _ _ _ _ _ H (HS.pk 4 [2, 0, 1] rfl))
   exact ⟨rfl, rfl, rfl, rfl, rfl, trivial⟩
  refine G.yesB rfl (congrArg Bool.not (bnot_of c9)) (G.seq (G.region (GO.buildV (.agg [.slice none 0 0, .int .i64 0].toArray) rfl rfl (fun _ => by kernel_rfl) rfl (GO.stBox (j := 0) (vs := [.slice none 0 0, .int .i64 0]) ([.slice none 0 0, .int .i64 0]) HS rfl rfl rfl rfl rfl (htA ag30) rfl rfl rfl fun wd93 HS => GO.ps 2 rfl (GO.nil ?_)))))
  replace HS := HS.nilRow T_GCrossing 61 (fun _ => ())
  obtain ⟨rfl, rfl, rfl, rfl⟩ := some4 H
  exact G.ret3 _ _ _ func9 rfl (Res1.boxA (j := 1) (vs := [.slice none 0 0, .int .i64 0]) HS rfl rfl rfl ag30) rfl rfl ⟨_, _, rfl, (HS.pk 3 [0] rfl)⟩
theorem laws_eqCrossing.calls {w0 w : World} {L : List HObj} {a_A a_B : Int} {a_C a_D : Int} {a_Sign b_A : Int} {b_B b_C : Int} {b_D b_Sign : Int} {r1 : Bool} (HS : St w0 w (L)) (H : laws_eqCrossing.f a_A a_B a_C a_D a_Sign b_A b_B b_C b_D b_Sign = some r1) :
    Calls prog 44 #[.agg [.int .i64 a_A, .int .i64 a_B, .int .i64 a_C, .int .i64 a_D, .int .i64 a_Sign].toArray, .agg [.int .i64 b_A, .int .i64 b_B, .int .i64 b_C, .int .i64 b_D, .int .i64 b_Sign].toArray] w (laws_eqCrossing.post w0 L r1) := by
  unfold laws_eqCrossing.f at H
  refine Calls.of_G func44 rfl rfl rfl ?_
  refine G.seq (G.region (GO.box (cs := [.int .i64 a_A, .int .i64 a_B, .int .i64 a_C, .int .i64 a_D, .int .i64 a_Sign]) HS rfl rfl rfl rfl fun b1 wd2 HS => GO.box (cs := [.int .i64 b_A, .int .i64 b_B, .int .i64 b_C, .int .i64 b_D, .int .i64 b_Sign]) HS rfl rfl rfl rfl fun b3 wd4 HS => GO.assign rfl rfl rfl (GO.nil (G.run 2 rfl (G.region (GO.fld (⟨b1, 0, none⟩) rfl rfl fl61_0 rfl rfl (GO.ldBox (j := 1) HS rfl rfl rfl rfl na2 rfl (GO.fld (⟨b3, 0, none⟩) rfl rfl fl61_0 rfl rfl (GO.ldBox (j := 0) HS rfl rfl rfl rfl na2 rfl (GO.neq rfl rfl rfl rfl (GO.nil ?_)))))))))))
  rcases ite_elim H with ⟨c5, H⟩ | ⟨c5, H⟩
  ·
   refine G.noB rfl (congrArg Bool.not (decide_eq_true c5)) (G.run 3 rfl (G.region (GO.fld (⟨b1, 1, none⟩) rfl rfl fl61_1 rfl rfl (GO.ldBox (j := 1) HS rfl rfl rfl rfl na2 rfl (GO.fld (⟨b3, 1, none⟩) rfl rfl fl61_1 rfl rfl (GO.ldBox (j := 0) HS rfl rfl rfl rfl na2 rfl (GO.neq rfl rfl rfl rfl (GO.nil ?_))))))))
   rcases ite_elim H with ⟨c6, H⟩ | ⟨c6, H⟩
   ·
    refine G.noB rfl (congrArg Bool.not (decide_eq_true c6)) (G.run 3 rfl (G.region (GO.fld (⟨b1, 2, none⟩) rfl rfl fl61_2 rfl rfl (GO.ldBox (j := 1) HS rfl rfl rfl rfl na2 rfl (GO.fld (⟨b3, 2, none⟩) rfl rfl fl61_2 rfl rfl (GO.ldBox (j := 0) HS rfl rfl rfl rfl na2 rfl (GO.neq rfl rfl rfl rfl (GO.nil ?_))))))))
    rcases ite_elim H with ⟨c7, H⟩ | ⟨c7, H⟩
    ·
     refine G.noB rfl (congrArg Bool.not (decide_eq_true c7)) (G.run 3 rfl (G.region (GO.fld (⟨b1, 3, none⟩) rfl rfl fl61_3 rfl rfl (GO.ldBox (j := 1) HS rfl rfl rfl rfl na2 rfl (GO.fld (⟨b3, 3, none⟩) rfl rfl fl61_3 rfl rfl (GO.ldBox (j := 0) HS rfl rfl rfl rfl na2 rfl (GO.neq rfl rfl rfl rfl (GO.nil ?_))))))))
     rcases ite_elim H with ⟨c8, H⟩ | ⟨c8, H⟩
     ·
      refine G.noB rfl (congrArg Bool.not (decide_eq_true c8)) (G.run 3 rfl (G.region (GO.fld (⟨b1, 4, none⟩) rfl rfl fl61_4 rfl rfl (GO.ldBox (j := 1) HS rfl rfl rfl rfl na2 rfl (GO.fld (⟨b3, 4, none⟩) rfl rfl fl61_4 rfl rfl (GO.ldBox (j := 0) HS rfl rfl rfl rfl na2 rfl (GO.neq rfl rfl rfl rfl (GO.nil ?_))))))))
      rcases ite_elim H with ⟨c9, H⟩ | ⟨c9, H⟩
      ·
       refine G.noB rfl (congrArg Bool.not (decide_eq_true c9)) (G.run 3 rfl ?_)
       obtain rfl := Option.some.inj H
       exact G.ret1 _ func44 rfl rfl ⟨rfl, (HS.pk 2 [] rfl)⟩
      refine G.yesB rfl (congrArg Bool.not (decide_eq_false c9)) (G.run 2 rfl ?_)
      obtain rfl := Option.some.inj H
      exact G.ret1 _ func44 rfl rfl ⟨rfl, (HS.pk 2 [] rfl)⟩
     refine G.yesB rfl (congrArg Bool.not (decide_eq_false c8)) (G.run 2 rfl ?_)
     obtain rfl := Option.some.inj H
     exact G.ret1 _ func44 rfl rfl ⟨rfl, (HS.pk 2 [] rfl)⟩
    refine G.yesB rfl (congrArg Bool.not (decide_eq_false c7)) (G.run 2 rfl ?_)
    obtain rfl := Option.some.inj H
    exact G.ret1 _ func44 rfl rfl ⟨rfl, (HS.pk 2 [] rfl)⟩
   refine G.yesB rfl (congrArg Bool.not (decide_eq_false c6)) (G.run 2 rfl ?_)
   obtain rfl := Option.some.inj H
   exact G.ret1 _ func44 rfl rfl ⟨rfl, (HS.pk 2 [] rfl)⟩
  refine G.yesB rfl (congrArg Bool.not (decide_eq_false c5)) (G.run 2 rfl ?_)
  obtain rfl := Option.some.inj H
  exact G.ret1 _ func44 rfl rfl ⟨rfl, (HS.pk 2 [] rfl)⟩
theorem laws_eqCrossingS.calls {w0 w : World} {L : List HObj} {K : Nat} {a_ b_ : List GCrossing} {A_a : Option Addr} {c_a : Nat} {A_b : Option Addr} {c_b : Nat} {r1 : Bool} (HS : St w0 w (L)) (r_a : RdIn w0 L T_GCrossing A_a c_a (fun _ => ()) a_) (r_b : RdIn w0 L T_GCrossing A_b c_b (fun _ => ()) b_) (H : laws_eqCrossingS.f K a_ b_ = some r1) :
    Calls prog 23 #[.slice A_a a_.length c_a, .slice A_b b_.length c_b] w (laws_eqCrossingS.post w0 L r1) := by
  unfold laws_eqCrossingS.f at H
  refine Calls.of_G func23 rfl rfl rfl ?_
  refine G.run 4 rfl (G.region (GO.move rfl rfl rfl (GO.lenS rfl rfl underlying28 rfl (GO.move rfl rfl rfl (GO.lenS rfl rfl underlying28 rfl (GO.neq rfl rfl rfl rfl (GO.nil ?_)))))))
  rcases ite_elim H with ⟨c1, H⟩ | ⟨c1, H⟩
  ·
   refine G.noB rfl (congrArg Bool.not (decide_eq_true c1)) (G.run 6 rfl ?_)
   refine G.name (fun k_l1 hk_l1 => ?_)
   have at_l1 : ∀ m_l1, m_l1 ≤ K → ∀ (i_14 : Int) (w : World), laws_eqCrossingS.l1 K m_l1 a_ b_ i_14 = some r1 → St w0 w (L) → G prog 23 27 [(0, .slice A_a a_.length c_a), (1, .slice A_b b_.length c_b), (5, .int .i64 i_14)] k_l1 w (laws_eqCrossingS.post w0 L r1) := by
    intro m_l1
    induction m_l1 using Nat.strongRecOn with
    | _ m_l1 ih_l1 =>
     intro hm_l1 i_14 w H HS
     cases m_l1 with
     | zero => rw [laws_eqCrossingS.l1] at H; cases H
     | succ n_l1 =>
      rw [laws_eqCrossingS.l1] at H
      subst hk_l1
      refine G.run 2 rfl (G.region (GO.ps 2 rfl (GO.lenS rfl rfl underlying28 rfl (GO.lss rfl rfl rfl rfl (GO.nil ?_)))))
      rcases ite_elim H with ⟨c27, H⟩ | ⟨c27, H⟩
      ·
       refine G.yesB rfl (decide_eq_true c27) (G.run 4 rfl ?_)
       obtain ⟨c28, H⟩ := ite_none H
       obtain ⟨e29, h30, H⟩ := bnd_elim H
       obtain ⟨c31, H⟩ := ite_none H
       obtain ⟨e32, h33, H⟩ := bnd_elim H
       obtain ⟨t34, h35, H⟩ := Option.bind_eq_some_iff.1 H
       refine G.lex mixed [0, 1, 2, 4, 5, 6, 3, 7, 8, 9] (by kernel_rfl) ?_
       replace HS := HS.drew
       refine GX.ps 2 rfl (GX.l0 rfl rfl (fun _ _ g => GO.ix rfl rfl rfl underlying28 sz61 (r_a _ HS).2.2.1 c28.1 c28.2 rfl g) rfl (GX.ps 2 rfl (GX.l0 rfl rfl (fun _ _ g => GO.ix rfl rfl rfl underlying28 sz61 (r_b _ HS).2.2.1 c31.1 c31.2 rfl g) rfl (GX.l1 rfl rfl rfl (fun _ g => GO.ldRdA (T := T_GCrossing) (n := i_14.toNat) HS r_a rfl rfl (getD_eq (ltN c28) h30) ag61 rfl g) rfl (GX.l1 rfl rfl rfl (fun _ g => GO.ldRdA (T := T_GCrossing) (n := i_14.toNat) HS r_b rfl rfl (getD_eq (ltN c31) h33) ag61 rfl g) rfl (GX.l2 rfl (GO.fn rfl func44 fok44.1 fok44.2 rfl rfl (laws_eqCrossing.calls HS  h35) (fun _ wd36 ⟨h37, HS⟩ => ⟨_, h37, (GX.fin trivial (GX.ps 1 rfl (GX.nil ?_)))⟩))))))))
       rcases ite_elim H with ⟨c38, H⟩ | ⟨c38, H⟩
       ·
        refine G.noB rfl (congrArg Bool.not c38) (G.run 4 rfl (G.weak ?_ (ih_l1 n_l1 (Nat.lt_succ_of_le (Nat.le_refl _)) (Nat.le_of_succ_le hm_l1) _ _ H HS)))
        exact ⟨rfl, rfl, rfl, trivial⟩
       refine G.yesB rfl (congrArg Bool.not (bnot_of c38)) (G.run 2 rfl ?_)
       obtain rfl := Option.some.inj H
       exact G.ret1 _ func23 rfl rfl ⟨rfl, HS⟩
      refine G.noB rfl (decide_eq_false c27) (G.run 3 rfl ?_)
      obtain rfl := Option.some.inj H
      exact G.ret1 _ func23 rfl rfl ⟨rfl, HS⟩
   refine G.weak ?_ (at_l1 K (Nat.le_refl _) _ _ H HS)
   exact ⟨rfl, rfl, rfl, trivial⟩
  refine G.yesB rfl (congrArg Bool.not (decide_eq_false c1)) (G.run 2 rfl ?_)
  obtain rfl := Option.some.inj H
  exact G.ret1 _ func23 rfl rfl ⟨rfl, HS⟩
theorem laws_eqDiagram.calls {w0 w : World} {L : List HObj} {K : Nat} {a_Crossings : List GCrossing} {a_Circles : Int} {b_Crossings : List GCrossing} {b_Circles : Int} {A_a : Option Addr} {c_a : Nat} {A_b : Option Addr} {c_b : Nat} {r1 : Bool} (HS : St w0 w (L)) (r_a : RdIn w0 L T_GCrossing A_a c_a (fun _ => ()) a_Crossings) (r_b : RdIn w0 L T_GCrossing A_b c_b (fun _ => ()) b_Crossings) (H : laws_eqDiagram.f K a_Crossings a_Circles b_Crossings b_Circles = some r1) :
    Calls prog 10 #[.agg [.slice A_a a_Crossings.length c_a, .int .i64 a_Circles].toArray, .agg [.slice A_b b_Crossings.length c_b, .int .i64 b_Circles].toArray] w (laws_eqDiagram.post w0 L r1) := by
  unfold laws_eqDiagram.f at H
  refine Calls.of_G func10 rfl rfl rfl ?_
  refine G.seq (G.region (GO.box (cs := [.slice A_a a_Crossings.length c_a, .int .i64 a_Circles]) HS rfl rfl rfl rfl fun b1 wd2 HS => GO.box (cs := [.slice A_b b_Crossings.length c_b, .int .i64 b_Circles]) HS rfl rfl rfl rfl fun b3 wd4 HS => GO.assign rfl rfl rfl (GO.nil (G.run 2 rfl ?_))))
  obtain ⟨t5, h6, H⟩ := Option.bind_eq_some_iff.1 H
  refine G.region (GO.fld (⟨b1, 0, none⟩) rfl rfl fl30_0 rfl rfl (GO.ldBox (j := 1) HS rfl rfl rfl rfl na28 rfl (GO.fld (⟨b3, 0, none⟩) rfl rfl fl30_0 rfl rfl (GO.ldBox (j := 0) HS rfl rfl rfl rfl na28 rfl (GO.fn rfl func23 fok23.1 fok23.2 rfl rfl (laws_eqCrossingS.calls HS (RdIn.drop 2 r_a) (RdIn.drop 2 r_b) h6) (fun _ wd7 ⟨h8, HS⟩ => ⟨_, h8, (GO.not rfl rfl rfl (GO.nil ?_))⟩))))))
  rcases ite_elim H with ⟨c9, H⟩ | ⟨c9, H⟩
  ·
   refine G.noB rfl (congrArg Bool.not c9) (G.run 3 rfl (G.region (GO.fld (⟨b1, 1, none⟩) rfl rfl fl30_1 rfl rfl (GO.ldBox (j := 1) HS rfl rfl rfl rfl na2 rfl (GO.fld (⟨b3, 1, none⟩) rfl rfl fl30_1 rfl rfl (GO.ldBox (j := 0) HS rfl rfl rfl rfl na2 rfl (GO.neq rfl rfl rfl rfl (GO.nil ?_))))))))
   rcases ite_elim H with ⟨c10, H⟩ | ⟨c10, H⟩
   ·
    refine G.noB rfl (congrArg Bool.not (decide_eq_true c10)) (G.run 3 rfl ?_)
    obtain rfl := Option.some.inj H
    exact G.ret1 _ func10 rfl rfl ⟨rfl, (HS.pk 2 [] rfl)⟩
   refine G.yesB rfl (congrArg Bool.not (decide_eq_false c10)) (G.run 2 rfl ?_)
   obtain rfl := Option.some.inj H
   exact G.ret1 _ func10 rfl rfl ⟨rfl, (HS.pk 2 [] rfl)⟩
  refine G.yesB rfl (congrArg Bool.not (bnot_of c9)) (G.run 2 rfl ?_)
  obtain rfl := Option.some.inj H
  exact G.ret1 _ func10 rfl rfl ⟨rfl, (HS.pk 2 [] rfl)⟩
theorem laws_eqKnotMove.calls {w0 w : World} {L : List HObj} {a_Kind a_I : Int} {a_J b_Kind : Int} {b_I b_J : Int} {r1 : Bool} (HS : St w0 w (L)) (H : laws_eqKnotMove.f a_Kind a_I a_J b_Kind b_I b_J = some r1) :
    Calls prog 24 #[.agg [.int .i64 a_Kind, .int .i64 a_I, .int .i64 a_J].toArray, .agg [.int .i64 b_Kind, .int .i64 b_I, .int .i64 b_J].toArray] w (laws_eqKnotMove.post w0 L r1) := by
  unfold laws_eqKnotMove.f at H
  refine Calls.of_G func24 rfl rfl rfl ?_
  refine G.seq (G.region (GO.box (cs := [.int .i64 a_Kind, .int .i64 a_I, .int .i64 a_J]) HS rfl rfl rfl rfl fun b1 wd2 HS => GO.box (cs := [.int .i64 b_Kind, .int .i64 b_I, .int .i64 b_J]) HS rfl rfl rfl rfl fun b3 wd4 HS => GO.assign rfl rfl rfl (GO.nil (G.run 2 rfl (G.region (GO.fld (⟨b1, 0, none⟩) rfl rfl fl46_0 rfl rfl (GO.ldBox (j := 1) HS rfl rfl rfl rfl na2 rfl (GO.fld (⟨b3, 0, none⟩) rfl rfl fl46_0 rfl rfl (GO.ldBox (j := 0) HS rfl rfl rfl rfl na2 rfl (GO.neq rfl rfl rfl rfl (GO.nil ?_)))))))))))
  rcases ite_elim H with ⟨c5, H⟩ | ⟨c5, H⟩
  ·
   refine G.noB rfl (congrArg Bool.not (decide_eq_true c5)) (G.run 3 rfl (G.region (GO.fld (⟨b1, 1, none⟩) rfl rfl fl46_1 rfl rfl (GO.ldBox (j := 1) HS rfl rfl rfl rfl na2 rfl (GO.fld (⟨b3, 1, none⟩) rfl rfl fl46_1 rfl rfl (GO.ldBox (j := 0) HS rfl rfl rfl rfl na2 rfl (GO.neq rfl rfl rfl rfl (GO.nil ?_))))))))
   rcases ite_elim H with ⟨c6, H⟩ | ⟨c6, H⟩
   ·
    refine G.noB rfl (congrArg Bool.not (decide_eq_true c6)) (G.run 3 rfl (G.region (GO.fld (⟨b1, 2, none⟩) rfl rfl fl46_2 rfl rfl (GO.ldBox (j := 1) HS rfl rfl rfl rfl na2 rfl (GO.fld (⟨b3, 2, none⟩) rfl rfl fl46_2 rfl rfl (GO.ldBox (j := 0) HS rfl rfl rfl rfl na2 rfl (GO.neq rfl rfl rfl rfl (GO.nil ?_))))))))
    rcases ite_elim H with ⟨c7, H⟩ | ⟨c7, H⟩
    ·
     refine G.noB rfl (congrArg Bool.not (decide_eq_true c7)) (G.run 3 rfl ?_)
     obtain rfl := Option.some.inj H
     exact G.ret1 _ func24 rfl rfl ⟨rfl, (HS.pk 2 [] rfl)⟩
    refine G.yesB rfl (congrArg Bool.not (decide_eq_false c7)) (G.run 2 rfl ?_)
    obtain rfl := Option.some.inj H
    exact G.ret1 _ func24 rfl rfl ⟨rfl, (HS.pk 2 [] rfl)⟩
   refine G.yesB rfl (congrArg Bool.not (decide_eq_false c6)) (G.run 2 rfl ?_)
   obtain rfl := Option.some.inj H
   exact G.ret1 _ func24 rfl rfl ⟨rfl, (HS.pk 2 [] rfl)⟩
  refine G.yesB rfl (congrArg Bool.not (decide_eq_false c5)) (G.run 2 rfl ?_)
  obtain rfl := Option.some.inj H
  exact G.ret1 _ func24 rfl rfl ⟨rfl, (HS.pk 2 [] rfl)⟩
theorem laws_eqKnotMoveS.calls {w0 w : World} {L : List HObj} {K : Nat} {a_ b_ : List GKnotMove} {A_a : Option Addr} {c_a : Nat} {A_b : Option Addr} {c_b : Nat} {r1 : Bool} (HS : St w0 w (L)) (r_a : RdIn w0 L T_GKnotMove A_a c_a (fun _ => ()) a_) (r_b : RdIn w0 L T_GKnotMove A_b c_b (fun _ => ()) b_) (H : laws_eqKnotMoveS.f K a_ b_ = some r1) :
    Calls prog 11 #[.slice A_a a_.length c_a, .slice A_b b_.length c_b] w (laws_eqKnotMoveS.post w0 L r1) := by
  unfold laws_eqKnotMoveS.f at H
  refine Calls.of_G func11 rfl rfl rfl ?_
  refine G.run 4 rfl (G.region (GO.move rfl rfl rfl (GO.lenS rfl rfl underlying34 rfl (GO.move rfl rfl rfl (GO.lenS rfl rfl underlying34 rfl (GO.neq rfl rfl rfl rfl (GO.nil ?_)))))))
  rcases ite_elim H with ⟨c1, H⟩ | ⟨c1, H⟩
  ·
   refine G.noB rfl (congrArg Bool.not (decide_eq_true c1)) (G.run 6 rfl ?_)
   refine G.name (fun k_l1 hk_l1 => ?_)
   have at_l1 : ∀ m_l1, m_l1 ≤ K → ∀ (i_14 : Int) (w : World), laws_eqKnotMoveS.l1 K m_l1 a_ b_ i_14 = some r1 → St w0 w (L) → G prog 11 27 [(0, .slice A_a a_.length c_a), (1, .slice A_b b_.length c_b), (5, .int .i64 i_14)] k_l1 w (laws_eqKnotMoveS.post w0 L r1) := by
    intro m_l1
    induction m_l1 using Nat.strongRecOn with
    | _ m_l1 ih_l1 =>
     intro hm_l1 i_14 w H HS
     cases m_l1 with
     | zero => rw [laws_eqKnotMoveS.l1] at H; cases H
     | succ n_l1 =>
      rw [laws_eqKnotMoveS.l1] at H
      subst hk_l1
      refine G.run 2 rfl (G.region (GO.ps 2 rfl (GO.lenS rfl rfl underlying34 rfl (GO.lss rfl rfl rfl rfl (GO.nil ?_)))))
      rcases ite_elim H with ⟨c27, H⟩ | ⟨c27, H⟩
      ·
       refine G.yesB rfl (decide_eq_true c27) (G.run 4 rfl ?_)
       obtain ⟨c28, H⟩ := ite_none H
       obtain ⟨e29, h30, H⟩ := bnd_elim H
       obtain ⟨c31, H⟩ := ite_none H
       obtain ⟨e32, h33, H⟩ := bnd_elim H
       obtain ⟨t34, h35, H⟩ := Option.bind_eq_some_iff.1 H
       refine G.lex mixed [0, 1, 2, 4, 5, 6, 3, 7, 8, 9] (by kernel_rfl) ?_
       replace HS := HS.drew
       refine GX.ps 2 rfl (GX.l0 rfl rfl (fun _ _ g => GO.ix rfl rfl rfl underlying34 sz46 (r_a _ HS).2.2.1 c28.1 c28.2 rfl g) rfl (GX.ps 2 rfl (GX.l0 rfl rfl (fun _ _ g => GO.ix rfl rfl rfl underlying34 sz46 (r_b _ HS).2.2.1 c31.1 c31.2 rfl g) rfl (GX.l1 rfl rfl rfl (fun _ g => GO.ldRdA (T := T_GKnotMove) (n := i_14.toNat) HS r_a rfl rfl (getD_eq (ltN c28) h30) ag46 rfl g) rfl (GX.l1 rfl rfl rfl (fun _ g => GO.ldRdA (T := T_GKnotMove) (n := i_14.toNat) HS r_b rfl rfl (getD_eq (ltN c31) h33) ag46 rfl g) rfl (GX.l2 rfl (GO.fn rfl func24 fok24.1 fok24.2 rfl rfl (laws_eqKnotMove.calls HS  h35) (fun _ wd36 ⟨h37, HS⟩ => ⟨_, h37, (GX.fin trivial (GX.ps 1 rfl (GX.nil ?_)))⟩))))))))
       rcases ite_elim H with ⟨c38, H⟩ | ⟨c38, H⟩
       ·
        refine G.noB rfl (congrArg Bool.not c38) (G.run 4 rfl (G.weak ?_ (ih_l1 n_l1 (Nat.lt_succ_of_le (Nat.le_refl _)) (Nat.le_of_succ_le hm_l1) _ _ H HS)))
        exact ⟨rfl, rfl, rfl, trivial⟩
       refine G.yesB rfl (congrArg Bool.not (bnot_of c38)) (G.run 2 rfl ?_)
       obtain rfl := Option.some.inj H
       exact G.ret1 _ func11 rfl rfl ⟨rfl, HS⟩
      refine G.noB rfl (decide_eq_false c27) (G.run 3 rfl ?_)
      obtain rfl := Option.some.inj H
      exact G.ret1 _ func11 rfl rfl ⟨rfl, HS⟩
   refine G.weak ?_ (at_l1 K (Nat.le_refl _) _ _ H HS)
   exact ⟨rfl, rfl, rfl, trivial⟩
  refine G.yesB rfl (congrArg Bool.not (decide_eq_false c1)) (G.run 2 rfl ?_)
  obtain rfl := Option.some.inj H
  exact G.ret1 _ func11 rfl rfl ⟨rfl, HS⟩
theorem laws_markCrossingS.calls {w0 w : World} {L : List HObj} {K : Nat} {a_ : List GCrossing} {k_ : Int} {A_a : Option Addr} {c_a : Nat} {r1 : Int} {r2 : List GCrossing} (HS : St w0 w (Own T_GCrossing 61 A_a c_a (fun _ => ()) a_ :: L)) (H : laws_markCrossingS.f K a_ k_ = some (r1, r2)) :
    Calls prog 25 #[.slice A_a a_.length c_a, .int .i64 k_] w (laws_markCrossingS.post w0 L A_a c_a r1 r2) := by
  unfold laws_markCrossingS.f at H
  refine Calls.of_G func25 rfl rfl rfl ?_
  refine G.run 7 rfl ?_
  refine G.name (fun k_l1 hk_l1 => ?_)
  have at_l1 : ∀ m_l1, m_l1 ≤ K → ∀ (x22 : List GCrossing) (k_23 i_24 : Int) (w : World), laws_markCrossingS.l1 K m_l1 x22 k_23 i_24 = some (r1, r2) → St w0 w (Own T_GCrossing 61 A_a c_a (fun _ => ()) x22 :: L) → G prog 25 48 [(0, .slice A_a x22.length c_a), (1, .int .i64 k_23), (5, .int .i64 i_24)] k_l1 w (laws_markCrossingS.post w0 L A_a c_a r1 r2) := by
   intro m_l1
   induction m_l1 using Nat.strongRecOn with
   | _ m_l1 ih_l1 =>
    intro hm_l1 x22 k_23 i_24 w H HS
    cases m_l1 with
    | zero => rw [laws_markCrossingS.l1] at H; cases H
    | succ n_l1 =>
     rw [laws_markCrossingS.l1] at H
     subst hk_l1
     refine G.run 2 rfl (G.region (GO.ps 2 rfl (GO.lenS rfl rfl underlying28 rfl (GO.lss rfl rfl rfl rfl (GO.nil ?_)))))
     rcases ite_elim H with ⟨c46, H⟩ | ⟨c46, H⟩
     ·
      refine G.yesB rfl (decide_eq_true c46) (G.run 4 rfl ?_)
      obtain ⟨c47, H⟩ := ite_none H
      obtain ⟨e49, h50, H⟩ := bnd_elim H
      refine G.region (GO.ps 3 rfl (GO.ix rfl rfl rfl underlying28 sz61 ((RdIn.own (j := 0) rfl) _ HS).2.2.1 c47.1 c47.2 rfl (GO.fld (ea A_a (i_24.toNat * 5)) rfl rfl fl61_0 rfl rfl (GO.stRow (T := T_GCrossing) (j := 0) (n := i_24.toNat) (o := 0) (vs := [.int .i64 k_23]) ({ e49 with A := k_23 }) HS rfl flat_flat rfl rfl rfl rfl (htN na2 rfl) rfl (getD_eq (ltN c47) h50) rfl rfl fun wd48 HS => GO.nil (G.len (t := 0) (m := (x22.set i_24.toNat ({ e49 with A := k_23 })).length) rfl (by simp only [List.length_set] <;> rfl) (G.run 3 rfl ?_))))))
      obtain ⟨c51, H⟩ := ite_none H
      obtain ⟨e53, h54, H⟩ := bnd_elim H
      refine G.region (GO.ps 3 rfl (GO.ix rfl rfl rfl underlying28 sz61 ((RdIn.own (j := 0) rfl) _ HS).2.2.1 c51.1 c51.2 rfl (GO.fld (ea A_a (i_24.toNat * 5 + 1)) rfl rfl fl61_1 (ea_add _ _ _) rfl (GO.stRow (T := T_GCrossing) (j := 0) (n := i_24.toNat) (o := 1) (vs := [.int .i64 (w64 (k_23 + 1))]) ({ e53 with B := w64 (k_23 + 1) }) HS rfl flat_flat rfl rfl rfl rfl (htN na2 rfl) rfl (getD_eq (ltN c51) h54) rfl rfl fun wd52 HS => GO.nil (G.len (t := 0) (m := ((x22.set i_24.toNat ({ e49 with A := k_23 })).set i_24.toNat ({ e53 with B := w64 (k_23 + 1) })).length) rfl (by simp only [List.length_set] <;> rfl) (G.run 3 rfl ?_))))))
      obtain ⟨c55, H⟩ := ite_none H
      obtain ⟨e57, h58, H⟩ := bnd_elim H
      refine G.region (GO.ps 3 rfl (GO.ix rfl rfl rfl underlying28 sz61 ((RdIn.own (j := 0) rfl) _ HS).2.2.1 c55.1 c55.2 rfl (GO.fld (ea A_a (i_24.toNat * 5 + 2)) rfl rfl fl61_2 (ea_add _ _ _) rfl (GO.stRow (T := T_GCrossing) (j := 0) (n := i_24.toNat) (o := 2) (vs := [.int .i64 (w64 ((w64 (k_23 + 1)) + 1))]) ({ e57 with C := w64 ((w64 (k_23 + 1)) + 1) }) HS rfl flat_flat rfl rfl rfl rfl (htN na2 rfl) rfl (getD_eq (ltN c55) h58) rfl rfl fun wd56 HS => GO.nil (G.len (t := 0) (m := (((x22.set i_24.toNat ({ e49 with A := k_23 })).set i_24.toNat ({ e53 with B := w64 (k_23 + 1) })).set i_24.toNat ({ e57 with C := w64 ((w64 (k_23 + 1)) + 1) })).length) rfl (by simp only [List.length_set] <;> rfl) (G.run 3 rfl ?_))))))
      obtain ⟨c59, H⟩ := ite_none H
      obtain ⟨e61, h62, H⟩ := bnd_elim H
      refine G.region (GO.ps 3 rfl (GO.ix rfl rfl rfl underlying28 sz61 ((RdIn.own (j := 0) rfl) _ HS).2.2.1 c59.1 c59.2 rfl (GO.fld (ea A_a (i_24.toNat * 5 + 3)) rfl rfl fl61_3 (ea_add _ _ _) rfl (GO.stRow (T := T_GCrossing) (j := 0) (n := i_24.toNat) (o := 3) (vs := [.int .i64 (w64 ((w64 ((w64 (k_23 + 1)) + 1)) + 1))]) ({ e61 with D := w64 ((w64 ((w64 (k_23 + 1)) + 1)) + 1) }) HS rfl flat_flat rfl rfl rfl rfl (htN na2 rfl) rfl (getD_eq (ltN c59) h62) rfl rfl fun wd60 HS => GO.nil (G.len (t := 0) (m := ((((x22.set i_24.toNat ({ e49 with A := k_23 })).set i_24.toNat ({ e53 with B := w64 (k_23 + 1) })).set i_24.toNat ({ e57 with C := w64 ((w64 (k_23 + 1)) + 1) })).set i_24.toNat ({ e61 with D := w64 ((w64 ((w64 (k_23 + 1)) + 1)) + 1) })).length) rfl (by simp only [List.length_set] <;> rfl) (G.run 3 rfl ?_))))))
      obtain ⟨c63, H⟩ := ite_none H
      obtain ⟨e65, h66, H⟩ := bnd_elim H
      refine G.region (GO.ps 3 rfl (GO.ix rfl rfl rfl underlying28 sz61 ((RdIn.own (j := 0) rfl) _ HS).2.2.1 c63.1 c63.2 rfl (GO.fld (ea A_a (i_24.toNat * 5 + 4)) rfl rfl fl61_4 (ea_add _ _ _) rfl (GO.stRow (T := T_GCrossing) (j := 0) (n := i_24.toNat) (o := 4) (vs := [.int .i64 (w64 ((w64 ((w64 ((w64 (k_23 + 1)) + 1)) + 1)) + 1))]) ({ e65 with Sign := w64 ((w64 ((w64 ((w64 (k_23 + 1)) + 1)) + 1)) + 1) }) HS rfl flat_flat rfl rfl rfl rfl (htN na2 rfl) rfl (getD_eq (ltN c63) h66) rfl rfl fun wd64 HS => GO.nil (G.len (t := 0) (m := (((((x22.set i_24.toNat ({ e49 with A := k_23 })).set i_24.toNat ({ e53 with B := w64 (k_23 + 1) })).set i_24.toNat ({ e57 with C := w64 ((w64 (k_23 + 1)) + 1) })).set i_24.toNat ({ e61 with D := w64 ((w64 ((w64 (k_23 + 1)) + 1)) + 1) })).set i_24.toNat ({ e65 with Sign := w64 ((w64 ((w64 ((w64 (k_23 + 1)) + 1)) + 1)) + 1) })).length) rfl (by simp only [List.length_set] <;> rfl) (G.run 4 rfl (G.weak ?_ (ih_l1 n_l1 (Nat.lt_succ_of_le (Nat.le_refl _)) (Nat.le_of_succ_le hm_l1) _ _ _ _ H HS))))))))
      exact ⟨rfl, rfl, rfl, trivial⟩
     refine G.noB rfl (decide_eq_false c46) (G.run 3 rfl ?_)
     obtain ⟨rfl, rfl⟩ := some2 H
     exact G.ret1 _ func25 rfl rfl ⟨rfl, HS⟩
  refine G.weak ?_ (at_l1 K (Nat.le_refl _) _ _ _ _ H HS)
  exact ⟨rfl, rfl, rfl, trivial⟩
theorem laws_markDiagram.calls {w0 w : World} {L : List HObj} {K : Nat} {a_Crossings : List GCrossing} {a_Circles k_ : Int} {A_a : Option Addr} {c_a : Nat} {r1 : Int} {r2 : List GCrossing} (HS : St w0 w (Own T_GCrossing 61 A_a c_a (fun _ => ()) a_Crossings :: L)) (H : laws_markDiagram.f K a_Crossings a_Circles k_ = some (r1, r2)) :
    Calls prog 12 #[.agg [.slice A_a a_Crossings.length c_a, .int .i64 a_Circles].toArray, .int .i64 k_] w (laws_markDiagram.post w0 L A_a c_a r1 r2) := by
  unfold laws_markDiagram.f at H
  refine Calls.of_G func12 rfl rfl rfl ?_
  refine G.seq (G.region (GO.box (cs := [.slice A_a a_Crossings.length c_a, .int .i64 a_Circles]) HS rfl rfl rfl rfl fun b1 wd2 HS => GO.assign rfl rfl rfl (GO.nil (G.seq ?_))))
  obtain ⟨t3, t4, h5, H⟩ := bind2_elim H
  obtain ⟨c6, H⟩ := ite_none H
  refine G.region (GO.fld (⟨b1, 0, none⟩) rfl rfl fl30_0 rfl rfl (GO.ldBox (j := 0) HS rfl rfl rfl rfl na28 rfl (GO.move rfl rfl rfl ?_)))
  replace HS := HS.pk 2 [1, 0] rfl
  refine GO.fn rfl func25 fok25.1 fok25.2 rfl rfl (laws_markCrossingS.calls HS  h5) (fun _ wd7 ⟨h8, HS⟩ => ⟨_, h8, (GO.assign rfl rfl rfl (GO.nil ?_))⟩)
  replace HS := HS.boxEq (j := 1) (cs' := [.slice A_a t4.length c_a, .int .i64 a_Circles]) rfl (by simp only [List.length_set, c6] <;> rfl)
  refine G.run 2 rfl ?_
  obtain ⟨rfl, rfl⟩ := some2 H
  exact G.ret1 _ func12 rfl rfl ⟨rfl, (HS.pk 2 [0] rfl)⟩
theorem laws_markKnotMoveS.calls {w0 w : World} {L : List HObj} {K : Nat} {a_ : List GKnotMove} {k_ : Int} {A_a : Option Addr} {c_a : Nat} {r1 : Int} {r2 : List GKnotMove} (HS : St w0 w (Own T_GKnotMove 46 A_a c_a (fun _ => ()) a_ :: L)) (H : laws_markKnotMoveS.f K a_ k_ = some (r1, r2)) :
    Calls prog 13 #[.slice A_a a_.length c_a, .int .i64 k_] w (laws_markKnotMoveS.post w0 L A_a c_a r1 r2) := by
  unfold laws_markKnotMoveS.f at H
  refine Calls.of_G func13 rfl rfl rfl ?_
  refine G.run 7 rfl ?_
  refine G.name (fun k_l1 hk_l1 => ?_)
  have at_l1 : ∀ m_l1, m_l1 ≤ K → ∀ (x14 : List GKnotMove) (k_15 i_16 : Int) (w : World), laws_markKnotMoveS.l1 K m_l1 x14 k_15 i_16 = some (r1, r2) → St w0 w (Own T_GKnotMove 46 A_a c_a (fun _ => ()) x14 :: L) → G prog 13 34 [(0, .slice A_a x14.length c_a), (1, .int .i64 k_15), (5, .int .i64 i_16)] k_l1 w (laws_markKnotMoveS.post w0 L A_a c_a r1 r2) := by
   intro m_l1
   induction m_l1 using Nat.strongRecOn with
   | _ m_l1 ih_l1 =>
    intro hm_l1 x14 k_15 i_16 w H HS
    cases m_l1 with
    | zero => rw [laws_markKnotMoveS.l1] at H; cases H
    | succ n_l1 =>
     rw [laws_markKnotMoveS.l1] at H
     subst hk_l1
     refine G.run 2 rfl (G.region (GO.ps 2 rfl (GO.lenS rfl rfl underlying34 rfl (GO.lss rfl rfl rfl rfl (GO.nil ?_)))))
     rcases ite_elim H with ⟨c30, H⟩ | ⟨c30, H⟩
     ·
      refine G.yesB rfl (decide_eq_true c30) (G.run 4 rfl ?_)
      obtain ⟨c31, H⟩ := ite_none H
      obtain ⟨e33, h34, H⟩ := bnd_elim H
      refine G.region (GO.ps 3 rfl (GO.ix rfl rfl rfl underlying34 sz46 ((RdIn.own (j := 0) rfl) _ HS).2.2.1 c31.1 c31.2 rfl (GO.fld (ea A_a (i_16.toNat * 3)) rfl rfl fl46_0 rfl rfl (GO.stRow (T := T_GKnotMove) (j := 0) (n := i_16.toNat) (o := 0) (vs := [.int .i64 k_15]) ({ e33 with Kind := k_15 }) HS rfl flat_flat rfl rfl rfl rfl (htN na2 rfl) rfl (getD_eq (ltN c31) h34) rfl rfl fun wd32 HS => GO.nil (G.len (t := 0) (m := (x14.set i_16.toNat ({ e33 with Kind := k_15 })).length) rfl (by simp only [List.length_set] <;> rfl) (G.run 3 rfl ?_))))))
      obtain ⟨c35, H⟩ := ite_none H
      obtain ⟨e37, h38, H⟩ := bnd_elim H
      refine G.region (GO.ps 3 rfl (GO.ix rfl rfl rfl underlying34 sz46 ((RdIn.own (j := 0) rfl) _ HS).2.2.1 c35.1 c35.2 rfl (GO.fld (ea A_a (i_16.toNat * 3 + 1)) rfl rfl fl46_1 (ea_add _ _ _) rfl (GO.stRow (T := T_GKnotMove) (j := 0) (n := i_16.toNat) (o := 1) (vs := [.int .i64 (w64 (k_15 + 1))]) ({ e37 with I := w64 (k_15 + 1) }) HS rfl flat_flat rfl rfl rfl rfl (htN na2 rfl) rfl (getD_eq (ltN c35) h38) rfl rfl fun wd36 HS => GO.nil (G.len (t := 0) (m := ((x14.set i_16.toNat ({ e33 with Kind := k_15 })).set i_16.toNat ({ e37 with I := w64 (k_15 + 1) })).length) rfl (by simp only [List.length_set] <;> rfl) (G.run 3 rfl ?_))))))
      obtain ⟨c39, H⟩ := ite_none H
      obtain ⟨e41, h42, H⟩ := bnd_elim H
      refine G.region (GO.ps 3 rfl (GO.ix rfl rfl rfl underlying34 sz46 ((RdIn.own (j := 0) rfl) _ HS).2.2.1 c39.1 c39.2 rfl (GO.fld (ea A_a (i_16.toNat * 3 + 2)) rfl rfl fl46_2 (ea_add _ _ _) rfl (GO.stRow (T := T_GKnotMove) (j := 0) (n := i_16.toNat) (o := 2) (vs := [.int .i64 (w64 ((w64 (k_15 + 1)) + 1))]) ({ e41 with J := w64 ((w64 (k_15 + 1)) + 1) }) HS rfl flat_flat rfl rfl rfl rfl (htN na2 rfl) rfl (getD_eq (ltN c39) h42) rfl rfl fun wd40 HS => GO.nil (G.len (t := 0) (m := (((x14.set i_16.toNat ({ e33 with Kind := k_15 })).set i_16.toNat ({ e37 with I := w64 (k_15 + 1) })).set i_16.toNat ({ e41 with J := w64 ((w64 (k_15 + 1)) + 1) })).length) rfl (by simp only [List.length_set] <;> rfl) (G.run 4 rfl (G.weak ?_ (ih_l1 n_l1 (Nat.lt_succ_of_le (Nat.le_refl _)) (Nat.le_of_succ_le hm_l1) _ _ _ _ H HS))))))))
      exact ⟨rfl, rfl, rfl, trivial⟩
     refine G.noB rfl (decide_eq_false c30) (G.run 3 rfl ?_)
     obtain ⟨rfl, rfl⟩ := some2 H
     exact G.ret1 _ func13 rfl rfl ⟨rfl, HS⟩
  refine G.weak ?_ (at_l1 K (Nat.le_refl _) _ _ _ _ H HS)
  exact ⟨rfl, rfl, rfl, trivial⟩
theorem laws_heldCrossingS.calls {w0 w : World} {L : List HObj} {K : Nat} {a_ : List GCrossing} {k_ : Int} {A_a : Option Addr} {c_a : Nat} {r1 : Int} (HS : St w0 w (L)) (r_a : RdIn w0 L T_GCrossing A_a c_a (fun _ => ()) a_) (H : laws_heldCrossingS.f K a_ k_ = some r1) :
    Calls prog 26 #[.slice A_a a_.length c_a, .int .i64 k_] w (laws_heldCrossingS.post w0 L r1) := by
  unfold laws_heldCrossingS.f at H
  refine Calls.of_G func26 rfl rfl rfl ?_
  refine G.run 7 rfl ?_
  refine G.name (fun k_l1 hk_l1 => ?_)
  have at_l1 : ∀ m_l1, m_l1 ≤ K → ∀ (k_10 i_11 : Int) (w : World), laws_heldCrossingS.l1 K m_l1 a_ k_10 i_11 = some r1 → St w0 w (L) → G prog 26 58 [(0, .slice A_a a_.length c_a), (1, .int .i64 k_10), (5, .int .i64 i_11)] k_l1 w (laws_heldCrossingS.post w0 L r1) := by
   intro m_l1
   induction m_l1 using Nat.strongRecOn with
   | _ m_l1 ih_l1 =>
    intro hm_l1 k_10 i_11 w H HS
    cases m_l1 with
    | zero => rw [laws_heldCrossingS.l1] at H; cases H
    | succ n_l1 =>
     rw [laws_heldCrossingS.l1] at H
     subst hk_l1
     refine G.run 2 rfl (G.region (GO.ps 2 rfl (GO.lenS rfl rfl underlying28 rfl (GO.lss rfl rfl rfl rfl (GO.nil ?_)))))
     rcases ite_elim H with ⟨c21, H⟩ | ⟨c21, H⟩
     ·
      refine G.yesB rfl (decide_eq_true c21) (G.run 5 rfl ?_)
      obtain ⟨c22, H⟩ := ite_none H
      obtain ⟨e23, h24, H⟩ := bnd_elim H
      refine G.region (GO.ps 2 rfl (GO.ix rfl rfl rfl underlying28 sz61 (r_a _ HS).2.2.1 c22.1 c22.2 rfl (GO.fld (ea A_a (i_11.toNat * 5)) rfl rfl fl61_0 rfl rfl (GO.ldRd (T := T_GCrossing) (n := i_11.toNat) (o := 0) HS r_a rfl rfl (getD_eq (ltN c22) h24) rfl rfl na2 rfl (GO.ps 2 rfl (GO.nil ?_))))))
      rcases ite_elim H with ⟨c25, H⟩ | ⟨c25, H⟩
      ·
       refine G.noB rfl (congrArg Bool.not (decide_eq_true c25)) (G.run 5 rfl (G.region (GO.ps 2 rfl (GO.ix rfl rfl rfl underlying28 sz61 (r_a _ HS).2.2.1 c22.1 c22.2 rfl (GO.fld (ea A_a (i_11.toNat * 5 + 1)) rfl rfl fl61_1 (ea_add _ _ _) rfl (GO.ldRd (T := T_GCrossing) (n := i_11.toNat) (o := 1) HS r_a rfl rfl (getD_eq (ltN c22) h24) rfl rfl na2 rfl (GO.ps 2 rfl (GO.nil ?_))))))))
       rcases ite_elim H with ⟨c26, H⟩ | ⟨c26, H⟩
       ·
        refine G.noB rfl (congrArg Bool.not (decide_eq_true c26)) (G.run 5 rfl (G.region (GO.ps 2 rfl (GO.ix rfl rfl rfl underlying28 sz61 (r_a _ HS).2.2.1 c22.1 c22.2 rfl (GO.fld (ea A_a (i_11.toNat * 5 + 2)) rfl rfl fl61_2 (ea_add _ _ _) rfl (GO.ldRd (T := T_GCrossing) (n := i_11.toNat) (o := 2) HS r_a rfl rfl (getD_eq (ltN c22) h24) rfl rfl na2 rfl (GO.ps 2 rfl (GO.nil ?_))))))))
        rcases ite_elim H with ⟨c27, H⟩ | ⟨c27, H⟩
        ·
         refine G.noB rfl (congrArg Bool.not (decide_eq_true c27)) (G.run 5 rfl (G.region (GO.ps 2 rfl (GO.ix rfl rfl rfl underlying28 sz61 (r_a _ HS).2.2.1 c22.1 c22.2 rfl (GO.fld (ea A_a (i_11.toNat * 5 + 3)) rfl rfl fl61_3 (ea_add _ _ _) rfl (GO.ldRd (T := T_GCrossing) (n := i_11.toNat) (o := 3) HS r_a rfl rfl (getD_eq (ltN c22) h24) rfl rfl na2 rfl (GO.ps 2 rfl (GO.nil ?_))))))))
         rcases ite_elim H with ⟨c28, H⟩ | ⟨c28, H⟩
         ·
          refine G.noB rfl (congrArg Bool.not (decide_eq_true c28)) (G.run 5 rfl (G.region (GO.ps 2 rfl (GO.ix rfl rfl rfl underlying28 sz61 (r_a _ HS).2.2.1 c22.1 c22.2 rfl (GO.fld (ea A_a (i_11.toNat * 5 + 4)) rfl rfl fl61_4 (ea_add _ _ _) rfl (GO.ldRd (T := T_GCrossing) (n := i_11.toNat) (o := 4) HS r_a rfl rfl (getD_eq (ltN c22) h24) rfl rfl na2 rfl (GO.ps 2 rfl (GO.nil ?_))))))))
          rcases ite_elim H with ⟨c29, H⟩ | ⟨c29, H⟩
          ·
           refine G.noB rfl (congrArg Bool.not (decide_eq_true c29)) (G.run 5 rfl (G.weak ?_ (ih_l1 n_l1 (Nat.lt_succ_of_le (Nat.le_refl _)) (Nat.le_of_succ_le hm_l1) _ _ _ H HS)))
           exact ⟨rfl, rfl, rfl, trivial⟩
          refine G.yesB rfl (congrArg Bool.not (decide_eq_false c29)) (G.run 2 rfl ?_)
          obtain rfl := Option.some.inj H
          exact G.ret1 _ func26 rfl rfl ⟨rfl, HS⟩
         refine G.yesB rfl (congrArg Bool.not (decide_eq_false c28)) (G.run 2 rfl ?_)
         obtain rfl := Option.some.inj H
         exact G.ret1 _ func26 rfl rfl ⟨rfl, HS⟩
        refine G.yesB rfl (congrArg Bool.not (decide_eq_false c27)) (G.run 2 rfl ?_)
        obtain rfl := Option.some.inj H
        exact G.ret1 _ func26 rfl rfl ⟨rfl, HS⟩
       refine G.yesB rfl (congrArg Bool.not (decide_eq_false c26)) (G.run 2 rfl ?_)
       obtain rfl := Option.some.inj H
       exact G.ret1 _ func26 rfl rfl ⟨rfl, HS⟩
      refine G.yesB rfl (congrArg Bool.not (decide_eq_false c25)) (G.run 2 rfl ?_)
      obtain rfl := Option.some.inj H
      exact G.ret1 _ func26 rfl rfl ⟨rfl, HS⟩
     refine G.noB rfl (decide_eq_false c21) (G.run 3 rfl ?_)
     obtain rfl := Option.some.inj H
     exact G.ret1 _ func26 rfl rfl ⟨rfl, HS⟩
  refine G.weak ?_ (at_l1 K (Nat.le_refl _) _ _ _ H HS)
  exact ⟨rfl, rfl, rfl, trivial⟩
theorem laws_heldDiagram.calls {w0 w : World} {L : List HObj} {K : Nat} {a_Crossings : List GCrossing} {a_Circles k_ : Int} {A_a : Option Addr} {c_a : Nat} {r1 : Int} (HS : St w0 w (L)) (r_a : RdIn w0 L T_GCrossing A_a c_a (fun _ => ()) a_Crossings) (H : laws_heldDiagram.f K a_Crossings a_Circles k_ = some r1) :
    Calls prog 14 #[.agg [.slice A_a a_Crossings.length c_a, .int .i64 a_Circles].toArray, .int .i64 k_] w (laws_heldDiagram.post w0 L r1) := by
  unfold laws_heldDiagram.f at H
  refine Calls.of_G func14 rfl rfl rfl ?_
  refine G.seq (G.region (GO.box (cs := [.slice A_a a_Crossings.length c_a, .int .i64 a_Circles]) HS rfl rfl rfl rfl fun b1 wd2 HS => GO.assign rfl rfl rfl (GO.nil (G.seq ?_))))
  obtain ⟨t3, h4, H⟩ := Option.bind_eq_some_iff.1 H
  refine G.region (GO.fld (⟨b1, 0, none⟩) rfl rfl fl30_0 rfl rfl (GO.ldBox (j := 0) HS rfl rfl rfl rfl na28 rfl (GO.move rfl rfl rfl (GO.fn rfl func26 fok26.1 fok26.2 rfl rfl (laws_heldCrossingS.calls HS (RdIn.drop 1 r_a) h4) (fun _ wd5 ⟨h6, HS⟩ => ⟨_, h6, (GO.assign rfl rfl rfl (GO.nil (G.run 3 rfl ?_)))⟩)))))
  rcases ite_elim H with ⟨c7, H⟩ | ⟨c7, H⟩
  ·
   refine G.yesB rfl (decide_eq_true c7) (G.run 2 rfl ?_)
   obtain rfl := Option.some.inj H
   exact G.ret1 _ func14 rfl rfl ⟨rfl, (HS.pk 1 [] rfl)⟩
  refine G.noB rfl (decide_eq_false c7) (G.run 3 rfl ?_)
  obtain rfl := Option.some.inj H
  exact G.ret1 _ func14 rfl rfl ⟨rfl, (HS.pk 1 [] rfl)⟩
theorem laws_FnExactApplyKnotMoves.calls {w0 w : World} {L : List HObj} {K : Nat} {t_Crossings : List GCrossing} {t_Circles : Int} {o : List GKnotMove} {A_a : Option Addr} {c_a : Nat} {A_b : Option Addr} {c_b : Nat} {r1 : Bool} (HS : St w0 w (L)) (r_a : RdIn w0 L T_GCrossing A_a c_a (fun _ => ()) t_Crossings) (r_b : RdIn w0 L T_GKnotMove A_b c_b (fun _ => ()) o) (H : laws_FnExactApplyKnotMoves.f K t_Crossings t_Circles o = some r1) :
    Calls prog 3 #[.agg [.slice A_a t_Crossings.length c_a, .int .i64 t_Circles].toArray, .slice A_b o.length c_b] w (laws_FnExactApplyKnotMoves.post w0 L r1) := by
  unfold laws_FnExactApplyKnotMoves.f at H
  refine Calls.of_G func3 rfl rfl rfl ?_
  refine G.seq (G.region (GO.box (cs := [.slice A_a t_Crossings.length c_a, .int .i64 t_Circles]) HS rfl rfl rfl rfl fun b1 wd2 HS => GO.assign rfl rfl rfl (GO.nil (G.run 3 rfl ?_))))
  obtain ⟨t3, h4, H⟩ := Option.bind_eq_some_iff.1 H
  refine G.region (GO.ldBoxA (j := 0) ([.slice A_a t_Crossings.length c_a, .int .i64 t_Circles]) HS rfl rfl rfl rfl ag24 rfl (GO.move rfl rfl rfl (GO.fn rfl func4 fok4.1 fok4.2 rfl rfl (laws_szDiagram.calls HS (RdIn.drop 1 r_a) h4) (fun _ wd5 ⟨h6, HS⟩ => ⟨_, h6, (GO.assign rfl rfl rfl (GO.nil (G.run 3 rfl ?_)))⟩))))
  rcases ite_elim H with ⟨c7, H⟩ | ⟨c7, H⟩
  ·
   refine G.yesB rfl (decide_eq_true c7) (G.run 2 rfl ?_)
   obtain rfl := Option.some.inj H
   exact G.ret1 _ func3 rfl rfl ⟨rfl, (HS.pk 1 [] rfl)⟩
  refine G.noB rfl (decide_eq_false c7) (G.run 2 rfl ?_)
  obtain ⟨t8, h9, H⟩ := Option.bind_eq_some_iff.1 H
  refine G.region (GO.ps 2 rfl (GO.fn rfl func5 fok5.1 fok5.2 rfl rfl (laws_szKnotMoveS.calls HS (RdIn.drop 1 r_b) h9) (fun _ wd10 ⟨h11, HS⟩ => ⟨_, h11, (GO.assign rfl rfl rfl (GO.nil (G.run 3 rfl ?_)))⟩)))
  rcases ite_elim H with ⟨c12, H⟩ | ⟨c12, H⟩
  ·
   refine G.yesB rfl (decide_eq_true c12) (G.run 2 rfl ?_)
   obtain rfl := Option.some.inj H
   exact G.ret1 _ func3 rfl rfl ⟨rfl, (HS.pk 1 [] rfl)⟩
  refine G.noB rfl (decide_eq_false c12) (G.run 2 rfl ?_)
  obtain ⟨t13, t14, h15, H⟩ := bind2_elim H
  obtain ⟨t20, h21, H⟩ := Option.bind_eq_some_iff.1 H
  obtain ⟨t26, t27, t28, t29, h30, H⟩ := bind4_elim H
  refine G.region (GO.ldBoxA (j := 0) ([.slice A_a t_Crossings.length c_a, .int .i64 t_Circles]) HS rfl rfl rfl rfl ag24 rfl (GO.fn rfl func7 fok7.1 fok7.2 rfl rfl (laws_toDiagram.calls HS (RdIn.drop 1 r_a) h15) (fun _ wd18 ⟨A16, c17, h19, HS⟩ => ⟨_, h19, (GO.move rfl rfl rfl (GO.fn rfl func8 fok8.1 fok8.2 rfl rfl (laws_toKnotMoveS.calls HS (RdIn.drop 2 r_b) h21) (fun _ wd24 ⟨A22, c23, h25, HS⟩ => ⟨_, h25, (GO.fn rfl func6 fok6.1 fok6.2 rfl rfl (spec_ApplyKnotMoves.calls HS (RdIn.own (j := 1) rfl) (RdIn.own (j := 0) rfl) h30) (fun _ wd33 ⟨A31, c32, h34, HS⟩ => ⟨_, h34, (GO.ps 4 rfl (GO.alloc HS rfl zr30 rfl rfl fun b35 wd36 HS => GO.stBox (j := 0) (vs := [.slice A31 t26.length c32, .int .i64 t27]) ([.slice A31 t26.length c32, .int .i64 t27]) HS rfl rfl rfl rfl rfl (htA ag30) rfl rfl rfl fun wd37 HS => GO.ps 2 rfl (GO.nil (G.seq ?_))))⟩))⟩)))⟩)))
  obtain ⟨t38, t39, h40, H⟩ := bind2_elim H
  refine G.region (GO.ldBoxA (j := 4) ([.slice A_a t_Crossings.length c_a, .int .i64 t_Circles]) HS rfl rfl rfl rfl ag24 rfl (GO.fn rfl func7 fok7.1 fok7.2 rfl rfl (laws_toDiagram.calls HS (RdIn.drop 5 r_a) h40) (fun _ wd43 ⟨A41, c42, h44, HS⟩ => ⟨_, h44, (GO.alloc HS rfl zr30 rfl rfl fun b45 wd46 HS => GO.stBox (j := 0) (vs := [.slice A41 t38.length c42, .int .i64 t39]) ([.slice A41 t38.length c42, .int .i64 t39]) HS rfl rfl rfl rfl rfl (htA ag30) rfl rfl rfl fun wd47 HS => GO.nil (G.seq ?_))⟩)))
  obtain ⟨t48, h49, H⟩ := Option.bind_eq_some_iff.1 H
  refine G.region (GO.move rfl rfl rfl (GO.fn rfl func8 fok8.1 fok8.2 rfl rfl (laws_toKnotMoveS.calls HS (RdIn.drop 7 r_b) h49) (fun _ wd52 ⟨A50, c51, h53, HS⟩ => ⟨_, h53, (GO.assign rfl rfl rfl (GO.nil (G.seq ?_)))⟩)))
  obtain ⟨t54, t55, t56, t57, h58, H⟩ := bind4_elim H
  refine G.region (GO.ldBoxA (j := 1) ([.slice A41 t38.length c42, .int .i64 t39]) HS rfl rfl rfl rfl ag30 rfl (GO.move rfl rfl rfl (GO.fn rfl func9 fok9.1 fok9.2 rfl rfl (impl_ApplyKnotMoves.calls HS (RdIn.own (j := 2) rfl) (RdIn.own (j := 0) rfl) h58) (fun _ wd61 ⟨A59, c60, h62, HS⟩ => ⟨_, h62, (GO.ps 4 rfl (GO.alloc HS rfl zr30 rfl rfl fun b63 wd64 HS => GO.stBox (j := 0) (vs := [.slice A59 t54.length c60, .int .i64 t55]) ([.slice A59 t54.length c60, .int .i64 t55]) HS rfl rfl rfl rfl rfl (htA ag30) rfl rfl rfl fun wd65 HS => GO.ps 2 rfl (GO.nil (G.run 2 rfl ?_))))⟩))))
  obtain ⟨t72, h73, H⟩ := Option.bind_eq_some_iff.1 H
  rcases ite_elim H with ⟨c76, H⟩ | ⟨c76, H⟩
  ·
   rcases ite_elim H with ⟨c77, H⟩ | ⟨c77, H⟩
   ·
    refine G.region (GO.ldBoxA (j := 0) ([.slice A59 t54.length c60, .int .i64 t55]) HS rfl rfl rfl rfl ag30 rfl (GO.ldBoxA (j := 5) ([.slice A31 t26.length c32, .int .i64 t27]) HS rfl rfl rfl rfl ag30 rfl (GO.fn rfl func10 fok10.1 fok10.2 rfl rfl (laws_eqDiagram.calls HS (RdIn.own (j := 1) rfl) (RdIn.own (j := 6) rfl) h73) (fun _ wd74 ⟨h75, HS⟩ => ⟨_, h75, (GO.ps 2 rfl (GO.known (t := 54) rfl (congrArg Bool.not c76) (GO.on rfl rfl rfl rfl (GO.move rfl rfl rfl (GO.back (GO.on rfl rfl rfl rfl (GO.move rfl rfl rfl (GO.back (GO.on rfl rfl rfl rfl (GO.neq rfl rfl rfl rfl (GO.back ?_)))))))))))⟩))))
    refine GO.ps 2 rfl (GO.known (t := 59) rfl (congrArg Bool.not (decide_eq_true c77)) (GO.on rfl rfl rfl rfl (GO.move rfl rfl rfl (GO.back (GO.on rfl rfl rfl rfl (GO.move rfl rfl rfl (GO.back (GO.on rfl rfl rfl rfl (GO.neq rfl rfl rfl rfl (GO.back (GO.pickF rfl rfl rfl rfl rfl (GO.nil ?_))))))))))))
    rcases ite_elim H with ⟨c78, H⟩ | ⟨c78, H⟩
    ·
     refine G.noB rfl (congrArg Bool.not (decide_eq_true c78)) (G.run 3 rfl ?_)
     obtain ⟨t79, t80, h81, H⟩ := bind2_elim H
     obtain ⟨t86, h87, H⟩ := Option.bind_eq_some_iff.1 H
     refine G.lexS mixed (fun w => St w0 w (Box b45 30 [.slice A41 t38.length c42, .int .i64 t39] :: Box b1 24 [.slice A_a t_Crossings.length c_a, .int .i64 t_Circles] :: L)) [0, 1] [0, 1, 2, 3, 4] 5 (by kernel_rfl) (by kernel_rfl) (HS.drew.pk 10 [3, 9] rfl) ?_
     replace HS := HS.drew
     refine GX.ls rfl rfl rfl (HS.pk 10 [3, 9] rfl) (fun _ HS _ g => GO.ldBoxA (j := 0) ([.slice A41 t38.length c42, .int .i64 t39]) HS rfl rfl rfl rfl ag30 rfl g) rfl (GX.ls rfl rfl rfl (HS.pk 10 [3, 9] rfl) (fun _ HS _ g => GO.ldBoxA (j := 1) ([.slice A_a t_Crossings.length c_a, .int .i64 t_Circles]) HS rfl rfl rfl rfl ag24 rfl g) rfl (GX.l2 rfl (GO.fn rfl func7 fok7.1 fok7.2 rfl rfl (laws_toDiagram.calls HS (RdIn.drop 10 r_a) h81) (fun _ wd84 ⟨A82, c83, h85, HS⟩ => ⟨_, h85, (GX.fin (HS.pk 11 [4, 10] rfl) (GX.l2 rfl (GO.fn rfl func10 fok10.1 fok10.2 rfl rfl (laws_eqDiagram.calls HS (RdIn.own (j := 5) rfl) (RdIn.own (j := 0) rfl) h87) (fun _ wd88 ⟨h89, HS⟩ => ⟨_, h89, (GX.fin (HS.pk 11 [4, 10] rfl) (GX.ps 1 rfl (GX.nil ?_)))⟩))))⟩))))
     rcases ite_elim H with ⟨c90, H⟩ | ⟨c90, H⟩
     ·
      refine G.noB rfl (congrArg Bool.not c90) (G.run 3 rfl ?_)
      obtain ⟨t91, h92, H⟩ := Option.bind_eq_some_iff.1 H
      obtain ⟨t97, h98, H⟩ := Option.bind_eq_some_iff.1 H
      refine G.region (GO.ps 2 rfl (GO.fn rfl func8 fok8.1 fok8.2 rfl rfl (laws_toKnotMoveS.calls HS (RdIn.drop 11 r_b) h92) (fun _ wd95 ⟨A93, c94, h96, HS⟩ => ⟨_, h96, (GO.fn rfl func11 fok11.1 fok11.2 rfl rfl (laws_eqKnotMoveS.calls HS (RdIn.own (j := 4) rfl) (RdIn.own (j := 0) rfl) h98) (fun _ wd99 ⟨h100, HS⟩ => ⟨_, h100, (GO.not rfl rfl rfl (GO.nil ?_))⟩))⟩)))
      rcases ite_elim H with ⟨c101, H⟩ | ⟨c101, H⟩
      ·
       refine G.noB rfl (congrArg Bool.not c101) (G.run 4 rfl ?_)
       obtain ⟨t102, t103, h104, H⟩ := bind2_elim H
       obtain ⟨c105, H⟩ := ite_none H
       refine G.region (GO.ldBoxA (j := 5) ([.slice A41 t38.length c42, .int .i64 t39]) HS rfl rfl rfl rfl ag30 rfl (GO.move rfl rfl rfl ?_))
       replace HS := HS.pk 12 [6, 0, 1, 2, 3, 4, 5, 7, 8, 9, 10, 11] rfl
       refine GO.fn rfl func12 fok12.1 fok12.2 rfl rfl (laws_markDiagram.calls HS  h104) (fun _ wd106 ⟨h107, HS⟩ => ⟨_, h107, (GO.assign rfl rfl rfl (GO.nil ?_))⟩)
       replace HS := HS.boxEq (j := 6) (cs' := [.slice A41 t103.length c42, .int .i64 t39]) rfl (by simp only [List.length_set, c105] <;> rfl)
       refine G.seq ?_
       obtain ⟨t108, t109, h110, H⟩ := bind2_elim H
       obtain ⟨c111, H⟩ := ite_none H
       refine G.region (GO.ps 2 rfl ?_)
       replace HS := HS.pk 12 [5, 0, 1, 2, 3, 4, 6, 7, 8, 9, 10, 11] rfl
       refine GO.fn rfl func13 fok13.1 fok13.2 rfl rfl (laws_markKnotMoveS.calls HS  h110) (fun _ wd112 ⟨h113, HS⟩ => ⟨_, h113, (GO.assign rfl rfl rfl (GO.nil (G.run 2 rfl ?_)))⟩)
       rcases ite_elim H with ⟨c120, H⟩ | ⟨c120, H⟩
       ·
        refine G.region (GO.ps 3 rfl (GO.known (t := 82) rfl (decide_eq_true c120) (GO.off rfl rfl rfl rfl rfl rfl (GO.off rfl rfl rfl rfl rfl rfl (GO.off rfl rfl rfl rfl rfl rfl (GO.off rfl rfl rfl rfl rfl rfl (GO.ps 2 rfl (GO.off rfl rfl rfl rfl rfl rfl (GO.off rfl rfl rfl rfl rfl rfl (GO.off rfl rfl rfl rfl rfl rfl (GO.ps 2 rfl (GO.off rfl rfl rfl rfl rfl rfl (GO.off rfl rfl rfl rfl rfl rfl (GO.off rfl rfl rfl rfl rfl rfl ?_))))))))))))))
        refine GO.pickT rfl rfl rfl rfl rfl (GO.nil (G.run 3 rfl ?_))
        obtain rfl := Option.some.inj H
        exact G.ret1 _ func3 rfl rfl ⟨rfl, (HS.pk 12 [] rfl)⟩
       obtain ⟨t121, h122, H⟩ := Option.bind_eq_some_iff.1 H
       rcases ite_elim H with ⟨c125, H⟩ | ⟨c125, H⟩
       ·
        refine G.region (GO.ps 3 rfl (GO.known (t := 82) rfl (decide_eq_false c120) (GO.on rfl rfl rfl rfl (GO.ldBoxA (j := 4) ([.slice A59 t54.length c60, .int .i64 t55]) HS rfl rfl rfl rfl ag30 rfl (GO.back (GO.on rfl rfl rfl rfl (GO.ldBoxA (j := 7) ([.slice A31 t26.length c32, .int .i64 t27]) HS rfl rfl rfl rfl ag30 rfl (GO.back (GO.on rfl rfl rfl rfl (GO.fn rfl func10 fok10.1 fok10.2 rfl rfl (laws_eqDiagram.calls HS (RdIn.own (j := 5) rfl) (RdIn.own (j := 8) rfl) h122) (fun _ wd123 ⟨h124, HS⟩ => ⟨_, h124, (GO.back (GO.on rfl rfl rfl rfl (GO.not rfl rfl rfl (GO.back ?_))))⟩)))))))))))
        refine GO.ps 2 rfl (GO.known (t := 88) rfl (congrArg Bool.not c125) (GO.on rfl rfl rfl rfl (GO.move rfl rfl rfl (GO.back (GO.on rfl rfl rfl rfl (GO.move rfl rfl rfl (GO.back (GO.on rfl rfl rfl rfl (GO.neq rfl rfl rfl rfl (GO.back (GO.ps 2 rfl (GO.known (t := 93) rfl (congrArg Bool.not (decide_eq_true c77)) (GO.on rfl rfl rfl rfl (GO.move rfl rfl rfl ?_))))))))))))))
        refine GO.back (GO.on rfl rfl rfl rfl (GO.move rfl rfl rfl (GO.back (GO.on rfl rfl rfl rfl (GO.neq rfl rfl rfl rfl (GO.back (GO.pickF rfl rfl rfl rfl rfl (GO.nil (G.noB rfl (congrArg Bool.not (decide_eq_true c78)) (G.run 4 rfl ?_))))))))))
        obtain ⟨t126, t127, h128, H⟩ := bind2_elim H
        obtain ⟨c129, H⟩ := ite_none H
        refine G.region (GO.ldBoxA (j := 4) ([.slice A59 t54.length c60, .int .i64 t55]) HS rfl rfl rfl rfl ag30 rfl (GO.move rfl rfl rfl ?_))
        replace HS := HS.pk 12 [5, 0, 1, 2, 3, 4, 6, 7, 8, 9, 10, 11] rfl
        refine GO.fn rfl func12 fok12.1 fok12.2 rfl rfl (laws_markDiagram.calls HS  h128) (fun _ wd130 ⟨h131, HS⟩ => ⟨_, h131, (GO.assign rfl rfl rfl (GO.nil ?_))⟩)
        replace HS := HS.boxEq (j := 5) (cs' := [.slice A59 t127.length c60, .int .i64 t55]) rfl (by simp only [List.length_set, c129] <;> rfl)
        refine G.run 3 rfl ?_
        obtain ⟨t132, h133, H⟩ := Option.bind_eq_some_iff.1 H
        refine G.region (GO.ldBoxA (j := 5) ([.slice A59 t127.length c60, .int .i64 t55]) HS rfl rfl rfl rfl ag30 rfl (GO.move rfl rfl rfl (GO.fn rfl func14 fok14.1 fok14.2 rfl rfl (laws_heldDiagram.calls HS (RdIn.own (j := 0) rfl) h133) (fun _ wd134 ⟨h135, HS⟩ => ⟨_, h135, (GO.assign rfl rfl rfl (GO.nil (G.run 3 rfl ?_)))⟩))))
        rcases ite_elim H with ⟨c136, H⟩ | ⟨c136, H⟩
        ·
         refine G.yesB rfl (decide_eq_true c136) (G.run 2 rfl ?_)
         obtain rfl := Option.some.inj H
         exact G.ret1 _ func3 rfl rfl ⟨rfl, (HS.pk 12 [] rfl)⟩
        refine G.noB rfl (decide_eq_false c136) (G.run 4 rfl ?_)
        rcases ite_elim H with ⟨c137, H⟩ | ⟨c137, H⟩
        ·
         refine G.noB rfl (congrArg Bool.not (decide_eq_true c137)) (G.run 2 rfl ?_)
         obtain ⟨t138, t139, h140, H⟩ := bind2_elim H
         obtain ⟨t145, h146, H⟩ := Option.bind_eq_some_iff.1 H
         obtain ⟨t151, t152, t153, t154, h155, H⟩ := bind4_elim H
         refine G.region (GO.ldBoxA (j := 11) ([.slice A_a t_Crossings.length c_a, .int .i64 t_Circles]) HS rfl rfl rfl rfl ag24 rfl (GO.fn rfl func7 fok7.1 fok7.2 rfl rfl (laws_toDiagram.calls HS (RdIn.drop 12 r_a) h140) (fun _ wd143 ⟨A141, c142, h144, HS⟩ => ⟨_, h144, (GO.move rfl rfl rfl (GO.fn rfl func8 fok8.1 fok8.2 rfl rfl (laws_toKnotMoveS.calls HS (RdIn.drop 13 r_b) h146) (fun _ wd149 ⟨A147, c148, h150, HS⟩ => ⟨_, h150, (GO.fn rfl func9 fok9.1 fok9.2 rfl rfl (impl_ApplyKnotMoves.calls HS (RdIn.own (j := 1) rfl) (RdIn.own (j := 0) rfl) h155) (fun _ wd158 ⟨A156, c157, h159, HS⟩ => ⟨_, h159, (GO.ps 4 rfl (GO.alloc HS rfl zr30 rfl rfl fun b160 wd161 HS => GO.stBox (j := 0) (vs := [.slice A156 t151.length c157, .int .i64 t152]) ([.slice A156 t151.length c157, .int .i64 t152]) HS rfl rfl rfl rfl rfl (htA ag30) rfl rfl rfl fun wd162 HS => GO.ps 2 rfl (GO.nil (G.run 2 rfl ?_))))⟩))⟩)))⟩)))
         obtain ⟨t169, h170, H⟩ := Option.bind_eq_some_iff.1 H
         rcases ite_elim H with ⟨c173, H⟩ | ⟨c173, H⟩
         ·
          rcases ite_elim H with ⟨c174, H⟩ | ⟨c174, H⟩
          ·
           refine G.region (GO.ldBoxA (j := 0) ([.slice A156 t151.length c157, .int .i64 t152]) HS rfl rfl rfl rfl ag30 rfl (GO.ldBoxA (j := 11) ([.slice A31 t26.length c32, .int .i64 t27]) HS rfl rfl rfl rfl ag30 rfl (GO.fn rfl func10 fok10.1 fok10.2 rfl rfl (laws_eqDiagram.calls HS (RdIn.own (j := 1) rfl) (RdIn.own (j := 12) rfl) h170) (fun _ wd171 ⟨h172, HS⟩ => ⟨_, h172, (GO.ps 2 rfl (GO.known (t := 122) rfl (congrArg Bool.not c173) (GO.on rfl rfl rfl rfl (GO.move rfl rfl rfl (GO.back (GO.on rfl rfl rfl rfl (GO.move rfl rfl rfl (GO.back (GO.on rfl rfl rfl rfl (GO.neq rfl rfl rfl rfl (GO.back ?_)))))))))))⟩))))
           refine GO.ps 2 rfl (GO.known (t := 127) rfl (congrArg Bool.not (decide_eq_true c174)) (GO.on rfl rfl rfl rfl (GO.move rfl rfl rfl (GO.back (GO.on rfl rfl rfl rfl (GO.move rfl rfl rfl (GO.back (GO.on rfl rfl rfl rfl (GO.neq rfl rfl rfl rfl (GO.back (GO.pickF rfl rfl rfl rfl rfl (GO.nil ?_))))))))))))
           rcases ite_elim H with ⟨c175, H⟩ | ⟨c175, H⟩
           ·
            refine G.noB rfl (congrArg Bool.not (decide_eq_true c175)) (G.run 4 rfl ?_)
            obtain ⟨t176, h177, H⟩ := Option.bind_eq_some_iff.1 H
            refine G.region (GO.ldBoxA (j := 9) ([.slice A59 t127.length c60, .int .i64 t55]) HS rfl rfl rfl rfl ag30 rfl (GO.move rfl rfl rfl (GO.fn rfl func14 fok14.1 fok14.2 rfl rfl (laws_heldDiagram.calls HS (RdIn.own (j := 4) rfl) h177) (fun _ wd178 ⟨h179, HS⟩ => ⟨_, h179, (GO.assign rfl rfl rfl (GO.nil (G.run 3 rfl ?_)))⟩))))
            rcases ite_elim H with ⟨c180, H⟩ | ⟨c180, H⟩
            ·
             refine G.yesB rfl (decide_eq_true c180) (G.run 2 rfl ?_)
             obtain rfl := Option.some.inj H
             exact G.ret1 _ func3 rfl rfl ⟨rfl, (HS.pk 16 [] rfl)⟩
            refine G.noB rfl (decide_eq_false c180) (G.run 4 rfl ?_)
            rcases ite_elim H with ⟨c181, H⟩ | ⟨c181, H⟩
            ·
             refine G.noB rfl (congrArg Bool.not (decide_eq_true c181)) (G.run 3 rfl ?_)
             obtain rfl := Option.some.inj H
             exact G.ret1 _ func3 rfl rfl ⟨rfl, (HS.pk 16 [] rfl)⟩
            refine G.yesB rfl (congrArg Bool.not (decide_eq_false c181)) (G.run 2 rfl ?_)
            obtain rfl := Option.some.inj H
            exact G.ret1 _ func3 rfl rfl ⟨rfl, (HS.pk 16 [] rfl)⟩
           refine G.yesB rfl (congrArg Bool.not (decide_eq_false c175)) (G.run 2 rfl ?_)
           obtain rfl := Option.some.inj H
           exact G.ret1 _ func3 rfl rfl ⟨rfl, (HS.pk 16 [] rfl)⟩
          refine G.region (GO.ldBoxA (j := 0) ([.slice A156 t151.length c157, .int .i64 t152]) HS rfl rfl rfl rfl ag30 rfl (GO.ldBoxA (j := 11) ([.slice A31 t26.length c32, .int .i64 t27]) HS rfl rfl rfl rfl ag30 rfl (GO.fn rfl func10 fok10.1 fok10.2 rfl rfl (laws_eqDiagram.calls HS (RdIn.own (j := 1) rfl) (RdIn.own (j := 12) rfl) h170) (fun _ wd171 ⟨h172, HS⟩ => ⟨_, h172, (GO.ps 2 rfl (GO.known (t := 122) rfl (congrArg Bool.not c173) (GO.on rfl rfl rfl rfl (GO.move rfl rfl rfl (GO.back (GO.on rfl rfl rfl rfl (GO.move rfl rfl rfl (GO.back (GO.on rfl rfl rfl rfl (GO.neq rfl rfl rfl rfl (GO.back ?_)))))))))))⟩))))
          refine GO.ps 2 rfl (GO.known (t := 127) rfl (congrArg Bool.not (decide_eq_false c174)) (GO.off rfl rfl rfl rfl rfl rfl (GO.off rfl rfl rfl rfl rfl rfl (GO.off rfl rfl rfl rfl rfl rfl (GO.pickT rfl rfl rfl rfl rfl (GO.nil (G.run 3 rfl ?_)))))))
          obtain rfl := Option.some.inj H
          exact G.ret1 _ func3 rfl rfl ⟨rfl, (HS.pk 16 [] rfl)⟩
         refine G.region (GO.ldBoxA (j := 0) ([.slice A156 t151.length c157, .int .i64 t152]) HS rfl rfl rfl rfl ag30 rfl (GO.ldBoxA (j := 11) ([.slice A31 t26.length c32, .int .i64 t27]) HS rfl rfl rfl rfl ag30 rfl (GO.fn rfl func10 fok10.1 fok10.2 rfl rfl (laws_eqDiagram.calls HS (RdIn.own (j := 1) rfl) (RdIn.own (j := 12) rfl) h170) (fun _ wd171 ⟨h172, HS⟩ => ⟨_, h172, (GO.ps 2 rfl (GO.known (t := 122) rfl (congrArg Bool.not (bnot_of c173)) (GO.off rfl rfl rfl rfl rfl rfl (GO.off rfl rfl rfl rfl rfl rfl (GO.off rfl rfl rfl rfl rfl rfl (GO.ps 2 rfl (GO.off rfl rfl rfl rfl rfl rfl (GO.off rfl rfl rfl rfl rfl rfl (GO.off rfl rfl rfl rfl rfl rfl (GO.pickT rfl rfl rfl rfl rfl (GO.nil ?_)))))))))))⟩))))
         refine G.run 3 rfl ?_
         obtain rfl := Option.some.inj H
         exact G.ret1 _ func3 rfl rfl ⟨rfl, (HS.pk 16 [] rfl)⟩
        refine G.yesB rfl (congrArg Bool.not (decide_eq_false c137)) (G.run 2 rfl ?_)
        obtain rfl := Option.some.inj H
        exact G.ret1 _ func3 rfl rfl ⟨rfl, (HS.pk 12 [] rfl)⟩
       refine G.region (GO.ps 3 rfl (GO.known (t := 82) rfl (decide_eq_false c120) (GO.on rfl rfl rfl rfl (GO.ldBoxA (j := 4) ([.slice A59 t54.length c60, .int .i64 t55]) HS rfl rfl rfl rfl ag30 rfl (GO.back (GO.on rfl rfl rfl rfl (GO.ldBoxA (j := 7) ([.slice A31 t26.length c32, .int .i64 t27]) HS rfl rfl rfl rfl ag30 rfl (GO.back (GO.on rfl rfl rfl rfl (GO.fn rfl func10 fok10.1 fok10.2 rfl rfl (laws_eqDiagram.calls HS (RdIn.own (j := 5) rfl) (RdIn.own (j := 8) rfl) h122) (fun _ wd123 ⟨h124, HS⟩ => ⟨_, h124, (GO.back (GO.on rfl rfl rfl rfl (GO.not rfl rfl rfl (GO.back ?_))))⟩)))))))))))
       refine GO.ps 2 rfl (GO.known (t := 88) rfl (congrArg Bool.not (bnot_of c125)) (GO.off rfl rfl rfl rfl rfl rfl (GO.off rfl rfl rfl rfl rfl rfl (GO.off rfl rfl rfl rfl rfl rfl (GO.ps 2 rfl (GO.off rfl rfl rfl rfl rfl rfl (GO.off rfl rfl rfl rfl rfl rfl (GO.off rfl rfl rfl rfl rfl rfl (GO.pickT rfl rfl rfl rfl rfl (GO.nil (G.run 3 rfl ?_)))))))))))
       obtain rfl := Option.some.inj H
       exact G.ret1 _ func3 rfl rfl ⟨rfl, (HS.pk 12 [] rfl)⟩
      refine G.yesB rfl (congrArg Bool.not (bnot_of c101)) (G.run 2 rfl ?_)
      obtain rfl := Option.some.inj H
      exact G.ret1 _ func3 rfl rfl ⟨rfl, (HS.pk 12 [] rfl)⟩
     refine G.yesB rfl (congrArg Bool.not (bnot_of c90)) (G.run 2 rfl ?_)
     obtain rfl := Option.some.inj H
     exact G.ret1 _ func3 rfl rfl ⟨rfl, (HS.pk 11 [] rfl)⟩
    refine G.yesB rfl (congrArg Bool.not (decide_eq_false c78)) (G.run 2 rfl ?_)
    obtain rfl := Option.some.inj H
    exact G.ret1 _ func3 rfl rfl ⟨rfl, (HS.pk 10 [] rfl)⟩
   refine G.region (GO.ldBoxA (j := 0) ([.slice A59 t54.length c60, .int .i64 t55]) HS rfl rfl rfl rfl ag30 rfl (GO.ldBoxA (j := 5) ([.slice A31 t26.length c32, .int .i64 t27]) HS rfl rfl rfl rfl ag30 rfl (GO.fn rfl func10 fok10.1 fok10.2 rfl rfl (laws_eqDiagram.calls HS (RdIn.own (j := 1) rfl) (RdIn.own (j := 6) rfl) h73) (fun _ wd74 ⟨h75, HS⟩ => ⟨_, h75, (GO.ps 2 rfl (GO.known (t := 54) rfl (congrArg Bool.not c76) (GO.on rfl rfl rfl rfl (GO.move rfl rfl rfl (GO.back (GO.on rfl rfl rfl rfl (GO.move rfl rfl rfl (GO.back (GO.on rfl rfl rfl rfl (GO.neq rfl rfl rfl rfl (GO.back ?_)))))))))))⟩))))
   refine GO.ps 2 rfl (GO.known (t := 59) rfl (congrArg Bool.not (decide_eq_false c77)) (GO.off rfl rfl rfl rfl rfl rfl (GO.off rfl rfl rfl rfl rfl rfl (GO.off rfl rfl rfl rfl rfl rfl (GO.pickT rfl rfl rfl rfl rfl (GO.nil (G.run 3 rfl ?_)))))))
   obtain rfl := Option.some.inj H
   exact G.ret1 _ func3 rfl rfl ⟨rfl, (HS.pk 10 [] rfl)⟩
  refine G.region (GO.ldBoxA (j := 0) ([.slice A59 t54.length c60, .int .i64 t55]) HS rfl rfl rfl rfl ag30 rfl (GO.ldBoxA (j := 5) ([.slice A31 t26.length c32, .int .i64 t27]) HS rfl rfl rfl rfl ag30 rfl (GO.fn rfl func10 fok10.1 fok10.2 rfl rfl (laws_eqDiagram.calls HS (RdIn.own (j := 1) rfl) (RdIn.own (j := 6) rfl) h73) (fun _ wd74 ⟨h75, HS⟩ => ⟨_, h75, (GO.ps 2 rfl (GO.known (t := 54) rfl (congrArg Bool.not (bnot_of c76)) (GO.off rfl rfl rfl rfl rfl rfl (GO.off rfl rfl rfl rfl rfl rfl (GO.off rfl rfl rfl rfl rfl rfl (GO.ps 2 rfl (GO.off rfl rfl rfl rfl rfl rfl (GO.off rfl rfl rfl rfl rfl rfl (GO.off rfl rfl rfl rfl rfl rfl (GO.pickT rfl rfl rfl rfl rfl (GO.nil ?_)))))))))))⟩))))
  refine G.run 3 rfl ?_
  obtain rfl := Option.some.inj H
  exact G.ret1 _ func3 rfl rfl ⟨rfl, (HS.pk 10 [] rfl)⟩
end Go.Proofs.YtdfiglhdjlmakaaGreat
