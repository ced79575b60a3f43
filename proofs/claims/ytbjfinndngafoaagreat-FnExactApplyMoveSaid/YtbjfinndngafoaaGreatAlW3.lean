/-
  The walks through the functions: a call comes to what its list function says.
-/
import Derived.Test.YtbjfinndngafoaaGreatAlF
import Derived.Test.YtbjfinndngafoaaGreatAlW1
import Derived.Test.YtbjfinndngafoaaGreatAlW2
set_option linter.unusedVariables false
set_option linter.unusedSimpArgs false
namespace Go.Proofs.YtbjfinndngafoaaGreat
open Go.RowKit
open Tryz
variable {w0 w : World} {L : List Ck} {K : Nat} {A_a A_b A_c A_d A_e A_f A_g A_h A_i A_j A_k A_l A_m A_n A_o A_p A_q A_r A_s A_t A_u A_v A_w A_x A_y A_z : Option Addr} {c_a c_b c_c c_d c_e c_f c_g c_h c_i c_j c_k c_l c_m c_n c_o c_p c_q c_r c_s c_t c_u c_v c_w c_x c_y c_z : Nat}
set_option maxRecDepth 20000
set_option maxHeartbeats 40000000
theorem Hg.calls {c1 : List (List Ab)} {e1 d1 a1 : Int} {y_a : Nat → (Ty.slice 107 Ad).Lay} {r1 : List Int} {r2 : List (List Ab)} {r3 : List Ap} {r4 : Int} (HS : St w0 w (L)) (r_a : Ca w0 L (Ty.slice 107 Ad) A_a c_a y_a c1) (H : Hg.f K c1 e1 d1 a1 = some (r1, r2, r3, r4)) :
    Calls prog 40 #[.agg [sV A_a c1 c_a].toArray, .agg [I e1, I d1, I a1].toArray] w (Hg.post w0 L r1 r2 r3 r4) := by
  unfold Hg.f at H
  refine cG func40 Z ?_
  refine sQ (rG (bA HS Z fun b1 wd2 HS => bA HS Z fun b3 wd4 HS => GO.alloc HS Z Qn Z Z fun b5 wd6 HS => aS Z (nL (rN 2 Z ?_))))
  obtain ⟨t7, h8, H⟩ := bI H
  refine rG (lW 2 HS Z Ep (fJ kV Z (Ah.calls HS (rD 3 r_a) h8) (fun _ wd9 ⟨h10, HS⟩ => ⟨_, h10, (GO.not Z Z Z (nL ?_))⟩)))
  rcases iS H with ⟨c11, H⟩ | ⟨c11, H⟩
  ·
   refine yB Z (congrArg Bool.not (De c11)) (sQ (rG (GO.Df (.agg [.slice none 0 0, .slice none 0 0, .slice none 0 0].toArray) Z Z (fun _ => by kernel_rfl) Z (sW 0 HS Z Gj Z fun wd82 HS => aS Z (nL ?_)))))
   replace HS := HS.Da (Ar .i64) 2 uu
   replace HS := HS.Da (Ty.slice 107 Ad) 77 (fun _ => ⟨none, 0, uu⟩)
   replace HS := HS.Da Bu 122 uu
   obtain ⟨rfl, rfl, rfl, rfl⟩ := H8 H
   exact G.Gq _ _ func40 Z (Gc.Gv (j := 3) (vs := [.slice none 0 0, .slice none 0 0, .slice none 0 0]) HS Z Z Z Gj) Z ⟨_, _, _, _, _, _, _, Z, (HS.pk 6 [2, 1, 0] Z)⟩
  refine nB Z (congrArg Bool.not c11) (rN 3 Z ?_)
  obtain ⟨t34, h35, H⟩ := bI H
  rcases iE H with ⟨c38, H⟩ | ⟨c38, H⟩
  ·
   refine G.Gy mixed (fun w => St w0 w (Box b3 33 [I e1, I d1, I a1] :: L)) [1, 6, 7, 15, 17] [0, 1, 2, 3, 4, 5, 6, 7, 8, 9, 10, 11, 12, 13, 14, 16, 15, 17, 18, 19, 20, 21] [] (by kernel_rfl) (by kernel_rfl) (HS.drew.pk 3 [1] Z) ?_
   replace HS := HS.drew
   refine qL Z Z (fun _ _ g => fL b3 0 M5 Z g) Z (GX.ls Z Z Z (HS.pk 3 [1] Z) (fun _ HS _ g => lB 0 HS Z na2 Z g) Z (GX.l2 Z (fJ Zc Z (Em.calls HS  h35) (fun _ wd36 ⟨h37, HS⟩ => ⟨_, h37, (GX.fin (HS.pk 3 [1] Z) (GX.ps 1 Z (qL Z Z (fun _ _ g => mV Z (kN 16 Z (tT c38) g)) Z (qL Z Z (fun _ _ g => oF Z g) Z (GX.ls Z Z Z (HS.pk 3 [1] Z) (fun _ HS _ g => oF Z g) Z (GX.ls Z Z Z (HS.pk 3 [1] Z) (fun _ HS _ g => oF Z g) Z (GX.l2 Z (oF Z (GX.fin (HS.pk 3 [1] Z) (qL Z Z (fun _ _ g => oF Z g) Z (GX.l2 Z ?_)))))))))))⟩))))
   refine oF Z (GX.fin (HS.pk 3 [1] Z) (qL Z Z (fun _ _ g => oF Z g) Z (GX.ps 2 Z (qL Z Z (fun _ _ g => oF Z g) Z (qL Z Z (fun _ _ g => oF Z g) Z (GX.ls Z Z Z (HS.pk 3 [1] Z) (fun _ HS _ g => oF Z g) Z (GX.ls Z Z Z (HS.pk 3 [1] Z) (fun _ HS _ g => oF Z g) Z (GX.l2 Z (oF Z (GX.fin (HS.pk 3 [1] Z) (GX.l2 Z (oF Z (GX.fin (HS.pk 3 [1] Z) (qL Z Z (fun _ _ g => oF Z g) Z ?_))))))))))))))
   refine GX.ps 1 Z (GX.nil (rN 2 Z (rG (GO.Df (.agg [.slice none 0 0, .slice none 0 0, .slice none 0 0].toArray) Z Z (fun _ => by kernel_rfl) Z (sW 0 HS Z Gj Z fun wd39 HS => aS Z (nL ?_))))))
   replace HS := HS.Da (Ar .i64) 2 uu
   replace HS := HS.Da (Ty.slice 107 Ad) 77 (fun _ => ⟨none, 0, uu⟩)
   replace HS := HS.Da Bu 122 uu
   obtain ⟨rfl, rfl, rfl, rfl⟩ := H8 H
   exact G.Gq _ _ func40 Z (Gc.Gv (j := 3) (vs := [.slice none 0 0, .slice none 0 0, .slice none 0 0]) HS Z Z Z Gj) Z ⟨_, _, _, _, _, _, _, Z, (HS.pk 6 [2, 1, 0] Z)⟩
  obtain ⟨t40, h41, H⟩ := bI H
  obtain ⟨t44, h45, H⟩ := bI H
  rcases iS H with ⟨c48, H⟩ | ⟨c48, H⟩
  ·
   refine G.Gy mixed (fun w => St w0 w (Box b3 33 [I e1, I d1, I a1] :: Box b1 31 [sV A_a c1 c_a] :: L)) [1, 6, 7, 15, 17] [0, 1, 2, 3, 4, 5, 6, 7, 8, 9, 10, 11, 12, 13, 14, 16, 15, 17, 18, 19, 20, 21] [] (by kernel_rfl) (by kernel_rfl) (HS.drew.pk 3 [1, 2] Z) ?_
   replace HS := HS.drew
   refine qL Z Z (fun _ _ g => fL b3 0 M5 Z g) Z (GX.ls Z Z Z (HS.pk 3 [1, 2] Z) (fun _ HS _ g => lB 0 HS Z na2 Z g) Z (GX.l2 Z (fJ Zc Z (Em.calls HS  h35) (fun _ wd36 ⟨h37, HS⟩ => ⟨_, h37, (GX.fin (HS.pk 3 [1, 2] Z) (GX.ps 1 Z (qL Z Z (fun _ _ g => mV Z (kN 16 Z (tF c38) g)) Z (qL Z Z (fun _ _ g => oN Z (fL b3 1 Kb Z (bK g))) Z (GX.ls Z Z Z (HS.pk 3 [1, 2] Z) (fun _ HS _ g => oN Z (lB 0 HS Z na2 Z (bK g))) Z (GX.ls Z Z Z (HS.pk 3 [1, 2] Z) (fun _ HS _ g => oN Z (lW 1 HS Z Ep (bK g))) Z (GX.l2 Z (oN Z (fJ Nk Z (Cn.calls HS (rD 3 r_a) h41) (fun _ wd42 ⟨h43, HS⟩ => ⟨_, h43, (bK (GX.fin (HS.pk 3 [1, 2] Z) ?_))⟩))))))))))⟩))))
   refine qL Z Z (fun _ _ g => oN Z (GO.sub Z Z Z Z (bK g))) Z (GX.l2 Z (oN Z (fJ Vr Z (Gp.calls HS  h45) (fun _ wd46 ⟨h47, HS⟩ => ⟨_, h47, (bK (GX.fin (HS.pk 3 [1, 2] Z) (qL Z Z (fun _ _ g => oN Z (GO.not Z Z Z (bK g))) Z (GX.ps 1 Z (qL Z Z (fun _ _ g => mV Z (kN 25 Z (congrArg Bool.not (De c48)) g)) Z (qL Z Z (fun _ _ g => oF Z g) Z (qL Z Z (fun _ _ g => oF Z g) Z (GX.ls Z Z Z (HS.pk 3 [1, 2] Z) (fun _ HS _ g => oF Z g) Z (GX.ls Z Z Z (HS.pk 3 [1, 2] Z) (fun _ HS _ g => oF Z g) Z (GX.l2 Z (oF Z ?_)))))))))))⟩))))
   refine GX.fin (HS.pk 3 [1, 2] Z) (GX.l2 Z (oF Z (GX.fin (HS.pk 3 [1, 2] Z) (qL Z Z (fun _ _ g => oF Z g) Z (GX.ps 1 Z (GX.nil (rN 2 Z (rG (GO.Df (.agg [.slice none 0 0, .slice none 0 0, .slice none 0 0].toArray) Z Z (fun _ => by kernel_rfl) Z (sW 0 HS Z Gj Z fun wd81 HS => aS Z (nL ?_)))))))))))
   replace HS := HS.Da (Ar .i64) 2 uu
   replace HS := HS.Da (Ty.slice 107 Ad) 77 (fun _ => ⟨none, 0, uu⟩)
   replace HS := HS.Da Bu 122 uu
   obtain ⟨rfl, rfl, rfl, rfl⟩ := H8 H
   exact G.Gq _ _ func40 Z (Gc.Gv (j := 3) (vs := [.slice none 0 0, .slice none 0 0, .slice none 0 0]) HS Z Z Z Gj) Z ⟨_, _, _, _, _, _, _, Z, (HS.pk 6 [2, 1, 0] Z)⟩
  obtain ⟨t49, h50, H⟩ := bI H
  obtain ⟨t53, h54, H⟩ := bI H
  refine G.Gy mixed (fun w => St w0 w (Box b3 33 [I e1, I d1, I a1] :: Box b1 31 [sV A_a c1 c_a] :: L)) [1, 6, 7, 15, 17] [0, 1, 2, 3, 4, 5, 6, 7, 8, 9, 10, 11, 12, 13, 14, 16, 15, 17, 18, 19, 20, 21] [] (by kernel_rfl) (by kernel_rfl) (HS.drew.pk 3 [1, 2] Z) ?_
  replace HS := HS.drew
  refine qL Z Z (fun _ _ g => fL b3 0 M5 Z g) Z (GX.ls Z Z Z (HS.pk 3 [1, 2] Z) (fun _ HS _ g => lB 0 HS Z na2 Z g) Z (GX.l2 Z (fJ Zc Z (Em.calls HS  h35) (fun _ wd36 ⟨h37, HS⟩ => ⟨_, h37, (GX.fin (HS.pk 3 [1, 2] Z) (GX.ps 1 Z (qL Z Z (fun _ _ g => mV Z (kN 16 Z (tF c38) g)) Z (qL Z Z (fun _ _ g => oN Z (fL b3 1 Kb Z (bK g))) Z (GX.ls Z Z Z (HS.pk 3 [1, 2] Z) (fun _ HS _ g => oN Z (lB 0 HS Z na2 Z (bK g))) Z (GX.ls Z Z Z (HS.pk 3 [1, 2] Z) (fun _ HS _ g => oN Z (lW 1 HS Z Ep (bK g))) Z (GX.l2 Z (oN Z (fJ Nk Z (Cn.calls HS (rD 3 r_a) h41) (fun _ wd42 ⟨h43, HS⟩ => ⟨_, h43, (bK (GX.fin (HS.pk 3 [1, 2] Z) ?_))⟩))))))))))⟩))))
  refine qL Z Z (fun _ _ g => oN Z (GO.sub Z Z Z Z (bK g))) Z (GX.l2 Z (oN Z (fJ Vr Z (Gp.calls HS  h45) (fun _ wd46 ⟨h47, HS⟩ => ⟨_, h47, (bK (GX.fin (HS.pk 3 [1, 2] Z) (qL Z Z (fun _ _ g => oN Z (GO.not Z Z Z (bK g))) Z (GX.ps 1 Z (qL Z Z (fun _ _ g => mV Z (kN 25 Z (congrArg Bool.not c48) g)) Z (qL Z Z (fun _ _ g => oN Z (fL b3 2 Mi Z (bK g))) Z (qL Z Z (fun _ _ g => oN Z (fL b3 0 M5 Z (bK g))) Z (GX.ls Z Z Z (HS.pk 3 [1, 2] Z) (fun _ HS _ g => oN Z (lB 0 HS Z na2 Z (bK g))) Z (GX.ls Z Z Z (HS.pk 3 [1, 2] Z) (fun _ HS _ g => oN Z (lB 0 HS Z na2 Z (bK g))) Z (GX.l2 Z (oN Z ?_)))))))))))⟩))))
  refine fJ Zc Z (Em.calls HS  h50) (fun _ wd51 ⟨h52, HS⟩ => ⟨_, h52, (bK (GX.fin (HS.pk 3 [1, 2] Z) (GX.l2 Z (oN Z (fJ Vr Z (Gp.calls HS  h54) (fun _ wd55 ⟨h56, HS⟩ => ⟨_, h56, (bK (GX.fin (HS.pk 3 [1, 2] Z) (qL Z Z (fun _ _ g => oN Z (GO.not Z Z Z (bK g))) Z (GX.ps 1 Z (GX.nil ?_)))))⟩))))))⟩)
  rcases iS H with ⟨c57, H⟩ | ⟨c57, H⟩
  ·
   refine yB Z (congrArg Bool.not (De c57)) (sQ (rG (GO.Df (.agg [.slice none 0 0, .slice none 0 0, .slice none 0 0].toArray) Z Z (fun _ => by kernel_rfl) Z (sW 0 HS Z Gj Z fun wd80 HS => aS Z (nL ?_)))))
   replace HS := HS.Da (Ar .i64) 2 uu
   replace HS := HS.Da (Ty.slice 107 Ad) 77 (fun _ => ⟨none, 0, uu⟩)
   replace HS := HS.Da Bu 122 uu
   obtain ⟨rfl, rfl, rfl, rfl⟩ := H8 H
   exact G.Gq _ _ func40 Z (Gc.Gv (j := 3) (vs := [.slice none 0 0, .slice none 0 0, .slice none 0 0]) HS Z Z Z Gj) Z ⟨_, _, _, _, _, _, _, Z, (HS.pk 6 [2, 1, 0] Z)⟩
  refine nB Z (congrArg Bool.not c57) (rN 2 Z ?_)
  obtain ⟨t58, t59, t60, t61, h62, H⟩ := D9 H
  refine rG (lW 2 HS Z Ep (lW 1 HS Z Yo (fJ rQ Z (Gz.calls HS (rD 3 r_a) h62) (fun _ wd70 ⟨A63, c64, A65, c66, y67, A68, c69, h71, HS⟩ => ⟨_, h71, (pS 3 Z (GO.alloc HS Z Qn Z Z fun b72 wd73 HS => sW 0 HS Z Gj Z fun wd74 HS => aS Z (nL (rN 3 Z ?_))))⟩))))
  rcases iS H with ⟨c75, H⟩ | ⟨c75, H⟩
  ·
   refine yB Z (congrArg Bool.not (De c75)) (sQ (rG (GO.Df (.agg [.slice none 0 0, .slice none 0 0, .slice none 0 0].toArray) Z Z (fun _ => by kernel_rfl) Z (sW 4 HS Z Gj Z fun wd79 HS => aS Z (nL ?_)))))
   replace HS := HS.Da (Ar .i64) 2 uu
   replace HS := HS.Da (Ty.slice 107 Ad) 77 (fun _ => ⟨none, 0, uu⟩)
   replace HS := HS.Da Bu 122 uu
   obtain ⟨rfl, rfl, rfl, rfl⟩ := H8 H
   exact G.Gq _ _ func40 Z (Gc.Gv (j := 7) (vs := [.slice none 0 0, .slice none 0 0, .slice none 0 0]) HS Z Z Z Gj) Z ⟨_, _, _, _, _, _, _, Z, (HS.pk 10 [2, 1, 0] Z)⟩
  refine nB Z (congrArg Bool.not c75) (rN 3 Z (rG (fL b1 0 Dk Z (lB 6 HS Z Ga Z (lS Z Z U29 Z (fL b72 0 Oi Z (lB 0 HS Z Hy Z (lS Z Z U56 Z (GO.sub Z Z Z Z (fL b72 1 Mh Z (lB 0 HS Z Ga Z (lS Z Z U29 Z (pS 2 Z (nL ?_))))))))))))))
  rcases iS H with ⟨c76, H⟩ | ⟨c76, H⟩
  ·
   refine nB Z (tF c76) (rN 2 Z (rG (lW 0 HS Z Gj (sW 4 HS Z Gj Z fun wd78 HS => aS Z (nL ?_)))))
   obtain ⟨rfl, rfl, rfl, rfl⟩ := H8 H
   exact G.Gq _ _ func40 Z (Gc.Gv (j := 4) (vs := [sV A63 t58 c64, sV A65 t59 c66, sV A68 t60 c69]) HS Z Z Z Gj) Z ⟨_, _, _, _, _, _, _, Z, (HS.pk 7 [1, 2, 3] Z)⟩
  refine yB Z (tT c76) (sQ (rG (GO.Df (.agg [.slice none 0 0, .slice none 0 0, .slice none 0 0].toArray) Z Z (fun _ => by kernel_rfl) Z (sW 4 HS Z Gj Z fun wd77 HS => aS Z (nL ?_)))))
  replace HS := HS.Da (Ar .i64) 2 uu
  replace HS := HS.Da (Ty.slice 107 Ad) 77 (fun _ => ⟨none, 0, uu⟩)
  replace HS := HS.Da Bu 122 uu
  obtain ⟨rfl, rfl, rfl, rfl⟩ := H8 H
  exact G.Gq _ _ func40 Z (Gc.Gv (j := 7) (vs := [.slice none 0 0, .slice none 0 0, .slice none 0 0]) HS Z Z Z Gj) Z ⟨_, _, _, _, _, _, _, Z, (HS.pk 10 [2, 1, 0] Z)⟩
theorem E8.calls {list : List Ap} {tet Bv : Int} {r1 : Int} (HS : St w0 w (L)) (r_a : Ca w0 L Bu A_a c_a uu list) (H : E8.f K list tet Bv = some r1) :
    Calls prog 86 #[sV A_a list c_a, I tet, I Bv] w (E8.post w0 L r1) := by
  unfold E8.f at H
  refine cG func86 Z ?_
  refine rN 7 Z ?_
  refine G.name (fun f1 e1 => ?_)
  have g1 : ∀ c1, c1 ≤ K → ∀ (a1 : Int) (w : World), E8.l1 K c1 list tet Bv a1 = some r1 → St w0 w (L) → G prog 86 31 [(0, sV A_a list c_a), (1, I tet), (2, I Bv), (7, I a1)] f1 w (E8.post w0 L r1) := by
   refine lp (fun _ w H _ => by rw [E8.l1] at H; cases H) fun b1 h1 d1 a1 w H HS => ?_
   rw [E8.l1] at H
   subst e1
   refine rN 2 Z (rG (pS 2 Z (lS Z Z U63 Z (GO.lss Z Z Z Z (nL ?_)))))
   rcases iS H with ⟨c22, H⟩ | ⟨c22, H⟩
   ·
    refine nB Z (tF c22) (rN 3 Z ?_)
    obtain rfl := sI H
    exact rT _ func86 Z Z ⟨Z, HS⟩
   refine yB Z (tT c22) (rN 4 Z ?_)
   obtain ⟨c27, H⟩ := iN H
   obtain ⟨e28, h29, H⟩ := Dl H
   rcases iS H with ⟨c30, H⟩ | ⟨c30, H⟩
   ·
    refine rG (pS 2 Z (iX Z U63 Vz (rk r_a HS) c27 (GO.fld (ea A_a (a1.toNat * 4)) Z Z Vl Z Z (GO.Ce (T := Bu) (n := a1.toNat) (o := 0) HS r_a Z Z (Cs (ltN c27) h29) Z Z na2 Z (pS 3 Z (kN 21 Z (tF c30) (oF Z (oF Z (oF Z (oF Z (oF Z (oF Z (oF Z (GO.Ir Z Z Z Z Z ?_))))))))))))))
    refine nL (rN 5 Z (gW (d1 b1 (lR _) _ _ H HS) Z))
   refine rG (pS 2 Z (iX Z U63 Vz (rk r_a HS) c27 (GO.fld (ea A_a (a1.toNat * 4)) Z Z Vl Z Z (GO.Ce (T := Bu) (n := a1.toNat) (o := 0) HS r_a Z Z (Cs (ltN c27) h29) Z Z na2 Z (pS 3 Z (kN 21 Z (tT c30) (oN Z (mV Z (bK (oN Z (mV Z (bK (oN Z (iX Z U63 Vz (rk r_a HS) c27 ?_))))))))))))))
   refine bK (oN Z (GO.fld (ea A_a (a1.toNat * 4 + 1)) Z Z Qv (Um _ _ _) Z (bK (oN Z (GO.Ce (T := Bu) (n := a1.toNat) (o := 1) HS r_a Z Z (Cs (ltN c27) h29) Z Z na2 Z (bK (oN Z (mV Z (bK (oN Z (GO.eql Z Z Z Z (bK (GO.Ib Z Z Z Z Z (nL ?_))))))))))))))
   rcases iE H with ⟨c31, H⟩ | ⟨c31, H⟩
   ·
    refine yB Z (tT c31) (rN 2 Z ?_)
    obtain rfl := sI H
    exact rT _ func86 Z Z ⟨Z, HS⟩
   refine nB Z (tF c31) (rN 4 Z (gW (d1 b1 (lR _) _ _ H HS) Z))
  exact gW (g1 K (lR _) _ _ H HS) Z
theorem Hm.calls {a1 : List (List Ab)} {a_ f : Int} {b_ perm : Int} {y_a : Nat → (Ty.slice 107 Ad).Lay} {r1 : List (List Ab)} (HS : St w0 w (Own (Ty.slice 107 Ad) 77 A_a c_a y_a a1 :: L)) (H : Hm.f K a1 a_ f b_ perm = some r1) :
    Calls prog 85 #[.agg [sV A_a a1 c_a].toArray, I a_, I f, I b_, I perm] w (Hm.post w0 L A_a c_a y_a r1) := by
  unfold Hm.f at H
  refine cG func85 Z ?_
  refine sQ (rG (bA HS Z fun b1 wd2 HS => nL (sQ ?_)))
  obtain ⟨c3, H⟩ := iN H
  obtain ⟨c4, H⟩ := iN H
  refine rG (fL b1 0 Dk Z (lB 0 HS Z Ga Z (mV Z (iX Z U29 Ie (rk (ro 1 Z) HS) c3 (GO.Ce (T := (Ty.slice 107 Ad)) (n := a_.toNat) (o := 0) HS (ro 1 Z) Z Z (getD_some (d := []) (ltN c3)) Z Z Ii Z (pS 3 Z (GO.Df (.agg [I b_, I perm].toArray) Z Z (fun _ => by kernel_rfl) Z (GO.ix Z Z Z U77 Gb ((Ca.elem (ro 1 Z) c3.1 c3.2) _ HS).2.2.1 c4.1 c4.2 Z ?_))))))))
  replace HS := HS.pk 2 [1, 0] Z
  refine GO.Q3 (S := Ad) (k := a_.toNat) (n := f.toNat) (o := 0) (vs := [I b_, I perm]) (⟨b_, perm⟩ : Ab) HS Au Z Z Z Z (htA Dq) Z (ltN c3) (getD_some (d := Bb) (ltN c4)) Z Z fun wd5 HS => nL ?_
  replace HS := HS.J4 (j := 1) (cs' := [sV A_a (a1.set a_.toNat ((a1.getD a_.toNat []).set f.toNat (⟨b_, perm⟩ : Ab))) c_a]) Z (by simp only [sV, List.length_set] <;> rfl)
  obtain ⟨c6, H⟩ := iN H
  have h7 := (rk (ro 0 Z) HS)
  obtain ⟨t8, h9, H⟩ := bI H
  obtain ⟨t12, h13, H⟩ := bI H
  obtain ⟨c16, H⟩ := iN H
  refine G.Gy mixed (fun w => St w0 w (Own (Ty.slice 107 Ad) 77 A_a c_a y_a (a1.set a_.toNat ((a1.getD a_.toNat []).set f.toNat (⟨b_, perm⟩ : Ab))) :: Box b1 31 [sV A_a (a1.set a_.toNat ((a1.getD a_.toNat []).set f.toNat (⟨b_, perm⟩ : Ab))) c_a] :: L)) [1, 4] [0, 2, 5, 6, 8, 9, 1, 3, 4, 7, 10, 11, 12, 13] [13] (by kernel_rfl) (by kernel_rfl) HS.drew ?_
  replace HS := HS.drew
  refine qL Z Z (fun _ _ g => fL b1 0 Dk Z g) Z (GX.ps 5 Z (GX.ls Z Z Z HS (fun _ HS _ g => lB 1 HS Z Ga Z g) Z (qL Z Z (fun _ _ g => iX Z U29 Ie h7 c6 g) Z (GX.ls Z Z Z HS (fun _ HS _ g => GO.Ce (T := (Ty.slice 107 Ad)) (n := b_.toNat) (o := 0) HS (ro 0 Z) Z Z (getD_some (d := []) (ltN c6)) Z Z Ii Z g) Z (GX.l2 Z (fJ Ip Z (Be.calls HS  h9) (fun _ wd10 ⟨h11, HS⟩ => ⟨_, h11, (GX.fin HS (GX.l2 Z (fJ Ru Z (Dc.calls HS  h13) (fun _ wd14 ⟨h15, HS⟩ => ⟨_, h15, (GX.fin HS (qL Z Z (fun _ _ g => GO.Df (.agg [I a_, I t12].toArray) Z Z (fun _ => by kernel_rfl) Z g) Z (qL Z Z (fun _ _ g => GO.ix Z Z Z U77 Gb ((Ca.elem (ro 0 Z) c6.1 c6.2) _ HS).2.2.1 c16.1 c16.2 Z g) Z (GX.l2 Z (GO.Q3 (S := Ad) (k := b_.toNat) (n := t8.toNat) (o := 0) (vs := [I a_, I t12]) (⟨a_, t12⟩ : Ab) HS Au Z Z Z Z (htA Dq) Z (ltN c6) (getD_some (d := Bb) (ltN c16)) Z Z fun wd17 HS => ?_)))))⟩))))⟩)))))))
  refine GX.Ql Z (GX.nil ?_)
  replace HS := HS.J4 (j := 1) (cs' := [sV A_a ((a1.set a_.toNat ((a1.getD a_.toNat []).set f.toNat (⟨b_, perm⟩ : Ab))).set b_.toNat (((a1.set a_.toNat ((a1.getD a_.toNat []).set f.toNat (⟨b_, perm⟩ : Ab))).getD b_.toNat []).set t8.toNat (⟨a_, t12⟩ : Ab))) c_a]) Z (by simp only [sV, List.length_set] <;> rfl)
  obtain rfl := sI H
  exact G.Rk func85 Z ⟨Z, (HS.pk 2 [0] Z)⟩
theorem Ao.calls {e1 : List (List Ab)} {f1 : List Int} {g1 : List (List Ab)} {d1 : List Ap} {y_a : Nat → (Ty.slice 107 Ad).Lay} {y_c : Nat → (Ty.slice 107 Ad).Lay} {r1 : List (List Ab)} (HS : St w0 w (L)) (r_a : Ca w0 L (Ty.slice 107 Ad) A_a c_a y_a e1) (r_b : Ca w0 L (Ar .i64) A_b c_b uu f1) (r_c : Ca w0 L (Ty.slice 107 Ad) A_c c_c y_c g1) (r_d : Ca w0 L Bu A_d c_d uu d1) (H : Ao.f K e1 f1 g1 d1 = some r1) :
    Calls prog 50 #[.agg [sV A_a e1 c_a].toArray, .agg [sV A_b f1 c_b, sV A_c g1 c_c, sV A_d d1 c_d].toArray] w (Ao.post w0 L r1) := by
  unfold Ao.f at H
  refine cG func50 Z ?_
  refine sQ (rG (bA HS Z fun b1 wd2 HS => bA HS Z fun b3 wd4 HS => GO.alloc HS Z Nv Z Z fun b5 wd6 HS => nL (sQ (rG (GO.Cr (el := 2) ([]) HS Z Z (fun _ => by kernel_rfl) Z fun b7 wd8 HS => ?_)))))
  replace HS := HS.Ey (T := (Ar .i64)) (j := 0) Z Au uu ([] : List Int) Z (Hq Z)
  refine GO.Gw (t := 23) (m := ([] : List Int).length) (c' := ([] : List Int).length) Z Z Z (aS Z (nL (rN 7 Z ?_)))
  refine G.name (fun y2 m2 => ?_)
  have f2 : ∀ y1, y1 ≤ K → ∀ (A2594 : Option Addr) (c2595 : Nat) (a1 : List Int) (c1 x2598 : Int) (w : World), Ao.l1 K y1 e1 f1 g1 d1 a1 c1 x2598 = some r1 → St w0 w (Box b1 31 [sV A_a e1 c_a] :: Box b3 65 [sV A_b f1 c_b, sV A_c g1 c_c, sV A_d d1 c_d] :: Box b5 31 [.slice none 0 0] :: Own (Ar .i64) 2 A2594 c2595 uu a1 :: L) → G prog 50 217 [(2, pT b1), (3, pT b3), (4, pT b5), (5, sV A2594 a1 c2595), (6, I c1), (7, I x2598)] y2 w (Ao.post w0 L r1) := by
   refine lp (fun _ _ _ _ _ w H _ => by rw [Ao.l1] at H; cases H) fun m1 g3 e2 A2594 c2595 a1 c1 x2598 w H HS => ?_
   rw [Ao.l1] at H
   subst m2
   refine rN 2 Z ?_
   obtain ⟨t5184, h5185, H⟩ := bI H
   refine rG (mV Z (lW 0 HS Z Ep (fJ Nk Z (Cn.calls HS (rD 4 r_a) h5185) (fun _ wd5186 ⟨h5187, HS⟩ => ⟨_, h5187, (GO.lss Z Z Z Z (nL ?_))⟩))))
   rcases iE H with ⟨c5188, H⟩ | ⟨c5188, H⟩
   ·
    refine yB Z (tT c5188) (rN 4 Z ?_)
    obtain ⟨c5194, H⟩ := iN H
    refine rG (pS 2 Z (GO.Cr (el := 2) ([I c1]) HS Z Z (fun _ => by kernel_rfl) Z fun b5189 wd5190 HS => GO.app1 (T := (Ar .i64)) (j := 4) (jb := 0) c1 HS Z Z Au Z Z Z U56 K5 Z Z Z c5194 Z fun A5192 c5193 wd5191 HS => aS Z (nL (sQ ?_))))
    obtain ⟨t5195, h5196, H⟩ := bI H
    refine rG (fL b3 0 Oi Z (lB 2 HS Z Hy Z (mV Z (fJ Xc Z (Dw.calls HS (rD 5 r_b) h5196) (fun _ wd5197 ⟨h5198, HS⟩ => ⟨_, h5198, (GO.not Z Z Z (nL ?_))⟩)))))
    rcases iE H with ⟨c5199, H⟩ | ⟨c5199, H⟩
    ·
     refine nB Z (congrArg Bool.not c5199) (rN 4 Z (gW (e2 m1 (lR _) _ _ _ _ _ _ H (HS.pk 5 [1, 2, 3, 4] Z)) Z))
    refine yB Z (congrArg Bool.not (De c5199)) (rN 4 Z (gW (e2 m1 (lR _) _ _ _ _ _ _ H (HS.pk 5 [1, 2, 3, 4] Z)) Z))
   refine nB Z (tF c5188) (rN 2 Z (rG (GO.Df (.agg [.slice none 0 0].toArray) Z Z (fun _ => by kernel_rfl) Z (GO.alloc HS Z Nv Z Z fun b5200 wd5201 HS => sW 0 HS Z Ep Z fun wd5202 HS => nL (rN 5 Z ?_)))))
   refine G.name (fun v2 n2 => ?_)
   have r2 : ∀ z1, z1 ≤ m1 → ∀ (A6056 : Option Addr) (c6057 : Nat) (x6058 : List (List Ab)) (y6059 : Nat → (Ty.slice 107 Ad).Lay) (x6060 : Int) (w : World), Ao.l52 K z1 e1 f1 g1 d1 a1 c1 x6058 x6060 = some r1 → St w0 w (Box b1 31 [sV A_a e1 c_a] :: Box b3 65 [sV A_b f1 c_b, sV A_c g1 c_c, sV A_d d1 c_d] :: Box b5 31 [.slice none 0 0] :: Own (Ar .i64) 2 A2594 c2595 uu a1 :: Box b5200 31 [sV A6056 x6058 c6057] :: Own (Ty.slice 107 Ad) 77 A6056 c6057 y6059 x6058 :: L) → G prog 50 217 [(2, pT b1), (3, pT b3), (4, pT b5), (5, sV A2594 a1 c2595), (6, I c1), (8, pT b5200), (9, I x6060)] v2 w (Ao.post w0 L r1) := by
    refine lp (fun _ _ _ _ _ w H _ => by rw [Ao.l52] at H; cases H) fun i1 h3 x1 A6056 c6057 x6058 y6059 x6060 w H HS => ?_
    rw [Ao.l52] at H
    subst n2
    refine rN 2 Z ?_
    obtain ⟨t6915, h6916, H⟩ := bI H
    refine rG (mV Z (lW 0 HS Z Ep (fJ Nk Z (Cn.calls HS (rD 6 r_a) h6916) (fun _ wd6917 ⟨h6918, HS⟩ => ⟨_, h6918, (GO.lss Z Z Z Z (nL ?_))⟩))))
    rcases iE H with ⟨c6919, H⟩ | ⟨c6919, H⟩
    ·
     refine yB Z (tT c6919) (rN 5 Z ?_)
     obtain ⟨t6920, h6921, H⟩ := bI H
     refine rG (fL b3 0 Oi Z (lB 1 HS Z Hy Z (mV Z (fJ Xc Z (Dw.calls HS (rD 6 r_b) h6921) (fun _ wd6922 ⟨h6923, HS⟩ => ⟨_, h6923, (nL ?_)⟩)))))
     rcases iE H with ⟨c6924, H⟩ | ⟨c6924, H⟩
     ·
      refine yB Z c6924 (rN 3 Z (gW (x1 i1 (lR _) _ _ _ _ _ _ H HS) Z))
     refine nB Z (De c6924) (rN 2 Z ?_)
     obtain ⟨t6925, h6926, H⟩ := bI H
     refine rG (fJ Si Z (Fe.calls HS  h6926) (fun _ wd6929 ⟨A6927, c6928, h6930, HS⟩ => ⟨_, h6930, (aS Z (nL (rN 5 Z ?_)))⟩))
     refine G.name (fun i2 o2 => ?_)
     have h2 : ∀ d2, d2 ≤ i1 → ∀ (x6954 : List Ab) (x6955 : Int) (w : World), Ao.l69 K d2 e1 f1 g1 d1 a1 c1 x6058 x6060 x6954 x6955 = some r1 → St w0 w (Box b1 31 [sV A_a e1 c_a] :: Box b3 65 [sV A_b f1 c_b, sV A_c g1 c_c, sV A_d d1 c_d] :: Box b5 31 [.slice none 0 0] :: Own (Ar .i64) 2 A2594 c2595 uu a1 :: Box b5200 31 [sV A6056 x6058 c6057] :: Own (Ty.slice 107 Ad) 77 A6056 c6057 y6059 x6058 :: Own Ad 107 A6927 c6928 uu x6954 :: L) → G prog 50 217 [(2, pT b1), (3, pT b3), (4, pT b5), (5, sV A2594 a1 c2595), (6, I c1), (8, pT b5200), (9, I x6060), (10, sV A6927 x6954 c6928), (11, I x6955)] i2 w (Ao.post w0 L r1) := by
      refine lp (fun _ _ w H _ => by rw [Ao.l69] at H; cases H) fun k1 g2 o1 x6954 x6955 w H HS => ?_
      rw [Ao.l69] at H
      subst o2
      refine rN 3 Z ?_
      rcases iS H with ⟨c6988, H⟩ | ⟨c6988, H⟩
      ·
       refine nB Z (tF c6988) (G.exit Z ?_)
       obtain ⟨c7017, H⟩ := iN H
       refine rG (fL b5200 0 Dk Z (lB 4 HS Z Ga Z (mV Z (GO.Cr (el := 77) ([sV A6927 x6954 c6928]) HS Z Z (fun _ => by kernel_rfl) Z fun b7012 wd7013 HS => ?_))))
       replace HS := HS.pk 8 [6, 0, 7, 1, 2, 3, 4, 5] Z
       refine GO.Su (S := Ad) (u := 107) HS Z Z Z U29 Qc Z Z c7017 Z fun A7015 c7016 y7018 wd7014 HS => fL b5200 0 Dk Z (GO.Gu (j := 6) (vs := [sV A7015 (x6058 ++ [x6954]) c7016]) ([sV A7015 (x6058 ++ [x6954]) c7016]) HS Z Z Z Z Z (htN Ga Z) Z Z Z fun wd7019 HS => nL (rN 3 Z (gW (x1 k1 (Nat.le_of_succ_le g2) _ _ _ _ _ _ H (HS.pk 7 [2, 3, 4, 5, 6, 0] Z)) Z)))
      refine yB Z (tT c6988) (rN 4 Z ?_)
      obtain ⟨c6989, H⟩ := iN H
      obtain ⟨c6990, H⟩ := iN H
      obtain ⟨e6991, h6992, H⟩ := Dl H
      refine rG (fL b1 0 Dk Z (lB 0 HS Z Ga Z (mV Z (iX Z U29 Ie (rk (rD 7 r_a) HS) c6989 (GO.Ce (T := (Ty.slice 107 Ad)) (n := x6060.toNat) (o := 0) HS (rD 7 r_a) Z Z (getD_some (d := []) (ltN c6989)) Z Z Ii Z (mV Z (GO.ix Z Z Z U77 Gb ((Ca.elem (rD 7 r_a) c6989.1 c6989.2) _ HS).2.2.1 c6990.1 c6990.2 Z (GO.Hf (T := Ad) (n := x6955.toNat) HS (Ca.elem (rD 7 r_a) c6989.1 c6989.2) Z Z (Cs (ltN c6990) h6992) Dq Z (GO.alloc HS Z Jf Z Z fun b6993 wd6994 HS => sW 0 HS Z Dq Z fun wd6995 HS => nL (sQ ?_))))))))))
      rcases iS H with ⟨c7001, H⟩ | ⟨c7001, H⟩
      ·
       refine rG (fL b6993 0 C9 Z (lB 0 HS Z na2 Z (pS 2 Z (kN 68 Z (tF c7001) (oF Z (oF Z (oF Z (oF Z (oF Z (oF Z (GO.Ir Z Z Z Z Z (nL (rN 5 Z (gW (o1 k1 (lR _) _ _ _ H (HS.pk 8 [1, 2, 3, 4, 5, 6, 7] Z)) Z))))))))))))))
      obtain ⟨t7002, h7003, H⟩ := bI H
      refine rG (fL b6993 0 C9 Z (lB 0 HS Z na2 Z (pS 2 Z (kN 68 Z (tT c7001) (oN Z (fL b3 0 Oi Z (bK (oN Z (lB 2 HS Z Hy Z (bK (oN Z (fL b6993 0 C9 Z (bK (oN Z ?_))))))))))))))
      refine lB 0 HS Z na2 Z (bK (oN Z (fJ Xc Z (Dw.calls HS (rD 8 r_b) h7003) (fun _ wd7004 ⟨h7005, HS⟩ => ⟨_, h7005, (bK (oN Z (GO.not Z Z Z (bK (GO.Ib Z Z Z Z Z (nL ?_))))))⟩))))
      rcases iE H with ⟨c7006, H⟩ | ⟨c7006, H⟩
      ·
       refine nB Z (congrArg Bool.not c7006) (rN 4 Z (gW (o1 k1 (lR _) _ _ _ H (HS.pk 8 [1, 2, 3, 4, 5, 6, 7] Z)) Z))
      refine yB Z (congrArg Bool.not (De c7006)) ?_
      obtain ⟨c7007, H⟩ := iN H
      have h7008 := (rk (ro 4 Z) HS)
      obtain ⟨c7009, H⟩ := iN H
      have h7010 := (rk (ro 7 Z) HS)
      refine G.lex mixed [0, 1, 2, 3, 7, 4, 5, 6, 8, 9, 10, 11] (by kernel_rfl) ?_
      replace HS := HS.drew
      refine GX.ps 3 Z (qL Z Z (fun _ _ g => fL b6993 0 C9 Z g) Z (qL Z Z (fun _ _ g => fL b6993 1 F4 Z g) Z (GX.l1 Z Z Z (fun _ g => lB 0 HS Z na2 Z g) Z (qL Z Z (fun _ _ g => iX Z U56 sz2 h7008 c7007 g) Z (GX.l1 Z Z Z (fun _ g => GO.Ce (T := (Ar .i64)) (n := e6991.Tet.toNat) (o := 0) HS (ro 4 Z) Z Z (getD_some (d := 0) (ltN c7007)) Z Z na2 Z g) Z (GX.l1 Z Z Z (fun _ g => lB 0 HS Z na2 Z g) Z (qL Z Z (fun _ _ g => GO.Df (.agg [I (a1.getD e6991.Tet.toNat 0), I e6991.Perm].toArray) Z Z (fun _ => by kernel_rfl) Z g) Z (qL Z Z (fun _ _ g => iX Z U77 Gb h7010 c7009 g) Z (GX.l2 Z (GO.He (T := Ad) (j := 7) (n := x6955.toNat) (o := 0) (vs := [I (a1.getD e6991.Tet.toNat 0), I e6991.Perm]) (⟨a1.getD e6991.Tet.toNat 0, e6991.Perm⟩ : Ab) HS Z Au Z Z Z Z (htA Dq) Z (getD_some (d := Bb) (ltN c7009)) Z Z fun wd7011 HS => GX.fin tv (GX.nil (G.len (t := 10) (m := (x6954.set x6955.toNat (⟨a1.getD e6991.Tet.toNat 0, e6991.Perm⟩ : Ab)).length) Z (by simp only [List.length_set] <;> rfl) (rN 3 Z ?_)))))))))))))
      exact gW (o1 k1 (lR _) _ _ _ H (HS.pk 8 [1, 2, 3, 4, 5, 6, 7] Z)) Z
     exact gW (h2 i1 (lR _) _ _ _ H (HS.pk 7 [1, 2, 3, 4, 5, 6, 0] Z)) Z
    refine nB Z (tF c6919) (rN 6 Z ?_)
    refine G.name (fun c3 t2 => ?_)
    have k2 : ∀ a2, a2 ≤ i1 → ∀ (A7268 : Option Addr) (c7269 : Nat) (x7270 : List (List Ab)) (y7271 : Nat → (Ty.slice 107 Ad).Lay) (x7272 : Int) (w : World), Ao.l70 K a2 e1 f1 g1 d1 a1 c1 x7270 x7272 = some r1 → St w0 w (Box b1 31 [sV A_a e1 c_a] :: Box b3 65 [sV A_b f1 c_b, sV A_c g1 c_c, sV A_d d1 c_d] :: Box b5 31 [.slice none 0 0] :: Own (Ar .i64) 2 A2594 c2595 uu a1 :: Box b5200 31 [sV A7268 x7270 c7269] :: Own (Ty.slice 107 Ad) 77 A7268 c7269 y7271 x7270 :: L) → G prog 50 217 [(2, pT b1), (3, pT b3), (4, pT b5), (5, sV A2594 a1 c2595), (6, I c1), (8, pT b5200), (13, I x7272)] c3 w (Ao.post w0 L r1) := by
     refine lp (fun _ _ _ _ _ w H _ => by rw [Ao.l70] at H; cases H) fun n1 f3 z2 A7268 c7269 x7270 y7271 x7272 w H HS => ?_
     rw [Ao.l70] at H
     subst t2
     refine rN 2 Z (rG (mV Z (fL b3 1 Mh Z (lB 1 HS Z Ga Z (lS Z Z U29 Z (GO.lss Z Z Z Z (nL ?_)))))))
     rcases iE H with ⟨c7521, H⟩ | ⟨c7521, H⟩
     ·
      refine yB Z (tT c7521) (rN 4 Z ?_)
      obtain ⟨t7522, h7523, H⟩ := bI H
      refine rG (fJ Si Z (Fe.calls HS  h7523) (fun _ wd7526 ⟨A7524, c7525, h7527, HS⟩ => ⟨_, h7527, (aS Z (nL (rN 5 Z ?_)))⟩))
      refine G.name (fun a3 q2 => ?_)
      have s2 : ∀ c2, c2 ≤ n1 → ∀ (x7538 : List Ab) (x7539 : Int) (w : World), Ao.l75 K c2 e1 f1 g1 d1 a1 c1 x7270 x7272 x7538 x7539 = some r1 → St w0 w (Box b1 31 [sV A_a e1 c_a] :: Box b3 65 [sV A_b f1 c_b, sV A_c g1 c_c, sV A_d d1 c_d] :: Box b5 31 [.slice none 0 0] :: Own (Ar .i64) 2 A2594 c2595 uu a1 :: Box b5200 31 [sV A7268 x7270 c7269] :: Own (Ty.slice 107 Ad) 77 A7268 c7269 y7271 x7270 :: Own Ad 107 A7524 c7525 uu x7538 :: L) → G prog 50 217 [(2, pT b1), (3, pT b3), (4, pT b5), (5, sV A2594 a1 c2595), (6, I c1), (8, pT b5200), (13, I x7272), (14, sV A7524 x7538 c7525), (15, I x7539)] a3 w (Ao.post w0 L r1) := by
       refine lp (fun _ _ w H _ => by rw [Ao.l75] at H; cases H) fun p1 d3 b2 x7538 x7539 w H HS => ?_
       rw [Ao.l75] at H
       subst q2
       refine rN 3 Z ?_
       rcases iS H with ⟨c7559, H⟩ | ⟨c7559, H⟩
       ·
        refine nB Z (tF c7559) (G.exit Z ?_)
        obtain ⟨c7575, H⟩ := iN H
        refine rG (fL b5200 0 Dk Z (lB 4 HS Z Ga Z (mV Z (GO.Cr (el := 77) ([sV A7524 x7538 c7525]) HS Z Z (fun _ => by kernel_rfl) Z fun b7570 wd7571 HS => ?_))))
        replace HS := HS.pk 8 [6, 0, 7, 1, 2, 3, 4, 5] Z
        refine GO.Su (S := Ad) (u := 107) HS Z Z Z U29 Qc Z Z c7575 Z fun A7573 c7574 y7576 wd7572 HS => fL b5200 0 Dk Z (GO.Gu (j := 6) (vs := [sV A7573 (x7270 ++ [x7538]) c7574]) ([sV A7573 (x7270 ++ [x7538]) c7574]) HS Z Z Z Z Z (htN Ga Z) Z Z Z fun wd7577 HS => nL (rN 3 Z (gW (z2 p1 (Nat.le_of_succ_le d3) _ _ _ _ _ _ H (HS.pk 7 [2, 3, 4, 5, 6, 0] Z)) Z)))
       refine yB Z (tT c7559) (rN 4 Z ?_)
       obtain ⟨c7560, H⟩ := iN H
       obtain ⟨c7561, H⟩ := iN H
       obtain ⟨e7562, h7563, H⟩ := Dl H
       refine rG (fL b3 1 Mh Z (lB 1 HS Z Ga Z (mV Z (iX Z U29 Ie (rk (rD 7 r_c) HS) c7560 (GO.Ce (T := (Ty.slice 107 Ad)) (n := x7272.toNat) (o := 0) HS (rD 7 r_c) Z Z (getD_some (d := []) (ltN c7560)) Z Z Ii Z (mV Z (GO.ix Z Z Z U77 Gb ((Ca.elem (rD 7 r_c) c7560.1 c7560.2) _ HS).2.2.1 c7561.1 c7561.2 Z (GO.Hf (T := Ad) (n := x7539.toNat) HS (Ca.elem (rD 7 r_c) c7560.1 c7560.2) Z Z (Cs (ltN c7561) h7563) Dq Z (GO.alloc HS Z Jf Z Z fun b7564 wd7565 HS => sW 0 HS Z Dq Z fun wd7566 HS => nL (sQ (rG (fL b7564 0 C9 Z ?_))))))))))))
       refine lB 0 HS Z na2 Z (GO.geq Z Z Z Z (nL ?_))
       rcases iS H with ⟨c7567, H⟩ | ⟨c7567, H⟩
       ·
        refine nB Z (tF c7567) (rN 4 Z (gW (b2 p1 (lR _) _ _ _ H (HS.pk 8 [1, 2, 3, 4, 5, 6, 7] Z)) Z))
       refine yB Z (tT c7567) ?_
       obtain ⟨c7568, H⟩ := iN H
       refine rG (pS 3 Z (fL b7564 0 C9 Z (lB 0 HS Z na2 Z (GO.add Z Z Z Z (fL b7564 1 F4 Z (lB 0 HS Z na2 Z (GO.Df (.agg [I (w64 (c1 + e7562.Tet)), I e7562.Perm].toArray) Z Z (fun _ => by kernel_rfl) Z (iX Z U77 Gb (rk (ro 7 Z) HS) c7568 (GO.He (T := Ad) (j := 7) (n := x7539.toNat) (o := 0) (vs := [I (w64 (c1 + e7562.Tet)), I e7562.Perm]) (⟨w64 (c1 + e7562.Tet), e7562.Perm⟩ : Ab) HS Z Au Z Z Z Z (htA Dq) Z (getD_some (d := Bb) (ltN c7568)) Z Z fun wd7569 HS => nL (G.len (t := 14) (m := (x7538.set x7539.toNat (⟨w64 (c1 + e7562.Tet), e7562.Perm⟩ : Ab)).length) Z (by simp only [List.length_set] <;> rfl) (rN 3 Z (gW (b2 p1 (lR _) _ _ _ H (HS.pk 8 [1, 2, 3, 4, 5, 6, 7] Z)) Z))))))))))))
      exact gW (s2 n1 (lR _) _ _ _ H (HS.pk 7 [1, 2, 3, 4, 5, 6, 0] Z)) Z
     refine nB Z (tF c7521) (rN 6 Z ?_)
     refine G.name (fun u2 p2 => ?_)
     have x2 : ∀ v1, v1 ≤ n1 → ∀ (x7641 : List (List Ab)) (x7642 : Int) (w : World), Ao.l76 K v1 e1 f1 d1 a1 c1 x7641 x7642 = some r1 → St w0 w (Box b1 31 [sV A_a e1 c_a] :: Box b3 65 [sV A_b f1 c_b, sV A_c g1 c_c, sV A_d d1 c_d] :: Box b5 31 [.slice none 0 0] :: Own (Ar .i64) 2 A2594 c2595 uu a1 :: Box b5200 31 [sV A7268 x7641 c7269] :: Own (Ty.slice 107 Ad) 77 A7268 c7269 y7271 x7641 :: L) → G prog 50 217 [(2, pT b1), (3, pT b3), (4, pT b5), (5, sV A2594 a1 c2595), (6, I c1), (8, pT b5200), (17, I x7642)] u2 w (Ao.post w0 L r1) := by
      refine lp (fun _ _ w H _ => by rw [Ao.l76] at H; cases H) fun s1 e3 u1 x7641 x7642 w H HS => ?_
      rw [Ao.l76] at H
      subst p2
      refine rN 2 Z (rG (mV Z (fL b3 2 Jo Z (lB 1 HS Z Nw Z (lS Z Z U63 Z (GO.lss Z Z Z Z (nL ?_)))))))
      rcases iS H with ⟨c7706, H⟩ | ⟨c7706, H⟩
      ·
       refine nB Z (tF c7706) (rN 2 Z (rG (lW 4 HS Z Ep (sW 2 HS Z Ep Z fun wd7768 HS => nL ?_))))
       obtain rfl := sI H
       exact rT _ func50 Z (Gc.Gv (j := 2) (vs := [sV A7268 x7641 c7269]) HS Z Z Z Ep) ⟨_, _, _, Z, (HS.pk 6 [5] Z)⟩
      refine yB Z (tT c7706) (rN 4 Z ?_)
      obtain ⟨c7707, H⟩ := iN H
      obtain ⟨e7708, h7709, H⟩ := Dl H
      refine rG (fL b3 2 Jo Z (lB 1 HS Z Nw Z (mV Z (iX Z U63 Vz (rk (rD 6 r_d) HS) c7707 (GO.Hf (T := Bu) (n := x7642.toNat) HS (rD 6 r_d) Z Z (Cs (ltN c7707) h7709) Yt Z (GO.alloc HS Z lN Z Z fun b7710 wd7711 HS => sW 0 HS Z Yt Z fun wd7712 HS => nL (sQ ?_)))))))
      obtain ⟨c7713, H⟩ := iN H
      obtain ⟨c7714, H⟩ := iN H
      obtain ⟨e7715, h7716, H⟩ := Dl H
      refine G.Gy mixed (fun w => St w0 w (Box b7710 122 [I e7708.tet, I e7708.Bv, I e7708.to, I e7708.perm] :: Box b1 31 [sV A_a e1 c_a] :: L)) [1, 3, 5, 7, 9] [0, 2, 6, 1, 3, 4, 5, 7, 8, 9, 10, 11] [] (by kernel_rfl) (by kernel_rfl) (HS.drew.pk 7 [0, 1] Z) ?_
      replace HS := HS.drew
      refine qL Z Z (fun _ _ g => fL b1 0 Dk Z g) Z (qL Z Z (fun _ _ g => fL b7710 0 Vl Z g) Z (qL Z Z (fun _ _ g => fL b7710 1 Qv Z g) Z (GX.ls Z Z Z (HS.pk 7 [0, 1] Z) (fun _ HS _ g => lB 1 HS Z Ga Z g) Z (GX.ls Z Z Z (HS.pk 7 [0, 1] Z) (fun _ HS _ g => lB 0 HS Z na2 Z g) Z (qL Z Z (fun _ _ g => iX Z U29 Ie (rk (rD 7 r_a) HS) c7713 g) Z (GX.ls Z Z Z (HS.pk 7 [0, 1] Z) (fun _ HS _ g => GO.Ce (T := (Ty.slice 107 Ad)) (n := e7708.tet.toNat) (o := 0) HS (rD 2 r_a) Z Z (getD_some (d := []) (ltN c7713)) Z Z Ii Z g) Z (GX.ls Z Z Z (HS.pk 7 [0, 1] Z) (fun _ HS _ g => lB 0 HS Z na2 Z g) Z (qL Z Z (fun _ _ g => GO.ix Z Z Z U77 Gb ((Ca.elem (rD 7 r_a) c7713.1 c7713.2) _ HS).2.2.1 c7714.1 c7714.2 Z g) Z (GX.ls Z Z Z (HS.pk 7 [0, 1] Z) (fun _ HS _ g => GO.Hf (T := Ad) (n := e7708.Bv.toNat) HS (Ca.elem (rD 2 r_a) c7713.1 c7713.2) Z Z (Cs (ltN c7714) h7716) Dq Z g) Z (GX.l2 Z (GO.alloc HS Z Jf Z Z fun b7717 wd7718 HS => GX.fin (HS.pk 8 [1, 2] Z) (GX.l2 Z (sW 0 HS Z Dq Z fun wd7719 HS => ?_)))))))))))))
      refine GX.fin (HS.pk 8 [1, 2] Z) (GX.nil (rN 2 Z (rG (fL b7717 0 C9 Z (lB 0 HS Z na2 Z (GO.lss Z Z Z Z (nL ?_)))))))
      rcases iE H with ⟨c7720, H⟩ | ⟨c7720, H⟩
      ·
       refine yB Z (tT c7720) (rN 3 Z (gW (u1 s1 (lR _) _ _ _ H (HS.pk 8 [2, 3, 4, 5, 6, 7] Z)) Z))
      refine nB Z (tF c7720) (rN 2 Z ?_)
      obtain ⟨t7721, h7722, H⟩ := bI H
      refine rG (fL b7710 3 Vk Z (lB 1 HS Z na2 Z (fL b7710 1 Qv Z (lB 1 HS Z na2 Z (fJ Ip Z (Be.calls HS  h7722) (fun _ wd7723 ⟨h7724, HS⟩ => ⟨_, h7724, (aS Z (nL (sQ ?_)))⟩))))))
      obtain ⟨t7725, h7726, H⟩ := bI H
      obtain ⟨t7729, h7730, H⟩ := bI H
      refine G.Gy mixed (fun w => St w0 w (Box b7717 107 [I e7715.Tet, I e7715.Perm] :: Box b7710 122 [I e7708.tet, I e7708.Bv, I e7708.to, I e7708.perm] :: L)) [1, 4] [0, 3, 1, 4, 2, 5, 6] [] (by kernel_rfl) (by kernel_rfl) (HS.drew.pk 8 [0, 1] Z) ?_
      replace HS := HS.drew
      refine qL Z Z (fun _ _ g => fL b7710 3 Vk Z g) Z (qL Z Z (fun _ _ g => fL b7717 1 F4 Z g) Z (GX.ls Z Z Z (HS.pk 8 [0, 1] Z) (fun _ HS _ g => lB 1 HS Z na2 Z g) Z (GX.ls Z Z Z (HS.pk 8 [0, 1] Z) (fun _ HS _ g => lB 0 HS Z na2 Z g) Z (GX.l2 Z (fJ Ru Z (Dc.calls HS  h7726) (fun _ wd7727 ⟨h7728, HS⟩ => ⟨_, h7728, (GX.fin (HS.pk 8 [0, 1] Z) (GX.l2 Z (fJ Xg Z (F6.calls HS  h7730) (fun _ wd7731 ⟨h7732, HS⟩ => ⟨_, h7732, (GX.fin (HS.pk 8 [0, 1] Z) (GX.ps 1 Z (GX.nil (rN 2 Z ?_))))⟩))))⟩))))))
      obtain ⟨t7733, h7734, H⟩ := bI H
      refine rG (fL b3 0 Oi Z (lB 3 HS Z Hy Z (fL b7717 0 C9 Z (lB 0 HS Z na2 Z (fJ Xc Z (Dw.calls HS (rD 8 r_b) h7734) (fun _ wd7735 ⟨h7736, HS⟩ => ⟨_, h7736, (GO.not Z Z Z (nL ?_))⟩))))))
      rcases iS H with ⟨c7737, H⟩ | ⟨c7737, H⟩
      ·
       refine yB Z (congrArg Bool.not (De c7737)) (sQ ?_)
       obtain ⟨c7761, H⟩ := iN H
       have h7762 := (rk (ro 5 Z) HS)
       obtain ⟨t7763, h7764, H⟩ := bI H
       obtain ⟨c7765, H⟩ := iN H
       refine G.lex mixed [1, 2, 5, 6, 7, 11, 0, 3, 4, 8, 9, 10, 12] (by kernel_rfl) ?_
       replace HS := HS.drew
       refine GX.ps 1 Z (qL Z Z (fun _ _ g => fL b7710 2 Uv Z g) Z (GX.ps 2 Z (qL Z Z (fun _ _ g => fL b7717 0 C9 Z g) Z (GX.ps 1 Z (GX.l1 Z Z Z (fun _ g => lW 6 HS Z Ep g) Z (GX.l1 Z Z Z (fun _ g => lB 1 HS Z na2 Z g) Z (GX.ps 1 Z (GX.l1 Z Z Z (fun _ g => lB 0 HS Z na2 Z g) Z (qL Z Z (fun _ _ g => iX Z U56 sz2 h7762 c7761 g) Z (GX.l1 Z Z Z (fun _ g => GO.Ce (T := (Ar .i64)) (n := e7715.Tet.toNat) (o := 0) HS (ro 5 Z) Z Z (getD_some (d := 0) (ltN c7761)) Z Z na2 Z g) Z (GX.l2 Z ?_)))))))))))
       replace HS := HS.pk 8 [7, 0, 1, 2, 3, 4, 5, 6] Z
       refine fJ kW Z (Hm.calls HS  h7764) (fun _ wd7766 ⟨h7767, HS⟩ => ⟨_, h7767, (GX.fin tv (GX.nil ?_))⟩)
       replace HS := HS.J4 (j := 7) (cs' := [sV A7268 t7763 c7269]) Z (by simp only [sV, List.length_set, c7765] <;> rfl)
       refine rN 3 Z (gW (u1 s1 (lR _) _ _ _ H (HS.pk 8 [3, 4, 5, 6, 7, 0] Z)) Z)
      refine nB Z (congrArg Bool.not c7737) (rN 2 Z ?_)
      obtain ⟨t7738, h7739, H⟩ := bI H
      obtain ⟨t7742, h7743, H⟩ := bI H
      obtain ⟨c7746, H⟩ := iN H
      obtain ⟨e7747, h7748, H⟩ := Dl H
      refine G.I8 mixed (by decide) (fun b a w => ∃ (b7749 : Nat) (h1 : Ck), RS 217 [(2, pT b1), (3, pT b3), (4, pT b5), (5, sV A2594 a1 c2595), (6, I c1), (8, pT b5200), (17, I x7642), (18, pT b7710), (19, pT b7717), (20, I t7721), (21, I t7729)] [rv 187 (.pointer (some ⟨b3, 2, none⟩)), rv 188 (sV A_d d1 c_d), rv 189 (.pointer (some ⟨b3, 2, none⟩)), rv 190 (sV A_d d1 c_d), rv 191 (pT b7717), rv 192 (I e7715.Tet), rv 193 (.pointer (some ⟨b7717, 1, none⟩)), rv 194 (I e7715.Perm), rv 195 (.pointer (some ⟨b7710, 1, none⟩)), rv 196 (I e7708.Bv), rv 197 (I t7738), rv 198 (I t7742), rv 199 (.pointer (some (ea A_d (t7742.toNat * 4)))), rv 200 (.agg [I e7747.tet, I e7747.Bv, I e7747.to, I e7747.perm].toArray), rv 22 (pT b7749), none] b a ∧ St w0 w (Box b7717 107 [I e7715.Tet, I e7715.Perm] :: Box b7710 122 [I e7708.tet, I e7708.Bv, I e7708.to, I e7708.perm] :: Box b1 31 [sV A_a e1 c_a] :: Box b3 65 [sV A_b f1 c_b, sV A_c g1 c_c, sV A_d d1 c_d] :: Box b5 31 [.slice none 0 0] :: Own (Ar .i64) 2 A2594 c2595 uu a1 :: Box b5200 31 [sV A7268 x7641 c7269] :: Own (Ty.slice 107 Ad) 77 A7268 c7269 y7271 x7641 :: h1 :: L) ∧ (b 14 = true → b 15 = false → h1 = Box b7749 122 [I 0, I 0, I 0, I 0]) ∧ (b 15 = true → h1 = Box b7749 122 [I e7747.tet, I e7747.Bv, I e7747.to, I e7747.perm])) ?_ ?_ ?_
      · exact fun a hs => ⟨0, Emp, hs.init Z, (HS.drew.emp.pk 9 [1, 2, 3, 4, 5, 6, 7, 8, 0] Z), fun h => Bool.noConfusion h, fun h => Bool.noConfusion h⟩
      ·
       intro j b a w hj
       refine exI fun b7749 => exI fun h1 => anI fun hs => fun hM q => ?_
       have HS := hM.1
       match j, hj with
       | 0, _ =>
        refine hs.at q [] [] (fL b3 2 Jo Z (hs.fin q Z fun _ hs => ⟨_, _, hs, hM⟩))
       | 1, _ =>
        refine hs.at q [0] [] (lB 3 HS Z Nw Z (hs.fin q Z fun _ hs => ⟨_, _, hs, hM⟩))
       | 2, _ =>
        refine hs.at q [] [] (fL b3 2 Jo Z (hs.fin q Z fun _ hs => ⟨_, _, hs, hM⟩))
       | 3, _ =>
        refine hs.at q [2] [] (lB 3 HS Z Nw Z (hs.fin q Z fun _ hs => ⟨_, _, hs, hM⟩))
       | 4, _ =>
        refine hs.at q [] [] (fL b7717 0 C9 Z (hs.fin q Z fun _ hs => ⟨_, _, hs, hM⟩))
       | 5, _ =>
        refine hs.at q [4] [] (lB 0 HS Z na2 Z (hs.fin q Z fun _ hs => ⟨_, _, hs, hM⟩))
       | 6, _ =>
        refine hs.at q [] [] (fL b7717 1 F4 Z (hs.fin q Z fun _ hs => ⟨_, _, hs, hM⟩))
       | 7, _ =>
        refine hs.at q [6] [] (lB 0 HS Z na2 Z (hs.fin q Z fun _ hs => ⟨_, _, hs, hM⟩))
       | 8, _ =>
        refine hs.at q [] [] (fL b7710 1 Qv Z (hs.fin q Z fun _ hs => ⟨_, _, hs, hM⟩))
       | 9, _ =>
        refine hs.at q [8] [] (lB 1 HS Z na2 Z (hs.fin q Z fun _ hs => ⟨_, _, hs, hM⟩))
       | 10, _ =>
        refine hs.at q [7, 9] [] (fJ Ip Z (Be.calls HS  h7739) (fun _ wd7740 ⟨h7741, HS⟩ => ⟨_, h7741, (hs.fin q Z fun _ hs => ⟨_, _, hs, HS, hM.2⟩)⟩))
       | 11, _ =>
        refine hs.at q [3, 5, 10] [] (fJ qQ Z (E8.calls HS (rD 9 r_d) h7743) (fun _ wd7744 ⟨h7745, HS⟩ => ⟨_, h7745, (hs.fin q Z fun _ hs => ⟨_, _, hs, HS, hM.2⟩)⟩))
       | 12, _ =>
        refine hs.at q [1, 11] [] (iX Z U63 Vz (rk (rD 9 r_d) HS) c7746 (hs.fin q Z fun _ hs => ⟨_, _, hs, hM⟩))
       | 13, _ =>
        refine hs.at q [12] [] (GO.Hf (T := Bu) (n := t7742.toNat) HS (rD 9 r_d) Z Z (Cs (ltN c7746) h7748) Yt Z (hs.fin q Z fun _ hs => ⟨_, _, hs, hM⟩))
       | 14, _ =>
        refine (anI fun HS => anI fun q1 => fun t1 => ?_) hM
        refine hs.at q [] [] (GO.alloc HS Z lN Z Z fun b7749 wd7750 HS => hs.Kh q [14] (fun _ hs => ⟨b7749, Box b7749 122 [I 0, I 0, I 0, I 0], hs, HS.pk 10 [1, 2, 3, 4, 5, 6, 7, 8, 0] Z, fun _ _ => Z, fun hh => (q.no 15 hh).elim⟩) Z Z)
       | 15, _ =>
        refine (anI fun HS => anI fun q1 => fun t1 => ?_) hM
        have hb14 := q.on 14
        obtain rfl := q1 hb14 q.hb
        refine hs.at q [14, 13] [] (sW 8 HS Z Yt Z fun wd7751 HS => hs.Qm q Z fun _ hs => ⟨b7749, Box b7749 122 [I e7747.tet, I e7747.Bv, I e7747.to, I e7747.perm], hs, HS, fun _ h => Bool.noConfusion h, fun _ => Z⟩)
       | k + 16, hj => exact absurd hj (Nat.not_lt.2 (Nat.le_add_left 16 k))
      ·
       intro b a w hall
       refine exI fun b7749 => exI fun h1 => anI fun hs => anI fun HS => anI fun q1 => fun t1 => ?_
       obtain rfl := t1 (hall 15 (by decide))
       refine G.at (hs.all hall) ?_
       obtain ⟨t7752, h7753, H⟩ := bI H
       obtain ⟨t7756, h7757, H⟩ := bI H
       obtain ⟨c7758, H⟩ := iN H
       refine G.Gy mixed (fun w => St w0 w (Box b7710 122 [I e7708.tet, I e7708.Bv, I e7708.to, I e7708.perm] :: Box b5200 31 [sV A7268 x7641 c7269] :: Box b7749 122 [I e7747.tet, I e7747.Bv, I e7747.to, I e7747.perm] :: L)) [0, 3, 8, 12] [1, 2, 5, 6, 7, 10, 11, 0, 3, 4, 8, 9, 12, 13, 14] [] (by kernel_rfl) (by kernel_rfl) (HS.drew.pk 9 [1, 6, 8] Z) ?_
       replace HS := HS.drew
       refine GX.ps 1 Z (qL Z Z (fun _ _ g => fL b7710 2 Uv Z g) Z (GX.ps 2 Z (qL Z Z (fun _ _ g => fL b7749 2 Uv Z g) Z (GX.ps 1 Z (qL Z Z (fun _ _ g => fL b7749 3 Vk Z g) Z (GX.ls Z Z Z (HS.pk 9 [1, 6, 8] Z) (fun _ HS _ g => lW 1 HS Z Ep g) Z (GX.ls Z Z Z (HS.pk 9 [1, 6, 8] Z) (fun _ HS _ g => lB 0 HS Z na2 Z g) Z (GX.ps 1 Z (GX.ls Z Z Z (HS.pk 9 [1, 6, 8] Z) (fun _ HS _ g => lB 2 HS Z na2 Z g) Z (GX.ps 1 Z (GX.ls Z Z Z (HS.pk 9 [1, 6, 8] Z) (fun _ HS _ g => lB 2 HS Z na2 Z g) Z (GX.l2 Z (fJ Xg Z (F6.calls HS  h7753) (fun _ wd7754 ⟨h7755, HS⟩ => ⟨_, h7755, (GX.fin (HS.pk 9 [1, 6, 8] Z) ?_)⟩))))))))))))))
       refine GX.l2 Z ?_
       replace HS := HS.pk 9 [7, 0, 1, 2, 3, 4, 5, 6, 8] Z
       refine fJ kW Z (Hm.calls HS  h7757) (fun _ wd7759 ⟨h7760, HS⟩ => ⟨_, h7760, (GX.fin (HS.pk 9 [2, 7, 8] Z) (GX.nil ?_))⟩)
       replace HS := HS.J4 (j := 7) (cs' := [sV A7268 t7756 c7269]) Z (by simp only [sV, List.length_set, c7758] <;> rfl)
       refine rN 3 Z (gW (u1 s1 (lR _) _ _ _ H (HS.pk 9 [3, 4, 5, 6, 7, 0] Z)) Z)
     exact gW (x2 n1 (lR _) _ _ _ H HS) Z
    exact gW (k2 i1 (lR _) _ _ _ _ _ _ H HS) Z
   replace HS := HS.Da (Ty.slice 107 Ad) 77 (fun _ => ⟨none, 0, uu⟩)
   exact gW (r2 m1 (lR _) _ _ _ _ _ _ H (HS.pk 6 [2, 3, 4, 5, 1, 0] Z)) Z
  exact gW (f2 K (lR _) _ _ _ _ _ _ H (HS.pk 4 [3, 2, 1, 0] Z)) Z
theorem Ho.calls {a1 : List (List Ab)} {e1 d1 c1 : Int} {y_a : Nat → (Ty.slice 107 Ad).Lay} {r1 : List (List Ab)} {r2 : Int} (HS : St w0 w (L)) (r_a : Ca w0 L (Ty.slice 107 Ad) A_a c_a y_a a1) (H : Ho.f K a1 e1 d1 c1 = some (r1, r2)) :
    Calls prog 25 #[.agg [sV A_a a1 c_a].toArray, .agg [I e1, I d1, I c1].toArray] w (Ho.post w0 L r1 r2) := by
  unfold Ho.f at H
  refine cG func25 Z ?_
  refine sQ (rG (bA HS Z fun b1 wd2 HS => bA HS Z fun b3 wd4 HS => GO.alloc HS Z Nv Z Z fun b5 wd6 HS => aS Z (nL (sQ ?_))))
  obtain ⟨t7, t8, t9, t10, h11, H⟩ := D9 H
  refine rG (lW 2 HS Z Ep (lW 1 HS Z Yo (fJ tC Z (Hg.calls HS (rD 3 r_a) h11) (fun _ wd19 ⟨A12, c13, A14, c15, y16, A17, c18, h20, HS⟩ => ⟨_, h20, (pS 3 Z (GO.alloc HS Z Qn Z Z fun b21 wd22 HS => sW 0 HS Z Gj Z fun wd23 HS => aS Z (nL (rN 3 Z ?_))))⟩))))
  rcases iS H with ⟨c24, H⟩ | ⟨c24, H⟩
  ·
   refine yB Z (nF c24) (sQ (rG (GO.Df (.agg [.slice none 0 0].toArray) Z Z (fun _ => by kernel_rfl) Z (mV Z (sW 4 HS Z Ep Z fun wd33 HS => aS Z (nL ?_))))))
   replace HS := HS.Da (Ty.slice 107 Ad) 77 (fun _ => ⟨none, 0, uu⟩)
   obtain ⟨rfl, rfl⟩ := G5 H
   exact G.Gq _ _ func25 Z (Gc.Gv (j := 5) (vs := [.slice none 0 0]) HS Z Z Z Ep) Z ⟨_, _, _, Z, (HS.pk 8 [0] Z)⟩
  refine nB Z (nT c24) (rN 2 Z ?_)
  obtain ⟨t25, h26, H⟩ := bI H
  refine rG (lW 6 HS Z Ep (lW 0 HS Z Gj (fJ uB Z (Ao.calls HS (rD 7 r_a) (ro 1 Z) (ro 2 Z) (ro 3 Z) h26) (fun _ wd30 ⟨A27, c28, y29, h31, HS⟩ => ⟨_, h31, (sW 5 HS Z Ep Z fun wd32 HS => aS Z (nL ?_))⟩))))
  obtain ⟨rfl, rfl⟩ := G5 H
  exact G.Gq _ _ func25 Z (Gc.Gv (j := 5) (vs := [sV A27 t25 c28]) HS Z Z Z Ep) Z ⟨_, _, _, Z, (HS.pk 8 [0] Z)⟩
theorem Es.calls {faces : List Ab} {r1 : Bool} (HS : St w0 w (L)) (r_a : Ca w0 L Ad A_a c_a uu faces) (H : Es.f faces = some r1) :
    Calls prog 68 #[sV A_a faces c_a] w (Es.post w0 L r1) := by
  unfold Es.f at H
  refine cG func68 Z ?_
  refine rN 3 Z (rG (mV Z (lS Z Z U77 Z (pS 2 Z (nL ?_)))))
  obtain rfl := sI H
  exact rT _ func68 Z Z ⟨Z, HS⟩
theorem Aq.calls {s : List (List Ab)} {y_a : Nat → (Ty.slice 107 Ad).Lay} {r1 : Int} (HS : St w0 w (L)) (r_a : Ca w0 L (Ty.slice 107 Ad) A_a c_a y_a s) (H : Aq.f K s = some r1) :
    Calls prog 108 #[sV A_a s c_a, .func (.func 68) #[] #[]] w (Aq.post w0 L r1) := by
  unfold Aq.f at H
  refine cG func108 Z ?_
  refine rN 4 Z (rG (mV Z (lS Z Z U29 Z (mV Z (nL (rN 2 Z ?_))))))
  refine G.name (fun c1 b1 => ?_)
  have d1 : ∀ a1, a1 ≤ K → ∀ (x8 : Int) (w : World), Aq.l1 K a1 s x8 = some r1 → St w0 w (L) → G prog 108 19 [(0, sV A_a s c_a), (1, .func (.func 68) #[] #[]), (7, I (s.length : Int)), (8, I x8)] c1 w (Aq.post w0 L r1) := by
   refine lp (fun _ w H _ => by rw [Aq.l1] at H; cases H) fun e1 g1 f1 x8 w H HS => ?_
   rw [Aq.l1] at H
   subst b1
   refine rN 3 Z ?_
   rcases iS H with ⟨c16, H⟩ | ⟨c16, H⟩
   ·
    refine nB Z (tF c16) (rN 3 Z ?_)
    obtain rfl := sI H
    exact rT _ func108 Z Z ⟨Z, HS⟩
   refine yB Z (tT c16) (rN 6 Z ?_)
   obtain ⟨c17, H⟩ := iN H
   obtain ⟨t18, h19, H⟩ := bI H
   refine rG (pS 3 Z (iX Z U29 Ie (rk r_a HS) c17 (GO.Ce (T := (Ty.slice 107 Ad)) (n := x8.toNat) (o := 0) HS r_a Z Z (getD_some (d := []) (ltN c17)) Z Z Ii Z (GO.clo Z Z func68 kK.2.1 kK.2.2 Z Z (Es.calls HS (Ca.elem r_a c17.1 c17.2) h19) (fun _ wd20 ⟨h21, HS⟩ => ⟨_, h21, (nL ?_)⟩)))))
   rcases iE H with ⟨c22, H⟩ | ⟨c22, H⟩
   ·
    refine yB Z c22 (rN 2 Z ?_)
    obtain rfl := sI H
    exact rT _ func108 Z Z ⟨Z, HS⟩
   refine nB Z (De c22) (rN 4 Z (gW (f1 e1 (lR _) _ _ H HS) Z))
  exact gW (d1 K (lR _) _ _ H HS) Z
theorem Br.calls {s : List (List Ab)} {y_a : Nat → (Ty.slice 107 Ad).Lay} {r1 : Bool} (HS : St w0 w (L)) (r_a : Ca w0 L (Ty.slice 107 Ad) A_a c_a y_a s) (H : Br.f K s = some r1) :
    Calls prog 67 #[sV A_a s c_a, .func (.func 68) #[] #[]] w (Br.post w0 L r1) := by
  unfold Br.f at H
  refine cG func67 Z ?_
  refine rN 3 Z ?_
  obtain ⟨t1, h2, H⟩ := bI H
  refine rG (pS 2 Z (fJ oV Z (Aq.calls HS r_a h2) (fun _ wd3 ⟨h4, HS⟩ => ⟨_, h4, (pS 2 Z (nL ?_))⟩)))
  obtain rfl := sI H
  exact rT _ func67 Z Z ⟨Z, HS⟩
theorem Bz.calls {list : List (List Ab)} {y_a : Nat → (Ty.slice 107 Ad).Lay} {r1 : Int} (HS : St w0 w (L)) (r_a : Ca w0 L (Ty.slice 107 Ad) A_a c_a y_a list) (H : Bz.f list = some r1) :
    Calls prog 49 #[sV A_a list c_a] w (Bz.post w0 L r1) := by
  unfold Bz.f at H
  refine cG func49 Z ?_
  refine rN 3 Z (rG (mV Z (lS Z Z U29 Z (aS Z (nL ?_)))))
  obtain rfl := sI H
  exact rT _ func49 Z Z ⟨Z, HS⟩
theorem Gi.calls {x low high : Int} {r1 : Bool} (HS : St w0 w (L)) (H : Gi.f x low high = some r1) :
    Calls prog 71 #[I x, I low, I high] w (Gi.post w0 L r1) := by
  unfold Gi.f at H
  refine cG func71 Z ?_
  refine rN 3 Z ?_
  rcases iS H with ⟨c1, H⟩ | ⟨c1, H⟩
  ·
   refine rG (pS 4 Z (kN 10 Z (tF c1) (oF Z (oF Z (oF Z (pS 2 Z (nL ?_)))))))
   obtain rfl := sI H
   exact rT _ func71 Z Z ⟨Z, HS⟩
  refine rG (pS 4 Z (kN 10 Z (tT c1) (oN Z (mV Z (bK (oN Z (mV Z (bK (oN Z (GO.leq Z Z Z Z (bK (pS 2 Z (nL ?_)))))))))))))
  obtain rfl := sI H
  exact rT _ func71 Z Z ⟨Z, HS⟩
theorem Db.calls {list : List (List Ab)} {i : Int} {y_a : Nat → (Ty.slice 107 Ad).Lay} {r1 : Bool} (HS : St w0 w (L)) (r_a : Ca w0 L (Ty.slice 107 Ad) A_a c_a y_a list) (H : Db.f list i = some r1) :
    Calls prog 70 #[sV A_a list c_a, I i] w (Db.post w0 L r1) := by
  unfold Db.f at H
  refine cG func70 Z ?_
  refine rN 3 Z ?_
  obtain ⟨t1, h2, H⟩ := bI H
  obtain ⟨t5, h6, H⟩ := bI H
  refine rG (pS 2 Z (fJ Qd Z (Bz.calls HS r_a h2) (fun _ wd3 ⟨h4, HS⟩ => ⟨_, h4, (GO.sub Z Z Z Z (fJ eZ Z (Gi.calls HS  h6) (fun _ wd7 ⟨h8, HS⟩ => ⟨_, h8, (aS Z (nL ?_))⟩)))⟩)))
  obtain rfl := sI H
  exact rT _ func70 Z Z ⟨Z, HS⟩
theorem H7.calls {p : Int} {r1 : Bool} (HS : St w0 w (L)) (H : H7.f p = some r1) :
    Calls prog 109 #[I p] w (H7.post w0 L r1) := by
  unfold H7.f at H
  refine cG func109 Z ?_
  refine rN 3 Z ?_
  obtain ⟨t1, h2, H⟩ := bI H
  refine rG (mV Z (fJ eZ Z (Gi.calls HS  h2) (fun _ wd3 ⟨h4, HS⟩ => ⟨_, h4, (aS Z (nL ?_))⟩)))
  obtain rfl := sI H
  exact rT _ func109 Z Z ⟨Z, HS⟩
theorem Fs.calls {s : List Int} {i j_ : Int} {r1 : List Int} (HS : St w0 w (Own (Ar .i64) 2 A_a c_a uu s :: L)) (H : Fs.f s i j_ = some r1) :
    Calls prog 129 #[sV A_a s c_a, I i, I j_] w (Fs.post w0 L r1) := by
  unfold Fs.f at H
  refine cG func129 Z ?_
  refine rN 3 Z ?_
  obtain ⟨c1, H⟩ := iN H
  obtain ⟨c2, H⟩ := iN H
  refine rG (pS 4 Z (lS Z Z U56 Z (GO.slM Z Z Z Z Z U56 sz2 c1 c2 (Int.ofNat_le.2 ((ro 0 Z) _ HS).1) Z (nL (rN 3 Z ?_)))))
  rcases iE H with ⟨c3, H⟩ | ⟨c3, H⟩
  ·
   refine yB Z (tT c3) (rN 2 Z ?_)
   obtain rfl := sI H
   exact rT _ func129 Z Z ⟨_, _, Z, HS⟩
  refine nB Z (tF c3) (rN 2 Z (rG (mV Z (lS Z Z U56 Z (aS Z (nL (sQ ?_)))))))
  obtain ⟨c4, H⟩ := iN H
  obtain ⟨c5, H⟩ := iN H
  obtain ⟨c7, H⟩ := iN H
  have h8 := aB c7 (leN c5)
  refine G.lex mixed [0, 1, 3, 4, 2, 5, 6, 7] (by kernel_rfl) ?_
  replace HS := HS.drew
  refine GX.ps 4 Z (GX.l1 Z Z Z (fun _ g => GO.slH (T := (Ar .i64)) HS (ro 0 Z) Z Z Z U56 sz2 c4.1 c4.2 Z g) Z (GX.l1 Z Z Z (fun _ g => GO.slL (T := (Ar .i64)) HS (ro 0 Z) Z Z Z U56 sz2 c5.1 c5.2 Z g) Z (GX.l2 Z (GO.mR (T := (Ar .i64)) (j := 0) (i1 := i.toNat) (l1 := j_.toNat) HS Z Au (fun _ _ => Z) Z Z Z (by rw [List.drop_zero, List.length_take]; exact Nat.min_eq_left (leN c4)) (by rw [List.length_drop, List.take_length]) U56 K5 c7 (leN c5) Z fun wd6 HS => GX.fin tv (GX.ps 1 Z (GX.nil (sQ ?_)))))))
  obtain ⟨c9, H⟩ := iN H
  obtain ⟨c10, H⟩ := iN H
  have h12 := T9 (xs := (over s i.toNat (s.drop j_.toNat))) (z := 0) (Z4 (rP c9) (leN c10))
  refine rG (pS 2 Z (lS Z Z U56 Z (mV Z (GO.uF (T := (Ar .i64)) (xs := (over s i.toNat (s.drop j_.toNat))) ((ro 0 Z) _ HS).1 Z Z Z Z U56 sz2 c9 c10 Z (GO.bC (T := (Ar .i64)) (j := 0) (l := ((((over s i.toNat (s.drop j_.toNat)).take (i.toNat + (s.length - j_.toNat))).drop 0).length : Int).toNat) 0 () HS Z Au Z Z U56 zr2 Z Z (oW (leN c10) ((ro 0 Z) _ HS).1) (Z4 (rP c9) (leN c10)) (fun _ => Z) fun wd11 HS => nL ?_)))))
  obtain ⟨c13, H⟩ := iN H
  refine G.len (t := 0) (m := (((over (over s i.toNat (s.drop j_.toNat)) (((((over s i.toNat (s.drop j_.toNat)).take (i.toNat + (s.length - j_.toNat))).drop 0).length : Int).toNat) (List.replicate (((over s i.toNat (s.drop j_.toNat)).take ((s.length : Int).toNat)).drop (((((over s i.toNat (s.drop j_.toNat)).take (i.toNat + (s.length - j_.toNat))).drop 0).length : Int).toNat)).length 0)).take (i.toNat + (s.length - j_.toNat))).drop 0).length) Z (pO h12) (rN 2 Z ?_)
  replace HS := HS.aM (A' := (Jg A_a 0 c_a 1)) (c' := (c_a - 0)) (j := 0) (l := 0) (h := (i.toNat + (s.length - j_.toNat))) (m := c_a) Z (Nat.zero_le _) c13 (Nat.le_trans c13 ((ro 0 Z) _ HS).1) (lR _) Z Z
  obtain rfl := sI H
  exact rT _ func129 Z Z ⟨_, _, Z, HS⟩
theorem Ct.calls {p r1 : Int} {r2 r3 r4 : Int} (HS : St w0 w (L)) (H : Ct.f K p = some (r1, r2, r3, r4)) :
    Calls prog 93 #[I p] w (Ct.post w0 L r1 r2 r3 r4) := by
  unfold Ct.f at H
  refine cG func93 Z ?_
  refine sQ (rG (GO.alloc HS Z J8 Z Z fun b1 wd2 HS => nL (sQ (rG (GO.alloc HS Z J8 Z Z fun b3 wd4 HS => nL (sQ (rG (GO.Cr (el := 2) ([I 0, I 1, I 2, I 3]) HS Z Z (fun _ => by kernel_rfl) Z fun b5 wd6 HS => ?_))))))))
  replace HS := HS.Ey (T := (Ar .i64)) (j := 0) Z Au uu ([0, 1, 2, 3] : List Int) Z (Hq Z)
  refine GO.Gw (t := 8) (m := ([0, 1, 2, 3] : List Int).length) (c' := ([0, 1, 2, 3] : List Int).length) Z Z Z (aS Z (nL (rN 2 Z (rG (GO.Cr (el := 2) ([I 6, I 2, I 1, I 1]) HS Z Z (fun _ => by kernel_rfl) Z fun b7 wd8 HS => lS Z Z U56 Z (mV Z (nL (rN 2 Z ?_))))))))
  replace HS := HS.Ey (T := (Ar .i64)) (j := 0) Z Au uu ([6, 2, 1, 1] : List Int) Z (Hq Z)
  refine G.Gw (t := 9) (m := ([6, 2, 1, 1] : List Int).length) (c' := ([6, 2, 1, 1] : List Int).length) Z Z Z ?_
  refine G.name (fun k1 i1 => ?_)
  have m1 : ∀ h1, h1 ≤ K → ∀ (c1 g1 : Int) (A21 : Option Addr) (c22 : Nat) (a1 : List Int) (x24 d1 : Int) (f1 e1 : Int) (w : World), Ct.l1 K h1 c1 g1 a1 x24 d1 f1 e1 = some (r1, r2, r3, r4) → St w0 w (Box b1 131 [I 0, I 0, I 0, I 0] :: Box b3 131 [I g1, I d1, I f1, I e1] :: Own (Ar .i64) 2 A21 c22 uu a1 :: Own (Ar .i64) 2 (sb b7) (([6, 2, 1, 1] : List Int).length) uu ([6, 2, 1, 1] : List Int) :: L) → G prog 93 35 [(0, I c1), (2, pT b1), (3, pT b3), (4, sV A21 a1 c22), (9, sV (sb b7) ([6, 2, 1, 1] : List Int) (([6, 2, 1, 1] : List Int).length)), (10, I 4), (11, I x24)] k1 w (Ct.post w0 L r1 r2 r3 r4) := by
   refine lp (fun _ _ _ _ _ _ _ _ _ w H _ => by rw [Ct.l1] at H; cases H) fun n1 p1 o1 c1 g1 A21 c22 a1 x24 d1 f1 e1 w H HS => ?_
   rw [Ct.l1] at H
   subst i1
   refine rN 3 Z ?_
   rcases iS H with ⟨c54, H⟩ | ⟨c54, H⟩
   ·
    refine nB Z (tF c54) (rN 2 Z (rG (lW 1 HS Z Jj (sW 0 HS Z Jj Z fun wd66 HS => nL ?_))))
    obtain ⟨rfl, rfl, rfl, rfl⟩ := H8 H
    exact rT _ func93 Z (Gc.Gv (j := 0) (vs := [I g1, I d1, I f1, I e1]) HS Z Z Z Jj) ⟨Z, (HS.pk 4 [] Z)⟩
   refine yB Z (tT c54) (rN 4 Z ?_)
   obtain ⟨c55, H⟩ := iN H
   refine rG (mV Z (iX Z U56 sz2 (fun _ => ⟨_, _, Z⟩) c55 (GO.Ce (T := (Ar .i64)) (n := x24.toNat) (o := 0) HS (ro 3 Z) Z Z (getD_some (d := 0) (ltN c55)) Z Z na2 Z (pS 2 Z (nL (sQ ?_))))))
   obtain ⟨c56, H⟩ := O5 H
   refine rG (pS 2 Z (GO.quo Z Z Z c56 Z (aS Z (nL (sQ (rG (pS 2 Z (GO.rem Z Z Z c56 Z (aS Z (nL (sQ ?_)))))))))))
   obtain ⟨c57, H⟩ := iN H
   obtain ⟨c58, H⟩ := iN H
   refine rG (pS 3 Z (iX Z U56 sz2 (rk (ro 2 Z) HS) c57 (GO.Ce (T := (Ar .i64)) (n := (w64 (c1.tdiv (([6, 2, 1, 1] : List Int).getD x24.toNat 0))).toNat) (o := 0) HS (ro 2 Z) Z Z (getD_some (d := 0) (ltN c57)) Z Z na2 Z (GO.ixW Z Z Z Gg sz2 c58 Z (GO.stW (j := 1) (o := 0) (sz := 1) (vs := [I (a1.getD ((w64 (c1.tdiv (([6, 2, 1, 1] : List Int).getD x24.toNat 0))).toNat) 0)]) (fun u_ => [I (se 0 u_ (a1.getD ((w64 (c1.tdiv (([6, 2, 1, 1] : List Int).getD x24.toNat 0))).toNat) 0) g1), I (se 1 u_ (a1.getD ((w64 (c1.tdiv (([6, 2, 1, 1] : List Int).getD x24.toNat 0))).toNat) 0) d1), I (se 2 u_ (a1.getD ((w64 (c1.tdiv (([6, 2, 1, 1] : List Int).getD x24.toNat 0))).toNat) 0) f1), I (se 3 u_ (a1.getD ((w64 (c1.tdiv (([6, 2, 1, 1] : List Int).getD x24.toNat 0))).toNat) 0) e1)]) HS Z Z Z Z Z c58 (htN na2 Z) Z Z (four Z Z Z Z) fun wd59 HS => nL ?_)))))
   obtain ⟨t60, h61, H⟩ := bI H
   refine rG (pS 4 Z ?_)
   replace HS := HS.pk 4 [2, 0, 1, 3] Z
   refine fJ oG Z (Fs.calls HS  h61) (fun _ wd64 ⟨A62, c63, h65, HS⟩ => ⟨_, h65, (aS Z (nL (rN 3 Z (gW (o1 n1 (lR _) _ _ _ _ _ _ _ _ _ _ H (HS.pk 4 [1, 2, 0, 3] Z)) Z))))⟩)
  exact gW (m1 K (lR _) _ _ _ _ _ _ _ _ _ _ H (HS.pk 4 [3, 2, 1, 0] Z)) Z
theorem Ez.calls {a1 c1 : Int} {Bv r1 : Int} (HS : St w0 w (L)) (H : Ez.f K a1 c1 Bv = some r1) :
    Calls prog 92 #[.agg [I a1, I c1].toArray, I Bv] w (Ez.post w0 L r1) := by
  unfold Ez.f at H
  refine cG func92 Z ?_
  refine sQ (rG (bA HS Z fun b1 wd2 HS => aS Z (nL (sQ ?_))))
  obtain ⟨t3, t4, t5, t6, h7, H⟩ := D9 H
  obtain ⟨c10, H⟩ := iN H
  refine rG (fL b1 1 F4 Z (lB 0 HS Z na2 Z (fJ Km Z (Ct.calls HS  h7) (fun _ wd8 ⟨h9, HS⟩ => ⟨_, h9, (mV Z (GO.Tn ([t3, t4, t5, t6] : List Int) Z Z Z Gg U2 sz2 Z c10.1 c10.2 Z (aS Z (nL ?_))))⟩))))
  obtain rfl := sI H
  exact rT _ func92 Z Z ⟨Z, (HS.pk 1 [] Z)⟩
theorem Cf.calls {d1 c1 : Int} {e1 a1 r1 : Int} (HS : St w0 w (L)) (H : Cf.f K d1 c1 e1 a1 = some r1) :
    Calls prog 130 #[.agg [I d1, I c1, I e1, I a1].toArray] w (Cf.post w0 L r1) := by
  unfold Cf.f at H
  refine cG func130 Z ?_
  refine sQ (rG (bA HS Z fun b1 wd2 HS => aS Z (nL (rN 4 Z (rG (GO.Cr (el := 2) ([I 6, I 2, I 1, I 1]) HS Z Z (fun _ => by kernel_rfl) Z fun b3 wd4 HS => lS Z Z U56 Z (mV Z (nL (rN 2 Z ?_)))))))))
  replace HS := HS.Ey (T := (Ar .i64)) (j := 0) Z Au uu ([6, 2, 1, 1] : List Int) Z (Hq Z)
  refine G.Gw (t := 9) (m := ([6, 2, 1, 1] : List Int).length) (c' := ([6, 2, 1, 1] : List Int).length) Z Z Z ?_
  refine G.name (fun v1 s1 => ?_)
  have o1 : ∀ i1, i1 ≤ K → ∀ (f1 x19 : Int) (w : World), Cf.l1 K i1 d1 c1 e1 a1 f1 x19 = some r1 → St w0 w (Box b1 131 [I d1, I c1, I e1, I a1] :: Own (Ar .i64) 2 (sb b3) (([6, 2, 1, 1] : List Int).length) uu ([6, 2, 1, 1] : List Int) :: L) → G prog 130 41 [(1, pT b1), (3, I f1), (9, sV (sb b3) ([6, 2, 1, 1] : List Int) (([6, 2, 1, 1] : List Int).length)), (10, I 4), (11, I x19)] v1 w (Cf.post w0 L r1) := by
   refine lp (fun _ _ w H _ => by rw [Cf.l1] at H; cases H) fun k1 y1 x1 f1 x19 w H HS => ?_
   rw [Cf.l1] at H
   subst s1
   refine rN 3 Z ?_
   rcases iS H with ⟨c35, H⟩ | ⟨c35, H⟩
   ·
    refine nB Z (tF c35) (rN 3 Z ?_)
    obtain rfl := sI H
    exact rT _ func130 Z Z ⟨Z, (HS.pk 2 [] Z)⟩
   refine yB Z (tT c35) (rN 4 Z ?_)
   obtain ⟨c36, H⟩ := iN H
   refine rG (mV Z (iX Z U56 sz2 (fun _ => ⟨_, _, Z⟩) c36 (GO.Ce (T := (Ar .i64)) (n := x19.toNat) (o := 0) HS (ro 1 Z) Z Z (getD_some (d := 0) (ltN c36)) Z Z na2 Z (pS 2 Z (nL (sQ ?_))))))
   obtain ⟨c37, H⟩ := iN H
   refine rG (mV Z (GO.ixW Z Z Z Gg sz2 c37 Z (GO.ldW (j := 0) ([d1, c1, e1, a1] : List Int) HS Z Z Z c37 Z Z na2 Z (aS Z (nL (rN 2 Z ?_))))))
   obtain ⟨c38, H⟩ := iN H
   refine rG (mV Z (GO.nJ (m := (([d1, c1, e1, a1] : List Int).take x19.toNat).length) Z Z Z Gg sz2 c38 (jJ (leN c38)) Z (lS Z Z U56 Z (mV Z (nL (rN 2 Z ?_))))))
   refine G.name (fun u1 p1 => ?_)
   have t1 : ∀ n1, n1 ≤ k1 → ∀ (h1 x43 : Int) (w : World), Cf.l4 K n1 d1 c1 e1 a1 f1 x19 h1 x43 = some r1 → St w0 w (Box b1 131 [I d1, I c1, I e1, I a1] :: Own (Ar .i64) 2 (sb b3) (([6, 2, 1, 1] : List Int).length) uu ([6, 2, 1, 1] : List Int) :: L) → G prog 130 41 [(1, pT b1), (3, I f1), (4, I x19), (5, I (([6, 2, 1, 1] : List Int).getD x19.toNat 0)), (6, I h1), (9, sV (sb b3) ([6, 2, 1, 1] : List Int) (([6, 2, 1, 1] : List Int).length)), (10, I 4), (11, I x19), (20, sV (sb b1) (([d1, c1, e1, a1] : List Int).take x19.toNat) 4), (21, I ((([d1, c1, e1, a1] : List Int).take x19.toNat).length : Int)), (22, I x43)] u1 w (Cf.post w0 L r1) := by
    refine lp (fun _ _ w H _ => by rw [Cf.l4] at H; cases H) fun g1 q1 m1 h1 x43 w H HS => ?_
    rw [Cf.l4] at H
    subst p1
    refine rN 3 Z ?_
    rcases iS H with ⟨c47, H⟩ | ⟨c47, H⟩
    ·
     refine nB Z (tF c47) (rN 5 Z (gW (x1 g1 (Nat.le_of_succ_le q1) _ _ _ H HS) Z))
    refine yB Z (tT c47) (rN 4 Z ?_)
    obtain ⟨c48, H⟩ := iN H
    refine rG (iX Z U56 sz2 (fun _ => ⟨_, _, Z⟩) c48 (GO.Ce (T := (Ar .i64)) (n := x43.toNat) (o := 0) HS (Ca.take (Ca.box (j := 0) uu ([d1, c1, e1, a1] : List Int) Z Z Z Z (fun _ _ _ _ _ => tv)) (leN c38)) Z Z (getD_some (d := 0) (ltN c48)) Z Z na2 Z (aS Z (nL (sQ (rG (pS 2 Z (GO.ixW Z Z Z Gg sz2 c37 Z (GO.ldW (j := 0) ([d1, c1, e1, a1] : List Int) HS Z Z Z c37 Z Z na2 Z (GO.lss Z Z Z Z (nL ?_)))))))))))
    rcases iS H with ⟨c49, H⟩ | ⟨c49, H⟩
    ·
     refine nB Z (tF c49) (rN 4 Z (gW (m1 g1 (lR _) _ _ _ H HS) Z))
    refine yB Z (tT c49) (rN 4 Z (gW (m1 g1 (lR _) _ _ _ H HS) Z))
   exact gW (t1 k1 (lR _) _ _ _ H HS) Z
  exact gW (o1 K (lR _) _ _ _ H (HS.pk 2 [1, 0] Z)) Z
theorem Ed.calls {p r1 : Int} (HS : St w0 w (L)) (H : Ed.f K p = some r1) :
    Calls prog 95 #[I p] w (Ed.post w0 L r1) := by
  unfold Ed.f at H
  refine cG func95 Z ?_
  refine rN 3 Z (rG (GO.alloc HS Z J8 Z Z fun b1 wd2 HS => nL (rN 2 Z ?_)))
  obtain ⟨t3, t4, t5, t6, h7, H⟩ := D9 H
  refine rG (mV Z (fJ Km Z (Ct.calls HS  h7) (fun _ wd8 ⟨h9, HS⟩ => ⟨_, h9, (mV Z (nL (rN 2 Z ?_)))⟩)))
  refine G.name (fun h1 g1 => ?_)
  have i1 : ∀ f1, f1 ≤ K → ∀ (d1 e1 : Int) (a1 c1 x16 : Int) (w : World), Ed.l1 K f1 t3 t4 t5 t6 d1 e1 a1 c1 x16 = some r1 → St w0 w (Box b1 131 [I d1, I e1, I a1, I c1] :: L) → G prog 95 18 [(3, pT b1), (7, .agg [I t3, I t4, I t5, I t6].toArray), (8, I x16)] h1 w (Ed.post w0 L r1) := by
   refine lp (fun _ _ _ _ _ w H _ => by rw [Ed.l1] at H; cases H) fun k1 n1 m1 d1 e1 a1 c1 x16 w H HS => ?_
   rw [Ed.l1] at H
   subst g1
   refine rN 3 Z ?_
   rcases iS H with ⟨c25, H⟩ | ⟨c25, H⟩
   ·
    refine nB Z (tF c25) (rN 2 Z ?_)
    obtain ⟨t29, h30, H⟩ := bI H
    refine rG (lW 0 HS Z Jj (fJ Ps Z (Cf.calls HS  h30) (fun _ wd31 ⟨h32, HS⟩ => ⟨_, h32, (aS Z (nL ?_))⟩)))
    obtain rfl := sI H
    exact rT _ func95 Z Z ⟨Z, (HS.pk 1 [] Z)⟩
   refine yB Z (tT c25) (rN 4 Z ?_)
   obtain ⟨c26, H⟩ := iN H
   refine rG (mV Z (GO.Tn ([t3, t4, t5, t6] : List Int) Z Z Z Gg U2 sz2 Z c26.1 c26.2 Z (pS 2 Z (nL ?_))))
   obtain ⟨c27, H⟩ := iN H
   refine rG (pS 2 Z (GO.ixW Z Z Z Gg sz2 c27 Z (GO.stW (j := 0) (o := 0) (sz := 1) (vs := [I x16]) (fun u_ => [I (se 0 u_ x16 d1), I (se 1 u_ x16 e1), I (se 2 u_ x16 a1), I (se 3 u_ x16 c1)]) HS Z Z Z Z Z c27 (htN na2 Z) Z Z (four Z Z Z Z) fun wd28 HS => nL (rN 3 Z (gW (m1 k1 (lR _) _ _ _ _ _ _ H HS) Z)))))
  exact gW (i1 K (lR _) _ _ _ _ _ _ H HS) Z
theorem E5.calls {a1 c1 : Int} {tet r1 r2 : Int} (HS : St w0 w (L)) (H : E5.f K a1 c1 tet = some (r1, r2)) :
    Calls prog 110 #[.agg [I a1, I c1].toArray, I tet] w (E5.post w0 L r1 r2) := by
  unfold E5.f at H
  refine cG func110 Z ?_
  refine sQ (rG (bA HS Z fun b1 wd2 HS => GO.alloc HS Z Jf Z Z fun b3 wd4 HS => nL (sQ ?_)))
  obtain ⟨t5, h6, H⟩ := bI H
  refine rG (mV Z (fL b1 1 F4 Z (lB 1 HS Z na2 Z (fJ Tf Z (Ed.calls HS  h6) (fun _ wd7 ⟨h8, HS⟩ => ⟨_, h8, (GO.Df (.agg [I tet, I t5].toArray) Z Z (fun _ => by kernel_rfl) Z (sW 0 HS Z Dq Z fun wd9 HS => nL ?_))⟩)))))
  obtain ⟨rfl, rfl⟩ := G5 H
  exact rT _ func110 Z (Gc.Gv (j := 0) (vs := [I tet, I t5]) HS Z Z Z Dq) ⟨Z, (HS.pk 2 [] Z)⟩
theorem Dm.calls {a1 : List (List Ab)} {tet f : Int} {y_a : Nat → (Ty.slice 107 Ad).Lay} {r1 : Bool} (HS : St w0 w (L)) (r_a : Ca w0 L (Ty.slice 107 Ad) A_a c_a y_a a1) (H : Dm.f K a1 tet f = some r1) :
    Calls prog 69 #[.agg [sV A_a a1 c_a].toArray, I tet, I f] w (Dm.post w0 L r1) := by
  unfold Dm.f at H
  refine cG func69 Z ?_
  refine sQ (rG (bA HS Z fun b1 wd2 HS => aS Z (nL (sQ ?_))))
  obtain ⟨c3, H⟩ := iN H
  obtain ⟨c4, H⟩ := iN H
  obtain ⟨e5, h6, H⟩ := Dl H
  refine rG (fL b1 0 Dk Z (lB 0 HS Z Ga Z (mV Z (iX Z U29 Ie (rk (rD 1 r_a) HS) c3 (GO.Ce (T := (Ty.slice 107 Ad)) (n := tet.toNat) (o := 0) HS (rD 1 r_a) Z Z (getD_some (d := []) (ltN c3)) Z Z Ii Z (mV Z (GO.ix Z Z Z U77 Gb ((Ca.elem (rD 1 r_a) c3.1 c3.2) _ HS).2.2.1 c4.1 c4.2 Z (GO.Hf (T := Ad) (n := f.toNat) HS (Ca.elem (rD 1 r_a) c3.1 c3.2) Z Z (Cs (ltN c4) h6) Dq Z (GO.alloc HS Z Jf Z Z fun b7 wd8 HS => sW 0 HS Z Dq Z fun wd9 HS => nL (rN 2 Z (rG (fL b7 0 C9 Z ?_))))))))))))
  refine lB 0 HS Z na2 Z (GO.eql Z Z Z Z (nL ?_))
  rcases iE H with ⟨c10, H⟩ | ⟨c10, H⟩
  ·
   refine yB Z (tT c10) (sQ (rG (fL b7 1 F4 Z (lB 0 HS Z na2 Z (pS 2 Z (nL ?_))))))
   obtain rfl := sI H
   exact rT _ func69 Z Z ⟨Z, (HS.pk 2 [] Z)⟩
  refine nB Z (tF c10) (rN 3 Z ?_)
  obtain ⟨t20, h21, H⟩ := bI H
  rcases iS H with ⟨c24, H⟩ | ⟨c24, H⟩
  ·
   refine rG (fL b1 0 Dk Z (lB 1 HS Z Ga Z (fL b7 0 C9 Z (lB 0 HS Z na2 Z (fJ Y2 Z (Db.calls HS (rD 2 r_a) h21) (fun _ wd22 ⟨h23, HS⟩ => ⟨_, h23, (pS 2 Z (kN 29 Z (congrArg Bool.not (De c24)) (oF Z (oF Z (oF Z (oF Z (GO.Ib Z Z Z Z Z (nL (rN 3 Z ?_)))))))))⟩))))))
   obtain rfl := sI H
   exact rT _ func69 Z Z ⟨Z, (HS.pk 2 [] Z)⟩
  obtain ⟨t25, h26, H⟩ := bI H
  refine rG (fL b1 0 Dk Z (lB 1 HS Z Ga Z (fL b7 0 C9 Z (lB 0 HS Z na2 Z (fJ Y2 Z (Db.calls HS (rD 2 r_a) h21) (fun _ wd22 ⟨h23, HS⟩ => ⟨_, h23, (pS 2 Z (kN 29 Z (congrArg Bool.not c24) (oN Z (fL b7 1 F4 Z (bK (oN Z (lB 0 HS Z na2 Z (bK (oN Z ?_)))))))))⟩))))))
  refine fJ oP Z (H7.calls HS  h26) (fun _ wd27 ⟨h28, HS⟩ => ⟨_, h28, (bK (oN Z (GO.not Z Z Z (bK (GO.Ir Z Z Z Z Z (nL ?_))))))⟩)
  rcases iS H with ⟨c29, H⟩ | ⟨c29, H⟩
  ·
   refine yB Z (congrArg Bool.not (De c29)) (rN 2 Z ?_)
   obtain rfl := sI H
   exact rT _ func69 Z Z ⟨Z, (HS.pk 2 [] Z)⟩
  refine nB Z (congrArg Bool.not c29) (rN 2 Z ?_)
  obtain ⟨t30, h31, H⟩ := bI H
  refine rG (lW 0 HS Z Dq (mV Z (fJ dG Z (Ez.calls HS  h31) (fun _ wd32 ⟨h33, HS⟩ => ⟨_, h33, (aS Z (nL (sQ ?_)))⟩))))
  obtain ⟨c34, H⟩ := iN H
  obtain ⟨c35, H⟩ := iN H
  obtain ⟨e36, h37, H⟩ := Dl H
  obtain ⟨t38, t39, h40, H⟩ := Dv H
  rcases iS H with ⟨c43, H⟩ | ⟨c43, H⟩
  ·
   refine G.Gy mixed (fun w => St w0 w (Box b7 107 [I e5.Tet, I e5.Perm] :: Box b1 31 [sV A_a a1 c_a] :: L)) [1, 3, 5, 8, 9, 15] [0, 2, 6, 10, 1, 3, 4, 5, 7, 8, 9, 11, 12, 13, 14, 16, 15, 17, 18, 19, 20, 21, 22, 23, 24] [] (by kernel_rfl) (by kernel_rfl) HS.drew ?_
   replace HS := HS.drew
   refine qL Z Z (fun _ _ g => fL b1 0 Dk Z g) Z (qL Z Z (fun _ _ g => fL b7 0 C9 Z g) Z (GX.ps 2 Z (GX.ls Z Z Z HS (fun _ HS _ g => lB 1 HS Z Ga Z g) Z (GX.ls Z Z Z HS (fun _ HS _ g => lB 0 HS Z na2 Z g) Z (qL Z Z (fun _ _ g => iX Z U29 Ie (rk (rD 2 r_a) HS) c34 g) Z (GX.ls Z Z Z HS (fun _ HS _ g => GO.Ce (T := (Ty.slice 107 Ad)) (n := e5.Tet.toNat) (o := 0) HS (rD 2 r_a) Z Z (getD_some (d := []) (ltN c34)) Z Z Ii Z g) Z (qL Z Z (fun _ _ g => GO.ix Z Z Z U77 Gb ((Ca.elem (rD 2 r_a) c34.1 c34.2) _ HS).2.2.1 c35.1 c35.2 Z g) Z (GX.ls Z Z Z HS (fun _ HS _ g => GO.Hf (T := Ad) (n := t30.toNat) HS (Ca.elem (rD 2 r_a) c34.1 c34.2) Z Z (Cs (ltN c35) h37) Dq Z g) Z (GX.ls Z Z Z HS (fun _ HS _ g => lW 0 HS Z Dq g) Z (GX.l2 Z (fJ U0 Z (E5.calls HS  h40) (fun _ wd41 ⟨h42, HS⟩ => ⟨_, h42, (GX.fin HS (qL Z Z (fun _ _ g => GO.eT Z Z Z Ua (fun _ => Tz) Z g) Z (qL Z Z (fun _ _ g => mV Z (kN 51 Z (tF c43) g)) Z ?_)))⟩))))))))))))
   refine qL Z Z (fun _ _ g => oF Z g) Z (qL Z Z (fun _ _ g => oF Z g) Z (GX.ls Z Z Z HS (fun _ HS _ g => oF Z g) Z (qL Z Z (fun _ _ g => oF Z g) Z (qL Z Z (fun _ _ g => oF Z g) Z (qL Z Z (fun _ _ g => GO.V8 Z Z Z Z Z Z g) Z (qL Z Z (fun _ _ g => GO.V8 Z Z Z Z Z Z g) Z (qL Z Z (fun _ _ g => GO.V8 Z Z Z Z Z Z g) Z (qL Z Z (fun _ _ g => oF Z g) Z (GX.ps 2 Z (GX.nil ?_))))))))))
   obtain rfl := sI H
   exact rT _ func69 Z Z ⟨Z, (HS.pk 2 [] Z)⟩
  rcases iS H with ⟨c44, H⟩ | ⟨c44, H⟩
  ·
   refine G.Gy mixed (fun w => St w0 w (Box b7 107 [I e5.Tet, I e5.Perm] :: Box b1 31 [sV A_a a1 c_a] :: L)) [1, 3, 5, 8, 9, 15] [0, 2, 6, 10, 1, 3, 4, 5, 7, 8, 9, 11, 12, 13, 14, 16, 15, 17, 18, 19, 20, 21, 22, 23, 24] [] (by kernel_rfl) (by kernel_rfl) HS.drew ?_
   replace HS := HS.drew
   refine qL Z Z (fun _ _ g => fL b1 0 Dk Z g) Z (qL Z Z (fun _ _ g => fL b7 0 C9 Z g) Z (GX.ps 2 Z (GX.ls Z Z Z HS (fun _ HS _ g => lB 1 HS Z Ga Z g) Z (GX.ls Z Z Z HS (fun _ HS _ g => lB 0 HS Z na2 Z g) Z (qL Z Z (fun _ _ g => iX Z U29 Ie (rk (rD 2 r_a) HS) c34 g) Z (GX.ls Z Z Z HS (fun _ HS _ g => GO.Ce (T := (Ty.slice 107 Ad)) (n := e5.Tet.toNat) (o := 0) HS (rD 2 r_a) Z Z (getD_some (d := []) (ltN c34)) Z Z Ii Z g) Z (qL Z Z (fun _ _ g => GO.ix Z Z Z U77 Gb ((Ca.elem (rD 2 r_a) c34.1 c34.2) _ HS).2.2.1 c35.1 c35.2 Z g) Z (GX.ls Z Z Z HS (fun _ HS _ g => GO.Hf (T := Ad) (n := t30.toNat) HS (Ca.elem (rD 2 r_a) c34.1 c34.2) Z Z (Cs (ltN c35) h37) Dq Z g) Z (GX.ls Z Z Z HS (fun _ HS _ g => lW 0 HS Z Dq g) Z (GX.l2 Z (fJ U0 Z (E5.calls HS  h40) (fun _ wd41 ⟨h42, HS⟩ => ⟨_, h42, (GX.fin HS (qL Z Z (fun _ _ g => GO.eT Z Z Z Ua (fun _ => Tz) Z g) Z (qL Z Z (fun _ _ g => mV Z (kN 51 Z (tT c43) g)) Z ?_)))⟩))))))))))))
   refine qL Z Z (fun _ _ g => oN Z (fL b7 0 C9 Z (bK g))) Z (qL Z Z (fun _ _ g => oN Z (mV Z (bK g))) Z (GX.ls Z Z Z HS (fun _ HS _ g => oN Z (lB 0 HS Z na2 Z (bK g))) Z (qL Z Z (fun _ _ g => oN Z (GO.neq Z Z Z Z (bK g))) Z (qL Z Z (fun _ _ g => oN Z (mV Z (bK (kN 56 Z (nF c44) g)))) Z (qL Z Z (fun _ _ g => oF Z g) Z (qL Z Z (fun _ _ g => oF Z g) Z (qL Z Z (fun _ _ g => oF Z g) Z (qL Z Z (fun _ _ g => oN Z (GO.Ib Z Z Z Z Z (bK g))) Z (GX.ps 2 Z (GX.nil ?_))))))))))
   obtain rfl := sI H
   exact rT _ func69 Z Z ⟨Z, (HS.pk 2 [] Z)⟩
  refine G.Gy mixed (fun w => St w0 w (Box b7 107 [I e5.Tet, I e5.Perm] :: Box b1 31 [sV A_a a1 c_a] :: L)) [1, 3, 5, 8, 9, 15] [0, 2, 6, 10, 1, 3, 4, 5, 7, 8, 9, 11, 12, 13, 14, 16, 15, 17, 18, 19, 20, 21, 22, 23, 24] [] (by kernel_rfl) (by kernel_rfl) HS.drew ?_
  replace HS := HS.drew
  refine qL Z Z (fun _ _ g => fL b1 0 Dk Z g) Z (qL Z Z (fun _ _ g => fL b7 0 C9 Z g) Z (GX.ps 2 Z (GX.ls Z Z Z HS (fun _ HS _ g => lB 1 HS Z Ga Z g) Z (GX.ls Z Z Z HS (fun _ HS _ g => lB 0 HS Z na2 Z g) Z (qL Z Z (fun _ _ g => iX Z U29 Ie (rk (rD 2 r_a) HS) c34 g) Z (GX.ls Z Z Z HS (fun _ HS _ g => GO.Ce (T := (Ty.slice 107 Ad)) (n := e5.Tet.toNat) (o := 0) HS (rD 2 r_a) Z Z (getD_some (d := []) (ltN c34)) Z Z Ii Z g) Z (qL Z Z (fun _ _ g => GO.ix Z Z Z U77 Gb ((Ca.elem (rD 2 r_a) c34.1 c34.2) _ HS).2.2.1 c35.1 c35.2 Z g) Z (GX.ls Z Z Z HS (fun _ HS _ g => GO.Hf (T := Ad) (n := t30.toNat) HS (Ca.elem (rD 2 r_a) c34.1 c34.2) Z Z (Cs (ltN c35) h37) Dq Z g) Z (GX.ls Z Z Z HS (fun _ HS _ g => lW 0 HS Z Dq g) Z (GX.l2 Z (fJ U0 Z (E5.calls HS  h40) (fun _ wd41 ⟨h42, HS⟩ => ⟨_, h42, (GX.fin HS (qL Z Z (fun _ _ g => GO.eT Z Z Z Ua (fun _ => Tz) Z g) Z (qL Z Z (fun _ _ g => mV Z (kN 51 Z (tT c43) g)) Z ?_)))⟩))))))))))))
  refine qL Z Z (fun _ _ g => oN Z (fL b7 0 C9 Z (bK g))) Z (qL Z Z (fun _ _ g => oN Z (mV Z (bK g))) Z (GX.ls Z Z Z HS (fun _ HS _ g => oN Z (lB 0 HS Z na2 Z (bK g))) Z (qL Z Z (fun _ _ g => oN Z (GO.neq Z Z Z Z (bK g))) Z (qL Z Z (fun _ _ g => oN Z (mV Z (bK (kN 56 Z (nT c44) g)))) Z (qL Z Z (fun _ _ g => oN Z (mV Z (bK g))) Z (qL Z Z (fun _ _ g => oN Z (mV Z (bK g))) Z (qL Z Z (fun _ _ g => oN Z (GO.neq Z Z Z Z (bK g))) Z (qL Z Z (fun _ _ g => oN Z (GO.Ir Z Z Z Z Z (bK g))) Z (GX.ps 2 Z (GX.nil ?_))))))))))
  obtain rfl := sI H
  exact rT _ func69 Z Z ⟨Z, (HS.pk 2 [] Z)⟩
theorem Bf.calls {a1 : List (List Ab)} {y_a : Nat → (Ty.slice 107 Ad).Lay} {r1 : Bool} (HS : St w0 w (L)) (r_a : Ca w0 L (Ty.slice 107 Ad) A_a c_a y_a a1) (H : Bf.f K a1 = some r1) :
    Calls prog 42 #[.agg [sV A_a a1 c_a].toArray] w (Bf.post w0 L r1) := by
  unfold Bf.f at H
  refine cG func42 Z ?_
  refine sQ (rG (bA HS Z fun b1 wd2 HS => aS Z (nL (rN 2 Z ?_))))
  rcases iE H with ⟨c8, H⟩ | ⟨c8, H⟩
  ·
   refine rG (fL b1 0 Dk Z (lB 0 HS Z Ga Z (lS Z Z U29 Z (pS 2 Z (kN 9 Z (tT c8) (oF Z (oF Z (oF Z (GO.Ib Z Z Z Z Z (nL (rN 3 Z ?_)))))))))))
   obtain rfl := sI H
   exact rT _ func42 Z Z ⟨Z, (HS.pk 1 [] Z)⟩
  obtain ⟨t9, h10, H⟩ := bI H
  refine rG (fL b1 0 Dk Z (lB 0 HS Z Ga Z (lS Z Z U29 Z (pS 2 Z (kN 9 Z (tF c8) (oN Z (fL b1 0 Dk Z (bK (oN Z (lB 0 HS Z Ga Z (bK (oN Z (fJ qV Z (Br.calls HS (rD 1 r_a) h10) (fun _ wd11 ⟨h12, HS⟩ => ⟨_, h12, (bK ?_)⟩))))))))))))))
  refine GO.Ir Z Z Z Z Z (nL ?_)
  rcases iE H with ⟨c13, H⟩ | ⟨c13, H⟩
  ·
   refine yB Z c13 (rN 2 Z ?_)
   obtain rfl := sI H
   exact rT _ func42 Z Z ⟨Z, (HS.pk 1 [] Z)⟩
  refine nB Z (De c13) (rN 3 Z ?_)
  obtain ⟨t14, h15, H⟩ := bI H
  refine rG (fL b1 0 Dk Z (lB 0 HS Z Ga Z (fJ Qd Z (Bz.calls HS (rD 1 r_a) h15) (fun _ wd16 ⟨h17, HS⟩ => ⟨_, h17, (mV Z (nL (rN 2 Z ?_)))⟩))))
  refine G.name (fun i1 h1 => ?_)
  have k1 : ∀ e1, e1 ≤ K → ∀ (x37 : Int) (w : World), Bf.l1 K e1 a1 t14 x37 = some r1 → St w0 w (Box b1 31 [sV A_a a1 c_a] :: L) → G prog 42 30 [(1, pT b1), (16, I t14), (17, I x37)] i1 w (Bf.post w0 L r1) := by
   refine lp (fun _ w H _ => by rw [Bf.l1] at H; cases H) fun d1 s1 p1 x37 w H HS => ?_
   rw [Bf.l1] at H
   subst h1
   refine rN 3 Z ?_
   rcases iS H with ⟨c57, H⟩ | ⟨c57, H⟩
   ·
    refine nB Z (tF c57) (rN 3 Z ?_)
    obtain rfl := sI H
    exact rT _ func42 Z Z ⟨Z, (HS.pk 1 [] Z)⟩
   refine yB Z (tT c57) (rN 9 Z ?_)
   refine G.name (fun o1 n1 => ?_)
   have q1 : ∀ f1, f1 ≤ d1 → ∀ (x63 : Int) (w : World), Bf.l4 K f1 a1 t14 x37 x63 = some r1 → St w0 w (Box b1 31 [sV A_a a1 c_a] :: L) → G prog 42 30 [(1, pT b1), (3, I x37), (16, I t14), (17, I x37), (20, I x63)] o1 w (Bf.post w0 L r1) := by
    refine lp (fun _ w H _ => by rw [Bf.l4] at H; cases H) fun c1 g1 m1 x63 w H HS => ?_
    rw [Bf.l4] at H
    subst n1
    refine rN 3 Z ?_
    rcases iS H with ⟨c70, H⟩ | ⟨c70, H⟩
    ·
     refine nB Z (tF c70) (rN 4 Z (gW (p1 c1 (Nat.le_of_succ_le g1) _ _ H HS) Z))
    refine yB Z (tT c70) (rN 6 Z ?_)
    obtain ⟨t71, h72, H⟩ := bI H
    refine rG (lW 0 HS Z Ep (pS 2 Z (fJ uN Z (Dm.calls HS (rD 1 r_a) h72) (fun _ wd73 ⟨h74, HS⟩ => ⟨_, h74, (GO.not Z Z Z (nL ?_))⟩))))
    rcases iS H with ⟨c75, H⟩ | ⟨c75, H⟩
    ·
     refine yB Z (congrArg Bool.not (De c75)) (rN 2 Z ?_)
     obtain rfl := sI H
     exact rT _ func42 Z Z ⟨Z, (HS.pk 1 [] Z)⟩
    refine nB Z (congrArg Bool.not c75) (rN 4 Z (gW (m1 c1 (lR _) _ _ H HS) Z))
   exact gW (q1 d1 (lR _) _ _ H HS) Z
  exact gW (k1 K (lR _) _ _ H HS) Z
theorem Fj.calls {kind r1 : Int} (HS : St w0 w (L)) (H : Fj.f K kind = some r1) :
    Calls prog 72 #[I kind] w (Fj.post w0 L r1) := by
  unfold Fj.f at H
  refine cG func72 Z ?_
  refine rN 9 Z ?_
  refine G.Oq (fun d1 c1 => ?_)
  have a1 : ∀ b1, b1 ≤ K → ∀ (x2 : Bool) (w : World), Fj.j1 K b1 kind x2 = some r1 → St w0 w (L) → G prog 72 11 [(3, I kind), (4, .bool x2)] d1 w (Fj.post w0 L r1) := by
   refine jp (fun _ w H _ => by rw [Fj.j1] at H; cases H) fun e1 f1 x2 w H HS => ?_
   rw [Fj.j1] at H
   subst c1
   rcases iE H with ⟨c3, H⟩ | ⟨c3, H⟩
   ·
    refine yB Z c3 (rN 2 Z ?_)
    obtain rfl := sI H
    exact rT _ func72 Z Z ⟨Z, HS⟩
   refine nB Z (De c3) (rN 2 Z ?_)
   rcases iE H with ⟨c4, H⟩ | ⟨c4, H⟩
   ·
    refine yB Z (tT c4) (rN 2 Z ?_)
    obtain rfl := sI H
    exact rT _ func72 Z Z ⟨Z, HS⟩
   refine nB Z (tF c4) (rN 2 Z ?_)
   rcases iE H with ⟨c5, H⟩ | ⟨c5, H⟩
   ·
    refine yB Z (tT c5) (rN 2 Z ?_)
    obtain rfl := sI H
    exact rT _ func72 Z Z ⟨Z, HS⟩
   refine nB Z (tF c5) (rN 4 Z ?_)
   obtain rfl := sI H
   exact rT _ func72 Z Z ⟨Z, HS⟩
  rcases iE H with ⟨c6, H⟩ | ⟨c6, H⟩
  ·
   refine yB Z (tT c6) (G.skip (gW (a1 K (lR _) _ _ H HS) Z))
  refine nB Z (tF c6) (rN 1 Z (gW (a1 K (lR _) _ _ H HS) Z))
theorem Bn.calls {a1 c1 : Int} {r1 : Bool} (HS : St w0 w (L)) (H : Bn.f a1 c1 = some r1) :
    Calls prog 91 #[.agg [I a1, I c1].toArray] w (Bn.post w0 L r1) := by
  unfold Bn.f at H
  refine cG func91 Z ?_
  refine sQ (rG (bA HS Z fun b1 wd2 HS => aS Z (nL (sQ (rG (fL b1 0 C9 Z (lB 0 HS Z na2 Z (pS 2 Z (nL ?_)))))))))
  obtain rfl := sI H
  exact rT _ func91 Z Z ⟨Z, (HS.pk 1 [] Z)⟩
theorem Fh.calls {news : Int} {old : List Int} {r1 : List Int} {r2 : List (Gd × Dn)} {r3 : Int} {r4 : List Fg} (HS : St w0 w (Own (Ar .i64) 2 A_a c_a uu old :: L)) (H : Fh.f news old = some (r1, r2, r3, r4)) :
    Calls prog 136 #[I news, sV A_a old c_a] w (Fh.post w0 L r1 r2 r3 r4) := by
  unfold Fh.f at H
  refine cG func136 Z ?_
  refine rN 3 Z (rG (mV Z (GO.Qq Fz Dy HS Z Z fun b1 wd2 HS => mV Z (GO.Df (.agg [sV A_a old c_a, .map (some b1), I news, .slice none 0 0].toArray) Z Z (fun _ => by kernel_rfl) Z (bA HS Z fun b3 wd4 HS => aS Z (nL ?_))))))
  replace HS := HS.Da Ha 131 uu
  obtain ⟨rfl, rfl, rfl, rfl⟩ := H8 H
  exact rT _ func136 Z Z ⟨_, _, _, _, _, _, Z, (HS.pk 4 [1, 3, 2, 0] Z)⟩
theorem Ew.calls {n_ : Int} {r1 : List Int} (HS : St w0 w (L)) (H : Ew.f K n_ = some r1) :
    Calls prog 144 #[I n_] w (Ew.post w0 L r1) := by
  unfold Ew.f at H
  refine cG func144 Z ?_
  refine rN 9 Z ?_
  refine G.name (fun d1 c1 => ?_)
  have e1 : ∀ b1, b1 ≤ K → ∀ (A8 : Option Addr) (c9 : Nat) (a1 : List Int) (x11 : Int) (w : World), Ew.l1 K b1 n_ a1 x11 = some r1 → St w0 w (Own (Ar .i64) 2 A8 c9 uu a1 :: L) → G prog 144 15 [(3, sV A8 a1 c9), (5, I n_), (6, I x11)] d1 w (Ew.post w0 L r1) := by
   refine lp (fun _ _ _ _ w H _ => by rw [Ew.l1] at H; cases H) fun f1 h1 g1 A8 c9 a1 x11 w H HS => ?_
   rw [Ew.l1] at H
   subst c1
   refine rN 3 Z ?_
   rcases iS H with ⟨c19, H⟩ | ⟨c19, H⟩
   ·
    refine nB Z (tF c19) (rN 3 Z ?_)
    obtain rfl := sI H
    exact rT _ func144 Z Z ⟨_, _, Z, HS⟩
   refine yB Z (tT c19) (rN 5 Z ?_)
   obtain ⟨c25, H⟩ := iN H
   refine rG (pS 2 Z (GO.Cr (el := 2) ([I x11]) HS Z Z (fun _ => by kernel_rfl) Z fun b20 wd21 HS => GO.app1 (T := (Ar .i64)) (j := 1) (jb := 0) x11 HS Z Z Au Z Z Z U56 K5 Z Z Z c25 Z fun A23 c24 wd22 HS => aS Z (nL (rN 3 Z (gW (g1 f1 (lR _) _ _ _ _ _ H (HS.pk 2 [1] Z)) Z)))))
  replace HS := HS.Da (Ar .i64) 2 uu
  exact gW (e1 K (lR _) _ _ _ _ _ H HS) Z
theorem Bt.calls {s : List Int} {v : Int} {r1 : Int} (HS : St w0 w (L)) (r_a : Ca w0 L (Ar .i64) A_a c_a uu s) (H : Bt.f K s v = some r1) :
    Calls prog 126 #[sV A_a s c_a, I v] w (Bt.post w0 L r1) := by
  unfold Bt.f at H
  refine cG func126 Z ?_
  refine rN 4 Z (rG (mV Z (lS Z Z U56 Z (mV Z (nL (rN 2 Z ?_))))))
  refine G.name (fun c1 b1 => ?_)
  have d1 : ∀ a1, a1 ≤ K → ∀ (x4 : Int) (w : World), Bt.l1 K a1 s v x4 = some r1 → St w0 w (L) → G prog 126 19 [(0, sV A_a s c_a), (1, I v), (7, I (s.length : Int)), (8, I x4)] c1 w (Bt.post w0 L r1) := by
   refine lp (fun _ w H _ => by rw [Bt.l1] at H; cases H) fun e1 g1 f1 x4 w H HS => ?_
   rw [Bt.l1] at H
   subst b1
   refine rN 3 Z ?_
   rcases iS H with ⟨c8, H⟩ | ⟨c8, H⟩
   ·
    refine nB Z (tF c8) (rN 3 Z ?_)
    obtain rfl := sI H
    exact rT _ func126 Z Z ⟨Z, HS⟩
   refine yB Z (tT c8) (rN 6 Z ?_)
   obtain ⟨c9, H⟩ := iN H
   refine rG (pS 3 Z (iX Z U56 sz2 (rk r_a HS) c9 (GO.Ce (T := (Ar .i64)) (n := x4.toNat) (o := 0) HS r_a Z Z (getD_some (d := 0) (ltN c9)) Z Z na2 Z (GO.eql Z Z Z Z (nL ?_)))))
   rcases iE H with ⟨c10, H⟩ | ⟨c10, H⟩
   ·
    refine yB Z (tT c10) (rN 2 Z ?_)
    obtain rfl := sI H
    exact rT _ func126 Z Z ⟨Z, HS⟩
   refine nB Z (tF c10) (rN 4 Z (gW (f1 e1 (lR _) _ _ H HS) Z))
  exact gW (d1 K (lR _) _ _ H HS) Z
theorem Cw.calls {s : List Int} {v : Int} {r1 : Bool} (HS : St w0 w (L)) (r_a : Ca w0 L (Ar .i64) A_a c_a uu s) (H : Cw.f K s v = some r1) :
    Calls prog 87 #[sV A_a s c_a, I v] w (Cw.post w0 L r1) := by
  unfold Cw.f at H
  refine cG func87 Z ?_
  refine rN 3 Z ?_
  obtain ⟨t1, h2, H⟩ := bI H
  refine rG (pS 2 Z (fJ bT Z (Bt.calls HS r_a h2) (fun _ wd3 ⟨h4, HS⟩ => ⟨_, h4, (pS 2 Z (nL ?_))⟩)))
  obtain rfl := sI H
  exact rT _ func87 Z Z ⟨Z, HS⟩
theorem Fu.calls {v : Int} {a1 : List Int} {b1 : Nat} {r1 : Bool} (HS : St w0 w (Box b1 56 [sV A_a a1 c_a] :: L)) (r_a : Ca w0 L (Ar .i64) A_a c_a uu a1) (H : Fu.f K v a1 = some r1) :
    Calls prog 159 #[I v, pT b1] w (Fu.post w0 L a1 b1 A_a c_a r1) := by
  unfold Fu.f at H
  refine cG func159 Z ?_
  refine rN 3 Z ?_
  obtain ⟨t1, h2, H⟩ := bI H
  refine rG (lB 0 HS Z Hy Z (mV Z (fJ Zv Z (Cw.calls HS (rD 1 r_a) h2) (fun _ wd3 ⟨h4, HS⟩ => ⟨_, h4, (aS Z (nL ?_))⟩))))
  obtain rfl := sI H
  exact rT _ func159 Z Z ⟨Z, HS⟩
theorem Bo.calls {s a1 : List Int} {A_a : Option Addr} {c_a b1 : Nat} {r1 : Int} (HS : St w0 w (Box b1 56 [sV A_b a1 c_b] :: L)) (r_a : Ca w0 L (Ar .i64) A_a c_a uu s) (r_b : Ca w0 L (Ar .i64) A_b c_b uu a1) (H : Bo.f K s a1 = some r1) :
    Calls prog 102 #[sV A_a s c_a, .func (.func 159) #[] #[pT b1]] w (Bo.post w0 L a1 b1 A_b c_b r1) := by
  unfold Bo.f at H
  refine cG func102 Z ?_
  refine rN 4 Z (rG (mV Z (lS Z Z U56 Z (mV Z (nL (rN 2 Z ?_))))))
  refine G.name (fun e1 d1 => ?_)
  have f1 : ∀ c1, c1 ≤ K → ∀ (x8 : Int) (w : World), Bo.l1 K c1 s a1 x8 = some r1 → St w0 w (Box b1 56 [sV A_b a1 c_b] :: L) → G prog 102 19 [(0, sV A_a s c_a), (1, .func (.func 159) #[] #[pT b1]), (7, I (s.length : Int)), (8, I x8)] e1 w (Bo.post w0 L a1 b1 A_b c_b r1) := by
   refine lp (fun _ w H _ => by rw [Bo.l1] at H; cases H) fun g1 i1 h1 x8 w H HS => ?_
   rw [Bo.l1] at H
   subst d1
   refine rN 3 Z ?_
   rcases iS H with ⟨c16, H⟩ | ⟨c16, H⟩
   ·
    refine nB Z (tF c16) (rN 3 Z ?_)
    obtain rfl := sI H
    exact rT _ func102 Z Z ⟨Z, HS⟩
   refine yB Z (tT c16) (rN 6 Z ?_)
   obtain ⟨c17, H⟩ := iN H
   obtain ⟨t18, h19, H⟩ := bI H
   refine rG (pS 3 Z (iX Z U56 sz2 (rk (rD 1 r_a) HS) c17 (GO.Ce (T := (Ar .i64)) (n := x8.toNat) (o := 0) HS (rD 1 r_a) Z Z (getD_some (d := 0) (ltN c17)) Z Z na2 Z ?_)))
   replace HS := HS.pk 1 [0] Z
   refine GO.clo Z Z func159 Uy.2.1 Uy.2.2 Z Z (Fu.calls HS r_b h19) (fun _ wd20 ⟨h21, HS⟩ => ⟨_, h21, (nL ?_)⟩)
   rcases iE H with ⟨c22, H⟩ | ⟨c22, H⟩
   ·
    refine yB Z c22 (rN 2 Z ?_)
    obtain rfl := sI H
    exact rT _ func102 Z Z ⟨Z, HS⟩
   refine nB Z (De c22) (rN 4 Z (gW (h1 g1 (lR _) _ _ H HS) Z))
  exact gW (f1 K (lR _) _ _ H HS) Z
theorem Bg.calls {s b1 : List Int} {A_a : Option Addr} {c_a d1 : Nat} {r1 : List Int} (HS : St w0 w (Own (Ar .i64) 2 A_a c_a uu s :: Box d1 56 [sV A_b b1 c_b] :: L)) (r_b : Ca w0 L (Ar .i64) A_b c_b uu b1) (H : Bg.f K s b1 = some r1) :
    Calls prog 158 #[sV A_a s c_a, .func (.func 159) #[] #[pT d1]] w (Bg.post w0 L b1 d1 A_b c_b r1) := by
  unfold Bg.f at H
  refine cG func158 Z ?_
  refine rN 3 Z ?_
  obtain ⟨t1, h2, H⟩ := bI H
  refine rG (pS 2 Z ?_)
  replace HS := HS.pk 2 [1, 0] Z
  refine fJ pI Z (Bo.calls HS (ro 0 Z) (rD 1 r_b) h2) (fun _ wd3 ⟨h4, HS⟩ => ⟨_, h4, (aS Z (nL (rN 3 Z ?_)))⟩)
  rcases iE H with ⟨c5, H⟩ | ⟨c5, H⟩
  ·
   refine yB Z (tT c5) (rN 2 Z ?_)
   obtain rfl := sI H
   exact rT _ func158 Z Z ⟨_, _, Z, (HS.pk 2 [1, 0] Z)⟩
  refine nB Z (tF c5) (rN 6 Z ?_)
  refine G.name (fun i1 h1 => ?_)
  have k1 : ∀ f1, f1 ≤ K → ∀ (x19 : List Int) (a1 c1 : Int) (w : World), Bg.l1 K f1 b1 x19 a1 c1 = some r1 → St w0 w (Own (Ar .i64) 2 A_a c_a uu x19 :: Box d1 56 [sV A_b b1 c_b] :: L) → G prog 158 42 [(0, sV A_a x19 c_a), (1, .func (.func 159) #[] #[pT d1]), (5, I a1), (6, I c1)] i1 w (Bg.post w0 L b1 d1 A_b c_b r1) := by
   refine lp (fun _ _ _ w H _ => by rw [Bg.l1] at H; cases H) fun e1 m1 g1 x19 a1 c1 w H HS => ?_
   rw [Bg.l1] at H
   subst h1
   refine rN 2 Z (rG (pS 2 Z (lS Z Z U56 Z (GO.lss Z Z Z Z (nL ?_)))))
   rcases iS H with ⟨c35, H⟩ | ⟨c35, H⟩
   ·
    refine nB Z (tF c35) (rN 2 Z ?_)
    obtain ⟨c44, H⟩ := iN H
    have h46 := T9 (xs := x19) (z := 0) (Z4 (leN c44) (lR _))
    refine rG (pS 2 Z (GO.slL (T := (Ar .i64)) HS (ro 0 Z) Z Z Z U56 sz2 c44.1 c44.2 Z (GO.bC (T := (Ar .i64)) (j := 0) (l := a1.toNat) 0 () HS Z Au Z Z U56 zr2 Z Z (oW (lR _) ((ro 0 Z) _ HS).1) (Z4 (leN c44) (lR _)) (fun _ => Z) fun wd45 HS => nL (G.len (t := 0) (m := (over x19 a1.toNat (List.replicate ((x19.take x19.length).drop a1.toNat).length 0)).length) Z (by simp only [List.length_set, h46] <;> rfl) (sQ ?_)))))
    obtain ⟨c47, H⟩ := iN H
    refine rG (pS 2 Z (GO.slH (T := (Ar .i64)) HS (ro 0 Z) Z Z Z U56 sz2 c47.1 c47.2 Z (aS Z (nL ?_))))
    replace HS := HS.aM (A' := (Jg A_a 0 c_a 1)) (c' := (c_a - 0)) (j := 0) (l := 0) (h := a1.toNat) (m := c_a) Z (Nat.zero_le _) (leN c47) (Nat.le_trans (leN c47) ((ro 0 Z) _ HS).1) (lR _) Z Z
    obtain rfl := sI H
    exact rT _ func158 Z Z ⟨_, _, Z, HS⟩
   refine yB Z (tT c35) (rN 4 Z ?_)
   obtain ⟨c36, H⟩ := iN H
   refine rG (pS 2 Z (iX Z U56 sz2 (rk (ro 0 Z) HS) c36 (GO.Ce (T := (Ar .i64)) (n := c1.toNat) (o := 0) HS (ro 0 Z) Z Z (getD_some (d := 0) (ltN c36)) Z Z na2 Z (aS Z (nL (sQ ?_))))))
   obtain ⟨t37, h38, H⟩ := bI H
   refine rG (pS 2 Z ?_)
   replace HS := HS.pk 2 [1, 0] Z
   refine GO.clo Z Z func159 Uy.2.1 Uy.2.2 Z Z (Fu.calls HS (rD 1 r_b) h38) (fun _ wd39 ⟨h40, HS⟩ => ⟨_, h40, (GO.not Z Z Z (nL ?_))⟩)
   rcases iE H with ⟨c41, H⟩ | ⟨c41, H⟩
   ·
    refine nB Z (congrArg Bool.not c41) (rN 4 Z (gW (g1 e1 (lR _) _ _ _ _ H (HS.pk 2 [1, 0] Z)) Z))
   refine yB Z (congrArg Bool.not (De c41)) (sQ ?_)
   obtain ⟨c42, H⟩ := iN H
   refine rG (pS 3 Z (iX Z U56 sz2 (rk (ro 1 Z) HS) c42 (GO.He (T := (Ar .i64)) (j := 1) (n := a1.toNat) (o := 0) (vs := [I (x19.getD c1.toNat 0)]) (x19.getD c1.toNat 0) HS Z Au Z Z Z Z (htN na2 Z) Z (getD_some (d := 0) (ltN c42)) Z Z fun wd43 HS => nL (G.len (t := 0) (m := (x19.set a1.toNat (x19.getD c1.toNat 0)).length) Z (by simp only [List.length_set] <;> rfl) (rN 4 Z (gW (g1 e1 (lR _) _ _ _ _ H (HS.pk 2 [1, 0] Z)) Z))))))
  exact gW (k1 K (lR _) _ _ _ _ H (HS.pk 2 [1, 0] Z)) Z
theorem Eo.calls {not : List Int} {r1 : List Int} (HS : St w0 w (L)) (r_a : Ca w0 L (Ar .i64) A_a c_a uu not) (H : Eo.f K not = some r1) :
    Calls prog 137 #[sV A_a not c_a] w (Eo.post w0 L r1) := by
  unfold Eo.f at H
  refine cG func137 Z ?_
  refine sQ (rG (GO.box (cs := [sV A_a not c_a]) HS Z Z Z Z fun b1 wd2 HS => aS Z (nL (sQ ?_))))
  obtain ⟨t3, h4, H⟩ := bI H
  obtain ⟨t9, h10, H⟩ := bI H
  refine rG (fJ dP Z (Ew.calls HS  h4) (fun _ wd7 ⟨A5, c6, h8, HS⟩ => ⟨_, h8, (GO.Vg Z Z Z Z ?_)⟩))
  replace HS := HS.pk 2 [0, 1] Z
  refine fJ nC Z (Bg.calls HS r_a h10) (fun _ wd13 ⟨A11, c12, h14, HS⟩ => ⟨_, h14, (aS Z (nL ?_))⟩)
  obtain rfl := sI H
  exact rT _ func137 Z Z ⟨_, _, Z, (HS.pk 2 [0] Z)⟩
theorem Ef.calls {a1 : List Int} {k1 : List (Gd × Dn)} {d1 : Int} {c1 : List Fg} {tet Bv : Int} {to f1 : Int} {i1 g1 h1 : Int} {b_c : Nat} {A_a : Option Addr} {c_a e1 : Nat} {r1 : List (Gd × Dn)} (HS : St w0 w (Box b_c 104 [sV A_a a1 c_a, .map (some e1), I d1, sV A_b c1 c_b] :: Hw e1 Fz Dy k1 :: L)) (r_a : Ca w0 L (Ar .i64) A_a c_a uu a1) (r_b : Ca w0 L Ha A_b c_b uu c1) (H : Ef.f K a1 k1 d1 c1 tet Bv to f1 i1 g1 h1 = some r1) :
    Calls prog 138 #[pT b_c, I tet, I Bv, I to, .agg [I f1, I i1, I g1, I h1].toArray] w (Ef.post w0 L a1 d1 c1 b_c A_a c_a e1 A_b c_b r1) := by
  unfold Ef.f at H
  refine cG func138 Z ?_
  refine sQ (rG (bA HS Z fun b1 wd2 HS => nL ?_))
  obtain ⟨t3, h4, H⟩ := bI H
  refine G.Gy mixed (fun w => St w0 w (Box b1 131 [I f1, I i1, I g1, I h1] :: Box b_c 104 [sV A_a a1 c_a, .map (some e1), I d1, sV A_b c1 c_b] :: L)) [3, 8] [0, 1, 2, 4, 5, 6, 7, 3, 8, 9, 10, 11] [] (by kernel_rfl) (by kernel_rfl) (HS.drew.pk 3 [0, 1] Z) ?_
  replace HS := HS.drew
  refine GX.ps 1 Z (qL Z Z (fun _ _ g => GO.M9 Z Z Z g) Z (qL Z Z (fun _ _ g => fL b_c 1 Ug Z g) Z (GX.ps 2 Z (qL Z Z (fun _ _ g => GO.Df (.agg [I tet, I Bv].toArray) Z Z (fun _ => by kernel_rfl) Z g) Z (GX.ps 1 Z (GX.ls Z Z Z (HS.pk 3 [0, 1] Z) (fun _ HS _ g => lB 1 HS Z dB Z g) Z (GX.ls Z Z Z (HS.pk 3 [0, 1] Z) (fun _ HS _ g => lW 0 HS Z Jj g) Z (GX.l2 Z (fJ Ps Z (Cf.calls HS  h4) (fun _ wd5 ⟨h6, HS⟩ => ⟨_, h6, (GX.fin (HS.pk 3 [0, 1] Z) (qL Z Z (fun _ _ g => GO.Df (.agg [I to, I t3].toArray) Z Z (fun _ => by kernel_rfl) Z g) Z (GX.l2 Z (GO.kF (⟨tet, Bv⟩ : Gd) (⟨to, t3⟩ : Dn) X3 HS (j := 2) Z Z Z Z Z pY fun wd7 HS => GX.fin (HS.pk 3 [0, 1] Z) ?_))))⟩))))))))))
  refine GX.nil ?_
  obtain rfl := sI H
  exact G.Rk func138 Z ⟨Z, (HS.pk 3 [1, 2] Z)⟩
theorem Fy.calls {i j_ r1 : Int} (HS : St w0 w (L)) (H : Fy.f K i j_ = some r1) :
    Calls prog 139 #[I i, I j_] w (Fy.post w0 L r1) := by
  unfold Fy.f at H
  refine cG func139 Z ?_
  refine rN 3 Z (rG (GO.Df (.agg [I 0, I 1, I 2, I 3].toArray) Z Z (fun _ => by kernel_rfl) Z (GO.alloc HS Z J8 Z Z fun b1 wd2 HS => sW 0 HS Z Jj Z fun wd3 HS => nL (sQ ?_))))
  obtain ⟨c4, H⟩ := iN H
  obtain ⟨c6, H⟩ := iN H
  refine rG (pS 4 Z (GO.ixW Z Z Z Gg sz2 c4 Z (GO.stW (j := 0) (o := 0) (sz := 1) (vs := [I j_]) (fun u_ => [I (se 0 u_ j_ 0), I (se 1 u_ j_ 1), I (se 2 u_ j_ 2), I (se 3 u_ j_ 3)]) HS Z Z Z Z Z c4 (htN na2 Z) Z Z (four Z Z Z Z) fun wd5 HS => GO.ixW Z Z Z Gg sz2 c6 Z (GO.stW (j := 0) (o := 0) (sz := 1) (vs := [I i]) (fun u_ => [I (se 0 u_ i (se 0 i j_ 0)), I (se 1 u_ i (se 1 i j_ 1)), I (se 2 u_ i (se 2 i j_ 2)), I (se 3 u_ i (se 3 i j_ 3))]) HS Z Z Z Z Z c6 (htN na2 Z) Z Z (four Z Z Z Z) fun wd7 HS => nL (sQ ?_)))))
  obtain ⟨t8, h9, H⟩ := bI H
  refine rG (lW 0 HS Z Jj (fJ Ps Z (Cf.calls HS  h9) (fun _ wd10 ⟨h11, HS⟩ => ⟨_, h11, (aS Z (nL ?_))⟩)))
  obtain rfl := sI H
  exact rT _ func139 Z Z ⟨Z, (HS.pk 1 [] Z)⟩
theorem Bq.calls {d1 : List (List Ab)} {a_ f : Int} {y_a : Nat → (Ty.slice 107 Ad).Lay} {r1 : Option (List Int × List (Gd × Dn) × Int × List Fg)} (HS : St w0 w (L)) (r_a : Ca w0 L (Ty.slice 107 Ad) A_a c_a y_a d1) (H : Bq.f K d1 a_ f = some r1) :
    Calls prog 111 #[.agg [sV A_a d1 c_a].toArray, I a_, I f] w (Bq.post w0 L r1) := by
  unfold Bq.f at H
  refine cG func111 Z ?_
  refine sQ (rG (bA HS Z fun b1 wd2 HS => aS Z (nL (sQ ?_))))
  obtain ⟨c3, H⟩ := iN H
  obtain ⟨c4, H⟩ := iN H
  obtain ⟨e5, h6, H⟩ := Dl H
  refine rG (fL b1 0 Dk Z (lB 0 HS Z Ga Z (mV Z (iX Z U29 Ie (rk (rD 1 r_a) HS) c3 (GO.Ce (T := (Ty.slice 107 Ad)) (n := a_.toNat) (o := 0) HS (rD 1 r_a) Z Z (getD_some (d := []) (ltN c3)) Z Z Ii Z (mV Z (GO.ix Z Z Z U77 Gb ((Ca.elem (rD 1 r_a) c3.1 c3.2) _ HS).2.2.1 c4.1 c4.2 Z (GO.Hf (T := Ad) (n := f.toNat) HS (Ca.elem (rD 1 r_a) c3.1 c3.2) Z Z (Cs (ltN c4) h6) Dq Z (GO.alloc HS Z Jf Z Z fun b7 wd8 HS => sW 0 HS Z Dq Z fun wd9 HS => nL (rN 2 Z ?_))))))))))
  obtain ⟨t15, h16, H⟩ := bI H
  rcases iE H with ⟨c19, H⟩ | ⟨c19, H⟩
  ·
   refine rG (lW 0 HS Z Dq (fJ M8 Z (Bn.calls HS  h16) (fun _ wd17 ⟨h18, HS⟩ => ⟨_, h18, (mV Z (kN 27 Z c19 (oF Z (oF Z (oF Z (oF Z (GO.Ib Z Z Z Z Z (nL (rN 3 Z ?_)))))))))⟩)))
   replace HS := HS.emp
   obtain rfl := sI H
   exact rT _ func111 Z Z ⟨0, none, 0, 0, none, 0, Z, (HS.pk 3 [0] Z)⟩
  refine rG (lW 0 HS Z Dq (fJ M8 Z (Bn.calls HS  h16) (fun _ wd17 ⟨h18, HS⟩ => ⟨_, h18, (mV Z (kN 27 Z (De c19) (oN Z (fL b7 0 C9 Z (bK (oN Z (lB 0 HS Z na2 Z (bK (oN Z (mV Z (bK (oN Z ?_))))))))))))⟩)))
  refine GO.eql Z Z Z Z (bK (GO.Ir Z Z Z Z Z (nL ?_)))
  rcases iE H with ⟨c20, H⟩ | ⟨c20, H⟩
  ·
   refine yB Z (tT c20) (rN 2 Z ?_)
   replace HS := HS.emp
   obtain rfl := sI H
   exact rT _ func111 Z Z ⟨0, none, 0, 0, none, 0, Z, (HS.pk 3 [0] Z)⟩
  refine nB Z (tF c20) (rN 2 Z ?_)
  obtain ⟨t23, t24, t25, t26, h27, H⟩ := D9 H
  refine rG (mV Z (fL b7 0 C9 Z (lB 0 HS Z na2 Z (GO.Cr (el := 2) ([I a_, I e5.Tet]) HS Z Z (fun _ => by kernel_rfl) Z fun b21 wd22 HS => ?_))))
  replace HS := HS.Ey (T := (Ar .i64)) (j := 0) Z Au uu ([a_, e5.Tet] : List Int) Z (Hq Z)
  refine GO.Gw (t := 36) (m := ([a_, e5.Tet] : List Int).length) (c' := ([a_, e5.Tet] : List Int).length) Z Z Z ?_
  replace HS := HS.pk 3 [0, 1, 2] Z
  refine fJ Vo Z (Fh.calls HS  h27) (fun _ wd34 ⟨b28, A29, c30, b31, A32, c33, h35, HS⟩ => ⟨_, h35, (aS Z (nL (sQ ?_)))⟩)
  obtain ⟨t36, t37, t38, t39, h40, H⟩ := D9 H
  obtain ⟨t45, h46, H⟩ := bI H
  refine rG (fL b7 1 F4 Z (lB 4 HS Z na2 Z (fJ Km Z (Ct.calls HS  h40) (fun _ wd41 ⟨h42, HS⟩ => ⟨_, h42, (mV Z (GO.Cr (el := 2) ([I f]) HS Z Z (fun _ => by kernel_rfl) Z fun b43 wd44 HS => ?_))⟩))))
  replace HS := HS.Ey (T := (Ar .i64)) (j := 0) Z Au uu ([f] : List Int) Z (Hq Z)
  refine GO.Gw (t := 42) (m := ([f] : List Int).length) (c' := ([f] : List Int).length) Z Z Z (fJ Ro Z (Eo.calls HS (ro 0 Z) h46) (fun _ wd49 ⟨A47, c48, h50, HS⟩ => ⟨_, h50, (GO.alloc HS Z J8 Z Z fun b51 wd52 HS => sW 0 HS Z Jj Z fun wd53 HS => aS Z (nL (rN 5 Z ?_)))⟩))
  refine G.name (fun g1 f1 => ?_)
  have h1 : ∀ e1, e1 ≤ K → ∀ (c1 : List (Gd × Dn)) (A100 : Option Addr) (c101 : Nat) (a1 : List Fg) (x103 : Int) (w : World), Bq.l1 K e1 a_ f e5 t23 t25 t36 t37 t38 t39 t45 c1 a1 x103 = some r1 → St w0 w (Box b7 107 [I e5.Tet, I e5.Perm] :: Box b28 104 [sV A29 t23 c30, .map (some b31), I t25, sV A100 a1 c101] :: Own (Ar .i64) 2 A29 c30 uu t23 :: Hw b31 Fz Dy c1 :: Own Ha 131 A100 c101 uu a1 :: Box b51 131 [I t36, I t37, I t38, I t39] :: Own (Ar .i64) 2 A47 c48 uu t45 :: L) → G prog 111 119 [(1, I a_), (2, I f), (7, pT b7), (8, pT b28), (9, pT b51), (10, sV A47 t45 c48), (44, I x103)] g1 w (Bq.post w0 L r1) := by
   refine lp (fun _ _ _ _ _ w H _ => by rw [Bq.l1] at H; cases H) fun i1 m1 k1 c1 A100 c101 a1 x103 w H HS => ?_
   rw [Bq.l1] at H
   subst f1
   refine rN 3 Z ?_
   rcases iS H with ⟨c150, H⟩ | ⟨c150, H⟩
   ·
    refine nB Z (tF c150) (rN 3 Z ?_)
    replace HS := HS.pk 7 [1, 2, 3, 4, 0, 5, 6] Z
    replace HS := St.opt (F := (fun x => [Box b28 104 [.slice A29 x.1.length c30, .map (some b31), I x.2.2.1, .slice A100 x.2.2.2.length c101], Own (Ar .i64) 2 A29 c30 uu x.1, Hw b31 Fz Dy x.2.1, Own Ha 131 A100 c101 uu x.2.2.2])) (t23, c1, t25, a1) HS Z
    obtain rfl := sI H
    exact rT _ func111 Z Z ⟨_, _, _, _, _, _, Z, (HS.pk 4 [0] Z)⟩
   refine yB Z (tT c150) (rN 6 Z ?_)
   obtain ⟨c151, H⟩ := iN H
   have h152 := (rk (ro 6 Z) HS)
   obtain ⟨c153, H⟩ := iN H
   have h154 := (rk (ro 6 Z) HS)
   obtain ⟨c155, H⟩ := iN H
   have h156 := (rk (ro 6 Z) HS)
   refine G.lex mixed [0, 1, 2, 4, 5, 6, 7, 8, 10, 11, 12, 13, 14, 3, 16, 9, 17, 15, 18] (by kernel_rfl) ?_
   replace HS := HS.drew
   refine GX.ps 2 Z (qL Z Z (fun _ _ g => iX Z U56 sz2 h152 c151 g) Z (GX.ps 3 Z (qL Z Z (fun _ _ g => GO.rem Z Z Z (by decide) Z g) Z (qL Z Z (fun _ _ g => iX Z U56 sz2 h154 c153 g) Z (GX.ps 3 Z (qL Z Z (fun _ _ g => GO.rem Z Z Z (by decide) Z g) Z (qL Z Z (fun _ _ g => iX Z U56 sz2 h156 c155 g) Z (GX.l1 Z Z Z (fun _ g => GO.Ce (T := (Ar .i64)) (n := x103.toNat) (o := 0) HS (ro 6 Z) Z Z (getD_some (d := 0) (ltN c151)) Z Z na2 Z g) Z (GX.ps 1 Z (GX.l1 Z Z Z (fun _ g => GO.Ce (T := (Ar .i64)) (n := ((w64 (x103 + 1)).tmod 3).toNat) (o := 0) HS (ro 6 Z) Z Z (getD_some (d := 0) (ltN c153)) Z Z na2 Z g) Z (GX.ps 1 Z (GX.l1 Z Z Z (fun _ g => GO.Ce (T := (Ar .i64)) (n := ((w64 (x103 + 2)).tmod 3).toNat) (o := 0) HS (ro 6 Z) Z Z (getD_some (d := 0) (ltN c155)) Z Z na2 Z g) Z (GX.ps 1 Z (GX.nil ?_))))))))))))))
   refine sQ (rG (GO.alloc HS Z J8 Z Z fun b157 wd158 HS => GO.alloc HS Z J8 Z Z fun b159 wd160 HS => nL (sQ ?_)))
   obtain ⟨c161, H⟩ := iN H
   obtain ⟨c163, H⟩ := iN H
   obtain ⟨c165, H⟩ := iN H
   obtain ⟨c167, H⟩ := iN H
   refine rG (pS 4 Z (GO.ixW Z Z Z Gg sz2 c161 Z (GO.stW (j := 1) (o := 0) (sz := 1) (vs := [I 0]) (fun u_ => [I (se 0 u_ 0 0), I (se 1 u_ 0 0), I (se 2 u_ 0 0), I (se 3 u_ 0 0)]) HS Z Z Z Z Z c161 (htN na2 Z) Z Z (four Z Z Z Z) fun wd162 HS => GO.ixW Z Z Z Gg sz2 c163 Z (GO.stW (j := 1) (o := 0) (sz := 1) (vs := [I 1]) (fun u_ => [I (se 0 u_ 1 (se 0 f 0 0)), I (se 1 u_ 1 (se 1 f 0 0)), I (se 2 u_ 1 (se 2 f 0 0)), I (se 3 u_ 1 (se 3 f 0 0))]) HS Z Z Z Z Z c163 (htN na2 Z) Z Z (four Z Z Z Z) fun wd164 HS => GO.ixW Z Z Z Gg sz2 c165 Z (GO.stW (j := 1) (o := 0) (sz := 1) (vs := [I 2]) (fun u_ => [I (se 0 u_ 2 (se 0 (t45.getD x103.toNat 0) 1 (se 0 f 0 0))), I (se 1 u_ 2 (se 1 (t45.getD x103.toNat 0) 1 (se 1 f 0 0))), I (se 2 u_ 2 (se 2 (t45.getD x103.toNat 0) 1 (se 2 f 0 0))), I (se 3 u_ 2 (se 3 (t45.getD x103.toNat 0) 1 (se 3 f 0 0)))]) HS Z Z Z Z Z c165 (htN na2 Z) Z Z (four Z Z Z Z) fun wd166 HS => GO.ixW Z Z Z Gg sz2 c167 Z (GO.stW (j := 1) (o := 0) (sz := 1) (vs := [I 3]) (fun u_ => [I (se 0 u_ 3 (se 0 (t45.getD (((w64 (x103 + 1)).tmod 3).toNat) 0) 2 (se 0 (t45.getD x103.toNat 0) 1 (se 0 f 0 0)))), I (se 1 u_ 3 (se 1 (t45.getD (((w64 (x103 + 1)).tmod 3).toNat) 0) 2 (se 1 (t45.getD x103.toNat 0) 1 (se 1 f 0 0)))), I (se 2 u_ 3 (se 2 (t45.getD (((w64 (x103 + 1)).tmod 3).toNat) 0) 2 (se 2 (t45.getD x103.toNat 0) 1 (se 2 f 0 0)))), I (se 3 u_ 3 (se 3 (t45.getD (((w64 (x103 + 1)).tmod 3).toNat) 0) 2 (se 3 (t45.getD x103.toNat 0) 1 (se 3 f 0 0))))]) HS Z Z Z Z Z c167 (htN na2 Z) Z Z (four Z Z Z Z) fun wd168 HS => nL (sQ ?_)))))))
   obtain ⟨c169, H⟩ := iN H
   obtain ⟨c171, H⟩ := iN H
   obtain ⟨c173, H⟩ := iN H
   obtain ⟨c175, H⟩ := iN H
   refine G.Gy mixed (fun w => St w0 w (Box b51 131 [I t36, I t37, I t38, I t39] :: L)) [2, 5, 8, 11] [0, 1, 3, 4, 6, 7, 9, 10, 2, 12, 5, 8, 11, 13, 14, 15, 16, 17, 18, 19] [] (by kernel_rfl) (by kernel_rfl) (HS.drew.pk 9 [7] Z) ?_
   replace HS := HS.drew
   refine GX.ps 1 Z (qL Z Z (fun _ _ g => GO.ixW Z Z Z Gg sz2 c161 Z g) Z (GX.ps 1 Z (qL Z Z (fun _ _ g => GO.ixW Z Z Z Gg sz2 c163 Z g) Z (GX.ps 1 Z (qL Z Z (fun _ _ g => GO.ixW Z Z Z Gg sz2 c165 Z g) Z (GX.ps 1 Z (qL Z Z (fun _ _ g => GO.ixW Z Z Z Gg sz2 c167 Z g) Z (GX.ls Z Z Z (HS.pk 9 [7] Z) (fun _ HS _ g => GO.ldW (j := 0) ([t36, t37, t38, t39] : List Int) HS Z Z Z c161 Z Z na2 Z g) Z (qL Z Z (fun _ _ g => GO.ixW Z Z Z Gg sz2 c169 Z g) Z (GX.ls Z Z Z (HS.pk 9 [7] Z) (fun _ HS _ g => GO.ldW (j := 0) ([t36, t37, t38, t39] : List Int) HS Z Z Z c163 Z Z na2 Z g) Z (GX.ls Z Z Z (HS.pk 9 [7] Z) (fun _ HS _ g => GO.ldW (j := 0) ([t36, t37, t38, t39] : List Int) HS Z Z Z c165 Z Z na2 Z g) Z (GX.ls Z Z Z (HS.pk 9 [7] Z) (fun _ HS _ g => GO.ldW (j := 0) ([t36, t37, t38, t39] : List Int) HS Z Z Z c167 Z Z na2 Z g) Z (GX.l2 Z (GO.stW (j := 0) (o := 0) (sz := 1) (vs := [I 1]) (fun u_ => [I (se 0 u_ 1 0), I (se 1 u_ 1 0), I (se 2 u_ 1 0), I (se 3 u_ 1 0)]) HS Z Z Z Z Z c169 (htN na2 Z) Z Z (four Z Z Z Z) fun wd170 HS => ?_))))))))))))))
   refine GX.fin (HS.pk 9 [7] Z) (qL Z Z (fun _ _ g => GO.ixW Z Z Z Gg sz2 c171 Z g) Z (GX.l2 Z (GO.stW (j := 0) (o := 0) (sz := 1) (vs := [I 0]) (fun u_ => [I (se 0 u_ 0 (se 0 (([t36, t37, t38, t39] : List Int).getD f.toNat 0) 1 0)), I (se 1 u_ 0 (se 1 (([t36, t37, t38, t39] : List Int).getD f.toNat 0) 1 0)), I (se 2 u_ 0 (se 2 (([t36, t37, t38, t39] : List Int).getD f.toNat 0) 1 0)), I (se 3 u_ 0 (se 3 (([t36, t37, t38, t39] : List Int).getD f.toNat 0) 1 0))]) HS Z Z Z Z Z c171 (htN na2 Z) Z Z (four Z Z Z Z) fun wd172 HS => GX.fin (HS.pk 9 [7] Z) (qL Z Z (fun _ _ g => GO.ixW Z Z Z Gg sz2 c173 Z g) Z (GX.l2 Z (GO.stW (j := 0) (o := 0) (sz := 1) (vs := [I 2]) (fun u_ => [I (se 0 u_ 2 (se 0 (([t36, t37, t38, t39] : List Int).getD (t45.getD x103.toNat 0).toNat 0) 0 (se 0 (([t36, t37, t38, t39] : List Int).getD f.toNat 0) 1 0))), I (se 1 u_ 2 (se 1 (([t36, t37, t38, t39] : List Int).getD (t45.getD x103.toNat 0).toNat 0) 0 (se 1 (([t36, t37, t38, t39] : List Int).getD f.toNat 0) 1 0))), I (se 2 u_ 2 (se 2 (([t36, t37, t38, t39] : List Int).getD (t45.getD x103.toNat 0).toNat 0) 0 (se 2 (([t36, t37, t38, t39] : List Int).getD f.toNat 0) 1 0))), I (se 3 u_ 2 (se 3 (([t36, t37, t38, t39] : List Int).getD (t45.getD x103.toNat 0).toNat 0) 0 (se 3 (([t36, t37, t38, t39] : List Int).getD f.toNat 0) 1 0)))]) HS Z Z Z Z Z c173 (htN na2 Z) Z Z (four Z Z Z Z) fun wd174 HS => GX.fin (HS.pk 9 [7] Z) (qL Z Z (fun _ _ g => GO.ixW Z Z Z Gg sz2 c175 Z g) Z (GX.l2 Z (GO.stW (j := 0) (o := 0) (sz := 1) (vs := [I 3]) (fun u_ => [I (se 0 u_ 3 (se 0 (([t36, t37, t38, t39] : List Int).getD (t45.getD (((w64 (x103 + 1)).tmod 3).toNat) 0).toNat 0) 2 (se 0 (([t36, t37, t38, t39] : List Int).getD (t45.getD x103.toNat 0).toNat 0) 0 (se 0 (([t36, t37, t38, t39] : List Int).getD f.toNat 0) 1 0)))), I (se 1 u_ 3 (se 1 (([t36, t37, t38, t39] : List Int).getD (t45.getD (((w64 (x103 + 1)).tmod 3).toNat) 0).toNat 0) 2 (se 1 (([t36, t37, t38, t39] : List Int).getD (t45.getD x103.toNat 0).toNat 0) 0 (se 1 (([t36, t37, t38, t39] : List Int).getD f.toNat 0) 1 0)))), I (se 2 u_ 3 (se 2 (([t36, t37, t38, t39] : List Int).getD (t45.getD (((w64 (x103 + 1)).tmod 3).toNat) 0).toNat 0) 2 (se 2 (([t36, t37, t38, t39] : List Int).getD (t45.getD x103.toNat 0).toNat 0) 0 (se 2 (([t36, t37, t38, t39] : List Int).getD f.toNat 0) 1 0)))), I (se 3 u_ 3 (se 3 (([t36, t37, t38, t39] : List Int).getD (t45.getD (((w64 (x103 + 1)).tmod 3).toNat) 0).toNat 0) 2 (se 3 (([t36, t37, t38, t39] : List Int).getD (t45.getD x103.toNat 0).toNat 0) 0 (se 3 (([t36, t37, t38, t39] : List Int).getD f.toNat 0) 1 0))))]) HS Z Z Z Z Z c175 (htN na2 Z) Z Z (four Z Z Z Z) fun wd176 HS => GX.fin (HS.pk 9 [7] Z) (GX.nil (sQ ?_)))))))))))
   obtain ⟨t177, h178, H⟩ := bI H
   refine rG (pS 4 Z (lW 1 HS Z Jj ?_))
   replace HS := HS.pk 9 [3, 5, 0, 1, 2, 4, 6, 7, 8] Z
   refine fJ O7 Z (Ef.calls HS (ro 3 Z) (ro 4 Z) h178) (fun _ wd179 ⟨h180, HS⟩ => ⟨_, h180, (nL (sQ ?_))⟩)
   obtain ⟨t181, h182, H⟩ := bI H
   refine G.lex mixed [0, 1, 3, 4, 6, 2, 5, 7, 8] (by kernel_rfl) ?_
   replace HS := HS.drew
   refine GX.ps 1 Z (qL Z Z (fun _ _ g => fL b7 0 C9 Z g) Z (GX.ps 1 Z (qL Z Z (fun _ _ g => GO.ixW Z Z Z Gg sz2 c163 Z g) Z (GX.ps 1 Z (GX.l1 Z Z Z (fun _ g => lB 4 HS Z na2 Z g) Z (GX.l1 Z Z Z (fun _ g => GO.ldW (j := 7) ([t36, t37, t38, t39] : List Int) HS Z Z Z c163 Z Z na2 Z g) Z (GX.l1 Z Z Z (fun _ g => lW 2 HS Z Jj g) Z (GX.l2 Z ?_))))))))
   replace HS := HS.pk 9 [0, 1, 2, 3, 4, 5, 6, 7, 8] Z
   refine fJ O7 Z (Ef.calls HS (ro 3 Z) (ro 4 Z) h182) (fun _ wd183 ⟨h184, HS⟩ => ⟨_, h184, (GX.fin tv (GX.nil ?_))⟩)
   obtain ⟨t185, h186, H⟩ := bI H
   obtain ⟨c194, H⟩ := iN H
   refine G.Gy mixed (fun w => St w0 w (Box b28 104 [sV A29 t23 c30, .map (some b31), I t25, sV A100 a1 c101] :: L)) [4] [0, 1, 2, 3, 5, 6, 7, 8, 4, 9, 10, 11, 12, 13, 14, 15] [15] (by kernel_rfl) (by kernel_rfl) (HS.drew.pk 9 [0] Z) ?_
   replace HS := HS.drew
   refine GX.ps 2 Z (qL Z Z (fun _ _ g => GO.M9 Z Z Z g) Z (qL Z Z (fun _ _ g => fL b28 3 Nr Z g) Z (GX.ps 3 Z (qL Z Z (fun _ _ g => GO.rem Z Z Z (by decide) Z g) Z (GX.ls Z Z Z (HS.pk 9 [0] Z) (fun _ HS _ g => lB 0 HS Z Tk Z g) Z (GX.l2 Z (fJ U8 Z (Fy.calls HS  h186) (fun _ wd187 ⟨h188, HS⟩ => ⟨_, h188, (GX.fin (HS.pk 9 [0] Z) (qL Z Z (fun _ _ g => GO.Df (.agg [I x103, I 2, I ((w64 (x103 + 1)).tmod 3), I t185].toArray) Z Z (fun _ => by kernel_rfl) Z g) Z (GX.l2 Z (GO.Cr (el := 131) ([I x103, I 2, I ((w64 (x103 + 1)).tmod 3), I t185]) HS Z Z (fun _ => by kernel_rfl) Z fun b189 wd190 HS => GX.fin (HS.pk 10 [1] Z) (GX.l2 Z (GO.app1 (T := Ha) (j := 7) (jb := 0) (⟨x103, 2, (w64 (x103 + 1)).tmod 3, t185⟩ : Fg) HS Z Z Au Z Z Z fP bG Z Z Z c194 Z fun A192 c193 wd191 HS => ?_))))))⟩))))))))
   refine GX.fin (HS.pk 10 [1] Z) (qL Z Z (fun _ _ g => GO.M9 Z Z Z g) Z (qL Z Z (fun _ _ g => fL b28 3 Nr Z g) Z (GX.l2 Z (GO.Gu (j := 1) (vs := [sV A192 (a1 ++ [(⟨x103, 2, (w64 (x103 + 1)).tmod 3, t185⟩ : Fg)]) c193]) ([sV A29 t23 c30, .map (some b31), I t25, sV A192 (a1 ++ [(⟨x103, 2, (w64 (x103 + 1)).tmod 3, t185⟩ : Fg)]) c193]) HS Z Z Z Z Z (htN Tk Z) Z Z Z fun wd195 HS => GX.Ql Z (GX.nil (rN 3 Z (gW (k1 i1 (lR _) _ _ _ _ _ _ H (HS.pk 10 [5, 1, 6, 2, 7, 8, 9] Z)) Z)))))))
  exact gW (h1 K (lR _) _ _ _ _ _ _ H (HS.pk 9 [7, 3, 4, 5, 6, 0, 1] Z)) Z
theorem Fq.calls {e_ r1 r2 : Int} (HS : St w0 w (L)) (H : Fq.f K e_ = some (r1, r2)) :
    Calls prog 150 #[I e_] w (Fq.post w0 L r1 r2) := by
  unfold Fq.f at H
  refine cG func150 Z ?_
  refine rN 7 Z ?_
  refine G.name (fun c1 b1 => ?_)
  have d1 : ∀ a1, a1 ≤ K → ∀ (e_2 x3 : Int) (w : World), Fq.l1 K a1 e_2 x3 = some (r1, r2) → St w0 w (L) → G prog 150 23 [(0, I e_2), (6, I x3)] c1 w (Fq.post w0 L r1 r2) := by
   refine lp (fun _ _ w H _ => by rw [Fq.l1] at H; cases H) fun e1 g1 f1 e_2 x3 w H HS => ?_
   rw [Fq.l1] at H
   subst b1
   refine rN 3 Z ?_
   rcases iS H with ⟨c6, H⟩ | ⟨c6, H⟩
   ·
    refine nB Z (tF c6) (rN 3 Z ?_)
    obtain ⟨rfl, rfl⟩ := G5 H
    exact G.Gq _ _ func150 Z Z Z ⟨Z, HS⟩
   refine yB Z (tT c6) (rN 9 Z ?_)
   rcases iE H with ⟨c7, H⟩ | ⟨c7, H⟩
   ·
    refine yB Z (tT c7) (rN 2 Z ?_)
    obtain ⟨rfl, rfl⟩ := G5 H
    exact G.Gq _ _ func150 Z Z Z ⟨Z, HS⟩
   refine nB Z (tF c7) (rN 4 Z (gW (f1 e1 (lR _) _ _ _ H HS) Z))
  exact gW (d1 K (lR _) _ _ _ H HS) Z
theorem F9.calls {a_ b_ r1 : Int} (HS : St w0 w (L)) (H : F9.f K a_ b_ = some r1) :
    Calls prog 151 #[I a_, I b_] w (F9.post w0 L r1) := by
  unfold F9.f at H
  refine cG func151 Z ?_
  refine rN 5 Z ?_
  refine G.Oq (fun d1 c1 => ?_)
  have a1 : ∀ b1, b1 ≤ K → ∀ (a_2 b_3 : Int) (w : World), F9.j1 K b1 a_2 b_3 = some r1 → St w0 w (L) → G prog 151 20 [(0, I a_2), (1, I b_3)] d1 w (F9.post w0 L r1) := by
   refine jp (fun _ _ w H _ => by rw [F9.j1] at H; cases H) fun e1 f1 a_2 b_3 w H HS => ?_
   rw [F9.j1] at H
   subst c1
   refine sQ (rG (pS 4 Z (GO.quo Z Z Z (by decide) Z (pS 6 Z (nL ?_)))))
   obtain rfl := sI H
   exact rT _ func151 Z Z ⟨Z, HS⟩
  rcases iS H with ⟨c4, H⟩ | ⟨c4, H⟩
  ·
   refine nB Z (tF c4) (G.skip (gW (a1 K (lR _) _ _ _ H HS) Z))
  refine yB Z (tT c4) (rN 1 Z (gW (a1 K (lR _) _ _ _ H HS) Z))
theorem F7.calls {sets : List Int} {i k_ : Int} {r1 : List Int} (HS : St w0 w (Own (Ar .i64) 2 A_a c_a uu sets :: L)) (H : F7.f K sets i k_ = some r1) :
    Calls prog 147 #[sV A_a sets c_a, I i, I k_] w (F7.post w0 L A_a c_a r1) := by
  unfold F7.f at H
  refine cG func147 Z ?_
  refine sQ ?_
  obtain ⟨c1, H⟩ := iN H
  have h2 := (rk (ro 0 Z) HS)
  obtain ⟨c3, H⟩ := iN H
  have h4 := (rk (ro 0 Z) HS)
  refine G.lex mixed [0, 1, 2, 4, 5, 6, 3, 8, 7, 9] (by kernel_rfl) ?_
  replace HS := HS.drew
  refine GX.ps 2 Z (qL Z Z (fun _ _ g => iX Z U56 sz2 h2 c1 g) Z (GX.ps 2 Z (qL Z Z (fun _ _ g => iX Z U56 sz2 h4 c3 g) Z (GX.l1 Z Z Z (fun _ g => GO.Ce (T := (Ar .i64)) (n := k_.toNat) (o := 0) HS (ro 0 Z) Z Z (getD_some (d := 0) (ltN c1)) Z Z na2 Z g) Z (GX.ps 1 Z (GX.l1 Z Z Z (fun _ g => GO.Ce (T := (Ar .i64)) (n := i.toNat) (o := 0) HS (ro 0 Z) Z Z (getD_some (d := 0) (ltN c3)) Z Z na2 Z g) Z (GX.ps 1 Z (GX.nil (sQ (rG (mV Z (lS Z Z U56 Z (mV Z (nL ?_))))))))))))))
  refine rN 2 Z ?_
  refine G.name (fun f1 e1 => ?_)
  have g1 : ∀ b1, b1 ≤ K → ∀ (x9 : List Int) (x10 : Int) (w : World), F7.l1 K b1 sets i k_ x9 x10 = some r1 → St w0 w (Own (Ar .i64) 2 A_a c_a uu x9 :: L) → G prog 147 33 [(0, sV A_a x9 c_a), (6, I (sets.getD k_.toNat 0)), (7, I (sets.getD i.toNat 0)), (18, sV A_a x9 c_a), (19, I (sets.length : Int)), (20, I x10)] f1 w (F7.post w0 L A_a c_a r1) := by
   refine lp (fun _ _ w H _ => by rw [F7.l1] at H; cases H) fun a1 h1 d1 x9 x10 w H HS => ?_
   rw [F7.l1] at H
   subst e1
   refine rN 3 Z ?_
   rcases iS H with ⟨c15, H⟩ | ⟨c15, H⟩
   ·
    refine nB Z (tF c15) (G.exit Z ?_)
    obtain rfl := sI H
    exact G.Rk func147 Z ⟨Z, HS⟩
   refine yB Z (tT c15) (rN 4 Z ?_)
   obtain ⟨c16, H⟩ := iN H
   refine rG (mV Z (iX Z U56 sz2 (rk (ro 0 Z) HS) c16 (GO.Ce (T := (Ar .i64)) (n := x10.toNat) (o := 0) HS (ro 0 Z) Z Z (getD_some (d := 0) (ltN c16)) Z Z na2 Z (pS 2 Z (nL (rN 2 Z ?_))))))
   rcases iS H with ⟨c17, H⟩ | ⟨c17, H⟩
   ·
    refine nB Z (tF c17) (rN 4 Z (gW (d1 a1 (lR _) _ _ _ H HS) Z))
   refine yB Z (tT c17) (rG (pS 3 Z (iX Z U56 sz2 (rk (ro 0 Z) HS) c16 (GO.He (T := (Ar .i64)) (j := 0) (n := x10.toNat) (o := 0) (vs := [I (sets.getD i.toNat 0)]) (sets.getD i.toNat 0) HS Z Au Z Z Z Z (htN na2 Z) Z (getD_some (d := 0) (ltN c16)) Z Z fun wd18 HS => nL (G.len (t := 0) (m := (x9.set x10.toNat (sets.getD i.toNat 0)).length) Z (by simp only [List.length_set] <;> rfl) (G.len (t := 18) (m := (x9.set x10.toNat (sets.getD i.toNat 0)).length) Z (by simp only [List.length_set] <;> rfl) (rN 3 Z (gW (d1 a1 (lR _) _ _ _ H HS) Z))))))))
  exact gW (g1 K (lR _) _ _ _ H HS) Z
theorem Aw.calls {tet f : Int} {g1 h1 : Int} {a1 f1 : Int} {c1 d1 : Int} {i1 : List Int} {e1 : Nat} {r1 : List Int} (HS : St w0 w (Box e1 56 [sV A_a i1 c_a] :: Own (Ar .i64) 2 A_a c_a uu i1 :: L)) (H : Aw.f K tet f g1 h1 a1 f1 c1 d1 i1 = some r1) :
    Calls prog 149 #[I tet, I f, .agg [I g1, I h1].toArray, .agg [I a1, I f1, I c1, I d1].toArray, pT e1] w (Aw.post w0 L e1 A_a c_a r1) := by
  unfold Aw.f at H
  refine cG func149 Z ?_
  refine sQ (rG (bA HS Z fun b1 wd2 HS => bA HS Z fun b3 wd4 HS => nL (rN 4 Z ?_)))
  refine G.name (fun p1 o1 => ?_)
  have q1 : ∀ n1, n1 ≤ K → ∀ (x24 : List Int) (x25 : Int) (w : World), Aw.l1 K n1 tet f g1 a1 f1 c1 d1 x24 x25 = some r1 → St w0 w (Box e1 56 [sV A_a x24 c_a] :: Own (Ar .i64) 2 A_a c_a uu x24 :: Box b1 107 [I g1, I h1] :: Box b3 131 [I a1, I f1, I c1, I d1] :: L) → G prog 149 46 [(0, I tet), (1, I f), (4, pT e1), (7, pT b1), (8, pT b3), (12, I x25)] p1 w (Aw.post w0 L e1 A_a c_a r1) := by
   refine lp (fun _ _ w H _ => by rw [Aw.l1] at H; cases H) fun k1 s1 m1 x24 x25 w H HS => ?_
   rw [Aw.l1] at H
   subst o1
   refine rN 3 Z ?_
   rcases iS H with ⟨c46, H⟩ | ⟨c46, H⟩
   ·
    refine nB Z (tF c46) (G.exit Z ?_)
    obtain rfl := sI H
    exact G.Rk func149 Z ⟨Z, (HS.pk 4 [0, 1] Z)⟩
   refine yB Z (tT c46) (rN 6 Z ?_)
   obtain ⟨t47, t48, h49, H⟩ := Dv H
   refine rG (mV Z (fJ Vb Z (Fq.calls HS  h49) (fun _ wd50 ⟨h51, HS⟩ => ⟨_, h51, (pS 5 Z (nL (sQ ?_)))⟩)))
   rcases iE H with ⟨c53, H⟩ | ⟨c53, H⟩
   ·
    refine rG (pS 4 Z (kN 23 Z (nT c53) (oF Z (oF Z (oF Z (GO.Ir Z Z Z Z Z (nL (rN 5 Z (gW (m1 k1 (lR _) _ _ _ H HS) Z)))))))))
   refine rG (pS 4 Z (kN 23 Z (nF c53) (oN Z (mV Z (bK (oN Z (mV Z (bK (oN Z (GO.neq Z Z Z Z (bK (GO.Ib Z Z Z Z Z (nL ?_)))))))))))))
   rcases iE H with ⟨c54, H⟩ | ⟨c54, H⟩
   ·
    refine nB Z (nT c54) (rN 4 Z (gW (m1 k1 (lR _) _ _ _ H HS) Z))
   refine yB Z (nF c54) ?_
   obtain ⟨c55, H⟩ := iN H
   obtain ⟨c56, H⟩ := iN H
   obtain ⟨t57, h58, H⟩ := bI H
   obtain ⟨t61, h62, H⟩ := bI H
   obtain ⟨c63, H⟩ := iN H
   refine G.Gy mixed (fun w => St w0 w (Box e1 56 [sV A_a x24 c_a] :: Box b1 107 [I g1, I h1] :: Box b3 131 [I a1, I f1, I c1, I d1] :: L)) [0, 6, 10, 13] [1, 2, 3, 4, 5, 8, 9, 11, 12, 0, 6, 7, 10, 13, 14, 15, 16] [] (by kernel_rfl) (by kernel_rfl) (HS.drew.pk 4 [0, 2, 3] Z) ?_
   replace HS := HS.drew
   refine GX.ps 4 Z (qL Z Z (fun _ _ g => fL b1 0 C9 Z g) Z (GX.ps 1 Z (qL Z Z (fun _ _ g => GO.ixW Z Z Z Gg sz2 c55 Z g) Z (GX.ps 1 Z (qL Z Z (fun _ _ g => GO.ixW Z Z Z Gg sz2 c56 Z g) Z (GX.ls Z Z Z (HS.pk 4 [0, 2, 3] Z) (fun _ HS _ g => lB 0 HS Z Hy Z g) Z (GX.ls Z Z Z (HS.pk 4 [0, 2, 3] Z) (fun _ HS _ g => lB 1 HS Z na2 Z g) Z (GX.ps 1 Z (GX.ls Z Z Z (HS.pk 4 [0, 2, 3] Z) (fun _ HS _ g => GO.ldW (j := 2) ([a1, f1, c1, d1] : List Int) HS Z Z Z c55 Z Z na2 Z g) Z (GX.ls Z Z Z (HS.pk 4 [0, 2, 3] Z) (fun _ HS _ g => GO.ldW (j := 2) ([a1, f1, c1, d1] : List Int) HS Z Z Z c56 Z Z na2 Z g) Z (GX.l2 Z (fJ Uz Z (F9.calls HS  h58) (fun _ wd59 ⟨h60, HS⟩ => ⟨_, h60, (GX.fin (HS.pk 4 [0, 2, 3] Z) (GX.ps 1 Z ?_))⟩)))))))))))))
   refine GX.l2 Z ?_
   replace HS := HS.pk 4 [1, 0, 2, 3] Z
   refine fJ pJ Z (F7.calls HS  h62) (fun _ wd64 ⟨h65, HS⟩ => ⟨_, h65, (GX.fin (HS.pk 4 [1, 2, 3] Z) (GX.nil ?_))⟩)
   replace HS := HS.J4 (j := 1) (cs' := [sV A_a t61 c_a]) Z (by simp only [sV, List.length_set, c63] <;> rfl)
   refine rN 3 Z (gW (m1 k1 (lR _) _ _ _ H (HS.pk 4 [1, 0, 2, 3] Z)) Z)
  exact gW (q1 K (lR _) _ _ _ H (HS.pk 4 [2, 3, 1, 0] Z)) Z
theorem Af.calls {a1 : List (List Ab)} {e1 : List Int} {y_a : Nat → (Ty.slice 107 Ad).Lay} {c1 : Nat} {r1 : List Int} (HS : St w0 w (Box c1 56 [sV A_b e1 c_b] :: Own (Ar .i64) 2 A_b c_b uu e1 :: L)) (r_a : Ca w0 L (Ty.slice 107 Ad) A_a c_a y_a a1) (H : Af.f K a1 e1 = some r1) :
    Calls prog 145 #[.agg [sV A_a a1 c_a].toArray, .func (.func 149) #[] #[pT c1]] w (Af.post w0 L c1 A_b c_b r1) := by
  unfold Af.f at H
  refine cG func145 Z ?_
  refine sQ (rG (bA HS Z fun b1 wd2 HS => nL (sQ (rG (fL b1 0 Dk Z (lB 0 HS Z Ga Z (lS Z Z U29 Z (mV Z (nL (rN 2 Z ?_))))))))))
  refine G.name (fun n1 m1 => ?_)
  have o1 : ∀ h1, h1 ≤ K → ∀ (x79 : List Int) (x80 : Int) (w : World), Af.l1 K h1 a1 x79 x80 = some r1 → St w0 w (Box c1 56 [sV A_b x79 c_b] :: Own (Ar .i64) 2 A_b c_b uu x79 :: L) → G prog 145 36 [(1, .func (.func 149) #[] #[pT c1]), (9, sV A_a a1 c_a), (10, I (a1.length : Int)), (11, I x80)] n1 w (Af.post w0 L c1 A_b c_b r1) := by
   refine lp (fun _ _ w H _ => by rw [Af.l1] at H; cases H) fun f1 u1 t1 x79 x80 w H HS => ?_
   rw [Af.l1] at H
   subst m1
   refine rN 3 Z ?_
   rcases iS H with ⟨c157, H⟩ | ⟨c157, H⟩
   ·
    refine nB Z (tF c157) (G.exit Z ?_)
    obtain rfl := sI H
    exact G.Rk func145 Z ⟨Z, HS⟩
   refine yB Z (tT c157) (rN 4 Z ?_)
   obtain ⟨c158, H⟩ := iN H
   refine rG (mV Z (iX Z U29 Ie (rk (rD 2 r_a) HS) c158 (GO.Ce (T := (Ty.slice 107 Ad)) (n := x80.toNat) (o := 0) HS (rD 2 r_a) Z Z (getD_some (d := []) (ltN c158)) Z Z Ii Z (pS 2 Z (nL (sQ (rG (mV Z (lS Z Z U77 Z (mV Z (nL (rN 2 Z ?_))))))))))))
   refine G.name (fun q1 p1 => ?_)
   have s1 : ∀ i1, i1 ≤ f1 → ∀ (x183 : List Int) (x184 : Int) (w : World), Af.l4 K i1 a1 x80 x183 x184 = some r1 → St w0 w (Box c1 56 [sV A_b x183 c_b] :: Own (Ar .i64) 2 A_b c_b uu x183 :: L) → G prog 145 36 [(1, .func (.func 149) #[] #[pT c1]), (4, I x80), (9, sV A_a a1 c_a), (10, I (a1.length : Int)), (11, I x80), (16, sV ((y_a x80.toNat).A) (a1.getD x80.toNat []) ((y_a x80.toNat).c)), (17, I ((a1.getD x80.toNat []).length : Int)), (18, I x184)] q1 w (Af.post w0 L c1 A_b c_b r1) := by
    refine lp (fun _ _ w H _ => by rw [Af.l4] at H; cases H) fun d1 k1 g1 x183 x184 w H HS => ?_
    rw [Af.l4] at H
    subst p1
    refine rN 3 Z ?_
    rcases iS H with ⟨c209, H⟩ | ⟨c209, H⟩
    ·
     refine nB Z (tF c209) (rN 4 Z (gW (t1 d1 (Nat.le_of_succ_le k1) _ _ _ H HS) Z))
    refine yB Z (tT c209) (rN 4 Z ?_)
    obtain ⟨c210, H⟩ := iN H
    obtain ⟨e211, h212, H⟩ := Dl H
    refine rG (mV Z (GO.ix Z Z Z U77 Gb ((Ca.elem (rD 2 r_a) c158.1 c158.2) _ HS).2.2.1 c210.1 c210.2 Z (GO.Hf (T := Ad) (n := x184.toNat) HS (Ca.elem (rD 2 r_a) c158.1 c158.2) Z Z (Cs (ltN c210) h212) Dq Z (GO.alloc HS Z Jf Z Z fun b213 wd214 HS => aS Z (sW 0 HS Z Dq Z fun wd215 HS => nL (sQ ?_))))))
    obtain ⟨t216, h217, H⟩ := bI H
    refine rG (lW 0 HS Z Dq (fJ M8 Z (Bn.calls HS  h217) (fun _ wd218 ⟨h219, HS⟩ => ⟨_, h219, (GO.not Z Z Z (nL ?_))⟩)))
    rcases iE H with ⟨c220, H⟩ | ⟨c220, H⟩
    ·
     refine nB Z (congrArg Bool.not c220) (rN 4 Z (gW (g1 d1 (lR _) _ _ _ H (HS.pk 3 [1, 2] Z)) Z))
    refine yB Z (congrArg Bool.not (De c220)) ?_
    obtain ⟨t221, t222, t223, t224, h225, H⟩ := D9 H
    obtain ⟨t228, h229, H⟩ := bI H
    obtain ⟨c230, H⟩ := iN H
    refine G.Gy mixed (fun w => St w0 w (Box b213 107 [I e211.Tet, I e211.Perm] :: L)) [3, 5] [0, 1, 2, 4, 3, 5, 6, 7] [] (by kernel_rfl) (by kernel_rfl) (HS.drew.pk 3 [0] Z) ?_
    replace HS := HS.drew
    refine GX.ps 3 Z (qL Z Z (fun _ _ g => fL b213 1 F4 Z g) Z (GX.ls Z Z Z (HS.pk 3 [0] Z) (fun _ HS _ g => lW 0 HS Z Dq g) Z (GX.ls Z Z Z (HS.pk 3 [0] Z) (fun _ HS _ g => lB 0 HS Z na2 Z g) Z (GX.l2 Z (fJ Km Z (Ct.calls HS  h225) (fun _ wd226 ⟨h227, HS⟩ => ⟨_, h227, (GX.fin (HS.pk 3 [0] Z) (GX.l2 Z ?_))⟩))))))
    replace HS := HS.pk 3 [1, 2, 0] Z
    refine GO.clo Z Z func149 bP.2.1 bP.2.2 Z Z (Aw.calls HS  h229) (fun _ wd231 ⟨h232, HS⟩ => ⟨_, h232, (GX.fin (HS.pk 3 [2] Z) (GX.nil (rN 3 Z (gW (g1 d1 (lR _) _ _ _ H (HS.pk 3 [0, 1] Z)) Z))))⟩)
   exact gW (s1 f1 (lR _) _ _ _ H HS) Z
  exact gW (o1 K (lR _) _ _ _ H (HS.pk 3 [1, 2] Z)) Z
theorem C8.calls {roots : List Int} {r1 : List Int} (HS : St w0 w (L)) (r_a : Ca w0 L (Ar .i64) A_a c_a uu roots) (H : C8.f K roots = some r1) :
    Calls prog 148 #[sV A_a roots c_a] w (C8.post w0 L r1) := by
  unfold C8.f at H
  refine cG func148 Z ?_
  refine rN 3 Z (rG (GO.Uq .i64 .i64 HS Z Z fun b1 wd2 HS => aS Z (nL (rN 4 Z (rG (mV Z (lS Z Z U56 Z (mV Z (nL (rN 2 Z ?_))))))))))
  refine G.name (fun m1 k1 => ?_)
  have o1 : ∀ h1, h1 ≤ K → ∀ (d1 : List (Int × Int)) (A17 : Option Addr) (c18 : Nat) (a1 : List Int) (x20 : Int) (w : World), C8.l1 K h1 roots d1 a1 x20 = some r1 → St w0 w (O1 b1 .i64 .i64 d1 :: Own (Ar .i64) 2 A17 c18 uu a1 :: L) → G prog 148 36 [(3, .map (some b1)), (4, sV A17 a1 c18), (10, sV A_a roots c_a), (11, I (roots.length : Int)), (12, I x20)] m1 w (C8.post w0 L r1) := by
   refine lp (fun _ _ _ _ _ w H _ => by rw [C8.l1] at H; cases H) fun e1 t1 s1 d1 A17 c18 a1 x20 w H HS => ?_
   rw [C8.l1] at H
   subst k1
   refine rN 3 Z ?_
   rcases iS H with ⟨c34, H⟩ | ⟨c34, H⟩
   ·
    refine nB Z (tF c34) (rN 3 Z ?_)
    obtain rfl := sI H
    exact rT _ func148 Z Z ⟨_, _, Z, (HS.pk 2 [1] Z)⟩
   refine yB Z (tT c34) (rN 4 Z ?_)
   obtain ⟨c35, H⟩ := iN H
   refine rG (iX Z U56 sz2 (rk (rD 2 r_a) HS) c35 (GO.Ce (T := (Ar .i64)) (n := x20.toNat) (o := 0) HS (rD 2 r_a) Z Z (getD_some (d := 0) (ltN c35)) Z Z na2 Z (aS Z (nL (rN 2 Z (rG (pS 2 Z (GO.iM (j := 0) HS Z Z Z Z fT U2 zr2 Z (pS 5 Z (nL (rN 2 Z ?_)))))))))))
   refine G.Oq (fun q1 i1 => ?_)
   have f1 : ∀ g1, g1 ≤ e1 → ∀ (c1 : List (Int × Int)) (w : World), C8.j4 K g1 roots a1 x20 c1 = some r1 → St w0 w (O1 b1 .i64 .i64 c1 :: Own (Ar .i64) 2 A17 c18 uu a1 :: L) → G prog 148 36 [(3, .map (some b1)), (4, sV A17 a1 c18), (6, I (roots.getD x20.toNat 0)), (10, sV A_a roots c_a), (11, I (roots.length : Int)), (12, I x20)] q1 w (C8.post w0 L r1) := by
    refine jp (fun _ w H _ => by rw [C8.j4] at H; cases H) fun p1 n1 c1 w H HS => ?_
    rw [C8.j4] at H
    subst i1
    obtain ⟨c44, H⟩ := iN H
    refine rG (pS 3 Z (GO.qI (j := 0) HS Z Z Z Z fT U2 zr2 Z (GO.Cr (el := 2) ([I ((Je c1 (roots.getD x20.toNat 0)).getD 0)]) HS Z Z (fun _ => by kernel_rfl) Z fun b39 wd40 HS => GO.app1 (T := (Ar .i64)) (j := 2) (jb := 0) ((Je c1 (roots.getD x20.toNat 0)).getD 0) HS Z Z Au Z Z Z U56 K5 Z Z Z c44 Z fun A42 c43 wd41 HS => aS Z (nL (rN 3 Z (gW (s1 p1 (Nat.le_of_succ_le n1) _ _ _ _ _ _ H (HS.pk 3 [1, 2] Z)) Z))))))
   rcases iE H with ⟨c45, H⟩ | ⟨c45, H⟩
   ·
    refine nB Z (congrArg Bool.not c45) (G.skip (gW (f1 e1 (lR _) _ _ H HS) Z))
   refine yB Z (congrArg Bool.not (De c45)) (rG (pS 3 Z (GO.qR (j := 0) HS Z Z Z fT Z (GO.tZ (j := 0) HS Z Z Z Z Z fT U2 fun wd46 HS => nL (gW (f1 e1 (lR _) _ _ H HS) Z)))))
  replace HS := HS.Da (Ar .i64) 2 uu
  exact gW (o1 K (lR _) _ _ _ _ _ _ H (HS.pk 2 [1, 0] Z)) Z
theorem Bj.calls {a1 : List (List Ab)} {y_a : Nat → (Ty.slice 107 Ad).Lay} {r1 : List Int} (HS : St w0 w (L)) (r_a : Ca w0 L (Ty.slice 107 Ad) A_a c_a y_a a1) (H : Bj.f K a1 = some r1) :
    Calls prog 124 #[.agg [sV A_a a1 c_a].toArray] w (Bj.post w0 L r1) := by
  unfold Bj.f at H
  refine cG func124 Z ?_
  refine sQ (rG (bA HS Z fun b1 wd2 HS => aS Z (nL (sQ ?_))))
  obtain ⟨t3, h4, H⟩ := bI H
  obtain ⟨t7, h8, H⟩ := bI H
  refine rG (fL b1 0 Dk Z (lB 0 HS Z Ga Z (fJ Qd Z (Bz.calls HS (rD 1 r_a) h4) (fun _ wd5 ⟨h6, HS⟩ => ⟨_, h6, (GO.mul Z Z Z Z (fJ dP Z (Ew.calls HS  h8) (fun _ wd11 ⟨A9, c10, h12, HS⟩ => ⟨_, h12, (GO.alloc HS Z dN Z Z fun b13 wd14 HS => GO.Gu (j := 0) (vs := [sV A9 t7 c10]) ([sV A9 t7 c10]) HS Z Z Z Z Z (htN Hy Z) Z Z Z fun wd15 HS => nL (sQ ?_))⟩)))⟩))))
  obtain ⟨t16, h17, H⟩ := bI H
  obtain ⟨c18, H⟩ := iN H
  refine rG (lW 2 HS Z Ep (GO.Vg Z Z Z Z ?_))
  replace HS := HS.pk 3 [0, 1, 2] Z
  refine fJ nU Z (Af.calls HS (rD 1 r_a) h17) (fun _ wd19 ⟨h20, HS⟩ => ⟨_, h20, (nL (sQ ?_))⟩)
  obtain ⟨t21, h22, H⟩ := bI H
  refine rG (lB 0 HS Z Hy Z (fJ mX Z (C8.calls HS (ro 1 Z) h22) (fun _ wd25 ⟨A23, c24, h26, HS⟩ => ⟨_, h26, (aS Z (nL ?_))⟩)))
  obtain rfl := sI H
  exact rT _ func124 Z Z ⟨_, _, Z, (HS.pk 4 [0] Z)⟩
theorem Ch.calls {x : List Int} {r1 : Int} (HS : St w0 w (L)) (r_a : Ca w0 L (Ar .i64) A_a c_a uu x) (H : Ch.f K x = some r1) :
    Calls prog 168 #[sV A_a x c_a] w (Ch.post w0 L r1) := by
  unfold Ch.f at H
  refine cG func168 Z ?_
  refine rN 4 Z (rG (mV Z (lS Z Z U56 Z (GO.lss Z Z Z Z (nL ?_)))))
  rcases iE H with ⟨c2, H⟩ | ⟨c2, H⟩
  ·
   refine yB Z (tT c2) ?_
   cases H
  refine nB Z (tF c2) (rN 2 Z ?_)
  obtain ⟨c3, H⟩ := iN H
  refine rG (mV Z (iX Z U56 sz2 (rk r_a HS) c3 (GO.Ce (T := (Ar .i64)) (n := 0) (o := 0) HS r_a Z Z (getD_some (d := 0) (ltN c3)) Z Z na2 Z (aS Z (nL (rN 5 Z ?_))))))
  refine G.name (fun b1 d1 => ?_)
  have c1 : ∀ a1, a1 ≤ K → ∀ (m_6 i_7 : Int) (w : World), Ch.l2 K a1 x m_6 i_7 = some r1 → St w0 w (L) → G prog 168 25 [(0, sV A_a x c_a), (3, I m_6), (4, I i_7)] b1 w (Ch.post w0 L r1) := by
   refine lp (fun _ _ w H _ => by rw [Ch.l2] at H; cases H) fun e1 g1 f1 m_6 i_7 w H HS => ?_
   rw [Ch.l2] at H
   subst d1
   refine rN 2 Z (rG (pS 2 Z (lS Z Z U56 Z (GO.lss Z Z Z Z (nL ?_)))))
   rcases iS H with ⟨c10, H⟩ | ⟨c10, H⟩
   ·
    refine nB Z (tF c10) (rN 3 Z ?_)
    obtain rfl := sI H
    exact rT _ func168 Z Z ⟨Z, HS⟩
   refine yB Z (tT c10) (rN 3 Z ?_)
   obtain ⟨c11, H⟩ := iN H
   refine rG (pS 3 Z (iX Z U56 sz2 (rk r_a HS) c11 (GO.Ce (T := (Ar .i64)) (n := i_7.toNat) (o := 0) HS r_a Z Z (getD_some (d := 0) (ltN c11)) Z Z na2 Z (GO.max2 Z Z Z Z (aS Z (nL (rN 3 Z (gW (f1 e1 (lR _) _ _ _ H HS) Z))))))))
  exact gW (c1 K (lR _) _ _ _ H HS) Z
theorem Gf.calls {classes : List Int} {r1 : Int} (HS : St w0 w (L)) (r_a : Ca w0 L (Ar .i64) A_a c_a uu classes) (H : Gf.f K classes = some r1) :
    Calls prog 160 #[sV A_a classes c_a] w (Gf.post w0 L r1) := by
  unfold Gf.f at H
  refine cG func160 Z ?_
  refine rN 4 Z (rG (mV Z (lS Z Z U56 Z (GO.eql Z Z Z Z (nL ?_)))))
  rcases iE H with ⟨c1, H⟩ | ⟨c1, H⟩
  ·
   refine yB Z (tT c1) (rN 2 Z ?_)
   obtain rfl := sI H
   exact rT _ func160 Z Z ⟨Z, HS⟩
  refine nB Z (tF c1) (rN 2 Z ?_)
  obtain ⟨t2, h3, H⟩ := bI H
  refine rG (mV Z (fJ pR Z (Ch.calls HS r_a h3) (fun _ wd4 ⟨h5, HS⟩ => ⟨_, h5, (pS 2 Z (nL ?_))⟩)))
  obtain rfl := sI H
  exact rT _ func160 Z Z ⟨Z, HS⟩
theorem Jc.calls {x r1 : Int} (HS : St w0 w (L)) (H : Jc.f x = some r1) :
    Calls prog 171 #[I x] w (Jc.post w0 L r1) := by
  unfold Jc.f at H
  refine cG func171 Z ?_
  refine rN 5 Z ?_
  rcases iE H with ⟨c1, H⟩ | ⟨c1, H⟩
  ·
   refine yB Z (tT c1) (rN 2 Z ?_)
   obtain rfl := sI H
   exact rT _ func171 Z Z ⟨Z, HS⟩
  refine nB Z (tF c1) (rN 3 Z ?_)
  obtain rfl := sI H
  exact rT _ func171 Z Z ⟨Z, HS⟩
theorem Cg.calls {next same : Int} {d1 a1 : List Int} {b1 : Int} {n1 : List (Int × Bool)} {e1 : List Int} {k1 : Nat} {A_a : Option Addr} {c_a i1 : Nat} {A_b : Option Addr} {c_b g1 : Nat} {h1 m1 f1 : Nat} {r1 r2 : List Int} {r3 : List (Int × Bool)} (HS : St w0 w (Box k1 56 [sV A_a d1 c_a] :: Own (Ar .i64) 2 A_a c_a uu d1 :: Box i1 56 [sV A_b a1 c_b] :: Own (Ar .i64) 2 A_b c_b uu a1 :: Box g1 3 [I b1] :: Box h1 199 [.map (some m1)] :: Hw m1 (Value.int .i64) Value.bool n1 :: Box f1 56 [sV A_c e1 c_c] :: L)) (r_c : Ca w0 L (Ar .i64) A_c c_c uu e1) (H : Cg.f next same d1 a1 b1 n1 e1 = some (r1, r2, r3)) :
    Calls prog 170 #[I next, I same, pT k1, pT i1, pT g1, pT h1, pT f1] w (Cg.post w0 L b1 e1 k1 A_a c_a i1 g1 h1 m1 f1 A_c c_c r1 r2 r3) := by
  unfold Cg.f at H
  refine cG func170 Z ?_
  refine sQ ?_
  obtain ⟨c1, H⟩ := iN H
  have h2 := (rk (ro 3 Z) HS)
  obtain ⟨c3, H⟩ := iN H
  have h4 := (rk (ro 1 Z) HS)
  refine G.lex mixed [7, 0, 1, 2, 3, 4, 5, 6, 8, 9] (by kernel_rfl) ?_
  replace HS := HS.drew
  refine GX.ps 1 Z (GX.l1 Z Z Z (fun _ g => lB 0 HS Z Hy Z g) Z (GX.l1 Z Z Z (fun _ g => lB 2 HS Z Hy Z g) Z (GX.l1 Z Z Z (fun _ g => lB 4 HS Z na3 Z g) Z (qL Z Z (fun _ _ g => iX Z U56 sz2 h2 c1 g) Z (GX.l1 Z Z Z (fun _ g => GO.Ce (T := (Ar .i64)) (n := b1.toNat) (o := 0) HS (ro 3 Z) Z Z (getD_some (d := 0) (ltN c1)) Z Z na2 Z g) Z (qL Z Z (fun _ _ g => iX Z U56 sz2 h4 c3 g) Z (GX.l1 Z Z Z (fun _ g => GO.Ce (T := (Ar .i64)) (n := (a1.getD b1.toNat 0).toNat) (o := 0) HS (ro 1 Z) Z Z (getD_some (d := 0) (ltN c3)) Z Z na2 Z g) Z (GX.ps 2 Z (GX.nil (sQ ?_))))))))))
  obtain ⟨c5, H⟩ := iN H
  refine rG (lB 0 HS Z Hy Z (mV Z (iX Z U56 sz2 (rk (ro 1 Z) HS) c5 (GO.Ce (T := (Ar .i64)) (n := next.toNat) (o := 0) HS (ro 1 Z) Z Z (getD_some (d := 0) (ltN c5)) Z Z na2 Z (nL (rN 3 Z ?_))))))
  rcases iS H with ⟨c6, H⟩ | ⟨c6, H⟩
  ·
   refine nB Z (tF c6) (sQ (rG (mV Z (GO.neg Z Z Z (pS 2 Z (nL ?_))))))
   rcases iS H with ⟨c15, H⟩ | ⟨c15, H⟩
   ·
    refine nB Z (tF c15) (rN 2 Z ?_)
    obtain ⟨rfl, rfl, rfl⟩ := Mt H
    exact G.Rk func170 Z ⟨_, _, Z, HS⟩
   refine yB Z (tT c15) ?_
   obtain ⟨c16, H⟩ := iN H
   refine G.lex mixed [2, 0, 1, 3, 4, 5] (by kernel_rfl) ?_
   replace HS := HS.drew
   refine GX.ps 1 Z (GX.l1 Z Z Z (fun _ g => lB 5 HS Z dI Z g) Z (GX.l1 Z Z Z (fun _ g => lB 7 HS Z Hy Z g) Z (qL Z Z (fun _ _ g => iX Z U56 sz2 (rk (rD 8 r_c) HS) c16 g) Z (GX.l1 Z Z Z (fun _ g => GO.Ce (T := (Ar .i64)) (n := next.toNat) (o := 0) HS (rD 8 r_c) Z Z (getD_some (d := 0) (ltN c16)) Z Z na2 Z g) Z (GX.l2 Z (GO.kF (e1.getD next.toNat 0) true uA HS (j := 6) Z Z Z Z Z rC fun wd17 HS => GX.fin tv (GX.nil (G.Rh ?_))))))))
   obtain ⟨rfl, rfl, rfl⟩ := Mt H
   exact G.Rk func170 Z ⟨_, _, Z, HS⟩
  refine yB Z (tT c6) (sQ (rG (lB 0 HS Z Hy Z (pS 2 Z (iX Z U56 sz2 (rk (ro 1 Z) HS) c5 (GO.He (T := (Ar .i64)) (j := 1) (n := next.toNat) (o := 0) (vs := [I (w64 ((d1.getD ((a1.getD b1.toNat 0).toNat) 0) * same))]) (w64 ((d1.getD ((a1.getD b1.toNat 0).toNat) 0) * same)) HS Z Au Z Z Z Z (htN na2 Z) Z (getD_some (d := 0) (ltN c5)) Z Z fun wd7 HS => nL ?_))))))
  replace HS := HS.J4 (j := 0) (cs' := [sV A_a (d1.set next.toNat (w64 ((d1.getD ((a1.getD b1.toNat 0).toNat) 0) * same))) c_a]) Z (by simp only [sV, List.length_set] <;> rfl)
  obtain ⟨c13, H⟩ := iN H
  refine rG (lB 2 HS Z Hy Z (mV Z (GO.Cr (el := 2) ([I next]) HS Z Z (fun _ => by kernel_rfl) Z fun b8 wd9 HS => GO.app1 (T := (Ar .i64)) (j := 4) (jb := 0) next HS Z Z Au Z Z Z U56 K5 Z Z Z c13 Z fun A11 c12 wd10 HS => GO.Gu (j := 3) (vs := [sV A11 (a1 ++ [next]) c12]) ([sV A11 (a1 ++ [next]) c12]) HS Z Z Z Z Z (htN Hy Z) Z Z Z fun wd14 HS => nL (G.Rh ?_))))
  obtain ⟨rfl, rfl, rfl⟩ := Mt H
  exact G.Rk func170 Z ⟨_, _, Z, (HS.pk 9 [1, 2, 3, 4, 5, 6, 7, 8] Z)⟩
theorem Ai.calls {k1 : List (List Ab)} {id : Int} {m1 n1 : List Int} {e1 : Int} {p1 : List (Int × Bool)} {a1 : List Int} {y_a : Nat → (Ty.slice 107 Ad).Lay} {c1 : Nat} {A_b : Option Addr} {c_b g1 : Nat} {A_c : Option Addr} {c_c i1 : Nat} {f1 d1 h1 : Nat} {r1 r2 : List Int} {r3 : List (Int × Bool)} (HS : St w0 w (Box c1 56 [sV A_b m1 c_b] :: Own (Ar .i64) 2 A_b c_b uu m1 :: Box g1 56 [sV A_c n1 c_c] :: Own (Ar .i64) 2 A_c c_c uu n1 :: Box i1 3 [I e1] :: Box f1 199 [.map (some d1)] :: Hw d1 (Value.int .i64) Value.bool p1 :: Box h1 56 [sV A_d a1 c_d] :: L)) (r_a : Ca w0 L (Ty.slice 107 Ad) A_a c_a y_a k1) (r_d : Ca w0 L (Ar .i64) A_d c_d uu a1) (H : Ai.f K k1 id m1 n1 e1 p1 a1 = some (r1, r2, r3)) :
    Calls prog 169 #[.agg [sV A_a k1 c_a].toArray, I id, .func (.func 170) #[] #[pT c1, pT g1, pT i1, pT f1, pT h1]] w (Ai.post w0 L e1 a1 c1 A_b c_b g1 i1 f1 d1 h1 A_d c_d r1 r2 r3) := by
  unfold Ai.f at H
  refine cG func169 Z ?_
  refine sQ (rG (bA HS Z fun b1 wd2 HS => nL (sQ (rG (mV Z (GO.quo Z Z Z (by decide) Z (aS Z (nL (sQ ?_)))))))))
  obtain ⟨t3, t4, h5, H⟩ := Dv H
  refine rG (mV Z (GO.rem Z Z Z (by decide) Z (fJ Vb Z (Fq.calls HS  h5) (fun _ wd6 ⟨h7, HS⟩ => ⟨_, h7, (pS 5 Z (nL (sQ ?_)))⟩))))
  obtain ⟨t10, h11, H⟩ := bI H
  refine rG (pS 2 Z (GO.Cr (el := 2) ([I t3, I t4]) HS Z Z (fun _ => by kernel_rfl) Z fun b8 wd9 HS => ?_))
  replace HS := HS.Ey (T := (Ar .i64)) (j := 0) Z Au uu ([t3, t4] : List Int) Z (Hq Z)
  refine GO.Gw (t := 23) (m := ([t3, t4] : List Int).length) (c' := ([t3, t4] : List Int).length) Z Z Z (fJ Ro Z (Eo.calls HS (ro 0 Z) h11) (fun _ wd14 ⟨A12, c13, h15, HS⟩ => ⟨_, h15, (lS Z Z U56 Z (mV Z (nL (rN 2 Z ?_))))⟩))
  refine G.name (fun v1 u1 => ?_)
  have t1 : ∀ o1, o1 ≤ K → ∀ (x59 : List Int) (A60 : Option Addr) (c61 : Nat) (x62 : List Int) (x63 : List (Int × Bool)) (x64 : Int) (w : World), Ai.l1 K o1 k1 id e1 a1 t3 t4 t10 x59 x62 x63 x64 = some (r1, r2, r3) → St w0 w (Box c1 56 [sV A_b x59 c_b] :: Own (Ar .i64) 2 A_b c_b uu x59 :: Box g1 56 [sV A60 x62 c61] :: Own (Ar .i64) 2 A60 c61 uu x62 :: Box i1 3 [I e1] :: Box f1 199 [.map (some d1)] :: Hw d1 (Value.int .i64) Value.bool x63 :: Box h1 56 [sV A_d a1 c_d] :: Box b1 31 [sV A_a k1 c_a] :: Own (Ar .i64) 2 A12 c13 uu t10 :: L) → G prog 169 65 [(2, .func (.func 170) #[] #[pT c1, pT g1, pT i1, pT f1, pT h1]), (3, pT b1), (6, I (w64 (id.tdiv 6))), (7, I t3), (8, I t4), (24, sV A12 t10 c13), (25, I (t10.length : Int)), (26, I x64)] v1 w (Ai.post w0 L e1 a1 c1 A_b c_b g1 i1 f1 d1 h1 A_d c_d r1 r2 r3) := by
   refine lp (fun _ _ _ _ _ _ w H _ => by rw [Ai.l1] at H; cases H) fun q1 x1 s1 x59 A60 c61 x62 x63 x64 w H HS => ?_
   rw [Ai.l1] at H
   subst u1
   refine rN 3 Z ?_
   rcases iS H with ⟨c108, H⟩ | ⟨c108, H⟩
   ·
    refine nB Z (tF c108) (G.exit Z ?_)
    obtain ⟨rfl, rfl, rfl⟩ := Mt H
    exact G.Rk func169 Z ⟨_, _, Z, (HS.pk 10 [0, 1, 2, 3, 4, 5, 6, 7] Z)⟩
   refine yB Z (tT c108) (rN 4 Z ?_)
   obtain ⟨c109, H⟩ := iN H
   refine rG (iX Z U56 sz2 (rk (ro 9 Z) HS) c109 (GO.Ce (T := (Ar .i64)) (n := x64.toNat) (o := 0) HS (ro 9 Z) Z Z (getD_some (d := 0) (ltN c109)) Z Z na2 Z (aS Z (nL (sQ ?_)))))
   obtain ⟨c110, H⟩ := iN H
   obtain ⟨c111, H⟩ := iN H
   obtain ⟨e112, h113, H⟩ := Dl H
   refine rG (fL b1 0 Dk Z (lB 8 HS Z Ga Z (mV Z (iX Z U29 Ie (rk (rD 10 r_a) HS) c110 (GO.Ce (T := (Ty.slice 107 Ad)) (n := (w64 (id.tdiv 6)).toNat) (o := 0) HS (rD 10 r_a) Z Z (getD_some (d := []) (ltN c110)) Z Z Ii Z (mV Z (GO.ix Z Z Z U77 Gb ((Ca.elem (rD 10 r_a) c110.1 c110.2) _ HS).2.2.1 c111.1 c111.2 Z (GO.Hf (T := Ad) (n := (t10.getD x64.toNat 0).toNat) HS (Ca.elem (rD 10 r_a) c110.1 c110.2) Z Z (Cs (ltN c111) h113) Dq Z (GO.alloc HS Z Jf Z Z fun b114 wd115 HS => sW 0 HS Z Dq Z fun wd116 HS => nL (rN 2 Z ?_))))))))))
   obtain ⟨t117, h118, H⟩ := bI H
   refine rG (lW 0 HS Z Dq (fJ M8 Z (Bn.calls HS  h118) (fun _ wd119 ⟨h120, HS⟩ => ⟨_, h120, (nL ?_)⟩)))
   rcases iE H with ⟨c121, H⟩ | ⟨c121, H⟩
   ·
    refine yB Z c121 (rN 3 Z (gW (s1 q1 (lR _) _ _ _ _ _ _ _ H (HS.pk 11 [1, 2, 3, 4, 5, 6, 7, 8, 9, 10] Z)) Z))
   refine nB Z (De c121) (rN 2 Z ?_)
   obtain ⟨t122, t123, t124, t125, h126, H⟩ := D9 H
   refine rG (fL b114 1 F4 Z (lB 0 HS Z na2 Z (fJ Km Z (Ct.calls HS  h126) (fun _ wd127 ⟨h128, HS⟩ => ⟨_, h128, (GO.alloc HS Z J8 Z Z fun b129 wd130 HS => sW 0 HS Z Jj Z fun wd131 HS => nL ?_)⟩))))
   obtain ⟨c132, H⟩ := iN H
   obtain ⟨c133, H⟩ := iN H
   obtain ⟨t134, h135, H⟩ := bI H
   obtain ⟨t138, h139, H⟩ := bI H
   obtain ⟨t142, t143, t144, h145, H⟩ := I6 H
   obtain ⟨c146, H⟩ := iN H
   refine G.Gy mixed (fun w => St w0 w (Box b129 131 [I t122, I t123, I t124, I t125] :: Box b114 107 [I e112.Tet, I e112.Perm] :: L)) [2, 6, 9, 14, 17] [0, 1, 4, 5, 7, 8, 12, 13, 15, 16, 2, 3, 6, 9, 14, 17, 18, 10, 11, 19, 20] [] (by kernel_rfl) (by kernel_rfl) (HS.drew.pk 12 [0, 1] Z) ?_
   replace HS := HS.drew
   refine GX.ps 1 Z (qL Z Z (fun _ _ g => fL b114 0 C9 Z g) Z (GX.ps 1 Z (qL Z Z (fun _ _ g => GO.ixW Z Z Z Gg sz2 c132 Z g) Z (GX.ps 1 Z (qL Z Z (fun _ _ g => GO.ixW Z Z Z Gg sz2 c133 Z g) Z (GX.ps 1 Z (qL Z Z (fun _ _ g => GO.ixW Z Z Z Gg sz2 c133 Z g) Z (GX.ps 1 Z (qL Z Z (fun _ _ g => GO.ixW Z Z Z Gg sz2 c132 Z g) Z (GX.ls Z Z Z (HS.pk 12 [0, 1] Z) (fun _ HS _ g => lB 1 HS Z na2 Z g) Z (GX.ps 1 Z (GX.ls Z Z Z (HS.pk 12 [0, 1] Z) (fun _ HS _ g => GO.ldW (j := 0) ([t122, t123, t124, t125] : List Int) HS Z Z Z c132 Z Z na2 Z g) Z (GX.ls Z Z Z (HS.pk 12 [0, 1] Z) (fun _ HS _ g => GO.ldW (j := 0) ([t122, t123, t124, t125] : List Int) HS Z Z Z c133 Z Z na2 Z g) Z (GX.ls Z Z Z (HS.pk 12 [0, 1] Z) (fun _ HS _ g => GO.ldW (j := 0) ([t122, t123, t124, t125] : List Int) HS Z Z Z c133 Z Z na2 Z g) Z ?_))))))))))))))
   refine GX.ls Z Z Z (HS.pk 12 [0, 1] Z) (fun _ HS _ g => GO.ldW (j := 0) ([t122, t123, t124, t125] : List Int) HS Z Z Z c132 Z Z na2 Z g) Z (GX.ps 1 Z (GX.l2 Z (fJ Uz Z (F9.calls HS  h135) (fun _ wd136 ⟨h137, HS⟩ => ⟨_, h137, (GX.fin (HS.pk 12 [0, 1] Z) (GX.ps 1 Z (GX.l2 Z (fJ mU Z (Jc.calls HS  h139) (fun _ wd140 ⟨h141, HS⟩ => ⟨_, h141, (GX.fin (HS.pk 12 [0, 1] Z) (GX.l2 Z ?_))⟩)))))⟩))))
   replace HS := HS.pk 12 [2, 3, 4, 5, 6, 7, 8, 9, 0, 1, 10, 11] Z
   refine GO.clo Z Z func170 bD.2.1 bD.2.2 Z Z (Cg.calls HS (rD 4 r_d) h145) (fun _ wd149 ⟨A147, c148, h150, HS⟩ => ⟨_, h150, (GX.fin (HS.pk 12 [8, 9] Z) (GX.nil (rN 3 Z (gW (s1 q1 (lR _) _ _ _ _ _ _ _ H (HS.pk 12 [0, 1, 2, 3, 4, 5, 6, 7, 10, 11] Z)) Z))))⟩)
  exact gW (t1 K (lR _) _ _ _ _ _ _ _ H (HS.pk 11 [3, 4, 5, 6, 7, 8, 9, 10, 2, 0] Z)) Z
end Go.Proofs.YtbjfinndngafoaaGreat
