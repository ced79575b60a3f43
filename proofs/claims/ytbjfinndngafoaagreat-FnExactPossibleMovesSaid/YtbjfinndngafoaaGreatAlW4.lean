/-
  The walks through the functions: a call comes to what its list function says.
-/
import Derived.Test.YtbjfinndngafoaaGreatAlF
import Derived.Test.YtbjfinndngafoaaGreatAlW1
import Derived.Test.YtbjfinndngafoaaGreatAlW3
set_option linter.unusedVariables false
set_option linter.unusedSimpArgs false
namespace Go.Proofs.YtbjfinndngafoaaGreat
open Go.RowKit
open Tryz
variable {w0 w : World} {L : List HObj} {K : Nat} {A_a A_b A_c A_d A_e A_f A_g A_h A_i A_j A_k A_l A_m A_n A_o A_p A_q A_r A_s A_t A_u A_v A_w A_x A_y A_z : Option Addr} {c_a c_b c_c c_d c_e c_f c_g c_h c_i c_j c_k c_l c_m c_n c_o c_p c_q c_r c_s c_t c_u c_v c_w c_x c_y c_z : Nat}
set_option maxRecDepth 20000
set_option maxHeartbeats 40000000
theorem impl_Triangulation_change32.calls {a1 : List (List GFace)} {o A : Int} {y_a : Nat → (Ty.slice 107 T_GFace).Lay} {r1 : Option (List Int × List (Arr2 × GPlace) × Int × List Arr4)} (HS : St w0 w (L)) (r_a : RdIn w0 L (Ty.slice 107 T_GFace) A_a c_a y_a a1) (H : impl_Triangulation_change32.f K a1 o A = some r1) :
    Calls prog 112 #[.agg [sV A_a a1 c_a].toArray, I o, I A] w (impl_Triangulation_change32.post w0 L r1) := by
  unfold impl_Triangulation_change32.f at H
  refine cG func112 Z ?_
  refine sQ (rG (bA HS Z fun b1 wd2 HS => aS Z (nL (sQ ?_))))
  obtain ⟨t3, h4, H⟩ := bI H
  obtain ⟨c9, H⟩ := iN H
  refine rG (lW 0 HS Z ag31 (fJ fok124 Z (impl_Triangulation_edgeClasses.calls HS (rD 1 r_a) h4) (fun _ wd7 ⟨A5, c6, h8, HS⟩ => ⟨_, h8, (pS 4 Z (iX Z U56 sz2 (rk (ro 0 Z) HS) c9 (GO.ldRd (T := (TInt .i64)) (n := (w64 ((w64 (6 * o)) + A)).toNat) (o := 0) HS (ro 0 Z) Z Z (getD_some (d := 0) (ltN c9)) Z Z na2 Z (aS Z (nL (rN 2 Z ?_))))))⟩)))
  obtain ⟨t25, h26, H⟩ := bI H
  obtain ⟨c31, H⟩ := iN H
  rcases iE H with ⟨c32, H⟩ | ⟨c32, H⟩
  ·
   refine rG (lW 1 HS Z ag31 (fJ fok140 Z (impl_Triangulation_reversedEdges.calls HS (rD 2 r_a) h26) (fun _ wd29 ⟨A27, c28, h30, HS⟩ => ⟨_, h30, (mV Z (iX Z U171 sz4 (rk (ro 0 Z) HS) c31 (GO.ldRd (T := TBool) (n := (t3.getD ((w64 ((w64 (6 * o)) + A)).toNat) 0).toNat) (o := 0) HS (ro 0 Z) Z Z (getD_some (d := false) (ltN c31)) Z Z na4 Z (mV Z (kN 31 Z c32 (oF Z (oF Z (oF Z (oF Z (oF Z (GO.pickT Z Z Z Z Z (nL ?_))))))))))))⟩)))
   refine rN 3 Z ?_
   replace HS := HS.emp
   obtain rfl := sI H
   exact rT _ func112 Z Z ⟨0, none, 0, 0, none, 0, Z, (HS.pk 4 [0] Z)⟩
  obtain ⟨t33, h34, H⟩ := bI H
  obtain ⟨c39, H⟩ := iN H
  refine rG (lW 1 HS Z ag31 (fJ fok140 Z (impl_Triangulation_reversedEdges.calls HS (rD 2 r_a) h26) (fun _ wd29 ⟨A27, c28, h30, HS⟩ => ⟨_, h30, (mV Z (iX Z U171 sz4 (rk (ro 0 Z) HS) c31 (GO.ldRd (T := TBool) (n := (t3.getD ((w64 ((w64 (6 * o)) + A)).toNat) 0).toNat) (o := 0) HS (ro 0 Z) Z Z (getD_some (d := false) (ltN c31)) Z Z na4 Z (mV Z (kN 31 Z (bnot_of c32) (oN Z (lW 2 HS Z ag31 (bK (oN Z (fJ fok141 Z (impl_Triangulation_boundaryEdges.calls HS (rD 3 r_a) h34) (fun _ wd37 ⟨A35, c36, h38, HS⟩ => ⟨_, h38, (bK (oN Z ?_))⟩)))))))))))⟩)))
  refine mV Z (bK (oN Z (iX Z U171 sz4 (rk (ro 0 Z) HS) c39 (bK (oN Z (GO.ldRd (T := TBool) (n := (t3.getD ((w64 ((w64 (6 * o)) + A)).toNat) 0).toNat) (o := 0) HS (ro 0 Z) Z Z (getD_some (d := false) (ltN c39)) Z Z na4 Z (bK (GO.pickF Z Z Z Z Z (nL ?_)))))))))
  rcases iE H with ⟨c40, H⟩ | ⟨c40, H⟩
  ·
   refine yB Z c40 (rN 2 Z ?_)
   replace HS := HS.emp
   obtain rfl := sI H
   exact rT _ func112 Z Z ⟨0, none, 0, 0, none, 0, Z, (HS.pk 5 [0] Z)⟩
  refine nB Z (bnot_of c40) (rN 2 Z ?_)
  obtain ⟨t41, h42, H⟩ := bI H
  refine rG (lW 3 HS Z ag31 (mV Z (fJ fok142 Z (impl_Triangulation_ring.calls HS (rD 4 r_a) h42) (fun _ wd45 ⟨A43, c44, h46, HS⟩ => ⟨_, h46, (aS Z (nL (rN 2 Z ?_)))⟩))))
  rcases iS H with ⟨c59, H⟩ | ⟨c59, H⟩
  ·
   refine G.lex mixed [0, 1, 2, 3, 4, 5, 6, 8, 9, 10, 7, 11, 12, 13, 14, 15, 16, 17, 19, 20, 21, 18, 22, 23, 24, 25, 26, 27, 28, 30, 31, 32, 29, 33, 34, 35] (by kernel_rfl) ?_
   replace HS := HS.drew
   refine GX.ps 1 Z (GX.l1 Z Z Z (fun _ g => lS Z Z U165 Z g) Z (GX.ps 1 Z (qL Z Z (fun _ _ g => mV Z (kN 44 Z (nF c59) g)) Z (qL Z Z (fun _ _ g => oF Z g) Z (qL Z Z (fun _ _ g => oF Z g) Z (qL Z Z (fun _ _ g => oF Z g) Z (qL Z Z (fun _ _ g => oF Z g) Z (qL Z Z (fun _ _ g => oF Z g) Z (qL Z Z (fun _ _ g => oF Z g) Z (GX.l1 Z Z Z (fun _ g => oF Z g) Z (GX.l1 Z Z Z (fun _ g => oF Z g) Z (qL Z Z (fun _ _ g => oF Z g) Z (GX.ps 2 Z (qL Z Z (fun _ _ g => oF Z g) Z ?_))))))))))))))
   refine qL Z Z (fun _ _ g => oF Z g) Z (qL Z Z (fun _ _ g => oF Z g) Z (qL Z Z (fun _ _ g => oF Z g) Z (qL Z Z (fun _ _ g => oF Z g) Z (qL Z Z (fun _ _ g => oF Z g) Z (GX.l1 Z Z Z (fun _ g => oF Z g) Z (GX.l1 Z Z Z (fun _ g => oF Z g) Z (qL Z Z (fun _ _ g => oF Z g) Z (GX.ps 2 Z (qL Z Z (fun _ _ g => oF Z g) Z (qL Z Z (fun _ _ g => oF Z g) Z (qL Z Z (fun _ _ g => oF Z g) Z (qL Z Z (fun _ _ g => oF Z g) Z (qL Z Z (fun _ _ g => oF Z g) Z (qL Z Z (fun _ _ g => oF Z g) Z ?_))))))))))))))
   refine GX.l1 Z Z Z (fun _ g => oF Z g) Z (GX.l1 Z Z Z (fun _ g => oF Z g) Z (qL Z Z (fun _ _ g => oF Z g) Z (GX.ps 1 Z (GX.nil (rN 3 Z ?_)))))
   replace HS := HS.emp
   obtain rfl := sI H
   exact rT _ func112 Z Z ⟨0, none, 0, 0, none, 0, Z, (HS.pk 6 [0] Z)⟩
  obtain ⟨c60, H⟩ := iN H
  have h61 := (rk (ro 0 Z) HS)
  obtain ⟨e62, h63, H⟩ := bnd_elim H
  obtain ⟨c64, H⟩ := iN H
  have h65 := (rk (ro 0 Z) HS)
  obtain ⟨e66, h67, H⟩ := bnd_elim H
  rcases iE H with ⟨c68, H⟩ | ⟨c68, H⟩
  ·
   refine G.lex mixed [0, 1, 2, 3, 4, 5, 6, 8, 9, 10, 7, 11, 12, 13, 14, 15, 16, 17, 19, 20, 21, 18, 22, 23, 24, 25, 26, 27, 28, 30, 31, 32, 29, 33, 34, 35] (by kernel_rfl) ?_
   replace HS := HS.drew
   refine GX.ps 1 Z (GX.l1 Z Z Z (fun _ g => lS Z Z U165 Z g) Z (GX.ps 1 Z (qL Z Z (fun _ _ g => mV Z (kN 44 Z (nT c59) g)) Z (qL Z Z (fun _ _ g => oN Z (mV Z (bK g))) Z (qL Z Z (fun _ _ g => oN Z (iX Z U165 sz167 h61 c60 (bK g))) Z (qL Z Z (fun _ _ g => oN Z (GO.fld (ea A43 (0 * 2)) Z Z fl167_0 Z Z (bK g))) Z (qL Z Z (fun _ _ g => oN Z (mV Z (bK g))) Z (qL Z Z (fun _ _ g => oN Z (iX Z U165 sz167 h65 c64 (bK g))) Z (qL Z Z (fun _ _ g => oN Z (GO.fld (ea A43 (1 * 2)) Z Z fl167_0 Z Z (bK g))) Z (GX.l1 Z Z Z (fun _ g => oN Z (GO.ldRd (T := T_GFace) (n := 0) (o := 0) HS (ro 0 Z) Z Z (getD_eq (ltN c60) h63) Z Z na2 Z (bK g))) Z (GX.l1 Z Z Z (fun _ g => oN Z (GO.ldRd (T := T_GFace) (n := 1) (o := 0) HS (ro 0 Z) Z Z (getD_eq (ltN c64) h67) Z Z na2 Z (bK g))) Z (qL Z Z (fun _ _ g => oN Z (GO.eql Z Z Z Z (bK g))) Z (GX.ps 1 Z (qL Z Z (fun _ _ g => mV Z (kN 55 Z (tT c68) g)) Z ?_))))))))))))))
   refine qL Z Z (fun _ _ g => oF Z g) Z (qL Z Z (fun _ _ g => oF Z g) Z (qL Z Z (fun _ _ g => oF Z g) Z (qL Z Z (fun _ _ g => oF Z g) Z (qL Z Z (fun _ _ g => oF Z g) Z (qL Z Z (fun _ _ g => oF Z g) Z (GX.l1 Z Z Z (fun _ g => oF Z g) Z (GX.l1 Z Z Z (fun _ g => oF Z g) Z (qL Z Z (fun _ _ g => oF Z g) Z (GX.ps 2 Z (qL Z Z (fun _ _ g => oF Z g) Z (qL Z Z (fun _ _ g => oF Z g) Z (qL Z Z (fun _ _ g => oF Z g) Z (qL Z Z (fun _ _ g => oF Z g) Z (qL Z Z (fun _ _ g => oF Z g) Z ?_))))))))))))))
   refine qL Z Z (fun _ _ g => oF Z g) Z (GX.l1 Z Z Z (fun _ g => oF Z g) Z (GX.l1 Z Z Z (fun _ g => oF Z g) Z (qL Z Z (fun _ _ g => oF Z g) Z (GX.ps 1 Z (GX.nil (rN 3 Z ?_))))))
   replace HS := HS.emp
   obtain rfl := sI H
   exact rT _ func112 Z Z ⟨0, none, 0, 0, none, 0, Z, (HS.pk 6 [0] Z)⟩
  obtain ⟨c69, H⟩ := iN H
  obtain ⟨e70, h71, H⟩ := bnd_elim H
  rcases iE H with ⟨c72, H⟩ | ⟨c72, H⟩
  ·
   refine G.lex mixed [0, 1, 2, 3, 4, 5, 6, 8, 9, 10, 7, 11, 12, 13, 14, 15, 16, 17, 19, 20, 21, 18, 22, 23, 24, 25, 26, 27, 28, 30, 31, 32, 29, 33, 34, 35] (by kernel_rfl) ?_
   replace HS := HS.drew
   refine GX.ps 1 Z (GX.l1 Z Z Z (fun _ g => lS Z Z U165 Z g) Z (GX.ps 1 Z (qL Z Z (fun _ _ g => mV Z (kN 44 Z (nT c59) g)) Z (qL Z Z (fun _ _ g => oN Z (mV Z (bK g))) Z (qL Z Z (fun _ _ g => oN Z (iX Z U165 sz167 h61 c60 (bK g))) Z (qL Z Z (fun _ _ g => oN Z (GO.fld (ea A43 (0 * 2)) Z Z fl167_0 Z Z (bK g))) Z (qL Z Z (fun _ _ g => oN Z (mV Z (bK g))) Z (qL Z Z (fun _ _ g => oN Z (iX Z U165 sz167 h65 c64 (bK g))) Z (qL Z Z (fun _ _ g => oN Z (GO.fld (ea A43 (1 * 2)) Z Z fl167_0 Z Z (bK g))) Z (GX.l1 Z Z Z (fun _ g => oN Z (GO.ldRd (T := T_GFace) (n := 0) (o := 0) HS (ro 0 Z) Z Z (getD_eq (ltN c60) h63) Z Z na2 Z (bK g))) Z (GX.l1 Z Z Z (fun _ g => oN Z (GO.ldRd (T := T_GFace) (n := 1) (o := 0) HS (ro 0 Z) Z Z (getD_eq (ltN c64) h67) Z Z na2 Z (bK g))) Z (qL Z Z (fun _ _ g => oN Z (GO.eql Z Z Z Z (bK g))) Z (GX.ps 1 Z (qL Z Z (fun _ _ g => mV Z (kN 55 Z (tF c68) g)) Z ?_))))))))))))))
   refine qL Z Z (fun _ _ g => oN Z (mV Z (bK g))) Z (qL Z Z (fun _ _ g => oN Z (iX Z U165 sz167 (rk (ro 0 Z) HS) c64 (bK g))) Z (qL Z Z (fun _ _ g => oN Z (GO.fld (ea A43 (1 * 2)) Z Z fl167_0 Z Z (bK g))) Z (qL Z Z (fun _ _ g => oN Z (mV Z (bK g))) Z (qL Z Z (fun _ _ g => oN Z (iX Z U165 sz167 (rk (ro 0 Z) HS) c69 (bK g))) Z (qL Z Z (fun _ _ g => oN Z (GO.fld (ea A43 (2 * 2)) Z Z fl167_0 Z Z (bK g))) Z (GX.l1 Z Z Z (fun _ g => oN Z (GO.ldRd (T := T_GFace) (n := 1) (o := 0) HS (ro 0 Z) Z Z (getD_eq (ltN c64) h67) Z Z na2 Z (bK g))) Z (GX.l1 Z Z Z (fun _ g => oN Z (GO.ldRd (T := T_GFace) (n := 2) (o := 0) HS (ro 0 Z) Z Z (getD_eq (ltN c69) h71) Z Z na2 Z (bK g))) Z (qL Z Z (fun _ _ g => oN Z (GO.eql Z Z Z Z (bK g))) Z (GX.ps 1 Z (qL Z Z (fun _ _ g => mV Z (kN 66 Z (tT c72) g)) Z (qL Z Z (fun _ _ g => oF Z g) Z (qL Z Z (fun _ _ g => oF Z g) Z (qL Z Z (fun _ _ g => oF Z g) Z (qL Z Z (fun _ _ g => oF Z g) Z ?_))))))))))))))
   refine qL Z Z (fun _ _ g => oF Z g) Z (qL Z Z (fun _ _ g => oF Z g) Z (GX.l1 Z Z Z (fun _ g => oF Z g) Z (GX.l1 Z Z Z (fun _ g => oF Z g) Z (qL Z Z (fun _ _ g => oF Z g) Z (GX.ps 1 Z (GX.nil (rN 3 Z ?_)))))))
   replace HS := HS.emp
   obtain rfl := sI H
   exact rT _ func112 Z Z ⟨0, none, 0, 0, none, 0, Z, (HS.pk 6 [0] Z)⟩
  refine G.lex mixed [0, 1, 2, 3, 4, 5, 6, 8, 9, 10, 7, 11, 12, 13, 14, 15, 16, 17, 19, 20, 21, 18, 22, 23, 24, 25, 26, 27, 28, 30, 31, 32, 29, 33, 34, 35] (by kernel_rfl) ?_
  replace HS := HS.drew
  refine GX.ps 1 Z (GX.l1 Z Z Z (fun _ g => lS Z Z U165 Z g) Z (GX.ps 1 Z (qL Z Z (fun _ _ g => mV Z (kN 44 Z (nT c59) g)) Z (qL Z Z (fun _ _ g => oN Z (mV Z (bK g))) Z (qL Z Z (fun _ _ g => oN Z (iX Z U165 sz167 h61 c60 (bK g))) Z (qL Z Z (fun _ _ g => oN Z (GO.fld (ea A43 (0 * 2)) Z Z fl167_0 Z Z (bK g))) Z (qL Z Z (fun _ _ g => oN Z (mV Z (bK g))) Z (qL Z Z (fun _ _ g => oN Z (iX Z U165 sz167 h65 c64 (bK g))) Z (qL Z Z (fun _ _ g => oN Z (GO.fld (ea A43 (1 * 2)) Z Z fl167_0 Z Z (bK g))) Z (GX.l1 Z Z Z (fun _ g => oN Z (GO.ldRd (T := T_GFace) (n := 0) (o := 0) HS (ro 0 Z) Z Z (getD_eq (ltN c60) h63) Z Z na2 Z (bK g))) Z (GX.l1 Z Z Z (fun _ g => oN Z (GO.ldRd (T := T_GFace) (n := 1) (o := 0) HS (ro 0 Z) Z Z (getD_eq (ltN c64) h67) Z Z na2 Z (bK g))) Z (qL Z Z (fun _ _ g => oN Z (GO.eql Z Z Z Z (bK g))) Z (GX.ps 1 Z (qL Z Z (fun _ _ g => mV Z (kN 55 Z (tF c68) g)) Z ?_))))))))))))))
  refine qL Z Z (fun _ _ g => oN Z (mV Z (bK g))) Z (qL Z Z (fun _ _ g => oN Z (iX Z U165 sz167 (rk (ro 0 Z) HS) c64 (bK g))) Z (qL Z Z (fun _ _ g => oN Z (GO.fld (ea A43 (1 * 2)) Z Z fl167_0 Z Z (bK g))) Z (qL Z Z (fun _ _ g => oN Z (mV Z (bK g))) Z (qL Z Z (fun _ _ g => oN Z (iX Z U165 sz167 (rk (ro 0 Z) HS) c69 (bK g))) Z (qL Z Z (fun _ _ g => oN Z (GO.fld (ea A43 (2 * 2)) Z Z fl167_0 Z Z (bK g))) Z (GX.l1 Z Z Z (fun _ g => oN Z (GO.ldRd (T := T_GFace) (n := 1) (o := 0) HS (ro 0 Z) Z Z (getD_eq (ltN c64) h67) Z Z na2 Z (bK g))) Z (GX.l1 Z Z Z (fun _ g => oN Z (GO.ldRd (T := T_GFace) (n := 2) (o := 0) HS (ro 0 Z) Z Z (getD_eq (ltN c69) h71) Z Z na2 Z (bK g))) Z (qL Z Z (fun _ _ g => oN Z (GO.eql Z Z Z Z (bK g))) Z (GX.ps 1 Z (qL Z Z (fun _ _ g => mV Z (kN 66 Z (tF c72) g)) Z (qL Z Z (fun _ _ g => oN Z (mV Z (bK g))) Z (qL Z Z (fun _ _ g => oN Z (iX Z U165 sz167 (rk (ro 0 Z) HS) c69 (bK g))) Z (qL Z Z (fun _ _ g => oN Z (GO.fld (ea A43 (2 * 2)) Z Z fl167_0 Z Z (bK g))) Z (qL Z Z (fun _ _ g => oN Z (mV Z (bK g))) Z ?_))))))))))))))
  refine qL Z Z (fun _ _ g => oN Z (iX Z U165 sz167 (rk (ro 0 Z) HS) c60 (bK g))) Z (qL Z Z (fun _ _ g => oN Z (GO.fld (ea A43 (0 * 2)) Z Z fl167_0 Z Z (bK g))) Z (GX.l1 Z Z Z (fun _ g => oN Z (GO.ldRd (T := T_GFace) (n := 2) (o := 0) HS (ro 0 Z) Z Z (getD_eq (ltN c69) h71) Z Z na2 Z (bK g))) Z (GX.l1 Z Z Z (fun _ g => oN Z (GO.ldRd (T := T_GFace) (n := 0) (o := 0) HS (ro 0 Z) Z Z (getD_eq (ltN c60) h63) Z Z na2 Z (bK g))) Z (qL Z Z (fun _ _ g => oN Z (GO.eql Z Z Z Z (bK g))) Z (GX.ps 1 Z (GX.nil ?_))))))
  rcases iE H with ⟨c73, H⟩ | ⟨c73, H⟩
  ·
   refine yB Z (tT c73) (rN 2 Z ?_)
   replace HS := HS.emp
   obtain rfl := sI H
   exact rT _ func112 Z Z ⟨0, none, 0, 0, none, 0, Z, (HS.pk 6 [0] Z)⟩
  refine nB Z (tF c73) (rN 2 Z ?_)
  have h74 := (rk (ro 0 Z) HS)
  have h75 := (rk (ro 0 Z) HS)
  have h76 := (rk (ro 0 Z) HS)
  obtain ⟨t79, t80, t81, t82, h83, H⟩ := bind4_elim H
  refine G.lex mixed [0, 1, 2, 4, 5, 6, 8, 9, 10, 3, 7, 11, 12, 13, 14] (by kernel_rfl) ?_
  replace HS := HS.drew
  refine GX.ps 1 Z (qL Z Z (fun _ _ g => iX Z U165 sz167 h74 c60 g) Z (qL Z Z (fun _ _ g => GO.fld (ea A43 (0 * 2)) Z Z fl167_0 Z Z g) Z (GX.ps 1 Z (qL Z Z (fun _ _ g => iX Z U165 sz167 h75 c64 g) Z (qL Z Z (fun _ _ g => GO.fld (ea A43 (1 * 2)) Z Z fl167_0 Z Z g) Z (GX.ps 1 Z (qL Z Z (fun _ _ g => iX Z U165 sz167 h76 c69 g) Z (qL Z Z (fun _ _ g => GO.fld (ea A43 (2 * 2)) Z Z fl167_0 Z Z g) Z (GX.l1 Z Z Z (fun _ g => GO.ldRd (T := T_GFace) (n := 0) (o := 0) HS (ro 0 Z) Z Z (getD_eq (ltN c60) h63) Z Z na2 Z g) Z (GX.l1 Z Z Z (fun _ g => GO.ldRd (T := T_GFace) (n := 1) (o := 0) HS (ro 0 Z) Z Z (getD_eq (ltN c64) h67) Z Z na2 Z g) Z (GX.l1 Z Z Z (fun _ g => GO.ldRd (T := T_GFace) (n := 2) (o := 0) HS (ro 0 Z) Z Z (getD_eq (ltN c69) h71) Z Z na2 Z g) Z (GX.l2 Z (GO.buildS (el := 2) ([I e62.Tet, I e66.Tet, I e70.Tet]) HS Z Z (fun _ => by kernel_rfl) Z fun b77 wd78 HS => GX.fin tv ?_)))))))))))))
  refine GX.l2 Z ?_
  replace HS := HS.boxRow (T := (TInt .i64)) (j := 0) Z flat_flat uu ([e62.Tet, e66.Tet, e70.Tet] : List Int) Z (bndL Z)
  refine GO.lenC (t := 89) (m := ([e62.Tet, e66.Tet, e70.Tet] : List Int).length) (c' := ([e62.Tet, e66.Tet, e70.Tet] : List Int).length) Z Z Z ?_
  replace HS := HS.pk 6 [0, 1, 2, 3, 4, 5] Z
  refine fJ fok136 Z (impl_newChange.calls HS  h83) (fun _ wd90 ⟨b84, A85, c86, b87, A88, c89, h91, HS⟩ => ⟨_, h91, (GX.fin tv (GX.ps 1 Z (GX.nil (rN 2 Z (rG (mV Z (lS Z Z U165 Z (mV Z (nL (rN 2 Z ?_))))))))))⟩)
  refine G.name (fun g1 f1 => ?_)
  have h1 : ∀ c1, c1 ≤ K → ∀ (x133 : List (Arr2 × GPlace)) (x134 : Int) (w : World), impl_Triangulation_change32.l1 K c1 t41 t79 t81 t82 x133 x134 = some r1 → St w0 w (Box b84 104 [sV A85 t79 c86, .map (some b87), I t81, sV A88 t82 c89] :: Own (TInt .i64) 2 A85 c86 uu t79 :: MapG b87 ke_Arr2 ke_GPlace x133 :: Own T_Arr4 131 A88 c89 uu t82 :: Own T_GFace 167 A43 c44 uu t41 :: L) → G prog 112 162 [(9, pT b84), (91, sV A43 t41 c44), (92, I (t41.length : Int)), (93, I x134)] g1 w (impl_Triangulation_change32.post w0 L r1) := by
   refine lp (fun _ _ w H _ => by rw [impl_Triangulation_change32.l1] at H; cases H) fun d1 i1 e1 x133 x134 w H HS => ?_
   rw [impl_Triangulation_change32.l1] at H
   subst f1
   refine rN 3 Z ?_
   rcases iS H with ⟨c179, H⟩ | ⟨c179, H⟩
   ·
    refine nB Z (tF c179) (rN 2 Z (rG (mV Z (GO.buildV (.agg [I 0, I 0, I 1, I 0].toArray) Z Z (fun _ => by kernel_rfl) Z (GO.buildS (el := 131) ([I 0, I 0, I 1, I 0]) HS Z Z (fun _ => by kernel_rfl) Z fun b220 wd221 HS => GO.nilP Z Z Z (fL b84 3 fl104_3 Z ?_))))))
    replace HS := HS.boxRow (T := T_Arr4) (j := 0) Z flat_flat uu ([(⟨0, 0, 1, 0⟩ : Arr4)] : List Arr4) Z (bndL Z)
    refine GO.lenC (t := 158) (m := ([(⟨0, 0, 1, 0⟩ : Arr4)] : List Arr4).length) (c' := ([(⟨0, 0, 1, 0⟩ : Arr4)] : List Arr4).length) Z Z Z (GO.stBox (j := 1) (vs := [sV (sb b220) ([(⟨0, 0, 1, 0⟩ : Arr4)] : List Arr4) (([(⟨0, 0, 1, 0⟩ : Arr4)] : List Arr4).length)]) ([sV A85 t79 c86, .map (some b87), I t81, sV (sb b220) ([(⟨0, 0, 1, 0⟩ : Arr4)] : List Arr4) (([(⟨0, 0, 1, 0⟩ : Arr4)] : List Arr4).length)]) HS Z Z Z Z Z (htN na102 Z) Z Z Z fun wd222 HS => nL (rN 2 Z ?_))
    replace HS := HS.pk 6 [1, 2, 3, 0, 4, 5] Z
    replace HS := St.opt (F := (fun x => [Box b84 104 [.slice A85 x.1.length c86, .map (some b87), I x.2.2.1, .slice (sb b220) x.2.2.2.length ([(⟨0, 0, 1, 0⟩ : Arr4)] : List Arr4).length], Own (TInt .i64) 2 A85 c86 uu x.1, MapG b87 ke_Arr2 ke_GPlace x.2.1, Own T_Arr4 131 (sb b220) ([(⟨0, 0, 1, 0⟩ : Arr4)] : List Arr4).length uu x.2.2.2])) (t79, x133, t81, ([(⟨0, 0, 1, 0⟩ : Arr4)] : List Arr4)) HS Z
    obtain rfl := sI H
    exact rT _ func112 Z Z ⟨_, _, _, _, _, _, Z, (HS.pk 3 [0] Z)⟩
   refine yB Z (tT c179) (rN 4 Z ?_)
   obtain ⟨c180, H⟩ := iN H
   obtain ⟨e181, h182, H⟩ := bnd_elim H
   refine rG (mV Z (iX Z U165 sz167 (rk (ro 4 Z) HS) c180 (GO.ldRdA (T := T_GFace) (n := x134.toNat) HS (ro 4 Z) Z Z (getD_eq (ltN c180) h182) ag167 Z (GO.alloc HS Z zr167 Z Z fun b183 wd184 HS => aS Z (sW 0 HS Z ag167 Z fun wd185 HS => nL (sQ ?_))))))
   obtain ⟨t186, t187, t188, t189, h190, H⟩ := bind4_elim H
   refine rG (fL b183 1 fl167_1 Z (lB 0 HS Z na2 Z (fJ fok93 Z (impl_perm.calls HS  h190) (fun _ wd191 ⟨h192, HS⟩ => ⟨_, h192, (GO.alloc HS Z zr131 Z Z fun b193 wd194 HS => sW 0 HS Z ag131 Z fun wd195 HS => nL (sQ (rG (pS 4 Z (GO.rem Z Z Z (by decide) Z (pS 3 Z (GO.rem Z Z Z (by decide) Z (pS 4 Z (nL ?_)))))))))⟩))))
   refine sQ (rG (GO.alloc HS Z zr131 Z Z fun b196 wd197 HS => GO.alloc HS Z zr131 Z Z fun b198 wd199 HS => nL (sQ ?_)))
   obtain ⟨c200, H⟩ := iN H
   obtain ⟨c202, H⟩ := iN H
   obtain ⟨c204, H⟩ := iN H
   obtain ⟨c206, H⟩ := iN H
   refine G.lexS mixed (fun w => St w0 w (Box b193 131 [I t186, I t187, I t188, I t189] :: L)) [1, 3, 5, 7] [0, 2, 4, 6, 8, 9, 10, 1, 11, 3, 5, 7, 12, 13, 14, 15, 16, 17, 18] [] (by kernel_rfl) (by kernel_rfl) (HS.drew.pk 9 [2] Z) ?_
   replace HS := HS.drew
   refine qL Z Z (fun _ _ g => GO.ixP 0 Z Z Z Z U131 sz2 Z Z g) Z (qL Z Z (fun _ _ g => GO.ixP 1 Z Z Z Z U131 sz2 Z Z g) Z (qL Z Z (fun _ _ g => GO.ixP 2 Z Z Z Z U131 sz2 Z Z g) Z (qL Z Z (fun _ _ g => GO.ixP 3 Z Z Z Z U131 sz2 Z Z g) Z (GX.ps 3 Z (GX.ls Z Z Z (HS.pk 9 [2] Z) (fun _ HS _ g => lB 0 HS Z na2 Z g) Z (qL Z Z (fun _ _ g => GO.ixW Z Z Z U131 sz2 c200 Z g) Z (GX.ls Z Z Z (HS.pk 9 [2] Z) (fun _ HS _ g => lB 0 HS Z na2 Z g) Z (GX.ls Z Z Z (HS.pk 9 [2] Z) (fun _ HS _ g => lB 0 HS Z na2 Z g) Z (GX.ls Z Z Z (HS.pk 9 [2] Z) (fun _ HS _ g => lB 0 HS Z na2 Z g) Z (GX.l2 Z (GO.stW (j := 1) (o := 0) (sz := 1) (vs := [I 0]) (fun u_ => [I (se 0 u_ 0 0), I (se 1 u_ 0 0), I (se 2 u_ 0 0), I (se 3 u_ 0 0)]) HS Z Z Z Z Z c200 (htN na2 Z) Z Z (four Z Z Z Z) fun wd201 HS => GX.fin (HS.pk 9 [2] Z) (qL Z Z (fun _ _ g => GO.ixW Z Z Z U131 sz2 c202 Z g) Z (GX.l2 Z ?_)))))))))))))
   refine GO.stW (j := 1) (o := 0) (sz := 1) (vs := [I (w64 (1 + ((w64 (x134 + 2)).tmod 3)))]) (fun u_ => [I (se 0 u_ (w64 (1 + ((w64 (x134 + 2)).tmod 3))) (se 0 t186 0 0)), I (se 1 u_ (w64 (1 + ((w64 (x134 + 2)).tmod 3))) (se 1 t186 0 0)), I (se 2 u_ (w64 (1 + ((w64 (x134 + 2)).tmod 3))) (se 2 t186 0 0)), I (se 3 u_ (w64 (1 + ((w64 (x134 + 2)).tmod 3))) (se 3 t186 0 0))]) HS Z Z Z Z Z c202 (htN na2 Z) Z Z (four Z Z Z Z) fun wd203 HS => GX.fin (HS.pk 9 [2] Z) (qL Z Z (fun _ _ g => GO.ixW Z Z Z U131 sz2 c204 Z g) Z (GX.l2 Z (GO.stW (j := 1) (o := 0) (sz := 1) (vs := [I (w64 (1 + x134))]) (fun u_ => [I (se 0 u_ (w64 (1 + x134)) (se 0 t187 (w64 (1 + ((w64 (x134 + 2)).tmod 3))) (se 0 t186 0 0))), I (se 1 u_ (w64 (1 + x134)) (se 1 t187 (w64 (1 + ((w64 (x134 + 2)).tmod 3))) (se 1 t186 0 0))), I (se 2 u_ (w64 (1 + x134)) (se 2 t187 (w64 (1 + ((w64 (x134 + 2)).tmod 3))) (se 2 t186 0 0))), I (se 3 u_ (w64 (1 + x134)) (se 3 t187 (w64 (1 + ((w64 (x134 + 2)).tmod 3))) (se 3 t186 0 0)))]) HS Z Z Z Z Z c204 (htN na2 Z) Z Z (four Z Z Z Z) fun wd205 HS => GX.fin (HS.pk 9 [2] Z) (qL Z Z (fun _ _ g => GO.ixW Z Z Z U131 sz2 c206 Z g) Z (GX.l2 Z (GO.stW (j := 1) (o := 0) (sz := 1) (vs := [I (w64 (1 + ((w64 (x134 + 1)).tmod 3)))]) (fun u_ => [I (se 0 u_ (w64 (1 + ((w64 (x134 + 1)).tmod 3))) (se 0 t188 (w64 (1 + x134)) (se 0 t187 (w64 (1 + ((w64 (x134 + 2)).tmod 3))) (se 0 t186 0 0)))), I (se 1 u_ (w64 (1 + ((w64 (x134 + 1)).tmod 3))) (se 1 t188 (w64 (1 + x134)) (se 1 t187 (w64 (1 + ((w64 (x134 + 2)).tmod 3))) (se 1 t186 0 0)))), I (se 2 u_ (w64 (1 + ((w64 (x134 + 1)).tmod 3))) (se 2 t188 (w64 (1 + x134)) (se 2 t187 (w64 (1 + ((w64 (x134 + 2)).tmod 3))) (se 2 t186 0 0)))), I (se 3 u_ (w64 (1 + ((w64 (x134 + 1)).tmod 3))) (se 3 t188 (w64 (1 + x134)) (se 3 t187 (w64 (1 + ((w64 (x134 + 2)).tmod 3))) (se 3 t186 0 0))))]) HS Z Z Z Z Z c206 (htN na2 Z) Z Z (four Z Z Z Z) fun wd207 HS => GX.fin (HS.pk 9 [2] Z) (GX.nil (sQ (G.lexS mixed (fun w => St w0 w (Box b193 131 [I t186, I t187, I t188, I t189] :: L)) [1, 3, 5, 7] [0, 2, 4, 6, 8, 9, 10, 1, 11, 3, 5, 7, 12, 13, 14, 15, 16, 17, 18] [] (by kernel_rfl) (by kernel_rfl) (HS.drew.pk 9 [2] Z) ?_)))))))))
   replace HS := HS.drew
   refine qL Z Z (fun _ _ g => GO.ixP 0 Z Z Z Z U131 sz2 Z Z g) Z (qL Z Z (fun _ _ g => GO.ixP 1 Z Z Z Z U131 sz2 Z Z g) Z (qL Z Z (fun _ _ g => GO.ixP 2 Z Z Z Z U131 sz2 Z Z g) Z (qL Z Z (fun _ _ g => GO.ixP 3 Z Z Z Z U131 sz2 Z Z g) Z (GX.ps 3 Z (GX.ls Z Z Z (HS.pk 9 [2] Z) (fun _ HS _ g => lB 0 HS Z na2 Z g) Z (qL Z Z (fun _ _ g => GO.ixW Z Z Z U131 sz2 c200 Z g) Z (GX.ls Z Z Z (HS.pk 9 [2] Z) (fun _ HS _ g => lB 0 HS Z na2 Z g) Z (GX.ls Z Z Z (HS.pk 9 [2] Z) (fun _ HS _ g => lB 0 HS Z na2 Z g) Z (GX.ls Z Z Z (HS.pk 9 [2] Z) (fun _ HS _ g => lB 0 HS Z na2 Z g) Z (GX.l2 Z (GO.stW (j := 0) (o := 0) (sz := 1) (vs := [I (w64 (1 + ((w64 (x134 + 2)).tmod 3)))]) (fun u_ => [I (se 0 u_ (w64 (1 + ((w64 (x134 + 2)).tmod 3))) 0), I (se 1 u_ (w64 (1 + ((w64 (x134 + 2)).tmod 3))) 0), I (se 2 u_ (w64 (1 + ((w64 (x134 + 2)).tmod 3))) 0), I (se 3 u_ (w64 (1 + ((w64 (x134 + 2)).tmod 3))) 0)]) HS Z Z Z Z Z c200 (htN na2 Z) Z Z (four Z Z Z Z) fun wd208 HS => GX.fin (HS.pk 9 [2] Z) (qL Z Z (fun _ _ g => GO.ixW Z Z Z U131 sz2 c202 Z g) Z (GX.l2 Z ?_)))))))))))))
   refine GO.stW (j := 0) (o := 0) (sz := 1) (vs := [I 0]) (fun u_ => [I (se 0 u_ 0 (se 0 t186 (w64 (1 + ((w64 (x134 + 2)).tmod 3))) 0)), I (se 1 u_ 0 (se 1 t186 (w64 (1 + ((w64 (x134 + 2)).tmod 3))) 0)), I (se 2 u_ 0 (se 2 t186 (w64 (1 + ((w64 (x134 + 2)).tmod 3))) 0)), I (se 3 u_ 0 (se 3 t186 (w64 (1 + ((w64 (x134 + 2)).tmod 3))) 0))]) HS Z Z Z Z Z c202 (htN na2 Z) Z Z (four Z Z Z Z) fun wd209 HS => GX.fin (HS.pk 9 [2] Z) (qL Z Z (fun _ _ g => GO.ixW Z Z Z U131 sz2 c204 Z g) Z (GX.l2 Z (GO.stW (j := 0) (o := 0) (sz := 1) (vs := [I (w64 (1 + x134))]) (fun u_ => [I (se 0 u_ (w64 (1 + x134)) (se 0 t187 0 (se 0 t186 (w64 (1 + ((w64 (x134 + 2)).tmod 3))) 0))), I (se 1 u_ (w64 (1 + x134)) (se 1 t187 0 (se 1 t186 (w64 (1 + ((w64 (x134 + 2)).tmod 3))) 0))), I (se 2 u_ (w64 (1 + x134)) (se 2 t187 0 (se 2 t186 (w64 (1 + ((w64 (x134 + 2)).tmod 3))) 0))), I (se 3 u_ (w64 (1 + x134)) (se 3 t187 0 (se 3 t186 (w64 (1 + ((w64 (x134 + 2)).tmod 3))) 0)))]) HS Z Z Z Z Z c204 (htN na2 Z) Z Z (four Z Z Z Z) fun wd210 HS => GX.fin (HS.pk 9 [2] Z) (qL Z Z (fun _ _ g => GO.ixW Z Z Z U131 sz2 c206 Z g) Z (GX.l2 Z (GO.stW (j := 0) (o := 0) (sz := 1) (vs := [I (w64 (1 + ((w64 (x134 + 1)).tmod 3)))]) (fun u_ => [I (se 0 u_ (w64 (1 + ((w64 (x134 + 1)).tmod 3))) (se 0 t188 (w64 (1 + x134)) (se 0 t187 0 (se 0 t186 (w64 (1 + ((w64 (x134 + 2)).tmod 3))) 0)))), I (se 1 u_ (w64 (1 + ((w64 (x134 + 1)).tmod 3))) (se 1 t188 (w64 (1 + x134)) (se 1 t187 0 (se 1 t186 (w64 (1 + ((w64 (x134 + 2)).tmod 3))) 0)))), I (se 2 u_ (w64 (1 + ((w64 (x134 + 1)).tmod 3))) (se 2 t188 (w64 (1 + x134)) (se 2 t187 0 (se 2 t186 (w64 (1 + ((w64 (x134 + 2)).tmod 3))) 0)))), I (se 3 u_ (w64 (1 + ((w64 (x134 + 1)).tmod 3))) (se 3 t188 (w64 (1 + x134)) (se 3 t187 0 (se 3 t186 (w64 (1 + ((w64 (x134 + 2)).tmod 3))) 0))))]) HS Z Z Z Z Z c206 (htN na2 Z) Z Z (four Z Z Z Z) fun wd211 HS => GX.fin (HS.pk 9 [2] Z) (GX.nil (sQ ?_))))))))
   obtain ⟨t212, h213, H⟩ := bI H
   refine rG (mV Z (fL b183 0 fl167_0 Z (lB 3 HS Z na2 Z (GO.ixP 1 Z Z Z Z U131 sz2 Z Z (lB 2 HS Z na2 Z (lW 1 HS Z ag131 ?_))))))
   replace HS := HS.pk 9 [4, 6, 0, 1, 2, 3, 5, 7, 8] Z
   refine fJ fok138 Z (impl_change_put.calls HS (ro 4 Z) (ro 5 Z) h213) (fun _ wd214 ⟨h215, HS⟩ => ⟨_, h215, (nL ?_)⟩)
   obtain ⟨t216, h217, H⟩ := bI H
   refine rG (mV Z (fL b183 0 fl167_0 Z (lB 5 HS Z na2 Z (GO.ixP 0 Z Z Z Z U131 sz2 Z Z (lB 4 HS Z na2 Z (lW 2 HS Z ag131 ?_))))))
   replace HS := HS.pk 9 [0, 1, 2, 3, 4, 5, 6, 7, 8] Z
   refine fJ fok138 Z (impl_change_put.calls HS (ro 4 Z) (ro 5 Z) h217) (fun _ wd218 ⟨h219, HS⟩ => ⟨_, h219, (nL (rN 3 Z (gW (e1 d1 (lR _) _ _ _ H (HS.pk 9 [0, 6, 1, 7, 8] Z)) Z)))⟩)
  exact gW (h1 K (lR _) _ _ _ H (HS.pk 9 [0, 1, 2, 3, 4] Z)) Z
theorem impl_change14.calls {tet : Int} {r1 : List Int} {r2 : List (Arr2 × GPlace)} {r3 : Int} {r4 : List Arr4} (HS : St w0 w (L)) (H : impl_change14.f K tet = some (r1, r2, r3, r4)) :
    Calls prog 113 #[I tet] w (impl_change14.post w0 L r1 r2 r3 r4) := by
  unfold impl_change14.f at H
  refine cG func113 Z ?_
  refine rN 3 Z ?_
  obtain ⟨t3, t4, t5, t6, h7, H⟩ := bind4_elim H
  refine rG (mV Z (GO.buildS (el := 2) ([I tet]) HS Z Z (fun _ => by kernel_rfl) Z fun b1 wd2 HS => ?_))
  replace HS := HS.boxRow (T := (TInt .i64)) (j := 0) Z flat_flat uu ([tet] : List Int) Z (bndL Z)
  refine GO.lenC (t := 7) (m := ([tet] : List Int).length) (c' := ([tet] : List Int).length) Z Z Z ?_
  replace HS := HS.pk 1 [0] Z
  refine fJ fok136 Z (impl_newChange.calls HS  h7) (fun _ wd14 ⟨b8, A9, c10, b11, A12, c13, h15, HS⟩ => ⟨_, h15, (aS Z (nL (rN 5 Z ?_)))⟩)
  refine G.name (fun p1 o1 => ?_)
  have t1 : ∀ f1, f1 ≤ K → ∀ (d1 : List (Arr2 × GPlace)) (x28 : Int) (A81 : Option Addr) (c82 : Nat) (c1 : List Arr4) (w : World), impl_change14.l1 K f1 tet t3 t5 d1 x28 c1 = some (r1, r2, r3, r4) → St w0 w (Box b8 104 [sV A9 t3 c10, .map (some b11), I t5, sV A81 c1 c82] :: Own (TInt .i64) 2 A9 c10 uu t3 :: MapG b11 ke_Arr2 ke_GPlace d1 :: Own T_Arr4 131 A81 c82 uu c1 :: L) → G prog 113 41 [(0, I tet), (3, pT b8), (9, I x28)] p1 w (impl_change14.post w0 L r1 r2 r3 r4) := by
   refine lp (fun _ _ _ _ _ w H _ => by rw [impl_change14.l1] at H; cases H) fun e1 u1 k1 d1 x28 A81 c82 c1 w H HS => ?_
   rw [impl_change14.l1] at H
   subst o1
   refine rN 3 Z ?_
   rcases iS H with ⟨c136, H⟩ | ⟨c136, H⟩
   ·
    refine nB Z (tF c136) (rN 3 Z ?_)
    obtain ⟨rfl, rfl, rfl, rfl⟩ := some4 H
    exact rT _ func113 Z Z ⟨_, _, _, _, _, _, Z, HS⟩
   refine yB Z (tT c136) (rN 6 Z ?_)
   obtain ⟨t137, t138, t139, t140, h141, H⟩ := bind4_elim H
   obtain ⟨t144, h145, H⟩ := bI H
   refine rG (pS 4 Z (fJ fok93 Z (impl_perm.calls HS  h141) (fun _ wd142 ⟨h143, HS⟩ => ⟨_, h143, ?_⟩)))
   replace HS := HS.pk 4 [0, 2, 1, 3] Z
   refine fJ fok138 Z (impl_change_put.calls HS (ro 0 Z) (ro 1 Z) h145) (fun _ wd146 ⟨h147, HS⟩ => ⟨_, h147, (nL (rN 4 Z ?_))⟩)
   refine G.name (fun i1 q1 => ?_)
   have s1 : ∀ g1, g1 ≤ e1 → ∀ (A160 : Option Addr) (c161 : Nat) (a1 : List Arr4) (x163 : Int) (w : World), impl_change14.l5 K g1 tet t3 t5 x28 t144 a1 x163 = some (r1, r2, r3, r4) → St w0 w (Box b8 104 [sV A9 t3 c10, .map (some b11), I t5, sV A160 a1 c161] :: Own (TInt .i64) 2 A9 c10 uu t3 :: MapG b11 ke_Arr2 ke_GPlace t144 :: Own T_Arr4 131 A160 c161 uu a1 :: L) → G prog 113 41 [(0, I tet), (3, pT b8), (4, I x28), (9, I x28), (18, I x28), (19, I x163)] i1 w (impl_change14.post w0 L r1 r2 r3 r4) := by
    refine lp (fun _ _ _ _ w H _ => by rw [impl_change14.l5] at H; cases H) fun h1 m1 n1 A160 c161 a1 x163 w H HS => ?_
    rw [impl_change14.l5] at H
    subst q1
    refine rN 3 Z ?_
    rcases iS H with ⟨c176, H⟩ | ⟨c176, H⟩
    ·
     refine nB Z (tF c176) (rN 4 Z (gW (k1 h1 (Nat.le_of_succ_le m1) _ _ _ _ _ _ H HS) Z))
    refine yB Z (tT c176) (rN 5 Z ?_)
    obtain ⟨t177, h178, H⟩ := bI H
    obtain ⟨c186, H⟩ := iN H
    refine G.lexS mixed (fun w => St w0 w (Box b8 104 [sV A9 t3 c10, .map (some b11), I t5, sV A160 a1 c161] :: L)) [4] [0, 1, 2, 3, 5, 6, 7, 8, 9, 4, 10, 11, 12, 13, 14, 15, 16] [16] (by kernel_rfl) (by kernel_rfl) (HS.drew.pk 4 [0] Z) ?_
    replace HS := HS.drew
    refine GX.ps 2 Z (qL Z Z (fun _ _ g => GO.nilP Z Z Z g) Z (qL Z Z (fun _ _ g => fL b8 3 fl104_3 Z g) Z (GX.ps 5 Z (GX.ls Z Z Z (HS.pk 4 [0] Z) (fun _ HS _ g => lB 0 HS Z na102 Z g) Z (GX.l2 Z (fJ fok139 Z (impl_exchange.calls HS  h178) (fun _ wd179 ⟨h180, HS⟩ => ⟨_, h180, (GX.fin (HS.pk 4 [0] Z) (qL Z Z (fun _ _ g => GO.buildV (.agg [I x28, I x163, I x163, I t177].toArray) Z Z (fun _ => by kernel_rfl) Z g) Z (GX.l2 Z (GO.buildS (el := 131) ([I x28, I x163, I x163, I t177]) HS Z Z (fun _ => by kernel_rfl) Z fun b181 wd182 HS => GX.fin (HS.pk 5 [1] Z) (GX.l2 Z (GO.app1 (T := T_Arr4) (j := 4) (jb := 0) (⟨x28, x163, x163, t177⟩ : Arr4) HS Z Z flat_flat Z Z Z U102 inf131 Z Z Z c186 Z fun A184 c185 wd183 HS => GX.fin (HS.pk 5 [1] Z) ?_))))))⟩)))))))
    refine qL Z Z (fun _ _ g => GO.nilP Z Z Z g) Z (qL Z Z (fun _ _ g => fL b8 3 fl104_3 Z g) Z (GX.l2 Z (GO.stBox (j := 1) (vs := [sV A184 (a1 ++ [(⟨x28, x163, x163, t177⟩ : Arr4)]) c185]) ([sV A9 t3 c10, .map (some b11), I t5, sV A184 (a1 ++ [(⟨x28, x163, x163, t177⟩ : Arr4)]) c185]) HS Z Z Z Z Z (htN na102 Z) Z Z Z fun wd187 HS => GX.finZ Z (GX.nil (rN 3 Z (gW (n1 h1 (lR _) _ _ _ _ _ H (HS.pk 5 [1, 2, 3, 4] Z)) Z))))))
   exact gW (s1 e1 (lR _) _ _ _ _ _ H (HS.pk 4 [0, 2, 1, 3] Z)) Z
  exact gW (t1 K (lR _) _ _ _ _ _ _ H HS) Z
theorem impl_compose.calls {p q r1 : Int} (HS : St w0 w (L)) (H : impl_compose.f K p q = some r1) :
    Calls prog 94 #[I p, I q] w (impl_compose.post w0 L r1) := by
  unfold impl_compose.f at H
  refine cG func94 Z ?_
  refine rN 3 Z ?_
  obtain ⟨t1, t2, t3, t4, h5, H⟩ := bind4_elim H
  obtain ⟨t8, t9, t10, t11, h12, H⟩ := bind4_elim H
  refine rG (mV Z (fJ fok93 Z (impl_perm.calls HS  h5) (fun _ wd6 ⟨h7, HS⟩ => ⟨_, h7, (mV Z (fJ fok93 Z (impl_perm.calls HS  h12) (fun _ wd13 ⟨h14, HS⟩ => ⟨_, h14, (GO.alloc HS Z zr131 Z Z fun b15 wd16 HS => GO.alloc HS Z zr131 Z Z fun b17 wd18 HS => sW 1 HS Z ag131 Z fun wd19 HS => sW 0 HS Z ag131 Z fun wd20 HS => nL (sQ (rG (GO.alloc HS Z zr131 Z Z fun b21 wd22 HS => nL (rN 2 Z ?_)))))⟩)))⟩)))
  refine rG (lW 2 HS Z ag131 (mV Z (nL (rN 2 Z ?_))))
  refine G.name (fun i1 h1 => ?_)
  have k1 : ∀ e1, e1 ≤ K → ∀ (b1 x26 : Int) (d1 c1 a1 : Int) (w : World), impl_compose.l1 K e1 t1 t2 t3 t4 t8 t9 t10 t11 b1 x26 d1 c1 a1 = some r1 → St w0 w (Box b17 131 [I t8, I t9, I t10, I t11] :: Box b21 131 [I b1, I d1, I c1, I a1] :: L) → G prog 94 27 [(6, pT b17), (7, pT b21), (14, .agg [I t1, I t2, I t3, I t4].toArray), (15, I x26)] i1 w (impl_compose.post w0 L r1) := by
   refine lp (fun _ _ _ _ _ w H _ => by rw [impl_compose.l1] at H; cases H) fun f1 m1 g1 b1 x26 d1 c1 a1 w H HS => ?_
   rw [impl_compose.l1] at H
   subst h1
   refine rN 3 Z ?_
   rcases iS H with ⟨c46, H⟩ | ⟨c46, H⟩
   ·
    refine nB Z (tF c46) (rN 2 Z ?_)
    obtain ⟨t50, h51, H⟩ := bI H
    refine rG (lW 1 HS Z ag131 (fJ fok130 Z (impl_indexOf.calls HS  h51) (fun _ wd52 ⟨h53, HS⟩ => ⟨_, h53, (aS Z (nL ?_))⟩)))
    obtain rfl := sI H
    exact rT _ func94 Z Z ⟨Z, (HS.pk 2 [] Z)⟩
   refine yB Z (tT c46) (rN 4 Z ?_)
   obtain ⟨c47, H⟩ := iN H
   refine rG (mV Z (GO.ixArr ([t1, t2, t3, t4] : List Int) Z Z Z U131 U2 sz2 Z c47.1 c47.2 Z (pS 2 Z (nL ?_))))
   obtain ⟨c48, H⟩ := iN H
   refine rG (pS 2 Z (GO.ixW Z Z Z U131 sz2 c48 Z (GO.ldW (j := 0) ([t8, t9, t10, t11] : List Int) HS Z Z Z c48 Z Z na2 Z (GO.ixW Z Z Z U131 sz2 c47 Z (GO.stW (j := 1) (o := 0) (sz := 1) (vs := [I (([t8, t9, t10, t11] : List Int).getD (([t1, t2, t3, t4] : List Int).getD x26.toNat 0).toNat 0)]) (fun u_ => [I (se 0 u_ (([t8, t9, t10, t11] : List Int).getD (([t1, t2, t3, t4] : List Int).getD x26.toNat 0).toNat 0) b1), I (se 1 u_ (([t8, t9, t10, t11] : List Int).getD (([t1, t2, t3, t4] : List Int).getD x26.toNat 0).toNat 0) d1), I (se 2 u_ (([t8, t9, t10, t11] : List Int).getD (([t1, t2, t3, t4] : List Int).getD x26.toNat 0).toNat 0) c1), I (se 3 u_ (([t8, t9, t10, t11] : List Int).getD (([t1, t2, t3, t4] : List Int).getD x26.toNat 0).toNat 0) a1)]) HS Z Z Z Z Z c47 (htN na2 Z) Z Z (four Z Z Z Z) fun wd49 HS => nL (rN 3 Z (gW (g1 f1 (lR _) _ _ _ _ _ _ H HS) Z)))))))
  exact gW (k1 K (lR _) _ _ _ _ _ _ H (HS.pk 3 [1, 0] Z)) Z
theorem impl_Triangulation_star.calls {k1 : List (List GFace)} {tet k_ : Int} {y_a : Nat → (Ty.slice 107 T_GFace).Lay} {r1 r2 : Int} {r3 r4 : Int} {r5 r6 : Int} {r7 r8 : Int} {r9 : Bool} (HS : St w0 w (L)) (r_a : RdIn w0 L (Ty.slice 107 T_GFace) A_a c_a y_a k1) (H : impl_Triangulation_star.f K k1 tet k_ = some (r1, r2, r3, r4, r5, r6, r7, r8, r9)) :
    Calls prog 143 #[.agg [sV A_a k1 c_a].toArray, I tet, I k_] w (impl_Triangulation_star.post w0 L r1 r2 r3 r4 r5 r6 r7 r8 r9) := by
  unfold impl_Triangulation_star.f at H
  refine cG func143 Z ?_
  refine sQ (rG (bA HS Z fun b1 wd2 HS => GO.alloc HS Z zr174 Z Z fun b3 wd4 HS => aS Z (nL (sQ (rG (GO.alloc HS Z zr174 Z Z fun b5 wd6 HS => nL (sQ ?_)))))))
  obtain ⟨c7, H⟩ := iN H
  refine rG (pS 2 Z (GO.buildV (.agg [I tet, I 0].toArray) Z Z (fun _ => by kernel_rfl) Z (GO.ixW Z Z Z U174 sz127 c7 Z (GO.stW (j := 0) (o := 0) (sz := 2) (vs := [I tet, I 0]) (fun u_ => [I (se 0 u_ tet 0), I (se 0 u_ 0 0), I (se 1 u_ tet 0), I (se 1 u_ 0 0), I (se 2 u_ tet 0), I (se 2 u_ 0 0), I (se 3 u_ tet 0), I (se 3 u_ 0 0)]) HS Z Z Z Z Z c7 (htA ag127) Z Z (four Z Z Z Z) fun wd8 HS => nL (rN 2 Z ?_)))))
  obtain ⟨t11, h12, H⟩ := bI H
  refine rG (mV Z (GO.buildS (el := 2) ([I k_]) HS Z Z (fun _ => by kernel_rfl) Z fun b9 wd10 HS => ?_))
  replace HS := HS.boxRow (T := (TInt .i64)) (j := 0) Z flat_flat uu ([k_] : List Int) Z (bndL Z)
  refine GO.lenC (t := 21) (m := ([k_] : List Int).length) (c' := ([k_] : List Int).length) Z Z Z (fJ fok137 Z (impl_others.calls HS (ro 0 Z) h12) (fun _ wd15 ⟨A13, c14, h16, HS⟩ => ⟨_, h16, (lS Z Z U56 Z (mV Z (nL (rN 2 Z ?_))))⟩))
  refine G.name (fun g2 z1 => ?_)
  have f2 : ∀ p1, p1 ≤ K → ∀ (c1 g1 : Int) (d1 h1 : Int) (e1 i1 : Int) (a1 f1 x552 : Int) (w : World), impl_Triangulation_star.l1 K p1 k1 tet k_ t11 c1 g1 d1 h1 e1 i1 a1 f1 x552 = some (r1, r2, r3, r4, r5, r6, r7, r8, r9) → St w0 w (Box b1 31 [sV A_a k1 c_a] :: Box b3 174 [I 0, I 0, I 0, I 0, I 0, I 0, I 0, I 0] :: Box b5 174 [I c1, I g1, I d1, I h1, I e1, I i1, I a1, I f1] :: Own (TInt .i64) 2 A13 c14 uu t11 :: L) → G prog 143 121 [(1, I tet), (2, I k_), (3, pT b1), (6, pT b3), (8, pT b5), (22, sV A13 t11 c14), (23, I (t11.length : Int)), (24, I x552)] g2 w (impl_Triangulation_star.post w0 L r1 r2 r3 r4 r5 r6 r7 r8 r9) := by
   refine lp (fun _ _ _ _ _ _ _ _ _ w H _ => by rw [impl_Triangulation_star.l1] at H; cases H) fun n1 i2 b2 c1 g1 d1 h1 e1 i1 a1 f1 x552 w H HS => ?_
   rw [impl_Triangulation_star.l1] at H
   subst z1
   refine rN 3 Z ?_
   rcases iE H with ⟨c1080, H⟩ | ⟨c1080, H⟩
   ·
    refine yB Z (tT c1080) (rN 4 Z ?_)
    obtain ⟨c1081, H⟩ := iN H
    refine rG (iX Z U56 sz2 (rk (ro 3 Z) HS) c1081 (GO.ldRd (T := (TInt .i64)) (n := x552.toNat) (o := 0) HS (ro 3 Z) Z Z (getD_some (d := 0) (ltN c1081)) Z Z na2 Z (aS Z (nL (sQ ?_)))))
    obtain ⟨c1082, H⟩ := iN H
    obtain ⟨c1083, H⟩ := iN H
    obtain ⟨e1084, h1085, H⟩ := bnd_elim H
    refine rG (fL b1 0 fl31_0 Z (lB 0 HS Z na29 Z (mV Z (iX Z U29 sz77 (rk (rD 4 r_a) HS) c1082 (GO.ldRd (T := (Ty.slice 107 T_GFace)) (n := tet.toNat) (o := 0) HS (rD 4 r_a) Z Z (getD_some (d := []) (ltN c1082)) Z Z na77 Z (mV Z (GO.ix Z Z Z U77 sz107 ((RdIn.elem (rD 4 r_a) c1082.1 c1082.2) _ HS).2.2.1 c1083.1 c1083.2 Z (GO.ldRdA (T := T_GFace) (n := (t11.getD x552.toNat 0).toNat) HS (RdIn.elem (rD 4 r_a) c1082.1 c1082.2) Z Z (getD_eq (ltN c1083) h1085) ag107 Z (GO.alloc HS Z zr107 Z Z fun b1086 wd1087 HS => sW 0 HS Z ag107 Z fun wd1088 HS => nL (rN 2 Z ?_))))))))))
    obtain ⟨t1089, h1090, H⟩ := bI H
    refine rG (lW 0 HS Z ag107 (fJ fok91 Z (impl_Face_isBoundary.calls HS  h1090) (fun _ wd1091 ⟨h1092, HS⟩ => ⟨_, h1092, (nL ?_)⟩)))
    rcases iE H with ⟨c1093, H⟩ | ⟨c1093, H⟩
    ·
     refine yB Z c1093 (sQ (rG (lW 3 HS Z ag174 (sW 2 HS Z ag174 Z fun wd1094 HS => aS Z (nL ?_)))))
     obtain ⟨rfl, rfl, rfl, rfl, rfl, rfl, rfl, rfl, rfl⟩ := some9 H
     exact G.ret2 _ _ func143 Z (Res1.boxA (j := 2) (vs := [I c1, I g1, I d1, I h1, I e1, I i1, I a1, I f1]) HS Z Z Z ag174) Z ⟨Z, (HS.pk 5 [] Z)⟩
    refine nB Z (bnot_of c1093) (G.skip ?_)
    obtain ⟨t1095, h1096, H⟩ := bI H
    obtain ⟨t1099, h1100, H⟩ := bI H
    obtain ⟨t1103, h1104, H⟩ := bI H
    obtain ⟨c1107, H⟩ := iN H
    refine G.lexS mixed (fun w => St w0 w (Box b1086 107 [I e1084.Tet, I e1084.Perm] :: L)) [2, 4] [0, 1, 3, 6, 7, 2, 4, 5, 8, 9, 10, 11, 12] [] (by kernel_rfl) (by kernel_rfl) (HS.drew.pk 5 [0] Z) ?_
    replace HS := HS.drew
    refine GX.ps 1 Z (qL Z Z (fun _ _ g => fL b1086 0 fl107_0 Z g) Z (qL Z Z (fun _ _ g => fL b1086 1 fl107_1 Z g) Z (GX.ps 2 Z (GX.ls Z Z Z (HS.pk 5 [0] Z) (fun _ HS _ g => lB 0 HS Z na2 Z g) Z (GX.ls Z Z Z (HS.pk 5 [0] Z) (fun _ HS _ g => lB 0 HS Z na2 Z g) Z (GX.l2 Z (fJ fok95 Z (impl_invert.calls HS  h1096) (fun _ wd1097 ⟨h1098, HS⟩ => ⟨_, h1098, (GX.fin (HS.pk 5 [0] Z) (GX.l2 Z (fJ fok139 Z (impl_exchange.calls HS  h1100) (fun _ wd1101 ⟨h1102, HS⟩ => ⟨_, h1102, (GX.fin (HS.pk 5 [0] Z) (GX.l2 Z (fJ fok94 Z (impl_compose.calls HS  h1104) (fun _ wd1105 ⟨h1106, HS⟩ => ⟨_, h1106, (GX.fin (HS.pk 5 [0] Z) ?_)⟩))))⟩))))⟩))))))))
    refine qL Z Z (fun _ _ g => GO.buildV (.agg [I e1084.Tet, I t1103].toArray) Z Z (fun _ => by kernel_rfl) Z g) Z (qL Z Z (fun _ _ g => GO.ixW Z Z Z U174 sz127 c1107 Z g) Z (GX.l2 Z (GO.stW (j := 3) (o := 0) (sz := 2) (vs := [I e1084.Tet, I t1103]) (fun u_ => [I (se 0 u_ e1084.Tet c1), I (se 0 u_ t1103 g1), I (se 1 u_ e1084.Tet d1), I (se 1 u_ t1103 h1), I (se 2 u_ e1084.Tet e1), I (se 2 u_ t1103 i1), I (se 3 u_ e1084.Tet a1), I (se 3 u_ t1103 f1)]) HS Z Z Z Z Z c1107 (htA ag127) Z Z (four Z Z Z Z) fun wd1108 HS => GX.fin (HS.pk 5 [0] Z) (GX.nil (rN 3 Z (gW (b2 n1 (lR _) _ _ _ _ _ _ _ _ _ _ H (HS.pk 5 [1, 2, 3, 4] Z)) Z))))))
   refine nB Z (tF c1080) (rN 6 Z ?_)
   refine G.name (fun a2 x1 => ?_)
   have d2 : ∀ q1, q1 ≤ n1 → ∀ (x1232 : Int) (w : World), impl_Triangulation_star.l10 K q1 k1 c1 g1 d1 h1 e1 i1 a1 f1 x1232 = some (r1, r2, r3, r4, r5, r6, r7, r8, r9) → St w0 w (Box b1 31 [sV A_a k1 c_a] :: Box b3 174 [I 0, I 0, I 0, I 0, I 0, I 0, I 0, I 0] :: Box b5 174 [I c1, I g1, I d1, I h1, I e1, I i1, I a1, I f1] :: L) → G prog 143 121 [(3, pT b1), (6, pT b3), (8, pT b5), (52, I x1232)] a2 w (impl_Triangulation_star.post w0 L r1 r2 r3 r4 r5 r6 r7 r8 r9) := by
    refine lp (fun _ w H _ => by rw [impl_Triangulation_star.l10] at H; cases H) fun s1 h2 y1 x1232 w H HS => ?_
    rw [impl_Triangulation_star.l10] at H
    subst x1
    refine rN 3 Z ?_
    rcases iS H with ⟨c1420, H⟩ | ⟨c1420, H⟩
    ·
     refine nB Z (tF c1420) (rN 2 Z (rG (lW 2 HS Z ag174 (sW 1 HS Z ag174 Z fun wd1606 HS => aS Z (nL ?_)))))
     obtain ⟨rfl, rfl, rfl, rfl, rfl, rfl, rfl, rfl, rfl⟩ := some9 H
     exact G.ret2 _ _ func143 Z (Res1.boxA (j := 1) (vs := [I c1, I g1, I d1, I h1, I e1, I i1, I a1, I f1]) HS Z Z Z ag174) Z ⟨Z, (HS.pk 3 [] Z)⟩
    refine yB Z (tT c1420) (rN 9 Z ?_)
    refine G.name (fun e2 c2 => ?_)
    have v1 : ∀ t1, t1 ≤ s1 → ∀ (x1481 : Int) (w : World), impl_Triangulation_star.l13 K t1 k1 c1 g1 d1 h1 e1 i1 a1 f1 x1232 x1481 = some (r1, r2, r3, r4, r5, r6, r7, r8, r9) → St w0 w (Box b1 31 [sV A_a k1 c_a] :: Box b3 174 [I 0, I 0, I 0, I 0, I 0, I 0, I 0, I 0] :: Box b5 174 [I c1, I g1, I d1, I h1, I e1, I i1, I a1, I f1] :: L) → G prog 143 121 [(3, pT b1), (6, pT b3), (8, pT b5), (12, I x1232), (52, I x1232), (55, I x1481)] e2 w (impl_Triangulation_star.post w0 L r1 r2 r3 r4 r5 r6 r7 r8 r9) := by
     refine lp (fun _ w H _ => by rw [impl_Triangulation_star.l13] at H; cases H) fun m1 u1 o1 x1481 w H HS => ?_
     rw [impl_Triangulation_star.l13] at H
     subst c2
     refine rN 3 Z ?_
     rcases iS H with ⟨c1544, H⟩ | ⟨c1544, H⟩
     ·
      refine nB Z (tF c1544) (rN 4 Z (gW (y1 m1 (Nat.le_of_succ_le u1) _ _ H HS) Z))
     refine yB Z (tT c1544) (rN 8 Z ?_)
     rcases iE H with ⟨c1545, H⟩ | ⟨c1545, H⟩
     ·
      refine yB Z (tT c1545) (rN 3 Z (gW (o1 m1 (lR _) _ _ H HS) Z))
     refine nB Z (tF c1545) (rN 2 Z ?_)
     obtain ⟨c1546, H⟩ := iN H
     obtain ⟨t1547, h1548, H⟩ := bI H
     obtain ⟨t1551, t1552, t1553, t1554, h1555, H⟩ := bind4_elim H
     obtain ⟨c1558, H⟩ := iN H
     refine rG (mV Z (GO.ixW Z Z Z U174 sz127 c1546 Z (GO.fld (⟨b5, 1 + x1232.toNat * 2, none⟩) Z Z fl127_1 (adW _ _ _ _) Z (GO.ldW (j := 2) ([g1, h1, i1, f1] : List Int) HS Z Z Z c1546 Z Z na2 Z (fJ fok95 Z (impl_invert.calls HS  h1548) (fun _ wd1549 ⟨h1550, HS⟩ => ⟨_, h1550, (fJ fok93 Z (impl_perm.calls HS  h1555) (fun _ wd1556 ⟨h1557, HS⟩ => ⟨_, h1557, (mV Z (GO.ixArr ([t1551, t1552, t1553, t1554] : List Int) Z Z Z U131 U2 sz2 Z c1558.1 c1558.2 Z (aS Z (nL (sQ ?_)))))⟩))⟩))))))
     obtain ⟨c1559, H⟩ := iN H
     obtain ⟨c1560, H⟩ := iN H
     obtain ⟨e1561, h1562, H⟩ := bnd_elim H
     refine G.lexS mixed (fun w => St w0 w (Box b1 31 [sV A_a k1 c_a] :: Box b5 174 [I c1, I g1, I d1, I h1, I e1, I i1, I a1, I f1] :: L)) [1, 5, 7, 10] [0, 2, 3, 4, 8, 1, 5, 6, 7, 9, 10, 11, 12] [] (by kernel_rfl) (by kernel_rfl) (HS.drew.pk 3 [0, 2] Z) ?_
     replace HS := HS.drew
     refine qL Z Z (fun _ _ g => fL b1 0 fl31_0 Z g) Z (GX.ps 1 Z (qL Z Z (fun _ _ g => GO.ixW Z Z Z U174 sz127 c1546 Z g) Z (qL Z Z (fun _ _ g => GO.fld (⟨b5, 0 + x1232.toNat * 2, none⟩) Z Z fl127_0 Z Z g) Z (GX.ps 1 Z (GX.ls Z Z Z (HS.pk 3 [0, 2] Z) (fun _ HS _ g => lB 0 HS Z na29 Z g) Z (GX.ls Z Z Z (HS.pk 3 [0, 2] Z) (fun _ HS _ g => GO.ldW (j := 1) ([c1, d1, e1, a1] : List Int) HS Z Z Z c1546 Z Z na2 Z g) Z (qL Z Z (fun _ _ g => iX Z U29 sz77 (rk (rD 3 r_a) HS) c1559 g) Z (GX.ls Z Z Z (HS.pk 3 [0, 2] Z) (fun _ HS _ g => GO.ldRd (T := (Ty.slice 107 T_GFace)) (n := (([c1, d1, e1, a1] : List Int).getD x1232.toNat 0).toNat) (o := 0) HS (rD 2 r_a) Z Z (getD_some (d := []) (ltN c1559)) Z Z na77 Z g) Z (qL Z Z (fun _ _ g => GO.ix Z Z Z U77 sz107 ((RdIn.elem (rD 3 r_a) c1559.1 c1559.2) _ HS).2.2.1 c1560.1 c1560.2 Z g) Z (GX.ls Z Z Z (HS.pk 3 [0, 2] Z) (fun _ HS _ g => GO.ldRdA (T := T_GFace) (n := (([t1551, t1552, t1553, t1554] : List Int).getD x1481.toNat 0).toNat) HS (RdIn.elem (rD 2 r_a) c1559.1 c1559.2) Z Z (getD_eq (ltN c1560) h1562) ag107 Z g) Z (GX.l2 Z (GO.alloc HS Z zr107 Z Z fun b1563 wd1564 HS => GX.fin (HS.pk 4 [1, 3] Z) (GX.l2 Z ?_)))))))))))))
     refine sW 0 HS Z ag107 Z fun wd1565 HS => GX.fin (HS.pk 4 [1, 3] Z) (GX.nil (sQ ?_))
     rcases iS H with ⟨c1584, H⟩ | ⟨c1584, H⟩
     ·
      refine G.lexS mixed (fun w => St w0 w (Box b1563 107 [I e1561.Tet, I e1561.Perm] :: Box b5 174 [I c1, I g1, I d1, I h1, I e1, I i1, I a1, I f1] :: L)) [1, 5, 11, 15, 22, 25, 30] [0, 2, 3, 4, 1, 5, 6, 7, 8, 9, 10, 12, 13, 14, 11, 15, 16, 17, 18, 19, 20, 21, 24, 27, 28, 29, 32, 33, 22, 25, 30, 23, 26, 31, 34, 35, 36] [] (by kernel_rfl) (by kernel_rfl) (HS.drew.pk 4 [0, 3] Z) ?_
      replace HS := HS.drew
      refine qL Z Z (fun _ _ g => fL b1563 0 fl107_0 Z g) Z (GX.ps 1 Z (qL Z Z (fun _ _ g => GO.ixW Z Z Z U174 sz127 c1558 Z g) Z (qL Z Z (fun _ _ g => GO.fld (⟨b5, 0 + x1481.toNat * 2, none⟩) Z Z fl127_0 Z Z g) Z (GX.ls Z Z Z (HS.pk 4 [0, 3] Z) (fun _ HS _ g => lB 0 HS Z na2 Z g) Z (GX.ls Z Z Z (HS.pk 4 [0, 3] Z) (fun _ HS _ g => GO.ldW (j := 1) ([c1, d1, e1, a1] : List Int) HS Z Z Z c1558 Z Z na2 Z g) Z (GX.ps 1 Z (qL Z Z (fun _ _ g => mV Z (kN 87 Z (nF c1584) g)) Z (qL Z Z (fun _ _ g => oF Z g) Z (qL Z Z (fun _ _ g => oF Z g) Z (qL Z Z (fun _ _ g => oF Z g) Z (qL Z Z (fun _ _ g => oF Z g) Z (qL Z Z (fun _ _ g => oF Z g) Z (qL Z Z (fun _ _ g => oF Z g) Z (GX.ls Z Z Z (HS.pk 4 [0, 3] Z) (fun _ HS _ g => oF Z g) Z ?_))))))))))))))
      refine GX.ls Z Z Z (HS.pk 4 [0, 3] Z) (fun _ HS _ g => oF Z g) Z (qL Z Z (fun _ _ g => oF Z g) Z (GX.ps 2 Z (qL Z Z (fun _ _ g => oF Z g) Z (qL Z Z (fun _ _ g => oF Z g) Z (qL Z Z (fun _ _ g => oF Z g) Z (qL Z Z (fun _ _ g => oF Z g) Z (qL Z Z (fun _ _ g => oF Z g) Z (qL Z Z (fun _ _ g => oF Z g) Z (qL Z Z (fun _ _ g => oF Z g) Z (qL Z Z (fun _ _ g => oF Z g) Z (qL Z Z (fun _ _ g => oF Z g) Z (GX.ls Z Z Z (HS.pk 4 [0, 3] Z) (fun _ HS _ g => oF Z g) Z (GX.ls Z Z Z (HS.pk 4 [0, 3] Z) (fun _ HS _ g => oF Z g) Z (GX.ls Z Z Z (HS.pk 4 [0, 3] Z) (fun _ HS _ g => oF Z g) Z ?_))))))))))))))
      refine GX.l2 Z (oF Z (GX.fin (HS.pk 4 [0, 3] Z) (GX.l2 Z (oF Z (GX.fin (HS.pk 4 [0, 3] Z) (GX.l2 Z (oF Z (GX.fin (HS.pk 4 [0, 3] Z) (GX.l2 Z (oF Z (GX.fin (HS.pk 4 [0, 3] Z) (qL Z Z (fun _ _ g => oF Z g) Z (GX.ps 1 Z (GX.nil ?_))))))))))))))
      refine rN 2 Z (rG (lW 3 HS Z ag174 (sW 2 HS Z ag174 Z fun wd1605 HS => aS Z (nL ?_))))
      obtain ⟨rfl, rfl, rfl, rfl, rfl, rfl, rfl, rfl, rfl⟩ := some9 H
      exact G.ret2 _ _ func143 Z (Res1.boxA (j := 2) (vs := [I c1, I g1, I d1, I h1, I e1, I i1, I a1, I f1]) HS Z Z Z ag174) Z ⟨Z, (HS.pk 4 [] Z)⟩
     rcases iE H with ⟨c1585, H⟩ | ⟨c1585, H⟩
     ·
      refine G.lexS mixed (fun w => St w0 w (Box b1563 107 [I e1561.Tet, I e1561.Perm] :: Box b5 174 [I c1, I g1, I d1, I h1, I e1, I i1, I a1, I f1] :: L)) [1, 5, 11, 15, 22, 25, 30] [0, 2, 3, 4, 1, 5, 6, 7, 8, 9, 10, 12, 13, 14, 11, 15, 16, 17, 18, 19, 20, 21, 24, 27, 28, 29, 32, 33, 22, 25, 30, 23, 26, 31, 34, 35, 36] [] (by kernel_rfl) (by kernel_rfl) (HS.drew.pk 4 [0, 3] Z) ?_
      replace HS := HS.drew
      refine qL Z Z (fun _ _ g => fL b1563 0 fl107_0 Z g) Z (GX.ps 1 Z (qL Z Z (fun _ _ g => GO.ixW Z Z Z U174 sz127 c1558 Z g) Z (qL Z Z (fun _ _ g => GO.fld (⟨b5, 0 + x1481.toNat * 2, none⟩) Z Z fl127_0 Z Z g) Z (GX.ls Z Z Z (HS.pk 4 [0, 3] Z) (fun _ HS _ g => lB 0 HS Z na2 Z g) Z (GX.ls Z Z Z (HS.pk 4 [0, 3] Z) (fun _ HS _ g => GO.ldW (j := 1) ([c1, d1, e1, a1] : List Int) HS Z Z Z c1558 Z Z na2 Z g) Z (GX.ps 1 Z (qL Z Z (fun _ _ g => mV Z (kN 87 Z (nT c1584) g)) Z (qL Z Z (fun _ _ g => oN Z (mV Z (bK g))) Z (qL Z Z (fun _ _ g => oN Z (GO.ixW Z Z Z U174 sz127 c1546 Z (bK g))) Z (qL Z Z (fun _ _ g => oN Z (GO.fld (⟨b5, 0 + x1232.toNat * 2, none⟩) Z Z fl127_0 Z Z (bK g))) Z (qL Z Z (fun _ _ g => oN Z (mV Z (bK g))) Z (qL Z Z (fun _ _ g => oN Z (GO.ixW Z Z Z U174 sz127 c1558 Z (bK g))) Z (qL Z Z (fun _ _ g => oN Z (GO.fld (⟨b5, 0 + x1481.toNat * 2, none⟩) Z Z fl127_0 Z Z (bK g))) Z (GX.ls Z Z Z (HS.pk 4 [0, 3] Z) (fun _ HS _ g => oN Z (GO.ldW (j := 1) ([c1, d1, e1, a1] : List Int) HS Z Z Z c1546 Z Z na2 Z (bK g))) Z ?_))))))))))))))
      refine GX.ls Z Z Z (HS.pk 4 [0, 3] Z) (fun _ HS _ g => oN Z (GO.ldW (j := 1) ([c1, d1, e1, a1] : List Int) HS Z Z Z c1558 Z Z na2 Z (bK g))) Z (qL Z Z (fun _ _ g => oN Z (GO.eql Z Z Z Z (bK g))) Z (GX.ps 1 Z (qL Z Z (fun _ _ g => mV Z (kN 98 Z (tT c1585) g)) Z (qL Z Z (fun _ _ g => oF Z g) Z (qL Z Z (fun _ _ g => oF Z g) Z (qL Z Z (fun _ _ g => oF Z g) Z (qL Z Z (fun _ _ g => oF Z g) Z (qL Z Z (fun _ _ g => oF Z g) Z (qL Z Z (fun _ _ g => oF Z g) Z (qL Z Z (fun _ _ g => oF Z g) Z (qL Z Z (fun _ _ g => oF Z g) Z (qL Z Z (fun _ _ g => oF Z g) Z (GX.ls Z Z Z (HS.pk 4 [0, 3] Z) (fun _ HS _ g => oF Z g) Z (GX.ls Z Z Z (HS.pk 4 [0, 3] Z) (fun _ HS _ g => oF Z g) Z ?_))))))))))))))
      refine GX.ls Z Z Z (HS.pk 4 [0, 3] Z) (fun _ HS _ g => oF Z g) Z (GX.l2 Z (oF Z (GX.fin (HS.pk 4 [0, 3] Z) (GX.l2 Z (oF Z (GX.fin (HS.pk 4 [0, 3] Z) (GX.l2 Z (oF Z (GX.fin (HS.pk 4 [0, 3] Z) (GX.l2 Z (oF Z (GX.fin (HS.pk 4 [0, 3] Z) (qL Z Z (fun _ _ g => oF Z g) Z (GX.ps 1 Z ?_))))))))))))))
      refine GX.nil (rN 2 Z (rG (lW 3 HS Z ag174 (sW 2 HS Z ag174 Z fun wd1586 HS => aS Z (nL ?_)))))
      obtain ⟨rfl, rfl, rfl, rfl, rfl, rfl, rfl, rfl, rfl⟩ := some9 H
      exact G.ret2 _ _ func143 Z (Res1.boxA (j := 2) (vs := [I c1, I g1, I d1, I h1, I e1, I i1, I a1, I f1]) HS Z Z Z ag174) Z ⟨Z, (HS.pk 4 [] Z)⟩
     obtain ⟨t1587, h1588, H⟩ := bI H
     obtain ⟨t1591, h1592, H⟩ := bI H
     obtain ⟨t1595, h1596, H⟩ := bI H
     obtain ⟨t1599, h1600, H⟩ := bI H
     refine G.lexS mixed (fun w => St w0 w (Box b1563 107 [I e1561.Tet, I e1561.Perm] :: Box b5 174 [I c1, I g1, I d1, I h1, I e1, I i1, I a1, I f1] :: L)) [1, 5, 11, 15, 22, 25, 30] [0, 2, 3, 4, 1, 5, 6, 7, 8, 9, 10, 12, 13, 14, 11, 15, 16, 17, 18, 19, 20, 21, 24, 27, 28, 29, 32, 33, 22, 25, 30, 23, 26, 31, 34, 35, 36] [] (by kernel_rfl) (by kernel_rfl) (HS.drew.pk 4 [0, 3] Z) ?_
     replace HS := HS.drew
     refine qL Z Z (fun _ _ g => fL b1563 0 fl107_0 Z g) Z (GX.ps 1 Z (qL Z Z (fun _ _ g => GO.ixW Z Z Z U174 sz127 c1558 Z g) Z (qL Z Z (fun _ _ g => GO.fld (⟨b5, 0 + x1481.toNat * 2, none⟩) Z Z fl127_0 Z Z g) Z (GX.ls Z Z Z (HS.pk 4 [0, 3] Z) (fun _ HS _ g => lB 0 HS Z na2 Z g) Z (GX.ls Z Z Z (HS.pk 4 [0, 3] Z) (fun _ HS _ g => GO.ldW (j := 1) ([c1, d1, e1, a1] : List Int) HS Z Z Z c1558 Z Z na2 Z g) Z (GX.ps 1 Z (qL Z Z (fun _ _ g => mV Z (kN 87 Z (nT c1584) g)) Z (qL Z Z (fun _ _ g => oN Z (mV Z (bK g))) Z (qL Z Z (fun _ _ g => oN Z (GO.ixW Z Z Z U174 sz127 c1546 Z (bK g))) Z (qL Z Z (fun _ _ g => oN Z (GO.fld (⟨b5, 0 + x1232.toNat * 2, none⟩) Z Z fl127_0 Z Z (bK g))) Z (qL Z Z (fun _ _ g => oN Z (mV Z (bK g))) Z (qL Z Z (fun _ _ g => oN Z (GO.ixW Z Z Z U174 sz127 c1558 Z (bK g))) Z (qL Z Z (fun _ _ g => oN Z (GO.fld (⟨b5, 0 + x1481.toNat * 2, none⟩) Z Z fl127_0 Z Z (bK g))) Z (GX.ls Z Z Z (HS.pk 4 [0, 3] Z) (fun _ HS _ g => oN Z (GO.ldW (j := 1) ([c1, d1, e1, a1] : List Int) HS Z Z Z c1546 Z Z na2 Z (bK g))) Z ?_))))))))))))))
     refine GX.ls Z Z Z (HS.pk 4 [0, 3] Z) (fun _ HS _ g => oN Z (GO.ldW (j := 1) ([c1, d1, e1, a1] : List Int) HS Z Z Z c1558 Z Z na2 Z (bK g))) Z (qL Z Z (fun _ _ g => oN Z (GO.eql Z Z Z Z (bK g))) Z (GX.ps 1 Z (qL Z Z (fun _ _ g => mV Z (kN 98 Z (tF c1585) g)) Z (qL Z Z (fun _ _ g => oN Z (mV Z (bK g))) Z (qL Z Z (fun _ _ g => oN Z (GO.ixW Z Z Z U174 sz127 c1546 Z (bK g))) Z (qL Z Z (fun _ _ g => oN Z (GO.fld (⟨b5, 1 + x1232.toNat * 2, none⟩) Z Z fl127_1 (adW _ _ _ _) Z (bK g))) Z (qL Z Z (fun _ _ g => oN Z (fL b1563 1 fl107_1 Z (bK g))) Z (qL Z Z (fun _ _ g => oN Z (mV Z (bK g))) Z (qL Z Z (fun _ _ g => oN Z (GO.ixW Z Z Z U174 sz127 c1558 Z (bK g))) Z (qL Z Z (fun _ _ g => oN Z (GO.fld (⟨b5, 1 + x1481.toNat * 2, none⟩) Z Z fl127_1 (adW _ _ _ _) Z (bK g))) Z (qL Z Z (fun _ _ g => oN Z (mV Z (bK g))) Z (qL Z Z (fun _ _ g => oN Z (mV Z (bK g))) Z (GX.ls Z Z Z (HS.pk 4 [0, 3] Z) (fun _ HS _ g => oN Z (GO.ldW (j := 1) ([g1, h1, i1, f1] : List Int) HS Z Z Z c1546 Z Z na2 Z (bK g))) Z (GX.ls Z Z Z (HS.pk 4 [0, 3] Z) (fun _ HS _ g => oN Z (lB 0 HS Z na2 Z (bK g))) Z ?_))))))))))))))
     refine GX.ls Z Z Z (HS.pk 4 [0, 3] Z) (fun _ HS _ g => oN Z (GO.ldW (j := 1) ([g1, h1, i1, f1] : List Int) HS Z Z Z c1558 Z Z na2 Z (bK g))) Z (GX.l2 Z (oN Z (fJ fok95 Z (impl_invert.calls HS  h1588) (fun _ wd1589 ⟨h1590, HS⟩ => ⟨_, h1590, (bK (GX.fin (HS.pk 4 [0, 3] Z) (GX.l2 Z (oN Z (fJ fok94 Z (impl_compose.calls HS  h1592) (fun _ wd1593 ⟨h1594, HS⟩ => ⟨_, h1594, (bK (GX.fin (HS.pk 4 [0, 3] Z) (GX.l2 Z (oN Z (fJ fok94 Z (impl_compose.calls HS  h1596) (fun _ wd1597 ⟨h1598, HS⟩ => ⟨_, h1598, (bK ?_)⟩))))))⟩))))))⟩))))
     refine GX.fin (HS.pk 4 [0, 3] Z) (GX.l2 Z (oN Z (fJ fok139 Z (impl_exchange.calls HS  h1600) (fun _ wd1601 ⟨h1602, HS⟩ => ⟨_, h1602, (bK (GX.fin (HS.pk 4 [0, 3] Z) (qL Z Z (fun _ _ g => oN Z (GO.neq Z Z Z Z (bK g))) Z (GX.ps 1 Z (GX.nil ?_)))))⟩))))
     rcases iE H with ⟨c1603, H⟩ | ⟨c1603, H⟩
     ·
      refine nB Z (nT c1603) (rN 4 Z (gW (o1 m1 (lR _) _ _ H (HS.pk 4 [1, 2, 3] Z)) Z))
     refine yB Z (nF c1603) (sQ (rG (lW 3 HS Z ag174 (sW 2 HS Z ag174 Z fun wd1604 HS => aS Z (nL ?_)))))
     obtain ⟨rfl, rfl, rfl, rfl, rfl, rfl, rfl, rfl, rfl⟩ := some9 H
     exact G.ret2 _ _ func143 Z (Res1.boxA (j := 2) (vs := [I c1, I g1, I d1, I h1, I e1, I i1, I a1, I f1]) HS Z Z Z ag174) Z ⟨Z, (HS.pk 4 [] Z)⟩
    exact gW (v1 s1 (lR _) _ _ H HS) Z
   exact gW (d2 n1 (lR _) _ _ H (HS.pk 4 [0, 1, 2] Z)) Z
  exact gW (f2 K (lR _) _ _ _ _ _ _ _ _ _ _ H (HS.pk 5 [4, 3, 2, 0] Z)) Z
theorem impl_Triangulation_change41.calls {d1 : List (List GFace)} {tet k_ : Int} {y_a : Nat → (Ty.slice 107 T_GFace).Lay} {r1 : Option (List Int × List (Arr2 × GPlace) × Int × List Arr4)} (HS : St w0 w (L)) (r_a : RdIn w0 L (Ty.slice 107 T_GFace) A_a c_a y_a d1) (H : impl_Triangulation_change41.f K d1 tet k_ = some r1) :
    Calls prog 114 #[.agg [sV A_a d1 c_a].toArray, I tet, I k_] w (impl_Triangulation_change41.post w0 L r1) := by
  unfold impl_Triangulation_change41.f at H
  refine cG func114 Z ?_
  refine sQ (rG (bA HS Z fun b1 wd2 HS => aS Z (nL (sQ ?_))))
  obtain ⟨t3, t4, t5, t6, t7, t8, t9, t10, t11, h12, H⟩ := bind9_elim H
  refine rG (lW 0 HS Z ag31 (pS 2 Z (fJ fok143 Z (impl_Triangulation_star.calls HS (rD 1 r_a) h12) (fun _ wd13 ⟨h14, HS⟩ => ⟨_, h14, (pS 3 Z (GO.alloc HS Z zr174 Z Z fun b15 wd16 HS => sW 0 HS Z ag174 Z fun wd17 HS => aS Z (nL (rN 3 Z ?_))))⟩))))
  rcases iS H with ⟨c18, H⟩ | ⟨c18, H⟩
  ·
   refine yB Z (congrArg Bool.not (bnot_of c18)) (rN 2 Z ?_)
   replace HS := HS.emp
   obtain rfl := sI H
   exact rT _ func114 Z Z ⟨0, none, 0, 0, none, 0, Z, (HS.pk 3 [0] Z)⟩
  refine nB Z (congrArg Bool.not c18) (rN 2 Z ?_)
  obtain ⟨t19, t20, t21, t22, h23, H⟩ := bind4_elim H
  refine rG ?_
  replace HS := HS.nilRow (TInt .i64) 2 uu
  replace HS := HS.pk 3 [0, 1, 2] Z
  refine fJ fok136 Z (have q := impl_newChange.calls HS  h23; q) (fun _ wd30 ⟨b24, A25, c26, b27, A28, c29, h31, HS⟩ => ⟨_, h31, (aS Z (nL (rN 2 Z (rG (lW 4 HS Z ag174 (mV Z (nL (rN 2 Z ?_))))))))⟩)
  refine G.name (fun i1 h1 => ?_)
  have k1 : ∀ e1, e1 ≤ K → ∀ (A64 : Option Addr) (c65 : Nat) (a1 : List Int) (c1 : List (Arr2 × GPlace)) (x68 : Int) (w : World), impl_Triangulation_change41.l1 K e1 t3 t4 t5 t6 t7 t8 t9 t10 t21 t22 a1 c1 x68 = some r1 → St w0 w (Box b24 104 [sV A64 a1 c65, .map (some b27), I t21, sV A28 t22 c29] :: Own (TInt .i64) 2 A64 c65 uu a1 :: MapG b27 ke_Arr2 ke_GPlace c1 :: Own T_Arr4 131 A28 c29 uu t22 :: L) → G prog 114 53 [(9, pT b24), (22, .agg [I t3, I t4, I t5, I t6, I t7, I t8, I t9, I t10].toArray), (23, I x68)] i1 w (impl_Triangulation_change41.post w0 L r1) := by
   refine lp (fun _ _ _ _ _ w H _ => by rw [impl_Triangulation_change41.l1] at H; cases H) fun f1 m1 g1 A64 c65 a1 c1 x68 w H HS => ?_
   rw [impl_Triangulation_change41.l1] at H
   subst h1
   refine rN 3 Z ?_
   rcases iS H with ⟨c103, H⟩ | ⟨c103, H⟩
   ·
    refine nB Z (tF c103) (rN 3 Z ?_)
    replace HS := St.opt (F := (fun x => [Box b24 104 [.slice A64 x.1.length c65, .map (some b27), I x.2.2.1, .slice A28 x.2.2.2.length c29], Own (TInt .i64) 2 A64 c65 uu x.1, MapG b27 ke_Arr2 ke_GPlace x.2.1, Own T_Arr4 131 A28 c29 uu x.2.2.2])) (a1, c1, t21, t22) HS Z
    obtain rfl := sI H
    exact rT _ func114 Z Z ⟨_, _, _, _, _, _, Z, HS⟩
   refine yB Z (tT c103) (rN 4 Z ?_)
   obtain ⟨c104, H⟩ := iN H
   refine rG (mV Z (GO.ixArrA (sz := 2) (fun u_ => [I (([t3, t5, t7, t9] : List Int).getD u_ 0), I (([t4, t6, t8, t10] : List Int).getD u_ 0)]) Z Z Z U174 ag127 c104 (four Z Z Z Z) Z (GO.alloc HS Z zr127 Z Z fun b105 wd106 HS => aS Z (sW 0 HS Z ag127 Z fun wd107 HS => nL (sQ ?_)))))
   obtain ⟨c113, H⟩ := iN H
   refine G.lexS mixed (fun w => St w0 w (Box b105 127 [I (([t3, t5, t7, t9] : List Int).getD x68.toNat 0), I (([t4, t6, t8, t10] : List Int).getD x68.toNat 0)] :: Box b24 104 [sV A64 a1 c65, .map (some b27), I t21, sV A28 t22 c29] :: L)) [4, 6] [0, 1, 2, 3, 5, 4, 6, 7, 8, 9, 10, 11] [11] (by kernel_rfl) (by kernel_rfl) (HS.drew.pk 5 [0, 1] Z) ?_
   replace HS := HS.drew
   refine GX.ps 2 Z (qL Z Z (fun _ _ g => GO.nilP Z Z Z g) Z (qL Z Z (fun _ _ g => fL b24 0 fl104_0 Z g) Z (qL Z Z (fun _ _ g => fL b105 0 fl127_0 Z g) Z (GX.ls Z Z Z (HS.pk 5 [0, 1] Z) (fun _ HS _ g => lB 1 HS Z na56 Z g) Z (GX.ls Z Z Z (HS.pk 5 [0, 1] Z) (fun _ HS _ g => lB 0 HS Z na2 Z g) Z (GX.l2 Z (GO.buildS (el := 2) ([I (([t3, t5, t7, t9] : List Int).getD x68.toNat 0)]) HS Z Z (fun _ => by kernel_rfl) Z fun b108 wd109 HS => GX.fin (HS.pk 6 [1, 2] Z) (GX.l2 Z (GO.app1 (T := (TInt .i64)) (j := 3) (jb := 0) (([t3, t5, t7, t9] : List Int).getD x68.toNat 0) HS Z Z flat_flat Z Z Z U56 inf2 Z Z Z c113 Z fun A111 c112 wd110 HS => GX.fin (HS.pk 6 [1, 2] Z) (qL Z Z (fun _ _ g => GO.nilP Z Z Z g) Z (qL Z Z (fun _ _ g => fL b24 0 fl104_0 Z g) Z (GX.l2 Z ?_))))))))))))
   refine GO.stBox (j := 2) (vs := [sV A111 (a1 ++ [(([t3, t5, t7, t9] : List Int).getD x68.toNat 0)]) c112]) ([sV A111 (a1 ++ [(([t3, t5, t7, t9] : List Int).getD x68.toNat 0)]) c112, .map (some b27), I t21, sV A28 t22 c29]) HS Z Z Z Z Z (htN na56 Z) Z Z Z fun wd114 HS => GX.finZ Z (GX.nil ?_)
   obtain ⟨t115, h116, H⟩ := bI H
   obtain ⟨t119, t120, t121, t122, h123, H⟩ := bind4_elim H
   obtain ⟨t126, t127, t128, t129, h130, H⟩ := bind4_elim H
   obtain ⟨t133, h134, H⟩ := bI H
   refine G.lexS mixed (fun w => St w0 w (Box b105 127 [I (([t3, t5, t7, t9] : List Int).getD x68.toNat 0), I (([t4, t6, t8, t10] : List Int).getD x68.toNat 0)] :: L)) [2, 4, 10] [0, 1, 3, 7, 9, 2, 4, 10, 5, 6, 8, 11, 12] [] (by kernel_rfl) (by kernel_rfl) (HS.drew.pk 6 [1] Z) ?_
   replace HS := HS.drew
   refine GX.ps 1 Z (qL Z Z (fun _ _ g => fL b105 0 fl127_0 Z g) Z (qL Z Z (fun _ _ g => fL b105 1 fl127_1 Z g) Z (GX.ps 1 Z (qL Z Z (fun _ _ g => fL b105 1 fl127_1 Z g) Z (GX.ls Z Z Z (HS.pk 6 [1] Z) (fun _ HS _ g => lB 0 HS Z na2 Z g) Z (GX.ls Z Z Z (HS.pk 6 [1] Z) (fun _ HS _ g => lB 0 HS Z na2 Z g) Z (GX.ls Z Z Z (HS.pk 6 [1] Z) (fun _ HS _ g => lB 0 HS Z na2 Z g) Z (GX.l2 Z (fJ fok95 Z (impl_invert.calls HS  h116) (fun _ wd117 ⟨h118, HS⟩ => ⟨_, h118, (GX.fin (HS.pk 6 [1] Z) (GX.l2 Z (fJ fok93 Z (impl_perm.calls HS  h123) (fun _ wd124 ⟨h125, HS⟩ => ⟨_, h125, (GX.fin (HS.pk 6 [1] Z) (qL Z Z (fun _ _ g => GO.ixArr ([t119, t120, t121, t122] : List Int) Z Z Z U131 U2 sz2 Z c104.1 c104.2 Z g) Z ?_))⟩))))⟩))))))))))
   refine GX.l2 Z (fJ fok93 Z (impl_perm.calls HS  h130) (fun _ wd131 ⟨h132, HS⟩ => ⟨_, h132, (GX.fin (HS.pk 6 [1] Z) (GX.l2 Z ?_))⟩))
   replace HS := HS.pk 6 [2, 4, 0, 1, 3, 5] Z
   refine fJ fok138 Z (impl_change_put.calls HS (ro 2 Z) (ro 3 Z) h134) (fun _ wd135 ⟨h136, HS⟩ => ⟨_, h136, (GX.fin (HS.pk 6 [3] Z) (GX.nil (rN 3 Z (gW (g1 f1 (lR _) _ _ _ _ _ _ H (HS.pk 6 [0, 4, 1, 5] Z)) Z))))⟩)
  exact gW (k1 K (lR _) _ _ _ _ _ _ H (HS.pk 6 [0, 1, 2, 3] Z)) Z
theorem impl_Triangulation_change.calls {a1 : List (List GFace)} {d1 c1 e1 : Int} {y_a : Nat → (Ty.slice 107 T_GFace).Lay} {r1 : Option (List Int × List (Arr2 × GPlace) × Int × List Arr4)} (HS : St w0 w (L)) (r_a : RdIn w0 L (Ty.slice 107 T_GFace) A_a c_a y_a a1) (H : impl_Triangulation_change.f K a1 d1 c1 e1 = some r1) :
    Calls prog 73 #[.agg [sV A_a a1 c_a].toArray, .agg [I d1, I c1, I e1].toArray] w (impl_Triangulation_change.post w0 L r1) := by
  unfold impl_Triangulation_change.f at H
  refine cG func73 Z ?_
  refine sQ (rG (bA HS Z fun b1 wd2 HS => bA HS Z fun b3 wd4 HS => aS Z (nL (rN 2 Z (rG (fL b3 0 fl33_0 Z (lB 0 HS Z na2 Z (nL (rN 3 Z ?_)))))))))
  rcases iE H with ⟨c5, H⟩ | ⟨c5, H⟩
  ·
   refine yB Z (tT c5) (sQ ?_)
   obtain ⟨t6, h7, H⟩ := bI H
   refine rG (lW 1 HS Z ag31 (fL b3 1 fl33_1 Z (lB 0 HS Z na2 Z (fL b3 2 fl33_2 Z (lB 0 HS Z na2 Z (fJ fok111 Z (impl_Triangulation_change23.calls HS (rD 2 r_a) h7) (fun _ wd14 ⟨b8, A9, c10, b11, A12, c13, h15, HS⟩ => ⟨_, h15, (aS Z (nL ?_))⟩)))))))
   obtain rfl := sI H
   exact rT _ func73 Z Z ⟨_, _, _, _, _, _, Z, (HS.pk 3 [0] Z)⟩
  refine nB Z (tF c5) (rN 2 Z ?_)
  rcases iE H with ⟨c16, H⟩ | ⟨c16, H⟩
  ·
   refine yB Z (tT c16) (sQ ?_)
   obtain ⟨t17, h18, H⟩ := bI H
   refine rG (lW 1 HS Z ag31 (fL b3 1 fl33_1 Z (lB 0 HS Z na2 Z (fL b3 2 fl33_2 Z (lB 0 HS Z na2 Z (fJ fok112 Z (impl_Triangulation_change32.calls HS (rD 2 r_a) h18) (fun _ wd25 ⟨b19, A20, c21, b22, A23, c24, h26, HS⟩ => ⟨_, h26, (aS Z (nL ?_))⟩)))))))
   obtain rfl := sI H
   exact rT _ func73 Z Z ⟨_, _, _, _, _, _, Z, (HS.pk 3 [0] Z)⟩
  refine nB Z (tF c16) (rN 2 Z ?_)
  rcases iS H with ⟨c27, H⟩ | ⟨c27, H⟩
  ·
   refine nB Z (tF c27) (rN 3 Z ?_)
   obtain ⟨t41, h42, H⟩ := bI H
   refine rG (lW 1 HS Z ag31 (fL b3 1 fl33_1 Z (lB 0 HS Z na2 Z (fL b3 2 fl33_2 Z (lB 0 HS Z na2 Z (fJ fok114 Z (impl_Triangulation_change41.calls HS (rD 2 r_a) h42) (fun _ wd49 ⟨b43, A44, c45, b46, A47, c48, h50, HS⟩ => ⟨_, h50, (aS Z (nL ?_))⟩)))))))
   obtain rfl := sI H
   exact rT _ func73 Z Z ⟨_, _, _, _, _, _, Z, (HS.pk 3 [0] Z)⟩
  refine yB Z (tT c27) (sQ ?_)
  obtain ⟨t28, t29, t30, t31, h32, H⟩ := bind4_elim H
  refine rG (fL b3 1 fl33_1 Z (lB 0 HS Z na2 Z (fJ fok113 Z (impl_change14.calls HS  h32) (fun _ wd39 ⟨b33, A34, c35, b36, A37, c38, h40, HS⟩ => ⟨_, h40, (aS Z (nL ?_))⟩))))
  replace HS := St.opt (F := (fun x => [Box b33 104 [.slice A34 x.1.length c35, .map (some b36), I x.2.2.1, .slice A37 x.2.2.2.length c38], Own (TInt .i64) 2 A34 c35 uu x.1, MapG b36 ke_Arr2 ke_GPlace x.2.1, Own T_Arr4 131 A37 c38 uu x.2.2.2])) (t28, t29, t30, t31) HS Z
  obtain rfl := sI H
  exact rT _ func73 Z Z ⟨_, _, _, _, _, _, Z, (HS.pk 3 [0] Z)⟩
theorem impl_Triangulation_moveCode.calls {a1 : List (List GFace)} {d1 c1 e1 : Int} {y_a : Nat → (Ty.slice 107 T_GFace).Lay} {r1 : Option (List Int × List (Arr2 × GPlace) × Int × List Arr4)} {r2 : Int} (HS : St w0 w (L)) (r_a : RdIn w0 L (Ty.slice 107 T_GFace) A_a c_a y_a a1) (H : impl_Triangulation_moveCode.f K a1 d1 c1 e1 = some (r1, r2)) :
    Calls prog 43 #[.agg [sV A_a a1 c_a].toArray, .agg [I d1, I c1, I e1].toArray] w (impl_Triangulation_moveCode.post w0 L r1 r2) := by
  unfold impl_Triangulation_moveCode.f at H
  refine cG func43 Z ?_
  refine sQ (rG (bA HS Z fun b1 wd2 HS => bA HS Z fun b3 wd4 HS => pS 2 Z (nL (rN 2 Z ?_))))
  obtain ⟨t18, h19, H⟩ := bI H
  rcases iS H with ⟨c22, H⟩ | ⟨c22, H⟩
  ·
   refine G.lexS mixed (fun w => St w0 w (Box b3 33 [I d1, I c1, I e1] :: Box b1 31 [sV A_a a1 c_a] :: L)) [1, 3, 8, 10] [0, 2, 1, 3, 4, 5, 6, 7, 9, 8, 10, 11, 12, 13, 14, 15] [] (by kernel_rfl) (by kernel_rfl) HS.drew ?_
   replace HS := HS.drew
   refine qL Z Z (fun _ _ g => fL b1 0 fl31_0 Z g) Z (qL Z Z (fun _ _ g => fL b3 1 fl33_1 Z g) Z (GX.ls Z Z Z HS (fun _ HS _ g => lB 1 HS Z na29 Z g) Z (GX.ls Z Z Z HS (fun _ HS _ g => lB 0 HS Z na2 Z g) Z (GX.l2 Z (fJ fok70 Z (impl_hasIndex_impl_Face.calls HS (rD 2 r_a) h19) (fun _ wd20 ⟨h21, HS⟩ => ⟨_, h21, (GX.fin HS (GX.ps 1 Z (qL Z Z (fun _ _ g => mV Z (kN 13 Z (congrArg Bool.not (bnot_of c22)) g)) Z (qL Z Z (fun _ _ g => oF Z g) Z (qL Z Z (fun _ _ g => oF Z g) Z (GX.ls Z Z Z HS (fun _ HS _ g => oF Z g) Z (GX.ls Z Z Z HS (fun _ HS _ g => oF Z g) Z (GX.l2 Z (oF Z ?_)))))))))⟩))))))
   refine GX.fin HS (qL Z Z (fun _ _ g => oF Z g) Z (GX.l2 Z (oF Z (GX.fin HS (qL Z Z (fun _ _ g => oF Z g) Z (GX.ps 1 Z (GX.nil (rN 3 Z ?_))))))))
   replace HS := HS.emp
   obtain ⟨rfl, rfl⟩ := some2 H
   exact G.ret2 _ _ func43 Z Z Z ⟨0, none, 0, 0, none, 0, Z, (HS.pk 3 [0] Z)⟩
  obtain ⟨t23, h24, H⟩ := bI H
  obtain ⟨t27, h28, H⟩ := bI H
  refine G.lexS mixed (fun w => St w0 w (Box b3 33 [I d1, I c1, I e1] :: Box b1 31 [sV A_a a1 c_a] :: L)) [1, 3, 8, 10] [0, 2, 1, 3, 4, 5, 6, 7, 9, 8, 10, 11, 12, 13, 14, 15] [] (by kernel_rfl) (by kernel_rfl) HS.drew ?_
  replace HS := HS.drew
  refine qL Z Z (fun _ _ g => fL b1 0 fl31_0 Z g) Z (qL Z Z (fun _ _ g => fL b3 1 fl33_1 Z g) Z (GX.ls Z Z Z HS (fun _ HS _ g => lB 1 HS Z na29 Z g) Z (GX.ls Z Z Z HS (fun _ HS _ g => lB 0 HS Z na2 Z g) Z (GX.l2 Z (fJ fok70 Z (impl_hasIndex_impl_Face.calls HS (rD 2 r_a) h19) (fun _ wd20 ⟨h21, HS⟩ => ⟨_, h21, (GX.fin HS (GX.ps 1 Z (qL Z Z (fun _ _ g => mV Z (kN 13 Z (congrArg Bool.not c22) g)) Z (qL Z Z (fun _ _ g => oN Z (fL b3 2 fl33_2 Z (bK g))) Z (qL Z Z (fun _ _ g => oN Z (fL b3 0 fl33_0 Z (bK g))) Z (GX.ls Z Z Z HS (fun _ HS _ g => oN Z (lB 0 HS Z na2 Z (bK g))) Z (GX.ls Z Z Z HS (fun _ HS _ g => oN Z (lB 0 HS Z na2 Z (bK g))) Z (GX.l2 Z (oN Z ?_)))))))))⟩))))))
  refine fJ fok72 Z (impl_indices.calls HS  h24) (fun _ wd25 ⟨h26, HS⟩ => ⟨_, h26, (bK (GX.fin HS (qL Z Z (fun _ _ g => oN Z (GO.sub Z Z Z Z (bK g))) Z (GX.l2 Z (oN Z (fJ fok71 Z (impl_inRange.calls HS  h28) (fun _ wd29 ⟨h30, HS⟩ => ⟨_, h30, (bK (GX.fin HS (qL Z Z (fun _ _ g => oN Z (GO.not Z Z Z (bK g))) Z (GX.ps 1 Z (GX.nil ?_)))))⟩)))))))⟩)
  rcases iS H with ⟨c31, H⟩ | ⟨c31, H⟩
  ·
   refine yB Z (congrArg Bool.not (bnot_of c31)) (rN 2 Z ?_)
   replace HS := HS.emp
   obtain ⟨rfl, rfl⟩ := some2 H
   exact G.ret2 _ _ func43 Z Z Z ⟨0, none, 0, 0, none, 0, Z, (HS.pk 3 [0] Z)⟩
  refine nB Z (congrArg Bool.not c31) (rN 2 Z ?_)
  obtain ⟨t32, h33, H⟩ := bI H
  refine rG (lW 1 HS Z ag31 (lW 0 HS Z ag33 (fJ fok73 Z (impl_Triangulation_change.calls HS (rD 2 r_a) h33) (fun _ wd40 ⟨b34, A35, c36, b37, A38, c39, h41, HS⟩ => ⟨_, h41, (aS Z (nL (rN 3 Z (rG (mV Z (GO.eqlNP Z Z Z Option.isNone_map U70 Z (aS Z (nL ?_))))))))⟩))))
  rcases optC_elim H with ⟨h44, H⟩ | ⟨x43, h44, H⟩
  ·
   subst h44
   replace HS := HS.tail
   refine rN 3 Z ?_
   replace HS := HS.emp
   obtain ⟨rfl, rfl⟩ := some2 H
   exact G.ret2 _ _ func43 Z Z Z ⟨0, none, 0, 0, none, 0, Z, (HS.pk 3 [0] Z)⟩
  subst h44
  replace HS : St w0 _ (Box b34 104 [.slice A35 x43.1.length c36, .map (some b37), I x43.2.2.1, .slice A38 x43.2.2.2.length c39] :: Own (TInt .i64) 2 A35 c36 uu x43.1 :: MapG b37 ke_Arr2 ke_GPlace x43.2.1 :: Own T_Arr4 131 A38 c39 uu x43.2.2.2 :: Box b3 33 [I d1, I c1, I e1] :: Box b1 31 [sV A_a a1 c_a] :: L) := St.unopt HS
  refine nB Z (bnot_of Bool.false_ne_true) (sQ (G.lex mixed [0, 3, 4, 5, 9, 10, 11, 1, 2, 6, 7, 8, 12, 13, 14, 15] (by kernel_rfl) ?_))
  replace HS := HS.drew
  refine qL Z Z (fun _ _ g => fL b1 0 fl31_0 Z g) Z (GX.ps 1 Z (qL Z Z (fun _ _ g => GO.nilP Z Z Z g) Z (qL Z Z (fun _ _ g => fL b34 0 fl104_0 Z g) Z (GX.ps 1 Z (qL Z Z (fun _ _ g => GO.nilP Z Z Z g) Z (qL Z Z (fun _ _ g => fL b34 2 fl104_2 Z g) Z (GX.l1 Z Z Z (fun _ g => lB 5 HS Z na29 Z g) Z (GX.l1 Z Z Z (fun _ g => lS Z Z U29 Z g) Z (GX.l1 Z Z Z (fun _ g => lB 0 HS Z na56 Z g) Z (GX.l1 Z Z Z (fun _ g => lS Z Z U56 Z g) Z (GX.ps 1 Z (GX.l1 Z Z Z (fun _ g => lB 0 HS Z na2 Z g) Z (GX.ps 3 Z (GX.nil ?_))))))))))))))
  rcases iE H with ⟨c45, H⟩ | ⟨c45, H⟩
  ·
   refine yB Z (tT c45) (rN 2 Z ?_)
   replace HS := HS.emp
   obtain ⟨rfl, rfl⟩ := some2 H
   exact G.ret2 _ _ func43 Z Z Z ⟨0, none, 0, 0, none, 0, Z, (HS.pk 7 [0] Z)⟩
  refine nB Z (tF c45) (rN 4 Z ?_)
  replace HS := St.opt (F := (fun x => [Box b34 104 [.slice A35 x.1.length c36, .map (some b37), I x.2.2.1, .slice A38 x.2.2.2.length c39], Own (TInt .i64) 2 A35 c36 uu x.1, MapG b37 ke_Arr2 ke_GPlace x.2.1, Own T_Arr4 131 A38 c39 uu x.2.2.2])) (x43.1, x43.2.1, x43.2.2.1, x43.2.2.2) HS Z
  obtain ⟨rfl, rfl⟩ := some2 H
  exact G.ret2 _ _ func43 Z Z Z ⟨_, _, _, _, _, _, Z, (HS.pk 3 [0] Z)⟩
theorem impl_Triangulation_faceClasses_fn1_free.calls {tet f : Int} {h1 i1 : Int} {f1 g1 : Int} {d1 c1 : Int} {e1 : List Int} {a1 : Nat} {r1 : List Int} (HS : St w0 w (Box a1 56 [sV A_a e1 c_a] :: Own (TInt .i64) 2 A_a c_a uu e1 :: L)) (H : impl_Triangulation_faceClasses_fn1_free.f K tet f h1 i1 f1 g1 d1 c1 e1 = some r1) :
    Calls prog 146 #[I tet, I f, .agg [I h1, I i1].toArray, .agg [I f1, I g1, I d1, I c1].toArray, pT a1] w (impl_Triangulation_faceClasses_fn1_free.post w0 L a1 A_a c_a r1) := by
  unfold impl_Triangulation_faceClasses_fn1_free.f at H
  refine cG func146 Z ?_
  refine sQ (rG (bA HS Z fun b1 wd2 HS => bA HS Z fun b3 wd4 HS => nL ?_))
  obtain ⟨c5, H⟩ := iN H
  obtain ⟨t6, h7, H⟩ := bI H
  obtain ⟨c8, H⟩ := iN H
  refine G.lex mixed [1, 2, 3, 4, 5, 8, 9, 0, 6, 7, 10, 11, 12] (by kernel_rfl) ?_
  replace HS := HS.drew
  refine GX.ps 4 Z (qL Z Z (fun _ _ g => fL b1 0 fl107_0 Z g) Z (GX.ps 1 Z (qL Z Z (fun _ _ g => GO.ixW Z Z Z U131 sz2 c5 Z g) Z (GX.l1 Z Z Z (fun _ g => lB 2 HS Z na56 Z g) Z (GX.l1 Z Z Z (fun _ g => lB 1 HS Z na2 Z g) Z (GX.ps 1 Z (GX.l1 Z Z Z (fun _ g => GO.ldW (j := 0) ([f1, g1, d1, c1] : List Int) HS Z Z Z c5 Z Z na2 Z g) Z (GX.ps 1 Z (GX.l2 Z ?_)))))))))
  replace HS := HS.pk 4 [3, 0, 1, 2] Z
  refine fJ fok147 Z (impl_union.calls HS  h7) (fun _ wd9 ⟨h10, HS⟩ => ⟨_, h10, (GX.fin tv (GX.nil ?_))⟩)
  replace HS := HS.boxEq (j := 3) (cs' := [sV A_a t6 c_a]) Z (by simp only [sV, List.length_set, c8] <;> rfl)
  obtain rfl := sI H
  exact G.end0 func146 Z ⟨Z, (HS.pk 4 [3, 0] Z)⟩
theorem impl_Triangulation_glued_Triangulation_faceClasses_fn1.calls {a1 : List (List GFace)} {e1 : List Int} {y_a : Nat → (Ty.slice 107 T_GFace).Lay} {c1 : Nat} {r1 : List Int} (HS : St w0 w (Box c1 56 [sV A_b e1 c_b] :: Own (TInt .i64) 2 A_b c_b uu e1 :: L)) (r_a : RdIn w0 L (Ty.slice 107 T_GFace) A_a c_a y_a a1) (H : impl_Triangulation_glued_Triangulation_faceClasses_fn1.f K a1 e1 = some r1) :
    Calls prog 145 #[.agg [sV A_a a1 c_a].toArray, .func (.func 146) #[] #[pT c1]] w (impl_Triangulation_glued_Triangulation_faceClasses_fn1.post w0 L c1 A_b c_b r1) := by
  unfold impl_Triangulation_glued_Triangulation_faceClasses_fn1.f at H
  refine cG func145 Z ?_
  refine sQ (rG (bA HS Z fun b1 wd2 HS => nL (sQ (rG (fL b1 0 fl31_0 Z (lB 0 HS Z na29 Z (lS Z Z U29 Z (mV Z (nL (rN 2 Z ?_))))))))))
  refine G.name (fun o1 n1 => ?_)
  have k1 : ∀ i1, i1 ≤ K → ∀ (x79 : List Int) (x80 : Int) (w : World), impl_Triangulation_glued_Triangulation_faceClasses_fn1.l1 K i1 a1 x79 x80 = some r1 → St w0 w (Box c1 56 [sV A_b x79 c_b] :: Own (TInt .i64) 2 A_b c_b uu x79 :: L) → G prog 145 36 [(1, .func (.func 146) #[] #[pT c1]), (9, sV A_a a1 c_a), (10, I (a1.length : Int)), (11, I x80)] o1 w (impl_Triangulation_glued_Triangulation_faceClasses_fn1.post w0 L c1 A_b c_b r1) := by
   refine lp (fun _ _ w H _ => by rw [impl_Triangulation_glued_Triangulation_faceClasses_fn1.l1] at H; cases H) fun f1 u1 m1 x79 x80 w H HS => ?_
   rw [impl_Triangulation_glued_Triangulation_faceClasses_fn1.l1] at H
   subst n1
   refine rN 3 Z ?_
   rcases iS H with ⟨c157, H⟩ | ⟨c157, H⟩
   ·
    refine nB Z (tF c157) (G.exit Z ?_)
    obtain rfl := sI H
    exact G.end0 func145 Z ⟨Z, HS⟩
   refine yB Z (tT c157) (rN 4 Z ?_)
   obtain ⟨c158, H⟩ := iN H
   refine rG (mV Z (iX Z U29 sz77 (rk (rD 2 r_a) HS) c158 (GO.ldRd (T := (Ty.slice 107 T_GFace)) (n := x80.toNat) (o := 0) HS (rD 2 r_a) Z Z (getD_some (d := []) (ltN c158)) Z Z na77 Z (pS 2 Z (nL (sQ (rG (mV Z (lS Z Z U77 Z (mV Z (nL (rN 2 Z ?_))))))))))))
   refine G.name (fun p1 q1 => ?_)
   have t1 : ∀ g1, g1 ≤ f1 → ∀ (x183 : List Int) (x184 : Int) (w : World), impl_Triangulation_glued_Triangulation_faceClasses_fn1.l4 K g1 a1 x80 x183 x184 = some r1 → St w0 w (Box c1 56 [sV A_b x183 c_b] :: Own (TInt .i64) 2 A_b c_b uu x183 :: L) → G prog 145 36 [(1, .func (.func 146) #[] #[pT c1]), (4, I x80), (9, sV A_a a1 c_a), (10, I (a1.length : Int)), (11, I x80), (16, sV ((y_a x80.toNat).A) (a1.getD x80.toNat []) ((y_a x80.toNat).c)), (17, I ((a1.getD x80.toNat []).length : Int)), (18, I x184)] p1 w (impl_Triangulation_glued_Triangulation_faceClasses_fn1.post w0 L c1 A_b c_b r1) := by
    refine lp (fun _ _ w H _ => by rw [impl_Triangulation_glued_Triangulation_faceClasses_fn1.l4] at H; cases H) fun d1 s1 h1 x183 x184 w H HS => ?_
    rw [impl_Triangulation_glued_Triangulation_faceClasses_fn1.l4] at H
    subst q1
    refine rN 3 Z ?_
    rcases iS H with ⟨c209, H⟩ | ⟨c209, H⟩
    ·
     refine nB Z (tF c209) (rN 4 Z (gW (m1 d1 (Nat.le_of_succ_le s1) _ _ _ H HS) Z))
    refine yB Z (tT c209) (rN 4 Z ?_)
    obtain ⟨c210, H⟩ := iN H
    obtain ⟨e211, h212, H⟩ := bnd_elim H
    refine rG (mV Z (GO.ix Z Z Z U77 sz107 ((RdIn.elem (rD 2 r_a) c158.1 c158.2) _ HS).2.2.1 c210.1 c210.2 Z (GO.ldRdA (T := T_GFace) (n := x184.toNat) HS (RdIn.elem (rD 2 r_a) c158.1 c158.2) Z Z (getD_eq (ltN c210) h212) ag107 Z (GO.alloc HS Z zr107 Z Z fun b213 wd214 HS => aS Z (sW 0 HS Z ag107 Z fun wd215 HS => nL (sQ ?_))))))
    obtain ⟨t216, h217, H⟩ := bI H
    refine rG (lW 0 HS Z ag107 (fJ fok91 Z (impl_Face_isBoundary.calls HS  h217) (fun _ wd218 ⟨h219, HS⟩ => ⟨_, h219, (GO.not Z Z Z (nL ?_))⟩)))
    rcases iE H with ⟨c220, H⟩ | ⟨c220, H⟩
    ·
     refine nB Z (congrArg Bool.not c220) (rN 4 Z (gW (h1 d1 (lR _) _ _ _ H (HS.pk 3 [1, 2] Z)) Z))
    refine yB Z (congrArg Bool.not (bnot_of c220)) ?_
    obtain ⟨t221, t222, t223, t224, h225, H⟩ := bind4_elim H
    obtain ⟨t228, h229, H⟩ := bI H
    obtain ⟨c230, H⟩ := iN H
    refine G.lexS mixed (fun w => St w0 w (Box b213 107 [I e211.Tet, I e211.Perm] :: L)) [3, 5] [0, 1, 2, 4, 3, 5, 6, 7] [] (by kernel_rfl) (by kernel_rfl) (HS.drew.pk 3 [0] Z) ?_
    replace HS := HS.drew
    refine GX.ps 3 Z (qL Z Z (fun _ _ g => fL b213 1 fl107_1 Z g) Z (GX.ls Z Z Z (HS.pk 3 [0] Z) (fun _ HS _ g => lW 0 HS Z ag107 g) Z (GX.ls Z Z Z (HS.pk 3 [0] Z) (fun _ HS _ g => lB 0 HS Z na2 Z g) Z (GX.l2 Z (fJ fok93 Z (impl_perm.calls HS  h225) (fun _ wd226 ⟨h227, HS⟩ => ⟨_, h227, (GX.fin (HS.pk 3 [0] Z) (GX.l2 Z ?_))⟩))))))
    replace HS := HS.pk 3 [1, 2, 0] Z
    refine GO.clo Z Z func146 fok146.2.1 fok146.2.2 Z Z (impl_Triangulation_faceClasses_fn1_free.calls HS  h229) (fun _ wd231 ⟨h232, HS⟩ => ⟨_, h232, (GX.fin (HS.pk 3 [2] Z) (GX.nil (rN 3 Z (gW (h1 d1 (lR _) _ _ _ H (HS.pk 3 [0, 1] Z)) Z))))⟩)
   exact gW (t1 f1 (lR _) _ _ _ H HS) Z
  exact gW (k1 K (lR _) _ _ _ H (HS.pk 3 [1, 2] Z)) Z
theorem impl_Triangulation_faceClasses.calls {a1 : List (List GFace)} {y_a : Nat → (Ty.slice 107 T_GFace).Lay} {r1 : List Int} (HS : St w0 w (L)) (r_a : RdIn w0 L (Ty.slice 107 T_GFace) A_a c_a y_a a1) (H : impl_Triangulation_faceClasses.f K a1 = some r1) :
    Calls prog 123 #[.agg [sV A_a a1 c_a].toArray] w (impl_Triangulation_faceClasses.post w0 L r1) := by
  unfold impl_Triangulation_faceClasses.f at H
  refine cG func123 Z ?_
  refine sQ (rG (bA HS Z fun b1 wd2 HS => aS Z (nL (sQ ?_))))
  obtain ⟨t3, h4, H⟩ := bI H
  obtain ⟨t7, h8, H⟩ := bI H
  refine rG (fL b1 0 fl31_0 Z (lB 0 HS Z na29 Z (fJ fok49 Z (impl_size_impl_Face.calls HS (rD 1 r_a) h4) (fun _ wd5 ⟨h6, HS⟩ => ⟨_, h6, (GO.mul Z Z Z Z (fJ fok144 Z (impl_counting.calls HS  h8) (fun _ wd11 ⟨A9, c10, h12, HS⟩ => ⟨_, h12, (GO.alloc HS Z zr56 Z Z fun b13 wd14 HS => GO.stBox (j := 0) (vs := [sV A9 t7 c10]) ([sV A9 t7 c10]) HS Z Z Z Z Z (htN na56 Z) Z Z Z fun wd15 HS => nL (sQ ?_))⟩)))⟩))))
  obtain ⟨t16, h17, H⟩ := bI H
  obtain ⟨c18, H⟩ := iN H
  refine rG (lW 2 HS Z ag31 (GO.mkFunc Z Z Z Z ?_))
  replace HS := HS.pk 3 [0, 1, 2] Z
  refine fJ fok145 Z (impl_Triangulation_glued_Triangulation_faceClasses_fn1.calls HS (rD 1 r_a) h17) (fun _ wd19 ⟨h20, HS⟩ => ⟨_, h20, (nL (sQ ?_))⟩)
  obtain ⟨t21, h22, H⟩ := bI H
  refine rG (lB 0 HS Z na56 Z (fJ fok148 Z (impl_numbered.calls HS (ro 1 Z) h22) (fun _ wd25 ⟨A23, c24, h26, HS⟩ => ⟨_, h26, (aS Z (nL ?_))⟩)))
  obtain rfl := sI H
  exact rT _ func123 Z Z ⟨_, _, Z, (HS.pk 4 [0] Z)⟩
theorem impl_Triangulation_vertexClasses_fn1_free.calls {tet f : Int} {g1 i1 : Int} {e1 f1 : Int} {d1 c1 : Int} {h1 : List Int} {a1 : Nat} {r1 : List Int} (HS : St w0 w (Box a1 56 [sV A_a h1 c_a] :: Own (TInt .i64) 2 A_a c_a uu h1 :: L)) (H : impl_Triangulation_vertexClasses_fn1_free.f K tet f g1 i1 e1 f1 d1 c1 h1 = some r1) :
    Calls prog 152 #[I tet, I f, .agg [I g1, I i1].toArray, .agg [I e1, I f1, I d1, I c1].toArray, pT a1] w (impl_Triangulation_vertexClasses_fn1_free.post w0 L a1 A_a c_a r1) := by
  unfold impl_Triangulation_vertexClasses_fn1_free.f at H
  refine cG func152 Z ?_
  refine sQ (rG (bA HS Z fun b1 wd2 HS => bA HS Z fun b3 wd4 HS => nL (sQ ?_)))
  obtain ⟨t7, h8, H⟩ := bI H
  refine rG (mV Z (GO.buildS (el := 2) ([I f]) HS Z Z (fun _ => by kernel_rfl) Z fun b5 wd6 HS => ?_))
  replace HS := HS.boxRow (T := (TInt .i64)) (j := 0) Z flat_flat uu ([f] : List Int) Z (bndL Z)
  refine GO.lenC (t := 12) (m := ([f] : List Int).length) (c' := ([f] : List Int).length) Z Z Z (fJ fok137 Z (impl_others.calls HS (ro 0 Z) h8) (fun _ wd11 ⟨A9, c10, h12, HS⟩ => ⟨_, h12, (lS Z Z U56 Z (mV Z (nL (rN 2 Z ?_))))⟩))
  refine G.name (fun p1 o1 => ?_)
  have q1 : ∀ k1, k1 ≤ K → ∀ (x21 : List Int) (x22 : Int) (w : World), impl_Triangulation_vertexClasses_fn1_free.l1 K k1 tet g1 e1 f1 d1 c1 t7 x21 x22 = some r1 → St w0 w (Box a1 56 [sV A_a x21 c_a] :: Own (TInt .i64) 2 A_a c_a uu x21 :: Box b1 107 [I g1, I i1] :: Box b3 131 [I e1, I f1, I d1, I c1] :: Own (TInt .i64) 2 A9 c10 uu t7 :: L) → G prog 152 33 [(0, I tet), (4, pT a1), (7, pT b1), (8, pT b3), (13, sV A9 t7 c10), (14, I (t7.length : Int)), (15, I x22)] p1 w (impl_Triangulation_vertexClasses_fn1_free.post w0 L a1 A_a c_a r1) := by
   refine lp (fun _ _ w H _ => by rw [impl_Triangulation_vertexClasses_fn1_free.l1] at H; cases H) fun m1 s1 n1 x21 x22 w H HS => ?_
   rw [impl_Triangulation_vertexClasses_fn1_free.l1] at H
   subst o1
   refine rN 3 Z ?_
   rcases iS H with ⟨c31, H⟩ | ⟨c31, H⟩
   ·
    refine nB Z (tF c31) (G.exit Z ?_)
    obtain rfl := sI H
    exact G.end0 func152 Z ⟨Z, (HS.pk 5 [0, 1] Z)⟩
   refine yB Z (tT c31) (rN 4 Z ?_)
   obtain ⟨c32, H⟩ := iN H
   refine rG (iX Z U56 sz2 (rk (ro 4 Z) HS) c32 (GO.ldRd (T := (TInt .i64)) (n := x22.toNat) (o := 0) HS (ro 4 Z) Z Z (getD_some (d := 0) (ltN c32)) Z Z na2 Z (aS Z (nL ?_))))
   obtain ⟨c33, H⟩ := iN H
   obtain ⟨t34, h35, H⟩ := bI H
   obtain ⟨c36, H⟩ := iN H
   refine G.lex mixed [1, 2, 3, 4, 5, 8, 9, 0, 6, 7, 10, 11, 12] (by kernel_rfl) ?_
   replace HS := HS.drew
   refine GX.ps 4 Z (qL Z Z (fun _ _ g => fL b1 0 fl107_0 Z g) Z (GX.ps 1 Z (qL Z Z (fun _ _ g => GO.ixW Z Z Z U131 sz2 c33 Z g) Z (GX.l1 Z Z Z (fun _ g => lB 0 HS Z na56 Z g) Z (GX.l1 Z Z Z (fun _ g => lB 2 HS Z na2 Z g) Z (GX.ps 1 Z (GX.l1 Z Z Z (fun _ g => GO.ldW (j := 3) ([e1, f1, d1, c1] : List Int) HS Z Z Z c33 Z Z na2 Z g) Z (GX.ps 1 Z (GX.l2 Z ?_)))))))))
   replace HS := HS.pk 5 [1, 0, 2, 3, 4] Z
   refine fJ fok147 Z (impl_union.calls HS  h35) (fun _ wd37 ⟨h38, HS⟩ => ⟨_, h38, (GX.fin tv (GX.nil ?_))⟩)
   replace HS := HS.boxEq (j := 1) (cs' := [sV A_a t34 c_a]) Z (by simp only [sV, List.length_set, c36] <;> rfl)
   refine rN 3 Z (gW (n1 m1 (lR _) _ _ _ H (HS.pk 5 [1, 0, 2, 3, 4] Z)) Z)
  exact gW (q1 K (lR _) _ _ _ H (HS.pk 6 [4, 5, 3, 2, 0] Z)) Z
theorem impl_Triangulation_glued_Triangulation_vertexClasses_fn1.calls {a1 : List (List GFace)} {e1 : List Int} {y_a : Nat → (Ty.slice 107 T_GFace).Lay} {c1 : Nat} {r1 : List Int} (HS : St w0 w (Box c1 56 [sV A_b e1 c_b] :: Own (TInt .i64) 2 A_b c_b uu e1 :: L)) (r_a : RdIn w0 L (Ty.slice 107 T_GFace) A_a c_a y_a a1) (H : impl_Triangulation_glued_Triangulation_vertexClasses_fn1.f K a1 e1 = some r1) :
    Calls prog 145 #[.agg [sV A_a a1 c_a].toArray, .func (.func 152) #[] #[pT c1]] w (impl_Triangulation_glued_Triangulation_vertexClasses_fn1.post w0 L c1 A_b c_b r1) := by
  unfold impl_Triangulation_glued_Triangulation_vertexClasses_fn1.f at H
  refine cG func145 Z ?_
  refine sQ (rG (bA HS Z fun b1 wd2 HS => nL (sQ (rG (fL b1 0 fl31_0 Z (lB 0 HS Z na29 Z (lS Z Z U29 Z (mV Z (nL (rN 2 Z ?_))))))))))
  refine G.name (fun o1 n1 => ?_)
  have k1 : ∀ i1, i1 ≤ K → ∀ (x79 : List Int) (x80 : Int) (w : World), impl_Triangulation_glued_Triangulation_vertexClasses_fn1.l1 K i1 a1 x79 x80 = some r1 → St w0 w (Box c1 56 [sV A_b x79 c_b] :: Own (TInt .i64) 2 A_b c_b uu x79 :: L) → G prog 145 36 [(1, .func (.func 152) #[] #[pT c1]), (9, sV A_a a1 c_a), (10, I (a1.length : Int)), (11, I x80)] o1 w (impl_Triangulation_glued_Triangulation_vertexClasses_fn1.post w0 L c1 A_b c_b r1) := by
   refine lp (fun _ _ w H _ => by rw [impl_Triangulation_glued_Triangulation_vertexClasses_fn1.l1] at H; cases H) fun f1 u1 m1 x79 x80 w H HS => ?_
   rw [impl_Triangulation_glued_Triangulation_vertexClasses_fn1.l1] at H
   subst n1
   refine rN 3 Z ?_
   rcases iS H with ⟨c157, H⟩ | ⟨c157, H⟩
   ·
    refine nB Z (tF c157) (G.exit Z ?_)
    obtain rfl := sI H
    exact G.end0 func145 Z ⟨Z, HS⟩
   refine yB Z (tT c157) (rN 4 Z ?_)
   obtain ⟨c158, H⟩ := iN H
   refine rG (mV Z (iX Z U29 sz77 (rk (rD 2 r_a) HS) c158 (GO.ldRd (T := (Ty.slice 107 T_GFace)) (n := x80.toNat) (o := 0) HS (rD 2 r_a) Z Z (getD_some (d := []) (ltN c158)) Z Z na77 Z (pS 2 Z (nL (sQ (rG (mV Z (lS Z Z U77 Z (mV Z (nL (rN 2 Z ?_))))))))))))
   refine G.name (fun p1 q1 => ?_)
   have t1 : ∀ g1, g1 ≤ f1 → ∀ (x183 : List Int) (x184 : Int) (w : World), impl_Triangulation_glued_Triangulation_vertexClasses_fn1.l4 K g1 a1 x80 x183 x184 = some r1 → St w0 w (Box c1 56 [sV A_b x183 c_b] :: Own (TInt .i64) 2 A_b c_b uu x183 :: L) → G prog 145 36 [(1, .func (.func 152) #[] #[pT c1]), (4, I x80), (9, sV A_a a1 c_a), (10, I (a1.length : Int)), (11, I x80), (16, sV ((y_a x80.toNat).A) (a1.getD x80.toNat []) ((y_a x80.toNat).c)), (17, I ((a1.getD x80.toNat []).length : Int)), (18, I x184)] p1 w (impl_Triangulation_glued_Triangulation_vertexClasses_fn1.post w0 L c1 A_b c_b r1) := by
    refine lp (fun _ _ w H _ => by rw [impl_Triangulation_glued_Triangulation_vertexClasses_fn1.l4] at H; cases H) fun d1 s1 h1 x183 x184 w H HS => ?_
    rw [impl_Triangulation_glued_Triangulation_vertexClasses_fn1.l4] at H
    subst q1
    refine rN 3 Z ?_
    rcases iS H with ⟨c209, H⟩ | ⟨c209, H⟩
    ·
     refine nB Z (tF c209) (rN 4 Z (gW (m1 d1 (Nat.le_of_succ_le s1) _ _ _ H HS) Z))
    refine yB Z (tT c209) (rN 4 Z ?_)
    obtain ⟨c210, H⟩ := iN H
    obtain ⟨e211, h212, H⟩ := bnd_elim H
    refine rG (mV Z (GO.ix Z Z Z U77 sz107 ((RdIn.elem (rD 2 r_a) c158.1 c158.2) _ HS).2.2.1 c210.1 c210.2 Z (GO.ldRdA (T := T_GFace) (n := x184.toNat) HS (RdIn.elem (rD 2 r_a) c158.1 c158.2) Z Z (getD_eq (ltN c210) h212) ag107 Z (GO.alloc HS Z zr107 Z Z fun b213 wd214 HS => aS Z (sW 0 HS Z ag107 Z fun wd215 HS => nL (sQ ?_))))))
    obtain ⟨t216, h217, H⟩ := bI H
    refine rG (lW 0 HS Z ag107 (fJ fok91 Z (impl_Face_isBoundary.calls HS  h217) (fun _ wd218 ⟨h219, HS⟩ => ⟨_, h219, (GO.not Z Z Z (nL ?_))⟩)))
    rcases iE H with ⟨c220, H⟩ | ⟨c220, H⟩
    ·
     refine nB Z (congrArg Bool.not c220) (rN 4 Z (gW (h1 d1 (lR _) _ _ _ H (HS.pk 3 [1, 2] Z)) Z))
    refine yB Z (congrArg Bool.not (bnot_of c220)) ?_
    obtain ⟨t221, t222, t223, t224, h225, H⟩ := bind4_elim H
    obtain ⟨t228, h229, H⟩ := bI H
    obtain ⟨c230, H⟩ := iN H
    refine G.lexS mixed (fun w => St w0 w (Box b213 107 [I e211.Tet, I e211.Perm] :: L)) [3, 5] [0, 1, 2, 4, 3, 5, 6, 7] [] (by kernel_rfl) (by kernel_rfl) (HS.drew.pk 3 [0] Z) ?_
    replace HS := HS.drew
    refine GX.ps 3 Z (qL Z Z (fun _ _ g => fL b213 1 fl107_1 Z g) Z (GX.ls Z Z Z (HS.pk 3 [0] Z) (fun _ HS _ g => lW 0 HS Z ag107 g) Z (GX.ls Z Z Z (HS.pk 3 [0] Z) (fun _ HS _ g => lB 0 HS Z na2 Z g) Z (GX.l2 Z (fJ fok93 Z (impl_perm.calls HS  h225) (fun _ wd226 ⟨h227, HS⟩ => ⟨_, h227, (GX.fin (HS.pk 3 [0] Z) (GX.l2 Z ?_))⟩))))))
    replace HS := HS.pk 3 [1, 2, 0] Z
    refine GO.clo Z Z func152 fok152.2.1 fok152.2.2 Z Z (impl_Triangulation_vertexClasses_fn1_free.calls HS  h229) (fun _ wd231 ⟨h232, HS⟩ => ⟨_, h232, (GX.fin (HS.pk 3 [2] Z) (GX.nil (rN 3 Z (gW (h1 d1 (lR _) _ _ _ H (HS.pk 3 [0, 1] Z)) Z))))⟩)
   exact gW (t1 f1 (lR _) _ _ _ H HS) Z
  exact gW (k1 K (lR _) _ _ _ H (HS.pk 3 [1, 2] Z)) Z
theorem impl_Triangulation_vertexClasses.calls {a1 : List (List GFace)} {y_a : Nat → (Ty.slice 107 T_GFace).Lay} {r1 : List Int} (HS : St w0 w (L)) (r_a : RdIn w0 L (Ty.slice 107 T_GFace) A_a c_a y_a a1) (H : impl_Triangulation_vertexClasses.f K a1 = some r1) :
    Calls prog 125 #[.agg [sV A_a a1 c_a].toArray] w (impl_Triangulation_vertexClasses.post w0 L r1) := by
  unfold impl_Triangulation_vertexClasses.f at H
  refine cG func125 Z ?_
  refine sQ (rG (bA HS Z fun b1 wd2 HS => aS Z (nL (sQ ?_))))
  obtain ⟨t3, h4, H⟩ := bI H
  obtain ⟨t7, h8, H⟩ := bI H
  refine rG (fL b1 0 fl31_0 Z (lB 0 HS Z na29 Z (fJ fok49 Z (impl_size_impl_Face.calls HS (rD 1 r_a) h4) (fun _ wd5 ⟨h6, HS⟩ => ⟨_, h6, (GO.mul Z Z Z Z (fJ fok144 Z (impl_counting.calls HS  h8) (fun _ wd11 ⟨A9, c10, h12, HS⟩ => ⟨_, h12, (GO.alloc HS Z zr56 Z Z fun b13 wd14 HS => GO.stBox (j := 0) (vs := [sV A9 t7 c10]) ([sV A9 t7 c10]) HS Z Z Z Z Z (htN na56 Z) Z Z Z fun wd15 HS => nL (sQ ?_))⟩)))⟩))))
  obtain ⟨t16, h17, H⟩ := bI H
  obtain ⟨c18, H⟩ := iN H
  refine rG (lW 2 HS Z ag31 (GO.mkFunc Z Z Z Z ?_))
  replace HS := HS.pk 3 [0, 1, 2] Z
  refine fJ fok145 Z (impl_Triangulation_glued_Triangulation_vertexClasses_fn1.calls HS (rD 1 r_a) h17) (fun _ wd19 ⟨h20, HS⟩ => ⟨_, h20, (nL (sQ ?_))⟩)
  obtain ⟨t21, h22, H⟩ := bI H
  refine rG (lB 0 HS Z na56 Z (fJ fok148 Z (impl_numbered.calls HS (ro 1 Z) h22) (fun _ wd25 ⟨A23, c24, h26, HS⟩ => ⟨_, h26, (aS Z (nL ?_))⟩)))
  obtain rfl := sI H
  exact rT _ func125 Z Z ⟨_, _, Z, (HS.pk 4 [0] Z)⟩
theorem impl_Triangulation_moveClass.calls {d1 : List (List GFace)} {e1 a1 c1 : Int} {y_a : Nat → (Ty.slice 107 T_GFace).Lay} {r1 : Int} (HS : St w0 w (L)) (r_a : RdIn w0 L (Ty.slice 107 T_GFace) A_a c_a y_a d1) (H : impl_Triangulation_moveClass.f K d1 e1 a1 c1 = some r1) :
    Calls prog 81 #[.agg [sV A_a d1 c_a].toArray, .agg [I e1, I a1, I c1].toArray] w (impl_Triangulation_moveClass.post w0 L r1) := by
  unfold impl_Triangulation_moveClass.f at H
  refine cG func81 Z ?_
  refine sQ (rG (bA HS Z fun b1 wd2 HS => bA HS Z fun b3 wd4 HS => aS Z (nL (rN 2 Z (rG (fL b3 0 fl33_0 Z (lB 0 HS Z na2 Z (nL (rN 3 Z ?_)))))))))
  rcases iE H with ⟨c5, H⟩ | ⟨c5, H⟩
  ·
   refine yB Z (tT c5) (sQ ?_)
   obtain ⟨t6, h7, H⟩ := bI H
   obtain ⟨c12, H⟩ := iN H
   refine G.lexS mixed (fun w => St w0 w (Box b3 33 [I e1, I a1, I c1] :: Box b1 31 [sV A_a d1 c_a] :: L)) [0, 3, 6] [2, 5, 0, 3, 4, 6, 7, 1, 8, 9, 10] [] (by kernel_rfl) (by kernel_rfl) HS.drew ?_
   replace HS := HS.drew
   refine qL Z Z (fun _ _ g => fL b3 1 fl33_1 Z g) Z (qL Z Z (fun _ _ g => fL b3 2 fl33_2 Z g) Z (GX.ls Z Z Z HS (fun _ HS _ g => lW 1 HS Z ag31 g) Z (GX.ls Z Z Z HS (fun _ HS _ g => lB 0 HS Z na2 Z g) Z (GX.ps 1 Z (GX.ls Z Z Z HS (fun _ HS _ g => lB 0 HS Z na2 Z g) Z (GX.ps 1 Z (GX.l2 Z (fJ fok123 Z (impl_Triangulation_faceClasses.calls HS (rD 2 r_a) h7) (fun _ wd10 ⟨A8, c9, h11, HS⟩ => ⟨_, h11, (GX.fin (HS.pk 3 [1, 2] Z) (qL Z Z (fun _ _ g => iX Z U56 sz2 (rk (ro 0 Z) HS) c12 g) Z (GX.l1 Z Z Z (fun _ g => GO.ldRd (T := (TInt .i64)) (n := (w64 ((w64 (4 * a1)) + c1)).toNat) (o := 0) HS (ro 0 Z) Z Z (getD_some (d := 0) (ltN c12)) Z Z na2 Z g) Z (GX.ps 1 Z (GX.nil ?_)))))⟩)))))))))
   obtain rfl := sI H
   exact rT _ func81 Z Z ⟨Z, (HS.pk 3 [] Z)⟩
  refine nB Z (tF c5) (rN 2 Z ?_)
  rcases iE H with ⟨c13, H⟩ | ⟨c13, H⟩
  ·
   refine yB Z (tT c13) (sQ ?_)
   obtain ⟨t14, h15, H⟩ := bI H
   obtain ⟨c20, H⟩ := iN H
   refine G.lexS mixed (fun w => St w0 w (Box b3 33 [I e1, I a1, I c1] :: Box b1 31 [sV A_a d1 c_a] :: L)) [0, 3, 6] [2, 5, 0, 3, 4, 6, 7, 1, 8, 9, 10] [] (by kernel_rfl) (by kernel_rfl) HS.drew ?_
   replace HS := HS.drew
   refine qL Z Z (fun _ _ g => fL b3 1 fl33_1 Z g) Z (qL Z Z (fun _ _ g => fL b3 2 fl33_2 Z g) Z (GX.ls Z Z Z HS (fun _ HS _ g => lW 1 HS Z ag31 g) Z (GX.ls Z Z Z HS (fun _ HS _ g => lB 0 HS Z na2 Z g) Z (GX.ps 1 Z (GX.ls Z Z Z HS (fun _ HS _ g => lB 0 HS Z na2 Z g) Z (GX.ps 1 Z (GX.l2 Z (fJ fok124 Z (impl_Triangulation_edgeClasses.calls HS (rD 2 r_a) h15) (fun _ wd18 ⟨A16, c17, h19, HS⟩ => ⟨_, h19, (GX.fin (HS.pk 3 [1, 2] Z) (qL Z Z (fun _ _ g => iX Z U56 sz2 (rk (ro 0 Z) HS) c20 g) Z (GX.l1 Z Z Z (fun _ g => GO.ldRd (T := (TInt .i64)) (n := (w64 ((w64 (6 * a1)) + c1)).toNat) (o := 0) HS (ro 0 Z) Z Z (getD_some (d := 0) (ltN c20)) Z Z na2 Z g) Z (GX.ps 1 Z (GX.nil ?_)))))⟩)))))))))
   obtain rfl := sI H
   exact rT _ func81 Z Z ⟨Z, (HS.pk 3 [] Z)⟩
  refine nB Z (tF c13) (rN 2 Z ?_)
  rcases iE H with ⟨c21, H⟩ | ⟨c21, H⟩
  ·
   refine yB Z (tT c21) (sQ (rG (fL b3 1 fl33_1 Z (lB 0 HS Z na2 Z (aS Z (nL ?_))))))
   obtain rfl := sI H
   exact rT _ func81 Z Z ⟨Z, (HS.pk 2 [] Z)⟩
  refine nB Z (tF c21) (rN 3 Z ?_)
  obtain ⟨t22, h23, H⟩ := bI H
  obtain ⟨c28, H⟩ := iN H
  refine G.lexS mixed (fun w => St w0 w (Box b3 33 [I e1, I a1, I c1] :: Box b1 31 [sV A_a d1 c_a] :: L)) [0, 3, 6] [2, 5, 0, 3, 4, 6, 7, 1, 8, 9, 10] [] (by kernel_rfl) (by kernel_rfl) HS.drew ?_
  replace HS := HS.drew
  refine qL Z Z (fun _ _ g => fL b3 1 fl33_1 Z g) Z (qL Z Z (fun _ _ g => fL b3 2 fl33_2 Z g) Z (GX.ls Z Z Z HS (fun _ HS _ g => lW 1 HS Z ag31 g) Z (GX.ls Z Z Z HS (fun _ HS _ g => lB 0 HS Z na2 Z g) Z (GX.ps 1 Z (GX.ls Z Z Z HS (fun _ HS _ g => lB 0 HS Z na2 Z g) Z (GX.ps 1 Z (GX.l2 Z (fJ fok125 Z (impl_Triangulation_vertexClasses.calls HS (rD 2 r_a) h23) (fun _ wd26 ⟨A24, c25, h27, HS⟩ => ⟨_, h27, (GX.fin (HS.pk 3 [1, 2] Z) (qL Z Z (fun _ _ g => iX Z U56 sz2 (rk (ro 0 Z) HS) c28 g) Z (GX.l1 Z Z Z (fun _ g => GO.ldRd (T := (TInt .i64)) (n := (w64 ((w64 (4 * a1)) + c1)).toNat) (o := 0) HS (ro 0 Z) Z Z (getD_some (d := 0) (ltN c28)) Z Z na2 Z g) Z (GX.ps 1 Z (GX.nil ?_)))))⟩)))))))))
  obtain rfl := sI H
  exact rT _ func81 Z Z ⟨Z, (HS.pk 3 [] Z)⟩
theorem impl_Triangulation_possibleMoves.calls {c1 : List (List GFace)} {y_a : Nat → (Ty.slice 107 T_GFace).Lay} {r1 : List GMove} (HS : St w0 w (L)) (r_a : RdIn w0 L (Ty.slice 107 T_GFace) A_a c_a y_a c1) (H : impl_Triangulation_possibleMoves.f K c1 = some r1) :
    Calls prog 47 #[.agg [sV A_a c1 c_a].toArray] w (impl_Triangulation_possibleMoves.post w0 L r1) := by
  unfold impl_Triangulation_possibleMoves.f at H
  refine cG func47 Z ?_
  refine sQ (rG (bA HS Z fun b1 wd2 HS => aS Z (nL (rN 3 Z (rG (GO.newMapG ke_Arr2 Value.bool HS Z Z fun b3 wd4 HS => aS Z (nL (rN 5 Z ?_))))))))
  refine G.name (fun g2 y1 => ?_)
  have f2 : ∀ o1, o1 ≤ K → ∀ (A323 : Option Addr) (c324 : Nat) (g1 : List GMove) (n1 : List (Arr2 × Bool)) (a1 : Int) (w : World), impl_Triangulation_possibleMoves.l1 K o1 c1 g1 n1 a1 = some r1 → St w0 w (Box b1 31 [sV A_a c1 c_a] :: Own T_GMove 33 A323 c324 uu g1 :: MapG b3 ke_Arr2 Value.bool n1 :: L) → G prog 47 58 [(1, pT b1), (3, sV A323 g1 c324), (4, .map (some b3)), (5, I a1)] g2 w (impl_Triangulation_possibleMoves.post w0 L r1) := by
   refine lp (fun _ _ _ _ _ w H _ => by rw [impl_Triangulation_possibleMoves.l1] at H; cases H) fun p1 h2 b2 A323 c324 g1 n1 a1 w H HS => ?_
   rw [impl_Triangulation_possibleMoves.l1] at H
   subst y1
   refine rN 3 Z ?_
   rcases iS H with ⟨c647, H⟩ | ⟨c647, H⟩
   ·
    refine nB Z (tF c647) (rN 3 Z ?_)
    obtain rfl := sI H
    exact rT _ func47 Z Z ⟨_, _, Z, (HS.pk 3 [1] Z)⟩
   refine yB Z (tT c647) (rN 4 Z ?_)
   obtain ⟨t648, h649, H⟩ := bI H
   refine rG (fL b1 0 fl31_0 Z (lB 0 HS Z na29 Z (fJ fok49 Z (impl_size_impl_Face.calls HS (rD 3 r_a) h649) (fun _ wd650 ⟨h651, HS⟩ => ⟨_, h651, (mV Z (nL (rN 2 Z ?_)))⟩))))
   refine G.name (fun a2 v1 => ?_)
   have d2 : ∀ q1, q1 ≤ p1 → ∀ (A755 : Option Addr) (c756 : Nat) (e1 : List GMove) (i1 : List (Arr2 × Bool)) (x759 : Int) (w : World), impl_Triangulation_possibleMoves.l10 K q1 c1 a1 t648 e1 i1 x759 = some r1 → St w0 w (Box b1 31 [sV A_a c1 c_a] :: Own T_GMove 33 A755 c756 uu e1 :: MapG b3 ke_Arr2 Value.bool i1 :: L) → G prog 47 58 [(1, pT b1), (3, sV A755 e1 c756), (4, .map (some b3)), (5, I a1), (19, I t648), (20, I x759)] a2 w (impl_Triangulation_possibleMoves.post w0 L r1) := by
    refine lp (fun _ _ _ _ _ w H _ => by rw [impl_Triangulation_possibleMoves.l10] at H; cases H) fun m1 z1 x1 A755 c756 e1 i1 x759 w H HS => ?_
    rw [impl_Triangulation_possibleMoves.l10] at H
    subst v1
    refine rN 3 Z ?_
    rcases iS H with ⟨c863, H⟩ | ⟨c863, H⟩
    ·
     refine nB Z (tF c863) (rN 4 Z (gW (b2 m1 (Nat.le_of_succ_le z1) _ _ _ _ _ _ H HS) Z))
    refine yB Z (tT c863) (rN 6 Z ?_)
    obtain ⟨t864, h865, H⟩ := bI H
    refine rG (mV Z (fJ fok72 Z (impl_indices.calls HS  h865) (fun _ wd866 ⟨h867, HS⟩ => ⟨_, h867, (mV Z (nL (rN 2 Z ?_)))⟩)))
    refine G.name (fun e2 c2 => ?_)
    have u1 : ∀ s1, s1 ≤ m1 → ∀ (A899 : Option Addr) (c900 : Nat) (d1 : List GMove) (k1 : List (Arr2 × Bool)) (x903 : Int) (w : World), impl_Triangulation_possibleMoves.l13 K s1 c1 a1 t648 x759 t864 d1 k1 x903 = some r1 → St w0 w (Box b1 31 [sV A_a c1 c_a] :: Own T_GMove 33 A899 c900 uu d1 :: MapG b3 ke_Arr2 Value.bool k1 :: L) → G prog 47 58 [(1, pT b1), (3, sV A899 d1 c900), (4, .map (some b3)), (5, I a1), (6, I x759), (19, I t648), (20, I x759), (24, I t864), (25, I x903)] e2 w (impl_Triangulation_possibleMoves.post w0 L r1) := by
     refine lp (fun _ _ _ _ _ w H _ => by rw [impl_Triangulation_possibleMoves.l13] at H; cases H) fun f1 t1 h1 A899 c900 d1 k1 x903 w H HS => ?_
     rw [impl_Triangulation_possibleMoves.l13] at H
     subst c2
     refine rN 3 Z ?_
     rcases iS H with ⟨c935, H⟩ | ⟨c935, H⟩
     ·
      refine nB Z (tF c935) (rN 4 Z (gW (x1 f1 (Nat.le_of_succ_le t1) _ _ _ _ _ _ H HS) Z))
     refine yB Z (tT c935) (rN 6 Z (rG (pS 3 Z (GO.buildV (.agg [I a1, I x759, I x903].toArray) Z Z (fun _ => by kernel_rfl) Z (GO.alloc HS Z zr33 Z Z fun b936 wd937 HS => sW 0 HS Z ag33 Z fun wd938 HS => nL (rN 2 Z ?_))))))
     obtain ⟨t939, t940, h941, H⟩ := bind2_elim H
     refine rG (lW 1 HS Z ag31 (lW 0 HS Z ag33 (fJ fok43 Z (impl_Triangulation_moveCode.calls HS (rD 4 r_a) h941) (fun _ wd948 ⟨b942, A943, c944, b945, A946, c947, h949, HS⟩ => ⟨_, h949, (pS 5 Z (nL (rN 2 Z ?_)))⟩))))
     rcases iS H with ⟨c950, H⟩ | ⟨c950, H⟩
     ·
      refine yB Z (nF c950) (rN 3 Z (gW (h1 f1 (lR _) _ _ _ _ _ _ H (HS.pk 5 [2, 3, 4] Z)) Z))
     refine nB Z (nT c950) (rN 2 Z ?_)
     obtain ⟨t951, h952, H⟩ := bI H
     refine rG (mV Z (lW 2 HS Z ag31 (lW 1 HS Z ag33 (fJ fok81 Z (impl_Triangulation_moveClass.calls HS (rD 5 r_a) h952) (fun _ wd953 ⟨h954, HS⟩ => ⟨_, h954, (GO.buildV (.agg [I a1, I t951].toArray) Z Z (fun _ => by kernel_rfl) Z (GO.alloc HS Z zr118 Z Z fun b955 wd956 HS => sW 0 HS Z ag118 Z fun wd957 HS => nL (sQ (rG (mV Z (lW 0 HS Z ag118 (GO.lookG false (⟨a1, t951⟩ : Arr2) kok118 HS (j := 5) Z Z Z Z U116 zr4 Z Z (GO.not Z Z Z ?_))))))))⟩)))))
     refine nL ?_
     rcases iE H with ⟨c958, H⟩ | ⟨c958, H⟩
     ·
      refine nB Z (congrArg Bool.not c958) (rN 4 Z (gW (h1 f1 (lR _) _ _ _ _ _ _ H (HS.pk 6 [3, 4, 5] Z)) Z))
     refine yB Z (congrArg Bool.not (bnot_of c958)) (sQ (rG (mV Z (lW 0 HS Z ag118 (GO.putMG (⟨a1, t951⟩ : Arr2) true kok118 HS (j := 5) Z Z Z Z Z U116 fun wd959 HS => nL ?_)))))
     obtain ⟨c965, H⟩ := iN H
     refine rG (mV Z (lW 2 HS Z ag33 (GO.buildS (el := 33) ([I a1, I x759, I x903]) HS Z Z (fun _ => by kernel_rfl) Z fun b960 wd961 HS => GO.app1 (T := T_GMove) (j := 5) (jb := 0) (⟨a1, x759, x903⟩ : GMove) HS Z Z flat_flat Z Z Z U37 inf33 Z Z Z c965 Z fun A963 c964 wd962 HS => aS Z (nL (rN 3 Z (gW (h1 f1 (lR _) _ _ _ _ _ _ H (HS.pk 7 [4, 5, 6] Z)) Z))))))
    exact gW (u1 m1 (lR _) _ _ _ _ _ _ H HS) Z
   exact gW (d2 p1 (lR _) _ _ _ _ _ _ H HS) Z
  replace HS := HS.nilRow T_GMove 33 uu
  exact gW (f2 K (lR _) _ _ _ _ _ _ H (HS.pk 3 [2, 0, 1] Z)) Z
theorem impl_PossibleMoves.calls {a1 : List (List GFace)} {y_a : Nat → (Ty.slice 107 T_GFace).Lay} {r1 : List GMove} (HS : St w0 w (L)) (r_a : RdIn w0 L (Ty.slice 107 T_GFace) A_a c_a y_a a1) (H : impl_PossibleMoves.f K a1 = some r1) :
    Calls prog 17 #[.agg [sV A_a a1 c_a].toArray] w (impl_PossibleMoves.post w0 L r1) := by
  unfold impl_PossibleMoves.f at H
  refine cG func17 Z ?_
  refine sQ (rG (bA HS Z fun b1 wd2 HS => aS Z (nL (rN 2 Z ?_))))
  obtain ⟨t3, h4, H⟩ := bI H
  refine rG (lW 0 HS Z ag31 (fJ fok42 Z (impl_isTriangulation.calls HS (rD 1 r_a) h4) (fun _ wd5 ⟨h6, HS⟩ => ⟨_, h6, (GO.not Z Z Z (nL ?_))⟩)))
  rcases iS H with ⟨c7, H⟩ | ⟨c7, H⟩
  ·
   refine yB Z (congrArg Bool.not (bnot_of c7)) (rN 2 Z ?_)
   replace HS := HS.nilRow T_GMove 33 uu
   obtain rfl := sI H
   exact rT _ func17 Z Z ⟨_, _, Z, (HS.pk 2 [0] Z)⟩
  refine nB Z (congrArg Bool.not c7) (rN 2 Z ?_)
  obtain ⟨t8, h9, H⟩ := bI H
  refine rG (lW 0 HS Z ag31 (fJ fok47 Z (impl_Triangulation_possibleMoves.calls HS (rD 1 r_a) h9) (fun _ wd12 ⟨A10, c11, h13, HS⟩ => ⟨_, h13, (aS Z (nL ?_))⟩)))
  obtain rfl := sI H
  exact rT _ func17 Z Z ⟨_, _, Z, (HS.pk 2 [0] Z)⟩
theorem laws_eqMove.calls {e1 g1 : Int} {a1 d1 : Int} {c1 f1 : Int} {r1 : Bool} (HS : St w0 w (L)) (H : laws_eqMove.f e1 g1 a1 d1 c1 f1 = some r1) :
    Calls prog 24 #[.agg [I e1, I g1, I a1].toArray, .agg [I d1, I c1, I f1].toArray] w (laws_eqMove.post w0 L r1) := by
  unfold laws_eqMove.f at H
  refine cG func24 Z ?_
  refine sQ (rG (bA HS Z fun b1 wd2 HS => bA HS Z fun b3 wd4 HS => aS Z (nL (rN 2 Z (rG (fL b1 0 fl33_0 Z (lB 1 HS Z na2 Z (fL b3 0 fl33_0 Z (lB 0 HS Z na2 Z (GO.neq Z Z Z Z (nL ?_)))))))))))
  rcases iS H with ⟨c5, H⟩ | ⟨c5, H⟩
  ·
   refine yB Z (nF c5) (rN 2 Z ?_)
   obtain rfl := sI H
   exact rT _ func24 Z Z ⟨Z, (HS.pk 2 [] Z)⟩
  refine nB Z (nT c5) (rN 3 Z (rG (fL b1 1 fl33_1 Z (lB 1 HS Z na2 Z (fL b3 1 fl33_1 Z (lB 0 HS Z na2 Z (GO.neq Z Z Z Z (nL ?_))))))))
  rcases iS H with ⟨c6, H⟩ | ⟨c6, H⟩
  ·
   refine yB Z (nF c6) (rN 2 Z ?_)
   obtain rfl := sI H
   exact rT _ func24 Z Z ⟨Z, (HS.pk 2 [] Z)⟩
  refine nB Z (nT c6) (rN 3 Z (rG (fL b1 2 fl33_2 Z (lB 1 HS Z na2 Z (fL b3 2 fl33_2 Z (lB 0 HS Z na2 Z (GO.neq Z Z Z Z (nL ?_))))))))
  rcases iS H with ⟨c7, H⟩ | ⟨c7, H⟩
  ·
   refine yB Z (nF c7) (rN 2 Z ?_)
   obtain rfl := sI H
   exact rT _ func24 Z Z ⟨Z, (HS.pk 2 [] Z)⟩
  refine nB Z (nT c7) (rN 3 Z ?_)
  obtain rfl := sI H
  exact rT _ func24 Z Z ⟨Z, (HS.pk 2 [] Z)⟩
theorem laws_eqMoveS.calls {a_ b_ : List GMove} {r1 : Bool} (HS : St w0 w (L)) (r_a : RdIn w0 L T_GMove A_a c_a uu a_) (r_b : RdIn w0 L T_GMove A_b c_b uu b_) (H : laws_eqMoveS.f K a_ b_ = some r1) :
    Calls prog 18 #[sV A_a a_ c_a, sV A_b b_ c_b] w (laws_eqMoveS.post w0 L r1) := by
  unfold laws_eqMoveS.f at H
  refine cG func18 Z ?_
  refine rN 4 Z (rG (mV Z (lS Z Z U37 Z (mV Z (lS Z Z U37 Z (GO.neq Z Z Z Z (nL ?_)))))))
  rcases iS H with ⟨c1, H⟩ | ⟨c1, H⟩
  ·
   refine yB Z (nF c1) (rN 2 Z ?_)
   obtain rfl := sI H
   exact rT _ func18 Z Z ⟨Z, HS⟩
  refine nB Z (nT c1) (rN 6 Z ?_)
  refine G.name (fun g1 f1 => ?_)
  have h1 : ∀ b1, b1 ≤ K → ∀ (a1 : Int) (w : World), laws_eqMoveS.l1 K b1 a_ b_ a1 = some r1 → St w0 w (L) → G prog 18 27 [(0, sV A_a a_ c_a), (1, sV A_b b_ c_b), (5, I a1)] g1 w (laws_eqMoveS.post w0 L r1) := by
   refine lp (fun _ w H _ => by rw [laws_eqMoveS.l1] at H; cases H) fun d1 i1 e1 a1 w H HS => ?_
   rw [laws_eqMoveS.l1] at H
   subst f1
   refine rN 2 Z (rG (pS 2 Z (lS Z Z U37 Z (GO.lss Z Z Z Z (nL ?_)))))
   rcases iS H with ⟨c27, H⟩ | ⟨c27, H⟩
   ·
    refine nB Z (tF c27) (rN 3 Z ?_)
    obtain rfl := sI H
    exact rT _ func18 Z Z ⟨Z, HS⟩
   refine yB Z (tT c27) (rN 4 Z ?_)
   obtain ⟨c28, H⟩ := iN H
   obtain ⟨e29, h30, H⟩ := bnd_elim H
   obtain ⟨c31, H⟩ := iN H
   obtain ⟨e32, h33, H⟩ := bnd_elim H
   obtain ⟨t34, h35, H⟩ := bI H
   refine G.lex mixed [0, 1, 2, 4, 5, 6, 3, 7, 8, 9] (by kernel_rfl) ?_
   replace HS := HS.drew
   refine GX.ps 2 Z (qL Z Z (fun _ _ g => iX Z U37 sz33 (rk r_a HS) c28 g) Z (GX.ps 2 Z (qL Z Z (fun _ _ g => iX Z U37 sz33 (rk r_b HS) c31 g) Z (GX.l1 Z Z Z (fun _ g => GO.ldRdA (T := T_GMove) (n := a1.toNat) HS r_a Z Z (getD_eq (ltN c28) h30) ag33 Z g) Z (GX.l1 Z Z Z (fun _ g => GO.ldRdA (T := T_GMove) (n := a1.toNat) HS r_b Z Z (getD_eq (ltN c31) h33) ag33 Z g) Z (GX.l2 Z (fJ fok24 Z (laws_eqMove.calls HS  h35) (fun _ wd36 ⟨h37, HS⟩ => ⟨_, h37, (GX.fin tv (GX.ps 1 Z (GX.nil ?_)))⟩))))))))
   rcases iS H with ⟨c38, H⟩ | ⟨c38, H⟩
   ·
    refine yB Z (congrArg Bool.not (bnot_of c38)) (rN 2 Z ?_)
    obtain rfl := sI H
    exact rT _ func18 Z Z ⟨Z, HS⟩
   refine nB Z (congrArg Bool.not c38) (rN 4 Z (gW (e1 d1 (lR _) _ _ H HS) Z))
  exact gW (h1 K (lR _) _ _ H HS) Z
theorem laws_eqFace.calls {d1 c1 : Int} {e1 a1 : Int} {r1 : Bool} (HS : St w0 w (L)) (H : laws_eqFace.f d1 c1 e1 a1 = some r1) :
    Calls prog 115 #[.agg [I d1, I c1].toArray, .agg [I e1, I a1].toArray] w (laws_eqFace.post w0 L r1) := by
  unfold laws_eqFace.f at H
  refine cG func115 Z ?_
  refine sQ (rG (bA HS Z fun b1 wd2 HS => bA HS Z fun b3 wd4 HS => aS Z (nL (rN 2 Z (rG (fL b1 0 fl107_0 Z (lB 1 HS Z na2 Z (fL b3 0 fl107_0 Z (lB 0 HS Z na2 Z (GO.neq Z Z Z Z (nL ?_)))))))))))
  rcases iS H with ⟨c5, H⟩ | ⟨c5, H⟩
  ·
   refine yB Z (nF c5) (rN 2 Z ?_)
   obtain rfl := sI H
   exact rT _ func115 Z Z ⟨Z, (HS.pk 2 [] Z)⟩
  refine nB Z (nT c5) (rN 3 Z (rG (fL b1 1 fl107_1 Z (lB 1 HS Z na2 Z (fL b3 1 fl107_1 Z (lB 0 HS Z na2 Z (GO.neq Z Z Z Z (nL ?_))))))))
  rcases iS H with ⟨c6, H⟩ | ⟨c6, H⟩
  ·
   refine yB Z (nF c6) (rN 2 Z ?_)
   obtain rfl := sI H
   exact rT _ func115 Z Z ⟨Z, (HS.pk 2 [] Z)⟩
  refine nB Z (nT c6) (rN 3 Z ?_)
  obtain rfl := sI H
  exact rT _ func115 Z Z ⟨Z, (HS.pk 2 [] Z)⟩
theorem laws_eqFaceS.calls {a_ b_ : List GFace} {r1 : Bool} (HS : St w0 w (L)) (r_a : RdIn w0 L T_GFace A_a c_a uu a_) (r_b : RdIn w0 L T_GFace A_b c_b uu b_) (H : laws_eqFaceS.f K a_ b_ = some r1) :
    Calls prog 74 #[sV A_a a_ c_a, sV A_b b_ c_b] w (laws_eqFaceS.post w0 L r1) := by
  unfold laws_eqFaceS.f at H
  refine cG func74 Z ?_
  refine rN 4 Z (rG (mV Z (lS Z Z U77 Z (mV Z (lS Z Z U77 Z (GO.neq Z Z Z Z (nL ?_)))))))
  rcases iS H with ⟨c1, H⟩ | ⟨c1, H⟩
  ·
   refine yB Z (nF c1) (rN 2 Z ?_)
   obtain rfl := sI H
   exact rT _ func74 Z Z ⟨Z, HS⟩
  refine nB Z (nT c1) (rN 6 Z ?_)
  refine G.name (fun g1 f1 => ?_)
  have h1 : ∀ b1, b1 ≤ K → ∀ (a1 : Int) (w : World), laws_eqFaceS.l1 K b1 a_ b_ a1 = some r1 → St w0 w (L) → G prog 74 27 [(0, sV A_a a_ c_a), (1, sV A_b b_ c_b), (5, I a1)] g1 w (laws_eqFaceS.post w0 L r1) := by
   refine lp (fun _ w H _ => by rw [laws_eqFaceS.l1] at H; cases H) fun d1 i1 e1 a1 w H HS => ?_
   rw [laws_eqFaceS.l1] at H
   subst f1
   refine rN 2 Z (rG (pS 2 Z (lS Z Z U77 Z (GO.lss Z Z Z Z (nL ?_)))))
   rcases iS H with ⟨c27, H⟩ | ⟨c27, H⟩
   ·
    refine nB Z (tF c27) (rN 3 Z ?_)
    obtain rfl := sI H
    exact rT _ func74 Z Z ⟨Z, HS⟩
   refine yB Z (tT c27) (rN 4 Z ?_)
   obtain ⟨c28, H⟩ := iN H
   obtain ⟨e29, h30, H⟩ := bnd_elim H
   obtain ⟨c31, H⟩ := iN H
   obtain ⟨e32, h33, H⟩ := bnd_elim H
   obtain ⟨t34, h35, H⟩ := bI H
   refine G.lex mixed [0, 1, 2, 4, 5, 6, 3, 7, 8, 9] (by kernel_rfl) ?_
   replace HS := HS.drew
   refine GX.ps 2 Z (qL Z Z (fun _ _ g => iX Z U77 sz107 (rk r_a HS) c28 g) Z (GX.ps 2 Z (qL Z Z (fun _ _ g => iX Z U77 sz107 (rk r_b HS) c31 g) Z (GX.l1 Z Z Z (fun _ g => GO.ldRdA (T := T_GFace) (n := a1.toNat) HS r_a Z Z (getD_eq (ltN c28) h30) ag107 Z g) Z (GX.l1 Z Z Z (fun _ g => GO.ldRdA (T := T_GFace) (n := a1.toNat) HS r_b Z Z (getD_eq (ltN c31) h33) ag107 Z g) Z (GX.l2 Z (fJ fok115 Z (laws_eqFace.calls HS  h35) (fun _ wd36 ⟨h37, HS⟩ => ⟨_, h37, (GX.fin tv (GX.ps 1 Z (GX.nil ?_)))⟩))))))))
   rcases iS H with ⟨c38, H⟩ | ⟨c38, H⟩
   ·
    refine yB Z (congrArg Bool.not (bnot_of c38)) (rN 2 Z ?_)
    obtain rfl := sI H
    exact rT _ func74 Z Z ⟨Z, HS⟩
   refine nB Z (congrArg Bool.not c38) (rN 4 Z (gW (e1 d1 (lR _) _ _ H HS) Z))
  exact gW (h1 K (lR _) _ _ H HS) Z
theorem laws_eqFaceSS.calls {a_ b_ : List (List GFace)} {y_a : Nat → (Ty.slice 107 T_GFace).Lay} {y_b : Nat → (Ty.slice 107 T_GFace).Lay} {r1 : Bool} (HS : St w0 w (L)) (r_a : RdIn w0 L (Ty.slice 107 T_GFace) A_a c_a y_a a_) (r_b : RdIn w0 L (Ty.slice 107 T_GFace) A_b c_b y_b b_) (H : laws_eqFaceSS.f K a_ b_ = some r1) :
    Calls prog 44 #[sV A_a a_ c_a, sV A_b b_ c_b] w (laws_eqFaceSS.post w0 L r1) := by
  unfold laws_eqFaceSS.f at H
  refine cG func44 Z ?_
  refine rN 4 Z (rG (mV Z (lS Z Z U29 Z (mV Z (lS Z Z U29 Z (GO.neq Z Z Z Z (nL ?_)))))))
  rcases iS H with ⟨c1, H⟩ | ⟨c1, H⟩
  ·
   refine yB Z (nF c1) (rN 2 Z ?_)
   obtain rfl := sI H
   exact rT _ func44 Z Z ⟨Z, HS⟩
  refine nB Z (nT c1) (rN 6 Z ?_)
  refine G.name (fun g1 f1 => ?_)
  have h1 : ∀ b1, b1 ≤ K → ∀ (a1 : Int) (w : World), laws_eqFaceSS.l1 K b1 a_ b_ a1 = some r1 → St w0 w (L) → G prog 44 27 [(0, sV A_a a_ c_a), (1, sV A_b b_ c_b), (5, I a1)] g1 w (laws_eqFaceSS.post w0 L r1) := by
   refine lp (fun _ w H _ => by rw [laws_eqFaceSS.l1] at H; cases H) fun d1 i1 e1 a1 w H HS => ?_
   rw [laws_eqFaceSS.l1] at H
   subst f1
   refine rN 2 Z (rG (pS 2 Z (lS Z Z U29 Z (GO.lss Z Z Z Z (nL ?_)))))
   rcases iS H with ⟨c19, H⟩ | ⟨c19, H⟩
   ·
    refine nB Z (tF c19) (rN 3 Z ?_)
    obtain rfl := sI H
    exact rT _ func44 Z Z ⟨Z, HS⟩
   refine yB Z (tT c19) (rN 4 Z ?_)
   obtain ⟨c20, H⟩ := iN H
   obtain ⟨c21, H⟩ := iN H
   obtain ⟨t22, h23, H⟩ := bI H
   refine G.lex mixed [0, 1, 2, 4, 5, 6, 3, 7, 8, 9] (by kernel_rfl) ?_
   replace HS := HS.drew
   refine GX.ps 2 Z (qL Z Z (fun _ _ g => iX Z U29 sz77 (rk r_a HS) c20 g) Z (GX.ps 2 Z (qL Z Z (fun _ _ g => iX Z U29 sz77 (rk r_b HS) c21 g) Z (GX.l1 Z Z Z (fun _ g => GO.ldRd (T := (Ty.slice 107 T_GFace)) (n := a1.toNat) (o := 0) HS r_a Z Z (getD_some (d := []) (ltN c20)) Z Z na77 Z g) Z (GX.l1 Z Z Z (fun _ g => GO.ldRd (T := (Ty.slice 107 T_GFace)) (n := a1.toNat) (o := 0) HS r_b Z Z (getD_some (d := []) (ltN c21)) Z Z na77 Z g) Z (GX.l2 Z (fJ fok74 Z (laws_eqFaceS.calls HS (RdIn.elem r_a c20.1 c20.2) (RdIn.elem r_b c21.1 c21.2) h23) (fun _ wd24 ⟨h25, HS⟩ => ⟨_, h25, (GX.fin tv (GX.ps 1 Z (GX.nil ?_)))⟩))))))))
   rcases iS H with ⟨c26, H⟩ | ⟨c26, H⟩
   ·
    refine yB Z (congrArg Bool.not (bnot_of c26)) (rN 2 Z ?_)
    obtain rfl := sI H
    exact rT _ func44 Z Z ⟨Z, HS⟩
   refine nB Z (congrArg Bool.not c26) (rN 4 Z (gW (e1 d1 (lR _) _ _ H HS) Z))
  exact gW (h1 K (lR _) _ _ H HS) Z
theorem laws_eqTriangulation.calls {a1 c1 : List (List GFace)} {y_a : Nat → (Ty.slice 107 T_GFace).Lay} {y_b : Nat → (Ty.slice 107 T_GFace).Lay} {r1 : Bool} (HS : St w0 w (L)) (r_a : RdIn w0 L (Ty.slice 107 T_GFace) A_a c_a y_a a1) (r_b : RdIn w0 L (Ty.slice 107 T_GFace) A_b c_b y_b c1) (H : laws_eqTriangulation.f K a1 c1 = some r1) :
    Calls prog 15 #[.agg [sV A_a a1 c_a].toArray, .agg [sV A_b c1 c_b].toArray] w (laws_eqTriangulation.post w0 L r1) := by
  unfold laws_eqTriangulation.f at H
  refine cG func15 Z ?_
  refine sQ (rG (bA HS Z fun b1 wd2 HS => bA HS Z fun b3 wd4 HS => aS Z (nL (rN 2 Z ?_))))
  obtain ⟨t5, h6, H⟩ := bI H
  refine rG (fL b1 0 fl31_0 Z (lB 1 HS Z na29 Z (fL b3 0 fl31_0 Z (lB 0 HS Z na29 Z (fJ fok44 Z (laws_eqFaceSS.calls HS (rD 2 r_a) (rD 2 r_b) h6) (fun _ wd7 ⟨h8, HS⟩ => ⟨_, h8, (GO.not Z Z Z (nL ?_))⟩))))))
  rcases iS H with ⟨c9, H⟩ | ⟨c9, H⟩
  ·
   refine yB Z (congrArg Bool.not (bnot_of c9)) (rN 2 Z ?_)
   obtain rfl := sI H
   exact rT _ func15 Z Z ⟨Z, (HS.pk 2 [] Z)⟩
  refine nB Z (congrArg Bool.not c9) (rN 3 Z ?_)
  obtain rfl := sI H
  exact rT _ func15 Z Z ⟨Z, (HS.pk 2 [] Z)⟩
theorem laws_markFaceS.calls {a_ : List GFace} {k_ : Int} {r1 : Int} {r2 : List GFace} (HS : St w0 w (Own T_GFace 107 A_a c_a uu a_ :: L)) (H : laws_markFaceS.f K a_ k_ = some (r1, r2)) :
    Calls prog 82 #[sV A_a a_ c_a, I k_] w (laws_markFaceS.post w0 L A_a c_a r1 r2) := by
  unfold laws_markFaceS.f at H
  refine cG func82 Z ?_
  refine rN 7 Z ?_
  refine G.name (fun g1 f1 => ?_)
  have h1 : ∀ c1, c1 ≤ K → ∀ (x10 : List GFace) (a1 b1 : Int) (w : World), laws_markFaceS.l1 K c1 x10 a1 b1 = some (r1, r2) → St w0 w (Own T_GFace 107 A_a c_a uu x10 :: L) → G prog 82 27 [(0, sV A_a x10 c_a), (1, I a1), (5, I b1)] g1 w (laws_markFaceS.post w0 L A_a c_a r1 r2) := by
   refine lp (fun _ _ _ w H _ => by rw [laws_markFaceS.l1] at H; cases H) fun d1 i1 e1 x10 a1 b1 w H HS => ?_
   rw [laws_markFaceS.l1] at H
   subst f1
   refine rN 2 Z (rG (pS 2 Z (lS Z Z U77 Z (GO.lss Z Z Z Z (nL ?_)))))
   rcases iS H with ⟨c22, H⟩ | ⟨c22, H⟩
   ·
    refine nB Z (tF c22) (rN 3 Z ?_)
    obtain ⟨rfl, rfl⟩ := some2 H
    exact rT _ func82 Z Z ⟨Z, HS⟩
   refine yB Z (tT c22) (rN 4 Z ?_)
   obtain ⟨c23, H⟩ := iN H
   obtain ⟨e25, h26, H⟩ := bnd_elim H
   refine rG (pS 3 Z (iX Z U77 sz107 (rk (ro 0 Z) HS) c23 (GO.fld (ea A_a (b1.toNat * 2)) Z Z fl107_0 Z Z (GO.stRow (T := T_GFace) (j := 0) (n := b1.toNat) (o := 0) (vs := [I a1]) ({ e25 with Tet := a1 }) HS Z flat_flat Z Z Z Z (htN na2 Z) Z (getD_eq (ltN c23) h26) Z Z fun wd24 HS => nL (G.len (t := 0) (m := (x10.set b1.toNat ({ e25 with Tet := a1 })).length) Z (by simp only [List.length_set] <;> rfl) (rN 3 Z ?_))))))
   obtain ⟨c27, H⟩ := iN H
   obtain ⟨e29, h30, H⟩ := bnd_elim H
   refine rG (pS 3 Z (iX Z U77 sz107 (rk (ro 0 Z) HS) c27 (GO.fld (ea A_a (b1.toNat * 2 + 1)) Z Z fl107_1 (ea_add _ _ _) Z (GO.stRow (T := T_GFace) (j := 0) (n := b1.toNat) (o := 1) (vs := [I (w64 (a1 + 1))]) ({ e29 with Perm := w64 (a1 + 1) }) HS Z flat_flat Z Z Z Z (htN na2 Z) Z (getD_eq (ltN c27) h30) Z Z fun wd28 HS => nL (G.len (t := 0) (m := ((x10.set b1.toNat ({ e25 with Tet := a1 })).set b1.toNat ({ e29 with Perm := w64 (a1 + 1) })).length) Z (by simp only [List.length_set] <;> rfl) (rN 4 Z (gW (e1 d1 (lR _) _ _ _ _ H HS) Z)))))))
  exact gW (h1 K (lR _) _ _ _ _ H HS) Z
theorem laws_markFaceSS.calls {a_ : List (List GFace)} {k_ : Int} {y_a : Nat → (Ty.slice 107 T_GFace).Lay} {r1 : Int} {r2 : List (List GFace)} (HS : St w0 w (Own (Ty.slice 107 T_GFace) 77 A_a c_a y_a a_ :: L)) (H : laws_markFaceSS.f K a_ k_ = some (r1, r2)) :
    Calls prog 48 #[sV A_a a_ c_a, I k_] w (laws_markFaceSS.post w0 L A_a c_a y_a r1 r2) := by
  unfold laws_markFaceSS.f at H
  refine cG func48 Z ?_
  refine rN 7 Z ?_
  refine G.name (fun g1 f1 => ?_)
  have h1 : ∀ c1, c1 ≤ K → ∀ (x9 : List (List GFace)) (b1 a1 : Int) (w : World), laws_markFaceSS.l1 K c1 x9 b1 a1 = some (r1, r2) → St w0 w (Own (Ty.slice 107 T_GFace) 77 A_a c_a y_a x9 :: L) → G prog 48 19 [(0, sV A_a x9 c_a), (1, I b1), (5, I a1)] g1 w (laws_markFaceSS.post w0 L A_a c_a y_a r1 r2) := by
   refine lp (fun _ _ _ w H _ => by rw [laws_markFaceSS.l1] at H; cases H) fun d1 i1 e1 x9 b1 a1 w H HS => ?_
   rw [laws_markFaceSS.l1] at H
   subst f1
   refine rN 2 Z (rG (pS 2 Z (lS Z Z U29 Z (GO.lss Z Z Z Z (nL ?_)))))
   rcases iS H with ⟨c20, H⟩ | ⟨c20, H⟩
   ·
    refine nB Z (tF c20) (rN 3 Z ?_)
    obtain ⟨rfl, rfl⟩ := some2 H
    exact rT _ func48 Z Z ⟨Z, HS⟩
   refine yB Z (tT c20) (rN 3 Z ?_)
   obtain ⟨c21, H⟩ := iN H
   obtain ⟨t22, t23, h24, H⟩ := bind2_elim H
   obtain ⟨c25, H⟩ := iN H
   refine rG (pS 2 Z (iX Z U29 sz77 (rk (ro 0 Z) HS) c21 (GO.ldRd (T := (Ty.slice 107 T_GFace)) (n := a1.toNat) (o := 0) HS (ro 0 Z) Z Z (getD_some (d := []) (ltN c21)) Z Z na77 Z (mV Z ?_))))
   replace HS := HS.focusO Fld.id (getD_some (d := []) (ltN c21))
   refine fJ fok82 Z (laws_markFaceS.calls HS  h24) (fun _ wd26 ⟨h27, HS⟩ => ⟨_, h27, ?_⟩)
   replace HS := St.unfocusO (y := t23) Fld.id (getD_some (d := []) (ltN c21)) (congrArg (fun m => ([.slice ((y_a a1.toNat).A) m ((y_a a1.toNat).c)] : List Value)) c25) HS
   refine aS Z (nL (G.len (t := 0) (m := (x9.set a1.toNat t23).length) Z (by simp only [List.length_set, List.length_set] <;> rfl) (rN 3 Z (gW (e1 d1 (lR _) _ _ _ _ H HS) Z))))
  exact gW (h1 K (lR _) _ _ _ _ H HS) Z
theorem laws_markTriangulation.calls {a1 : List (List GFace)} {k_ : Int} {y_a : Nat → (Ty.slice 107 T_GFace).Lay} {r1 : Int} {r2 : List (List GFace)} (HS : St w0 w (Own (Ty.slice 107 T_GFace) 77 A_a c_a y_a a1 :: L)) (H : laws_markTriangulation.f K a1 k_ = some (r1, r2)) :
    Calls prog 19 #[.agg [sV A_a a1 c_a].toArray, I k_] w (laws_markTriangulation.post w0 L A_a c_a y_a r1 r2) := by
  unfold laws_markTriangulation.f at H
  refine cG func19 Z ?_
  refine sQ (rG (bA HS Z fun b1 wd2 HS => aS Z (nL (sQ ?_))))
  obtain ⟨t3, t4, h5, H⟩ := bind2_elim H
  obtain ⟨c6, H⟩ := iN H
  refine rG (fL b1 0 fl31_0 Z (lB 0 HS Z na29 Z (mV Z ?_)))
  replace HS := HS.pk 2 [1, 0] Z
  refine fJ fok48 Z (laws_markFaceSS.calls HS  h5) (fun _ wd7 ⟨h8, HS⟩ => ⟨_, h8, (aS Z (nL ?_))⟩)
  replace HS := HS.boxEq (j := 1) (cs' := [sV A_a t4 c_a]) Z (by simp only [sV, List.length_set, c6] <;> rfl)
  refine rN 2 Z ?_
  obtain ⟨rfl, rfl⟩ := some2 H
  exact rT _ func19 Z Z ⟨Z, (HS.pk 2 [0] Z)⟩
theorem laws_markMoveS.calls {a_ : List GMove} {k_ : Int} {r1 : Int} {r2 : List GMove} (HS : St w0 w (Own T_GMove 33 A_a c_a uu a_ :: L)) (H : laws_markMoveS.f K a_ k_ = some (r1, r2)) :
    Calls prog 20 #[sV A_a a_ c_a, I k_] w (laws_markMoveS.post w0 L A_a c_a r1 r2) := by
  unfold laws_markMoveS.f at H
  refine cG func20 Z ?_
  refine rN 7 Z ?_
  refine G.name (fun g1 f1 => ?_)
  have h1 : ∀ c1, c1 ≤ K → ∀ (x14 : List GMove) (a1 b1 : Int) (w : World), laws_markMoveS.l1 K c1 x14 a1 b1 = some (r1, r2) → St w0 w (Own T_GMove 33 A_a c_a uu x14 :: L) → G prog 20 34 [(0, sV A_a x14 c_a), (1, I a1), (5, I b1)] g1 w (laws_markMoveS.post w0 L A_a c_a r1 r2) := by
   refine lp (fun _ _ _ w H _ => by rw [laws_markMoveS.l1] at H; cases H) fun d1 i1 e1 x14 a1 b1 w H HS => ?_
   rw [laws_markMoveS.l1] at H
   subst f1
   refine rN 2 Z (rG (pS 2 Z (lS Z Z U37 Z (GO.lss Z Z Z Z (nL ?_)))))
   rcases iS H with ⟨c30, H⟩ | ⟨c30, H⟩
   ·
    refine nB Z (tF c30) (rN 3 Z ?_)
    obtain ⟨rfl, rfl⟩ := some2 H
    exact rT _ func20 Z Z ⟨Z, HS⟩
   refine yB Z (tT c30) (rN 4 Z ?_)
   obtain ⟨c31, H⟩ := iN H
   obtain ⟨e33, h34, H⟩ := bnd_elim H
   refine rG (pS 3 Z (iX Z U37 sz33 (rk (ro 0 Z) HS) c31 (GO.fld (ea A_a (b1.toNat * 3)) Z Z fl33_0 Z Z (GO.stRow (T := T_GMove) (j := 0) (n := b1.toNat) (o := 0) (vs := [I a1]) ({ e33 with Kind := a1 }) HS Z flat_flat Z Z Z Z (htN na2 Z) Z (getD_eq (ltN c31) h34) Z Z fun wd32 HS => nL (G.len (t := 0) (m := (x14.set b1.toNat ({ e33 with Kind := a1 })).length) Z (by simp only [List.length_set] <;> rfl) (rN 3 Z ?_))))))
   obtain ⟨c35, H⟩ := iN H
   obtain ⟨e37, h38, H⟩ := bnd_elim H
   refine rG (pS 3 Z (iX Z U37 sz33 (rk (ro 0 Z) HS) c35 (GO.fld (ea A_a (b1.toNat * 3 + 1)) Z Z fl33_1 (ea_add _ _ _) Z (GO.stRow (T := T_GMove) (j := 0) (n := b1.toNat) (o := 1) (vs := [I (w64 (a1 + 1))]) ({ e37 with Tet := w64 (a1 + 1) }) HS Z flat_flat Z Z Z Z (htN na2 Z) Z (getD_eq (ltN c35) h38) Z Z fun wd36 HS => nL (G.len (t := 0) (m := ((x14.set b1.toNat ({ e33 with Kind := a1 })).set b1.toNat ({ e37 with Tet := w64 (a1 + 1) })).length) Z (by simp only [List.length_set] <;> rfl) (rN 3 Z ?_))))))
   obtain ⟨c39, H⟩ := iN H
   obtain ⟨e41, h42, H⟩ := bnd_elim H
   refine rG (pS 3 Z (iX Z U37 sz33 (rk (ro 0 Z) HS) c39 (GO.fld (ea A_a (b1.toNat * 3 + 2)) Z Z fl33_2 (ea_add _ _ _) Z (GO.stRow (T := T_GMove) (j := 0) (n := b1.toNat) (o := 2) (vs := [I (w64 ((w64 (a1 + 1)) + 1))]) ({ e41 with Index := w64 ((w64 (a1 + 1)) + 1) }) HS Z flat_flat Z Z Z Z (htN na2 Z) Z (getD_eq (ltN c39) h42) Z Z fun wd40 HS => nL (G.len (t := 0) (m := (((x14.set b1.toNat ({ e33 with Kind := a1 })).set b1.toNat ({ e37 with Tet := w64 (a1 + 1) })).set b1.toNat ({ e41 with Index := w64 ((w64 (a1 + 1)) + 1) })).length) Z (by simp only [List.length_set] <;> rfl) (rN 4 Z (gW (e1 d1 (lR _) _ _ _ _ H HS) Z)))))))
  exact gW (h1 K (lR _) _ _ _ _ H HS) Z
theorem laws_heldMoveS.calls {a_ : List GMove} {k_ : Int} {r1 : Int} (HS : St w0 w (L)) (r_a : RdIn w0 L T_GMove A_a c_a uu a_) (H : laws_heldMoveS.f K a_ k_ = some r1) :
    Calls prog 21 #[sV A_a a_ c_a, I k_] w (laws_heldMoveS.post w0 L r1) := by
  unfold laws_heldMoveS.f at H
  refine cG func21 Z ?_
  refine rN 7 Z ?_
  refine G.name (fun e1 d1 => ?_)
  have f1 : ∀ a1, a1 ≤ K → ∀ (k_8 i_9 : Int) (w : World), laws_heldMoveS.l1 K a1 a_ k_8 i_9 = some r1 → St w0 w (L) → G prog 21 40 [(0, sV A_a a_ c_a), (1, I k_8), (5, I i_9)] e1 w (laws_heldMoveS.post w0 L r1) := by
   refine lp (fun _ _ w H _ => by rw [laws_heldMoveS.l1] at H; cases H) fun b1 g1 c1 k_8 i_9 w H HS => ?_
   rw [laws_heldMoveS.l1] at H
   subst d1
   refine rN 2 Z (rG (pS 2 Z (lS Z Z U37 Z (GO.lss Z Z Z Z (nL ?_)))))
   rcases iS H with ⟨c17, H⟩ | ⟨c17, H⟩
   ·
    refine nB Z (tF c17) (rN 3 Z ?_)
    obtain rfl := sI H
    exact rT _ func21 Z Z ⟨Z, HS⟩
   refine yB Z (tT c17) (rN 5 Z ?_)
   obtain ⟨c18, H⟩ := iN H
   obtain ⟨e19, h20, H⟩ := bnd_elim H
   refine rG (pS 2 Z (iX Z U37 sz33 (rk r_a HS) c18 (GO.fld (ea A_a (i_9.toNat * 3)) Z Z fl33_0 Z Z (GO.ldRd (T := T_GMove) (n := i_9.toNat) (o := 0) HS r_a Z Z (getD_eq (ltN c18) h20) Z Z na2 Z (pS 2 Z (nL ?_))))))
   rcases iS H with ⟨c21, H⟩ | ⟨c21, H⟩
   ·
    refine yB Z (nF c21) (rN 2 Z ?_)
    obtain rfl := sI H
    exact rT _ func21 Z Z ⟨Z, HS⟩
   refine nB Z (nT c21) (rN 5 Z (rG (pS 2 Z (iX Z U37 sz33 (rk r_a HS) c18 (GO.fld (ea A_a (i_9.toNat * 3 + 1)) Z Z fl33_1 (ea_add _ _ _) Z (GO.ldRd (T := T_GMove) (n := i_9.toNat) (o := 1) HS r_a Z Z (getD_eq (ltN c18) h20) Z Z na2 Z (pS 2 Z (nL ?_))))))))
   rcases iS H with ⟨c22, H⟩ | ⟨c22, H⟩
   ·
    refine yB Z (nF c22) (rN 2 Z ?_)
    obtain rfl := sI H
    exact rT _ func21 Z Z ⟨Z, HS⟩
   refine nB Z (nT c22) (rN 5 Z (rG (pS 2 Z (iX Z U37 sz33 (rk r_a HS) c18 (GO.fld (ea A_a (i_9.toNat * 3 + 2)) Z Z fl33_2 (ea_add _ _ _) Z (GO.ldRd (T := T_GMove) (n := i_9.toNat) (o := 2) HS r_a Z Z (getD_eq (ltN c18) h20) Z Z na2 Z (pS 2 Z (nL ?_))))))))
   rcases iS H with ⟨c23, H⟩ | ⟨c23, H⟩
   ·
    refine yB Z (nF c23) (rN 2 Z ?_)
    obtain rfl := sI H
    exact rT _ func21 Z Z ⟨Z, HS⟩
   refine nB Z (nT c23) (rN 5 Z (gW (c1 b1 (lR _) _ _ _ H HS) Z))
  exact gW (f1 K (lR _) _ _ _ H HS) Z
theorem laws_FnExactPossibleMoves.calls {a1 : List (List GFace)} {y_a : Nat → (Ty.slice 142 T_GFace).Lay} {r1 : Bool} (HS : St w0 w (L)) (r_a : RdIn w0 L (Ty.slice 142 T_GFace) A_a c_a y_a a1) (H : laws_FnExactPossibleMoves.f K a1 = some r1) :
    Calls prog 4 #[.agg [sV A_a a1 c_a].toArray] w (laws_FnExactPossibleMoves.post w0 L r1) := by
  unfold laws_FnExactPossibleMoves.f at H
  refine cG func4 Z ?_
  refine sQ (rG (bA HS Z fun b1 wd2 HS => aS Z (nL (rN 3 Z ?_))))
  obtain ⟨t3, h4, H⟩ := bI H
  refine rG (lW 0 HS Z ag24 (mV Z (fJ fok10 Z (laws_szTriangulation.calls HS (rD 1 r_a) h4) (fun _ wd5 ⟨h6, HS⟩ => ⟨_, h6, (aS Z (nL (rN 3 Z ?_)))⟩))))
  rcases iE H with ⟨c7, H⟩ | ⟨c7, H⟩
  ·
   refine yB Z (tT c7) (rN 2 Z ?_)
   obtain rfl := sI H
   exact rT _ func4 Z Z ⟨Z, (HS.pk 1 [] Z)⟩
  refine nB Z (tF c7) (rN 2 Z ?_)
  obtain ⟨t8, h9, H⟩ := bI H
  obtain ⟨t15, h16, H⟩ := bI H
  refine rG (lW 0 HS Z ag24 (fJ fok12 Z (laws_toTriangulation.calls HS (rD 1 r_a) h9) (fun _ wd13 ⟨A10, c11, y12, h14, HS⟩ => ⟨_, h14, (fJ fok16 Z (spec_PossibleMoves.calls HS (ro 0 Z) h16) (fun _ wd19 ⟨A17, c18, h20, HS⟩ => ⟨_, h20, (aS Z (nL (sQ ?_)))⟩))⟩)))
  obtain ⟨t21, h22, H⟩ := bI H
  refine rG (lW 2 HS Z ag24 (fJ fok12 Z (laws_toTriangulation.calls HS (rD 3 r_a) h22) (fun _ wd26 ⟨A23, c24, y25, h27, HS⟩ => ⟨_, h27, (GO.alloc HS Z zr31 Z Z fun b28 wd29 HS => sW 0 HS Z ag31 Z fun wd30 HS => nL (sQ ?_))⟩)))
  obtain ⟨t31, h32, H⟩ := bI H
  refine rG (lW 0 HS Z ag31 (fJ fok17 Z (impl_PossibleMoves.calls HS (ro 1 Z) h32) (fun _ wd35 ⟨A33, c34, h36, HS⟩ => ⟨_, h36, (aS Z (nL (rN 2 Z ?_)))⟩)))
  obtain ⟨t37, h38, H⟩ := bI H
  refine rG (pS 2 Z (fJ fok18 Z (laws_eqMoveS.calls HS (ro 0 Z) (ro 3 Z) h38) (fun _ wd39 ⟨h40, HS⟩ => ⟨_, h40, (GO.not Z Z Z (nL ?_))⟩)))
  rcases iS H with ⟨c41, H⟩ | ⟨c41, H⟩
  ·
   refine yB Z (congrArg Bool.not (bnot_of c41)) (rN 2 Z ?_)
   obtain rfl := sI H
   exact rT _ func4 Z Z ⟨Z, (HS.pk 6 [] Z)⟩
  refine nB Z (congrArg Bool.not c41) (rN 3 Z ?_)
  obtain ⟨t42, h43, H⟩ := bI H
  obtain ⟨t49, h50, H⟩ := bI H
  refine G.lexS mixed (fun w => St w0 w (Box b28 31 [sV A23 t21 c24] :: Box b1 24 [sV A_a a1 c_a] :: L)) [0, 1] [0, 1, 2, 3, 4] [] (by kernel_rfl) (by kernel_rfl) (HS.drew.pk 6 [1, 5] Z) ?_
  replace HS := HS.drew
  refine GX.ls Z Z Z (HS.pk 6 [1, 5] Z) (fun _ HS _ g => lW 0 HS Z ag31 g) Z (GX.ls Z Z Z (HS.pk 6 [1, 5] Z) (fun _ HS _ g => lW 1 HS Z ag24 g) Z (GX.l2 Z (fJ fok12 Z (laws_toTriangulation.calls HS (rD 6 r_a) h43) (fun _ wd47 ⟨A44, c45, y46, h48, HS⟩ => ⟨_, h48, (GX.fin (HS.pk 7 [2, 6] Z) (GX.l2 Z (fJ fok15 Z (laws_eqTriangulation.calls HS (ro 3 Z) (ro 0 Z) h50) (fun _ wd51 ⟨h52, HS⟩ => ⟨_, h52, (GX.fin (HS.pk 7 [2, 6] Z) (GX.ps 1 Z (GX.nil ?_)))⟩))))⟩))))
  rcases iS H with ⟨c53, H⟩ | ⟨c53, H⟩
  ·
   refine yB Z (congrArg Bool.not (bnot_of c53)) (rN 2 Z ?_)
   obtain rfl := sI H
   exact rT _ func4 Z Z ⟨Z, (HS.pk 7 [] Z)⟩
  refine nB Z (congrArg Bool.not c53) (rN 4 Z ?_)
  obtain ⟨t54, t55, h56, H⟩ := bind2_elim H
  obtain ⟨c57, H⟩ := iN H
  refine rG (lW 2 HS Z ag31 (mV Z ?_))
  replace HS := HS.pk 7 [3, 0, 1, 2, 4, 5, 6] Z
  refine fJ fok19 Z (laws_markTriangulation.calls HS  h56) (fun _ wd58 ⟨h59, HS⟩ => ⟨_, h59, (aS Z (nL ?_))⟩)
  replace HS := HS.boxEq (j := 3) (cs' := [sV A23 t55 c24]) Z (by simp only [sV, List.length_set, c57] <;> rfl)
  refine rN 2 Z ?_
  rcases iE H with ⟨c65, H⟩ | ⟨c65, H⟩
  ·
   refine rG (pS 3 Z (kN 37 Z (tT c65) (oF Z (oF Z (oF Z (oF Z (GO.pickT Z Z Z Z Z (nL (rN 3 Z ?_)))))))))
   obtain rfl := sI H
   exact rT _ func4 Z Z ⟨Z, (HS.pk 7 [] Z)⟩
  obtain ⟨t66, h67, H⟩ := bI H
  refine rG (pS 3 Z (kN 37 Z (tF c65) (oN Z (mV Z (bK (oN Z (mV Z (bK (oN Z (fJ fok18 Z (laws_eqMoveS.calls HS (ro 2 Z) (ro 4 Z) h67) (fun _ wd68 ⟨h69, HS⟩ => ⟨_, h69, (bK (oN Z (GO.not Z Z Z (bK ?_))))⟩)))))))))))
  refine GO.pickF Z Z Z Z Z (nL ?_)
  rcases iS H with ⟨c70, H⟩ | ⟨c70, H⟩
  ·
   refine yB Z (congrArg Bool.not (bnot_of c70)) (rN 2 Z ?_)
   obtain rfl := sI H
   exact rT _ func4 Z Z ⟨Z, (HS.pk 7 [] Z)⟩
  refine nB Z (congrArg Bool.not c70) (rN 4 Z ?_)
  obtain ⟨t71, t72, h73, H⟩ := bind2_elim H
  obtain ⟨c74, H⟩ := iN H
  refine rG (pS 2 Z ?_)
  replace HS := HS.pk 7 [2, 0, 1, 3, 4, 5, 6] Z
  refine fJ fok20 Z (laws_markMoveS.calls HS  h73) (fun _ wd75 ⟨h76, HS⟩ => ⟨_, h76, (aS Z (nL (G.len (t := 6) (m := t72.length) Z (by simp only [List.length_set, c74] <;> rfl) (rN 3 Z ?_))))⟩)
  obtain ⟨t77, h78, H⟩ := bI H
  refine rG (pS 2 Z (fJ fok21 Z (laws_heldMoveS.calls HS (ro 0 Z) h78) (fun _ wd79 ⟨h80, HS⟩ => ⟨_, h80, (aS Z (nL (rN 3 Z ?_)))⟩)))
  rcases iE H with ⟨c81, H⟩ | ⟨c81, H⟩
  ·
   refine yB Z (tT c81) (rN 2 Z ?_)
   obtain rfl := sI H
   exact rT _ func4 Z Z ⟨Z, (HS.pk 7 [] Z)⟩
  refine nB Z (tF c81) (rN 4 Z ?_)
  rcases iS H with ⟨c82, H⟩ | ⟨c82, H⟩
  ·
   refine yB Z (nF c82) (rN 2 Z ?_)
   obtain rfl := sI H
   exact rT _ func4 Z Z ⟨Z, (HS.pk 7 [] Z)⟩
  refine nB Z (nT c82) (rN 2 Z ?_)
  obtain ⟨t83, h84, H⟩ := bI H
  obtain ⟨t90, h91, H⟩ := bI H
  refine rG (lW 6 HS Z ag24 (fJ fok12 Z (laws_toTriangulation.calls HS (rD 7 r_a) h84) (fun _ wd88 ⟨A85, c86, y87, h89, HS⟩ => ⟨_, h89, (fJ fok17 Z (impl_PossibleMoves.calls HS (ro 0 Z) h91) (fun _ wd94 ⟨A92, c93, h95, HS⟩ => ⟨_, h95, (aS Z (nL (rN 2 Z ?_)))⟩))⟩)))
  obtain ⟨t96, h97, H⟩ := bI H
  refine rG (pS 2 Z (fJ fok18 Z (laws_eqMoveS.calls HS (ro 0 Z) (ro 6 Z) h97) (fun _ wd98 ⟨h99, HS⟩ => ⟨_, h99, (GO.not Z Z Z (nL ?_))⟩)))
  rcases iS H with ⟨c100, H⟩ | ⟨c100, H⟩
  ·
   refine yB Z (congrArg Bool.not (bnot_of c100)) (rN 2 Z ?_)
   obtain rfl := sI H
   exact rT _ func4 Z Z ⟨Z, (HS.pk 9 [] Z)⟩
  refine nB Z (congrArg Bool.not c100) (rN 4 Z ?_)
  obtain ⟨t101, h102, H⟩ := bI H
  refine rG (pS 2 Z (fJ fok21 Z (laws_heldMoveS.calls HS (ro 2 Z) h102) (fun _ wd103 ⟨h104, HS⟩ => ⟨_, h104, (aS Z (nL (rN 3 Z ?_)))⟩)))
  rcases iE H with ⟨c105, H⟩ | ⟨c105, H⟩
  ·
   refine yB Z (tT c105) (rN 2 Z ?_)
   obtain rfl := sI H
   exact rT _ func4 Z Z ⟨Z, (HS.pk 9 [] Z)⟩
  refine nB Z (tF c105) (rN 4 Z ?_)
  rcases iS H with ⟨c106, H⟩ | ⟨c106, H⟩
  ·
   refine yB Z (nF c106) (rN 2 Z ?_)
   obtain rfl := sI H
   exact rT _ func4 Z Z ⟨Z, (HS.pk 9 [] Z)⟩
  refine nB Z (nT c106) (rN 3 Z ?_)
  obtain rfl := sI H
  exact rT _ func4 Z Z ⟨Z, (HS.pk 9 [] Z)⟩
end Go.Proofs.YtbjfinndngafoaaGreat
