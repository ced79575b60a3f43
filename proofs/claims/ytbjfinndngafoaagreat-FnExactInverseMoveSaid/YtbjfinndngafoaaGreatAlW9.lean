/-
  The walks through the functions: a call comes to what its list function says.
-/
import Derived.Test.YtbjfinndngafoaaGreatAlF
import Derived.Test.YtbjfinndngafoaaGreatAlW1
import Derived.Test.YtbjfinndngafoaaGreatAlW3
import Derived.Test.YtbjfinndngafoaaGreatAlW4
import Derived.Test.YtbjfinndngafoaaGreatAlW6
set_option linter.unusedVariables false
set_option linter.unusedSimpArgs false
namespace Go.Proofs.YtbjfinndngafoaaGreat
open Go.RowKit
open Tryz
variable {w0 w : World} {L : List Co} {K : Nat} {A_a A_b A_c A_d A_e A_f A_g A_h A_i A_j A_k A_l A_m A_n A_o A_p A_q A_r A_s A_t A_u A_v A_w A_x A_y A_z : Option Addr} {c_a c_b c_c c_d c_e c_f c_g c_h c_i c_j c_k c_l c_m c_n c_o c_p c_q c_r c_s c_t c_u c_v c_w c_x c_y c_z : Nat}
set_option maxRecDepth 20000
set_option maxHeartbeats 40000000
theorem Gp.calls {a1 : List (List Ab)} {d1 c1 e1 : Int} {y_a : Nat → (Ty.slice 107 Ae).Lay} {r1 r2 : Int} {r3 r4 : Int} (HS : St w0 w (L)) (r_a : Cf w0 L (Ty.slice 107 Ae) A_a c_a y_a a1) (H : Gp.f K a1 d1 c1 e1 = some (r1, r2, r3, r4)) :
    Calls prog 22 #[.agg [sV A_a a1 c_a].toArray, .agg [I d1, I c1, I e1].toArray] w (Gp.post w0 L r1 r2 r3 r4) := by
  unfold Gp.f at H
  refine cG func22 Z ?_
  refine sQ (rG (bA HS Z fun b1 wd2 HS => bA HS Z fun b3 wd4 HS => GO.alloc HS Z Zk Z Z fun b5 wd6 HS => aS Z (nL (sQ ?_))))
  obtain ⟨t7, t8, t9, t10, h11, H⟩ := Dn H
  refine rG (lW 2 HS Z Fx (lW 1 HS Z Jf (fJ qG Z (Gr.calls HS (rD 3 r_a) h11) (fun _ wd19 ⟨A12, c13, A14, c15, y16, A17, c18, h20, HS⟩ => ⟨_, h20, (pS 3 Z (GO.alloc HS Z Qc Z Z fun b21 wd22 HS => sW 0 HS Z Gb Z fun wd23 HS => aS Z (nL (rN 3 Z ?_))))⟩))))
  rcases iS H with ⟨c24, H⟩ | ⟨c24, H⟩
  ·
   refine yB Z (nF c24) (sQ (rG (GO.Cz (.agg [I 0, I 0, I 0].toArray) Z Z (fun _ => by kernel_rfl) Z (mV Z (sW 4 HS Z Jf Z fun wd32 HS => aS Z (nL ?_))))))
   obtain ⟨rfl, rfl, rfl, rfl⟩ := Gj H
   exact G.F7 _ _ func22 Z (Fu.Gc (j := 4) (vs := [I 0, I 0, I 0]) HS Z Z Z Jf) Z ⟨Z, (HS.pk 7 [] Z)⟩
  refine nB Z (nT c24) (rN 2 Z (rG (fL b1 0 Du Z (lB 6 HS Z F8 Z (lS Z Z U29 Z (fL b21 0 U8 Z (lB 0 HS Z Hu Z (lS Z Z U56 Z (GO.sub Z Z Z Z (fL b21 1 Na Z (lB 0 HS Z F8 Z (lS Z Z U29 Z (pS 2 Z (nL ?_))))))))))))))
  refine rN 2 Z (rG (fL b3 0 Kb Z (lB 5 HS Z na2 Z (nL (rN 3 Z ?_)))))
  rcases iE H with ⟨c25, H⟩ | ⟨c25, H⟩
  ·
   refine yB Z (tT c25) (sQ (rG (pS 2 Z (GO.Cz (.agg [I 2, I (w64 ((w64 ((w64 ((a1.length : Int) - (t7.length : Int))) + (t8.length : Int))) - 3)), I 0].toArray) Z Z (fun _ => by kernel_rfl) Z (sW 4 HS Z Jf Z fun wd26 HS => aS Z (nL ?_))))))
   obtain ⟨rfl, rfl, rfl, rfl⟩ := Gj H
   exact G.F7 _ _ func22 Z (Fu.Gc (j := 4) (vs := [I 2, I (w64 ((w64 ((w64 ((a1.length : Int) - (t7.length : Int))) + (t8.length : Int))) - 3)), I 0]) HS Z Z Z Jf) Z ⟨Z, (HS.pk 7 [] Z)⟩
  refine nB Z (tF c25) (rN 2 Z ?_)
  rcases iE H with ⟨c27, H⟩ | ⟨c27, H⟩
  ·
   refine yB Z (tT c27) (sQ (rG (pS 2 Z (GO.Cz (.agg [I 1, I (w64 ((w64 ((w64 ((a1.length : Int) - (t7.length : Int))) + (t8.length : Int))) - 2)), I 0].toArray) Z Z (fun _ => by kernel_rfl) Z (sW 4 HS Z Jf Z fun wd28 HS => aS Z (nL ?_))))))
   obtain ⟨rfl, rfl, rfl, rfl⟩ := Gj H
   exact G.F7 _ _ func22 Z (Fu.Gc (j := 4) (vs := [I 1, I (w64 ((w64 ((w64 ((a1.length : Int) - (t7.length : Int))) + (t8.length : Int))) - 2)), I 0]) HS Z Z Z Jf) Z ⟨Z, (HS.pk 7 [] Z)⟩
  refine nB Z (tF c27) (rN 2 Z ?_)
  rcases iE H with ⟨c29, H⟩ | ⟨c29, H⟩
  ·
   refine yB Z (tT c29) (sQ (rG (pS 2 Z (GO.Cz (.agg [I 4, I (w64 ((w64 ((w64 ((a1.length : Int) - (t7.length : Int))) + (t8.length : Int))) - 4)), I 0].toArray) Z Z (fun _ => by kernel_rfl) Z (sW 4 HS Z Jf Z fun wd30 HS => aS Z (nL ?_))))))
   obtain ⟨rfl, rfl, rfl, rfl⟩ := Gj H
   exact G.F7 _ _ func22 Z (Fu.Gc (j := 4) (vs := [I 4, I (w64 ((w64 ((w64 ((a1.length : Int) - (t7.length : Int))) + (t8.length : Int))) - 4)), I 0]) HS Z Z Z Jf) Z ⟨Z, (HS.pk 7 [] Z)⟩
  refine nB Z (tF c29) (rN 3 Z (rG (pS 2 Z (GO.Cz (.agg [I 3, I (w64 ((w64 ((w64 ((a1.length : Int) - (t7.length : Int))) + (t8.length : Int))) - 1)), I 0].toArray) Z Z (fun _ => by kernel_rfl) Z (sW 4 HS Z Jf Z fun wd31 HS => aS Z (nL ?_))))))
  obtain ⟨rfl, rfl, rfl, rfl⟩ := Gj H
  exact G.F7 _ _ func22 Z (Fu.Gc (j := 4) (vs := [I 3, I (w64 ((w64 ((w64 ((a1.length : Int) - (t7.length : Int))) + (t8.length : Int))) - 1)), I 0]) HS Z Z Z Jf) Z ⟨Z, (HS.pk 7 [] Z)⟩
theorem Gm.calls {a1 : List (List Ab)} {d1 c1 e1 : Int} {y_a : Nat → (Ty.slice 107 Ae).Lay} {r1 r2 : Int} {r3 r4 : Int} (HS : St w0 w (L)) (r_a : Cf w0 L (Ty.slice 107 Ae) A_a c_a y_a a1) (H : Gm.f K a1 d1 c1 e1 = some (r1, r2, r3, r4)) :
    Calls prog 23 #[.agg [sV A_a a1 c_a].toArray, .agg [I d1, I c1, I e1].toArray] w (Gm.post w0 L r1 r2 r3 r4) := by
  unfold Gm.f at H
  refine cG func23 Z ?_
  refine sQ (rG (bA HS Z fun b1 wd2 HS => bA HS Z fun b3 wd4 HS => GO.alloc HS Z Zk Z Z fun b5 wd6 HS => aS Z (nL (sQ ?_))))
  obtain ⟨t7, t8, h9, H⟩ := El H
  refine rG (lW 2 HS Z Fx (lW 1 HS Z Jf (fJ pJ Z (Gg.calls HS (rD 3 r_a) h9) (fun _ wd13 ⟨A10, c11, y12, h14, HS⟩ => ⟨_, h14, (pS 3 Z (GO.alloc HS Z Qt Z Z fun b15 wd16 HS => sW 0 HS Z Fx Z fun wd17 HS => aS Z (nL (rN 3 Z ?_))))⟩))))
  rcases iS H with ⟨c18, H⟩ | ⟨c18, H⟩
  ·
   refine yB Z (nF c18) (sQ (rG (GO.Cz (.agg [I 0, I 0, I 0].toArray) Z Z (fun _ => by kernel_rfl) Z (mV Z (sW 2 HS Z Jf Z fun wd30 HS => aS Z (nL ?_))))))
   obtain ⟨rfl, rfl, rfl, rfl⟩ := Gj H
   exact G.F7 _ _ func23 Z (Fu.Gc (j := 2) (vs := [I 0, I 0, I 0]) HS Z Z Z Jf) Z ⟨Z, (HS.pk 5 [] Z)⟩
  refine nB Z (nT c18) (rN 2 Z ?_)
  obtain ⟨t19, h20, H⟩ := bI H
  refine rG (fL b15 0 Du Z (lB 0 HS Z F8 Z (fJ Ow Z (Bu.calls HS (ro 1 Z) h20) (fun _ wd21 ⟨h22, HS⟩ => ⟨_, h22, (aS Z (nL (rN 2 Z (rG (fL b3 0 Kb Z (lB 3 HS Z na2 Z (nL (rN 3 Z ?_))))))))⟩))))
  rcases iE H with ⟨c23, H⟩ | ⟨c23, H⟩
  ·
   refine yB Z (tT c23) (sQ (rG (pS 2 Z (GO.Cz (.agg [I 2, I (w64 (t19 - 3)), I 0].toArray) Z Z (fun _ => by kernel_rfl) Z (sW 2 HS Z Jf Z fun wd24 HS => aS Z (nL ?_))))))
   obtain ⟨rfl, rfl, rfl, rfl⟩ := Gj H
   exact G.F7 _ _ func23 Z (Fu.Gc (j := 2) (vs := [I 2, I (w64 (t19 - 3)), I 0]) HS Z Z Z Jf) Z ⟨Z, (HS.pk 5 [] Z)⟩
  refine nB Z (tF c23) (rN 2 Z ?_)
  rcases iE H with ⟨c25, H⟩ | ⟨c25, H⟩
  ·
   refine yB Z (tT c25) (sQ (rG (pS 2 Z (GO.Cz (.agg [I 1, I (w64 (t19 - 2)), I 0].toArray) Z Z (fun _ => by kernel_rfl) Z (sW 2 HS Z Jf Z fun wd26 HS => aS Z (nL ?_))))))
   obtain ⟨rfl, rfl, rfl, rfl⟩ := Gj H
   exact G.F7 _ _ func23 Z (Fu.Gc (j := 2) (vs := [I 1, I (w64 (t19 - 2)), I 0]) HS Z Z Z Jf) Z ⟨Z, (HS.pk 5 [] Z)⟩
  refine nB Z (tF c25) (rN 2 Z ?_)
  rcases iE H with ⟨c27, H⟩ | ⟨c27, H⟩
  ·
   refine yB Z (tT c27) (sQ (rG (pS 2 Z (GO.Cz (.agg [I 4, I (w64 (t19 - 4)), I 0].toArray) Z Z (fun _ => by kernel_rfl) Z (sW 2 HS Z Jf Z fun wd28 HS => aS Z (nL ?_))))))
   obtain ⟨rfl, rfl, rfl, rfl⟩ := Gj H
   exact G.F7 _ _ func23 Z (Fu.Gc (j := 2) (vs := [I 4, I (w64 (t19 - 4)), I 0]) HS Z Z Z Jf) Z ⟨Z, (HS.pk 5 [] Z)⟩
  refine nB Z (tF c27) (rN 3 Z (rG (pS 2 Z (GO.Cz (.agg [I 3, I (w64 (t19 - 1)), I 0].toArray) Z Z (fun _ => by kernel_rfl) Z (sW 2 HS Z Jf Z fun wd29 HS => aS Z (nL ?_))))))
  obtain ⟨rfl, rfl, rfl, rfl⟩ := Gj H
  exact G.F7 _ _ func23 Z (Fu.Gc (j := 2) (vs := [I 3, I (w64 (t19 - 1)), I 0]) HS Z Z Z Jf) Z ⟨Z, (HS.pk 5 [] Z)⟩
theorem E8.calls {d1 : List (List Ab)} {g1 f1 h1 : Int} {y_a : Nat → (Ty.slice 142 Ae).Lay} {r1 : Bool} (HS : St w0 w (L)) (r_a : Cf w0 L (Ty.slice 142 Ae) A_a c_a y_a d1) (H : E8.f K d1 g1 f1 h1 = some r1) :
    Calls prog 5 #[.agg [sV A_a d1 c_a].toArray, .agg [I g1, I f1, I h1].toArray] w (E8.post w0 L r1) := by
  unfold E8.f at H
  refine cG func5 Z ?_
  refine sQ (rG (bA HS Z fun b1 wd2 HS => bA HS Z fun b3 wd4 HS => aS Z (nL (rN 3 Z ?_))))
  obtain ⟨t5, h6, H⟩ := bI H
  refine rG (lW 1 HS Z eO (mV Z (fJ qY Z (Fb.calls HS (rD 2 r_a) h6) (fun _ wd7 ⟨h8, HS⟩ => ⟨_, h8, (aS Z (nL (rN 3 Z ?_)))⟩))))
  rcases iE H with ⟨c9, H⟩ | ⟨c9, H⟩
  ·
   refine yB Z (tT c9) (rN 2 Z ?_)
   obtain rfl := sI H
   exact rT _ func5 Z Z ⟨Z, (HS.pk 2 [] Z)⟩
  refine nB Z (tF c9) (rN 2 Z ?_)
  obtain ⟨t10, h11, H⟩ := bI H
  obtain ⟨t17, t18, t19, h20, H⟩ := I9 H
  obtain ⟨t23, t24, t25, t26, h27, H⟩ := Dn H
  refine G.Jm mixed (by decide) (fun b a w => ∃ (A12 : Option Addr) (c13 : Nat) (y14 : Nat → (Ty.slice 107 Ae).Lay) (b30 : Nat) (m1 : Co) (i1 : Co), RS 47 [(2, pT b1), (3, pT b3)] [rv 17 (.agg [sV A_a d1 c_a].toArray), rv 18 (.agg [sV A12 t10 c13].toArray), rv 19 (.agg [I g1, I f1, I h1].toArray), rv 20 (.agg [I t17, I t18, I t19].toArray), rv 21 (.tuple #[.agg [I t23, I t24, I t25].toArray, I t26]), rv 16 (.tuple #[.agg [I t23, I t24, I t25].toArray, I t26]), rv 22 (.agg [I t23, I t24, I t25].toArray), rv 23 (I t26), rv 6 (pT b30), none, rv 7 (I t26)] b a ∧ St w0 w (Box b3 26 [I g1, I f1, I h1] :: Box b1 24 [sV A_a d1 c_a] :: m1 :: i1 :: L) ∧ (b 1 = true → m1 = Own (Ty.slice 107 Ae) 77 A12 c13 y14 t10) ∧ (b 8 = true → b 9 = false → i1 = Box b30 33 [I 0, I 0, I 0]) ∧ (b 9 = true → i1 = Box b30 33 [I t23, I t24, I t25])) ?_ ?_ ?_
  · exact fun a hs => ⟨none, 0, (fun _ => ⟨none, 0, uu⟩), 0, Emp, Emp, hs.init Z, (HS.drew.emp.emp.pk 4 [2, 3, 1, 0] Z), fun h => Bool.noConfusion h, fun h => Bool.noConfusion h, fun h => Bool.noConfusion h⟩
  ·
   intro j b a w hj
   refine exI fun A12 => exI fun c13 => exI fun y14 => exI fun b30 => exI fun m1 => exI fun i1 => anI fun hs => fun hM q => ?_
   have HS := hM.1
   match j, hj with
   | 0, _ =>
    refine hs.at q [] [] (lW 1 HS Z eO (hs.fin q Z fun _ hs => ⟨_, _, _, _, _, _, hs, hM⟩))
   | 1, _ =>
    refine (anI fun HS => anI fun a1 => anI fun e1 => fun c1 => ?_) hM
    refine hs.at q [0] [] (fJ Zv Z (D9.calls HS (rD 4 r_a) h11) (fun _ wd15 ⟨A12, c13, y14, h16, HS⟩ => ⟨_, h16, (hs.Ls q [1] (fun _ hs => ⟨A12, c13, y14, b30, Own (Ty.slice 107 Ae) 77 A12 c13 y14 t10, _, hs, HS.pk 5 [1, 2, 0, 4] Z, fun _ => Z, e1, c1⟩) Z Z)⟩))
   | 2, _ =>
    refine hs.at q [] [] (lW 0 HS Z sH (hs.fin q Z fun _ hs => ⟨_, _, _, _, _, _, hs, hM⟩))
   | 3, _ =>
    refine hs.at q [2] [] (fJ jX Z (Hr.calls HS  h20) (fun _ wd21 ⟨h22, HS⟩ => ⟨_, h22, (hs.fin q Z fun _ hs => ⟨_, _, _, _, _, _, hs, HS, hM.2⟩)⟩))
   | 4, _ =>
    refine (anI fun HS => anI fun a1 => anI fun e1 => fun c1 => ?_) hM
    have hb1 := q.on 1
    obtain rfl := a1 hb1
    refine hs.at q [1, 3] [] (fJ rR Z (Gp.calls HS (ro 2 Z) h27) (fun _ wd28 ⟨h29, HS⟩ => ⟨_, h29, (hs.fin q Z fun _ hs => ⟨A12, c13, y14, b30, _, _, hs, HS, a1, e1, c1⟩)⟩))
   | 5, _ =>
    refine hs.at q [4] [] (mV Z (hs.fin q Z fun _ hs => ⟨_, _, _, _, _, _, hs, hM⟩))
   | 6, _ =>
    refine hs.at q [5] [] (GO.extract Z Z Z Z (hs.fin q Z fun _ hs => ⟨_, _, _, _, _, _, hs, hM⟩))
   | 7, _ =>
    refine hs.at q [5] [] (GO.extract Z Z Z Z (hs.fin q Z fun _ hs => ⟨_, _, _, _, _, _, hs, hM⟩))
   | 8, _ =>
    refine (anI fun HS => anI fun a1 => anI fun e1 => fun c1 => ?_) hM
    refine hs.at q [] [] (GO.alloc HS Z Zk Z Z fun b30 wd31 HS => hs.Ls q [8] (fun _ hs => ⟨A12, c13, y14, b30, _, Box b30 33 [I 0, I 0, I 0], hs, HS.pk 5 [1, 2, 3, 0] Z, a1, fun _ _ => Z, fun hh => (q.no 9 hh).elim⟩) Z Z)
   | 9, _ =>
    refine (anI fun HS => anI fun a1 => anI fun e1 => fun c1 => ?_) hM
    have hb8 := q.on 8
    obtain rfl := e1 hb8 q.hb
    refine hs.at q [8, 6] [] (sW 3 HS Z Jf Z fun wd32 HS => hs.R7 q Z fun _ hs => ⟨A12, c13, y14, b30, _, Box b30 33 [I t23, I t24, I t25], hs, HS, a1, fun _ h => Bool.noConfusion h, fun _ => Z⟩)
   | 10, _ =>
    refine hs.at q [7] [] (aS Z (hs.fin q Z fun _ hs => ⟨_, _, _, _, _, _, hs, hM⟩))
   | k + 11, hj => exact absurd hj (Nat.not_lt.2 (Nat.le_add_left 11 k))
  ·
   intro b a w hall
   refine exI fun A12 => exI fun c13 => exI fun y14 => exI fun b30 => exI fun m1 => exI fun i1 => anI fun hs => anI fun HS => anI fun a1 => anI fun e1 => fun c1 => ?_
   obtain rfl := a1 (hall 1 (by decide))
   obtain rfl := c1 (hall 9 (by decide))
   refine G.at (hs.all hall) (sQ ?_)
   obtain ⟨t33, h34, H⟩ := bI H
   refine rG (lW 1 HS Z eO (fJ Zv Z (D9.calls HS (rD 4 r_a) h34) (fun _ wd38 ⟨A35, c36, y37, h39, HS⟩ => ⟨_, h39, (GO.alloc HS Z Qt Z Z fun b40 wd41 HS => sW 0 HS Z Fx Z fun wd42 HS => nL (sQ ?_))⟩)))
   obtain ⟨t43, t44, t45, h46, H⟩ := I9 H
   obtain ⟨t49, t50, t51, t52, h53, H⟩ := Dn H
   refine G.Jm mixed (by decide) (fun b a w => ∃ (b56 : Nat) (k1 : Co), RS 47 [(2, pT b1), (3, pT b3), (6, pT b30), (7, I t26), (8, pT b40)] [rv 27 (.agg [sV A35 t33 c36].toArray), rv 28 (.agg [I g1, I f1, I h1].toArray), rv 29 (.agg [I t43, I t44, I t45].toArray), rv 30 (.tuple #[.agg [I t49, I t50, I t51].toArray, I t52]), rv 26 (.tuple #[.agg [I t49, I t50, I t51].toArray, I t52]), rv 31 (.agg [I t49, I t50, I t51].toArray), rv 32 (I t52), rv 9 (pT b56), none, rv 10 (I t52)] b a ∧ St w0 w (Box b40 31 [sV A35 t33 c36] :: Own (Ty.slice 107 Ae) 77 A35 c36 y37 t33 :: Box b3 26 [I g1, I f1, I h1] :: Box b1 24 [sV A_a d1 c_a] :: Own (Ty.slice 107 Ae) 77 A12 c13 y14 t10 :: Box b30 33 [I t23, I t24, I t25] :: k1 :: L) ∧ (b 7 = true → b 8 = false → k1 = Box b56 33 [I 0, I 0, I 0]) ∧ (b 8 = true → k1 = Box b56 33 [I t49, I t50, I t51])) ?_ ?_ ?_
   · exact fun a hs => ⟨0, Emp, hs.init Z, (HS.drew.emp.pk 7 [1, 2, 3, 4, 5, 6, 0] Z), fun h => Bool.noConfusion h, fun h => Bool.noConfusion h⟩
   ·
    intro j b a w hj
    refine exI fun b56 => exI fun k1 => anI fun hs => fun hM q => ?_
    have HS := hM.1
    match j, hj with
    | 0, _ =>
     refine hs.at q [] [] (lW 0 HS Z Fx (hs.fin q Z fun _ hs => ⟨_, _, hs, hM⟩))
    | 1, _ =>
     refine hs.at q [] [] (lW 2 HS Z sH (hs.fin q Z fun _ hs => ⟨_, _, hs, hM⟩))
    | 2, _ =>
     refine hs.at q [1] [] (fJ jX Z (Hr.calls HS  h46) (fun _ wd47 ⟨h48, HS⟩ => ⟨_, h48, (hs.fin q Z fun _ hs => ⟨_, _, hs, HS, hM.2⟩)⟩))
    | 3, _ =>
     refine hs.at q [0, 2] [] (fJ pF Z (Gm.calls HS (ro 1 Z) h53) (fun _ wd54 ⟨h55, HS⟩ => ⟨_, h55, (hs.fin q Z fun _ hs => ⟨_, _, hs, HS, hM.2⟩)⟩))
    | 4, _ =>
     refine hs.at q [3] [] (mV Z (hs.fin q Z fun _ hs => ⟨_, _, hs, hM⟩))
    | 5, _ =>
     refine hs.at q [4] [] (GO.extract Z Z Z Z (hs.fin q Z fun _ hs => ⟨_, _, hs, hM⟩))
    | 6, _ =>
     refine hs.at q [4] [] (GO.extract Z Z Z Z (hs.fin q Z fun _ hs => ⟨_, _, hs, hM⟩))
    | 7, _ =>
     refine (anI fun HS => anI fun n1 => fun o1 => ?_) hM
     refine hs.at q [] [] (GO.alloc HS Z Zk Z Z fun b56 wd57 HS => hs.Ls q [7] (fun _ hs => ⟨b56, Box b56 33 [I 0, I 0, I 0], hs, HS.pk 8 [1, 2, 3, 4, 5, 6, 0] Z, fun _ _ => Z, fun hh => (q.no 8 hh).elim⟩) Z Z)
    | 8, _ =>
     refine (anI fun HS => anI fun n1 => fun o1 => ?_) hM
     have hb7 := q.on 7
     obtain rfl := n1 hb7 q.hb
     refine hs.at q [7, 5] [] (sW 6 HS Z Jf Z fun wd58 HS => hs.R7 q Z fun _ hs => ⟨b56, Box b56 33 [I t49, I t50, I t51], hs, HS, fun _ h => Bool.noConfusion h, fun _ => Z⟩)
    | 9, _ =>
     refine hs.at q [6] [] (aS Z (hs.fin q Z fun _ hs => ⟨_, _, hs, hM⟩))
    | k + 10, hj => exact absurd hj (Nat.not_lt.2 (Nat.le_add_left 10 k))
   ·
    intro b a w hall
    refine exI fun b56 => exI fun k1 => anI fun hs => anI fun HS => anI fun n1 => fun o1 => ?_
    obtain rfl := o1 (hall 8 (by decide))
    refine G.at (hs.all hall) (rN 2 Z ?_)
    obtain ⟨t64, h65, H⟩ := bI H
    rcases iS H with ⟨c68, H⟩ | ⟨c68, H⟩
    ·
     refine rG (lW 6 HS Z Jf (lW 5 HS Z Jf (fJ jG Z (H6.calls HS  h65) (fun _ wd66 ⟨h67, HS⟩ => ⟨_, h67, (pS 2 Z (kN 37 Z (congrArg Bool.not (Dh c68)) (oF Z (oF Z (oF Z (GO.Ij Z Z Z Z Z (nL (rN 3 Z ?_))))))))⟩))))
     obtain rfl := sI H
     exact rT _ func5 Z Z ⟨Z, (HS.pk 7 [] Z)⟩
    refine rG (lW 6 HS Z Jf (lW 5 HS Z Jf (fJ jG Z (H6.calls HS  h65) (fun _ wd66 ⟨h67, HS⟩ => ⟨_, h67, (pS 2 Z (kN 37 Z (congrArg Bool.not c68) (oN Z (mV Z (bK (oN Z (mV Z (bK (oN Z (GO.neq Z Z Z Z (bK ?_)))))))))))⟩))))
    refine GO.I7 Z Z Z Z Z (nL ?_)
    rcases iS H with ⟨c69, H⟩ | ⟨c69, H⟩
    ·
     refine yB Z (nF c69) (rN 2 Z ?_)
     obtain rfl := sI H
     exact rT _ func5 Z Z ⟨Z, (HS.pk 7 [] Z)⟩
    refine nB Z (nT c69) (rN 3 Z ?_)
    obtain ⟨t70, h71, H⟩ := bI H
    obtain ⟨t77, h78, H⟩ := bI H
    refine G.Gz mixed (fun w => St w0 w (Box b40 31 [sV A35 t33 c36] :: Box b1 24 [sV A_a d1 c_a] :: L)) [0, 1] [0, 1, 2, 3, 4] [] (by kernel_rfl) (by kernel_rfl) (HS.drew.pk 7 [0, 3] Z) ?_
    replace HS := HS.drew
    refine GX.ls Z Z Z (HS.pk 7 [0, 3] Z) (fun _ HS _ g => lW 0 HS Z Fx g) Z (GX.ls Z Z Z (HS.pk 7 [0, 3] Z) (fun _ HS _ g => lW 1 HS Z eO g) Z (GX.l2 Z (fJ Zv Z (D9.calls HS (rD 7 r_a) h71) (fun _ wd75 ⟨A72, c73, y74, h76, HS⟩ => ⟨_, h76, (GX.fin (HS.pk 8 [1, 4] Z) (GX.l2 Z (fJ qA Z (Fv.calls HS (ro 2 Z) (ro 0 Z) h78) (fun _ wd79 ⟨h80, HS⟩ => ⟨_, h80, (GX.fin (HS.pk 8 [1, 4] Z) (GX.ps 1 Z (GX.nil ?_)))⟩))))⟩))))
    rcases iS H with ⟨c81, H⟩ | ⟨c81, H⟩
    ·
     refine yB Z (congrArg Bool.not (Dh c81)) (rN 2 Z ?_)
     obtain rfl := sI H
     exact rT _ func5 Z Z ⟨Z, (HS.pk 8 [] Z)⟩
    refine nB Z (congrArg Bool.not c81) (rN 3 Z ?_)
    obtain rfl := sI H
    exact rT _ func5 Z Z ⟨Z, (HS.pk 8 [] Z)⟩
end Go.Proofs.YtbjfinndngafoaaGreat
