/-
  The walks through the functions: a call comes to what its list function says.
-/
import Derived.Test.YtbjfinndngafoaaGreatAlF
import Derived.Test.YtbjfinndngafoaaGreatAlW1
import Derived.Test.YtbjfinndngafoaaGreatAlW3
import Derived.Test.YtbjfinndngafoaaGreatAlW4
set_option linter.unusedVariables false
set_option linter.unusedSimpArgs false
namespace Go.Proofs.YtbjfinndngafoaaGreat
open Go.RowKit
open Tryz
variable {w0 w : World} {L : List Ck} {K : Nat} {A_a A_b A_c A_d A_e A_f A_g A_h A_i A_j A_k A_l A_m A_n A_o A_p A_q A_r A_s A_t A_u A_v A_w A_x A_y A_z : Option Addr} {c_a c_b c_c c_d c_e c_f c_g c_h c_i c_j c_k c_l c_m c_n c_o c_p c_q c_r c_s c_t c_u c_v c_w c_x c_y c_z : Nat}
set_option maxRecDepth 20000
set_option maxHeartbeats 40000000
theorem Ae.calls {a1 : List (List Ab)} {e1 : List Int} {g1 : List (Gd × Dn)} {f1 : Int} {c1 : List Fg} {y_a : Nat → (Ty.slice 107 Ad).Lay} {b_o : Nat} {A_b : Option Addr} {c_b d1 : Nat} {r1 : List (List Ab)} (HS : St w0 w (Box b_o 104 [sV A_b e1 c_b, .map (some d1), I f1, sV A_c c1 c_c] :: Hw d1 Fz Dy g1 :: L)) (r_a : Ca w0 L (Ty.slice 107 Ad) A_a c_a y_a a1) (r_b : Ca w0 L (Ar .i64) A_b c_b uu e1) (r_c : Ca w0 L Ha A_c c_c uu c1) (H : Ae.f K a1 e1 g1 f1 c1 = some r1) :
    Calls prog 51 #[.agg [sV A_a a1 c_a].toArray, pT b_o] w (Ae.post w0 L e1 g1 f1 c1 b_o A_b c_b d1 A_c c_c r1) := by
  unfold Ae.f at H
  refine cG func51 Z ?_
  refine sQ (rG (bA HS Z fun b1 wd2 HS => GO.box (cs := [pT b_o]) HS Z Z Z Z fun b3 wd4 HS => GO.alloc HS Z Nv Z Z fun b5 wd6 HS => nL (sQ (rG (GO.alloc HS Z Nv Z Z fun b7 wd8 HS => nL (sQ ?_))))))
  obtain ⟨c9, H⟩ := iN H
  obtain ⟨c10, H⟩ := iN H
  refine rG (fL b1 0 Dk Z (lB 3 HS Z Ga Z (lS Z Z U29 Z (GO.make (T := (Ar .i64)) 0 () HS Au Z Z Z U56 K5 Z Z Z c9 c10 Z fun b11 wd12 HS => GO.alloc HS Z dN Z Z fun b13 wd14 HS => GO.Gu (j := 0) (vs := [sV (sb b11) (List.replicate (a1.length : Int).toNat (0 : Int)) ((a1.length : Int).toNat)]) ([sV (sb b11) (List.replicate (a1.length : Int).toNat (0 : Int)) ((a1.length : Int).toNat)]) HS Z Z Z Z Z (htN Hy Z) Z Z Z fun wd15 HS => nL (rN 2 Z (rG (fL b1 0 Dk Z (lB 5 HS Z Ga Z (lS Z Z U29 Z (mV Z (nL ?_)))))))))))
  refine rN 2 Z ?_
  refine G.name (fun f3 t2 => ?_)
  have p2 : ∀ e2, e2 ≤ K → ∀ (A2731 : Option Addr) (c2732 : Nat) (k1 : List (List Ab)) (y2734 : Nat → (Ty.slice 107 Ad).Lay) (h1 : List Int) (x2736 : Int) (w : World), Ae.l1 K e2 a1 e1 g1 f1 c1 k1 h1 x2736 = some r1 → St w0 w (Box b_o 104 [sV A_b e1 c_b, .map (some d1), I f1, sV A_c c1 c_c] :: Hw d1 Fz Dy g1 :: Box b1 31 [sV A_a a1 c_a] :: Box b3 70 [pT b_o] :: Box b5 31 [.slice none 0 0] :: Box b7 31 [sV A2731 k1 c2732] :: Own (Ty.slice 107 Ad) 77 A2731 c2732 y2734 k1 :: Box b13 56 [sV (sb b11) h1 ((a1.length : Int).toNat)] :: Own (Ar .i64) 2 (sb b11) ((a1.length : Int).toNat) uu h1 :: L) → G prog 51 172 [(2, pT b1), (3, pT b3), (4, pT b5), (5, pT b7), (6, pT b13), (26, sV A_a a1 c_a), (27, I (a1.length : Int)), (28, I x2736)] f3 w (Ae.post w0 L e1 g1 f1 c1 b_o A_b c_b d1 A_c c_c r1) := by
   refine lp (fun _ _ _ _ _ _ w H _ => by rw [Ae.l1] at H; cases H) fun y1 o3 n2 A2731 c2732 k1 y2734 h1 x2736 w H HS => ?_
   rw [Ae.l1] at H
   subst t2
   refine rN 3 Z ?_
   rcases iE H with ⟨c5603, H⟩ | ⟨c5603, H⟩
   ·
    refine yB Z (tT c5603) (rN 4 Z ?_)
    obtain ⟨c5604, H⟩ := iN H
    refine rG (mV Z (iX Z U29 Ie (rk (rD 9 r_a) HS) c5604 (GO.Ce (T := (Ty.slice 107 Ad)) (n := x2736.toNat) (o := 0) HS (rD 9 r_a) Z Z (getD_some (d := []) (ltN c5604)) Z Z Ii Z (pS 2 Z (nL (sQ ?_))))))
    obtain ⟨t5605, h5606, H⟩ := bI H
    refine rG (lB 3 HS Z Yk Z (GO.M9 Z Z Z (fL b_o 0 Nn Z (lB 0 HS Z Hy Z (mV Z (fJ Zv Z (Cw.calls HS (rD 9 r_b) h5606) (fun _ wd5607 ⟨h5608, HS⟩ => ⟨_, h5608, (GO.not Z Z Z (nL ?_))⟩)))))))
    rcases iE H with ⟨c5609, H⟩ | ⟨c5609, H⟩
    ·
     refine nB Z (congrArg Bool.not c5609) (rN 4 Z (gW (n2 y1 (lR _) _ _ _ _ _ _ _ H HS) Z))
    refine yB Z (congrArg Bool.not (De c5609)) (sQ ?_)
    obtain ⟨t5610, h5611, H⟩ := bI H
    obtain ⟨c5614, H⟩ := iN H
    have h5615 := (rk (ro 8 Z) HS)
    refine G.Gy mixed (fun w => St w0 w (Box b7 31 [sV A2731 k1 c2732] :: Box b13 56 [sV (sb b11) h1 ((a1.length : Int).toNat)] :: L)) [0, 3] [1, 2, 0, 3, 4, 5, 6] [] (by kernel_rfl) (by kernel_rfl) (HS.drew.pk 9 [5, 7] Z) ?_
    replace HS := HS.drew
    refine GX.ps 1 Z (qL Z Z (fun _ _ g => fL b7 0 Dk Z g) Z (GX.ls Z Z Z (HS.pk 9 [5, 7] Z) (fun _ HS _ g => lB 1 HS Z Hy Z g) Z (GX.ls Z Z Z (HS.pk 9 [5, 7] Z) (fun _ HS _ g => lB 0 HS Z Ga Z g) Z (GX.l2 Z (fJ Qd Z (Bz.calls HS (ro 6 Z) h5611) (fun _ wd5612 ⟨h5613, HS⟩ => ⟨_, h5613, (GX.fin (HS.pk 9 [5, 7] Z) (qL Z Z (fun _ _ g => iX Z U56 sz2 h5615 c5614 g) Z (GX.l2 Z (GO.He (T := (Ar .i64)) (j := 8) (n := x2736.toNat) (o := 0) (vs := [I t5610]) t5610 HS Z Au Z Z Z Z (htN na2 Z) Z (getD_some (d := 0) (ltN c5614)) Z Z fun wd5616 HS => GX.fin (HS.pk 9 [5, 7] Z) (GX.nil ?_)))))⟩))))))
    replace HS := HS.J4 (j := 7) (cs' := [sV (sb b11) (h1.set x2736.toNat t5610) ((a1.length : Int).toNat)]) Z (by simp only [sV, List.length_set] <;> rfl)
    obtain ⟨t5617, h5618, H⟩ := bI H
    obtain ⟨c5628, H⟩ := iN H
    refine G.Gy mixed (fun w => St w0 w (Box b7 31 [sV A2731 k1 c2732] :: L)) [1] [0, 2, 1, 3, 4, 5, 6, 7] [7] (by kernel_rfl) (by kernel_rfl) (HS.drew.pk 9 [5] Z) ?_
    replace HS := HS.drew
    refine qL Z Z (fun _ _ g => fL b7 0 Dk Z g) Z (GX.ps 1 Z (GX.ls Z Z Z (HS.pk 9 [5] Z) (fun _ HS _ g => lB 0 HS Z Ga Z g) Z (GX.l2 Z (fJ lU Z (Cu.calls HS (Ca.elem (rD 9 r_a) c5604.1 c5604.2) h5618) (fun _ wd5621 ⟨A5619, c5620, h5622, HS⟩ => ⟨_, h5622, (GX.fin (HS.pk 10 [6] Z) (GX.l2 Z (GO.Cr (el := 77) ([sV A5619 t5617 c5620]) HS Z Z (fun _ => by kernel_rfl) Z fun b5623 wd5624 HS => GX.fin (HS.pk 11 [7] Z) (GX.l2 Z ?_))))⟩)))))
    replace HS := HS.pk 11 [8, 0, 1, 2, 3, 4, 5, 6, 7, 9, 10] Z
    refine GO.Su (S := Ad) (u := 107) HS Z Z Z U29 Qc Z Z c5628 Z fun A5626 c5627 y5629 wd5625 HS => GX.fin (HS.pk 10 [7] Z) (qL Z Z (fun _ _ g => fL b7 0 Dk Z g) Z (GX.l2 Z (GO.Gu (j := 7) (vs := [sV A5626 (k1 ++ [t5617]) c5627]) ([sV A5626 (k1 ++ [t5617]) c5627]) HS Z Z Z Z Z (htN Ga Z) Z Z Z fun wd5630 HS => GX.Ql Z (GX.nil (rN 3 Z (gW (n2 y1 (lR _) _ _ _ _ _ _ _ H (HS.pk 10 [2, 3, 4, 5, 6, 7, 0, 8, 9] Z)) Z))))))
   refine nB Z (tF c5603) (rN 2 Z ?_)
   obtain ⟨t5631, h5632, H⟩ := bI H
   refine rG (fL b7 0 Dk Z (lB 5 HS Z Ga Z (fJ Qd Z (Bz.calls HS (ro 6 Z) h5632) (fun _ wd5633 ⟨h5634, HS⟩ => ⟨_, h5634, (GO.alloc HS Z zr2 Z Z fun b5635 wd5636 HS => GO.Gu (j := 0) (vs := [I t5631]) ([I t5631]) HS Z Z Z Z Z (htN na2 Z) Z Z Z fun wd5637 HS => nL (rN 2 Z (rG (lB 4 HS Z Yk Z (GO.M9 Z Z Z (fL b_o 2 Y9 Z (lB 1 HS Z na2 Z (mV Z (nL ?_)))))))))⟩))))
   refine rN 2 Z ?_
   refine G.name (fun z2 i3 => ?_)
   have r2 : ∀ c2, c2 ≤ y1 → ∀ (A6580 : Option Addr) (c6581 : Nat) (v1 : List (List Ab)) (y6583 : Nat → (Ty.slice 107 Ad).Lay) (x6584 : Int) (w : World), Ae.Vd K c2 a1 e1 g1 f1 c1 h1 t5631 v1 x6584 = some r1 → St w0 w (Box b_o 104 [sV A_b e1 c_b, .map (some d1), I f1, sV A_c c1 c_c] :: Hw d1 Fz Dy g1 :: Box b1 31 [sV A_a a1 c_a] :: Box b3 70 [pT b_o] :: Box b5 31 [.slice none 0 0] :: Box b7 31 [sV A6580 v1 c6581] :: Own (Ty.slice 107 Ad) 77 A6580 c6581 y6583 v1 :: Box b13 56 [sV (sb b11) h1 ((a1.length : Int).toNat)] :: Own (Ar .i64) 2 (sb b11) ((a1.length : Int).toNat) uu h1 :: Box b5635 2 [I t5631] :: L) → G prog 51 172 [(2, pT b1), (3, pT b3), (4, pT b5), (5, pT b7), (6, pT b13), (9, pT b5635), (60, I f1), (61, I x6584)] z2 w (Ae.post w0 L e1 g1 f1 c1 b_o A_b c_b d1 A_c c_c r1) := by
    refine lp (fun _ _ _ _ _ w H _ => by rw [Ae.Vd] at H; cases H) fun b2 q3 v2 A6580 c6581 v1 y6583 x6584 w H HS => ?_
    rw [Ae.Vd] at H
    subst i3
    refine rN 3 Z ?_
    rcases iE H with ⟨c7527, H⟩ | ⟨c7527, H⟩
    ·
     refine yB Z (tT c7527) (rN 3 Z ?_)
     obtain ⟨t7528, h7529, H⟩ := bI H
     refine rG (lW 5 HS Z Ep (fJ sU Z (F8.calls HS (ro 6 Z) h7529) (fun _ wd7533 ⟨A7530, c7531, y7532, h7534, HS⟩ => ⟨_, h7534, (sW 6 HS Z Ep Z fun wd7535 HS => nL (rN 3 Z (gW (v2 b2 (lR _) _ _ _ _ _ _ H (HS.pk 11 [1, 2, 3, 4, 5, 6, 0, 8, 9, 10] Z)) Z)))⟩)))
    refine nB Z (tF c7527) (rN 2 Z (rG (GO.Vg Z Z Z Z (aS Z (nL (rN 2 Z ?_))))))
    obtain ⟨t7536, h7537, H⟩ := bI H
    refine rG (fL b1 0 Dk Z (lB 2 HS Z Ga Z (fJ Qd Z (Bz.calls HS (rD 10 r_a) h7537) (fun _ wd7538 ⟨h7539, HS⟩ => ⟨_, h7539, (mV Z (nL (rN 2 Z ?_)))⟩))))
    refine G.name (fun c3 d3 => ?_)
    have j3 : ∀ i2, i2 ≤ b2 → ∀ (z1 : List (List Ab)) (x7850 : Int) (w : World), Ae.Sw K i2 a1 e1 g1 f1 c1 h1 t5631 t7536 z1 x7850 = some r1 → St w0 w (Box b_o 104 [sV A_b e1 c_b, .map (some d1), I f1, sV A_c c1 c_c] :: Hw d1 Fz Dy g1 :: Box b1 31 [sV A_a a1 c_a] :: Box b3 70 [pT b_o] :: Box b5 31 [.slice none 0 0] :: Box b7 31 [sV A6580 z1 c6581] :: Own (Ty.slice 107 Ad) 77 A6580 c6581 y6583 z1 :: Box b5635 2 [I t5631] :: Box b13 56 [sV (sb b11) h1 ((a1.length : Int).toNat)] :: Own (Ar .i64) 2 (sb b11) ((a1.length : Int).toNat) uu h1 :: L) → G prog 51 172 [(2, pT b1), (3, pT b3), (4, pT b5), (5, pT b7), (9, pT b5635), (10, .func (.func 90) #[] #[pT b3, pT b5635, pT b13]), (69, I t7536), (70, I x7850)] c3 w (Ae.post w0 L e1 g1 f1 c1 b_o A_b c_b d1 A_c c_c r1) := by
     refine lp (fun _ _ w H _ => by rw [Ae.Sw] at H; cases H) fun x1 n3 k3 z1 x7850 w H HS => ?_
     rw [Ae.Sw] at H
     subst d3
     refine rN 3 Z ?_
     rcases iS H with ⟨c8160, H⟩ | ⟨c8160, H⟩
     ·
      refine nB Z (tF c8160) (rN 3 Z (rG (lB 3 HS Z Yk Z (GO.M9 Z Z Z (fL b_o 3 Nr Z (lB 0 HS Z Tk Z (lS Z Z fP Z (mV Z (nL (rN 2 Z ?_))))))))))
      refine G.name (fun g3 y2 => ?_)
      have q2 : ∀ f2, f2 ≤ x1 → ∀ (u1 : List (List Ab)) (x8442 : Int) (w : World), Ae.U4 K f2 c1 t5631 u1 x8442 = some r1 → St w0 w (Box b_o 104 [sV A_b e1 c_b, .map (some d1), I f1, sV A_c c1 c_c] :: Hw d1 Fz Dy g1 :: Box b5 31 [.slice none 0 0] :: Box b7 31 [sV A6580 u1 c6581] :: Own (Ty.slice 107 Ad) 77 A6580 c6581 y6583 u1 :: Box b5635 2 [I t5631] :: L) → G prog 51 172 [(4, pT b5), (5, pT b7), (9, pT b5635), (150, sV A_c c1 c_c), (151, I (c1.length : Int)), (152, I x8442)] g3 w (Ae.post w0 L e1 g1 f1 c1 b_o A_b c_b d1 A_c c_c r1) := by
       refine lp (fun _ _ w H _ => by rw [Ae.U4] at H; cases H) fun m3 p3 s2 u1 x8442 w H HS => ?_
       rw [Ae.U4] at H
       subst y2
       refine rN 3 Z ?_
       rcases iS H with ⟨c8456, H⟩ | ⟨c8456, H⟩
       ·
        refine nB Z (tF c8456) (rN 2 Z (rG (lW 3 HS Z Ep (sW 2 HS Z Ep Z fun wd8468 HS => nL ?_))))
        obtain rfl := sI H
        exact rT _ func51 Z (Gc.Gv (j := 2) (vs := [sV A6580 u1 c6581]) HS Z Z Z Ep) ⟨_, _, _, Z, (HS.pk 6 [4, 0, 1] Z)⟩
       refine yB Z (tT c8456) (rN 4 Z ?_)
       obtain ⟨c8457, H⟩ := iN H
       obtain ⟨e8458, h8459, H⟩ := Dl H
       refine rG (iX Z fP tY (rk (rD 6 r_c) HS) c8457 (GO.Hf (T := Ha) (n := x8442.toNat) HS (rD 6 r_c) Z Z (Cs (ltN c8457) h8459) Jj Z (GO.alloc HS Z J8 Z Z fun b8460 wd8461 HS => sW 0 HS Z Jj Z fun wd8462 HS => nL ?_)))
       obtain ⟨t8463, h8464, H⟩ := bI H
       obtain ⟨c8465, H⟩ := iN H
       refine rG (lW 4 HS Z Ep (lB 6 HS Z na2 Z (GO.ixP 0 Z Z Z Z Gg sz2 Z Z (lB 0 HS Z na2 Z (GO.add Z Z Z Z (GO.ixP 1 Z Z Z Z Gg sz2 Z Z (lB 0 HS Z na2 Z (lB 6 HS Z na2 Z (GO.ixP 2 Z Z Z Z Gg sz2 Z Z (lB 0 HS Z na2 Z (GO.add Z Z Z Z (GO.ixP 3 Z Z Z Z Gg sz2 Z Z (lB 0 HS Z na2 Z ?_)))))))))))))
       replace HS := HS.pk 7 [5, 0, 1, 2, 3, 4, 6] Z
       refine fJ tK Z (Fp.calls HS  h8464) (fun _ wd8466 ⟨h8467, HS⟩ => ⟨_, h8467, (nL ?_)⟩)
       replace HS := HS.J4 (j := 5) (cs' := [sV A6580 t8463 c6581]) Z (by simp only [sV, List.length_set, c8465] <;> rfl)
       refine rN 3 Z (gW (s2 m3 (lR _) _ _ _ H (HS.pk 7 [2, 3, 4, 5, 0, 6] Z)) Z)
      exact gW (q2 x1 (lR _) _ _ _ H (HS.pk 10 [0, 1, 4, 5, 6, 7] Z)) Z
     refine yB Z (tT c8160) (rN 9 Z ?_)
     refine G.name (fun h3 u2 => ?_)
     have a3 : ∀ d2, d2 ≤ x1 → ∀ (i1 : List (List Ab)) (x8249 : Int) (w : World), Ae.Sa K d2 a1 e1 g1 f1 c1 h1 t5631 t7536 x7850 i1 x8249 = some r1 → St w0 w (Box b_o 104 [sV A_b e1 c_b, .map (some d1), I f1, sV A_c c1 c_c] :: Hw d1 Fz Dy g1 :: Box b1 31 [sV A_a a1 c_a] :: Box b3 70 [pT b_o] :: Box b5 31 [.slice none 0 0] :: Box b7 31 [sV A6580 i1 c6581] :: Own (Ty.slice 107 Ad) 77 A6580 c6581 y6583 i1 :: Box b5635 2 [I t5631] :: Box b13 56 [sV (sb b11) h1 ((a1.length : Int).toNat)] :: Own (Ar .i64) 2 (sb b11) ((a1.length : Int).toNat) uu h1 :: L) → G prog 51 172 [(2, pT b1), (3, pT b3), (4, pT b5), (5, pT b7), (9, pT b5635), (10, .func (.func 90) #[] #[pT b3, pT b5635, pT b13]), (11, I x7850), (69, I t7536), (70, I x7850), (73, I x8249)] h3 w (Ae.post w0 L e1 g1 f1 c1 b_o A_b c_b d1 A_c c_c r1) := by
      refine lp (fun _ _ w H _ => by rw [Ae.Sa] at H; cases H) fun s1 o2 g2 i1 x8249 w H HS => ?_
      rw [Ae.Sa] at H
      subst u2
      refine rN 3 Z ?_
      rcases iS H with ⟨c8339, H⟩ | ⟨c8339, H⟩
      ·
       refine nB Z (tF c8339) (rN 4 Z (gW (k3 s1 (Nat.le_of_succ_le o2) _ _ _ H HS) Z))
      refine yB Z (tT c8339) (rN 6 Z ?_)
      obtain ⟨c8340, H⟩ := iN H
      obtain ⟨c8341, H⟩ := iN H
      obtain ⟨e8342, h8343, H⟩ := Dl H
      refine rG (fL b1 0 Dk Z (lB 2 HS Z Ga Z (mV Z (iX Z U29 Ie (rk (rD 10 r_a) HS) c8340 (GO.Ce (T := (Ty.slice 107 Ad)) (n := x7850.toNat) (o := 0) HS (rD 10 r_a) Z Z (getD_some (d := []) (ltN c8340)) Z Z Ii Z (mV Z (GO.ix Z Z Z U77 Gb ((Ca.elem (rD 10 r_a) c8340.1 c8340.2) _ HS).2.2.1 c8341.1 c8341.2 Z (GO.Hf (T := Ad) (n := x8249.toNat) HS (Ca.elem (rD 10 r_a) c8340.1 c8340.2) Z Z (Cs (ltN c8341) h8343) Dq Z (GO.alloc HS Z Jf Z Z fun b8344 wd8345 HS => sW 0 HS Z Dq Z fun wd8346 HS => nL (sQ ?_))))))))))
      obtain ⟨e8347, h8348, H⟩ := Dl H
      refine rG (lB 4 HS Z Yk Z (GO.M9 Z Z Z (fL b_o 1 Ug Z (lB 1 HS Z dB Z (pS 2 Z (GO.Df (.agg [I x7850, I x8249].toArray) Z Z (fun _ => by kernel_rfl) Z (GO.Y8 Ou (⟨x7850, x8249⟩ : Gd) X3 HS (j := 2) Z Z Z Z pY Qh Z (congrArg Dy h8348) (pS 3 Z (GO.alloc HS Z Qh Z Z fun b8349 wd8350 HS => sW 0 HS Z Mq Z fun wd8351 HS => aS Z (nL (rN 2 Z ?_)))))))))))
      refine G.Oq (fun x2 e3 => ?_)
      have a2 : ∀ h2, h2 ≤ s1 → ∀ (x8372 : Bool) (w : World), Ae.Sv K h2 a1 e1 g1 f1 c1 h1 t5631 t7536 x7850 i1 x8249 e8342 x8372 = some r1 → St w0 w (Box b_o 104 [sV A_b e1 c_b, .map (some d1), I f1, sV A_c c1 c_c] :: Hw d1 Fz Dy g1 :: Box b1 31 [sV A_a a1 c_a] :: Box b3 70 [pT b_o] :: Box b5 31 [.slice none 0 0] :: Box b7 31 [sV A6580 i1 c6581] :: Own (Ty.slice 107 Ad) 77 A6580 c6581 y6583 i1 :: Box b5635 2 [I t5631] :: Box b13 56 [sV (sb b11) h1 ((a1.length : Int).toNat)] :: Own (Ar .i64) 2 (sb b11) ((a1.length : Int).toNat) uu h1 :: Box b8344 107 [I e8342.Tet, I e8342.Perm] :: L) → G prog 51 172 [(2, pT b1), (3, pT b3), (4, pT b5), (5, pT b7), (9, pT b5635), (10, .func (.func 90) #[] #[pT b3, pT b5635, pT b13]), (11, I x7850), (12, I x8249), (13, pT b8344), (69, I t7536), (70, I x7850), (73, I x8249), (108, .bool x8372)] x2 w (Ae.post w0 L e1 g1 f1 c1 b_o A_b c_b d1 A_c c_c r1) := by
       refine jp (fun _ w H _ => by rw [Ae.Sv] at H; cases H) fun k2 m2 x8372 w H HS => ?_
       rw [Ae.Sv] at H
       subst e3
       rcases iE H with ⟨c8373, H⟩ | ⟨c8373, H⟩
       ·
        refine yB Z c8373 (rN 3 Z (gW (g2 k2 (Nat.le_of_succ_le m2) _ _ _ H (HS.pk 11 [0, 1, 2, 3, 4, 5, 6, 7, 8, 9] Z)) Z))
       refine nB Z (De c8373) (rN 2 Z ?_)
       obtain ⟨t8374, t8375, h8376, H⟩ := Dv H
       obtain ⟨t8379, h8380, H⟩ := bI H
       obtain ⟨t8383, t8384, h8385, H⟩ := Dv H
       refine G.I8 mixed (by decide) (fun b a w => ∃ (b8388 : Nat) (b8390 : Nat) (t1 : Ck) (q1 : Ck), RS 172 [(2, pT b1), (3, pT b3), (4, pT b5), (5, pT b7), (9, pT b5635), (10, .func (.func 90) #[] #[pT b3, pT b5635, pT b13]), (11, I x7850), (12, I x8249), (13, pT b8344), (69, I t7536), (70, I x7850), (73, I x8249)] [rv 109 (.func (.func 90) #[] #[pT b3, pT b5635, pT b13]), rv 110 (I x7850), rv 111 (I x8249), rv 112 (.agg [I t8374, I t8375].toArray), rv 113 (.func (.func 90) #[] #[pT b3, pT b5635, pT b13]), rv 114 (pT b8344), rv 115 (I e8342.Tet), rv 116 (.agg [I e8342.Tet, I e8342.Perm].toArray), rv 117 (I x8249), rv 118 (I t8379), rv 119 (.agg [I t8383, I t8384].toArray), rv 16 (pT b8388), rv 17 (pT b8390), none, none] b a ∧ St w0 w (Box b_o 104 [sV A_b e1 c_b, .map (some d1), I f1, sV A_c c1 c_c] :: Hw d1 Fz Dy g1 :: Box b1 31 [sV A_a a1 c_a] :: Box b3 70 [pT b_o] :: Box b5 31 [.slice none 0 0] :: Box b7 31 [sV A6580 i1 c6581] :: Own (Ty.slice 107 Ad) 77 A6580 c6581 y6583 i1 :: Box b5635 2 [I t5631] :: Box b13 56 [sV (sb b11) h1 ((a1.length : Int).toNat)] :: Own (Ar .i64) 2 (sb b11) ((a1.length : Int).toNat) uu h1 :: Box b8344 107 [I e8342.Tet, I e8342.Perm] :: t1 :: q1 :: L) ∧ (b 11 = true → b 13 = false → t1 = Box b8388 127 [I 0, I 0]) ∧ (b 13 = true → t1 = Box b8388 127 [I t8374, I t8375]) ∧ (b 12 = true → b 14 = false → q1 = Box b8390 127 [I 0, I 0]) ∧ (b 14 = true → q1 = Box b8390 127 [I t8383, I t8384])) ?_ ?_ ?_
       · exact fun a hs => ⟨0, 0, Emp, Emp, hs.init Z, (HS.drew.emp.emp.pk 13 [2, 3, 4, 5, 6, 7, 8, 9, 10, 11, 12, 1, 0] Z), fun h => Bool.noConfusion h, fun h => Bool.noConfusion h, fun h => Bool.noConfusion h, fun h => Bool.noConfusion h⟩
       ·
        intro j b a w hj
        refine exI fun b8388 => exI fun b8390 => exI fun t1 => exI fun q1 => anI fun hs => fun hM q => ?_
        have HS := hM.1
        match j, hj with
        | 0, _ =>
         refine hs.at q [] [] (mV Z (hs.fin q Z fun _ hs => ⟨_, _, _, _, hs, hM⟩))
        | 1, _ =>
         refine hs.at q [] [] (mV Z (hs.fin q Z fun _ hs => ⟨_, _, _, _, hs, hM⟩))
        | 2, _ =>
         refine hs.at q [] [] (mV Z (hs.fin q Z fun _ hs => ⟨_, _, _, _, hs, hM⟩))
        | 3, _ =>
         refine hs.at q [0, 1, 2] [] ?_
         replace HS := HS.pk 13 [3, 0, 1, 7, 8, 2, 4, 5, 6, 9, 10, 11, 12] Z
         refine GO.clo Z Z func90 Zg.2.1 Zg.2.2 Z Z (Cj.calls HS (rD 8 r_b) (rD 8 r_c) (ro 4 Z) h8376) (fun _ wd8377 ⟨h8378, HS⟩ => ⟨_, h8378, (hs.fin q Z fun _ hs => ⟨_, _, _, _, hs, HS.pk 13 [1, 2, 5, 0, 6, 7, 8, 3, 4, 9, 10, 11, 12] Z, hM.2⟩)⟩)
        | 4, _ =>
         refine hs.at q [] [] (mV Z (hs.fin q Z fun _ hs => ⟨_, _, _, _, hs, hM⟩))
        | 5, _ =>
         refine hs.at q [] [] (fL b8344 0 C9 Z (hs.fin q Z fun _ hs => ⟨_, _, _, _, hs, hM⟩))
        | 6, _ =>
         refine hs.at q [5] [] (lB 10 HS Z na2 Z (hs.fin q Z fun _ hs => ⟨_, _, _, _, hs, hM⟩))
        | 7, _ =>
         refine hs.at q [] [] (lW 10 HS Z Dq (hs.fin q Z fun _ hs => ⟨_, _, _, _, hs, hM⟩))
        | 8, _ =>
         refine hs.at q [] [] (mV Z (hs.fin q Z fun _ hs => ⟨_, _, _, _, hs, hM⟩))
        | 9, _ =>
         refine hs.at q [7, 8] [] (fJ dG Z (Ez.calls HS  h8380) (fun _ wd8381 ⟨h8382, HS⟩ => ⟨_, h8382, (hs.fin q Z fun _ hs => ⟨_, _, _, _, hs, HS, hM.2⟩)⟩))
        | 10, _ =>
         refine hs.at q [4, 6, 9] [] ?_
         replace HS := HS.pk 13 [3, 0, 1, 7, 8, 2, 4, 5, 6, 9, 10, 11, 12] Z
         refine GO.clo Z Z func90 Zg.2.1 Zg.2.2 Z Z (Cj.calls HS (rD 8 r_b) (rD 8 r_c) (ro 4 Z) h8385) (fun _ wd8386 ⟨h8387, HS⟩ => ⟨_, h8387, (hs.fin q Z fun _ hs => ⟨_, _, _, _, hs, HS.pk 13 [1, 2, 5, 0, 6, 7, 8, 3, 4, 9, 10, 11, 12] Z, hM.2⟩)⟩)
        | 11, _ =>
         refine (anI fun HS => anI fun n1 => anI fun m1 => anI fun p1 => fun o1 => ?_) hM
         refine hs.at q [] [] (GO.alloc HS Z Qh Z Z fun b8388 wd8389 HS => hs.Kh q [11] (fun _ hs => ⟨b8388, b8390, Box b8388 127 [I 0, I 0], _, hs, HS.pk 14 [1, 2, 3, 4, 5, 6, 7, 8, 9, 10, 11, 0, 13] Z, fun _ _ => Z, fun hh => (q.no 13 hh).elim, p1, o1⟩) Z Z)
        | 12, _ =>
         refine (anI fun HS => anI fun n1 => anI fun m1 => anI fun p1 => fun o1 => ?_) hM
         refine hs.at q [] [] (GO.alloc HS Z Qh Z Z fun b8390 wd8391 HS => hs.Kh q [12] (fun _ hs => ⟨b8388, b8390, _, Box b8390 127 [I 0, I 0], hs, HS.pk 14 [1, 2, 3, 4, 5, 6, 7, 8, 9, 10, 11, 12, 0] Z, n1, m1, fun _ _ => Z, fun hh => (q.no 14 hh).elim⟩) Z Z)
        | 13, _ =>
         refine (anI fun HS => anI fun n1 => anI fun m1 => anI fun p1 => fun o1 => ?_) hM
         have hb11 := q.on 11
         obtain rfl := n1 hb11 q.hb
         refine hs.at q [11, 3] [] (sW 11 HS Z Mq Z fun wd8392 HS => hs.Qm q Z fun _ hs => ⟨b8388, b8390, Box b8388 127 [I t8374, I t8375], _, hs, HS, fun _ h => Bool.noConfusion h, fun _ => Z, p1, o1⟩)
        | 14, _ =>
         refine (anI fun HS => anI fun n1 => anI fun m1 => anI fun p1 => fun o1 => ?_) hM
         have hb12 := q.on 12
         obtain rfl := p1 hb12 q.hb
         refine hs.at q [12, 10] [] (sW 12 HS Z Mq Z fun wd8393 HS => hs.Qm q Z fun _ hs => ⟨b8388, b8390, _, Box b8390 127 [I t8383, I t8384], hs, HS, n1, m1, fun _ h => Bool.noConfusion h, fun _ => Z⟩)
        | k + 15, hj => exact absurd hj (Nat.not_lt.2 (Nat.le_add_left 15 k))
       ·
        intro b a w hall
        refine exI fun b8388 => exI fun b8390 => exI fun t1 => exI fun q1 => anI fun hs => anI fun HS => anI fun n1 => anI fun m1 => anI fun p1 => fun o1 => ?_
        obtain rfl := m1 (hall 13 (by decide))
        obtain rfl := o1 (hall 14 (by decide))
        refine G.at (hs.all hall) (sQ ?_)
        obtain ⟨t8394, t8395, t8396, t8397, h8398, H⟩ := D9 H
        obtain ⟨c8401, H⟩ := iN H
        refine rG (fL b8388 1 Ku Z (lB 11 HS Z na2 Z (fJ Km Z (Ct.calls HS  h8398) (fun _ wd8399 ⟨h8400, HS⟩ => ⟨_, h8400, (mV Z (GO.Tn ([t8394, t8395, t8396, t8397] : List Int) Z Z Z Gg U2 sz2 Z c8401.1 c8401.2 Z (aS Z (nL ?_))))⟩))))
        obtain ⟨c8402, H⟩ := iN H
        have h8403 := (rk (ro 6 Z) HS)
        obtain ⟨t8404, h8405, H⟩ := bI H
        obtain ⟨t8408, h8409, H⟩ := bI H
        obtain ⟨t8412, h8413, H⟩ := bI H
        obtain ⟨c8416, H⟩ := iN H
        refine G.Gy mixed (fun w => St w0 w (Box b7 31 [sV A6580 i1 c6581] :: Own (Ty.slice 107 Ad) 77 A6580 c6581 y6583 i1 :: Box b8344 107 [I e8342.Tet, I e8342.Perm] :: Box b8388 127 [I t8374, I t8375] :: Box b8390 127 [I t8383, I t8384] :: L)) [1, 3, 5, 8, 10, 13, 16] [0, 2, 6, 7, 9, 12, 15, 1, 3, 4, 5, 8, 10, 13, 16, 11, 14, 17, 18, 19, 20] [20] (by kernel_rfl) (by kernel_rfl) (HS.drew.pk 13 [5, 6, 10, 11, 12] Z) ?_
        replace HS := HS.drew
        refine qL Z Z (fun _ _ g => fL b7 0 Dk Z g) Z (qL Z Z (fun _ _ g => fL b8388 0 Jl Z g) Z (GX.ps 1 Z (qL Z Z (fun _ _ g => fL b8390 0 Jl Z g) Z (qL Z Z (fun _ _ g => fL b8388 1 Ku Z g) Z (qL Z Z (fun _ _ g => fL b8344 1 F4 Z g) Z (qL Z Z (fun _ _ g => fL b8390 1 Ku Z g) Z (GX.ls Z Z Z (HS.pk 13 [5, 6, 10, 11, 12] Z) (fun _ HS _ g => lB 0 HS Z Ga Z g) Z (GX.ls Z Z Z (HS.pk 13 [5, 6, 10, 11, 12] Z) (fun _ HS _ g => lB 3 HS Z na2 Z g) Z (qL Z Z (fun _ _ g => iX Z U29 Ie h8403 c8402 g) Z (GX.ls Z Z Z (HS.pk 13 [5, 6, 10, 11, 12] Z) (fun _ HS _ g => GO.Ce (T := (Ty.slice 107 Ad)) (n := t8374.toNat) (o := 0) HS (ro 1 Z) Z Z (getD_some (d := []) (ltN c8402)) Z Z Ii Z g) Z (GX.ls Z Z Z (HS.pk 13 [5, 6, 10, 11, 12] Z) (fun _ HS _ g => lB 4 HS Z na2 Z g) Z (GX.ls Z Z Z (HS.pk 13 [5, 6, 10, 11, 12] Z) (fun _ HS _ g => lB 3 HS Z na2 Z g) Z (GX.ls Z Z Z (HS.pk 13 [5, 6, 10, 11, 12] Z) (fun _ HS _ g => lB 2 HS Z na2 Z g) Z (GX.ls Z Z Z (HS.pk 13 [5, 6, 10, 11, 12] Z) (fun _ HS _ g => lB 4 HS Z na2 Z g) Z ?_))))))))))))))
        refine GX.l2 Z (fJ Tf Z (Ed.calls HS  h8405) (fun _ wd8406 ⟨h8407, HS⟩ => ⟨_, h8407, (GX.fin (HS.pk 13 [5, 6, 10, 11, 12] Z) (GX.l2 Z (fJ Wo Z (Dx.calls HS  h8409) (fun _ wd8410 ⟨h8411, HS⟩ => ⟨_, h8411, (GX.fin (HS.pk 13 [5, 6, 10, 11, 12] Z) (GX.l2 Z (fJ Wo Z (Dx.calls HS  h8413) (fun _ wd8414 ⟨h8415, HS⟩ => ⟨_, h8415, (GX.fin (HS.pk 13 [5, 6, 10, 11, 12] Z) (qL Z Z (fun _ _ g => GO.Df (.agg [I t8383, I t8412].toArray) Z Z (fun _ => by kernel_rfl) Z g) Z (qL Z Z (fun _ _ g => GO.ix Z Z Z U77 Gb ((Ca.elem (ro 6 Z) c8402.1 c8402.2) _ HS).2.2.1 c8416.1 c8416.2 Z g) Z (GX.l2 Z ?_))))⟩))))⟩))))⟩))
        replace HS := HS.pk 13 [6, 0, 1, 2, 3, 4, 5, 7, 8, 9, 10, 11, 12] Z
        refine GO.Q3 (S := Ad) (k := t8374.toNat) (n := (([t8394, t8395, t8396, t8397] : List Int).getD x8249.toNat 0).toNat) (o := 0) (vs := [I t8383, I t8412]) (⟨t8383, t8412⟩ : Ab) HS Au Z Z Z Z (htA Dq) Z (ltN c8402) (getD_some (d := Bb) (ltN c8416)) Z Z fun wd8417 HS => GX.Ql Z (GX.nil ?_)
        replace HS := HS.J4 (j := 6) (cs' := [sV A6580 (i1.set t8374.toNat ((i1.getD t8374.toNat []).set ((([t8394, t8395, t8396, t8397] : List Int).getD x8249.toNat 0).toNat) (⟨t8383, t8412⟩ : Ab))) c6581]) Z (by simp only [sV, List.length_set] <;> rfl)
        refine rN 3 Z (gW (g2 k2 (Nat.le_of_succ_le m2) _ _ _ H (HS.pk 13 [1, 2, 3, 4, 5, 6, 0, 7, 8, 9] Z)) Z)
      obtain ⟨t8418, h8419, H⟩ := bI H
      rcases iE H with ⟨c8422, H⟩ | ⟨c8422, H⟩
      ·
       refine rG (lW 1 HS Z Dq (fJ M8 Z (Bn.calls HS  h8419) (fun _ wd8420 ⟨h8421, HS⟩ => ⟨_, h8421, (mV Z (kN 97 Z c8422 (oF Z (oF Z (oF Z (oF Z (oF Z (oF Z (oF Z (GO.V8 Z Z Z Z Z Z (GO.V8 Z Z Z Z Z Z (oF Z ?_))))))))))))⟩)))
       refine GO.Ib Z Z Z Z Z (nL (gW (a2 s1 (lR _) _ _ H (HS.pk 12 [2, 3, 4, 5, 6, 7, 8, 9, 10, 11, 1] Z)) Z))
      obtain ⟨t8423, h8424, H⟩ := bI H
      rcases iS H with ⟨c8427, H⟩ | ⟨c8427, H⟩
      ·
       refine rG (lW 1 HS Z Dq (fJ M8 Z (Bn.calls HS  h8419) (fun _ wd8420 ⟨h8421, HS⟩ => ⟨_, h8421, (mV Z (kN 97 Z (De c8422) (oN Z (lB 5 HS Z Yk Z (bK (oN Z (GO.M9 Z Z Z (bK (oN Z (fL b_o 0 Nn Z (bK (oN Z ?_))))))))))))⟩)))
       refine lB 2 HS Z Hy Z (bK (oN Z (mV Z (bK (oN Z (fJ Zv Z (Cw.calls HS (rD 12 r_b) h8424) (fun _ wd8425 ⟨h8426, HS⟩ => ⟨_, h8426, (bK (oN Z (mV Z (bK (kN 104 Z (De c8427) (oF Z (oF Z (oN Z ?_))))))))⟩)))))))
       refine GO.Ir Z Z Z Z Z (bK (GO.Ir Z Z Z Z Z (nL (gW (a2 s1 (lR _) _ _ H (HS.pk 12 [2, 3, 4, 5, 6, 7, 8, 9, 10, 11, 1] Z)) Z))))
      refine rG (lW 1 HS Z Dq (fJ M8 Z (Bn.calls HS  h8419) (fun _ wd8420 ⟨h8421, HS⟩ => ⟨_, h8421, (mV Z (kN 97 Z (De c8422) (oN Z (lB 5 HS Z Yk Z (bK (oN Z (GO.M9 Z Z Z (bK (oN Z (fL b_o 0 Nn Z (bK (oN Z ?_))))))))))))⟩)))
      refine lB 2 HS Z Hy Z (bK (oN Z (mV Z (bK (oN Z (fJ Zv Z (Cw.calls HS (rD 12 r_b) h8424) (fun _ wd8425 ⟨h8426, HS⟩ => ⟨_, h8426, (bK (oN Z (mV Z (bK (kN 104 Z c8427 (oN Z (mV Z (bK ?_))))))))⟩)))))))
      refine oN Z (GO.not Z Z Z (bK (oN Z (GO.Ib Z Z Z Z Z (bK (GO.Ir Z Z Z Z Z (nL (gW (a2 s1 (lR _) _ _ H (HS.pk 12 [2, 3, 4, 5, 6, 7, 8, 9, 10, 11, 1] Z)) Z))))))))
     exact gW (a3 x1 (lR _) _ _ _ H HS) Z
    exact gW (j3 b2 (lR _) _ _ _ H (HS.pk 10 [0, 1, 2, 3, 4, 5, 6, 9, 7, 8] Z)) Z
   exact gW (r2 y1 (lR _) _ _ _ _ _ _ H (HS.pk 10 [1, 2, 3, 4, 5, 6, 7, 8, 9, 0] Z)) Z
  replace HS := HS.Da (Ty.slice 107 Ad) 77 (fun _ => ⟨none, 0, uu⟩)
  exact gW (p2 K (lR _) _ _ _ _ _ _ _ H (HS.pk 9 [7, 8, 6, 5, 4, 3, 0, 1, 2] Z)) Z
theorem Gm.calls {a1 : List (List Ab)} {e1 d1 c1 : Int} {y_a : Nat → (Ty.slice 107 Ad).Lay} {r1 : List (List Ab)} {r2 : Int} (HS : St w0 w (L)) (r_a : Ca w0 L (Ty.slice 107 Ad) A_a c_a y_a a1) (H : Gm.f K a1 e1 d1 c1 = some (r1, r2)) :
    Calls prog 26 #[.agg [sV A_a a1 c_a].toArray, .agg [I e1, I d1, I c1].toArray] w (Gm.post w0 L r1 r2) := by
  unfold Gm.f at H
  refine cG func26 Z ?_
  refine sQ (rG (bA HS Z fun b1 wd2 HS => bA HS Z fun b3 wd4 HS => GO.alloc HS Z Nv Z Z fun b5 wd6 HS => aS Z (nL (rN 2 Z ?_))))
  obtain ⟨t7, h8, H⟩ := bI H
  refine rG (lW 2 HS Z Ep (fJ qG Z (Bf.calls HS (rD 3 r_a) h8) (fun _ wd9 ⟨h10, HS⟩ => ⟨_, h10, (GO.not Z Z Z (nL ?_))⟩)))
  rcases iS H with ⟨c11, H⟩ | ⟨c11, H⟩
  ·
   refine yB Z (congrArg Bool.not (De c11)) (sQ (rG (GO.Df (.agg [.slice none 0 0].toArray) Z Z (fun _ => by kernel_rfl) Z (sW 0 HS Z Ep Z fun wd35 HS => aS Z (nL ?_)))))
   replace HS := HS.Da (Ty.slice 107 Ad) 77 (fun _ => ⟨none, 0, uu⟩)
   obtain ⟨rfl, rfl⟩ := G5 H
   exact G.Gq _ _ func26 Z (Gc.Gv (j := 1) (vs := [.slice none 0 0]) HS Z Z Z Ep) Z ⟨_, _, _, Z, (HS.pk 4 [0] Z)⟩
  refine nB Z (congrArg Bool.not c11) (rN 2 Z ?_)
  obtain ⟨t12, t13, h14, H⟩ := Dv H
  refine rG (lW 2 HS Z Ep (lW 1 HS Z Yo (fJ sG Z (D8.calls HS (rD 3 r_a) h14) (fun _ wd21 ⟨b15, A16, c17, b18, A19, c20, h22, HS⟩ => ⟨_, h22, (pS 5 Z (nL (rN 3 Z ?_)))⟩))))
  rcases iS H with ⟨c23, H⟩ | ⟨c23, H⟩
  ·
   refine yB Z (nF c23) (sQ (rG (GO.Df (.agg [.slice none 0 0].toArray) Z Z (fun _ => by kernel_rfl) Z (mV Z (sW 1 HS Z Ep Z fun wd34 HS => aS Z (nL ?_))))))
   replace HS := HS.Da (Ty.slice 107 Ad) 77 (fun _ => ⟨none, 0, uu⟩)
   obtain ⟨rfl, rfl⟩ := G5 H
   exact G.Gq _ _ func26 Z (Gc.Gv (j := 2) (vs := [.slice none 0 0]) HS Z Z Z Ep) Z ⟨_, _, _, Z, (HS.pk 5 [0] Z)⟩
  refine nB Z (nT c23) (rN 2 Z ?_)
  obtain ⟨x24, h25, H⟩ := aJ H
  subst h25
  obtain ⟨t26, h27, H⟩ := bI H
  refine rG (lW 3 HS Z Ep (mV Z ?_))
  replace HS := St.nH (M := [Box b15 104 [.slice A16 x24.1.length c17, .map (some b18), I x24.2.2.1, .slice A19 x24.2.2.2.length c20], Own (Ar .i64) 2 A16 c17 uu x24.1, Hw b18 Fz Dy x24.2.1, Own Ha 131 A19 c20 uu x24.2.2.2]) HS Z
  replace HS := HS.pk 7 [0, 2, 1, 3, 4, 5, 6] Z
  refine fJ sF Z (Ae.calls HS (rD 5 r_a) (ro 0 Z) (ro 1 Z) h27) (fun _ wd31 ⟨A28, c29, y30, h32, HS⟩ => ⟨_, h32, (sW 5 HS Z Ep Z fun wd33 HS => aS Z (nL ?_))⟩)
  obtain ⟨rfl, rfl⟩ := G5 H
  exact G.Gq _ _ func26 Z (Gc.Gv (j := 5) (vs := [sV A28 t26 c29]) HS Z Z Z Ep) Z ⟨_, _, _, Z, (HS.pk 8 [0] Z)⟩
theorem Iy.calls {a1 c1 : Int} {e1 d1 : Int} {r1 : Bool} (HS : St w0 w (L)) (H : Iy.f a1 c1 e1 d1 = some r1) :
    Calls prog 115 #[.agg [I a1, I c1].toArray, .agg [I e1, I d1].toArray] w (Iy.post w0 L r1) := by
  unfold Iy.f at H
  refine cG func115 Z ?_
  refine sQ (rG (bA HS Z fun b1 wd2 HS => bA HS Z fun b3 wd4 HS => aS Z (nL (rN 2 Z (rG (fL b1 0 C9 Z (lB 1 HS Z na2 Z (fL b3 0 C9 Z (lB 0 HS Z na2 Z (GO.neq Z Z Z Z (nL ?_)))))))))))
  rcases iS H with ⟨c5, H⟩ | ⟨c5, H⟩
  ·
   refine yB Z (nF c5) (rN 2 Z ?_)
   obtain rfl := sI H
   exact rT _ func115 Z Z ⟨Z, (HS.pk 2 [] Z)⟩
  refine nB Z (nT c5) (rN 3 Z (rG (fL b1 1 F4 Z (lB 1 HS Z na2 Z (fL b3 1 F4 Z (lB 0 HS Z na2 Z (GO.neq Z Z Z Z (nL ?_))))))))
  rcases iS H with ⟨c6, H⟩ | ⟨c6, H⟩
  ·
   refine yB Z (nF c6) (rN 2 Z ?_)
   obtain rfl := sI H
   exact rT _ func115 Z Z ⟨Z, (HS.pk 2 [] Z)⟩
  refine nB Z (nT c6) (rN 3 Z ?_)
  obtain rfl := sI H
  exact rT _ func115 Z Z ⟨Z, (HS.pk 2 [] Z)⟩
theorem Fa.calls {a_ b_ : List Ab} {r1 : Bool} (HS : St w0 w (L)) (r_a : Ca w0 L Ad A_a c_a uu a_) (r_b : Ca w0 L Ad A_b c_b uu b_) (H : Fa.f K a_ b_ = some r1) :
    Calls prog 74 #[sV A_a a_ c_a, sV A_b b_ c_b] w (Fa.post w0 L r1) := by
  unfold Fa.f at H
  refine cG func74 Z ?_
  refine rN 4 Z (rG (mV Z (lS Z Z U77 Z (mV Z (lS Z Z U77 Z (GO.neq Z Z Z Z (nL ?_)))))))
  rcases iS H with ⟨c1, H⟩ | ⟨c1, H⟩
  ·
   refine yB Z (nF c1) (rN 2 Z ?_)
   obtain rfl := sI H
   exact rT _ func74 Z Z ⟨Z, HS⟩
  refine nB Z (nT c1) (rN 6 Z ?_)
  refine G.name (fun e1 d1 => ?_)
  have f1 : ∀ b1, b1 ≤ K → ∀ (a1 : Int) (w : World), Fa.l1 K b1 a_ b_ a1 = some r1 → St w0 w (L) → G prog 74 27 [(0, sV A_a a_ c_a), (1, sV A_b b_ c_b), (5, I a1)] e1 w (Fa.post w0 L r1) := by
   refine lp (fun _ w H _ => by rw [Fa.l1] at H; cases H) fun g1 i1 h1 a1 w H HS => ?_
   rw [Fa.l1] at H
   subst d1
   refine rN 2 Z (rG (pS 2 Z (lS Z Z U77 Z (GO.lss Z Z Z Z (nL ?_)))))
   rcases iS H with ⟨c27, H⟩ | ⟨c27, H⟩
   ·
    refine nB Z (tF c27) (rN 3 Z ?_)
    obtain rfl := sI H
    exact rT _ func74 Z Z ⟨Z, HS⟩
   refine yB Z (tT c27) (rN 4 Z ?_)
   obtain ⟨c28, H⟩ := iN H
   obtain ⟨e29, h30, H⟩ := Dl H
   obtain ⟨c31, H⟩ := iN H
   obtain ⟨e32, h33, H⟩ := Dl H
   obtain ⟨t34, h35, H⟩ := bI H
   refine G.lex mixed [0, 1, 2, 4, 5, 6, 3, 7, 8, 9] (by kernel_rfl) ?_
   replace HS := HS.drew
   refine GX.ps 2 Z (qL Z Z (fun _ _ g => iX Z U77 Gb (rk r_a HS) c28 g) Z (GX.ps 2 Z (qL Z Z (fun _ _ g => iX Z U77 Gb (rk r_b HS) c31 g) Z (GX.l1 Z Z Z (fun _ g => GO.Hf (T := Ad) (n := a1.toNat) HS r_a Z Z (Cs (ltN c28) h30) Dq Z g) Z (GX.l1 Z Z Z (fun _ g => GO.Hf (T := Ad) (n := a1.toNat) HS r_b Z Z (Cs (ltN c31) h33) Dq Z g) Z (GX.l2 Z (fJ nA Z (Iy.calls HS  h35) (fun _ wd36 ⟨h37, HS⟩ => ⟨_, h37, (GX.fin tv (GX.ps 1 Z (GX.nil ?_)))⟩))))))))
   rcases iS H with ⟨c38, H⟩ | ⟨c38, H⟩
   ·
    refine yB Z (congrArg Bool.not (De c38)) (rN 2 Z ?_)
    obtain rfl := sI H
    exact rT _ func74 Z Z ⟨Z, HS⟩
   refine nB Z (congrArg Bool.not c38) (rN 4 Z (gW (h1 g1 (lR _) _ _ H HS) Z))
  exact gW (f1 K (lR _) _ _ H HS) Z
theorem Ei.calls {a_ b_ : List (List Ab)} {y_a : Nat → (Ty.slice 107 Ad).Lay} {y_b : Nat → (Ty.slice 107 Ad).Lay} {r1 : Bool} (HS : St w0 w (L)) (r_a : Ca w0 L (Ty.slice 107 Ad) A_a c_a y_a a_) (r_b : Ca w0 L (Ty.slice 107 Ad) A_b c_b y_b b_) (H : Ei.f K a_ b_ = some r1) :
    Calls prog 44 #[sV A_a a_ c_a, sV A_b b_ c_b] w (Ei.post w0 L r1) := by
  unfold Ei.f at H
  refine cG func44 Z ?_
  refine rN 4 Z (rG (mV Z (lS Z Z U29 Z (mV Z (lS Z Z U29 Z (GO.neq Z Z Z Z (nL ?_)))))))
  rcases iS H with ⟨c1, H⟩ | ⟨c1, H⟩
  ·
   refine yB Z (nF c1) (rN 2 Z ?_)
   obtain rfl := sI H
   exact rT _ func44 Z Z ⟨Z, HS⟩
  refine nB Z (nT c1) (rN 6 Z ?_)
  refine G.name (fun e1 d1 => ?_)
  have f1 : ∀ b1, b1 ≤ K → ∀ (a1 : Int) (w : World), Ei.l1 K b1 a_ b_ a1 = some r1 → St w0 w (L) → G prog 44 27 [(0, sV A_a a_ c_a), (1, sV A_b b_ c_b), (5, I a1)] e1 w (Ei.post w0 L r1) := by
   refine lp (fun _ w H _ => by rw [Ei.l1] at H; cases H) fun g1 i1 h1 a1 w H HS => ?_
   rw [Ei.l1] at H
   subst d1
   refine rN 2 Z (rG (pS 2 Z (lS Z Z U29 Z (GO.lss Z Z Z Z (nL ?_)))))
   rcases iS H with ⟨c19, H⟩ | ⟨c19, H⟩
   ·
    refine nB Z (tF c19) (rN 3 Z ?_)
    obtain rfl := sI H
    exact rT _ func44 Z Z ⟨Z, HS⟩
   refine yB Z (tT c19) (rN 4 Z ?_)
   obtain ⟨c20, H⟩ := iN H
   obtain ⟨c21, H⟩ := iN H
   obtain ⟨t22, h23, H⟩ := bI H
   refine G.lex mixed [0, 1, 2, 4, 5, 6, 3, 7, 8, 9] (by kernel_rfl) ?_
   replace HS := HS.drew
   refine GX.ps 2 Z (qL Z Z (fun _ _ g => iX Z U29 Ie (rk r_a HS) c20 g) Z (GX.ps 2 Z (qL Z Z (fun _ _ g => iX Z U29 Ie (rk r_b HS) c21 g) Z (GX.l1 Z Z Z (fun _ g => GO.Ce (T := (Ty.slice 107 Ad)) (n := a1.toNat) (o := 0) HS r_a Z Z (getD_some (d := []) (ltN c20)) Z Z Ii Z g) Z (GX.l1 Z Z Z (fun _ g => GO.Ce (T := (Ty.slice 107 Ad)) (n := a1.toNat) (o := 0) HS r_b Z Z (getD_some (d := []) (ltN c21)) Z Z Ii Z g) Z (GX.l2 Z (fJ tJ Z (Fa.calls HS (Ca.elem r_a c20.1 c20.2) (Ca.elem r_b c21.1 c21.2) h23) (fun _ wd24 ⟨h25, HS⟩ => ⟨_, h25, (GX.fin tv (GX.ps 1 Z (GX.nil ?_)))⟩))))))))
   rcases iS H with ⟨c26, H⟩ | ⟨c26, H⟩
   ·
    refine yB Z (congrArg Bool.not (De c26)) (rN 2 Z ?_)
    obtain rfl := sI H
    exact rT _ func44 Z Z ⟨Z, HS⟩
   refine nB Z (congrArg Bool.not c26) (rN 4 Z (gW (h1 g1 (lR _) _ _ H HS) Z))
  exact gW (f1 K (lR _) _ _ H HS) Z
theorem Cz.calls {a1 c1 : List (List Ab)} {y_a : Nat → (Ty.slice 107 Ad).Lay} {y_b : Nat → (Ty.slice 107 Ad).Lay} {r1 : Bool} (HS : St w0 w (L)) (r_a : Ca w0 L (Ty.slice 107 Ad) A_a c_a y_a a1) (r_b : Ca w0 L (Ty.slice 107 Ad) A_b c_b y_b c1) (H : Cz.f K a1 c1 = some r1) :
    Calls prog 15 #[.agg [sV A_a a1 c_a].toArray, .agg [sV A_b c1 c_b].toArray] w (Cz.post w0 L r1) := by
  unfold Cz.f at H
  refine cG func15 Z ?_
  refine sQ (rG (bA HS Z fun b1 wd2 HS => bA HS Z fun b3 wd4 HS => aS Z (nL (rN 2 Z ?_))))
  obtain ⟨t5, h6, H⟩ := bI H
  refine rG (fL b1 0 Dk Z (lB 1 HS Z Ga Z (fL b3 0 Dk Z (lB 0 HS Z Ga Z (fJ sN Z (Ei.calls HS (rD 2 r_a) (rD 2 r_b) h6) (fun _ wd7 ⟨h8, HS⟩ => ⟨_, h8, (GO.not Z Z Z (nL ?_))⟩))))))
  rcases iS H with ⟨c9, H⟩ | ⟨c9, H⟩
  ·
   refine yB Z (congrArg Bool.not (De c9)) (rN 2 Z ?_)
   obtain rfl := sI H
   exact rT _ func15 Z Z ⟨Z, (HS.pk 2 [] Z)⟩
  refine nB Z (congrArg Bool.not c9) (rN 3 Z ?_)
  obtain rfl := sI H
  exact rT _ func15 Z Z ⟨Z, (HS.pk 2 [] Z)⟩
theorem Dz.calls {a_ : List Ab} {k_ : Int} {r1 : Int} {r2 : List Ab} (HS : St w0 w (Own Ad 107 A_a c_a uu a_ :: L)) (H : Dz.f K a_ k_ = some (r1, r2)) :
    Calls prog 82 #[sV A_a a_ c_a, I k_] w (Dz.post w0 L A_a c_a r1 r2) := by
  unfold Dz.f at H
  refine cG func82 Z ?_
  refine rN 7 Z ?_
  refine G.name (fun e1 d1 => ?_)
  have f1 : ∀ c1, c1 ≤ K → ∀ (x10 : List Ab) (b1 a1 : Int) (w : World), Dz.l1 K c1 x10 b1 a1 = some (r1, r2) → St w0 w (Own Ad 107 A_a c_a uu x10 :: L) → G prog 82 27 [(0, sV A_a x10 c_a), (1, I b1), (5, I a1)] e1 w (Dz.post w0 L A_a c_a r1 r2) := by
   refine lp (fun _ _ _ w H _ => by rw [Dz.l1] at H; cases H) fun g1 i1 h1 x10 b1 a1 w H HS => ?_
   rw [Dz.l1] at H
   subst d1
   refine rN 2 Z (rG (pS 2 Z (lS Z Z U77 Z (GO.lss Z Z Z Z (nL ?_)))))
   rcases iS H with ⟨c22, H⟩ | ⟨c22, H⟩
   ·
    refine nB Z (tF c22) (rN 3 Z ?_)
    obtain ⟨rfl, rfl⟩ := G5 H
    exact rT _ func82 Z Z ⟨Z, HS⟩
   refine yB Z (tT c22) (rN 4 Z ?_)
   obtain ⟨c23, H⟩ := iN H
   obtain ⟨e25, h26, H⟩ := Dl H
   refine rG (pS 3 Z (iX Z U77 Gb (rk (ro 0 Z) HS) c23 (GO.fld (ea A_a (a1.toNat * 2)) Z Z C9 Z Z (GO.He (T := Ad) (j := 0) (n := a1.toNat) (o := 0) (vs := [I b1]) ({ e25 with Tet := b1 }) HS Z Au Z Z Z Z (htN na2 Z) Z (Cs (ltN c23) h26) Z Z fun wd24 HS => nL (G.len (t := 0) (m := (x10.set a1.toNat ({ e25 with Tet := b1 })).length) Z (by simp only [List.length_set] <;> rfl) (rN 3 Z ?_))))))
   obtain ⟨c27, H⟩ := iN H
   obtain ⟨e29, h30, H⟩ := Dl H
   refine rG (pS 3 Z (iX Z U77 Gb (rk (ro 0 Z) HS) c27 (GO.fld (ea A_a (a1.toNat * 2 + 1)) Z Z F4 (Um _ _ _) Z (GO.He (T := Ad) (j := 0) (n := a1.toNat) (o := 1) (vs := [I (w64 (b1 + 1))]) ({ e29 with Perm := w64 (b1 + 1) }) HS Z Au Z Z Z Z (htN na2 Z) Z (Cs (ltN c27) h30) Z Z fun wd28 HS => nL (G.len (t := 0) (m := ((x10.set a1.toNat ({ e25 with Tet := b1 })).set a1.toNat ({ e29 with Perm := w64 (b1 + 1) })).length) Z (by simp only [List.length_set] <;> rfl) (rN 4 Z (gW (h1 g1 (lR _) _ _ _ _ H HS) Z)))))))
  exact gW (f1 K (lR _) _ _ _ _ H HS) Z
theorem Er.calls {a_ : List (List Ab)} {k_ : Int} {y_a : Nat → (Ty.slice 107 Ad).Lay} {r1 : Int} {r2 : List (List Ab)} (HS : St w0 w (Own (Ty.slice 107 Ad) 77 A_a c_a y_a a_ :: L)) (H : Er.f K a_ k_ = some (r1, r2)) :
    Calls prog 48 #[sV A_a a_ c_a, I k_] w (Er.post w0 L A_a c_a y_a r1 r2) := by
  unfold Er.f at H
  refine cG func48 Z ?_
  refine rN 7 Z ?_
  refine G.name (fun e1 d1 => ?_)
  have f1 : ∀ c1, c1 ≤ K → ∀ (x9 : List (List Ab)) (b1 a1 : Int) (w : World), Er.l1 K c1 x9 b1 a1 = some (r1, r2) → St w0 w (Own (Ty.slice 107 Ad) 77 A_a c_a y_a x9 :: L) → G prog 48 19 [(0, sV A_a x9 c_a), (1, I b1), (5, I a1)] e1 w (Er.post w0 L A_a c_a y_a r1 r2) := by
   refine lp (fun _ _ _ w H _ => by rw [Er.l1] at H; cases H) fun g1 i1 h1 x9 b1 a1 w H HS => ?_
   rw [Er.l1] at H
   subst d1
   refine rN 2 Z (rG (pS 2 Z (lS Z Z U29 Z (GO.lss Z Z Z Z (nL ?_)))))
   rcases iS H with ⟨c20, H⟩ | ⟨c20, H⟩
   ·
    refine nB Z (tF c20) (rN 3 Z ?_)
    obtain ⟨rfl, rfl⟩ := G5 H
    exact rT _ func48 Z Z ⟨Z, HS⟩
   refine yB Z (tT c20) (rN 3 Z ?_)
   obtain ⟨c21, H⟩ := iN H
   obtain ⟨t22, t23, h24, H⟩ := Dv H
   obtain ⟨c25, H⟩ := iN H
   refine rG (pS 2 Z (iX Z U29 Ie (rk (ro 0 Z) HS) c21 (GO.Ce (T := (Ty.slice 107 Ad)) (n := a1.toNat) (o := 0) HS (ro 0 Z) Z Z (getD_some (d := []) (ltN c21)) Z Z Ii Z (mV Z ?_))))
   replace HS := HS.dM Fld.id (getD_some (d := []) (ltN c21))
   refine fJ qM Z (Dz.calls HS  h24) (fun _ wd26 ⟨h27, HS⟩ => ⟨_, h27, ?_⟩)
   replace HS := St.W9 (y := t23) Fld.id (getD_some (d := []) (ltN c21)) (congrArg (fun m => ([.slice ((y_a a1.toNat).A) m ((y_a a1.toNat).c)] : List Value)) c25) HS
   refine aS Z (nL (G.len (t := 0) (m := (x9.set a1.toNat t23).length) Z (by simp only [List.length_set, List.length_set] <;> rfl) (rN 3 Z (gW (h1 g1 (lR _) _ _ _ _ H HS) Z))))
  exact gW (f1 K (lR _) _ _ _ _ H HS) Z
theorem Et.calls {a1 : List (List Ab)} {k_ : Int} {y_a : Nat → (Ty.slice 107 Ad).Lay} {r1 : Int} {r2 : List (List Ab)} (HS : St w0 w (Own (Ty.slice 107 Ad) 77 A_a c_a y_a a1 :: L)) (H : Et.f K a1 k_ = some (r1, r2)) :
    Calls prog 19 #[.agg [sV A_a a1 c_a].toArray, I k_] w (Et.post w0 L A_a c_a y_a r1 r2) := by
  unfold Et.f at H
  refine cG func19 Z ?_
  refine sQ (rG (bA HS Z fun b1 wd2 HS => aS Z (nL (sQ ?_))))
  obtain ⟨t3, t4, h5, H⟩ := Dv H
  obtain ⟨c6, H⟩ := iN H
  refine rG (fL b1 0 Dk Z (lB 0 HS Z Ga Z (mV Z ?_)))
  replace HS := HS.pk 2 [1, 0] Z
  refine fJ qB Z (Er.calls HS  h5) (fun _ wd7 ⟨h8, HS⟩ => ⟨_, h8, (aS Z (nL ?_))⟩)
  replace HS := HS.J4 (j := 1) (cs' := [sV A_a t4 c_a]) Z (by simp only [sV, List.length_set, c6] <;> rfl)
  refine rN 2 Z ?_
  obtain ⟨rfl, rfl⟩ := G5 H
  exact rT _ func19 Z Z ⟨Z, (HS.pk 2 [0] Z)⟩
theorem D5.calls {a_ : List Ab} {k_ : Int} {r1 : Int} (HS : St w0 w (L)) (r_a : Ca w0 L Ad A_a c_a uu a_) (H : D5.f K a_ k_ = some r1) :
    Calls prog 97 #[sV A_a a_ c_a, I k_] w (D5.post w0 L r1) := by
  unfold D5.f at H
  refine cG func97 Z ?_
  refine rN 7 Z ?_
  refine G.name (fun c1 b1 => ?_)
  have d1 : ∀ a1, a1 ≤ K → ∀ (k_7 i_8 : Int) (w : World), D5.l1 K a1 a_ k_7 i_8 = some r1 → St w0 w (L) → G prog 97 31 [(0, sV A_a a_ c_a), (1, I k_7), (5, I i_8)] c1 w (D5.post w0 L r1) := by
   refine lp (fun _ _ w H _ => by rw [D5.l1] at H; cases H) fun e1 g1 f1 k_7 i_8 w H HS => ?_
   rw [D5.l1] at H
   subst b1
   refine rN 2 Z (rG (pS 2 Z (lS Z Z U77 Z (GO.lss Z Z Z Z (nL ?_)))))
   rcases iS H with ⟨c15, H⟩ | ⟨c15, H⟩
   ·
    refine nB Z (tF c15) (rN 3 Z ?_)
    obtain rfl := sI H
    exact rT _ func97 Z Z ⟨Z, HS⟩
   refine yB Z (tT c15) (rN 5 Z ?_)
   obtain ⟨c16, H⟩ := iN H
   obtain ⟨e17, h18, H⟩ := Dl H
   refine rG (pS 2 Z (iX Z U77 Gb (rk r_a HS) c16 (GO.fld (ea A_a (i_8.toNat * 2)) Z Z C9 Z Z (GO.Ce (T := Ad) (n := i_8.toNat) (o := 0) HS r_a Z Z (Cs (ltN c16) h18) Z Z na2 Z (pS 2 Z (nL ?_))))))
   rcases iS H with ⟨c19, H⟩ | ⟨c19, H⟩
   ·
    refine yB Z (nF c19) (rN 2 Z ?_)
    obtain rfl := sI H
    exact rT _ func97 Z Z ⟨Z, HS⟩
   refine nB Z (nT c19) (rN 5 Z (rG (pS 2 Z (iX Z U77 Gb (rk r_a HS) c16 (GO.fld (ea A_a (i_8.toNat * 2 + 1)) Z Z F4 (Um _ _ _) Z (GO.Ce (T := Ad) (n := i_8.toNat) (o := 1) HS r_a Z Z (Cs (ltN c16) h18) Z Z na2 Z (pS 2 Z (nL ?_))))))))
   rcases iS H with ⟨c20, H⟩ | ⟨c20, H⟩
   ·
    refine yB Z (nF c20) (rN 2 Z ?_)
    obtain rfl := sI H
    exact rT _ func97 Z Z ⟨Z, HS⟩
   refine nB Z (nT c20) (rN 5 Z (gW (f1 e1 (lR _) _ _ _ H HS) Z))
  exact gW (d1 K (lR _) _ _ _ H HS) Z
theorem Eh.calls {a_ : List (List Ab)} {k_ : Int} {y_a : Nat → (Ty.slice 107 Ad).Lay} {r1 : Int} (HS : St w0 w (L)) (r_a : Ca w0 L (Ty.slice 107 Ad) A_a c_a y_a a_) (H : Eh.f K a_ k_ = some r1) :
    Calls prog 52 #[sV A_a a_ c_a, I k_] w (Eh.post w0 L r1) := by
  unfold Eh.f at H
  refine cG func52 Z ?_
  refine rN 7 Z ?_
  refine G.name (fun c1 b1 => ?_)
  have d1 : ∀ a1, a1 ≤ K → ∀ (k_8 i_9 : Int) (w : World), Eh.l1 K a1 a_ k_8 i_9 = some r1 → St w0 w (L) → G prog 52 21 [(0, sV A_a a_ c_a), (1, I k_8), (5, I i_9)] c1 w (Eh.post w0 L r1) := by
   refine lp (fun _ _ w H _ => by rw [Eh.l1] at H; cases H) fun e1 g1 f1 k_8 i_9 w H HS => ?_
   rw [Eh.l1] at H
   subst b1
   refine rN 2 Z (rG (pS 2 Z (lS Z Z U29 Z (GO.lss Z Z Z Z (nL ?_)))))
   rcases iS H with ⟨c17, H⟩ | ⟨c17, H⟩
   ·
    refine nB Z (tF c17) (rN 3 Z ?_)
    obtain rfl := sI H
    exact rT _ func52 Z Z ⟨Z, HS⟩
   refine yB Z (tT c17) (rN 4 Z ?_)
   obtain ⟨c18, H⟩ := iN H
   obtain ⟨t19, h20, H⟩ := bI H
   refine rG (pS 2 Z (iX Z U29 Ie (rk r_a HS) c18 (GO.Ce (T := (Ty.slice 107 Ad)) (n := i_9.toNat) (o := 0) HS r_a Z Z (getD_some (d := []) (ltN c18)) Z Z Ii Z (mV Z (fJ tN Z (D5.calls HS (Ca.elem r_a c18.1 c18.2) h20) (fun _ wd21 ⟨h22, HS⟩ => ⟨_, h22, (aS Z (nL (rN 2 Z ?_)))⟩))))))
   rcases iE H with ⟨c23, H⟩ | ⟨c23, H⟩
   ·
    refine yB Z (tT c23) (rN 2 Z ?_)
    obtain rfl := sI H
    exact rT _ func52 Z Z ⟨Z, HS⟩
   refine nB Z (tF c23) (rN 4 Z (gW (f1 e1 (lR _) _ _ _ H HS) Z))
  exact gW (d1 K (lR _) _ _ _ H HS) Z
theorem Ev.calls {a1 : List (List Ab)} {k_ : Int} {y_a : Nat → (Ty.slice 107 Ad).Lay} {r1 : Int} (HS : St w0 w (L)) (r_a : Ca w0 L (Ty.slice 107 Ad) A_a c_a y_a a1) (H : Ev.f K a1 k_ = some r1) :
    Calls prog 27 #[.agg [sV A_a a1 c_a].toArray, I k_] w (Ev.post w0 L r1) := by
  unfold Ev.f at H
  refine cG func27 Z ?_
  refine sQ (rG (bA HS Z fun b1 wd2 HS => aS Z (nL (sQ ?_))))
  obtain ⟨t3, h4, H⟩ := bI H
  refine rG (fL b1 0 Dk Z (lB 0 HS Z Ga Z (mV Z (fJ tH Z (Eh.calls HS (rD 1 r_a) h4) (fun _ wd5 ⟨h6, HS⟩ => ⟨_, h6, (aS Z (nL (rN 3 Z ?_)))⟩)))))
  rcases iE H with ⟨c7, H⟩ | ⟨c7, H⟩
  ·
   refine yB Z (tT c7) (rN 2 Z ?_)
   obtain rfl := sI H
   exact rT _ func27 Z Z ⟨Z, (HS.pk 1 [] Z)⟩
  refine nB Z (tF c7) (rN 3 Z ?_)
  obtain rfl := sI H
  exact rT _ func27 Z Z ⟨Z, (HS.pk 1 [] Z)⟩
theorem F5.calls {a1 : List (List Ab)} {g1 f1 h1 : Int} {y_a : Nat → (Ty.slice 142 Ad).Lay} {r1 : Bool} (HS : St w0 w (L)) (r_a : Ca w0 L (Ty.slice 142 Ad) A_a c_a y_a a1) (H : F5.f K a1 g1 f1 h1 = some r1) :
    Calls prog 6 #[.agg [sV A_a a1 c_a].toArray, .agg [I g1, I f1, I h1].toArray] w (F5.post w0 L r1) := by
  unfold F5.f at H
  refine cG func6 Z ?_
  refine sQ (rG (bA HS Z fun b1 wd2 HS => bA HS Z fun b3 wd4 HS => aS Z (nL (rN 3 Z ?_))))
  obtain ⟨t5, h6, H⟩ := bI H
  refine rG (lW 1 HS Z eY (mV Z (fJ qE Z (Fw.calls HS (rD 2 r_a) h6) (fun _ wd7 ⟨h8, HS⟩ => ⟨_, h8, (aS Z (nL (rN 3 Z ?_)))⟩))))
  rcases iE H with ⟨c9, H⟩ | ⟨c9, H⟩
  ·
   refine yB Z (tT c9) (rN 2 Z ?_)
   obtain rfl := sI H
   exact rT _ func6 Z Z ⟨Z, (HS.pk 2 [] Z)⟩
  refine nB Z (tF c9) (rN 2 Z ?_)
  obtain ⟨t10, h11, H⟩ := bI H
  obtain ⟨t17, t18, t19, h20, H⟩ := I6 H
  obtain ⟨t23, t24, h25, H⟩ := Dv H
  refine G.I8 mixed (by decide) (fun b a w => ∃ (A12 : Option Addr) (c13 : Nat) (y14 : Nat → (Ty.slice 107 Ad).Lay) (A26 : Option Addr) (c27 : Nat) (y28 : Nat → (Ty.slice 107 Ad).Lay) (b31 : Nat) (a2 : Ck) (z1 : Ck) (t1 : Ck), RS 104 [(2, pT b1), (3, pT b3)] [rv 22 (.agg [sV A_a a1 c_a].toArray), rv 23 (.agg [sV A12 t10 c13].toArray), rv 24 (.agg [I g1, I f1, I h1].toArray), rv 25 (.agg [I t17, I t18, I t19].toArray), rv 26 (.tuple #[.agg [sV A26 t23 c27].toArray, I t24]), rv 21 (.tuple #[.agg [sV A26 t23 c27].toArray, I t24]), rv 27 (.agg [sV A26 t23 c27].toArray), rv 28 (I t24), rv 6 (pT b31), none, rv 7 (I t24)] b a ∧ St w0 w (Box b3 26 [I g1, I f1, I h1] :: Box b1 24 [sV A_a a1 c_a] :: a2 :: z1 :: t1 :: L) ∧ (b 1 = true → a2 = Own (Ty.slice 107 Ad) 77 A12 c13 y14 t10) ∧ (b 4 = true → z1 = Own (Ty.slice 107 Ad) 77 A26 c27 y28 t23) ∧ (b 8 = true → b 9 = false → t1 = Box b31 31 [.slice none 0 0]) ∧ (b 9 = true → t1 = Box b31 31 [sV A26 t23 c27])) ?_ ?_ ?_
  · exact fun a hs => ⟨none, 0, (fun _ => ⟨none, 0, uu⟩), none, 0, (fun _ => ⟨none, 0, uu⟩), 0, Emp, Emp, Emp, hs.init Z, (HS.drew.emp.emp.emp.pk 5 [3, 4, 2, 1, 0] Z), fun h => Bool.noConfusion h, fun h => Bool.noConfusion h, fun h => Bool.noConfusion h, fun h => Bool.noConfusion h⟩
  ·
   intro j b a w hj
   refine exI fun A12 => exI fun c13 => exI fun y14 => exI fun A26 => exI fun c27 => exI fun y28 => exI fun b31 => exI fun a2 => exI fun z1 => exI fun t1 => anI fun hs => fun hM q => ?_
   have HS := hM.1
   match j, hj with
   | 0, _ =>
    refine hs.at q [] [] (lW 1 HS Z eY (hs.fin q Z fun _ hs => ⟨_, _, _, _, _, _, _, _, _, _, hs, hM⟩))
   | 1, _ =>
    refine (anI fun HS => anI fun c1 => anI fun i1 => anI fun k1 => fun n1 => ?_) hM
    refine hs.at q [0] [] (fJ Zn Z (Dr.calls HS (rD 5 r_a) h11) (fun _ wd15 ⟨A12, c13, y14, h16, HS⟩ => ⟨_, h16, (hs.Kh q [1] (fun _ hs => ⟨A12, c13, y14, A26, c27, y28, b31, Own (Ty.slice 107 Ad) 77 A12 c13 y14 t10, _, _, hs, HS.pk 6 [1, 2, 0, 4, 5] Z, fun _ => Z, i1, k1, n1⟩) Z Z)⟩))
   | 2, _ =>
    refine hs.at q [] [] (lW 0 HS Z mK (hs.fin q Z fun _ hs => ⟨_, _, _, _, _, _, _, _, _, _, hs, hM⟩))
   | 3, _ =>
    refine hs.at q [2] [] (fJ dS Z (G6.calls HS  h20) (fun _ wd21 ⟨h22, HS⟩ => ⟨_, h22, (hs.fin q Z fun _ hs => ⟨_, _, _, _, _, _, _, _, _, _, hs, HS, hM.2⟩)⟩))
   | 4, _ =>
    refine (anI fun HS => anI fun c1 => anI fun i1 => anI fun k1 => fun n1 => ?_) hM
    have hb1 := q.on 1
    obtain rfl := c1 hb1
    refine hs.at q [1, 3] [] (fJ qH Z (Ho.calls HS (ro 2 Z) h25) (fun _ wd29 ⟨A26, c27, y28, h30, HS⟩ => ⟨_, h30, (hs.Kh q [4, 5, 6] (fun _ hs => ⟨A12, c13, y14, A26, c27, y28, b31, _, Own (Ty.slice 107 Ad) 77 A26 c27 y28 t23, _, hs, HS.pk 6 [1, 2, 3, 0, 5] Z, c1, fun _ => Z, k1, fun hh => (q.no 9 hh).elim⟩) Z Z)⟩))
   | 5, _ =>
    refine hs.at q [4] [] (mV Z (hs.fin q Z fun _ hs => ⟨_, _, _, _, _, _, _, _, _, _, hs, hM⟩))
   | 6, _ =>
    refine hs.at q [5] [] (GO.extract Z Z Z Z (hs.fin q Z fun _ hs => ⟨_, _, _, _, _, _, _, _, _, _, hs, hM⟩))
   | 7, _ =>
    refine hs.at q [5] [] (GO.extract Z Z Z Z (hs.fin q Z fun _ hs => ⟨_, _, _, _, _, _, _, _, _, _, hs, hM⟩))
   | 8, _ =>
    refine (anI fun HS => anI fun c1 => anI fun i1 => anI fun k1 => fun n1 => ?_) hM
    refine hs.at q [] [] (GO.alloc HS Z Nv Z Z fun b31 wd32 HS => hs.Kh q [8] (fun _ hs => ⟨A12, c13, y14, A26, c27, y28, b31, _, _, Box b31 31 [.slice none 0 0], hs, HS.pk 6 [1, 2, 3, 4, 0] Z, c1, i1, fun _ _ => Z, fun hh => (q.no 9 hh).elim⟩) Z Z)
   | 9, _ =>
    refine (anI fun HS => anI fun c1 => anI fun i1 => anI fun k1 => fun n1 => ?_) hM
    have hb8 := q.on 8
    obtain rfl := k1 hb8 q.hb
    refine hs.at q [8, 6] [] (sW 4 HS Z Ep Z fun wd33 HS => hs.Qm q Z fun _ hs => ⟨A12, c13, y14, A26, c27, y28, b31, _, _, Box b31 31 [sV A26 t23 c27], hs, HS, c1, i1, fun _ h => Bool.noConfusion h, fun _ => Z⟩)
   | 10, _ =>
    refine hs.at q [7] [] (aS Z (hs.fin q Z fun _ hs => ⟨_, _, _, _, _, _, _, _, _, _, hs, hM⟩))
   | k + 11, hj => exact absurd hj (Nat.not_lt.2 (Nat.le_add_left 11 k))
  ·
   intro b a w hall
   refine exI fun A12 => exI fun c13 => exI fun y14 => exI fun A26 => exI fun c27 => exI fun y28 => exI fun b31 => exI fun a2 => exI fun z1 => exI fun t1 => anI fun hs => anI fun HS => anI fun c1 => anI fun i1 => anI fun k1 => fun n1 => ?_
   obtain rfl := c1 (hall 1 (by decide))
   obtain rfl := i1 (hall 4 (by decide))
   obtain rfl := n1 (hall 9 (by decide))
   refine G.at (hs.all hall) (sQ ?_)
   obtain ⟨t34, h35, H⟩ := bI H
   refine rG (lW 1 HS Z eY (fJ Zn Z (Dr.calls HS (rD 5 r_a) h35) (fun _ wd39 ⟨A36, c37, y38, h40, HS⟩ => ⟨_, h40, (GO.alloc HS Z Nv Z Z fun b41 wd42 HS => sW 0 HS Z Ep Z fun wd43 HS => nL (sQ ?_))⟩)))
   obtain ⟨t44, t45, t46, h47, H⟩ := I6 H
   obtain ⟨t50, t51, h52, H⟩ := Dv H
   refine G.I8 mixed (by decide) (fun b a w => ∃ (A53 : Option Addr) (c54 : Nat) (y55 : Nat → (Ty.slice 107 Ad).Lay) (b58 : Nat) (x1 : Ck) (u1 : Ck), RS 104 [(2, pT b1), (3, pT b3), (6, pT b31), (7, I t24), (8, pT b41)] [rv 32 (.agg [sV A36 t34 c37].toArray), rv 33 (.agg [I g1, I f1, I h1].toArray), rv 34 (.agg [I t44, I t45, I t46].toArray), rv 35 (.tuple #[.agg [sV A53 t50 c54].toArray, I t51]), rv 31 (.tuple #[.agg [sV A53 t50 c54].toArray, I t51]), rv 36 (.agg [sV A53 t50 c54].toArray), rv 37 (I t51), rv 9 (pT b58), none, rv 10 (I t51)] b a ∧ St w0 w (Box b41 31 [sV A36 t34 c37] :: Own (Ty.slice 107 Ad) 77 A36 c37 y38 t34 :: Box b3 26 [I g1, I f1, I h1] :: Box b1 24 [sV A_a a1 c_a] :: Own (Ty.slice 107 Ad) 77 A12 c13 y14 t10 :: Own (Ty.slice 107 Ad) 77 A26 c27 y28 t23 :: Box b31 31 [sV A26 t23 c27] :: x1 :: u1 :: L) ∧ (b 3 = true → x1 = Own (Ty.slice 107 Ad) 77 A53 c54 y55 t50) ∧ (b 7 = true → b 8 = false → u1 = Box b58 31 [.slice none 0 0]) ∧ (b 8 = true → u1 = Box b58 31 [sV A53 t50 c54])) ?_ ?_ ?_
   · exact fun a hs => ⟨none, 0, (fun _ => ⟨none, 0, uu⟩), 0, Emp, Emp, hs.init Z, (HS.drew.emp.emp.pk 9 [2, 3, 4, 5, 6, 7, 8, 1, 0] Z), fun h => Bool.noConfusion h, fun h => Bool.noConfusion h, fun h => Bool.noConfusion h⟩
   ·
    intro j b a w hj
    refine exI fun A53 => exI fun c54 => exI fun y55 => exI fun b58 => exI fun x1 => exI fun u1 => anI fun hs => fun hM q => ?_
    have HS := hM.1
    match j, hj with
    | 0, _ =>
     refine hs.at q [] [] (lW 0 HS Z Ep (hs.fin q Z fun _ hs => ⟨_, _, _, _, _, _, hs, hM⟩))
    | 1, _ =>
     refine hs.at q [] [] (lW 2 HS Z mK (hs.fin q Z fun _ hs => ⟨_, _, _, _, _, _, hs, hM⟩))
    | 2, _ =>
     refine hs.at q [1] [] (fJ dS Z (G6.calls HS  h47) (fun _ wd48 ⟨h49, HS⟩ => ⟨_, h49, (hs.fin q Z fun _ hs => ⟨_, _, _, _, _, _, hs, HS, hM.2⟩)⟩))
    | 3, _ =>
     refine (anI fun HS => anI fun o1 => anI fun s1 => fun y1 => ?_) hM
     refine hs.at q [0, 2] [] (fJ lI Z (Gm.calls HS (ro 1 Z) h52) (fun _ wd56 ⟨A53, c54, y55, h57, HS⟩ => ⟨_, h57, (hs.Kh q [3, 4, 5] (fun _ hs => ⟨A53, c54, y55, b58, Own (Ty.slice 107 Ad) 77 A53 c54 y55 t50, _, hs, HS.pk 10 [1, 2, 3, 4, 5, 6, 7, 0, 9] Z, fun _ => Z, s1, fun hh => (q.no 8 hh).elim⟩) Z Z)⟩))
    | 4, _ =>
     refine hs.at q [3] [] (mV Z (hs.fin q Z fun _ hs => ⟨_, _, _, _, _, _, hs, hM⟩))
    | 5, _ =>
     refine hs.at q [4] [] (GO.extract Z Z Z Z (hs.fin q Z fun _ hs => ⟨_, _, _, _, _, _, hs, hM⟩))
    | 6, _ =>
     refine hs.at q [4] [] (GO.extract Z Z Z Z (hs.fin q Z fun _ hs => ⟨_, _, _, _, _, _, hs, hM⟩))
    | 7, _ =>
     refine (anI fun HS => anI fun o1 => anI fun s1 => fun y1 => ?_) hM
     refine hs.at q [] [] (GO.alloc HS Z Nv Z Z fun b58 wd59 HS => hs.Kh q [7] (fun _ hs => ⟨A53, c54, y55, b58, _, Box b58 31 [.slice none 0 0], hs, HS.pk 10 [1, 2, 3, 4, 5, 6, 7, 8, 0] Z, o1, fun _ _ => Z, fun hh => (q.no 8 hh).elim⟩) Z Z)
    | 8, _ =>
     refine (anI fun HS => anI fun o1 => anI fun s1 => fun y1 => ?_) hM
     have hb7 := q.on 7
     obtain rfl := s1 hb7 q.hb
     refine hs.at q [7, 5] [] (sW 8 HS Z Ep Z fun wd60 HS => hs.Qm q Z fun _ hs => ⟨A53, c54, y55, b58, _, Box b58 31 [sV A53 t50 c54], hs, HS, o1, fun _ h => Bool.noConfusion h, fun _ => Z⟩)
    | 9, _ =>
     refine hs.at q [6] [] (aS Z (hs.fin q Z fun _ hs => ⟨_, _, _, _, _, _, hs, hM⟩))
    | k + 10, hj => exact absurd hj (Nat.not_lt.2 (Nat.le_add_left 10 k))
   ·
    intro b a w hall
    refine exI fun A53 => exI fun c54 => exI fun y55 => exI fun b58 => exI fun x1 => exI fun u1 => anI fun hs => anI fun HS => anI fun o1 => anI fun s1 => fun y1 => ?_
    obtain rfl := o1 (hall 3 (by decide))
    obtain rfl := y1 (hall 8 (by decide))
    refine G.at (hs.all hall) (rN 2 Z ?_)
    obtain ⟨t66, h67, H⟩ := bI H
    rcases iS H with ⟨c70, H⟩ | ⟨c70, H⟩
    ·
     refine rG (lW 8 HS Z Ep (lW 6 HS Z Ep (fJ Q0 Z (Cz.calls HS (ro 7 Z) (ro 5 Z) h67) (fun _ wd68 ⟨h69, HS⟩ => ⟨_, h69, (pS 2 Z (kN 42 Z (congrArg Bool.not (De c70)) (oF Z (oF Z (oF Z (GO.Ib Z Z Z Z Z (nL (rN 3 Z ?_))))))))⟩))))
     obtain rfl := sI H
     exact rT _ func6 Z Z ⟨Z, (HS.pk 9 [] Z)⟩
    refine rG (lW 8 HS Z Ep (lW 6 HS Z Ep (fJ Q0 Z (Cz.calls HS (ro 7 Z) (ro 5 Z) h67) (fun _ wd68 ⟨h69, HS⟩ => ⟨_, h69, (pS 2 Z (kN 42 Z (congrArg Bool.not c70) (oN Z (mV Z (bK (oN Z (mV Z (bK (oN Z (GO.neq Z Z Z Z (bK ?_)))))))))))⟩))))
    refine GO.Ir Z Z Z Z Z (nL ?_)
    rcases iS H with ⟨c71, H⟩ | ⟨c71, H⟩
    ·
     refine yB Z (nF c71) (rN 2 Z ?_)
     obtain rfl := sI H
     exact rT _ func6 Z Z ⟨Z, (HS.pk 9 [] Z)⟩
    refine nB Z (nT c71) (rN 3 Z ?_)
    obtain ⟨t72, h73, H⟩ := bI H
    obtain ⟨t79, h80, H⟩ := bI H
    refine G.Gy mixed (fun w => St w0 w (Box b41 31 [sV A36 t34 c37] :: Box b1 24 [sV A_a a1 c_a] :: L)) [0, 1] [0, 1, 2, 3, 4] [] (by kernel_rfl) (by kernel_rfl) (HS.drew.pk 9 [0, 3] Z) ?_
    replace HS := HS.drew
    refine GX.ls Z Z Z (HS.pk 9 [0, 3] Z) (fun _ HS _ g => lW 0 HS Z Ep g) Z (GX.ls Z Z Z (HS.pk 9 [0, 3] Z) (fun _ HS _ g => lW 1 HS Z eY g) Z (GX.l2 Z (fJ Zn Z (Dr.calls HS (rD 9 r_a) h73) (fun _ wd77 ⟨A74, c75, y76, h78, HS⟩ => ⟨_, h78, (GX.fin (HS.pk 10 [1, 4] Z) (GX.l2 Z (fJ Q0 Z (Cz.calls HS (ro 2 Z) (ro 0 Z) h80) (fun _ wd81 ⟨h82, HS⟩ => ⟨_, h82, (GX.fin (HS.pk 10 [1, 4] Z) (GX.ps 1 Z (GX.nil ?_)))⟩))))⟩))))
    rcases iS H with ⟨c83, H⟩ | ⟨c83, H⟩
    ·
     refine yB Z (congrArg Bool.not (De c83)) (rN 2 Z ?_)
     obtain rfl := sI H
     exact rT _ func6 Z Z ⟨Z, (HS.pk 10 [] Z)⟩
    refine nB Z (congrArg Bool.not c83) (rN 4 Z ?_)
    obtain ⟨t84, t85, h86, H⟩ := Dv H
    obtain ⟨c87, H⟩ := iN H
    refine rG (lW 1 HS Z Ep (mV Z ?_))
    replace HS := HS.pk 10 [2, 0, 1, 3, 4, 5, 6, 7, 8, 9] Z
    refine fJ lH Z (Et.calls HS  h86) (fun _ wd88 ⟨h89, HS⟩ => ⟨_, h89, (aS Z (nL ?_))⟩)
    replace HS := HS.J4 (j := 2) (cs' := [sV A36 t85 c37]) Z (by simp only [sV, List.length_set, c87] <;> rfl)
    refine rN 2 Z ?_
    rcases iE H with ⟨c96, H⟩ | ⟨c96, H⟩
    ·
     refine rG (pS 3 Z (kN 57 Z (tT c96) (oF Z (oF Z (oF Z (oF Z (pS 2 Z (oF Z (oF Z (oF Z (GO.Ib Z Z Z Z Z (nL (rN 3 Z ?_)))))))))))))
     obtain rfl := sI H
     exact rT _ func6 Z Z ⟨Z, (HS.pk 10 [] Z)⟩
    obtain ⟨t97, h98, H⟩ := bI H
    rcases iS H with ⟨c101, H⟩ | ⟨c101, H⟩
    ·
     refine rG (pS 3 Z (kN 57 Z (tF c96) (oN Z (lW 9 HS Z Ep (bK (oN Z (lW 7 HS Z Ep (bK (oN Z (fJ Q0 Z (Cz.calls HS (ro 8 Z) (ro 6 Z) h98) (fun _ wd99 ⟨h100, HS⟩ => ⟨_, h100, (bK (oN Z (GO.not Z Z Z (bK ?_))))⟩)))))))))))
     refine pS 2 Z (kN 63 Z (congrArg Bool.not (De c101)) (oF Z (oF Z (oF Z (GO.Ib Z Z Z Z Z (nL (rN 3 Z ?_)))))))
     obtain rfl := sI H
     exact rT _ func6 Z Z ⟨Z, (HS.pk 10 [] Z)⟩
    refine rG (pS 3 Z (kN 57 Z (tF c96) (oN Z (lW 9 HS Z Ep (bK (oN Z (lW 7 HS Z Ep (bK (oN Z (fJ Q0 Z (Cz.calls HS (ro 8 Z) (ro 6 Z) h98) (fun _ wd99 ⟨h100, HS⟩ => ⟨_, h100, (bK (oN Z (GO.not Z Z Z (bK ?_))))⟩)))))))))))
    refine pS 2 Z (kN 63 Z (congrArg Bool.not c101) (oN Z (mV Z (bK (oN Z (mV Z (bK (oN Z (GO.neq Z Z Z Z (bK (GO.Ir Z Z Z Z Z (nL (nB Z (nT c71) (rN 4 Z ?_))))))))))))))
    obtain ⟨t102, t103, h104, H⟩ := Dv H
    obtain ⟨c105, H⟩ := iN H
    refine rG (lW 9 HS Z Ep (mV Z ?_))
    replace HS := HS.pk 10 [8, 0, 1, 2, 3, 4, 5, 6, 7, 9] Z
    refine fJ lH Z (Et.calls HS  h104) (fun _ wd106 ⟨h107, HS⟩ => ⟨_, h107, (aS Z (nL ?_))⟩)
    replace HS := HS.J4 (j := 9) (cs' := [sV A53 t103 c54]) Z (by simp only [sV, List.length_set, c105] <;> rfl)
    refine rN 3 Z ?_
    obtain ⟨t108, h109, H⟩ := bI H
    refine rG (lW 9 HS Z Ep (mV Z (fJ lM Z (Ev.calls HS (ro 0 Z) h109) (fun _ wd110 ⟨h111, HS⟩ => ⟨_, h111, (aS Z (nL (rN 3 Z ?_)))⟩))))
    rcases iE H with ⟨c112, H⟩ | ⟨c112, H⟩
    ·
     refine yB Z (tT c112) (rN 2 Z ?_)
     obtain rfl := sI H
     exact rT _ func6 Z Z ⟨Z, (HS.pk 10 [] Z)⟩
    refine nB Z (tF c112) (rN 4 Z ?_)
    rcases iS H with ⟨c113, H⟩ | ⟨c113, H⟩
    ·
     refine yB Z (nF c113) (rN 2 Z ?_)
     obtain rfl := sI H
     exact rT _ func6 Z Z ⟨Z, (HS.pk 10 [] Z)⟩
    refine nB Z (nT c113) (rN 2 Z ?_)
    obtain ⟨t114, h115, H⟩ := bI H
    obtain ⟨t121, t122, t123, h124, H⟩ := I6 H
    obtain ⟨t127, t128, h129, H⟩ := Dv H
    refine G.I8 mixed (by decide) (fun b a w => ∃ (A116 : Option Addr) (c117 : Nat) (y118 : Nat → (Ty.slice 107 Ad).Lay) (A130 : Option Addr) (c131 : Nat) (y132 : Nat → (Ty.slice 107 Ad).Lay) (b135 : Nat) (v1 : Ck) (b2 : Ck) (q1 : Ck), RS 104 [(2, pT b1), (3, pT b3), (6, pT b31), (7, I t24), (9, pT b58), (12, I t102)] [rv 80 (.agg [sV A_a a1 c_a].toArray), rv 81 (.agg [sV A116 t114 c117].toArray), rv 82 (.agg [I g1, I f1, I h1].toArray), rv 83 (.agg [I t121, I t122, I t123].toArray), rv 84 (.tuple #[.agg [sV A130 t127 c131].toArray, I t128]), rv 79 (.tuple #[.agg [sV A130 t127 c131].toArray, I t128]), rv 85 (.agg [sV A130 t127 c131].toArray), rv 86 (I t128), rv 14 (pT b135), none, rv 15 (I t128)] b a ∧ St w0 w (Own (Ty.slice 107 Ad) 77 A53 c54 y55 t103 :: Own (Ty.slice 107 Ad) 77 A36 c37 y38 t85 :: Own (Ty.slice 107 Ad) 77 A74 c75 y76 t72 :: Box b41 31 [sV A36 t85 c37] :: Box b3 26 [I g1, I f1, I h1] :: Box b1 24 [sV A_a a1 c_a] :: Own (Ty.slice 107 Ad) 77 A12 c13 y14 t10 :: Own (Ty.slice 107 Ad) 77 A26 c27 y28 t23 :: Box b31 31 [sV A26 t23 c27] :: Box b58 31 [sV A53 t103 c54] :: v1 :: b2 :: q1 :: L) ∧ (b 1 = true → v1 = Own (Ty.slice 107 Ad) 77 A116 c117 y118 t114) ∧ (b 4 = true → b2 = Own (Ty.slice 107 Ad) 77 A130 c131 y132 t127) ∧ (b 8 = true → b 9 = false → q1 = Box b135 31 [.slice none 0 0]) ∧ (b 9 = true → q1 = Box b135 31 [sV A130 t127 c131])) ?_ ?_ ?_
    · exact fun a hs => ⟨none, 0, (fun _ => ⟨none, 0, uu⟩), none, 0, (fun _ => ⟨none, 0, uu⟩), 0, Emp, Emp, Emp, hs.init Z, (HS.drew.emp.emp.emp.pk 13 [3, 4, 5, 6, 7, 8, 9, 10, 11, 12, 2, 1, 0] Z), fun h => Bool.noConfusion h, fun h => Bool.noConfusion h, fun h => Bool.noConfusion h, fun h => Bool.noConfusion h⟩
    ·
     intro j b a w hj
     refine exI fun A116 => exI fun c117 => exI fun y118 => exI fun A130 => exI fun c131 => exI fun y132 => exI fun b135 => exI fun v1 => exI fun b2 => exI fun q1 => anI fun hs => fun hM q => ?_
     have HS := hM.1
     match j, hj with
     | 0, _ =>
      refine hs.at q [] [] (lW 5 HS Z eY (hs.fin q Z fun _ hs => ⟨_, _, _, _, _, _, _, _, _, _, hs, hM⟩))
     | 1, _ =>
      refine (anI fun HS => anI fun d1 => anI fun e1 => anI fun m1 => fun p1 => ?_) hM
      refine hs.at q [0] [] (fJ Zn Z (Dr.calls HS (rD 13 r_a) h115) (fun _ wd119 ⟨A116, c117, y118, h120, HS⟩ => ⟨_, h120, (hs.Kh q [1] (fun _ hs => ⟨A116, c117, y118, A130, c131, y132, b135, Own (Ty.slice 107 Ad) 77 A116 c117 y118 t114, _, _, hs, HS.pk 14 [1, 2, 3, 4, 5, 6, 7, 8, 9, 10, 0, 12, 13] Z, fun _ => Z, e1, m1, p1⟩) Z Z)⟩))
     | 2, _ =>
      refine hs.at q [] [] (lW 4 HS Z mK (hs.fin q Z fun _ hs => ⟨_, _, _, _, _, _, _, _, _, _, hs, hM⟩))
     | 3, _ =>
      refine hs.at q [2] [] (fJ dS Z (G6.calls HS  h124) (fun _ wd125 ⟨h126, HS⟩ => ⟨_, h126, (hs.fin q Z fun _ hs => ⟨_, _, _, _, _, _, _, _, _, _, hs, HS, hM.2⟩)⟩))
     | 4, _ =>
      refine (anI fun HS => anI fun d1 => anI fun e1 => anI fun m1 => fun p1 => ?_) hM
      have hb1 := q.on 1
      obtain rfl := d1 hb1
      refine hs.at q [1, 3] [] (fJ lI Z (Gm.calls HS (ro 10 Z) h129) (fun _ wd133 ⟨A130, c131, y132, h134, HS⟩ => ⟨_, h134, (hs.Kh q [4, 5, 6] (fun _ hs => ⟨A116, c117, y118, A130, c131, y132, b135, _, Own (Ty.slice 107 Ad) 77 A130 c131 y132 t127, _, hs, HS.pk 14 [1, 2, 3, 4, 5, 6, 7, 8, 9, 10, 11, 0, 13] Z, d1, fun _ => Z, m1, fun hh => (q.no 9 hh).elim⟩) Z Z)⟩))
     | 5, _ =>
      refine hs.at q [4] [] (mV Z (hs.fin q Z fun _ hs => ⟨_, _, _, _, _, _, _, _, _, _, hs, hM⟩))
     | 6, _ =>
      refine hs.at q [5] [] (GO.extract Z Z Z Z (hs.fin q Z fun _ hs => ⟨_, _, _, _, _, _, _, _, _, _, hs, hM⟩))
     | 7, _ =>
      refine hs.at q [5] [] (GO.extract Z Z Z Z (hs.fin q Z fun _ hs => ⟨_, _, _, _, _, _, _, _, _, _, hs, hM⟩))
     | 8, _ =>
      refine (anI fun HS => anI fun d1 => anI fun e1 => anI fun m1 => fun p1 => ?_) hM
      refine hs.at q [] [] (GO.alloc HS Z Nv Z Z fun b135 wd136 HS => hs.Kh q [8] (fun _ hs => ⟨A116, c117, y118, A130, c131, y132, b135, _, _, Box b135 31 [.slice none 0 0], hs, HS.pk 14 [1, 2, 3, 4, 5, 6, 7, 8, 9, 10, 11, 12, 0] Z, d1, e1, fun _ _ => Z, fun hh => (q.no 9 hh).elim⟩) Z Z)
     | 9, _ =>
      refine (anI fun HS => anI fun d1 => anI fun e1 => anI fun m1 => fun p1 => ?_) hM
      have hb8 := q.on 8
      obtain rfl := m1 hb8 q.hb
      refine hs.at q [8, 6] [] (sW 12 HS Z Ep Z fun wd137 HS => hs.Qm q Z fun _ hs => ⟨A116, c117, y118, A130, c131, y132, b135, _, _, Box b135 31 [sV A130 t127 c131], hs, HS, d1, e1, fun _ h => Bool.noConfusion h, fun _ => Z⟩)
     | 10, _ =>
      refine hs.at q [7] [] (aS Z (hs.fin q Z fun _ hs => ⟨_, _, _, _, _, _, _, _, _, _, hs, hM⟩))
     | k + 11, hj => exact absurd hj (Nat.not_lt.2 (Nat.le_add_left 11 k))
    ·
     intro b a w hall
     refine exI fun A116 => exI fun c117 => exI fun y118 => exI fun A130 => exI fun c131 => exI fun y132 => exI fun b135 => exI fun v1 => exI fun b2 => exI fun q1 => anI fun hs => anI fun HS => anI fun d1 => anI fun e1 => anI fun m1 => fun p1 => ?_
     obtain rfl := d1 (hall 1 (by decide))
     obtain rfl := e1 (hall 4 (by decide))
     obtain rfl := p1 (hall 9 (by decide))
     refine G.at (hs.all hall) (rN 2 Z ?_)
     obtain ⟨t143, h144, H⟩ := bI H
     rcases iS H with ⟨c147, H⟩ | ⟨c147, H⟩
     ·
      refine rG (lW 12 HS Z Ep (lW 8 HS Z Ep (fJ Q0 Z (Cz.calls HS (ro 11 Z) (ro 7 Z) h144) (fun _ wd145 ⟨h146, HS⟩ => ⟨_, h146, (pS 2 Z (kN 91 Z (congrArg Bool.not (De c147)) (oF Z (oF Z (oF Z (GO.Ib Z Z Z Z Z (nL (rN 3 Z ?_))))))))⟩))))
      obtain rfl := sI H
      exact rT _ func6 Z Z ⟨Z, (HS.pk 13 [] Z)⟩
     refine rG (lW 12 HS Z Ep (lW 8 HS Z Ep (fJ Q0 Z (Cz.calls HS (ro 11 Z) (ro 7 Z) h144) (fun _ wd145 ⟨h146, HS⟩ => ⟨_, h146, (pS 2 Z (kN 91 Z (congrArg Bool.not c147) (oN Z (mV Z (bK (oN Z (mV Z (bK (oN Z (GO.neq Z Z Z Z (bK ?_)))))))))))⟩))))
     refine GO.Ir Z Z Z Z Z (nL ?_)
     rcases iS H with ⟨c148, H⟩ | ⟨c148, H⟩
     ·
      refine yB Z (nF c148) (rN 2 Z ?_)
      obtain rfl := sI H
      exact rT _ func6 Z Z ⟨Z, (HS.pk 13 [] Z)⟩
     refine nB Z (nT c148) (rN 4 Z ?_)
     obtain ⟨t149, h150, H⟩ := bI H
     refine rG (lW 9 HS Z Ep (mV Z (fJ lM Z (Ev.calls HS (ro 0 Z) h150) (fun _ wd151 ⟨h152, HS⟩ => ⟨_, h152, (aS Z (nL (rN 3 Z ?_)))⟩))))
     rcases iE H with ⟨c153, H⟩ | ⟨c153, H⟩
     ·
      refine yB Z (tT c153) (rN 2 Z ?_)
      obtain rfl := sI H
      exact rT _ func6 Z Z ⟨Z, (HS.pk 13 [] Z)⟩
     refine nB Z (tF c153) (rN 4 Z ?_)
     rcases iS H with ⟨c154, H⟩ | ⟨c154, H⟩
     ·
      refine yB Z (nF c154) (rN 2 Z ?_)
      obtain rfl := sI H
      exact rT _ func6 Z Z ⟨Z, (HS.pk 13 [] Z)⟩
     refine nB Z (nT c154) (rN 3 Z ?_)
     obtain rfl := sI H
     exact rT _ func6 Z Z ⟨Z, (HS.pk 13 [] Z)⟩
end Go.Proofs.YtbjfinndngafoaaGreat
