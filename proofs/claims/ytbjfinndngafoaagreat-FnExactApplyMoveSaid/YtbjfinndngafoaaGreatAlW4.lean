/-
  The walks through the functions: a call comes to what its list function says.
-/
import Derived.Test.YtbjfinndngafoaaGreatAlF
import Derived.Test.YtbjfinndngafoaaGreatAlW3
set_option linter.unusedVariables false
set_option linter.unusedSimpArgs false
namespace Go.Proofs.YtbjfinndngafoaaGreat
open Go.RowKit
open Tryz
variable {w0 w : World} {L : List Ck} {K : Nat} {A_a A_b A_c A_d A_e A_f A_g A_h A_i A_j A_k A_l A_m A_n A_o A_p A_q A_r A_s A_t A_u A_v A_w A_x A_y A_z : Option Addr} {c_a c_b c_c c_d c_e c_f c_g c_h c_i c_j c_k c_l c_m c_n c_o c_p c_q c_r c_s c_t c_u c_v c_w c_x c_y c_z : Nat}
set_option maxRecDepth 20000
set_option maxHeartbeats 40000000
theorem Aj.calls {d1 : List (List Ab)} {y_a : Nat → (Ty.slice 107 Ad).Lay} {r1 : List Int} (HS : St w0 w (L)) (r_a : Ca w0 L (Ty.slice 107 Ad) A_a c_a y_a d1) (H : Aj.f K d1 = some r1) :
    Calls prog 161 #[.agg [sV A_a d1 c_a].toArray] w (Aj.post w0 L r1) := by
  unfold Aj.f at H
  refine cG func161 Z ?_
  refine sQ (rG (bA HS Z fun b1 wd2 HS => aS Z (nL (sQ ?_))))
  obtain ⟨t3, h4, H⟩ := bI H
  refine rG (fL b1 0 Dk Z (lB 0 HS Z Ga Z (fJ Qd Z (Bz.calls HS (rD 1 r_a) h4) (fun _ wd5 ⟨h6, HS⟩ => ⟨_, h6, (pS 2 Z (nL (sQ ?_)))⟩))))
  obtain ⟨c7, H⟩ := iN H
  obtain ⟨c8, H⟩ := iN H
  refine rG (mV Z (GO.make (T := (Ar .i64)) 0 () HS Au Z Z Z U56 K5 Z Z Z c7 c8 Z fun b9 wd10 HS => GO.alloc HS Z dN Z Z fun b11 wd12 HS => GO.Gu (j := 0) (vs := [sV (sb b9) (List.replicate (w64 (6 * t3)).toNat (0 : Int)) ((w64 (6 * t3)).toNat)]) ([sV (sb b9) (List.replicate (w64 (6 * t3)).toNat (0 : Int)) ((w64 (6 * t3)).toNat)]) HS Z Z Z Z Z (htN Hy Z) Z Z Z fun wd13 HS => nL (sQ ?_)))
  obtain ⟨t14, h15, H⟩ := bI H
  refine rG (lW 2 HS Z Ep (fJ Rq Z (Bj.calls HS (rD 3 r_a) h15) (fun _ wd18 ⟨A16, c17, h19, HS⟩ => ⟨_, h19, (GO.alloc HS Z dN Z Z fun b20 wd21 HS => GO.Gu (j := 0) (vs := [sV A16 t14 c17]) ([sV A16 t14 c17]) HS Z Z Z Z Z (htN Hy Z) Z Z Z fun wd22 HS => nL (sQ (rG (GO.Qq (Value.int .i64) Value.bool HS Z Z fun b23 wd24 HS => GO.alloc HS Z qX Z Z fun b25 wd26 HS => GO.Gu (j := 0) (vs := [.map (some b23)]) ([.map (some b23)]) HS Z Z Z Z Z (htN dI Z) Z Z Z fun wd27 HS => nL (rN 5 Z ?_)))))⟩)))
  refine G.name (fun f2 a2 => ?_)
  have x1 : ∀ p1, p1 ≤ K → ∀ (c1 : List Int) (f1 : List (Int × Bool)) (x117 : Int) (w : World), Aj.l1 K p1 d1 t3 t14 c1 f1 x117 = some r1 → St w0 w (Box b1 31 [sV A_a d1 c_a] :: Box b11 56 [sV (sb b9) c1 ((w64 (6 * t3)).toNat)] :: Own (Ar .i64) 2 (sb b9) ((w64 (6 * t3)).toNat) uu c1 :: Box b20 56 [sV A16 t14 c17] :: Own (Ar .i64) 2 A16 c17 uu t14 :: Box b25 199 [.map (some b23)] :: Hw b23 (Value.int .i64) Value.bool f1 :: L) → G prog 161 65 [(1, pT b1), (4, pT b11), (5, pT b20), (6, pT b25), (20, I (w64 (6 * t3))), (21, I x117)] f2 w (Aj.post w0 L r1) := by
   refine lp (fun _ _ _ w H _ => by rw [Aj.l1] at H; cases H) fun g1 h2 t1 c1 f1 x117 w H HS => ?_
   rw [Aj.l1] at H
   subst a2
   refine rN 3 Z ?_
   rcases iS H with ⟨c205, H⟩ | ⟨c205, H⟩
   ·
    refine nB Z (tF c205) (rN 3 Z (rG (lB 1 HS Z Hy Z (lS Z Z U56 Z (mV Z (nL (rN 2 Z ?_)))))))
    refine G.name (fun d2 y1 => ?_)
    have b2 : ∀ n1, n1 ≤ g1 → ∀ (e1 : List Int) (x279 : Int) (w : World), Aj.l7 K n1 t14 c1 f1 e1 x279 = some r1 → St w0 w (Box b11 56 [sV (sb b9) e1 ((w64 (6 * t3)).toNat)] :: Own (Ar .i64) 2 (sb b9) ((w64 (6 * t3)).toNat) uu e1 :: Box b20 56 [sV A16 t14 c17] :: Own (Ar .i64) 2 A16 c17 uu t14 :: Box b25 199 [.map (some b23)] :: Hw b23 (Value.int .i64) Value.bool f1 :: L) → G prog 161 65 [(4, pT b11), (5, pT b20), (6, pT b25), (50, I (c1.length : Int)), (51, I x279)] d2 w (Aj.post w0 L r1) := by
     refine lp (fun _ _ w H _ => by rw [Aj.l7] at H; cases H) fun m1 g2 s1 e1 x279 w H HS => ?_
     rw [Aj.l7] at H
     subst y1
     refine rN 3 Z ?_
     rcases iS H with ⟨c286, H⟩ | ⟨c286, H⟩
     ·
      refine nB Z (tF c286) (rN 2 Z (rG (lB 0 HS Z Hy Z (aS Z (nL ?_)))))
      obtain rfl := sI H
      exact rT _ func161 Z Z ⟨_, _, Z, (HS.pk 6 [1] Z)⟩
     refine yB Z (tT c286) (rN 6 Z ?_)
     obtain ⟨c287, H⟩ := iN H
     have h288 := (rk (ro 3 Z) HS)
     refine G.lex mixed [2, 0, 1, 3, 4, 5] (by kernel_rfl) ?_
     replace HS := HS.drew
     refine GX.ps 1 Z (GX.l1 Z Z Z (fun _ g => lB 4 HS Z dI Z g) Z (GX.l1 Z Z Z (fun _ g => lB 2 HS Z Hy Z g) Z (qL Z Z (fun _ _ g => iX Z U56 sz2 h288 c287 g) Z (GX.l1 Z Z Z (fun _ g => GO.Ce (T := (Ar .i64)) (n := x279.toNat) (o := 0) HS (ro 3 Z) Z Z (getD_some (d := 0) (ltN c287)) Z Z na2 Z g) Z (GX.l1 Z Z Z (fun _ g => GO.sD false (t14.getD x279.toNat 0) uA HS (j := 5) Z Z Z Z rC zr4 Z Z g) Z (GX.nil ?_))))))
     rcases iS H with ⟨c289, H⟩ | ⟨c289, H⟩
     ·
      refine nB Z (De c289) (rN 4 Z (gW (s1 m1 (lR _) _ _ _ H HS) Z))
     refine yB Z c289 ?_
     obtain ⟨c290, H⟩ := iN H
     refine rG (lB 0 HS Z Hy Z (mV Z (iX Z U56 sz2 (fun _ => ⟨_, _, Z⟩) c290 (GO.He (T := (Ar .i64)) (j := 1) (n := x279.toNat) (o := 0) (vs := [I 0]) 0 HS Z Au Z Z Z Z (htN na2 Z) Z (getD_some (d := 0) (ltN c290)) Z Z fun wd291 HS => nL ?_))))
     replace HS := HS.J4 (j := 0) (cs' := [sV (sb b9) (e1.set x279.toNat 0) ((w64 (6 * t3)).toNat)]) Z (by simp only [sV, List.length_set] <;> rfl)
     refine rN 3 Z (gW (s1 m1 (lR _) _ _ _ H HS) Z)
    exact gW (b2 g1 (lR _) _ _ _ H (HS.pk 7 [1, 2, 3, 4, 5, 6] Z)) Z
   refine yB Z (tT c205) (rN 7 Z ?_)
   obtain ⟨c206, H⟩ := iN H
   refine rG (lB 1 HS Z Hy Z (mV Z (iX Z U56 sz2 (fun _ => ⟨_, _, Z⟩) c206 (GO.Ce (T := (Ar .i64)) (n := x117.toNat) (o := 0) HS (ro 2 Z) Z Z (getD_some (d := 0) (ltN c206)) Z Z na2 Z (GO.neq Z Z Z Z (nL ?_))))))
   rcases iS H with ⟨c207, H⟩ | ⟨c207, H⟩
   ·
    refine yB Z (nF c207) (rN 3 Z (gW (t1 g1 (lR _) _ _ _ _ H HS) Z))
   refine nB Z (nT c207) (rN 2 Z (rG (lB 1 HS Z Hy Z (mV Z (iX Z U56 sz2 (fun _ => ⟨_, _, Z⟩) c206 (GO.He (T := (Ar .i64)) (j := 2) (n := x117.toNat) (o := 0) (vs := [I 1]) 1 HS Z Au Z Z Z Z (htN na2 Z) Z (getD_some (d := 0) (ltN c206)) Z Z fun wd208 HS => nL ?_))))))
   replace HS := HS.J4 (j := 1) (cs' := [sV (sb b9) (c1.set x117.toNat 1) ((w64 (6 * t3)).toNat)]) Z (by simp only [sV, List.length_set] <;> rfl)
   refine sQ (rG (mV Z (GO.Cr (el := 2) ([I x117]) HS Z Z (fun _ => by kernel_rfl) Z fun b209 wd210 HS => GO.alloc HS Z dN Z Z fun b211 wd212 HS => ?_)))
   replace HS := HS.Ey (T := (Ar .i64)) (j := 1) Z Au uu ([x117] : List Int) Z (Hq Z)
   refine GO.Gw (t := 33) (m := ([x117] : List Int).length) (c' := ([x117] : List Int).length) Z Z Z (GO.Gu (j := 0) (vs := [sV (sb b209) ([x117] : List Int) (([x117] : List Int).length)]) ([sV (sb b209) ([x117] : List Int) (([x117] : List Int).length)]) HS Z Z Z Z Z (htN Hy Z) Z Z Z fun wd213 HS => nL (sQ (rG (GO.alloc HS Z zr3 Z Z fun b214 wd215 HS => GO.Gu (j := 0) (vs := [I 0]) ([I 0]) HS Z Z Z Z Z (htN na3 Z) Z Z Z fun wd216 HS => nL (rN 2 Z ?_)))))
   refine G.name (fun u1 c2 => ?_)
   have v1 : ∀ q1, q1 ≤ g1 → ∀ (i1 : List Int) (k1 : List (Int × Bool)) (A235 : Option Addr) (c236 : Nat) (h1 : List Int) (b238 : Nat) (a1 : Int) (w : World), Aj.l6 K q1 d1 t3 t14 x117 i1 k1 h1 a1 = some r1 → St w0 w (Box b1 31 [sV A_a d1 c_a] :: Box b11 56 [sV (sb b9) i1 ((w64 (6 * t3)).toNat)] :: Own (Ar .i64) 2 (sb b9) ((w64 (6 * t3)).toNat) uu i1 :: Box b20 56 [sV A16 t14 c17] :: Own (Ar .i64) 2 A16 c17 uu t14 :: Box b25 199 [.map (some b23)] :: Hw b23 (Value.int .i64) Value.bool k1 :: Box b211 56 [sV A235 h1 c236] :: Own (Ar .i64) 2 A235 c236 uu h1 :: Box b238 3 [I a1] :: L) → G prog 161 65 [(1, pT b1), (4, pT b11), (5, pT b20), (6, pT b25), (8, pT b211), (9, pT b238), (20, I (w64 (6 * t3))), (21, I x117)] u1 w (Aj.post w0 L r1) := by
    refine lp (fun _ _ _ _ _ _ _ w H _ => by rw [Aj.l6] at H; cases H) fun o1 z1 e2 i1 k1 A235 c236 h1 b238 a1 w H HS => ?_
    rw [Aj.l6] at H
    subst c2
    refine rN 2 Z (rG (lB 9 HS Z na3 Z (lB 7 HS Z Hy Z (lS Z Z U56 Z (GO.lss Z Z Z Z (nL ?_))))))
    rcases iS H with ⟨c256, H⟩ | ⟨c256, H⟩
    ·
     refine nB Z (tF c256) (rN 4 Z (gW (t1 o1 (Nat.le_of_succ_le z1) _ _ _ _ H (HS.pk 10 [0, 1, 2, 3, 4, 5, 6] Z)) Z))
    refine yB Z (tT c256) (rN 3 Z ?_)
    obtain ⟨c257, H⟩ := iN H
    have h258 := (rk (ro 8 Z) HS)
    obtain ⟨t259, t260, t261, h262, H⟩ := I6 H
    obtain ⟨c263, H⟩ := iN H
    refine G.lex mixed [5, 0, 1, 2, 3, 4, 6] (by kernel_rfl) ?_
    replace HS := HS.drew
    refine qL Z Z (fun _ _ g => GO.Vg Z Z Z Z g) Z (GX.l1 Z Z Z (fun _ g => lW 0 HS Z Ep g) Z (GX.l1 Z Z Z (fun _ g => lB 7 HS Z Hy Z g) Z (GX.l1 Z Z Z (fun _ g => lB 9 HS Z na3 Z g) Z (qL Z Z (fun _ _ g => iX Z U56 sz2 h258 c257 g) Z (GX.l1 Z Z Z (fun _ g => GO.Ce (T := (Ar .i64)) (n := a1.toNat) (o := 0) HS (ro 8 Z) Z Z (getD_some (d := 0) (ltN c257)) Z Z na2 Z g) Z (GX.l2 Z ?_))))))
    replace HS := HS.pk 10 [1, 2, 7, 8, 9, 5, 6, 3, 0, 4] Z
    refine fJ oD Z (Ai.calls HS (rD 2 r_a) (ro 1 Z) h262) (fun _ wd266 ⟨A264, c265, h267, HS⟩ => ⟨_, h267, (GX.fin tv (GX.nil (rN 3 Z (rG (lB 4 HS Z na3 Z (nL (rG (GO.alloc HS Z zr3 Z Z fun b268 wd269 HS => GO.Gu (j := 0) (vs := [I a1]) ([I a1]) HS Z Z Z Z Z (htN na3 Z) Z Z Z fun wd270 HS => nL (rG (lB 0 HS Z na3 Z (GO.add Z Z Z Z (GO.Gu (j := 0) (vs := [I (w64 (a1 + 1))]) ([I (w64 (a1 + 1))]) HS Z Z Z Z Z (htN na3 Z) Z Z Z fun wd271 HS => ?_))))))))))))⟩)
    refine nL (G.again (gW (e2 o1 (lR _) _ _ _ _ _ _ _ _ H (HS.pk 11 [9, 1, 2, 8, 10, 6, 7, 3, 4, 0] Z)) Z))
   exact gW (v1 g1 (lR _) _ _ _ _ _ _ _ _ H (HS.pk 10 [3, 4, 5, 6, 7, 8, 9, 1, 2, 0] Z)) Z
  exact gW (x1 K (lR _) _ _ _ _ H (HS.pk 7 [6, 4, 5, 2, 3, 0, 1] Z)) Z
theorem Bh.calls {c1 : List (List Ab)} {y_a : Nat → (Ty.slice 107 Ad).Lay} {r1 : List Bool} (HS : St w0 w (L)) (r_a : Ca w0 L (Ty.slice 107 Ad) A_a c_a y_a c1) (H : Bh.f K c1 = some r1) :
    Calls prog 140 #[.agg [sV A_a c1 c_a].toArray] w (Bh.post w0 L r1) := by
  unfold Bh.f at H
  refine cG func140 Z ?_
  refine sQ (rG (bA HS Z fun b1 wd2 HS => aS Z (nL (sQ ?_))))
  obtain ⟨t3, h4, H⟩ := bI H
  refine rG (lW 0 HS Z Ep (fJ Rq Z (Bj.calls HS (rD 1 r_a) h4) (fun _ wd7 ⟨A5, c6, h8, HS⟩ => ⟨_, h8, (aS Z (nL (sQ ?_)))⟩)))
  obtain ⟨t9, h10, H⟩ := bI H
  obtain ⟨c13, H⟩ := iN H
  obtain ⟨c14, H⟩ := iN H
  refine rG (mV Z (fJ aO Z (Gf.calls HS (ro 0 Z) h10) (fun _ wd11 ⟨h12, HS⟩ => ⟨_, h12, (GO.make (T := Gl) false () HS Au Z Z Z K7 aL Z Z Z c13 c14 Z fun b15 wd16 HS => aS Z (nL (rN 2 Z ?_)))⟩)))
  obtain ⟨t17, h18, H⟩ := bI H
  refine rG (lW 2 HS Z Ep (fJ nG Z (Aj.calls HS (rD 3 r_a) h18) (fun _ wd21 ⟨A19, c20, h22, HS⟩ => ⟨_, h22, (lS Z Z U56 Z (mV Z (nL (rN 2 Z ?_))))⟩)))
  refine G.name (fun f1 e1 => ?_)
  have g1 : ∀ d1, d1 ≤ K → ∀ (a1 : List Bool) (x29 : Int) (w : World), Bh.l1 K d1 t3 t17 a1 x29 = some r1 → St w0 w (Own (Ar .i64) 2 A5 c6 uu t3 :: Own Gl 4 (sb b15) t9.toNat uu a1 :: Own (Ar .i64) 2 A19 c20 uu t17 :: L) → G prog 140 30 [(3, sV A5 t3 c6), (4, sV (sb b15) a1 t9.toNat), (13, sV A19 t17 c20), (14, I (t17.length : Int)), (15, I x29)] f1 w (Bh.post w0 L r1) := by
   refine lp (fun _ _ w H _ => by rw [Bh.l1] at H; cases H) fun h1 k1 i1 a1 x29 w H HS => ?_
   rw [Bh.l1] at H
   subst e1
   refine rN 3 Z ?_
   rcases iS H with ⟨c35, H⟩ | ⟨c35, H⟩
   ·
    refine nB Z (tF c35) (rN 3 Z ?_)
    obtain rfl := sI H
    exact rT _ func140 Z Z ⟨_, _, Z, (HS.pk 3 [1] Z)⟩
   refine yB Z (tT c35) (rN 4 Z ?_)
   obtain ⟨c36, H⟩ := iN H
   refine rG (mV Z (iX Z U56 sz2 (rk (ro 2 Z) HS) c36 (GO.Ce (T := (Ar .i64)) (n := x29.toNat) (o := 0) HS (ro 2 Z) Z Z (getD_some (d := 0) (ltN c36)) Z Z na2 Z (pS 2 Z (nL ?_)))))
   obtain ⟨c37, H⟩ := iN H
   obtain ⟨c38, H⟩ := iN H
   refine rG (pS 3 Z (iX Z U56 sz2 (rk (ro 0 Z) HS) c37 (GO.Ce (T := (Ar .i64)) (n := x29.toNat) (o := 0) HS (ro 0 Z) Z Z (getD_some (d := 0) (ltN c37)) Z Z na2 Z (pS 2 Z (iX Z K7 sz4 (fun _ => ⟨_, _, Z⟩) c38 (GO.He (T := Gl) (j := 1) (n := (t3.getD x29.toNat 0).toNat) (o := 0) (vs := [.bool (decide (t17.getD x29.toNat 0 = 0))]) (decide (t17.getD x29.toNat 0 = 0)) HS Z Au Z Z Z Z (htN na4 Z) Z (getD_some (d := false) (ltN c38)) Z Z fun wd39 HS => nL (G.len (t := 4) (m := (a1.set ((t3.getD x29.toNat 0).toNat) (decide (t17.getD x29.toNat 0 = 0))).length) Z (by simp only [List.length_set] <;> rfl) (rN 3 Z (gW (i1 h1 (lR _) _ _ _ H HS) Z)))))))))
  exact gW (g1 K (lR _) _ _ _ H (HS.pk 4 [2, 1, 0] Z)) Z
theorem Al.calls {a1 : List (List Ab)} {y_a : Nat → (Ty.slice 107 Ad).Lay} {r1 : List Bool} (HS : St w0 w (L)) (r_a : Ca w0 L (Ty.slice 107 Ad) A_a c_a y_a a1) (H : Al.f K a1 = some r1) :
    Calls prog 141 #[.agg [sV A_a a1 c_a].toArray] w (Al.post w0 L r1) := by
  unfold Al.f at H
  refine cG func141 Z ?_
  refine sQ (rG (bA HS Z fun b1 wd2 HS => aS Z (nL (sQ ?_))))
  obtain ⟨t3, h4, H⟩ := bI H
  refine rG (lW 0 HS Z Ep (fJ Rq Z (Bj.calls HS (rD 1 r_a) h4) (fun _ wd7 ⟨A5, c6, h8, HS⟩ => ⟨_, h8, (aS Z (nL (sQ ?_)))⟩)))
  obtain ⟨t9, h10, H⟩ := bI H
  obtain ⟨c13, H⟩ := iN H
  obtain ⟨c14, H⟩ := iN H
  refine rG (mV Z (fJ aO Z (Gf.calls HS (ro 0 Z) h10) (fun _ wd11 ⟨h12, HS⟩ => ⟨_, h12, (GO.make (T := Gl) false () HS Au Z Z Z K7 aL Z Z Z c13 c14 Z fun b15 wd16 HS => aS Z (nL (rN 2 Z (rG (mV Z (lS Z Z U56 Z (mV Z (nL (rN 2 Z ?_)))))))))⟩)))
  refine G.name (fun n1 m1 => ?_)
  have o1 : ∀ h1, h1 ≤ K → ∀ (d1 : List Bool) (x77 : Int) (w : World), Al.l1 K h1 a1 t3 d1 x77 = some r1 → St w0 w (Box b1 31 [sV A_a a1 c_a] :: Own Gl 4 (sb b15) t9.toNat uu d1 :: Own (Ar .i64) 2 A5 c6 uu t3 :: L) → G prog 141 60 [(1, pT b1), (4, sV (sb b15) d1 t9.toNat), (16, sV A5 t3 c6), (17, I (t3.length : Int)), (18, I x77)] n1 w (Al.post w0 L r1) := by
   refine lp (fun _ _ w H _ => by rw [Al.l1] at H; cases H) fun f1 u1 s1 d1 x77 w H HS => ?_
   rw [Al.l1] at H
   subst m1
   refine rN 3 Z ?_
   rcases iS H with ⟨c137, H⟩ | ⟨c137, H⟩
   ·
    refine nB Z (tF c137) (rN 3 Z ?_)
    obtain rfl := sI H
    exact rT _ func141 Z Z ⟨_, _, Z, (HS.pk 3 [1] Z)⟩
   refine yB Z (tT c137) (rN 4 Z ?_)
   obtain ⟨c138, H⟩ := iN H
   refine rG (mV Z (iX Z U56 sz2 (rk (ro 2 Z) HS) c138 (GO.Ce (T := (Ar .i64)) (n := x77.toNat) (o := 0) HS (ro 2 Z) Z Z (getD_some (d := 0) (ltN c138)) Z Z na2 Z (pS 2 Z (nL (sQ ?_))))))
   obtain ⟨t139, t140, h141, H⟩ := Dv H
   refine rG (mV Z (GO.rem Z Z Z (by decide) Z (fJ Vb Z (Fq.calls HS  h141) (fun _ wd142 ⟨h143, HS⟩ => ⟨_, h143, (pS 5 Z (nL (sQ ?_)))⟩))))
   obtain ⟨t146, h147, H⟩ := bI H
   refine rG (pS 2 Z (GO.Cr (el := 2) ([I t139, I t140]) HS Z Z (fun _ => by kernel_rfl) Z fun b144 wd145 HS => ?_))
   replace HS := HS.Ey (T := (Ar .i64)) (j := 0) Z Au uu ([t139, t140] : List Int) Z (Hq Z)
   refine GO.Gw (t := 31) (m := ([t139, t140] : List Int).length) (c' := ([t139, t140] : List Int).length) Z Z Z (fJ Ro Z (Eo.calls HS (ro 0 Z) h147) (fun _ wd150 ⟨A148, c149, h151, HS⟩ => ⟨_, h151, (lS Z Z U56 Z (mV Z (nL (rN 2 Z ?_))))⟩))
   refine G.name (fun q1 p1 => ?_)
   have t1 : ∀ i1, i1 ≤ f1 → ∀ (c1 : List Bool) (x167 : Int) (w : World), Al.l4 K i1 a1 t3 x77 t146 c1 x167 = some r1 → St w0 w (Box b1 31 [sV A_a a1 c_a] :: Own Gl 4 (sb b15) t9.toNat uu c1 :: Own (Ar .i64) 2 A5 c6 uu t3 :: Own (Ar .i64) 2 A148 c149 uu t146 :: L) → G prog 141 60 [(1, pT b1), (4, sV (sb b15) c1 t9.toNat), (5, I x77), (6, I (t3.getD x77.toNat 0)), (16, sV A5 t3 c6), (17, I (t3.length : Int)), (18, I x77), (32, sV A148 t146 c149), (33, I (t146.length : Int)), (34, I x167)] q1 w (Al.post w0 L r1) := by
    refine lp (fun _ _ w H _ => by rw [Al.l4] at H; cases H) fun e1 k1 g1 c1 x167 w H HS => ?_
    rw [Al.l4] at H
    subst p1
    refine rN 3 Z ?_
    rcases iS H with ⟨c182, H⟩ | ⟨c182, H⟩
    ·
     refine nB Z (tF c182) (rN 4 Z (gW (s1 e1 (Nat.le_of_succ_le k1) _ _ _ H (HS.pk 4 [0, 1, 2] Z)) Z))
    refine yB Z (tT c182) (rN 4 Z ?_)
    obtain ⟨c183, H⟩ := iN H
    refine rG (iX Z U56 sz2 (rk (ro 3 Z) HS) c183 (GO.Ce (T := (Ar .i64)) (n := x167.toNat) (o := 0) HS (ro 3 Z) Z Z (getD_some (d := 0) (ltN c183)) Z Z na2 Z (aS Z (nL ?_))))
    obtain ⟨c184, H⟩ := iN H
    rcases iE H with ⟨c185, H⟩ | ⟨c185, H⟩
    ·
     refine rG (pS 4 Z (iX Z K7 sz4 (fun _ => ⟨_, _, Z⟩) c184 (GO.Ce (T := Gl) (n := (t3.getD x77.toNat 0).toNat) (o := 0) HS (ro 1 Z) Z Z (getD_some (d := false) (ltN c184)) Z Z na4 Z (mV Z (kN 44 Z c185 (oF Z (oF Z (oF Z (oF Z (oF Z (oF Z (oF Z (oF Z (oF Z ?_))))))))))))))
     refine oF Z (GO.Ib Z Z Z Z Z (iX Z K7 sz4 (fun _ => ⟨_, _, Z⟩) c184 (GO.He (T := Gl) (j := 1) (n := (t3.getD x77.toNat 0).toNat) (o := 0) (vs := [.bool true]) true HS Z Au Z Z Z Z (htN na4 Z) Z (getD_some (d := false) (ltN c184)) Z Z fun wd186 HS => nL (G.len (t := 4) (m := (c1.set ((t3.getD x77.toNat 0).toNat) true).length) Z (by simp only [List.length_set] <;> rfl) (rN 3 Z (gW (g1 e1 (lR _) _ _ _ H HS) Z))))))
    obtain ⟨c187, H⟩ := iN H
    obtain ⟨c188, H⟩ := iN H
    obtain ⟨e189, h190, H⟩ := Dl H
    obtain ⟨t191, h192, H⟩ := bI H
    refine rG (pS 4 Z (iX Z K7 sz4 (fun _ => ⟨_, _, Z⟩) c184 (GO.Ce (T := Gl) (n := (t3.getD x77.toNat 0).toNat) (o := 0) HS (ro 1 Z) Z Z (getD_some (d := false) (ltN c184)) Z Z na4 Z (mV Z (kN 44 Z (De c185) (oN Z (fL b1 0 Dk Z (bK (oN Z (lB 0 HS Z Ga Z (bK (oN Z (mV Z (bK ?_))))))))))))))
    refine oN Z (GO.quo Z Z Z (by decide) Z (bK (oN Z (iX Z U29 Ie (rk (rD 4 r_a) HS) c187 (bK (oN Z (GO.Ce (T := (Ty.slice 107 Ad)) (n := (w64 (x77.tdiv 6)).toNat) (o := 0) HS (rD 4 r_a) Z Z (getD_some (d := []) (ltN c187)) Z Z Ii Z (bK (oN Z (mV Z (bK (oN Z (GO.ix Z Z Z U77 Gb ((Ca.elem (rD 4 r_a) c187.1 c187.2) _ HS).2.2.1 c188.1 c188.2 Z (bK ?_))))))))))))))
    refine oN Z (GO.Hf (T := Ad) (n := (t146.getD x167.toNat 0).toNat) HS (Ca.elem (rD 4 r_a) c187.1 c187.2) Z Z (Cs (ltN c188) h190) Dq Z (bK (oN Z (fJ M8 Z (Bn.calls HS  h192) (fun _ wd193 ⟨h194, HS⟩ => ⟨_, h194, (bK (GO.Ir Z Z Z Z Z (iX Z K7 sz4 (fun _ => ⟨_, _, Z⟩) c184 (GO.He (T := Gl) (j := 1) (n := (t3.getD x77.toNat 0).toNat) (o := 0) (vs := [.bool t191]) t191 HS Z Au Z Z Z Z (htN na4 Z) Z (getD_some (d := false) (ltN c184)) Z Z fun wd195 HS => nL (G.len (t := 4) (m := (c1.set ((t3.getD x77.toNat 0).toNat) t191).length) Z (by simp only [List.length_set] <;> rfl) (rN 3 Z (gW (g1 e1 (lR _) _ _ _ H HS) Z)))))))⟩)))))
   exact gW (t1 f1 (lR _) _ _ _ H (HS.pk 5 [2, 3, 4, 0] Z)) Z
  exact gW (o1 K (lR _) _ _ _ H (HS.pk 3 [2, 0, 1] Z)) Z
theorem Bd.calls {a1 : List (List Ab)} {c1 : Int} {y_a : Nat → (Ty.slice 107 Ad).Lay} {r1 r2 : Int} (HS : St w0 w (L)) (r_a : Ca w0 L (Ty.slice 107 Ad) A_a c_a y_a a1) (H : Bd.f K a1 c1 = some (r1, r2)) :
    Calls prog 162 #[.agg [sV A_a a1 c_a].toArray, I c1] w (Bd.post w0 L r1 r2) := by
  unfold Bd.f at H
  refine cG func162 Z ?_
  refine sQ (rG (bA HS Z fun b1 wd2 HS => GO.alloc HS Z Nz Z Z fun b3 wd4 HS => nL (sQ ?_)))
  obtain ⟨t5, h6, H⟩ := bI H
  refine rG (lW 1 HS Z Ep (fJ Rq Z (Bj.calls HS (rD 2 r_a) h6) (fun _ wd9 ⟨A7, c8, h10, HS⟩ => ⟨_, h10, (aS Z (nL (rN 2 Z ?_)))⟩)))
  obtain ⟨t11, h12, H⟩ := bI H
  obtain ⟨c17, H⟩ := iN H
  refine rG (lW 2 HS Z Ep (fJ aY Z (Al.calls HS (rD 3 r_a) h12) (fun _ wd15 ⟨A13, c14, h16, HS⟩ => ⟨_, h16, (mV Z (iX Z K7 sz4 (rk (ro 0 Z) HS) c17 (GO.Ce (T := Gl) (n := c1.toNat) (o := 0) HS (ro 0 Z) Z Z (getD_some (d := false) (ltN c17)) Z Z na4 Z (GO.not Z Z Z (nL ?_)))))⟩)))
  rcases iS H with ⟨c18, H⟩ | ⟨c18, H⟩
  ·
   refine yB Z (congrArg Bool.not (De c18)) (sQ ?_)
   obtain ⟨t408, h409, H⟩ := bI H
   refine rG (pS 2 Z (fJ bT Z (Bt.calls HS (ro 1 Z) h409) (fun _ wd410 ⟨h411, HS⟩ => ⟨_, h411, (aS Z (nL (sQ ?_)))⟩)))
   obtain ⟨t412, t413, h414, H⟩ := Dv H
   refine rG (mV Z (GO.rem Z Z Z (by decide) Z (fJ Vb Z (Fq.calls HS  h414) (fun _ wd415 ⟨h416, HS⟩ => ⟨_, h416, (pS 5 Z (nL (sQ ?_)))⟩))))
   obtain ⟨t419, h420, H⟩ := bI H
   refine rG (pS 2 Z (GO.Cr (el := 2) ([I t412, I t413]) HS Z Z (fun _ => by kernel_rfl) Z fun b417 wd418 HS => ?_))
   replace HS := HS.Ey (T := (Ar .i64)) (j := 0) Z Au uu ([t412, t413] : List Int) Z (Hq Z)
   refine GO.Gw (t := 32) (m := ([t412, t413] : List Int).length) (c' := ([t412, t413] : List Int).length) Z Z Z (fJ Ro Z (Eo.calls HS (ro 0 Z) h420) (fun _ wd423 ⟨A421, c422, h424, HS⟩ => ⟨_, h424, (aS Z (nL (sQ ?_)))⟩))
   obtain ⟨c425, H⟩ := iN H
   have h426 := (rk (ro 0 Z) HS)
   obtain ⟨c427, H⟩ := iN H
   have h428 := (rk (ro 0 Z) HS)
   obtain ⟨t429, h430, H⟩ := bI H
   refine G.lex mixed [0, 1, 2, 3, 4, 5, 7, 8, 6, 9, 10, 11, 12, 13] (by kernel_rfl) ?_
   replace HS := HS.drew
   refine GX.ps 1 Z (qL Z Z (fun _ _ g => GO.quo Z Z Z (by decide) Z g) Z (GX.ps 3 Z (qL Z Z (fun _ _ g => iX Z U56 sz2 h426 c425 g) Z (GX.ps 1 Z (qL Z Z (fun _ _ g => iX Z U56 sz2 h428 c427 g) Z (GX.l1 Z Z Z (fun _ g => GO.Ce (T := (Ar .i64)) (n := 0) (o := 0) HS (ro 0 Z) Z Z (getD_some (d := 0) (ltN c425)) Z Z na2 Z g) Z (GX.l1 Z Z Z (fun _ g => GO.Ce (T := (Ar .i64)) (n := 1) (o := 0) HS (ro 0 Z) Z Z (getD_some (d := 0) (ltN c427)) Z Z na2 Z g) Z (qL Z Z (fun _ _ g => GO.Df (.agg [I t412, I t413, I (t419.getD 0 0), I (t419.getD 1 0)].toArray) Z Z (fun _ => by kernel_rfl) Z g) Z (GX.l2 Z (fJ Ps Z (Cf.calls HS  h430) (fun _ wd431 ⟨h432, HS⟩ => ⟨_, h432, (GX.fin tv (qL Z Z (fun _ _ g => GO.Df (.agg [I (w64 (t408.tdiv 6)), I t429].toArray) Z Z (fun _ => by kernel_rfl) Z g) Z (GX.l2 Z (sW 4 HS Z Hd Z fun wd433 HS => ?_))))⟩)))))))))))
   refine GX.fin tv (GX.nil ?_)
   obtain ⟨rfl, rfl⟩ := G5 H
   exact rT _ func162 Z (Gc.Gv (j := 4) (vs := [I (w64 (t408.tdiv 6)), I t429]) HS Z Z Z Hd) ⟨Z, (HS.pk 6 [] Z)⟩
  refine nB Z (congrArg Bool.not c18) (rN 3 Z ?_)
  obtain ⟨t19, h20, H⟩ := bI H
  refine rG (fL b1 0 Dk Z (lB 3 HS Z Ga Z (fJ Qd Z (Bz.calls HS (rD 4 r_a) h20) (fun _ wd21 ⟨h22, HS⟩ => ⟨_, h22, (mV Z (nL (rN 2 Z ?_)))⟩))))
  refine G.name (fun m1 k1 => ?_)
  have n1 : ∀ g1, g1 ≤ K → ∀ (x151 : Int) (w : World), Bd.l1 K g1 a1 c1 t5 t19 x151 = some (r1, r2) → St w0 w (Box b1 31 [sV A_a a1 c_a] :: Box b3 167 [I 0, I 0] :: Own (Ar .i64) 2 A7 c8 uu t5 :: L) → G prog 162 89 [(1, I c1), (2, pT b1), (4, pT b3), (5, sV A7 t5 c8), (49, I t19), (50, I x151)] m1 w (Bd.post w0 L r1 r2) := by
   refine lp (fun _ w H _ => by rw [Bd.l1] at H; cases H) fun e1 t1 q1 x151 w H HS => ?_
   rw [Bd.l1] at H
   subst k1
   refine rN 3 Z ?_
   rcases iS H with ⟨c280, H⟩ | ⟨c280, H⟩
   ·
    refine nB Z (tF c280) (rN 2 Z (rG (GO.Df (.agg [I 0, I 0].toArray) Z Z (fun _ => by kernel_rfl) Z (sW 1 HS Z Hd Z fun wd407 HS => nL ?_))))
    obtain ⟨rfl, rfl⟩ := G5 H
    exact rT _ func162 Z (Gc.Gv (j := 1) (vs := [I 0, I 0]) HS Z Z Z Hd) ⟨Z, (HS.pk 3 [] Z)⟩
   refine yB Z (tT c280) (rN 9 Z ?_)
   refine G.name (fun p1 o1 => ?_)
   have s1 : ∀ h1, h1 ≤ e1 → ∀ (x322 : Int) (w : World), Bd.l4 K h1 a1 c1 t5 t19 x151 x322 = some (r1, r2) → St w0 w (Box b1 31 [sV A_a a1 c_a] :: Box b3 167 [I 0, I 0] :: Own (Ar .i64) 2 A7 c8 uu t5 :: L) → G prog 162 89 [(1, I c1), (2, pT b1), (4, pT b3), (5, sV A7 t5 c8), (10, I x151), (49, I t19), (50, I x151), (53, I x322)] p1 w (Bd.post w0 L r1 r2) := by
    refine lp (fun _ w H _ => by rw [Bd.l4] at H; cases H) fun d1 i1 f1 x322 w H HS => ?_
    rw [Bd.l4] at H
    subst o1
    refine rN 3 Z ?_
    rcases iS H with ⟨c365, H⟩ | ⟨c365, H⟩
    ·
     refine nB Z (tF c365) (rN 4 Z (gW (q1 d1 (Nat.le_of_succ_le i1) _ _ H HS) Z))
    refine yB Z (tT c365) (rN 6 Z ?_)
    obtain ⟨t366, t367, t368, t369, h370, H⟩ := D9 H
    refine rG (mV Z (fJ Km Z (Ct.calls HS  h370) (fun _ wd371 ⟨h372, HS⟩ => ⟨_, h372, (GO.alloc HS Z J8 Z Z fun b373 wd374 HS => sW 0 HS Z Jj Z fun wd375 HS => nL (sQ ?_))⟩)))
    obtain ⟨t390, h391, H⟩ := bI H
    obtain ⟨c394, H⟩ := iN H
    have h395 := (rk (ro 3 Z) HS)
    rcases iS H with ⟨c396, H⟩ | ⟨c396, H⟩
    ·
     refine G.lex mixed [0, 1, 2, 3, 5, 11, 4, 6, 7, 8, 9, 10, 12, 13, 14, 16, 19, 15, 17, 18, 20, 21, 22, 23, 24] (by kernel_rfl) ?_
     replace HS := HS.drew
     refine GX.ps 3 Z (qL Z Z (fun _ _ g => GO.ixP 0 Z Z Z Z Gg sz2 Z Z g) Z (qL Z Z (fun _ _ g => GO.ixP 1 Z Z Z Z Gg sz2 Z Z g) Z (GX.ps 1 Z (GX.l1 Z Z Z (fun _ g => lB 0 HS Z na2 Z g) Z (GX.l1 Z Z Z (fun _ g => lB 0 HS Z na2 Z g) Z (GX.l2 Z (fJ Uz Z (F9.calls HS  h391) (fun _ wd392 ⟨h393, HS⟩ => ⟨_, h393, (GX.fin tv (GX.ps 1 Z (qL Z Z (fun _ _ g => iX Z U56 sz2 h395 c394 g) Z (GX.l1 Z Z Z (fun _ g => GO.Ce (T := (Ar .i64)) (n := (w64 ((w64 (6 * x151)) + t390)).toNat) (o := 0) HS (ro 3 Z) Z Z (getD_some (d := 0) (ltN c394)) Z Z na2 Z g) Z (GX.ps 1 Z (qL Z Z (fun _ _ g => mV Z (kN 71 Z (tF c396) g)) Z (qL Z Z (fun _ _ g => oF Z g) Z ?_)))))))⟩))))))))
     refine qL Z Z (fun _ _ g => oF Z g) Z (qL Z Z (fun _ _ g => oF Z g) Z (GX.l1 Z Z Z (fun _ g => oF Z g) Z (qL Z Z (fun _ _ g => oF Z g) Z (GX.l1 Z Z Z (fun _ g => oF Z g) Z (GX.l1 Z Z Z (fun _ g => oF Z g) Z (qL Z Z (fun _ _ g => oF Z g) Z (GX.l1 Z Z Z (fun _ g => oF Z g) Z (GX.l2 Z (oF Z (GX.fin tv (GX.ps 1 Z (GX.nil (rN 5 Z (gW (f1 d1 (lR _) _ _ H (HS.pk 4 [1, 2, 3] Z)) Z))))))))))))))
    obtain ⟨c397, H⟩ := iN H
    obtain ⟨c398, H⟩ := iN H
    obtain ⟨e399, h400, H⟩ := Dl H
    obtain ⟨t401, h402, H⟩ := bI H
    refine G.lex mixed [0, 1, 2, 3, 5, 11, 4, 6, 7, 8, 9, 10, 12, 13, 14, 16, 19, 15, 17, 18, 20, 21, 22, 23, 24] (by kernel_rfl) ?_
    replace HS := HS.drew
    refine GX.ps 3 Z (qL Z Z (fun _ _ g => GO.ixP 0 Z Z Z Z Gg sz2 Z Z g) Z (qL Z Z (fun _ _ g => GO.ixP 1 Z Z Z Z Gg sz2 Z Z g) Z (GX.ps 1 Z (GX.l1 Z Z Z (fun _ g => lB 0 HS Z na2 Z g) Z (GX.l1 Z Z Z (fun _ g => lB 0 HS Z na2 Z g) Z (GX.l2 Z (fJ Uz Z (F9.calls HS  h391) (fun _ wd392 ⟨h393, HS⟩ => ⟨_, h393, (GX.fin tv (GX.ps 1 Z (qL Z Z (fun _ _ g => iX Z U56 sz2 h395 c394 g) Z (GX.l1 Z Z Z (fun _ g => GO.Ce (T := (Ar .i64)) (n := (w64 ((w64 (6 * x151)) + t390)).toNat) (o := 0) HS (ro 3 Z) Z Z (getD_some (d := 0) (ltN c394)) Z Z na2 Z g) Z (GX.ps 1 Z (qL Z Z (fun _ _ g => mV Z (kN 71 Z (tT c396) g)) Z (qL Z Z (fun _ _ g => oN Z (fL b1 0 Dk Z (bK g))) Z ?_)))))))⟩))))))))
    refine qL Z Z (fun _ _ g => oN Z (mV Z (bK g))) Z (qL Z Z (fun _ _ g => oN Z (GO.ixP 3 Z Z Z Z Gg sz2 Z Z (bK g))) Z (GX.l1 Z Z Z (fun _ g => oN Z (lB 1 HS Z Ga Z (bK g))) Z (qL Z Z (fun _ _ g => oN Z (iX Z U29 Ie (rk (rD 4 r_a) HS) c397 (bK g))) Z (GX.l1 Z Z Z (fun _ g => oN Z (GO.Ce (T := (Ty.slice 107 Ad)) (n := x151.toNat) (o := 0) HS (rD 4 r_a) Z Z (getD_some (d := []) (ltN c397)) Z Z Ii Z (bK g))) Z (GX.l1 Z Z Z (fun _ g => oN Z (lB 0 HS Z na2 Z (bK g))) Z (qL Z Z (fun _ _ g => oN Z (GO.ix Z Z Z U77 Gb ((Ca.elem (rD 4 r_a) c397.1 c397.2) _ HS).2.2.1 c398.1 c398.2 Z (bK g))) Z (GX.l1 Z Z Z (fun _ g => oN Z (GO.Hf (T := Ad) (n := t369.toNat) HS (Ca.elem (rD 4 r_a) c397.1 c397.2) Z Z (Cs (ltN c398) h400) Dq Z (bK g))) Z (GX.l2 Z (oN Z (fJ M8 Z (Bn.calls HS  h402) (fun _ wd403 ⟨h404, HS⟩ => ⟨_, h404, (bK (GX.fin tv (GX.ps 1 Z (GX.nil ?_))))⟩)))))))))))
    rcases iS H with ⟨c405, H⟩ | ⟨c405, H⟩
    ·
     refine nB Z (De c405) (rN 4 Z (gW (f1 d1 (lR _) _ _ H (HS.pk 4 [1, 2, 3] Z)) Z))
    refine yB Z c405 (sQ (rG (pS 2 Z (GO.Df (.agg [I x151, I x322].toArray) Z Z (fun _ => by kernel_rfl) Z (sW 2 HS Z Hd Z fun wd406 HS => nL ?_)))))
    obtain ⟨rfl, rfl⟩ := G5 H
    exact rT _ func162 Z (Gc.Gv (j := 2) (vs := [I x151, I x322]) HS Z Z Z Hd) ⟨Z, (HS.pk 4 [] Z)⟩
   exact gW (s1 e1 (lR _) _ _ H HS) Z
  exact gW (n1 K (lR _) _ _ H (HS.pk 4 [3, 2, 1] Z)) Z
theorem Eu.calls {a1 : List (List Ab)} {c1 d1 : Int} {y_a : Nat → (Ty.slice 107 Ad).Lay} {r1 r2 : Int} {r3 : Bool} (HS : St w0 w (L)) (r_a : Ca w0 L (Ty.slice 107 Ad) A_a c_a y_a a1) (H : Eu.f K a1 c1 d1 = some (r1, r2, r3)) :
    Calls prog 163 #[.agg [sV A_a a1 c_a].toArray, .agg [I c1, I d1].toArray] w (Eu.post w0 L r1 r2 r3) := by
  unfold Eu.f at H
  refine cG func163 Z ?_
  refine sQ (rG (bA HS Z fun b1 wd2 HS => bA HS Z fun b3 wd4 HS => GO.alloc HS Z Nz Z Z fun b5 wd6 HS => aS Z (nL (sQ ?_))))
  obtain ⟨t7, t8, t9, t10, h11, H⟩ := D9 H
  refine rG (fL b3 1 La Z (lB 1 HS Z na2 Z (fJ Km Z (Ct.calls HS  h11) (fun _ wd12 ⟨h13, HS⟩ => ⟨_, h13, (GO.alloc HS Z J8 Z Z fun b14 wd15 HS => sW 0 HS Z Jj Z fun wd16 HS => nL (sQ ?_))⟩))))
  obtain ⟨c17, H⟩ := iN H
  obtain ⟨c18, H⟩ := iN H
  obtain ⟨e19, h20, H⟩ := Dl H
  refine G.Gy mixed (fun w => St w0 w (Box b14 131 [I t7, I t8, I t9, I t10] :: Box b3 167 [I c1, I d1] :: Box b1 31 [sV A_a a1 c_a] :: L)) [1, 3, 5, 7, 9] [0, 2, 6, 1, 3, 4, 5, 7, 8, 9, 10, 11] [] (by kernel_rfl) (by kernel_rfl) (HS.drew.pk 4 [0, 2, 3] Z) ?_
  replace HS := HS.drew
  refine qL Z Z (fun _ _ g => fL b1 0 Dk Z g) Z (qL Z Z (fun _ _ g => fL b3 0 F3 Z g) Z (qL Z Z (fun _ _ g => GO.ixP 2 Z Z Z Z Gg sz2 Z Z g) Z (GX.ls Z Z Z (HS.pk 4 [0, 2, 3] Z) (fun _ HS _ g => lB 2 HS Z Ga Z g) Z (GX.ls Z Z Z (HS.pk 4 [0, 2, 3] Z) (fun _ HS _ g => lB 1 HS Z na2 Z g) Z (qL Z Z (fun _ _ g => iX Z U29 Ie (rk (rD 4 r_a) HS) c17 g) Z (GX.ls Z Z Z (HS.pk 4 [0, 2, 3] Z) (fun _ HS _ g => GO.Ce (T := (Ty.slice 107 Ad)) (n := c1.toNat) (o := 0) HS (rD 3 r_a) Z Z (getD_some (d := []) (ltN c17)) Z Z Ii Z g) Z (GX.ls Z Z Z (HS.pk 4 [0, 2, 3] Z) (fun _ HS _ g => lB 0 HS Z na2 Z g) Z (qL Z Z (fun _ _ g => GO.ix Z Z Z U77 Gb ((Ca.elem (rD 4 r_a) c17.1 c17.2) _ HS).2.2.1 c18.1 c18.2 Z g) Z (GX.ls Z Z Z (HS.pk 4 [0, 2, 3] Z) (fun _ HS _ g => GO.Hf (T := Ad) (n := t9.toNat) HS (Ca.elem (rD 3 r_a) c17.1 c17.2) Z Z (Cs (ltN c18) h20) Dq Z g) Z (GX.l2 Z (GO.alloc HS Z Jf Z Z fun b21 wd22 HS => GX.fin (HS.pk 5 [1, 3, 4] Z) (GX.l2 Z (sW 0 HS Z Dq Z fun wd23 HS => ?_)))))))))))))
  refine GX.fin (HS.pk 5 [1, 3, 4] Z) (GX.nil (rN 2 Z ?_))
  obtain ⟨t24, h25, H⟩ := bI H
  refine rG (lW 0 HS Z Dq (fJ M8 Z (Bn.calls HS  h25) (fun _ wd26 ⟨h27, HS⟩ => ⟨_, h27, (nL ?_)⟩)))
  rcases iE H with ⟨c28, H⟩ | ⟨c28, H⟩
  ·
   refine yB Z c28 (sQ (rG (GO.Df (.agg [I 0, I 0].toArray) Z Z (fun _ => by kernel_rfl) Z (sW 2 HS Z Hd Z fun wd29 HS => aS Z (nL ?_)))))
   obtain ⟨rfl, rfl, rfl⟩ := Mt H
   exact G.Gq _ _ func163 Z (Gc.Gv (j := 2) (vs := [I 0, I 0]) HS Z Z Z Hd) Z ⟨Z, (HS.pk 5 [] Z)⟩
  refine nB Z (De c28) (rN 2 Z ?_)
  obtain ⟨t30, t31, t32, t33, h34, H⟩ := D9 H
  refine rG (fL b21 1 F4 Z (lB 0 HS Z na2 Z (fJ Km Z (Ct.calls HS  h34) (fun _ wd35 ⟨h36, HS⟩ => ⟨_, h36, (GO.alloc HS Z J8 Z Z fun b37 wd38 HS => sW 0 HS Z Jj Z fun wd39 HS => nL (sQ ?_))⟩))))
  obtain ⟨c40, H⟩ := iN H
  obtain ⟨c41, H⟩ := iN H
  obtain ⟨c42, H⟩ := iN H
  obtain ⟨c43, H⟩ := iN H
  obtain ⟨t44, h45, H⟩ := bI H
  refine G.Gy mixed (fun w => St w0 w (Box b37 131 [I t30, I t31, I t32, I t33] :: Box b21 107 [I e19.Tet, I e19.Perm] :: Box b14 131 [I t7, I t8, I t9, I t10] :: L)) [1, 3, 5, 7, 9, 11, 13, 15, 17] [0, 2, 6, 10, 14, 1, 3, 4, 5, 7, 8, 9, 11, 12, 13, 15, 16, 17, 18, 19, 20, 21, 22] [] (by kernel_rfl) (by kernel_rfl) (HS.drew.pk 6 [0, 1, 2] Z) ?_
  replace HS := HS.drew
  refine qL Z Z (fun _ _ g => fL b21 0 C9 Z g) Z (qL Z Z (fun _ _ g => GO.ixP 0 Z Z Z Z Gg sz2 Z Z g) Z (qL Z Z (fun _ _ g => GO.ixP 1 Z Z Z Z Gg sz2 Z Z g) Z (qL Z Z (fun _ _ g => GO.ixP 3 Z Z Z Z Gg sz2 Z Z g) Z (qL Z Z (fun _ _ g => GO.ixP 2 Z Z Z Z Gg sz2 Z Z g) Z (GX.ls Z Z Z (HS.pk 6 [0, 1, 2] Z) (fun _ HS _ g => lB 1 HS Z na2 Z g) Z (GX.ls Z Z Z (HS.pk 6 [0, 1, 2] Z) (fun _ HS _ g => lB 2 HS Z na2 Z g) Z (qL Z Z (fun _ _ g => GO.ixW Z Z Z Gg sz2 c40 Z g) Z (GX.ls Z Z Z (HS.pk 6 [0, 1, 2] Z) (fun _ HS _ g => GO.ldW (j := 0) ([t30, t31, t32, t33] : List Int) HS Z Z Z c40 Z Z na2 Z g) Z (GX.ls Z Z Z (HS.pk 6 [0, 1, 2] Z) (fun _ HS _ g => lB 2 HS Z na2 Z g) Z (qL Z Z (fun _ _ g => GO.ixW Z Z Z Gg sz2 c41 Z g) Z (GX.ls Z Z Z (HS.pk 6 [0, 1, 2] Z) (fun _ HS _ g => GO.ldW (j := 0) ([t30, t31, t32, t33] : List Int) HS Z Z Z c41 Z Z na2 Z g) Z (GX.ls Z Z Z (HS.pk 6 [0, 1, 2] Z) (fun _ HS _ g => lB 2 HS Z na2 Z g) Z (qL Z Z (fun _ _ g => GO.ixW Z Z Z Gg sz2 c42 Z g) Z (GX.ls Z Z Z (HS.pk 6 [0, 1, 2] Z) (fun _ HS _ g => GO.ldW (j := 0) ([t30, t31, t32, t33] : List Int) HS Z Z Z c42 Z Z na2 Z g) Z ?_))))))))))))))
  refine GX.ls Z Z Z (HS.pk 6 [0, 1, 2] Z) (fun _ HS _ g => lB 2 HS Z na2 Z g) Z (qL Z Z (fun _ _ g => GO.ixW Z Z Z Gg sz2 c43 Z g) Z (GX.ls Z Z Z (HS.pk 6 [0, 1, 2] Z) (fun _ HS _ g => GO.ldW (j := 0) ([t30, t31, t32, t33] : List Int) HS Z Z Z c43 Z Z na2 Z g) Z (qL Z Z (fun _ _ g => GO.Df (.agg [I (([t30, t31, t32, t33] : List Int).getD t7.toNat 0), I (([t30, t31, t32, t33] : List Int).getD t8.toNat 0), I (([t30, t31, t32, t33] : List Int).getD t10.toNat 0), I (([t30, t31, t32, t33] : List Int).getD t9.toNat 0)].toArray) Z Z (fun _ => by kernel_rfl) Z g) Z (GX.l2 Z (fJ Ps Z (Cf.calls HS  h45) (fun _ wd46 ⟨h47, HS⟩ => ⟨_, h47, (GX.fin (HS.pk 6 [0, 1, 2] Z) (qL Z Z (fun _ _ g => GO.Df (.agg [I e19.Tet, I t44].toArray) Z Z (fun _ => by kernel_rfl) Z g) Z (GX.l2 Z (sW 3 HS Z Hd Z fun wd48 HS => GX.fin (HS.pk 6 [0, 1, 2] Z) (GX.ps 1 Z (GX.nil ?_))))))⟩))))))
  obtain ⟨rfl, rfl, rfl⟩ := Mt H
  exact G.Gq _ _ func163 Z (Gc.Gv (j := 3) (vs := [I e19.Tet, I t44]) HS Z Z Z Hd) Z ⟨Z, (HS.pk 6 [] Z)⟩
theorem Cc.calls {c1 : List (List Ab)} {h1 : Int} {y_a : Nat → (Ty.slice 107 Ad).Lay} {r1 : List Ab} (HS : St w0 w (L)) (r_a : Ca w0 L (Ty.slice 107 Ad) A_a c_a y_a c1) (H : Cc.f K c1 h1 = some r1) :
    Calls prog 142 #[.agg [sV A_a c1 c_a].toArray, I h1] w (Cc.post w0 L r1) := by
  unfold Cc.f at H
  refine cG func142 Z ?_
  refine sQ (rG (bA HS Z fun b1 wd2 HS => aS Z (nL (sQ ?_))))
  obtain ⟨t3, t4, h5, H⟩ := Dv H
  refine rG (lW 0 HS Z Ep (mV Z (fJ oJ Z (Bd.calls HS (rD 1 r_a) h5) (fun _ wd6 ⟨h7, HS⟩ => ⟨_, h7, (GO.alloc HS Z Nz Z Z fun b8 wd9 HS => sW 0 HS Z Hd Z fun wd10 HS => nL (sQ (rG (lW 0 HS Z Hd (GO.Cr (el := 167) ([I t3, I t4]) HS Z Z (fun _ => by kernel_rfl) Z fun b11 wd12 HS => ?_)))))⟩))))
  replace HS := HS.Ey (T := Ad) (j := 0) Z Au uu ([(⟨t3, t4⟩ : Ab)] : List Ab) Z (Hq Z)
  refine GO.Gw (t := 13) (m := ([(⟨t3, t4⟩ : Ab)] : List Ab).length) (c' := ([(⟨t3, t4⟩ : Ab)] : List Ab).length) Z Z Z (aS Z (nL (rN 2 Z ?_)))
  refine G.name (fun k1 i1 => ?_)
  have m1 : ∀ g1, g1 ≤ K → ∀ (A35 : Option Addr) (c36 : Nat) (a1 : List Ab) (w : World), Cc.l1 K g1 c1 t3 t4 a1 = some r1 → St w0 w (Box b1 31 [sV A_a c1 c_a] :: Box b8 167 [I t3, I t4] :: Own Ad 167 A35 c36 uu a1 :: L) → G prog 142 37 [(2, pT b1), (5, pT b8), (6, sV A35 a1 c36)] k1 w (Cc.post w0 L r1) := by
   refine lp (fun _ _ _ w H _ => by rw [Cc.l1] at H; cases H) fun n1 p1 o1 A35 c36 a1 w H HS => ?_
   rw [Cc.l1] at H
   subst i1
   refine rN 2 Z ?_
   obtain ⟨c60, H⟩ := iN H
   have h61 := (rk (ro 2 Z) HS)
   obtain ⟨e62, h63, H⟩ := Dl H
   obtain ⟨t64, t65, t66, h67, H⟩ := I6 H
   refine G.I8 mixed (by decide) (fun b a w => ∃ (b70 : Nat) (d1 : Ck), RS 37 [(2, pT b1), (5, pT b8), (6, sV A35 a1 c36)] [rv 15 (.agg [sV A_a c1 c_a].toArray), rv 16 (sV A35 a1 c36), rv 17 (sV A35 a1 c36), rv 18 (I (a1.length : Int)), rv 19 (I (w64 ((a1.length : Int) - 1))), rv 20 (.pointer (some (ea A35 (((w64 ((a1.length : Int) - 1)).toNat) * 2)))), rv 21 (.agg [I e62.Tet, I e62.Perm].toArray), rv 22 (.tuple #[.agg [I t64, I t65].toArray, .bool t66]), rv 14 (.tuple #[.agg [I t64, I t65].toArray, .bool t66]), rv 23 (.agg [I t64, I t65].toArray), rv 24 (.bool t66), rv 7 (pT b70), none, rv 8 (.bool t66)] b a ∧ St w0 w (Box b1 31 [sV A_a c1 c_a] :: Box b8 167 [I t3, I t4] :: Own Ad 167 A35 c36 uu a1 :: d1 :: L) ∧ (b 11 = true → b 12 = false → d1 = Box b70 167 [I 0, I 0]) ∧ (b 12 = true → d1 = Box b70 167 [I t64, I t65])) ?_ ?_ ?_
   · exact fun a hs => ⟨0, Emp, hs.init Z, (HS.drew.emp.pk 4 [1, 2, 3, 0] Z), fun h => Bool.noConfusion h, fun h => Bool.noConfusion h⟩
   ·
    intro j b a w hj
    refine exI fun b70 => exI fun d1 => anI fun hs => fun hM q => ?_
    have HS := hM.1
    match j, hj with
    | 0, _ =>
     refine hs.at q [] [] (lW 0 HS Z Ep (hs.fin q Z fun _ hs => ⟨_, _, hs, hM⟩))
    | 1, _ =>
     refine hs.at q [] [] (mV Z (hs.fin q Z fun _ hs => ⟨_, _, hs, hM⟩))
    | 2, _ =>
     refine hs.at q [] [] (mV Z (hs.fin q Z fun _ hs => ⟨_, _, hs, hM⟩))
    | 3, _ =>
     refine hs.at q [2] [] (lS Z Z Ig Z (hs.fin q Z fun _ hs => ⟨_, _, hs, HS, hM.2⟩))
    | 4, _ =>
     refine hs.at q [3] [] (GO.sub Z Z Z Z (hs.fin q Z fun _ hs => ⟨_, _, hs, hM⟩))
    | 5, _ =>
     refine hs.at q [1, 4] [] (iX Z Ig H9 h61 c60 (hs.fin q Z fun _ hs => ⟨_, _, hs, hM⟩))
    | 6, _ =>
     refine hs.at q [5] [] (GO.Hf (T := Ad) (n := (w64 ((a1.length : Int) - 1)).toNat) HS (ro 2 Z) Z Z (Cs (ltN c60) h63) Hd Z (hs.fin q Z fun _ hs => ⟨_, _, hs, hM⟩))
    | 7, _ =>
     refine hs.at q [0, 6] [] (fJ mW Z (Eu.calls HS (rD 4 r_a) h67) (fun _ wd68 ⟨h69, HS⟩ => ⟨_, h69, (hs.fin q Z fun _ hs => ⟨_, _, hs, HS, hM.2⟩)⟩))
    | 8, _ =>
     refine hs.at q [7] [] (mV Z (hs.fin q Z fun _ hs => ⟨_, _, hs, hM⟩))
    | 9, _ =>
     refine hs.at q [8] [] (GO.extract Z Z Z Z (hs.fin q Z fun _ hs => ⟨_, _, hs, hM⟩))
    | 10, _ =>
     refine hs.at q [8] [] (GO.extract Z Z Z Z (hs.fin q Z fun _ hs => ⟨_, _, hs, hM⟩))
    | 11, _ =>
     refine (anI fun HS => anI fun f1 => fun e1 => ?_) hM
     refine hs.at q [] [] (GO.alloc HS Z Nz Z Z fun b70 wd71 HS => hs.Kh q [11] (fun _ hs => ⟨b70, Box b70 167 [I 0, I 0], hs, HS.pk 5 [1, 2, 3, 0] Z, fun _ _ => Z, fun hh => (q.no 12 hh).elim⟩) Z Z)
    | 12, _ =>
     refine (anI fun HS => anI fun f1 => fun e1 => ?_) hM
     have hb11 := q.on 11
     obtain rfl := f1 hb11 q.hb
     refine hs.at q [11, 9] [] (sW 3 HS Z Hd Z fun wd72 HS => hs.Qm q Z fun _ hs => ⟨b70, Box b70 167 [I t64, I t65], hs, HS, fun _ h => Bool.noConfusion h, fun _ => Z⟩)
    | 13, _ =>
     refine hs.at q [10] [] (aS Z (hs.fin q Z fun _ hs => ⟨_, _, hs, hM⟩))
    | k + 14, hj => exact absurd hj (Nat.not_lt.2 (Nat.le_add_left 14 k))
   ·
    intro b a w hall
    refine exI fun b70 => exI fun d1 => anI fun hs => anI fun HS => anI fun f1 => fun e1 => ?_
    obtain rfl := e1 (hall 12 (by decide))
    refine G.at (hs.all hall) (rN 2 Z ?_)
    rcases iS H with ⟨c74, H⟩ | ⟨c74, H⟩
    ·
     refine rG (pS 3 Z (kN 27 Z (congrArg Bool.not (De c74)) (oF Z (oF Z (oF Z (GO.Ib Z Z Z Z Z (nL (rN 3 Z ?_))))))))
     obtain rfl := sI H
     exact rT _ func142 Z Z ⟨_, _, Z, (HS.pk 4 [2] Z)⟩
    refine rG (pS 3 Z (kN 27 Z (congrArg Bool.not c74) (oN Z (lW 3 HS Z Hd (bK (oN Z (lW 1 HS Z Hd (bK (oN Z (GO.eT Z Z Z kE (fun _ => lQ) Z (bK (GO.Ir Z Z Z Z Z (nL ?_)))))))))))))
    rcases iE H with ⟨c75, H⟩ | ⟨c75, H⟩
    ·
     refine yB Z (tT c75) (rN 2 Z ?_)
     obtain rfl := sI H
     exact rT _ func142 Z Z ⟨_, _, Z, (HS.pk 4 [2] Z)⟩
    refine nB Z (tF c75) (G.skip ?_)
    obtain ⟨c81, H⟩ := iN H
    refine rG (mV Z (lW 3 HS Z Hd (GO.Cr (el := 167) ([I t64, I t65]) HS Z Z (fun _ => by kernel_rfl) Z fun b76 wd77 HS => GO.app1 (T := Ad) (j := 3) (jb := 0) (⟨t64, t65⟩ : Ab) HS Z Z Au Z Z Z Ig dU Z Z Z c81 Z fun A79 c80 wd78 HS => aS Z (nL (rN 2 Z (gW (o1 n1 (lR _) _ _ _ _ H (HS.pk 5 [1, 2, 3] Z)) Z))))))
  exact gW (m1 K (lR _) _ _ _ _ H (HS.pk 3 [2, 1, 0] Z)) Z
theorem Bc.calls {a1 : List (List Ab)} {o A : Int} {y_a : Nat → (Ty.slice 107 Ad).Lay} {r1 : Option (List Int × List (Gd × Dn) × Int × List Fg)} (HS : St w0 w (L)) (r_a : Ca w0 L (Ty.slice 107 Ad) A_a c_a y_a a1) (H : Bc.f K a1 o A = some r1) :
    Calls prog 112 #[.agg [sV A_a a1 c_a].toArray, I o, I A] w (Bc.post w0 L r1) := by
  unfold Bc.f at H
  refine cG func112 Z ?_
  refine sQ (rG (bA HS Z fun b1 wd2 HS => aS Z (nL (sQ ?_))))
  obtain ⟨t3, h4, H⟩ := bI H
  obtain ⟨c9, H⟩ := iN H
  refine rG (lW 0 HS Z Ep (fJ Rq Z (Bj.calls HS (rD 1 r_a) h4) (fun _ wd7 ⟨A5, c6, h8, HS⟩ => ⟨_, h8, (pS 4 Z (iX Z U56 sz2 (rk (ro 0 Z) HS) c9 (GO.Ce (T := (Ar .i64)) (n := (w64 ((w64 (6 * o)) + A)).toNat) (o := 0) HS (ro 0 Z) Z Z (getD_some (d := 0) (ltN c9)) Z Z na2 Z (aS Z (nL (rN 2 Z ?_))))))⟩)))
  obtain ⟨t25, h26, H⟩ := bI H
  obtain ⟨c31, H⟩ := iN H
  rcases iE H with ⟨c32, H⟩ | ⟨c32, H⟩
  ·
   refine rG (lW 1 HS Z Ep (fJ eP Z (Bh.calls HS (rD 2 r_a) h26) (fun _ wd29 ⟨A27, c28, h30, HS⟩ => ⟨_, h30, (mV Z (iX Z K7 sz4 (rk (ro 0 Z) HS) c31 (GO.Ce (T := Gl) (n := (t3.getD ((w64 ((w64 (6 * o)) + A)).toNat) 0).toNat) (o := 0) HS (ro 0 Z) Z Z (getD_some (d := false) (ltN c31)) Z Z na4 Z (mV Z (kN 31 Z c32 (oF Z (oF Z (oF Z (oF Z (oF Z (GO.Ib Z Z Z Z Z (nL ?_))))))))))))⟩)))
   refine rN 3 Z ?_
   replace HS := HS.emp
   obtain rfl := sI H
   exact rT _ func112 Z Z ⟨0, none, 0, 0, none, 0, Z, (HS.pk 4 [0] Z)⟩
  obtain ⟨t33, h34, H⟩ := bI H
  obtain ⟨c39, H⟩ := iN H
  refine rG (lW 1 HS Z Ep (fJ eP Z (Bh.calls HS (rD 2 r_a) h26) (fun _ wd29 ⟨A27, c28, h30, HS⟩ => ⟨_, h30, (mV Z (iX Z K7 sz4 (rk (ro 0 Z) HS) c31 (GO.Ce (T := Gl) (n := (t3.getD ((w64 ((w64 (6 * o)) + A)).toNat) 0).toNat) (o := 0) HS (ro 0 Z) Z Z (getD_some (d := false) (ltN c31)) Z Z na4 Z (mV Z (kN 31 Z (De c32) (oN Z (lW 2 HS Z Ep (bK (oN Z (fJ aY Z (Al.calls HS (rD 3 r_a) h34) (fun _ wd37 ⟨A35, c36, h38, HS⟩ => ⟨_, h38, (bK (oN Z ?_))⟩)))))))))))⟩)))
  refine mV Z (bK (oN Z (iX Z K7 sz4 (rk (ro 0 Z) HS) c39 (bK (oN Z (GO.Ce (T := Gl) (n := (t3.getD ((w64 ((w64 (6 * o)) + A)).toNat) 0).toNat) (o := 0) HS (ro 0 Z) Z Z (getD_some (d := false) (ltN c39)) Z Z na4 Z (bK (GO.Ir Z Z Z Z Z (nL ?_)))))))))
  rcases iE H with ⟨c40, H⟩ | ⟨c40, H⟩
  ·
   refine yB Z c40 (rN 2 Z ?_)
   replace HS := HS.emp
   obtain rfl := sI H
   exact rT _ func112 Z Z ⟨0, none, 0, 0, none, 0, Z, (HS.pk 5 [0] Z)⟩
  refine nB Z (De c40) (rN 2 Z ?_)
  obtain ⟨t41, h42, H⟩ := bI H
  refine rG (lW 3 HS Z Ep (mV Z (fJ oI Z (Cc.calls HS (rD 4 r_a) h42) (fun _ wd45 ⟨A43, c44, h46, HS⟩ => ⟨_, h46, (aS Z (nL (rN 2 Z ?_)))⟩))))
  rcases iS H with ⟨c59, H⟩ | ⟨c59, H⟩
  ·
   refine G.lex mixed [0, 1, 2, 3, 4, 5, 6, 8, 9, 10, 7, 11, 12, 13, 14, 15, 16, 17, 19, 20, 21, 18, 22, 23, 24, 25, 26, 27, 28, 30, 31, 32, 29, 33, 34, 35] (by kernel_rfl) ?_
   replace HS := HS.drew
   refine GX.ps 1 Z (GX.l1 Z Z Z (fun _ g => lS Z Z Ig Z g) Z (GX.ps 1 Z (qL Z Z (fun _ _ g => mV Z (kN 44 Z (nF c59) g)) Z (qL Z Z (fun _ _ g => oF Z g) Z (qL Z Z (fun _ _ g => oF Z g) Z (qL Z Z (fun _ _ g => oF Z g) Z (qL Z Z (fun _ _ g => oF Z g) Z (qL Z Z (fun _ _ g => oF Z g) Z (qL Z Z (fun _ _ g => oF Z g) Z (GX.l1 Z Z Z (fun _ g => oF Z g) Z (GX.l1 Z Z Z (fun _ g => oF Z g) Z (qL Z Z (fun _ _ g => oF Z g) Z (GX.ps 2 Z (qL Z Z (fun _ _ g => oF Z g) Z ?_))))))))))))))
   refine qL Z Z (fun _ _ g => oF Z g) Z (qL Z Z (fun _ _ g => oF Z g) Z (qL Z Z (fun _ _ g => oF Z g) Z (qL Z Z (fun _ _ g => oF Z g) Z (qL Z Z (fun _ _ g => oF Z g) Z (GX.l1 Z Z Z (fun _ g => oF Z g) Z (GX.l1 Z Z Z (fun _ g => oF Z g) Z (qL Z Z (fun _ _ g => oF Z g) Z (GX.ps 2 Z (qL Z Z (fun _ _ g => oF Z g) Z (qL Z Z (fun _ _ g => oF Z g) Z (qL Z Z (fun _ _ g => oF Z g) Z (qL Z Z (fun _ _ g => oF Z g) Z (qL Z Z (fun _ _ g => oF Z g) Z (qL Z Z (fun _ _ g => oF Z g) Z ?_))))))))))))))
   refine GX.l1 Z Z Z (fun _ g => oF Z g) Z (GX.l1 Z Z Z (fun _ g => oF Z g) Z (qL Z Z (fun _ _ g => oF Z g) Z (GX.ps 1 Z (GX.nil (rN 3 Z ?_)))))
   replace HS := HS.emp
   obtain rfl := sI H
   exact rT _ func112 Z Z ⟨0, none, 0, 0, none, 0, Z, (HS.pk 6 [0] Z)⟩
  obtain ⟨c60, H⟩ := iN H
  have h61 := (rk (ro 0 Z) HS)
  obtain ⟨e62, h63, H⟩ := Dl H
  obtain ⟨c64, H⟩ := iN H
  have h65 := (rk (ro 0 Z) HS)
  obtain ⟨e66, h67, H⟩ := Dl H
  rcases iE H with ⟨c68, H⟩ | ⟨c68, H⟩
  ·
   refine G.lex mixed [0, 1, 2, 3, 4, 5, 6, 8, 9, 10, 7, 11, 12, 13, 14, 15, 16, 17, 19, 20, 21, 18, 22, 23, 24, 25, 26, 27, 28, 30, 31, 32, 29, 33, 34, 35] (by kernel_rfl) ?_
   replace HS := HS.drew
   refine GX.ps 1 Z (GX.l1 Z Z Z (fun _ g => lS Z Z Ig Z g) Z (GX.ps 1 Z (qL Z Z (fun _ _ g => mV Z (kN 44 Z (nT c59) g)) Z (qL Z Z (fun _ _ g => oN Z (mV Z (bK g))) Z (qL Z Z (fun _ _ g => oN Z (iX Z Ig H9 h61 c60 (bK g))) Z (qL Z Z (fun _ _ g => oN Z (GO.fld (ea A43 (0 * 2)) Z Z F3 Z Z (bK g))) Z (qL Z Z (fun _ _ g => oN Z (mV Z (bK g))) Z (qL Z Z (fun _ _ g => oN Z (iX Z Ig H9 h65 c64 (bK g))) Z (qL Z Z (fun _ _ g => oN Z (GO.fld (ea A43 (1 * 2)) Z Z F3 Z Z (bK g))) Z (GX.l1 Z Z Z (fun _ g => oN Z (GO.Ce (T := Ad) (n := 0) (o := 0) HS (ro 0 Z) Z Z (Cs (ltN c60) h63) Z Z na2 Z (bK g))) Z (GX.l1 Z Z Z (fun _ g => oN Z (GO.Ce (T := Ad) (n := 1) (o := 0) HS (ro 0 Z) Z Z (Cs (ltN c64) h67) Z Z na2 Z (bK g))) Z (qL Z Z (fun _ _ g => oN Z (GO.eql Z Z Z Z (bK g))) Z (GX.ps 1 Z (qL Z Z (fun _ _ g => mV Z (kN 55 Z (tT c68) g)) Z ?_))))))))))))))
   refine qL Z Z (fun _ _ g => oF Z g) Z (qL Z Z (fun _ _ g => oF Z g) Z (qL Z Z (fun _ _ g => oF Z g) Z (qL Z Z (fun _ _ g => oF Z g) Z (qL Z Z (fun _ _ g => oF Z g) Z (qL Z Z (fun _ _ g => oF Z g) Z (GX.l1 Z Z Z (fun _ g => oF Z g) Z (GX.l1 Z Z Z (fun _ g => oF Z g) Z (qL Z Z (fun _ _ g => oF Z g) Z (GX.ps 2 Z (qL Z Z (fun _ _ g => oF Z g) Z (qL Z Z (fun _ _ g => oF Z g) Z (qL Z Z (fun _ _ g => oF Z g) Z (qL Z Z (fun _ _ g => oF Z g) Z (qL Z Z (fun _ _ g => oF Z g) Z ?_))))))))))))))
   refine qL Z Z (fun _ _ g => oF Z g) Z (GX.l1 Z Z Z (fun _ g => oF Z g) Z (GX.l1 Z Z Z (fun _ g => oF Z g) Z (qL Z Z (fun _ _ g => oF Z g) Z (GX.ps 1 Z (GX.nil (rN 3 Z ?_))))))
   replace HS := HS.emp
   obtain rfl := sI H
   exact rT _ func112 Z Z ⟨0, none, 0, 0, none, 0, Z, (HS.pk 6 [0] Z)⟩
  obtain ⟨c69, H⟩ := iN H
  obtain ⟨e70, h71, H⟩ := Dl H
  rcases iE H with ⟨c72, H⟩ | ⟨c72, H⟩
  ·
   refine G.lex mixed [0, 1, 2, 3, 4, 5, 6, 8, 9, 10, 7, 11, 12, 13, 14, 15, 16, 17, 19, 20, 21, 18, 22, 23, 24, 25, 26, 27, 28, 30, 31, 32, 29, 33, 34, 35] (by kernel_rfl) ?_
   replace HS := HS.drew
   refine GX.ps 1 Z (GX.l1 Z Z Z (fun _ g => lS Z Z Ig Z g) Z (GX.ps 1 Z (qL Z Z (fun _ _ g => mV Z (kN 44 Z (nT c59) g)) Z (qL Z Z (fun _ _ g => oN Z (mV Z (bK g))) Z (qL Z Z (fun _ _ g => oN Z (iX Z Ig H9 h61 c60 (bK g))) Z (qL Z Z (fun _ _ g => oN Z (GO.fld (ea A43 (0 * 2)) Z Z F3 Z Z (bK g))) Z (qL Z Z (fun _ _ g => oN Z (mV Z (bK g))) Z (qL Z Z (fun _ _ g => oN Z (iX Z Ig H9 h65 c64 (bK g))) Z (qL Z Z (fun _ _ g => oN Z (GO.fld (ea A43 (1 * 2)) Z Z F3 Z Z (bK g))) Z (GX.l1 Z Z Z (fun _ g => oN Z (GO.Ce (T := Ad) (n := 0) (o := 0) HS (ro 0 Z) Z Z (Cs (ltN c60) h63) Z Z na2 Z (bK g))) Z (GX.l1 Z Z Z (fun _ g => oN Z (GO.Ce (T := Ad) (n := 1) (o := 0) HS (ro 0 Z) Z Z (Cs (ltN c64) h67) Z Z na2 Z (bK g))) Z (qL Z Z (fun _ _ g => oN Z (GO.eql Z Z Z Z (bK g))) Z (GX.ps 1 Z (qL Z Z (fun _ _ g => mV Z (kN 55 Z (tF c68) g)) Z ?_))))))))))))))
   refine qL Z Z (fun _ _ g => oN Z (mV Z (bK g))) Z (qL Z Z (fun _ _ g => oN Z (iX Z Ig H9 (rk (ro 0 Z) HS) c64 (bK g))) Z (qL Z Z (fun _ _ g => oN Z (GO.fld (ea A43 (1 * 2)) Z Z F3 Z Z (bK g))) Z (qL Z Z (fun _ _ g => oN Z (mV Z (bK g))) Z (qL Z Z (fun _ _ g => oN Z (iX Z Ig H9 (rk (ro 0 Z) HS) c69 (bK g))) Z (qL Z Z (fun _ _ g => oN Z (GO.fld (ea A43 (2 * 2)) Z Z F3 Z Z (bK g))) Z (GX.l1 Z Z Z (fun _ g => oN Z (GO.Ce (T := Ad) (n := 1) (o := 0) HS (ro 0 Z) Z Z (Cs (ltN c64) h67) Z Z na2 Z (bK g))) Z (GX.l1 Z Z Z (fun _ g => oN Z (GO.Ce (T := Ad) (n := 2) (o := 0) HS (ro 0 Z) Z Z (Cs (ltN c69) h71) Z Z na2 Z (bK g))) Z (qL Z Z (fun _ _ g => oN Z (GO.eql Z Z Z Z (bK g))) Z (GX.ps 1 Z (qL Z Z (fun _ _ g => mV Z (kN 66 Z (tT c72) g)) Z (qL Z Z (fun _ _ g => oF Z g) Z (qL Z Z (fun _ _ g => oF Z g) Z (qL Z Z (fun _ _ g => oF Z g) Z (qL Z Z (fun _ _ g => oF Z g) Z ?_))))))))))))))
   refine qL Z Z (fun _ _ g => oF Z g) Z (qL Z Z (fun _ _ g => oF Z g) Z (GX.l1 Z Z Z (fun _ g => oF Z g) Z (GX.l1 Z Z Z (fun _ g => oF Z g) Z (qL Z Z (fun _ _ g => oF Z g) Z (GX.ps 1 Z (GX.nil (rN 3 Z ?_)))))))
   replace HS := HS.emp
   obtain rfl := sI H
   exact rT _ func112 Z Z ⟨0, none, 0, 0, none, 0, Z, (HS.pk 6 [0] Z)⟩
  refine G.lex mixed [0, 1, 2, 3, 4, 5, 6, 8, 9, 10, 7, 11, 12, 13, 14, 15, 16, 17, 19, 20, 21, 18, 22, 23, 24, 25, 26, 27, 28, 30, 31, 32, 29, 33, 34, 35] (by kernel_rfl) ?_
  replace HS := HS.drew
  refine GX.ps 1 Z (GX.l1 Z Z Z (fun _ g => lS Z Z Ig Z g) Z (GX.ps 1 Z (qL Z Z (fun _ _ g => mV Z (kN 44 Z (nT c59) g)) Z (qL Z Z (fun _ _ g => oN Z (mV Z (bK g))) Z (qL Z Z (fun _ _ g => oN Z (iX Z Ig H9 h61 c60 (bK g))) Z (qL Z Z (fun _ _ g => oN Z (GO.fld (ea A43 (0 * 2)) Z Z F3 Z Z (bK g))) Z (qL Z Z (fun _ _ g => oN Z (mV Z (bK g))) Z (qL Z Z (fun _ _ g => oN Z (iX Z Ig H9 h65 c64 (bK g))) Z (qL Z Z (fun _ _ g => oN Z (GO.fld (ea A43 (1 * 2)) Z Z F3 Z Z (bK g))) Z (GX.l1 Z Z Z (fun _ g => oN Z (GO.Ce (T := Ad) (n := 0) (o := 0) HS (ro 0 Z) Z Z (Cs (ltN c60) h63) Z Z na2 Z (bK g))) Z (GX.l1 Z Z Z (fun _ g => oN Z (GO.Ce (T := Ad) (n := 1) (o := 0) HS (ro 0 Z) Z Z (Cs (ltN c64) h67) Z Z na2 Z (bK g))) Z (qL Z Z (fun _ _ g => oN Z (GO.eql Z Z Z Z (bK g))) Z (GX.ps 1 Z (qL Z Z (fun _ _ g => mV Z (kN 55 Z (tF c68) g)) Z ?_))))))))))))))
  refine qL Z Z (fun _ _ g => oN Z (mV Z (bK g))) Z (qL Z Z (fun _ _ g => oN Z (iX Z Ig H9 (rk (ro 0 Z) HS) c64 (bK g))) Z (qL Z Z (fun _ _ g => oN Z (GO.fld (ea A43 (1 * 2)) Z Z F3 Z Z (bK g))) Z (qL Z Z (fun _ _ g => oN Z (mV Z (bK g))) Z (qL Z Z (fun _ _ g => oN Z (iX Z Ig H9 (rk (ro 0 Z) HS) c69 (bK g))) Z (qL Z Z (fun _ _ g => oN Z (GO.fld (ea A43 (2 * 2)) Z Z F3 Z Z (bK g))) Z (GX.l1 Z Z Z (fun _ g => oN Z (GO.Ce (T := Ad) (n := 1) (o := 0) HS (ro 0 Z) Z Z (Cs (ltN c64) h67) Z Z na2 Z (bK g))) Z (GX.l1 Z Z Z (fun _ g => oN Z (GO.Ce (T := Ad) (n := 2) (o := 0) HS (ro 0 Z) Z Z (Cs (ltN c69) h71) Z Z na2 Z (bK g))) Z (qL Z Z (fun _ _ g => oN Z (GO.eql Z Z Z Z (bK g))) Z (GX.ps 1 Z (qL Z Z (fun _ _ g => mV Z (kN 66 Z (tF c72) g)) Z (qL Z Z (fun _ _ g => oN Z (mV Z (bK g))) Z (qL Z Z (fun _ _ g => oN Z (iX Z Ig H9 (rk (ro 0 Z) HS) c69 (bK g))) Z (qL Z Z (fun _ _ g => oN Z (GO.fld (ea A43 (2 * 2)) Z Z F3 Z Z (bK g))) Z (qL Z Z (fun _ _ g => oN Z (mV Z (bK g))) Z ?_))))))))))))))
  refine qL Z Z (fun _ _ g => oN Z (iX Z Ig H9 (rk (ro 0 Z) HS) c60 (bK g))) Z (qL Z Z (fun _ _ g => oN Z (GO.fld (ea A43 (0 * 2)) Z Z F3 Z Z (bK g))) Z (GX.l1 Z Z Z (fun _ g => oN Z (GO.Ce (T := Ad) (n := 2) (o := 0) HS (ro 0 Z) Z Z (Cs (ltN c69) h71) Z Z na2 Z (bK g))) Z (GX.l1 Z Z Z (fun _ g => oN Z (GO.Ce (T := Ad) (n := 0) (o := 0) HS (ro 0 Z) Z Z (Cs (ltN c60) h63) Z Z na2 Z (bK g))) Z (qL Z Z (fun _ _ g => oN Z (GO.eql Z Z Z Z (bK g))) Z (GX.ps 1 Z (GX.nil ?_))))))
  rcases iE H with ⟨c73, H⟩ | ⟨c73, H⟩
  ·
   refine yB Z (tT c73) (rN 2 Z ?_)
   replace HS := HS.emp
   obtain rfl := sI H
   exact rT _ func112 Z Z ⟨0, none, 0, 0, none, 0, Z, (HS.pk 6 [0] Z)⟩
  refine nB Z (tF c73) (rN 2 Z ?_)
  have h74 := (rk (ro 0 Z) HS)
  have h75 := (rk (ro 0 Z) HS)
  have h76 := (rk (ro 0 Z) HS)
  obtain ⟨t79, t80, t81, t82, h83, H⟩ := D9 H
  refine G.lex mixed [0, 1, 2, 4, 5, 6, 8, 9, 10, 3, 7, 11, 12, 13, 14] (by kernel_rfl) ?_
  replace HS := HS.drew
  refine GX.ps 1 Z (qL Z Z (fun _ _ g => iX Z Ig H9 h74 c60 g) Z (qL Z Z (fun _ _ g => GO.fld (ea A43 (0 * 2)) Z Z F3 Z Z g) Z (GX.ps 1 Z (qL Z Z (fun _ _ g => iX Z Ig H9 h75 c64 g) Z (qL Z Z (fun _ _ g => GO.fld (ea A43 (1 * 2)) Z Z F3 Z Z g) Z (GX.ps 1 Z (qL Z Z (fun _ _ g => iX Z Ig H9 h76 c69 g) Z (qL Z Z (fun _ _ g => GO.fld (ea A43 (2 * 2)) Z Z F3 Z Z g) Z (GX.l1 Z Z Z (fun _ g => GO.Ce (T := Ad) (n := 0) (o := 0) HS (ro 0 Z) Z Z (Cs (ltN c60) h63) Z Z na2 Z g) Z (GX.l1 Z Z Z (fun _ g => GO.Ce (T := Ad) (n := 1) (o := 0) HS (ro 0 Z) Z Z (Cs (ltN c64) h67) Z Z na2 Z g) Z (GX.l1 Z Z Z (fun _ g => GO.Ce (T := Ad) (n := 2) (o := 0) HS (ro 0 Z) Z Z (Cs (ltN c69) h71) Z Z na2 Z g) Z (GX.l2 Z (GO.Cr (el := 2) ([I e62.Tet, I e66.Tet, I e70.Tet]) HS Z Z (fun _ => by kernel_rfl) Z fun b77 wd78 HS => GX.fin tv ?_)))))))))))))
  refine GX.l2 Z ?_
  replace HS := HS.Ey (T := (Ar .i64)) (j := 0) Z Au uu ([e62.Tet, e66.Tet, e70.Tet] : List Int) Z (Hq Z)
  refine GO.Gw (t := 89) (m := ([e62.Tet, e66.Tet, e70.Tet] : List Int).length) (c' := ([e62.Tet, e66.Tet, e70.Tet] : List Int).length) Z Z Z ?_
  replace HS := HS.pk 6 [0, 1, 2, 3, 4, 5] Z
  refine fJ Vo Z (Fh.calls HS  h83) (fun _ wd90 ⟨b84, A85, c86, b87, A88, c89, h91, HS⟩ => ⟨_, h91, (GX.fin tv (GX.ps 1 Z (GX.nil (rN 2 Z (rG (mV Z (lS Z Z Ig Z (mV Z (nL (rN 2 Z ?_))))))))))⟩)
  refine G.name (fun e1 d1 => ?_)
  have f1 : ∀ c1, c1 ≤ K → ∀ (x133 : List (Gd × Dn)) (x134 : Int) (w : World), Bc.l1 K c1 t41 t79 t81 t82 x133 x134 = some r1 → St w0 w (Box b84 104 [sV A85 t79 c86, .map (some b87), I t81, sV A88 t82 c89] :: Own (Ar .i64) 2 A85 c86 uu t79 :: Hw b87 Fz Dy x133 :: Own Ha 131 A88 c89 uu t82 :: Own Ad 167 A43 c44 uu t41 :: L) → G prog 112 162 [(9, pT b84), (91, sV A43 t41 c44), (92, I (t41.length : Int)), (93, I x134)] e1 w (Bc.post w0 L r1) := by
   refine lp (fun _ _ w H _ => by rw [Bc.l1] at H; cases H) fun g1 i1 h1 x133 x134 w H HS => ?_
   rw [Bc.l1] at H
   subst d1
   refine rN 3 Z ?_
   rcases iS H with ⟨c179, H⟩ | ⟨c179, H⟩
   ·
    refine nB Z (tF c179) (rN 2 Z (rG (mV Z (GO.Df (.agg [I 0, I 0, I 1, I 0].toArray) Z Z (fun _ => by kernel_rfl) Z (GO.Cr (el := 131) ([I 0, I 0, I 1, I 0]) HS Z Z (fun _ => by kernel_rfl) Z fun b220 wd221 HS => GO.M9 Z Z Z (fL b84 3 Nr Z ?_))))))
    replace HS := HS.Ey (T := Ha) (j := 0) Z Au uu ([(⟨0, 0, 1, 0⟩ : Fg)] : List Fg) Z (Hq Z)
    refine GO.Gw (t := 158) (m := ([(⟨0, 0, 1, 0⟩ : Fg)] : List Fg).length) (c' := ([(⟨0, 0, 1, 0⟩ : Fg)] : List Fg).length) Z Z Z (GO.Gu (j := 1) (vs := [sV (sb b220) ([(⟨0, 0, 1, 0⟩ : Fg)] : List Fg) (([(⟨0, 0, 1, 0⟩ : Fg)] : List Fg).length)]) ([sV A85 t79 c86, .map (some b87), I t81, sV (sb b220) ([(⟨0, 0, 1, 0⟩ : Fg)] : List Fg) (([(⟨0, 0, 1, 0⟩ : Fg)] : List Fg).length)]) HS Z Z Z Z Z (htN Tk Z) Z Z Z fun wd222 HS => nL (rN 2 Z ?_))
    replace HS := HS.pk 6 [1, 2, 3, 0, 4, 5] Z
    replace HS := St.opt (F := (fun x => [Box b84 104 [.slice A85 x.1.length c86, .map (some b87), I x.2.2.1, .slice (sb b220) x.2.2.2.length ([(⟨0, 0, 1, 0⟩ : Fg)] : List Fg).length], Own (Ar .i64) 2 A85 c86 uu x.1, Hw b87 Fz Dy x.2.1, Own Ha 131 (sb b220) ([(⟨0, 0, 1, 0⟩ : Fg)] : List Fg).length uu x.2.2.2])) (t79, x133, t81, ([(⟨0, 0, 1, 0⟩ : Fg)] : List Fg)) HS Z
    obtain rfl := sI H
    exact rT _ func112 Z Z ⟨_, _, _, _, _, _, Z, (HS.pk 3 [0] Z)⟩
   refine yB Z (tT c179) (rN 4 Z ?_)
   obtain ⟨c180, H⟩ := iN H
   obtain ⟨e181, h182, H⟩ := Dl H
   refine rG (mV Z (iX Z Ig H9 (rk (ro 4 Z) HS) c180 (GO.Hf (T := Ad) (n := x134.toNat) HS (ro 4 Z) Z Z (Cs (ltN c180) h182) Hd Z (GO.alloc HS Z Nz Z Z fun b183 wd184 HS => aS Z (sW 0 HS Z Hd Z fun wd185 HS => nL (sQ ?_))))))
   obtain ⟨t186, t187, t188, t189, h190, H⟩ := D9 H
   refine rG (fL b183 1 La Z (lB 0 HS Z na2 Z (fJ Km Z (Ct.calls HS  h190) (fun _ wd191 ⟨h192, HS⟩ => ⟨_, h192, (GO.alloc HS Z J8 Z Z fun b193 wd194 HS => sW 0 HS Z Jj Z fun wd195 HS => nL (sQ (rG (pS 4 Z (GO.rem Z Z Z (by decide) Z (pS 3 Z (GO.rem Z Z Z (by decide) Z (pS 4 Z (nL ?_)))))))))⟩))))
   refine sQ (rG (GO.alloc HS Z J8 Z Z fun b196 wd197 HS => GO.alloc HS Z J8 Z Z fun b198 wd199 HS => nL (sQ ?_)))
   obtain ⟨c200, H⟩ := iN H
   obtain ⟨c202, H⟩ := iN H
   obtain ⟨c204, H⟩ := iN H
   obtain ⟨c206, H⟩ := iN H
   refine G.Gy mixed (fun w => St w0 w (Box b193 131 [I t186, I t187, I t188, I t189] :: L)) [1, 3, 5, 7] [0, 2, 4, 6, 8, 9, 10, 1, 11, 3, 5, 7, 12, 13, 14, 15, 16, 17, 18] [] (by kernel_rfl) (by kernel_rfl) (HS.drew.pk 9 [2] Z) ?_
   replace HS := HS.drew
   refine qL Z Z (fun _ _ g => GO.ixP 0 Z Z Z Z Gg sz2 Z Z g) Z (qL Z Z (fun _ _ g => GO.ixP 1 Z Z Z Z Gg sz2 Z Z g) Z (qL Z Z (fun _ _ g => GO.ixP 2 Z Z Z Z Gg sz2 Z Z g) Z (qL Z Z (fun _ _ g => GO.ixP 3 Z Z Z Z Gg sz2 Z Z g) Z (GX.ps 3 Z (GX.ls Z Z Z (HS.pk 9 [2] Z) (fun _ HS _ g => lB 0 HS Z na2 Z g) Z (qL Z Z (fun _ _ g => GO.ixW Z Z Z Gg sz2 c200 Z g) Z (GX.ls Z Z Z (HS.pk 9 [2] Z) (fun _ HS _ g => lB 0 HS Z na2 Z g) Z (GX.ls Z Z Z (HS.pk 9 [2] Z) (fun _ HS _ g => lB 0 HS Z na2 Z g) Z (GX.ls Z Z Z (HS.pk 9 [2] Z) (fun _ HS _ g => lB 0 HS Z na2 Z g) Z (GX.l2 Z (GO.stW (j := 1) (o := 0) (sz := 1) (vs := [I 0]) (fun u_ => [I (se 0 u_ 0 0), I (se 1 u_ 0 0), I (se 2 u_ 0 0), I (se 3 u_ 0 0)]) HS Z Z Z Z Z c200 (htN na2 Z) Z Z (four Z Z Z Z) fun wd201 HS => GX.fin (HS.pk 9 [2] Z) (qL Z Z (fun _ _ g => GO.ixW Z Z Z Gg sz2 c202 Z g) Z (GX.l2 Z ?_)))))))))))))
   refine GO.stW (j := 1) (o := 0) (sz := 1) (vs := [I (w64 (1 + ((w64 (x134 + 2)).tmod 3)))]) (fun u_ => [I (se 0 u_ (w64 (1 + ((w64 (x134 + 2)).tmod 3))) (se 0 t186 0 0)), I (se 1 u_ (w64 (1 + ((w64 (x134 + 2)).tmod 3))) (se 1 t186 0 0)), I (se 2 u_ (w64 (1 + ((w64 (x134 + 2)).tmod 3))) (se 2 t186 0 0)), I (se 3 u_ (w64 (1 + ((w64 (x134 + 2)).tmod 3))) (se 3 t186 0 0))]) HS Z Z Z Z Z c202 (htN na2 Z) Z Z (four Z Z Z Z) fun wd203 HS => GX.fin (HS.pk 9 [2] Z) (qL Z Z (fun _ _ g => GO.ixW Z Z Z Gg sz2 c204 Z g) Z (GX.l2 Z (GO.stW (j := 1) (o := 0) (sz := 1) (vs := [I (w64 (1 + x134))]) (fun u_ => [I (se 0 u_ (w64 (1 + x134)) (se 0 t187 (w64 (1 + ((w64 (x134 + 2)).tmod 3))) (se 0 t186 0 0))), I (se 1 u_ (w64 (1 + x134)) (se 1 t187 (w64 (1 + ((w64 (x134 + 2)).tmod 3))) (se 1 t186 0 0))), I (se 2 u_ (w64 (1 + x134)) (se 2 t187 (w64 (1 + ((w64 (x134 + 2)).tmod 3))) (se 2 t186 0 0))), I (se 3 u_ (w64 (1 + x134)) (se 3 t187 (w64 (1 + ((w64 (x134 + 2)).tmod 3))) (se 3 t186 0 0)))]) HS Z Z Z Z Z c204 (htN na2 Z) Z Z (four Z Z Z Z) fun wd205 HS => GX.fin (HS.pk 9 [2] Z) (qL Z Z (fun _ _ g => GO.ixW Z Z Z Gg sz2 c206 Z g) Z (GX.l2 Z (GO.stW (j := 1) (o := 0) (sz := 1) (vs := [I (w64 (1 + ((w64 (x134 + 1)).tmod 3)))]) (fun u_ => [I (se 0 u_ (w64 (1 + ((w64 (x134 + 1)).tmod 3))) (se 0 t188 (w64 (1 + x134)) (se 0 t187 (w64 (1 + ((w64 (x134 + 2)).tmod 3))) (se 0 t186 0 0)))), I (se 1 u_ (w64 (1 + ((w64 (x134 + 1)).tmod 3))) (se 1 t188 (w64 (1 + x134)) (se 1 t187 (w64 (1 + ((w64 (x134 + 2)).tmod 3))) (se 1 t186 0 0)))), I (se 2 u_ (w64 (1 + ((w64 (x134 + 1)).tmod 3))) (se 2 t188 (w64 (1 + x134)) (se 2 t187 (w64 (1 + ((w64 (x134 + 2)).tmod 3))) (se 2 t186 0 0)))), I (se 3 u_ (w64 (1 + ((w64 (x134 + 1)).tmod 3))) (se 3 t188 (w64 (1 + x134)) (se 3 t187 (w64 (1 + ((w64 (x134 + 2)).tmod 3))) (se 3 t186 0 0))))]) HS Z Z Z Z Z c206 (htN na2 Z) Z Z (four Z Z Z Z) fun wd207 HS => GX.fin (HS.pk 9 [2] Z) (GX.nil (sQ (G.Gy mixed (fun w => St w0 w (Box b193 131 [I t186, I t187, I t188, I t189] :: L)) [1, 3, 5, 7] [0, 2, 4, 6, 8, 9, 10, 1, 11, 3, 5, 7, 12, 13, 14, 15, 16, 17, 18] [] (by kernel_rfl) (by kernel_rfl) (HS.drew.pk 9 [2] Z) ?_)))))))))
   replace HS := HS.drew
   refine qL Z Z (fun _ _ g => GO.ixP 0 Z Z Z Z Gg sz2 Z Z g) Z (qL Z Z (fun _ _ g => GO.ixP 1 Z Z Z Z Gg sz2 Z Z g) Z (qL Z Z (fun _ _ g => GO.ixP 2 Z Z Z Z Gg sz2 Z Z g) Z (qL Z Z (fun _ _ g => GO.ixP 3 Z Z Z Z Gg sz2 Z Z g) Z (GX.ps 3 Z (GX.ls Z Z Z (HS.pk 9 [2] Z) (fun _ HS _ g => lB 0 HS Z na2 Z g) Z (qL Z Z (fun _ _ g => GO.ixW Z Z Z Gg sz2 c200 Z g) Z (GX.ls Z Z Z (HS.pk 9 [2] Z) (fun _ HS _ g => lB 0 HS Z na2 Z g) Z (GX.ls Z Z Z (HS.pk 9 [2] Z) (fun _ HS _ g => lB 0 HS Z na2 Z g) Z (GX.ls Z Z Z (HS.pk 9 [2] Z) (fun _ HS _ g => lB 0 HS Z na2 Z g) Z (GX.l2 Z (GO.stW (j := 0) (o := 0) (sz := 1) (vs := [I (w64 (1 + ((w64 (x134 + 2)).tmod 3)))]) (fun u_ => [I (se 0 u_ (w64 (1 + ((w64 (x134 + 2)).tmod 3))) 0), I (se 1 u_ (w64 (1 + ((w64 (x134 + 2)).tmod 3))) 0), I (se 2 u_ (w64 (1 + ((w64 (x134 + 2)).tmod 3))) 0), I (se 3 u_ (w64 (1 + ((w64 (x134 + 2)).tmod 3))) 0)]) HS Z Z Z Z Z c200 (htN na2 Z) Z Z (four Z Z Z Z) fun wd208 HS => GX.fin (HS.pk 9 [2] Z) (qL Z Z (fun _ _ g => GO.ixW Z Z Z Gg sz2 c202 Z g) Z (GX.l2 Z ?_)))))))))))))
   refine GO.stW (j := 0) (o := 0) (sz := 1) (vs := [I 0]) (fun u_ => [I (se 0 u_ 0 (se 0 t186 (w64 (1 + ((w64 (x134 + 2)).tmod 3))) 0)), I (se 1 u_ 0 (se 1 t186 (w64 (1 + ((w64 (x134 + 2)).tmod 3))) 0)), I (se 2 u_ 0 (se 2 t186 (w64 (1 + ((w64 (x134 + 2)).tmod 3))) 0)), I (se 3 u_ 0 (se 3 t186 (w64 (1 + ((w64 (x134 + 2)).tmod 3))) 0))]) HS Z Z Z Z Z c202 (htN na2 Z) Z Z (four Z Z Z Z) fun wd209 HS => GX.fin (HS.pk 9 [2] Z) (qL Z Z (fun _ _ g => GO.ixW Z Z Z Gg sz2 c204 Z g) Z (GX.l2 Z (GO.stW (j := 0) (o := 0) (sz := 1) (vs := [I (w64 (1 + x134))]) (fun u_ => [I (se 0 u_ (w64 (1 + x134)) (se 0 t187 0 (se 0 t186 (w64 (1 + ((w64 (x134 + 2)).tmod 3))) 0))), I (se 1 u_ (w64 (1 + x134)) (se 1 t187 0 (se 1 t186 (w64 (1 + ((w64 (x134 + 2)).tmod 3))) 0))), I (se 2 u_ (w64 (1 + x134)) (se 2 t187 0 (se 2 t186 (w64 (1 + ((w64 (x134 + 2)).tmod 3))) 0))), I (se 3 u_ (w64 (1 + x134)) (se 3 t187 0 (se 3 t186 (w64 (1 + ((w64 (x134 + 2)).tmod 3))) 0)))]) HS Z Z Z Z Z c204 (htN na2 Z) Z Z (four Z Z Z Z) fun wd210 HS => GX.fin (HS.pk 9 [2] Z) (qL Z Z (fun _ _ g => GO.ixW Z Z Z Gg sz2 c206 Z g) Z (GX.l2 Z (GO.stW (j := 0) (o := 0) (sz := 1) (vs := [I (w64 (1 + ((w64 (x134 + 1)).tmod 3)))]) (fun u_ => [I (se 0 u_ (w64 (1 + ((w64 (x134 + 1)).tmod 3))) (se 0 t188 (w64 (1 + x134)) (se 0 t187 0 (se 0 t186 (w64 (1 + ((w64 (x134 + 2)).tmod 3))) 0)))), I (se 1 u_ (w64 (1 + ((w64 (x134 + 1)).tmod 3))) (se 1 t188 (w64 (1 + x134)) (se 1 t187 0 (se 1 t186 (w64 (1 + ((w64 (x134 + 2)).tmod 3))) 0)))), I (se 2 u_ (w64 (1 + ((w64 (x134 + 1)).tmod 3))) (se 2 t188 (w64 (1 + x134)) (se 2 t187 0 (se 2 t186 (w64 (1 + ((w64 (x134 + 2)).tmod 3))) 0)))), I (se 3 u_ (w64 (1 + ((w64 (x134 + 1)).tmod 3))) (se 3 t188 (w64 (1 + x134)) (se 3 t187 0 (se 3 t186 (w64 (1 + ((w64 (x134 + 2)).tmod 3))) 0))))]) HS Z Z Z Z Z c206 (htN na2 Z) Z Z (four Z Z Z Z) fun wd211 HS => GX.fin (HS.pk 9 [2] Z) (GX.nil (sQ ?_))))))))
   obtain ⟨t212, h213, H⟩ := bI H
   refine rG (mV Z (fL b183 0 F3 Z (lB 3 HS Z na2 Z (GO.ixP 1 Z Z Z Z Gg sz2 Z Z (lB 2 HS Z na2 Z (lW 1 HS Z Jj ?_))))))
   replace HS := HS.pk 9 [4, 6, 0, 1, 2, 3, 5, 7, 8] Z
   refine fJ O7 Z (Ef.calls HS (ro 4 Z) (ro 5 Z) h213) (fun _ wd214 ⟨h215, HS⟩ => ⟨_, h215, (nL ?_)⟩)
   obtain ⟨t216, h217, H⟩ := bI H
   refine rG (mV Z (fL b183 0 F3 Z (lB 5 HS Z na2 Z (GO.ixP 0 Z Z Z Z Gg sz2 Z Z (lB 4 HS Z na2 Z (lW 2 HS Z Jj ?_))))))
   replace HS := HS.pk 9 [0, 1, 2, 3, 4, 5, 6, 7, 8] Z
   refine fJ O7 Z (Ef.calls HS (ro 4 Z) (ro 5 Z) h217) (fun _ wd218 ⟨h219, HS⟩ => ⟨_, h219, (nL (rN 3 Z (gW (h1 g1 (lR _) _ _ _ H (HS.pk 9 [0, 6, 1, 7, 8] Z)) Z)))⟩)
  exact gW (f1 K (lR _) _ _ _ H (HS.pk 9 [0, 1, 2, 3, 4] Z)) Z
theorem Dt.calls {tet : Int} {r1 : List Int} {r2 : List (Gd × Dn)} {r3 : Int} {r4 : List Fg} (HS : St w0 w (L)) (H : Dt.f K tet = some (r1, r2, r3, r4)) :
    Calls prog 113 #[I tet] w (Dt.post w0 L r1 r2 r3 r4) := by
  unfold Dt.f at H
  refine cG func113 Z ?_
  refine rN 3 Z ?_
  obtain ⟨t3, t4, t5, t6, h7, H⟩ := D9 H
  refine rG (mV Z (GO.Cr (el := 2) ([I tet]) HS Z Z (fun _ => by kernel_rfl) Z fun b1 wd2 HS => ?_))
  replace HS := HS.Ey (T := (Ar .i64)) (j := 0) Z Au uu ([tet] : List Int) Z (Hq Z)
  refine GO.Gw (t := 7) (m := ([tet] : List Int).length) (c' := ([tet] : List Int).length) Z Z Z ?_
  replace HS := HS.pk 1 [0] Z
  refine fJ Vo Z (Fh.calls HS  h7) (fun _ wd14 ⟨b8, A9, c10, b11, A12, c13, h15, HS⟩ => ⟨_, h15, (aS Z (nL (rN 5 Z ?_)))⟩)
  refine G.name (fun n1 k1 => ?_)
  have o1 : ∀ g1, g1 ≤ K → ∀ (d1 : List (Gd × Dn)) (x28 : Int) (A81 : Option Addr) (c82 : Nat) (c1 : List Fg) (w : World), Dt.l1 K g1 tet t3 t5 d1 x28 c1 = some (r1, r2, r3, r4) → St w0 w (Box b8 104 [sV A9 t3 c10, .map (some b11), I t5, sV A81 c1 c82] :: Own (Ar .i64) 2 A9 c10 uu t3 :: Hw b11 Fz Dy d1 :: Own Ha 131 A81 c82 uu c1 :: L) → G prog 113 41 [(0, I tet), (3, pT b8), (9, I x28)] n1 w (Dt.post w0 L r1 r2 r3 r4) := by
   refine lp (fun _ _ _ _ _ w H _ => by rw [Dt.l1] at H; cases H) fun f1 u1 t1 d1 x28 A81 c82 c1 w H HS => ?_
   rw [Dt.l1] at H
   subst k1
   refine rN 3 Z ?_
   rcases iS H with ⟨c136, H⟩ | ⟨c136, H⟩
   ·
    refine nB Z (tF c136) (rN 3 Z ?_)
    obtain ⟨rfl, rfl, rfl, rfl⟩ := H8 H
    exact rT _ func113 Z Z ⟨_, _, _, _, _, _, Z, HS⟩
   refine yB Z (tT c136) (rN 6 Z ?_)
   obtain ⟨t137, t138, t139, t140, h141, H⟩ := D9 H
   obtain ⟨t144, h145, H⟩ := bI H
   refine rG (pS 4 Z (fJ Km Z (Ct.calls HS  h141) (fun _ wd142 ⟨h143, HS⟩ => ⟨_, h143, ?_⟩)))
   replace HS := HS.pk 4 [0, 2, 1, 3] Z
   refine fJ O7 Z (Ef.calls HS (ro 0 Z) (ro 1 Z) h145) (fun _ wd146 ⟨h147, HS⟩ => ⟨_, h147, (nL (rN 4 Z ?_))⟩)
   refine G.name (fun s1 p1 => ?_)
   have q1 : ∀ h1, h1 ≤ f1 → ∀ (A160 : Option Addr) (c161 : Nat) (a1 : List Fg) (x163 : Int) (w : World), Dt.l5 K h1 tet t3 t5 x28 t144 a1 x163 = some (r1, r2, r3, r4) → St w0 w (Box b8 104 [sV A9 t3 c10, .map (some b11), I t5, sV A160 a1 c161] :: Own (Ar .i64) 2 A9 c10 uu t3 :: Hw b11 Fz Dy t144 :: Own Ha 131 A160 c161 uu a1 :: L) → G prog 113 41 [(0, I tet), (3, pT b8), (4, I x28), (9, I x28), (18, I x28), (19, I x163)] s1 w (Dt.post w0 L r1 r2 r3 r4) := by
    refine lp (fun _ _ _ _ w H _ => by rw [Dt.l5] at H; cases H) fun e1 m1 i1 A160 c161 a1 x163 w H HS => ?_
    rw [Dt.l5] at H
    subst p1
    refine rN 3 Z ?_
    rcases iS H with ⟨c176, H⟩ | ⟨c176, H⟩
    ·
     refine nB Z (tF c176) (rN 4 Z (gW (t1 e1 (Nat.le_of_succ_le m1) _ _ _ _ _ _ H HS) Z))
    refine yB Z (tT c176) (rN 5 Z ?_)
    obtain ⟨t177, h178, H⟩ := bI H
    obtain ⟨c186, H⟩ := iN H
    refine G.Gy mixed (fun w => St w0 w (Box b8 104 [sV A9 t3 c10, .map (some b11), I t5, sV A160 a1 c161] :: L)) [4] [0, 1, 2, 3, 5, 6, 7, 8, 9, 4, 10, 11, 12, 13, 14, 15, 16] [16] (by kernel_rfl) (by kernel_rfl) (HS.drew.pk 4 [0] Z) ?_
    replace HS := HS.drew
    refine GX.ps 2 Z (qL Z Z (fun _ _ g => GO.M9 Z Z Z g) Z (qL Z Z (fun _ _ g => fL b8 3 Nr Z g) Z (GX.ps 5 Z (GX.ls Z Z Z (HS.pk 4 [0] Z) (fun _ HS _ g => lB 0 HS Z Tk Z g) Z (GX.l2 Z (fJ U8 Z (Fy.calls HS  h178) (fun _ wd179 ⟨h180, HS⟩ => ⟨_, h180, (GX.fin (HS.pk 4 [0] Z) (qL Z Z (fun _ _ g => GO.Df (.agg [I x28, I x163, I x163, I t177].toArray) Z Z (fun _ => by kernel_rfl) Z g) Z (GX.l2 Z (GO.Cr (el := 131) ([I x28, I x163, I x163, I t177]) HS Z Z (fun _ => by kernel_rfl) Z fun b181 wd182 HS => GX.fin (HS.pk 5 [1] Z) (GX.l2 Z (GO.app1 (T := Ha) (j := 4) (jb := 0) (⟨x28, x163, x163, t177⟩ : Fg) HS Z Z Au Z Z Z fP bG Z Z Z c186 Z fun A184 c185 wd183 HS => GX.fin (HS.pk 5 [1] Z) ?_))))))⟩)))))))
    refine qL Z Z (fun _ _ g => GO.M9 Z Z Z g) Z (qL Z Z (fun _ _ g => fL b8 3 Nr Z g) Z (GX.l2 Z (GO.Gu (j := 1) (vs := [sV A184 (a1 ++ [(⟨x28, x163, x163, t177⟩ : Fg)]) c185]) ([sV A9 t3 c10, .map (some b11), I t5, sV A184 (a1 ++ [(⟨x28, x163, x163, t177⟩ : Fg)]) c185]) HS Z Z Z Z Z (htN Tk Z) Z Z Z fun wd187 HS => GX.Ql Z (GX.nil (rN 3 Z (gW (i1 e1 (lR _) _ _ _ _ _ H (HS.pk 5 [1, 2, 3, 4] Z)) Z))))))
   exact gW (q1 f1 (lR _) _ _ _ _ _ H (HS.pk 4 [0, 2, 1, 3] Z)) Z
  exact gW (o1 K (lR _) _ _ _ _ _ _ H HS) Z
theorem Dx.calls {p q r1 : Int} (HS : St w0 w (L)) (H : Dx.f K p q = some r1) :
    Calls prog 94 #[I p, I q] w (Dx.post w0 L r1) := by
  unfold Dx.f at H
  refine cG func94 Z ?_
  refine rN 3 Z ?_
  obtain ⟨t1, t2, t3, t4, h5, H⟩ := D9 H
  obtain ⟨t8, t9, t10, t11, h12, H⟩ := D9 H
  refine rG (mV Z (fJ Km Z (Ct.calls HS  h5) (fun _ wd6 ⟨h7, HS⟩ => ⟨_, h7, (mV Z (fJ Km Z (Ct.calls HS  h12) (fun _ wd13 ⟨h14, HS⟩ => ⟨_, h14, (GO.alloc HS Z J8 Z Z fun b15 wd16 HS => GO.alloc HS Z J8 Z Z fun b17 wd18 HS => sW 1 HS Z Jj Z fun wd19 HS => sW 0 HS Z Jj Z fun wd20 HS => nL (sQ (rG (GO.alloc HS Z J8 Z Z fun b21 wd22 HS => nL (rN 2 Z ?_)))))⟩)))⟩)))
  refine rG (lW 2 HS Z Jj (mV Z (nL (rN 2 Z ?_))))
  refine G.name (fun g1 f1 => ?_)
  have h1 : ∀ e1, e1 ≤ K → ∀ (a1 x26 : Int) (b1 d1 c1 : Int) (w : World), Dx.l1 K e1 t1 t2 t3 t4 t8 t9 t10 t11 a1 x26 b1 d1 c1 = some r1 → St w0 w (Box b17 131 [I t8, I t9, I t10, I t11] :: Box b21 131 [I a1, I b1, I d1, I c1] :: L) → G prog 94 27 [(6, pT b17), (7, pT b21), (14, .agg [I t1, I t2, I t3, I t4].toArray), (15, I x26)] g1 w (Dx.post w0 L r1) := by
   refine lp (fun _ _ _ _ _ w H _ => by rw [Dx.l1] at H; cases H) fun i1 m1 k1 a1 x26 b1 d1 c1 w H HS => ?_
   rw [Dx.l1] at H
   subst f1
   refine rN 3 Z ?_
   rcases iS H with ⟨c46, H⟩ | ⟨c46, H⟩
   ·
    refine nB Z (tF c46) (rN 2 Z ?_)
    obtain ⟨t50, h51, H⟩ := bI H
    refine rG (lW 1 HS Z Jj (fJ Ps Z (Cf.calls HS  h51) (fun _ wd52 ⟨h53, HS⟩ => ⟨_, h53, (aS Z (nL ?_))⟩)))
    obtain rfl := sI H
    exact rT _ func94 Z Z ⟨Z, (HS.pk 2 [] Z)⟩
   refine yB Z (tT c46) (rN 4 Z ?_)
   obtain ⟨c47, H⟩ := iN H
   refine rG (mV Z (GO.Tn ([t1, t2, t3, t4] : List Int) Z Z Z Gg U2 sz2 Z c47.1 c47.2 Z (pS 2 Z (nL ?_))))
   obtain ⟨c48, H⟩ := iN H
   refine rG (pS 2 Z (GO.ixW Z Z Z Gg sz2 c48 Z (GO.ldW (j := 0) ([t8, t9, t10, t11] : List Int) HS Z Z Z c48 Z Z na2 Z (GO.ixW Z Z Z Gg sz2 c47 Z (GO.stW (j := 1) (o := 0) (sz := 1) (vs := [I (([t8, t9, t10, t11] : List Int).getD (([t1, t2, t3, t4] : List Int).getD x26.toNat 0).toNat 0)]) (fun u_ => [I (se 0 u_ (([t8, t9, t10, t11] : List Int).getD (([t1, t2, t3, t4] : List Int).getD x26.toNat 0).toNat 0) a1), I (se 1 u_ (([t8, t9, t10, t11] : List Int).getD (([t1, t2, t3, t4] : List Int).getD x26.toNat 0).toNat 0) b1), I (se 2 u_ (([t8, t9, t10, t11] : List Int).getD (([t1, t2, t3, t4] : List Int).getD x26.toNat 0).toNat 0) d1), I (se 3 u_ (([t8, t9, t10, t11] : List Int).getD (([t1, t2, t3, t4] : List Int).getD x26.toNat 0).toNat 0) c1)]) HS Z Z Z Z Z c47 (htN na2 Z) Z Z (four Z Z Z Z) fun wd49 HS => nL (rN 3 Z (gW (k1 i1 (lR _) _ _ _ _ _ _ H HS) Z)))))))
  exact gW (h1 K (lR _) _ _ _ _ _ _ H (HS.pk 3 [1, 0] Z)) Z
theorem Ag.calls {k1 : List (List Ab)} {tet k_ : Int} {y_a : Nat → (Ty.slice 107 Ad).Lay} {r1 r2 : Int} {r3 r4 : Int} {r5 r6 : Int} {r7 r8 : Int} {r9 : Bool} (HS : St w0 w (L)) (r_a : Ca w0 L (Ty.slice 107 Ad) A_a c_a y_a k1) (H : Ag.f K k1 tet k_ = some (r1, r2, r3, r4, r5, r6, r7, r8, r9)) :
    Calls prog 143 #[.agg [sV A_a k1 c_a].toArray, I tet, I k_] w (Ag.post w0 L r1 r2 r3 r4 r5 r6 r7 r8 r9) := by
  unfold Ag.f at H
  refine cG func143 Z ?_
  refine sQ (rG (bA HS Z fun b1 wd2 HS => GO.alloc HS Z aU Z Z fun b3 wd4 HS => aS Z (nL (sQ (rG (GO.alloc HS Z aU Z Z fun b5 wd6 HS => nL (sQ ?_)))))))
  obtain ⟨c7, H⟩ := iN H
  refine rG (pS 2 Z (GO.Df (.agg [I tet, I 0].toArray) Z Z (fun _ => by kernel_rfl) Z (GO.ixW Z Z Z O4 L9 c7 Z (GO.stW (j := 0) (o := 0) (sz := 2) (vs := [I tet, I 0]) (fun u_ => [I (se 0 u_ tet 0), I (se 0 u_ 0 0), I (se 1 u_ tet 0), I (se 1 u_ 0 0), I (se 2 u_ tet 0), I (se 2 u_ 0 0), I (se 3 u_ tet 0), I (se 3 u_ 0 0)]) HS Z Z Z Z Z c7 (htA Mq) Z Z (four Z Z Z Z) fun wd8 HS => nL (rN 2 Z ?_)))))
  obtain ⟨t11, h12, H⟩ := bI H
  refine rG (mV Z (GO.Cr (el := 2) ([I k_]) HS Z Z (fun _ => by kernel_rfl) Z fun b9 wd10 HS => ?_))
  replace HS := HS.Ey (T := (Ar .i64)) (j := 0) Z Au uu ([k_] : List Int) Z (Hq Z)
  refine GO.Gw (t := 21) (m := ([k_] : List Int).length) (c' := ([k_] : List Int).length) Z Z Z (fJ Ro Z (Eo.calls HS (ro 0 Z) h12) (fun _ wd15 ⟨A13, c14, h16, HS⟩ => ⟨_, h16, (lS Z Z U56 Z (mV Z (nL (rN 2 Z ?_))))⟩))
  refine G.name (fun d2 z1 => ?_)
  have x1 : ∀ p1, p1 ≤ K → ∀ (a1 h1 : Int) (e1 g1 : Int) (c1 f1 : Int) (d1 i1 x552 : Int) (w : World), Ag.l1 K p1 k1 tet k_ t11 a1 h1 e1 g1 c1 f1 d1 i1 x552 = some (r1, r2, r3, r4, r5, r6, r7, r8, r9) → St w0 w (Box b1 31 [sV A_a k1 c_a] :: Box b3 174 [I 0, I 0, I 0, I 0, I 0, I 0, I 0, I 0] :: Box b5 174 [I a1, I h1, I e1, I g1, I c1, I f1, I d1, I i1] :: Own (Ar .i64) 2 A13 c14 uu t11 :: L) → G prog 143 121 [(1, I tet), (2, I k_), (3, pT b1), (6, pT b3), (8, pT b5), (22, sV A13 t11 c14), (23, I (t11.length : Int)), (24, I x552)] d2 w (Ag.post w0 L r1 r2 r3 r4 r5 r6 r7 r8 r9) := by
   refine lp (fun _ _ _ _ _ _ _ _ _ w H _ => by rw [Ag.l1] at H; cases H) fun n1 i2 g2 a1 h1 e1 g1 c1 f1 d1 i1 x552 w H HS => ?_
   rw [Ag.l1] at H
   subst z1
   refine rN 3 Z ?_
   rcases iE H with ⟨c1080, H⟩ | ⟨c1080, H⟩
   ·
    refine yB Z (tT c1080) (rN 4 Z ?_)
    obtain ⟨c1081, H⟩ := iN H
    refine rG (iX Z U56 sz2 (rk (ro 3 Z) HS) c1081 (GO.Ce (T := (Ar .i64)) (n := x552.toNat) (o := 0) HS (ro 3 Z) Z Z (getD_some (d := 0) (ltN c1081)) Z Z na2 Z (aS Z (nL (sQ ?_)))))
    obtain ⟨c1082, H⟩ := iN H
    obtain ⟨c1083, H⟩ := iN H
    obtain ⟨e1084, h1085, H⟩ := Dl H
    refine rG (fL b1 0 Dk Z (lB 0 HS Z Ga Z (mV Z (iX Z U29 Ie (rk (rD 4 r_a) HS) c1082 (GO.Ce (T := (Ty.slice 107 Ad)) (n := tet.toNat) (o := 0) HS (rD 4 r_a) Z Z (getD_some (d := []) (ltN c1082)) Z Z Ii Z (mV Z (GO.ix Z Z Z U77 Gb ((Ca.elem (rD 4 r_a) c1082.1 c1082.2) _ HS).2.2.1 c1083.1 c1083.2 Z (GO.Hf (T := Ad) (n := (t11.getD x552.toNat 0).toNat) HS (Ca.elem (rD 4 r_a) c1082.1 c1082.2) Z Z (Cs (ltN c1083) h1085) Dq Z (GO.alloc HS Z Jf Z Z fun b1086 wd1087 HS => sW 0 HS Z Dq Z fun wd1088 HS => nL (rN 2 Z ?_))))))))))
    obtain ⟨t1089, h1090, H⟩ := bI H
    refine rG (lW 0 HS Z Dq (fJ M8 Z (Bn.calls HS  h1090) (fun _ wd1091 ⟨h1092, HS⟩ => ⟨_, h1092, (nL ?_)⟩)))
    rcases iE H with ⟨c1093, H⟩ | ⟨c1093, H⟩
    ·
     refine yB Z c1093 (sQ (rG (lW 3 HS Z Ki (sW 2 HS Z Ki Z fun wd1094 HS => aS Z (nL ?_)))))
     obtain ⟨rfl, rfl, rfl, rfl, rfl, rfl, rfl, rfl, rfl⟩ := Xf H
     exact G.Gq _ _ func143 Z (Gc.Gv (j := 2) (vs := [I a1, I h1, I e1, I g1, I c1, I f1, I d1, I i1]) HS Z Z Z Ki) Z ⟨Z, (HS.pk 5 [] Z)⟩
    refine nB Z (De c1093) (G.skip ?_)
    obtain ⟨t1095, h1096, H⟩ := bI H
    obtain ⟨t1099, h1100, H⟩ := bI H
    obtain ⟨t1103, h1104, H⟩ := bI H
    obtain ⟨c1107, H⟩ := iN H
    refine G.Gy mixed (fun w => St w0 w (Box b1086 107 [I e1084.Tet, I e1084.Perm] :: L)) [2, 4] [0, 1, 3, 6, 7, 2, 4, 5, 8, 9, 10, 11, 12] [] (by kernel_rfl) (by kernel_rfl) (HS.drew.pk 5 [0] Z) ?_
    replace HS := HS.drew
    refine GX.ps 1 Z (qL Z Z (fun _ _ g => fL b1086 0 C9 Z g) Z (qL Z Z (fun _ _ g => fL b1086 1 F4 Z g) Z (GX.ps 2 Z (GX.ls Z Z Z (HS.pk 5 [0] Z) (fun _ HS _ g => lB 0 HS Z na2 Z g) Z (GX.ls Z Z Z (HS.pk 5 [0] Z) (fun _ HS _ g => lB 0 HS Z na2 Z g) Z (GX.l2 Z (fJ Tf Z (Ed.calls HS  h1096) (fun _ wd1097 ⟨h1098, HS⟩ => ⟨_, h1098, (GX.fin (HS.pk 5 [0] Z) (GX.l2 Z (fJ U8 Z (Fy.calls HS  h1100) (fun _ wd1101 ⟨h1102, HS⟩ => ⟨_, h1102, (GX.fin (HS.pk 5 [0] Z) (GX.l2 Z (fJ Wo Z (Dx.calls HS  h1104) (fun _ wd1105 ⟨h1106, HS⟩ => ⟨_, h1106, (GX.fin (HS.pk 5 [0] Z) ?_)⟩))))⟩))))⟩))))))))
    refine qL Z Z (fun _ _ g => GO.Df (.agg [I e1084.Tet, I t1103].toArray) Z Z (fun _ => by kernel_rfl) Z g) Z (qL Z Z (fun _ _ g => GO.ixW Z Z Z O4 L9 c1107 Z g) Z (GX.l2 Z (GO.stW (j := 3) (o := 0) (sz := 2) (vs := [I e1084.Tet, I t1103]) (fun u_ => [I (se 0 u_ e1084.Tet a1), I (se 0 u_ t1103 h1), I (se 1 u_ e1084.Tet e1), I (se 1 u_ t1103 g1), I (se 2 u_ e1084.Tet c1), I (se 2 u_ t1103 f1), I (se 3 u_ e1084.Tet d1), I (se 3 u_ t1103 i1)]) HS Z Z Z Z Z c1107 (htA Mq) Z Z (four Z Z Z Z) fun wd1108 HS => GX.fin (HS.pk 5 [0] Z) (GX.nil (rN 3 Z (gW (g2 n1 (lR _) _ _ _ _ _ _ _ _ _ _ H (HS.pk 5 [1, 2, 3, 4] Z)) Z))))))
   refine nB Z (tF c1080) (rN 6 Z ?_)
   refine G.name (fun a2 f2 => ?_)
   have b2 : ∀ t1, t1 ≤ n1 → ∀ (x1232 : Int) (w : World), Ag.l10 K t1 k1 a1 h1 e1 g1 c1 f1 d1 i1 x1232 = some (r1, r2, r3, r4, r5, r6, r7, r8, r9) → St w0 w (Box b1 31 [sV A_a k1 c_a] :: Box b3 174 [I 0, I 0, I 0, I 0, I 0, I 0, I 0, I 0] :: Box b5 174 [I a1, I h1, I e1, I g1, I c1, I f1, I d1, I i1] :: L) → G prog 143 121 [(3, pT b1), (6, pT b3), (8, pT b5), (52, I x1232)] a2 w (Ag.post w0 L r1 r2 r3 r4 r5 r6 r7 r8 r9) := by
    refine lp (fun _ w H _ => by rw [Ag.l10] at H; cases H) fun s1 h2 c2 x1232 w H HS => ?_
    rw [Ag.l10] at H
    subst f2
    refine rN 3 Z ?_
    rcases iS H with ⟨c1420, H⟩ | ⟨c1420, H⟩
    ·
     refine nB Z (tF c1420) (rN 2 Z (rG (lW 2 HS Z Ki (sW 1 HS Z Ki Z fun wd1606 HS => aS Z (nL ?_)))))
     obtain ⟨rfl, rfl, rfl, rfl, rfl, rfl, rfl, rfl, rfl⟩ := Xf H
     exact G.Gq _ _ func143 Z (Gc.Gv (j := 1) (vs := [I a1, I h1, I e1, I g1, I c1, I f1, I d1, I i1]) HS Z Z Z Ki) Z ⟨Z, (HS.pk 3 [] Z)⟩
    refine yB Z (tT c1420) (rN 9 Z ?_)
    refine G.name (fun v1 e2 => ?_)
    have u1 : ∀ o1, o1 ≤ s1 → ∀ (x1481 : Int) (w : World), Ag.l13 K o1 k1 a1 h1 e1 g1 c1 f1 d1 i1 x1232 x1481 = some (r1, r2, r3, r4, r5, r6, r7, r8, r9) → St w0 w (Box b1 31 [sV A_a k1 c_a] :: Box b3 174 [I 0, I 0, I 0, I 0, I 0, I 0, I 0, I 0] :: Box b5 174 [I a1, I h1, I e1, I g1, I c1, I f1, I d1, I i1] :: L) → G prog 143 121 [(3, pT b1), (6, pT b3), (8, pT b5), (12, I x1232), (52, I x1232), (55, I x1481)] v1 w (Ag.post w0 L r1 r2 r3 r4 r5 r6 r7 r8 r9) := by
     refine lp (fun _ w H _ => by rw [Ag.l13] at H; cases H) fun m1 y1 q1 x1481 w H HS => ?_
     rw [Ag.l13] at H
     subst e2
     refine rN 3 Z ?_
     rcases iS H with ⟨c1544, H⟩ | ⟨c1544, H⟩
     ·
      refine nB Z (tF c1544) (rN 4 Z (gW (c2 m1 (Nat.le_of_succ_le y1) _ _ H HS) Z))
     refine yB Z (tT c1544) (rN 8 Z ?_)
     rcases iE H with ⟨c1545, H⟩ | ⟨c1545, H⟩
     ·
      refine yB Z (tT c1545) (rN 3 Z (gW (q1 m1 (lR _) _ _ H HS) Z))
     refine nB Z (tF c1545) (rN 2 Z ?_)
     obtain ⟨c1546, H⟩ := iN H
     obtain ⟨t1547, h1548, H⟩ := bI H
     obtain ⟨t1551, t1552, t1553, t1554, h1555, H⟩ := D9 H
     obtain ⟨c1558, H⟩ := iN H
     refine rG (mV Z (GO.ixW Z Z Z O4 L9 c1546 Z (GO.fld (⟨b5, 1 + x1232.toNat * 2, none⟩) Z Z Ku (adW _ _ _ _) Z (GO.ldW (j := 2) ([h1, g1, f1, i1] : List Int) HS Z Z Z c1546 Z Z na2 Z (fJ Tf Z (Ed.calls HS  h1548) (fun _ wd1549 ⟨h1550, HS⟩ => ⟨_, h1550, (fJ Km Z (Ct.calls HS  h1555) (fun _ wd1556 ⟨h1557, HS⟩ => ⟨_, h1557, (mV Z (GO.Tn ([t1551, t1552, t1553, t1554] : List Int) Z Z Z Gg U2 sz2 Z c1558.1 c1558.2 Z (aS Z (nL (sQ ?_)))))⟩))⟩))))))
     obtain ⟨c1559, H⟩ := iN H
     obtain ⟨c1560, H⟩ := iN H
     obtain ⟨e1561, h1562, H⟩ := Dl H
     refine G.Gy mixed (fun w => St w0 w (Box b1 31 [sV A_a k1 c_a] :: Box b5 174 [I a1, I h1, I e1, I g1, I c1, I f1, I d1, I i1] :: L)) [1, 5, 7, 10] [0, 2, 3, 4, 8, 1, 5, 6, 7, 9, 10, 11, 12] [] (by kernel_rfl) (by kernel_rfl) (HS.drew.pk 3 [0, 2] Z) ?_
     replace HS := HS.drew
     refine qL Z Z (fun _ _ g => fL b1 0 Dk Z g) Z (GX.ps 1 Z (qL Z Z (fun _ _ g => GO.ixW Z Z Z O4 L9 c1546 Z g) Z (qL Z Z (fun _ _ g => GO.fld (⟨b5, 0 + x1232.toNat * 2, none⟩) Z Z Jl Z Z g) Z (GX.ps 1 Z (GX.ls Z Z Z (HS.pk 3 [0, 2] Z) (fun _ HS _ g => lB 0 HS Z Ga Z g) Z (GX.ls Z Z Z (HS.pk 3 [0, 2] Z) (fun _ HS _ g => GO.ldW (j := 1) ([a1, e1, c1, d1] : List Int) HS Z Z Z c1546 Z Z na2 Z g) Z (qL Z Z (fun _ _ g => iX Z U29 Ie (rk (rD 3 r_a) HS) c1559 g) Z (GX.ls Z Z Z (HS.pk 3 [0, 2] Z) (fun _ HS _ g => GO.Ce (T := (Ty.slice 107 Ad)) (n := (([a1, e1, c1, d1] : List Int).getD x1232.toNat 0).toNat) (o := 0) HS (rD 2 r_a) Z Z (getD_some (d := []) (ltN c1559)) Z Z Ii Z g) Z (qL Z Z (fun _ _ g => GO.ix Z Z Z U77 Gb ((Ca.elem (rD 3 r_a) c1559.1 c1559.2) _ HS).2.2.1 c1560.1 c1560.2 Z g) Z (GX.ls Z Z Z (HS.pk 3 [0, 2] Z) (fun _ HS _ g => GO.Hf (T := Ad) (n := (([t1551, t1552, t1553, t1554] : List Int).getD x1481.toNat 0).toNat) HS (Ca.elem (rD 2 r_a) c1559.1 c1559.2) Z Z (Cs (ltN c1560) h1562) Dq Z g) Z (GX.l2 Z (GO.alloc HS Z Jf Z Z fun b1563 wd1564 HS => GX.fin (HS.pk 4 [1, 3] Z) (GX.l2 Z ?_)))))))))))))
     refine sW 0 HS Z Dq Z fun wd1565 HS => GX.fin (HS.pk 4 [1, 3] Z) (GX.nil (sQ ?_))
     rcases iS H with ⟨c1584, H⟩ | ⟨c1584, H⟩
     ·
      refine G.Gy mixed (fun w => St w0 w (Box b1563 107 [I e1561.Tet, I e1561.Perm] :: Box b5 174 [I a1, I h1, I e1, I g1, I c1, I f1, I d1, I i1] :: L)) [1, 5, 11, 15, 22, 25, 30] [0, 2, 3, 4, 1, 5, 6, 7, 8, 9, 10, 12, 13, 14, 11, 15, 16, 17, 18, 19, 20, 21, 24, 27, 28, 29, 32, 33, 22, 25, 30, 23, 26, 31, 34, 35, 36] [] (by kernel_rfl) (by kernel_rfl) (HS.drew.pk 4 [0, 3] Z) ?_
      replace HS := HS.drew
      refine qL Z Z (fun _ _ g => fL b1563 0 C9 Z g) Z (GX.ps 1 Z (qL Z Z (fun _ _ g => GO.ixW Z Z Z O4 L9 c1558 Z g) Z (qL Z Z (fun _ _ g => GO.fld (⟨b5, 0 + x1481.toNat * 2, none⟩) Z Z Jl Z Z g) Z (GX.ls Z Z Z (HS.pk 4 [0, 3] Z) (fun _ HS _ g => lB 0 HS Z na2 Z g) Z (GX.ls Z Z Z (HS.pk 4 [0, 3] Z) (fun _ HS _ g => GO.ldW (j := 1) ([a1, e1, c1, d1] : List Int) HS Z Z Z c1558 Z Z na2 Z g) Z (GX.ps 1 Z (qL Z Z (fun _ _ g => mV Z (kN 87 Z (nF c1584) g)) Z (qL Z Z (fun _ _ g => oF Z g) Z (qL Z Z (fun _ _ g => oF Z g) Z (qL Z Z (fun _ _ g => oF Z g) Z (qL Z Z (fun _ _ g => oF Z g) Z (qL Z Z (fun _ _ g => oF Z g) Z (qL Z Z (fun _ _ g => oF Z g) Z (GX.ls Z Z Z (HS.pk 4 [0, 3] Z) (fun _ HS _ g => oF Z g) Z ?_))))))))))))))
      refine GX.ls Z Z Z (HS.pk 4 [0, 3] Z) (fun _ HS _ g => oF Z g) Z (qL Z Z (fun _ _ g => oF Z g) Z (GX.ps 2 Z (qL Z Z (fun _ _ g => oF Z g) Z (qL Z Z (fun _ _ g => oF Z g) Z (qL Z Z (fun _ _ g => oF Z g) Z (qL Z Z (fun _ _ g => oF Z g) Z (qL Z Z (fun _ _ g => oF Z g) Z (qL Z Z (fun _ _ g => oF Z g) Z (qL Z Z (fun _ _ g => oF Z g) Z (qL Z Z (fun _ _ g => oF Z g) Z (qL Z Z (fun _ _ g => oF Z g) Z (GX.ls Z Z Z (HS.pk 4 [0, 3] Z) (fun _ HS _ g => oF Z g) Z (GX.ls Z Z Z (HS.pk 4 [0, 3] Z) (fun _ HS _ g => oF Z g) Z (GX.ls Z Z Z (HS.pk 4 [0, 3] Z) (fun _ HS _ g => oF Z g) Z ?_))))))))))))))
      refine GX.l2 Z (oF Z (GX.fin (HS.pk 4 [0, 3] Z) (GX.l2 Z (oF Z (GX.fin (HS.pk 4 [0, 3] Z) (GX.l2 Z (oF Z (GX.fin (HS.pk 4 [0, 3] Z) (GX.l2 Z (oF Z (GX.fin (HS.pk 4 [0, 3] Z) (qL Z Z (fun _ _ g => oF Z g) Z (GX.ps 1 Z (GX.nil ?_))))))))))))))
      refine rN 2 Z (rG (lW 3 HS Z Ki (sW 2 HS Z Ki Z fun wd1605 HS => aS Z (nL ?_))))
      obtain ⟨rfl, rfl, rfl, rfl, rfl, rfl, rfl, rfl, rfl⟩ := Xf H
      exact G.Gq _ _ func143 Z (Gc.Gv (j := 2) (vs := [I a1, I h1, I e1, I g1, I c1, I f1, I d1, I i1]) HS Z Z Z Ki) Z ⟨Z, (HS.pk 4 [] Z)⟩
     rcases iE H with ⟨c1585, H⟩ | ⟨c1585, H⟩
     ·
      refine G.Gy mixed (fun w => St w0 w (Box b1563 107 [I e1561.Tet, I e1561.Perm] :: Box b5 174 [I a1, I h1, I e1, I g1, I c1, I f1, I d1, I i1] :: L)) [1, 5, 11, 15, 22, 25, 30] [0, 2, 3, 4, 1, 5, 6, 7, 8, 9, 10, 12, 13, 14, 11, 15, 16, 17, 18, 19, 20, 21, 24, 27, 28, 29, 32, 33, 22, 25, 30, 23, 26, 31, 34, 35, 36] [] (by kernel_rfl) (by kernel_rfl) (HS.drew.pk 4 [0, 3] Z) ?_
      replace HS := HS.drew
      refine qL Z Z (fun _ _ g => fL b1563 0 C9 Z g) Z (GX.ps 1 Z (qL Z Z (fun _ _ g => GO.ixW Z Z Z O4 L9 c1558 Z g) Z (qL Z Z (fun _ _ g => GO.fld (⟨b5, 0 + x1481.toNat * 2, none⟩) Z Z Jl Z Z g) Z (GX.ls Z Z Z (HS.pk 4 [0, 3] Z) (fun _ HS _ g => lB 0 HS Z na2 Z g) Z (GX.ls Z Z Z (HS.pk 4 [0, 3] Z) (fun _ HS _ g => GO.ldW (j := 1) ([a1, e1, c1, d1] : List Int) HS Z Z Z c1558 Z Z na2 Z g) Z (GX.ps 1 Z (qL Z Z (fun _ _ g => mV Z (kN 87 Z (nT c1584) g)) Z (qL Z Z (fun _ _ g => oN Z (mV Z (bK g))) Z (qL Z Z (fun _ _ g => oN Z (GO.ixW Z Z Z O4 L9 c1546 Z (bK g))) Z (qL Z Z (fun _ _ g => oN Z (GO.fld (⟨b5, 0 + x1232.toNat * 2, none⟩) Z Z Jl Z Z (bK g))) Z (qL Z Z (fun _ _ g => oN Z (mV Z (bK g))) Z (qL Z Z (fun _ _ g => oN Z (GO.ixW Z Z Z O4 L9 c1558 Z (bK g))) Z (qL Z Z (fun _ _ g => oN Z (GO.fld (⟨b5, 0 + x1481.toNat * 2, none⟩) Z Z Jl Z Z (bK g))) Z (GX.ls Z Z Z (HS.pk 4 [0, 3] Z) (fun _ HS _ g => oN Z (GO.ldW (j := 1) ([a1, e1, c1, d1] : List Int) HS Z Z Z c1546 Z Z na2 Z (bK g))) Z ?_))))))))))))))
      refine GX.ls Z Z Z (HS.pk 4 [0, 3] Z) (fun _ HS _ g => oN Z (GO.ldW (j := 1) ([a1, e1, c1, d1] : List Int) HS Z Z Z c1558 Z Z na2 Z (bK g))) Z (qL Z Z (fun _ _ g => oN Z (GO.eql Z Z Z Z (bK g))) Z (GX.ps 1 Z (qL Z Z (fun _ _ g => mV Z (kN 98 Z (tT c1585) g)) Z (qL Z Z (fun _ _ g => oF Z g) Z (qL Z Z (fun _ _ g => oF Z g) Z (qL Z Z (fun _ _ g => oF Z g) Z (qL Z Z (fun _ _ g => oF Z g) Z (qL Z Z (fun _ _ g => oF Z g) Z (qL Z Z (fun _ _ g => oF Z g) Z (qL Z Z (fun _ _ g => oF Z g) Z (qL Z Z (fun _ _ g => oF Z g) Z (qL Z Z (fun _ _ g => oF Z g) Z (GX.ls Z Z Z (HS.pk 4 [0, 3] Z) (fun _ HS _ g => oF Z g) Z (GX.ls Z Z Z (HS.pk 4 [0, 3] Z) (fun _ HS _ g => oF Z g) Z ?_))))))))))))))
      refine GX.ls Z Z Z (HS.pk 4 [0, 3] Z) (fun _ HS _ g => oF Z g) Z (GX.l2 Z (oF Z (GX.fin (HS.pk 4 [0, 3] Z) (GX.l2 Z (oF Z (GX.fin (HS.pk 4 [0, 3] Z) (GX.l2 Z (oF Z (GX.fin (HS.pk 4 [0, 3] Z) (GX.l2 Z (oF Z (GX.fin (HS.pk 4 [0, 3] Z) (qL Z Z (fun _ _ g => oF Z g) Z (GX.ps 1 Z ?_))))))))))))))
      refine GX.nil (rN 2 Z (rG (lW 3 HS Z Ki (sW 2 HS Z Ki Z fun wd1586 HS => aS Z (nL ?_)))))
      obtain ⟨rfl, rfl, rfl, rfl, rfl, rfl, rfl, rfl, rfl⟩ := Xf H
      exact G.Gq _ _ func143 Z (Gc.Gv (j := 2) (vs := [I a1, I h1, I e1, I g1, I c1, I f1, I d1, I i1]) HS Z Z Z Ki) Z ⟨Z, (HS.pk 4 [] Z)⟩
     obtain ⟨t1587, h1588, H⟩ := bI H
     obtain ⟨t1591, h1592, H⟩ := bI H
     obtain ⟨t1595, h1596, H⟩ := bI H
     obtain ⟨t1599, h1600, H⟩ := bI H
     refine G.Gy mixed (fun w => St w0 w (Box b1563 107 [I e1561.Tet, I e1561.Perm] :: Box b5 174 [I a1, I h1, I e1, I g1, I c1, I f1, I d1, I i1] :: L)) [1, 5, 11, 15, 22, 25, 30] [0, 2, 3, 4, 1, 5, 6, 7, 8, 9, 10, 12, 13, 14, 11, 15, 16, 17, 18, 19, 20, 21, 24, 27, 28, 29, 32, 33, 22, 25, 30, 23, 26, 31, 34, 35, 36] [] (by kernel_rfl) (by kernel_rfl) (HS.drew.pk 4 [0, 3] Z) ?_
     replace HS := HS.drew
     refine qL Z Z (fun _ _ g => fL b1563 0 C9 Z g) Z (GX.ps 1 Z (qL Z Z (fun _ _ g => GO.ixW Z Z Z O4 L9 c1558 Z g) Z (qL Z Z (fun _ _ g => GO.fld (⟨b5, 0 + x1481.toNat * 2, none⟩) Z Z Jl Z Z g) Z (GX.ls Z Z Z (HS.pk 4 [0, 3] Z) (fun _ HS _ g => lB 0 HS Z na2 Z g) Z (GX.ls Z Z Z (HS.pk 4 [0, 3] Z) (fun _ HS _ g => GO.ldW (j := 1) ([a1, e1, c1, d1] : List Int) HS Z Z Z c1558 Z Z na2 Z g) Z (GX.ps 1 Z (qL Z Z (fun _ _ g => mV Z (kN 87 Z (nT c1584) g)) Z (qL Z Z (fun _ _ g => oN Z (mV Z (bK g))) Z (qL Z Z (fun _ _ g => oN Z (GO.ixW Z Z Z O4 L9 c1546 Z (bK g))) Z (qL Z Z (fun _ _ g => oN Z (GO.fld (⟨b5, 0 + x1232.toNat * 2, none⟩) Z Z Jl Z Z (bK g))) Z (qL Z Z (fun _ _ g => oN Z (mV Z (bK g))) Z (qL Z Z (fun _ _ g => oN Z (GO.ixW Z Z Z O4 L9 c1558 Z (bK g))) Z (qL Z Z (fun _ _ g => oN Z (GO.fld (⟨b5, 0 + x1481.toNat * 2, none⟩) Z Z Jl Z Z (bK g))) Z (GX.ls Z Z Z (HS.pk 4 [0, 3] Z) (fun _ HS _ g => oN Z (GO.ldW (j := 1) ([a1, e1, c1, d1] : List Int) HS Z Z Z c1546 Z Z na2 Z (bK g))) Z ?_))))))))))))))
     refine GX.ls Z Z Z (HS.pk 4 [0, 3] Z) (fun _ HS _ g => oN Z (GO.ldW (j := 1) ([a1, e1, c1, d1] : List Int) HS Z Z Z c1558 Z Z na2 Z (bK g))) Z (qL Z Z (fun _ _ g => oN Z (GO.eql Z Z Z Z (bK g))) Z (GX.ps 1 Z (qL Z Z (fun _ _ g => mV Z (kN 98 Z (tF c1585) g)) Z (qL Z Z (fun _ _ g => oN Z (mV Z (bK g))) Z (qL Z Z (fun _ _ g => oN Z (GO.ixW Z Z Z O4 L9 c1546 Z (bK g))) Z (qL Z Z (fun _ _ g => oN Z (GO.fld (⟨b5, 1 + x1232.toNat * 2, none⟩) Z Z Ku (adW _ _ _ _) Z (bK g))) Z (qL Z Z (fun _ _ g => oN Z (fL b1563 1 F4 Z (bK g))) Z (qL Z Z (fun _ _ g => oN Z (mV Z (bK g))) Z (qL Z Z (fun _ _ g => oN Z (GO.ixW Z Z Z O4 L9 c1558 Z (bK g))) Z (qL Z Z (fun _ _ g => oN Z (GO.fld (⟨b5, 1 + x1481.toNat * 2, none⟩) Z Z Ku (adW _ _ _ _) Z (bK g))) Z (qL Z Z (fun _ _ g => oN Z (mV Z (bK g))) Z (qL Z Z (fun _ _ g => oN Z (mV Z (bK g))) Z (GX.ls Z Z Z (HS.pk 4 [0, 3] Z) (fun _ HS _ g => oN Z (GO.ldW (j := 1) ([h1, g1, f1, i1] : List Int) HS Z Z Z c1546 Z Z na2 Z (bK g))) Z (GX.ls Z Z Z (HS.pk 4 [0, 3] Z) (fun _ HS _ g => oN Z (lB 0 HS Z na2 Z (bK g))) Z ?_))))))))))))))
     refine GX.ls Z Z Z (HS.pk 4 [0, 3] Z) (fun _ HS _ g => oN Z (GO.ldW (j := 1) ([h1, g1, f1, i1] : List Int) HS Z Z Z c1558 Z Z na2 Z (bK g))) Z (GX.l2 Z (oN Z (fJ Tf Z (Ed.calls HS  h1588) (fun _ wd1589 ⟨h1590, HS⟩ => ⟨_, h1590, (bK (GX.fin (HS.pk 4 [0, 3] Z) (GX.l2 Z (oN Z (fJ Wo Z (Dx.calls HS  h1592) (fun _ wd1593 ⟨h1594, HS⟩ => ⟨_, h1594, (bK (GX.fin (HS.pk 4 [0, 3] Z) (GX.l2 Z (oN Z (fJ Wo Z (Dx.calls HS  h1596) (fun _ wd1597 ⟨h1598, HS⟩ => ⟨_, h1598, (bK ?_)⟩))))))⟩))))))⟩))))
     refine GX.fin (HS.pk 4 [0, 3] Z) (GX.l2 Z (oN Z (fJ U8 Z (Fy.calls HS  h1600) (fun _ wd1601 ⟨h1602, HS⟩ => ⟨_, h1602, (bK (GX.fin (HS.pk 4 [0, 3] Z) (qL Z Z (fun _ _ g => oN Z (GO.neq Z Z Z Z (bK g))) Z (GX.ps 1 Z (GX.nil ?_)))))⟩))))
     rcases iE H with ⟨c1603, H⟩ | ⟨c1603, H⟩
     ·
      refine nB Z (nT c1603) (rN 4 Z (gW (q1 m1 (lR _) _ _ H (HS.pk 4 [1, 2, 3] Z)) Z))
     refine yB Z (nF c1603) (sQ (rG (lW 3 HS Z Ki (sW 2 HS Z Ki Z fun wd1604 HS => aS Z (nL ?_)))))
     obtain ⟨rfl, rfl, rfl, rfl, rfl, rfl, rfl, rfl, rfl⟩ := Xf H
     exact G.Gq _ _ func143 Z (Gc.Gv (j := 2) (vs := [I a1, I h1, I e1, I g1, I c1, I f1, I d1, I i1]) HS Z Z Z Ki) Z ⟨Z, (HS.pk 4 [] Z)⟩
    exact gW (u1 s1 (lR _) _ _ H HS) Z
   exact gW (b2 n1 (lR _) _ _ H (HS.pk 4 [0, 1, 2] Z)) Z
  exact gW (x1 K (lR _) _ _ _ _ _ _ _ _ _ _ H (HS.pk 5 [4, 3, 2, 0] Z)) Z
theorem Bl.calls {d1 : List (List Ab)} {tet k_ : Int} {y_a : Nat → (Ty.slice 107 Ad).Lay} {r1 : Option (List Int × List (Gd × Dn) × Int × List Fg)} (HS : St w0 w (L)) (r_a : Ca w0 L (Ty.slice 107 Ad) A_a c_a y_a d1) (H : Bl.f K d1 tet k_ = some r1) :
    Calls prog 114 #[.agg [sV A_a d1 c_a].toArray, I tet, I k_] w (Bl.post w0 L r1) := by
  unfold Bl.f at H
  refine cG func114 Z ?_
  refine sQ (rG (bA HS Z fun b1 wd2 HS => aS Z (nL (sQ ?_))))
  obtain ⟨t3, t4, t5, t6, t7, t8, t9, t10, t11, h12, H⟩ := Yl H
  refine rG (lW 0 HS Z Ep (pS 2 Z (fJ lV Z (Ag.calls HS (rD 1 r_a) h12) (fun _ wd13 ⟨h14, HS⟩ => ⟨_, h14, (pS 3 Z (GO.alloc HS Z aU Z Z fun b15 wd16 HS => sW 0 HS Z Ki Z fun wd17 HS => aS Z (nL (rN 3 Z ?_))))⟩))))
  rcases iS H with ⟨c18, H⟩ | ⟨c18, H⟩
  ·
   refine yB Z (congrArg Bool.not (De c18)) (rN 2 Z ?_)
   replace HS := HS.emp
   obtain rfl := sI H
   exact rT _ func114 Z Z ⟨0, none, 0, 0, none, 0, Z, (HS.pk 3 [0] Z)⟩
  refine nB Z (congrArg Bool.not c18) (rN 2 Z ?_)
  obtain ⟨t19, t20, t21, t22, h23, H⟩ := D9 H
  refine rG ?_
  replace HS := HS.Da (Ar .i64) 2 uu
  replace HS := HS.pk 3 [0, 1, 2] Z
  refine fJ Vo Z (have q := Fh.calls HS  h23; q) (fun _ wd30 ⟨b24, A25, c26, b27, A28, c29, h31, HS⟩ => ⟨_, h31, (aS Z (nL (rN 2 Z (rG (lW 4 HS Z Ki (mV Z (nL (rN 2 Z ?_))))))))⟩)
  refine G.name (fun g1 f1 => ?_)
  have h1 : ∀ e1, e1 ≤ K → ∀ (A64 : Option Addr) (c65 : Nat) (a1 : List Int) (c1 : List (Gd × Dn)) (x68 : Int) (w : World), Bl.l1 K e1 t3 t4 t5 t6 t7 t8 t9 t10 t21 t22 a1 c1 x68 = some r1 → St w0 w (Box b24 104 [sV A64 a1 c65, .map (some b27), I t21, sV A28 t22 c29] :: Own (Ar .i64) 2 A64 c65 uu a1 :: Hw b27 Fz Dy c1 :: Own Ha 131 A28 c29 uu t22 :: L) → G prog 114 53 [(9, pT b24), (22, .agg [I t3, I t4, I t5, I t6, I t7, I t8, I t9, I t10].toArray), (23, I x68)] g1 w (Bl.post w0 L r1) := by
   refine lp (fun _ _ _ _ _ w H _ => by rw [Bl.l1] at H; cases H) fun i1 m1 k1 A64 c65 a1 c1 x68 w H HS => ?_
   rw [Bl.l1] at H
   subst f1
   refine rN 3 Z ?_
   rcases iS H with ⟨c103, H⟩ | ⟨c103, H⟩
   ·
    refine nB Z (tF c103) (rN 3 Z ?_)
    replace HS := St.opt (F := (fun x => [Box b24 104 [.slice A64 x.1.length c65, .map (some b27), I x.2.2.1, .slice A28 x.2.2.2.length c29], Own (Ar .i64) 2 A64 c65 uu x.1, Hw b27 Fz Dy x.2.1, Own Ha 131 A28 c29 uu x.2.2.2])) (a1, c1, t21, t22) HS Z
    obtain rfl := sI H
    exact rT _ func114 Z Z ⟨_, _, _, _, _, _, Z, HS⟩
   refine yB Z (tT c103) (rN 4 Z ?_)
   obtain ⟨c104, H⟩ := iN H
   refine rG (mV Z (GO.nQ (sz := 2) (fun u_ => [I (([t3, t5, t7, t9] : List Int).getD u_ 0), I (([t4, t6, t8, t10] : List Int).getD u_ 0)]) Z Z Z O4 Mq c104 (four Z Z Z Z) Z (GO.alloc HS Z Qh Z Z fun b105 wd106 HS => aS Z (sW 0 HS Z Mq Z fun wd107 HS => nL (sQ ?_)))))
   obtain ⟨c113, H⟩ := iN H
   refine G.Gy mixed (fun w => St w0 w (Box b105 127 [I (([t3, t5, t7, t9] : List Int).getD x68.toNat 0), I (([t4, t6, t8, t10] : List Int).getD x68.toNat 0)] :: Box b24 104 [sV A64 a1 c65, .map (some b27), I t21, sV A28 t22 c29] :: L)) [4, 6] [0, 1, 2, 3, 5, 4, 6, 7, 8, 9, 10, 11] [11] (by kernel_rfl) (by kernel_rfl) (HS.drew.pk 5 [0, 1] Z) ?_
   replace HS := HS.drew
   refine GX.ps 2 Z (qL Z Z (fun _ _ g => GO.M9 Z Z Z g) Z (qL Z Z (fun _ _ g => fL b24 0 Nn Z g) Z (qL Z Z (fun _ _ g => fL b105 0 Jl Z g) Z (GX.ls Z Z Z (HS.pk 5 [0, 1] Z) (fun _ HS _ g => lB 1 HS Z Hy Z g) Z (GX.ls Z Z Z (HS.pk 5 [0, 1] Z) (fun _ HS _ g => lB 0 HS Z na2 Z g) Z (GX.l2 Z (GO.Cr (el := 2) ([I (([t3, t5, t7, t9] : List Int).getD x68.toNat 0)]) HS Z Z (fun _ => by kernel_rfl) Z fun b108 wd109 HS => GX.fin (HS.pk 6 [1, 2] Z) (GX.l2 Z (GO.app1 (T := (Ar .i64)) (j := 3) (jb := 0) (([t3, t5, t7, t9] : List Int).getD x68.toNat 0) HS Z Z Au Z Z Z U56 K5 Z Z Z c113 Z fun A111 c112 wd110 HS => GX.fin (HS.pk 6 [1, 2] Z) (qL Z Z (fun _ _ g => GO.M9 Z Z Z g) Z (qL Z Z (fun _ _ g => fL b24 0 Nn Z g) Z (GX.l2 Z ?_))))))))))))
   refine GO.Gu (j := 2) (vs := [sV A111 (a1 ++ [(([t3, t5, t7, t9] : List Int).getD x68.toNat 0)]) c112]) ([sV A111 (a1 ++ [(([t3, t5, t7, t9] : List Int).getD x68.toNat 0)]) c112, .map (some b27), I t21, sV A28 t22 c29]) HS Z Z Z Z Z (htN Hy Z) Z Z Z fun wd114 HS => GX.Ql Z (GX.nil ?_)
   obtain ⟨t115, h116, H⟩ := bI H
   obtain ⟨t119, t120, t121, t122, h123, H⟩ := D9 H
   obtain ⟨t126, t127, t128, t129, h130, H⟩ := D9 H
   obtain ⟨t133, h134, H⟩ := bI H
   refine G.Gy mixed (fun w => St w0 w (Box b105 127 [I (([t3, t5, t7, t9] : List Int).getD x68.toNat 0), I (([t4, t6, t8, t10] : List Int).getD x68.toNat 0)] :: L)) [2, 4, 10] [0, 1, 3, 7, 9, 2, 4, 10, 5, 6, 8, 11, 12] [] (by kernel_rfl) (by kernel_rfl) (HS.drew.pk 6 [1] Z) ?_
   replace HS := HS.drew
   refine GX.ps 1 Z (qL Z Z (fun _ _ g => fL b105 0 Jl Z g) Z (qL Z Z (fun _ _ g => fL b105 1 Ku Z g) Z (GX.ps 1 Z (qL Z Z (fun _ _ g => fL b105 1 Ku Z g) Z (GX.ls Z Z Z (HS.pk 6 [1] Z) (fun _ HS _ g => lB 0 HS Z na2 Z g) Z (GX.ls Z Z Z (HS.pk 6 [1] Z) (fun _ HS _ g => lB 0 HS Z na2 Z g) Z (GX.ls Z Z Z (HS.pk 6 [1] Z) (fun _ HS _ g => lB 0 HS Z na2 Z g) Z (GX.l2 Z (fJ Tf Z (Ed.calls HS  h116) (fun _ wd117 ⟨h118, HS⟩ => ⟨_, h118, (GX.fin (HS.pk 6 [1] Z) (GX.l2 Z (fJ Km Z (Ct.calls HS  h123) (fun _ wd124 ⟨h125, HS⟩ => ⟨_, h125, (GX.fin (HS.pk 6 [1] Z) (qL Z Z (fun _ _ g => GO.Tn ([t119, t120, t121, t122] : List Int) Z Z Z Gg U2 sz2 Z c104.1 c104.2 Z g) Z ?_))⟩))))⟩))))))))))
   refine GX.l2 Z (fJ Km Z (Ct.calls HS  h130) (fun _ wd131 ⟨h132, HS⟩ => ⟨_, h132, (GX.fin (HS.pk 6 [1] Z) (GX.l2 Z ?_))⟩))
   replace HS := HS.pk 6 [2, 4, 0, 1, 3, 5] Z
   refine fJ O7 Z (Ef.calls HS (ro 2 Z) (ro 3 Z) h134) (fun _ wd135 ⟨h136, HS⟩ => ⟨_, h136, (GX.fin (HS.pk 6 [3] Z) (GX.nil (rN 3 Z (gW (k1 i1 (lR _) _ _ _ _ _ _ H (HS.pk 6 [0, 4, 1, 5] Z)) Z))))⟩)
  exact gW (h1 K (lR _) _ _ _ _ _ _ H (HS.pk 6 [0, 1, 2, 3] Z)) Z
theorem Dp.calls {a1 : List (List Ab)} {e1 d1 c1 : Int} {y_a : Nat → (Ty.slice 107 Ad).Lay} {r1 : Option (List Int × List (Gd × Dn) × Int × List Fg)} (HS : St w0 w (L)) (r_a : Ca w0 L (Ty.slice 107 Ad) A_a c_a y_a a1) (H : Dp.f K a1 e1 d1 c1 = some r1) :
    Calls prog 73 #[.agg [sV A_a a1 c_a].toArray, .agg [I e1, I d1, I c1].toArray] w (Dp.post w0 L r1) := by
  unfold Dp.f at H
  refine cG func73 Z ?_
  refine sQ (rG (bA HS Z fun b1 wd2 HS => bA HS Z fun b3 wd4 HS => aS Z (nL (rN 2 Z (rG (fL b3 0 M5 Z (lB 0 HS Z na2 Z (nL (rN 3 Z ?_)))))))))
  rcases iE H with ⟨c5, H⟩ | ⟨c5, H⟩
  ·
   refine yB Z (tT c5) (sQ ?_)
   obtain ⟨t6, h7, H⟩ := bI H
   refine rG (lW 1 HS Z Ep (fL b3 1 Kb Z (lB 0 HS Z na2 Z (fL b3 2 Mi Z (lB 0 HS Z na2 Z (fJ mD Z (Bq.calls HS (rD 2 r_a) h7) (fun _ wd14 ⟨b8, A9, c10, b11, A12, c13, h15, HS⟩ => ⟨_, h15, (aS Z (nL ?_))⟩)))))))
   obtain rfl := sI H
   exact rT _ func73 Z Z ⟨_, _, _, _, _, _, Z, (HS.pk 3 [0] Z)⟩
  refine nB Z (tF c5) (rN 2 Z ?_)
  rcases iE H with ⟨c16, H⟩ | ⟨c16, H⟩
  ·
   refine yB Z (tT c16) (sQ ?_)
   obtain ⟨t17, h18, H⟩ := bI H
   refine rG (lW 1 HS Z Ep (fL b3 1 Kb Z (lB 0 HS Z na2 Z (fL b3 2 Mi Z (lB 0 HS Z na2 Z (fJ lX Z (Bc.calls HS (rD 2 r_a) h18) (fun _ wd25 ⟨b19, A20, c21, b22, A23, c24, h26, HS⟩ => ⟨_, h26, (aS Z (nL ?_))⟩)))))))
   obtain rfl := sI H
   exact rT _ func73 Z Z ⟨_, _, _, _, _, _, Z, (HS.pk 3 [0] Z)⟩
  refine nB Z (tF c16) (rN 2 Z ?_)
  rcases iS H with ⟨c27, H⟩ | ⟨c27, H⟩
  ·
   refine nB Z (tF c27) (rN 3 Z ?_)
   obtain ⟨t41, h42, H⟩ := bI H
   refine rG (lW 1 HS Z Ep (fL b3 1 Kb Z (lB 0 HS Z na2 Z (fL b3 2 Mi Z (lB 0 HS Z na2 Z (fJ mE Z (Bl.calls HS (rD 2 r_a) h42) (fun _ wd49 ⟨b43, A44, c45, b46, A47, c48, h50, HS⟩ => ⟨_, h50, (aS Z (nL ?_))⟩)))))))
   obtain rfl := sI H
   exact rT _ func73 Z Z ⟨_, _, _, _, _, _, Z, (HS.pk 3 [0] Z)⟩
  refine yB Z (tT c27) (sQ ?_)
  obtain ⟨t28, t29, t30, t31, h32, H⟩ := D9 H
  refine rG (fL b3 1 Kb Z (lB 0 HS Z na2 Z (fJ nN Z (Dt.calls HS  h32) (fun _ wd39 ⟨b33, A34, c35, b36, A37, c38, h40, HS⟩ => ⟨_, h40, (aS Z (nL ?_))⟩))))
  replace HS := St.opt (F := (fun x => [Box b33 104 [.slice A34 x.1.length c35, .map (some b36), I x.2.2.1, .slice A37 x.2.2.2.length c38], Own (Ar .i64) 2 A34 c35 uu x.1, Hw b36 Fz Dy x.2.1, Own Ha 131 A37 c38 uu x.2.2.2])) (t28, t29, t30, t31) HS Z
  obtain rfl := sI H
  exact rT _ func73 Z Z ⟨_, _, _, _, _, _, Z, (HS.pk 3 [0] Z)⟩
theorem D8.calls {a1 : List (List Ab)} {e1 d1 c1 : Int} {y_a : Nat → (Ty.slice 107 Ad).Lay} {r1 : Option (List Int × List (Gd × Dn) × Int × List Fg)} {r2 : Int} (HS : St w0 w (L)) (r_a : Ca w0 L (Ty.slice 107 Ad) A_a c_a y_a a1) (H : D8.f K a1 e1 d1 c1 = some (r1, r2)) :
    Calls prog 43 #[.agg [sV A_a a1 c_a].toArray, .agg [I e1, I d1, I c1].toArray] w (D8.post w0 L r1 r2) := by
  unfold D8.f at H
  refine cG func43 Z ?_
  refine sQ (rG (bA HS Z fun b1 wd2 HS => bA HS Z fun b3 wd4 HS => pS 2 Z (nL (rN 2 Z ?_))))
  obtain ⟨t18, h19, H⟩ := bI H
  rcases iS H with ⟨c22, H⟩ | ⟨c22, H⟩
  ·
   refine G.Gy mixed (fun w => St w0 w (Box b3 33 [I e1, I d1, I c1] :: Box b1 31 [sV A_a a1 c_a] :: L)) [1, 3, 8, 10] [0, 2, 1, 3, 4, 5, 6, 7, 9, 8, 10, 11, 12, 13, 14, 15] [] (by kernel_rfl) (by kernel_rfl) HS.drew ?_
   replace HS := HS.drew
   refine qL Z Z (fun _ _ g => fL b1 0 Dk Z g) Z (qL Z Z (fun _ _ g => fL b3 1 Kb Z g) Z (GX.ls Z Z Z HS (fun _ HS _ g => lB 1 HS Z Ga Z g) Z (GX.ls Z Z Z HS (fun _ HS _ g => lB 0 HS Z na2 Z g) Z (GX.l2 Z (fJ Y2 Z (Db.calls HS (rD 2 r_a) h19) (fun _ wd20 ⟨h21, HS⟩ => ⟨_, h21, (GX.fin HS (GX.ps 1 Z (qL Z Z (fun _ _ g => mV Z (kN 13 Z (congrArg Bool.not (De c22)) g)) Z (qL Z Z (fun _ _ g => oF Z g) Z (qL Z Z (fun _ _ g => oF Z g) Z (GX.ls Z Z Z HS (fun _ HS _ g => oF Z g) Z (GX.ls Z Z Z HS (fun _ HS _ g => oF Z g) Z (GX.l2 Z (oF Z ?_)))))))))⟩))))))
   refine GX.fin HS (qL Z Z (fun _ _ g => oF Z g) Z (GX.l2 Z (oF Z (GX.fin HS (qL Z Z (fun _ _ g => oF Z g) Z (GX.ps 1 Z (GX.nil (rN 3 Z ?_))))))))
   replace HS := HS.emp
   obtain ⟨rfl, rfl⟩ := G5 H
   exact G.Gq _ _ func43 Z Z Z ⟨0, none, 0, 0, none, 0, Z, (HS.pk 3 [0] Z)⟩
  obtain ⟨t23, h24, H⟩ := bI H
  obtain ⟨t27, h28, H⟩ := bI H
  refine G.Gy mixed (fun w => St w0 w (Box b3 33 [I e1, I d1, I c1] :: Box b1 31 [sV A_a a1 c_a] :: L)) [1, 3, 8, 10] [0, 2, 1, 3, 4, 5, 6, 7, 9, 8, 10, 11, 12, 13, 14, 15] [] (by kernel_rfl) (by kernel_rfl) HS.drew ?_
  replace HS := HS.drew
  refine qL Z Z (fun _ _ g => fL b1 0 Dk Z g) Z (qL Z Z (fun _ _ g => fL b3 1 Kb Z g) Z (GX.ls Z Z Z HS (fun _ HS _ g => lB 1 HS Z Ga Z g) Z (GX.ls Z Z Z HS (fun _ HS _ g => lB 0 HS Z na2 Z g) Z (GX.l2 Z (fJ Y2 Z (Db.calls HS (rD 2 r_a) h19) (fun _ wd20 ⟨h21, HS⟩ => ⟨_, h21, (GX.fin HS (GX.ps 1 Z (qL Z Z (fun _ _ g => mV Z (kN 13 Z (congrArg Bool.not c22) g)) Z (qL Z Z (fun _ _ g => oN Z (fL b3 2 Mi Z (bK g))) Z (qL Z Z (fun _ _ g => oN Z (fL b3 0 M5 Z (bK g))) Z (GX.ls Z Z Z HS (fun _ HS _ g => oN Z (lB 0 HS Z na2 Z (bK g))) Z (GX.ls Z Z Z HS (fun _ HS _ g => oN Z (lB 0 HS Z na2 Z (bK g))) Z (GX.l2 Z (oN Z ?_)))))))))⟩))))))
  refine fJ rV Z (Fj.calls HS  h24) (fun _ wd25 ⟨h26, HS⟩ => ⟨_, h26, (bK (GX.fin HS (qL Z Z (fun _ _ g => oN Z (GO.sub Z Z Z Z (bK g))) Z (GX.l2 Z (oN Z (fJ eZ Z (Gi.calls HS  h28) (fun _ wd29 ⟨h30, HS⟩ => ⟨_, h30, (bK (GX.fin HS (qL Z Z (fun _ _ g => oN Z (GO.not Z Z Z (bK g))) Z (GX.ps 1 Z (GX.nil ?_)))))⟩)))))))⟩)
  rcases iS H with ⟨c31, H⟩ | ⟨c31, H⟩
  ·
   refine yB Z (congrArg Bool.not (De c31)) (rN 2 Z ?_)
   replace HS := HS.emp
   obtain ⟨rfl, rfl⟩ := G5 H
   exact G.Gq _ _ func43 Z Z Z ⟨0, none, 0, 0, none, 0, Z, (HS.pk 3 [0] Z)⟩
  refine nB Z (congrArg Bool.not c31) (rN 2 Z ?_)
  obtain ⟨t32, h33, H⟩ := bI H
  refine rG (lW 1 HS Z Ep (lW 0 HS Z Yo (fJ uD Z (Dp.calls HS (rD 2 r_a) h33) (fun _ wd40 ⟨b34, A35, c36, b37, A38, c39, h41, HS⟩ => ⟨_, h41, (aS Z (nL (rN 3 Z (rG (mV Z (GO.tQ Z Z Z Option.isNone_map U70 Z (aS Z (nL ?_))))))))⟩))))
  rcases aF H with ⟨h44, H⟩ | ⟨x43, h44, H⟩
  ·
   subst h44
   replace HS := HS.tail
   refine rN 3 Z ?_
   replace HS := HS.emp
   obtain ⟨rfl, rfl⟩ := G5 H
   exact G.Gq _ _ func43 Z Z Z ⟨0, none, 0, 0, none, 0, Z, (HS.pk 3 [0] Z)⟩
  subst h44
  replace HS : St w0 _ (Box b34 104 [.slice A35 x43.1.length c36, .map (some b37), I x43.2.2.1, .slice A38 x43.2.2.2.length c39] :: Own (Ar .i64) 2 A35 c36 uu x43.1 :: Hw b37 Fz Dy x43.2.1 :: Own Ha 131 A38 c39 uu x43.2.2.2 :: Box b3 33 [I e1, I d1, I c1] :: Box b1 31 [sV A_a a1 c_a] :: L) := St.rH HS
  refine nB Z (De Bool.false_ne_true) (sQ (G.lex mixed [0, 3, 4, 5, 9, 10, 11, 1, 2, 6, 7, 8, 12, 13, 14, 15] (by kernel_rfl) ?_))
  replace HS := HS.drew
  refine qL Z Z (fun _ _ g => fL b1 0 Dk Z g) Z (GX.ps 1 Z (qL Z Z (fun _ _ g => GO.M9 Z Z Z g) Z (qL Z Z (fun _ _ g => fL b34 0 Nn Z g) Z (GX.ps 1 Z (qL Z Z (fun _ _ g => GO.M9 Z Z Z g) Z (qL Z Z (fun _ _ g => fL b34 2 Y9 Z g) Z (GX.l1 Z Z Z (fun _ g => lB 5 HS Z Ga Z g) Z (GX.l1 Z Z Z (fun _ g => lS Z Z U29 Z g) Z (GX.l1 Z Z Z (fun _ g => lB 0 HS Z Hy Z g) Z (GX.l1 Z Z Z (fun _ g => lS Z Z U56 Z g) Z (GX.ps 1 Z (GX.l1 Z Z Z (fun _ g => lB 0 HS Z na2 Z g) Z (GX.ps 3 Z (GX.nil ?_))))))))))))))
  rcases iE H with ⟨c45, H⟩ | ⟨c45, H⟩
  ·
   refine yB Z (tT c45) (rN 2 Z ?_)
   replace HS := HS.emp
   obtain ⟨rfl, rfl⟩ := G5 H
   exact G.Gq _ _ func43 Z Z Z ⟨0, none, 0, 0, none, 0, Z, (HS.pk 7 [0] Z)⟩
  refine nB Z (tF c45) (rN 4 Z ?_)
  replace HS := St.opt (F := (fun x => [Box b34 104 [.slice A35 x.1.length c36, .map (some b37), I x.2.2.1, .slice A38 x.2.2.2.length c39], Own (Ar .i64) 2 A35 c36 uu x.1, Hw b37 Fz Dy x.2.1, Own Ha 131 A38 c39 uu x.2.2.2])) (x43.1, x43.2.1, x43.2.2.1, x43.2.2.2) HS Z
  obtain ⟨rfl, rfl⟩ := G5 H
  exact G.Gq _ _ func43 Z Z Z ⟨_, _, _, _, _, _, Z, (HS.pk 3 [0] Z)⟩
theorem Cu.calls {s : List Ab} {r1 : List Ab} (HS : St w0 w (L)) (r_a : Ca w0 L Ad A_a c_a uu s) (H : Cu.f s = some r1) :
    Calls prog 88 #[sV A_a s c_a] w (Cu.post w0 L r1) := by
  unfold Cu.f at H
  refine cG func88 Z ?_
  refine rN 4 Z (rG (mV Z (GO.rA Z Z Z U77 Z (nL ?_))))
  rcases Decidable.em (A_a.isNone = true) with c1 | c1
  ·
   obtain rfl := Xa r_a HS c1
   refine yB Z c1 (rN 2 Z ?_)
   replace HS := HS.Da Ad 107 uu
   replace H : some ([] : List Ab) = some r1 := H
   obtain rfl := sI H
   exact rT _ func88 Z Z ⟨_, _, Z, HS⟩
  refine nB Z (De c1) (rN 2 Z ?_)
  obtain ⟨c7, H⟩ := iN H
  refine rG (GO.Cr (el := 107) ([]) HS Z Z (fun _ => by kernel_rfl) Z fun b2 wd3 HS => mV Z ?_)
  replace HS := HS.Ey (T := Ad) (j := 0) Z Au uu ([] : List Ab) Z (Hq Z)
  refine GO.Gw (t := 5) (m := ([] : List Ab).length) (c' := ([] : List Ab).length) Z Z Z (GO.oL (T := Ad) (j := 0) HS Z (rD 1 r_a) Au Z Z Z U77 X6 Z Z Z c7 Z (fun _ => Z) fun A5 c6 wd4 HS => aS Z (nL ?_))
  obtain rfl := sI H
  exact rT _ func88 Z Z ⟨_, _, Z, HS⟩
theorem Cm.calls {c1 : List (List Ab)} {y_a : Nat → (Ty.slice 107 Ad).Lay} {r1 : List (List Ab)} (HS : St w0 w (L)) (r_a : Ca w0 L (Ty.slice 107 Ad) A_a c_a y_a c1) (H : Cm.f K c1 = some r1) :
    Calls prog 54 #[.agg [sV A_a c1 c_a].toArray] w (Cm.post w0 L r1) := by
  unfold Cm.f at H
  refine cG func54 Z ?_
  refine sQ (rG (bA HS Z fun b1 wd2 HS => GO.alloc HS Z Nv Z Z fun b3 wd4 HS => nL (sQ (rG (GO.alloc HS Z Nv Z Z fun b5 wd6 HS => nL (rN 2 Z (rG (fL b1 0 Dk Z (lB 2 HS Z Ga Z (lS Z Z U29 Z (mV Z ?_)))))))))))
  refine nL (rN 2 Z ?_)
  refine G.name (fun f1 e1 => ?_)
  have g1 : ∀ d1, d1 ≤ K → ∀ (A24 : Option Addr) (c25 : Nat) (a1 : List (List Ab)) (y27 : Nat → (Ty.slice 107 Ad).Lay) (x28 : Int) (w : World), Cm.l1 K d1 c1 a1 x28 = some r1 → St w0 w (Box b3 31 [.slice none 0 0] :: Box b5 31 [sV A24 a1 c25] :: Own (Ty.slice 107 Ad) 77 A24 c25 y27 a1 :: L) → G prog 54 22 [(2, pT b3), (3, pT b5), (7, sV A_a c1 c_a), (8, I (c1.length : Int)), (9, I x28)] f1 w (Cm.post w0 L r1) := by
   refine lp (fun _ _ _ _ _ w H _ => by rw [Cm.l1] at H; cases H) fun h1 k1 i1 A24 c25 a1 y27 x28 w H HS => ?_
   rw [Cm.l1] at H
   subst e1
   refine rN 3 Z ?_
   rcases iS H with ⟨c46, H⟩ | ⟨c46, H⟩
   ·
    refine nB Z (tF c46) (rN 2 Z (rG (lW 1 HS Z Ep (sW 0 HS Z Ep Z fun wd62 HS => nL ?_))))
    obtain rfl := sI H
    exact rT _ func54 Z (Gc.Gv (j := 0) (vs := [sV A24 a1 c25]) HS Z Z Z Ep) ⟨_, _, _, Z, (HS.pk 3 [2] Z)⟩
   refine yB Z (tT c46) (rN 4 Z ?_)
   obtain ⟨c47, H⟩ := iN H
   refine rG (iX Z U29 Ie (rk (rD 3 r_a) HS) c47 (GO.Ce (T := (Ty.slice 107 Ad)) (n := x28.toNat) (o := 0) HS (rD 3 r_a) Z Z (getD_some (d := []) (ltN c47)) Z Z Ii Z (aS Z (nL ?_))))
   obtain ⟨t48, h49, H⟩ := bI H
   obtain ⟨c59, H⟩ := iN H
   refine G.Gy mixed (fun w => St w0 w (Box b5 31 [sV A24 a1 c25] :: L)) [1] [0, 2, 1, 3, 4, 5, 6, 7] [7] (by kernel_rfl) (by kernel_rfl) (HS.drew.pk 3 [1] Z) ?_
   replace HS := HS.drew
   refine qL Z Z (fun _ _ g => fL b5 0 Dk Z g) Z (GX.ps 1 Z (GX.ls Z Z Z (HS.pk 3 [1] Z) (fun _ HS _ g => lB 0 HS Z Ga Z g) Z (GX.l2 Z (fJ lU Z (Cu.calls HS (Ca.elem (rD 3 r_a) c47.1 c47.2) h49) (fun _ wd52 ⟨A50, c51, h53, HS⟩ => ⟨_, h53, (GX.fin (HS.pk 4 [2] Z) (GX.l2 Z (GO.Cr (el := 77) ([sV A50 t48 c51]) HS Z Z (fun _ => by kernel_rfl) Z fun b54 wd55 HS => GX.fin (HS.pk 5 [3] Z) (GX.l2 Z ?_))))⟩)))))
   replace HS := HS.pk 5 [4, 0, 1, 2, 3] Z
   refine GO.Su (S := Ad) (u := 107) HS Z Z Z U29 Qc Z Z c59 Z fun A57 c58 y60 wd56 HS => GX.fin (HS.pk 4 [3] Z) (qL Z Z (fun _ _ g => fL b5 0 Dk Z g) Z (GX.l2 Z (GO.Gu (j := 3) (vs := [sV A57 (a1 ++ [t48]) c58]) ([sV A57 (a1 ++ [t48]) c58]) HS Z Z Z Z Z (htN Ga Z) Z Z Z fun wd61 HS => GX.Ql Z (GX.nil (rN 3 Z (gW (i1 h1 (lR _) _ _ _ _ _ _ H (HS.pk 4 [2, 3, 0] Z)) Z))))))
  replace HS := HS.Da (Ty.slice 107 Ad) 77 (fun _ => ⟨none, 0, uu⟩)
  exact gW (g1 K (lR _) _ _ _ _ _ _ H (HS.pk 4 [2, 1, 0] Z)) Z
theorem Il.calls {r1 r2 : Int} (HS : St w0 w (L)) (H : Il.f = some (r1, r2)) :
    Calls prog 128 #[] w (Il.post w0 L r1 r2) := by
  unfold Il.f at H
  refine cG func128 Z ?_
  refine sQ (rG (GO.alloc HS Z Jf Z Z fun b1 wd2 HS => nL (sQ (rG (GO.Df (.agg [I (-1), I 0].toArray) Z Z (fun _ => by kernel_rfl) Z (sW 0 HS Z Dq Z fun wd3 HS => nL ?_))))))
  obtain ⟨rfl, rfl⟩ := G5 H
  exact rT _ func128 Z (Gc.Gv (j := 0) (vs := [I (-1), I 0]) HS Z Z Z Dq) ⟨Z, (HS.pk 1 [] Z)⟩
theorem Ht.calls {x y : Int} {r1 r2 : Int} (HS : St w0 w (L)) (H : Ht.f x y = some (r1, r2)) :
    Calls prog 165 #[.int .u64 x, .int .u64 y] w (Ht.post w0 L r1 r2) := by
  unfold Ht.f at H
  refine cG func165 Z ?_
  refine rN 3 Z (rG (mV Z (GO.bits (by simp) Z Z Z Z (aS Z (nL (sQ (rG (mV Z (GO.shr Z Z Z (by decide) (by decide) Z (aS Z (nL (sQ (rG (mV Z ?_))))))))))))))
  refine GO.bits (by simp) Z Z Z Z (aS Z (nL (sQ (rG (mV Z (GO.shr Z Z Z (by decide) (by decide) Z (aS Z (nL (rN 3 Z (rG (pS 4 Z (GO.shr Z Z Z (by decide) (by decide) Z (pS 2 Z (nL ?_))))))))))))))
  refine sQ (rG (mV Z (GO.bits (by simp) Z Z Z Z (aS Z (nL (sQ (rG (mV Z (GO.shr Z Z Z (by decide) (by decide) Z (aS Z (nL (rN 3 Z (rG (pS 6 Z ?_))))))))))))))
  refine GO.shr Z Z Z (by decide) (by decide) Z (pS 2 Z (nL (rN 2 Z ?_)))
  obtain ⟨rfl, rfl⟩ := G5 H
  exact G.Gq _ _ func165 Z Z Z ⟨Z, HS⟩
theorem Im.calls {x y : Int} {r1 r2 : Int} (HS : St w0 w (L)) (H : Im.f x y = some (r1, r2)) :
    Calls prog 153 #[.int .u64 x, .int .u64 y] w (Im.post w0 L r1 r2) := by
  unfold Im.f at H
  refine cG func153 Z ?_
  refine rN 6 Z ?_
  obtain ⟨t1, t2, h3, H⟩ := Dv H
  refine rG (pS 2 Z (fJ oM Z (Ht.calls HS  h3) (fun _ wd4 ⟨h5, HS⟩ => ⟨_, h5, (pS 5 Z (nL (rN 2 Z ?_)))⟩)))
  obtain ⟨rfl, rfl⟩ := G5 H
  exact G.Gq _ _ func153 Z Z Z ⟨Z, HS⟩
theorem Az.calls {x : List Ab} {count : Int} {r1 : List Ab} (HS : St w0 w (L)) (r_a : Ca w0 L Ad A_a c_a uu x) (H : Az.f K x count = some r1) :
    Calls prog 127 #[sV A_a x c_a, I count] w (Az.post w0 L r1) := by
  unfold Az.f at H
  refine cG func127 Z ?_
  refine rN 5 Z ?_
  rcases iE H with ⟨c2, H⟩ | ⟨c2, H⟩
  ·
   refine yB Z (tT c2) ?_
   cases H
  refine nB Z (tF c2) (rN 2 Z ?_)
  obtain ⟨t3, t4, h5, H⟩ := Dv H
  refine rG (mV Z (lS Z Z U77 Z (GO.conv Z Z U3 nO Z (mV Z (GO.conv Z Z U3 nO Z (fJ mF Z (Im.calls HS  h5) (fun _ wd6 ⟨h7, HS⟩ => ⟨_, h7, (pS 5 Z (nL (rN 2 Z ?_)))⟩)))))))
  refine G.Oq (fun i1 h1 => ?_)
  have e1 : ∀ c1, c1 ≤ K → ∀ (x10 : Bool) (w : World), Az.j2 K c1 x t4 x10 = some r1 → St w0 w (L) → G prog 127 48 [(0, sV A_a x c_a), (6, .int .u64 t4), (26, .bool x10)] i1 w (Az.post w0 L r1) := by
   refine jp (fun _ w H _ => by rw [Az.j2] at H; cases H) fun d1 q1 x10 w H HS => ?_
   rw [Az.j2] at H
   subst h1
   rcases iE H with ⟨c12, H⟩ | ⟨c12, H⟩
   ·
    refine yB Z c12 ?_
    cases H
   refine nB Z (De c12) (rN 2 Z ?_)
   obtain ⟨c13, H⟩ := iN H
   obtain ⟨c14, H⟩ := iN H
   refine rG (mV Z (GO.conv Z Z nO U3 Z (GO.make (T := Ad) Bb () HS Au Z Z Z U77 X6 Z Z Z c13 c14 Z fun b15 wd16 HS => aS Z (nL (sQ ?_)))))
   have h18 := Ws (xs := (List.replicate (w64 (t4)).toNat Bb)) (ys := x) (Nat.le_of_eq (Nat.zero_add _))
   refine rG (pS 2 Z (GO.kL (T := Ad) (j := 0) (l := 0) HS Z (rD 1 r_a) Au Z Z Z U77 Gb Z lZ (Nat.le_of_eq (Nat.zero_add _)) (fun _ _ => Z) (fun _ => Z) fun wd17 HS => aS Z (nL (G.len (t := 7) (m := (over (List.replicate (w64 (t4)).toNat Bb) 0 (x.take ((List.replicate (w64 (t4)).toNat Bb).length))).length) Z (by simp only [List.length_set, h18] <;> rfl) (rN 3 Z ?_)))))
   refine G.name (fun n1 m1 => ?_)
   have o1 : ∀ f1, f1 ≤ d1 → ∀ (a1 : List Ab) (b1 : Int) (w : World), Az.l4 K f1 a1 b1 = some r1 → St w0 w (Own Ad 107 (sb b15) ((w64 (t4)).toNat) uu a1 :: L) → G prog 127 48 [(7, sV (sb b15) a1 ((w64 (t4)).toNat)), (8, I b1)] n1 w (Az.post w0 L r1) := by
    refine lp (fun _ _ w H _ => by rw [Az.l4] at H; cases H) fun g1 p1 k1 a1 b1 w H HS => ?_
    rw [Az.l4] at H
    subst m1
    refine rN 2 Z (rG (pS 2 Z (lS Z Z U77 Z (GO.lss Z Z Z Z (nL ?_)))))
    rcases iS H with ⟨c29, H⟩ | ⟨c29, H⟩
    ·
     refine nB Z (tF c29) (rN 3 Z ?_)
     obtain rfl := sI H
     exact rT _ func127 Z Z ⟨_, _, Z, HS⟩
    refine yB Z (tT c29) (rN 2 Z ?_)
    obtain ⟨c30, H⟩ := iN H
    have h32 := Ws (xs := a1) (ys := ((a1.take b1.toNat).drop 0)) (Z4 (leN c30) (lR _))
    refine G.lex mixed [0, 1, 2, 4, 5, 3, 6, 7, 8, 9] (by kernel_rfl) ?_
    replace HS := HS.drew
    refine GX.ps 5 Z (GX.l1 Z Z Z (fun _ g => GO.slL (T := Ad) HS (ro 0 Z) Z Z Z U77 Gb c30.1 c30.2 Z g) Z (GX.l1 Z Z Z (fun _ g => GO.slH (T := Ad) HS (ro 0 Z) Z Z Z U77 Gb c30.1 c30.2 Z g) Z (GX.l2 Z (GO.kL (T := Ad) (j := 0) (l := b1.toNat) HS Z (Ca.cut (ro 0 Z) (Nat.zero_le _) (leN c30)) Au Z Z Z U77 Gb Z (oW (lR _) ((ro 0 Z) _ HS).1) (Z4 (leN c30) (lR _)) (fun _ _ => Z) (fun _ => Z) fun wd31 HS => GX.fin tv (GX.ps 2 Z (GX.nil (G.len (t := 7) (m := (over a1 b1.toNat (((a1.take b1.toNat).drop 0).take (((a1.take a1.length).drop b1.toNat).length))).length) Z (by simp only [List.length_set, h32] <;> rfl) (rN 2 Z (gW (k1 g1 (lR _) _ _ _ H HS) Z)))))))))
   exact gW (o1 d1 (lR _) _ _ _ H HS) Z
  rcases iE H with ⟨c33, H⟩ | ⟨c33, H⟩
  ·
   refine rG (pS 3 Z (kN 23 Z (tT c33) (oF Z (oF Z (GO.Ib Z Z Z Z Z (nL (gW (e1 K (lR _) _ _ H HS) Z)))))))
  refine rG (pS 3 Z (kN 23 Z (tF c33) (oN Z (mV Z (bK (oN Z (GO.gtr Z Z Z Z (bK (GO.Ir Z Z Z Z Z (nL (gW (e1 K (lR _) _ _ H HS) Z)))))))))))
theorem F8.calls {a1 : List (List Ab)} {y_a : Nat → (Ty.slice 107 Ad).Lay} {r1 : List (List Ab)} (HS : St w0 w (L)) (r_a : Ca w0 L (Ty.slice 107 Ad) A_a c_a y_a a1) (H : F8.f K a1 = some r1) :
    Calls prog 89 #[.agg [sV A_a a1 c_a].toArray] w (F8.post w0 L r1) := by
  unfold F8.f at H
  refine cG func89 Z ?_
  refine sQ (rG (bA HS Z fun b1 wd2 HS => GO.alloc HS Z Nv Z Z fun b3 wd4 HS => nL (sQ ?_)))
  obtain ⟨t5, h6, H⟩ := bI H
  refine rG (lW 1 HS Z Ep (fJ sK Z (Cm.calls HS (rD 2 r_a) h6) (fun _ wd10 ⟨A7, c8, y9, h11, HS⟩ => ⟨_, h11, (GO.alloc HS Z Nv Z Z fun b12 wd13 HS => sW 0 HS Z Ep Z fun wd14 HS => nL (sQ ?_))⟩)))
  obtain ⟨t15, t16, h17, H⟩ := Dv H
  obtain ⟨t22, h23, H⟩ := bI H
  obtain ⟨c33, H⟩ := iN H
  refine G.Gy mixed (fun w => St w0 w (Box b12 31 [sV A7 t5 c8] :: L)) [1] [0, 1, 2, 3, 4, 5, 6, 7, 8] [8] (by kernel_rfl) (by kernel_rfl) (HS.drew.pk 4 [0] Z) ?_
  replace HS := HS.drew
  refine qL Z Z (fun _ _ g => fL b12 0 Dk Z g) Z (GX.ls Z Z Z (HS.pk 4 [0] Z) (fun _ HS _ g => lB 0 HS Z Ga Z g) Z (GX.l2 Z (fJ pE Z (Il.calls HS  h17) (fun _ wd18 ⟨h19, HS⟩ => ⟨_, h19, (GX.fin (HS.pk 4 [0] Z) (GX.l2 Z (GO.Cr (el := 107) ([I t15, I t16]) HS Z Z (fun _ => by kernel_rfl) Z fun b20 wd21 HS => GX.fin (HS.pk 5 [1] Z) (GX.l2 Z ?_))))⟩))))
  replace HS := HS.Ey (T := Ad) (j := 0) Z Au uu ([(⟨t15, t16⟩ : Ab)] : List Ab) Z (Hq Z)
  refine GO.Gw (t := 9) (m := ([(⟨t15, t16⟩ : Ab)] : List Ab).length) (c' := ([(⟨t15, t16⟩ : Ab)] : List Ab).length) Z Z Z (fJ mM Z (Az.calls HS (ro 0 Z) h23) (fun _ wd26 ⟨A24, c25, h27, HS⟩ => ⟨_, h27, (GX.fin (HS.pk 6 [2] Z) (GX.l2 Z (GO.Cr (el := 77) ([sV A24 t22 c25]) HS Z Z (fun _ => by kernel_rfl) Z fun b28 wd29 HS => GX.fin (HS.pk 7 [3] Z) (GX.l2 Z ?_))))⟩))
  replace HS := HS.pk 7 [4, 0, 1, 2, 3, 5, 6] Z
  refine GO.Su (S := Ad) (u := 107) HS Z Z Z U29 Qc Z Z c33 Z fun A31 c32 y34 wd30 HS => GX.fin (HS.pk 6 [3] Z) (qL Z Z (fun _ _ g => fL b12 0 Dk Z g) Z (GX.l2 Z (GO.Gu (j := 3) (vs := [sV A31 (t5 ++ [t22]) c32]) ([sV A31 (t5 ++ [t22]) c32]) HS Z Z Z Z Z (htN Ga Z) Z Z Z fun wd35 HS => GX.Ql Z (GX.nil (sQ (rG (lW 3 HS Z Ep (sW 4 HS Z Ep Z fun wd36 HS => nL ?_))))))))
  obtain rfl := sI H
  exact rT _ func89 Z (Gc.Gv (j := 4) (vs := [sV A31 (t5 ++ [t22]) c32]) HS Z Z Z Ep) ⟨_, _, _, Z, (HS.pk 6 [0] Z)⟩
theorem Cj.calls {tet f : Int} {f1 : List Int} {n1 : List (Gd × Dn)} {i1 : Int} {d1 : List Fg} {c1 : Int} {a1 : List Int} {m1 e1 : Nat} {A_a : Option Addr} {c_a g1 : Nat} {A_b : Option Addr} {c_b k1 h1 : Nat} {r1 r2 : Int} (HS : St w0 w (Box m1 70 [pT e1] :: Box e1 104 [sV A_a f1 c_a, .map (some g1), I i1, sV A_b d1 c_b] :: Hw g1 Fz Dy n1 :: Box k1 2 [I c1] :: Box h1 56 [sV A_c a1 c_c] :: L)) (r_a : Ca w0 L (Ar .i64) A_a c_a uu f1) (r_b : Ca w0 L Ha A_b c_b uu d1) (r_c : Ca w0 L (Ar .i64) A_c c_c uu a1) (H : Cj.f tet f f1 n1 i1 d1 c1 a1 = some (r1, r2)) :
    Calls prog 90 #[I tet, I f, pT m1, pT k1, pT h1] w (Cj.post w0 L f1 n1 i1 d1 c1 a1 m1 e1 A_a c_a g1 A_b c_b k1 h1 A_c c_c r1 r2) := by
  unfold Cj.f at H
  refine cG func90 Z ?_
  refine sQ (rG (GO.alloc HS Z Qh Z Z fun b1 wd2 HS => nL (rN 2 Z ?_)))
  obtain ⟨e3, h4, H⟩ := Dl H
  refine rG (lB 1 HS Z Yk Z (GO.M9 Z Z Z (fL e1 1 Ug Z (lB 2 HS Z dB Z (pS 2 Z (GO.Df (.agg [I tet, I f].toArray) Z Z (fun _ => by kernel_rfl) Z (GO.Y8 Ou (⟨tet, f⟩ : Gd) X3 HS (j := 3) Z Z Z Z pY Qh Z (congrArg Dy h4) (pS 3 Z (GO.alloc HS Z Qh Z Z fun b5 wd6 HS => sW 0 HS Z Mq Z fun wd7 HS => aS Z (nL (rN 2 Z ?_)))))))))))
  rcases iE H with ⟨c8, H⟩ | ⟨c8, H⟩
  ·
   refine yB Z c8 (sQ (rG (lB 5 HS Z na2 Z (fL b5 0 Jl Z (lB 0 HS Z na2 Z (GO.add Z Z Z Z (fL b5 1 Ku Z (lB 0 HS Z na2 Z (GO.Df (.agg [I (w64 (c1 + e3.tet)), I e3.perm].toArray) Z Z (fun _ => by kernel_rfl) Z (sW 1 HS Z Mq Z fun wd9 HS => nL ?_))))))))))
   obtain ⟨rfl, rfl⟩ := G5 H
   exact rT _ func90 Z (Gc.Gv (j := 1) (vs := [I (w64 (c1 + e3.tet)), I e3.perm]) HS Z Z Z Mq) ⟨Z, (HS.pk 7 [2, 3, 4, 5, 6] Z)⟩
  refine nB Z (De c8) (rN 2 Z ?_)
  obtain ⟨c10, H⟩ := iN H
  refine rG (lB 6 HS Z Hy Z (mV Z (iX Z U56 sz2 (rk (rD 7 r_c) HS) c10 (GO.Ce (T := (Ar .i64)) (n := tet.toNat) (o := 0) HS (rD 7 r_c) Z Z (getD_some (d := 0) (ltN c10)) Z Z na2 Z (GO.Df (.agg [I (a1.getD tet.toNat 0), I 0].toArray) Z Z (fun _ => by kernel_rfl) Z (sW 1 HS Z Mq Z fun wd11 HS => nL ?_))))))
  obtain ⟨rfl, rfl⟩ := G5 H
  exact rT _ func90 Z (Gc.Gv (j := 1) (vs := [I (a1.getD tet.toNat 0), I 0]) HS Z Z Z Mq) ⟨Z, (HS.pk 7 [2, 3, 4, 5, 6] Z)⟩
theorem Fp.calls {a1 : List (List Ab)} {a_ f : Int} {b_ p : Int} {y_a : Nat → (Ty.slice 107 Ad).Lay} {r1 : List (List Ab)} (HS : St w0 w (Own (Ty.slice 107 Ad) 77 A_a c_a y_a a1 :: L)) (H : Fp.f K a1 a_ f b_ p = some r1) :
    Calls prog 96 #[.agg [sV A_a a1 c_a].toArray, I a_, I f, I b_, I p] w (Fp.post w0 L A_a c_a y_a r1) := by
  unfold Fp.f at H
  refine cG func96 Z ?_
  refine sQ (rG (bA HS Z fun b1 wd2 HS => nL (sQ (rG (pS 2 Z (GO.Df (.agg [I b_, I p].toArray) Z Z (fun _ => by kernel_rfl) Z (GO.alloc HS Z Jf Z Z fun b3 wd4 HS => sW 0 HS Z Dq Z fun wd5 HS => nL (sQ ?_))))))))
  obtain ⟨c6, H⟩ := iN H
  have h7 := (rk (ro 2 Z) HS)
  obtain ⟨c8, H⟩ := iN H
  refine G.lex mixed [0, 2, 5, 1, 3, 4, 6, 7, 8] (by kernel_rfl) ?_
  replace HS := HS.drew
  refine qL Z Z (fun _ _ g => fL b1 0 Dk Z g) Z (GX.ps 2 Z (GX.l1 Z Z Z (fun _ g => lB 1 HS Z Ga Z g) Z (qL Z Z (fun _ _ g => iX Z U29 Ie h7 c6 g) Z (GX.l1 Z Z Z (fun _ g => GO.Ce (T := (Ty.slice 107 Ad)) (n := a_.toNat) (o := 0) HS (ro 2 Z) Z Z (getD_some (d := []) (ltN c6)) Z Z Ii Z g) Z (GX.l1 Z Z Z (fun _ g => lW 0 HS Z Dq g) Z (qL Z Z (fun _ _ g => GO.ix Z Z Z U77 Gb ((Ca.elem (ro 2 Z) c6.1 c6.2) _ HS).2.2.1 c8.1 c8.2 Z g) Z (GX.l2 Z ?_)))))))
  replace HS := HS.pk 3 [2, 0, 1] Z
  refine GO.Q3 (S := Ad) (k := a_.toNat) (n := f.toNat) (o := 0) (vs := [I b_, I p]) (⟨b_, p⟩ : Ab) HS Au Z Z Z Z (htA Dq) Z (ltN c6) (getD_some (d := Bb) (ltN c8)) Z Z fun wd9 HS => GX.fin tv (GX.nil ?_)
  replace HS := HS.J4 (j := 2) (cs' := [sV A_a (a1.set a_.toNat ((a1.getD a_.toNat []).set f.toNat (⟨b_, p⟩ : Ab))) c_a]) Z (by simp only [sV, List.length_set] <;> rfl)
  obtain ⟨c10, H⟩ := iN H
  have h11 := (rk (ro 0 Z) HS)
  obtain ⟨t12, h13, H⟩ := bI H
  obtain ⟨t16, t17, h18, H⟩ := Dv H
  obtain ⟨c21, H⟩ := iN H
  refine G.Gy mixed (fun w => St w0 w (Own (Ty.slice 107 Ad) 77 A_a c_a y_a (a1.set a_.toNat ((a1.getD a_.toNat []).set f.toNat (⟨b_, p⟩ : Ab))) :: Box b3 107 [I b_, I p] :: Box b1 31 [sV A_a (a1.set a_.toNat ((a1.getD a_.toNat []).set f.toNat (⟨b_, p⟩ : Ab))) c_a] :: L)) [1, 4, 5, 8] [0, 2, 6, 9, 1, 3, 4, 5, 8, 7, 10, 11, 12] [12] (by kernel_rfl) (by kernel_rfl) HS.drew ?_
  replace HS := HS.drew
  refine qL Z Z (fun _ _ g => fL b1 0 Dk Z g) Z (GX.ps 3 Z (GX.ls Z Z Z HS (fun _ HS _ g => lB 2 HS Z Ga Z g) Z (qL Z Z (fun _ _ g => iX Z U29 Ie h11 c10 g) Z (GX.ls Z Z Z HS (fun _ HS _ g => GO.Ce (T := (Ty.slice 107 Ad)) (n := b_.toNat) (o := 0) HS (ro 0 Z) Z Z (getD_some (d := []) (ltN c10)) Z Z Ii Z g) Z (GX.ls Z Z Z HS (fun _ HS _ g => lW 1 HS Z Dq g) Z (GX.ls Z Z Z HS (fun _ HS _ g => lW 1 HS Z Dq g) Z (GX.l2 Z (fJ dG Z (Ez.calls HS  h13) (fun _ wd14 ⟨h15, HS⟩ => ⟨_, h15, (GX.fin HS (GX.l2 Z (fJ U0 Z (E5.calls HS  h18) (fun _ wd19 ⟨h20, HS⟩ => ⟨_, h20, (GX.fin HS (qL Z Z (fun _ _ g => GO.ix Z Z Z U77 Gb ((Ca.elem (ro 0 Z) c10.1 c10.2) _ HS).2.2.1 c21.1 c21.2 Z g) Z (GX.l2 Z ?_)))⟩))))⟩)))))))))
  refine GO.Q3 (S := Ad) (k := b_.toNat) (n := t12.toNat) (o := 0) (vs := [I t16, I t17]) (⟨t16, t17⟩ : Ab) HS Au Z Z Z Z (htA Dq) Z (ltN c10) (getD_some (d := Bb) (ltN c21)) Z Z fun wd22 HS => GX.Ql Z (GX.nil ?_)
  replace HS := HS.J4 (j := 2) (cs' := [sV A_a ((a1.set a_.toNat ((a1.getD a_.toNat []).set f.toNat (⟨b_, p⟩ : Ab))).set b_.toNat (((a1.set a_.toNat ((a1.getD a_.toNat []).set f.toNat (⟨b_, p⟩ : Ab))).getD b_.toNat []).set t12.toNat (⟨t16, t17⟩ : Ab))) c_a]) Z (by simp only [sV, List.length_set] <;> rfl)
  obtain rfl := sI H
  exact G.Rk func96 Z ⟨Z, (HS.pk 3 [0] Z)⟩
end Go.Proofs.YtbjfinndngafoaaGreat
