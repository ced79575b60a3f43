/-
  The walks through the functions: a call comes to what its list function says.
-/
import Derived.Test.YtbjfinndngafoaaGreatAlF
import Derived.Test.YtbjfinndngafoaaGreatAlW1
import Derived.Test.YtbjfinndngafoaaGreatAlW3
set_option linter.unusedVariables false
set_option linter.unusedSimpArgs false
namespace Go.Proofs.YtbjfinndngafoaaGreat
open Go.RowKit
open Tryz
variable {w0 w : World} {L : List HObj} {K : Nat} {A_a A_b A_c A_d A_e A_f A_g A_h A_i A_j A_k A_l A_m A_n A_o A_p A_q A_r A_s A_t A_u A_v A_w A_x A_y A_z : Option Addr} {c_a c_b c_c c_d c_e c_f c_g c_h c_i c_j c_k c_l c_m c_n c_o c_p c_q c_r c_s c_t c_u c_v c_w c_x c_y c_z : Nat}
set_option maxRecDepth 20000
set_option maxHeartbeats 40000000
theorem impl_Triangulation_neighbors_Triangulation_edgeSigns_fn1.calls {m1 : List (List GFace)} {id : Int} {n1 o1 : List Int} {d1 : Int} {p1 : List (Int × Bool)} {a1 : List Int} {y_a : Nat → (Ty.slice 107 T_GFace).Lay} {g1 : Nat} {A_b : Option Addr} {c_b e1 : Nat} {A_c : Option Addr} {c_c f1 : Nat} {h1 c1 k1 : Nat} {r1 r2 : List Int} {r3 : List (Int × Bool)} (HS : St w0 w (Box g1 56 [.slice A_b n1.length c_b] :: Own (TInt .i64) 2 A_b c_b (fun _ => ()) n1 :: Box e1 56 [.slice A_c o1.length c_c] :: Own (TInt .i64) 2 A_c c_c (fun _ => ()) o1 :: Box f1 3 [I d1] :: Box h1 199 [.map (some c1)] :: MapG c1 (Value.int .i64) Value.bool p1 :: Box k1 56 [.slice A_d a1.length c_d] :: L)) (r_a : RdIn w0 L (Ty.slice 107 T_GFace) A_a c_a y_a m1) (r_d : RdIn w0 L (TInt .i64) A_d c_d (fun _ => ()) a1) (H : impl_Triangulation_neighbors_Triangulation_edgeSigns_fn1.f K m1 id n1 o1 d1 p1 a1 = some (r1, r2, r3)) :
    Calls prog 169 #[.agg [.slice A_a m1.length c_a].toArray, I id, .func (.func 170) #[] #[.pointer (some ⟨g1, 0, none⟩), .pointer (some ⟨e1, 0, none⟩), .pointer (some ⟨f1, 0, none⟩), .pointer (some ⟨h1, 0, none⟩), .pointer (some ⟨k1, 0, none⟩)]] w (impl_Triangulation_neighbors_Triangulation_edgeSigns_fn1.post w0 L d1 a1 g1 A_b c_b e1 f1 h1 c1 k1 A_d c_d r1 r2 r3) := by
  unfold impl_Triangulation_neighbors_Triangulation_edgeSigns_fn1.f at H
  refine cG func169 Z ?_
  refine sQ (rG (bA HS Z fun b1 wd2 HS => nL (sQ (rG (mV Z (GO.quo Z Z Z (by decide) Z (aS Z (nL (sQ ?_)))))))))
  obtain ⟨t3, t4, h5, H⟩ := bind2_elim H
  refine rG (mV Z (GO.rem Z Z Z (by decide) Z (fJ fok150 Z (impl_ends.calls HS  h5) (fun _ wd6 ⟨h7, HS⟩ => ⟨_, h7, (pS 5 Z (nL (sQ ?_)))⟩))))
  obtain ⟨t10, h11, H⟩ := bI H
  refine rG (pS 2 Z (GO.buildS (el := 2) ([I t3, I t4]) HS Z Z (fun _ => by kernel_rfl) Z fun b8 wd9 HS => ?_))
  replace HS := HS.boxRow (T := (TInt .i64)) (j := 0) Z flat_flat (fun _ => ()) ([t3, t4] : List Int) Z (bndL Z)
  refine GO.lenC (t := 23) (m := ([t3, t4] : List Int).length) (c' := ([t3, t4] : List Int).length) Z Z Z (fJ fok137 Z (impl_others.calls HS (RdIn.own (j := 0) Z) h11) (fun _ wd14 ⟨A12, c13, h15, HS⟩ => ⟨_, h15, (lS Z Z U56 Z (mV Z (nL (rN 2 Z ?_))))⟩))
  refine G.name (fun u1 v1 => ?_)
  have x1 : ∀ i1, i1 ≤ K → ∀ (x59 : List Int) (A60 : Option Addr) (c61 : Nat) (x62 : List Int) (x63 : List (Int × Bool)) (x64 : Int) (w : World), impl_Triangulation_neighbors_Triangulation_edgeSigns_fn1.l1 K i1 m1 id d1 a1 t3 t4 t10 x59 x62 x63 x64 = some (r1, r2, r3) → St w0 w (Box g1 56 [.slice A_b x59.length c_b] :: Own (TInt .i64) 2 A_b c_b (fun _ => ()) x59 :: Box e1 56 [.slice A60 x62.length c61] :: Own (TInt .i64) 2 A60 c61 (fun _ => ()) x62 :: Box f1 3 [I d1] :: Box h1 199 [.map (some c1)] :: MapG c1 (Value.int .i64) Value.bool x63 :: Box k1 56 [.slice A_d a1.length c_d] :: Box b1 31 [.slice A_a m1.length c_a] :: Own (TInt .i64) 2 A12 c13 (fun _ => ()) t10 :: L) → G prog 169 65 [(2, .func (.func 170) #[] #[.pointer (some ⟨g1, 0, none⟩), .pointer (some ⟨e1, 0, none⟩), .pointer (some ⟨f1, 0, none⟩), .pointer (some ⟨h1, 0, none⟩), .pointer (some ⟨k1, 0, none⟩)]), (3, .pointer (some ⟨b1, 0, none⟩)), (6, I (w64 (id.tdiv 6))), (7, I t3), (8, I t4), (24, .slice A12 t10.length c13), (25, I (t10.length : Int)), (26, I x64)] u1 w (impl_Triangulation_neighbors_Triangulation_edgeSigns_fn1.post w0 L d1 a1 g1 A_b c_b e1 f1 h1 c1 k1 A_d c_d r1 r2 r3) := by
   intro i1
   induction i1 using Nat.strongRecOn with
   | _ i1 q1 =>
    intro s1 x59 A60 c61 x62 x63 x64 w H HS
    cases i1 with
    | zero => rw [impl_Triangulation_neighbors_Triangulation_edgeSigns_fn1.l1] at H; cases H
    | succ t1 =>
     rw [impl_Triangulation_neighbors_Triangulation_edgeSigns_fn1.l1] at H
     subst v1
     refine rN 3 Z ?_
     rcases iS H with ⟨c108, H⟩ | ⟨c108, H⟩
     ·
      refine nB Z (tF c108) (G.exit Z ?_)
      obtain ⟨rfl, rfl, rfl⟩ := some3 H
      exact G.end0 func169 Z ⟨_, _, Z, (HS.pk 10 [0, 1, 2, 3, 4, 5, 6, 7] Z)⟩
     refine yB Z (tT c108) (rN 4 Z ?_)
     obtain ⟨c109, H⟩ := iN H
     refine rG (GO.ix Z Z Z U56 sz2 ((RdIn.own (j := 9) Z) _ HS).2.2.1 c109.1 c109.2 Z (GO.ldRd (T := (TInt .i64)) (n := x64.toNat) (o := 0) HS (RdIn.own (j := 9) Z) Z Z (getD_some (d := 0) (ltN c109)) Z Z na2 Z (aS Z (nL (sQ ?_)))))
     obtain ⟨c110, H⟩ := iN H
     obtain ⟨c111, H⟩ := iN H
     obtain ⟨e112, h113, H⟩ := bnd_elim H
     refine rG (fL b1 0 fl31_0 Z (lB 8 HS Z na29 Z (mV Z (GO.ix Z Z Z U29 sz77 ((rD 10 r_a) _ HS).2.2.1 c110.1 c110.2 Z (GO.ldRd (T := (Ty.slice 107 T_GFace)) (n := (w64 (id.tdiv 6)).toNat) (o := 0) HS (rD 10 r_a) Z Z (getD_some (d := []) (ltN c110)) Z Z na77 Z (mV Z (GO.ix Z Z Z U77 sz107 ((RdIn.elem (rD 10 r_a) c110.1 c110.2) _ HS).2.2.1 c111.1 c111.2 Z (GO.ldRdA (T := T_GFace) (n := (t10.getD x64.toNat 0).toNat) HS (RdIn.elem (rD 10 r_a) c110.1 c110.2) Z Z (getD_eq (ltN c111) h113) ag107 Z (GO.alloc HS Z zr107 Z Z fun b114 wd115 HS => sW 0 HS Z ag107 Z fun wd116 HS => nL (rN 2 Z ?_))))))))))
     obtain ⟨t117, h118, H⟩ := bI H
     refine rG (lW 0 HS Z ag107 (fJ fok91 Z (impl_Face_isBoundary.calls HS  h118) (fun _ wd119 ⟨h120, HS⟩ => ⟨_, h120, (nL ?_)⟩)))
     rcases iE H with ⟨c121, H⟩ | ⟨c121, H⟩
     ·
      refine yB Z c121 (rN 3 Z (G.weak ?_ (q1 t1 (Nat.lt_succ_of_le (lR _)) (Nat.le_of_succ_le s1) _ _ _ _ _ _ _ H (HS.pk 11 [1, 2, 3, 4, 5, 6, 7, 8, 9, 10] Z))))
      exact ⟨Z, Z, Z, Z, Z, Z, Z, Z, tv⟩
     refine nB Z (bnot_of c121) (rN 2 Z ?_)
     obtain ⟨t122, t123, t124, t125, h126, H⟩ := bind4_elim H
     refine rG (fL b114 1 fl107_1 Z (lB 0 HS Z na2 Z (fJ fok93 Z (impl_perm.calls HS  h126) (fun _ wd127 ⟨h128, HS⟩ => ⟨_, h128, (GO.alloc HS Z zr131 Z Z fun b129 wd130 HS => sW 0 HS Z ag131 Z fun wd131 HS => nL ?_)⟩))))
     obtain ⟨c132, H⟩ := iN H
     obtain ⟨c133, H⟩ := iN H
     obtain ⟨t134, h135, H⟩ := bI H
     obtain ⟨t138, h139, H⟩ := bI H
     obtain ⟨t142, t143, t144, h145, H⟩ := bind3_elim H
     obtain ⟨c146, H⟩ := iN H
     refine G.lexS mixed (fun w => St w0 w (Box b129 131 [I t122, I t123, I t124, I t125] :: Box b114 107 [I e112.Tet, I e112.Perm] :: L)) [2, 6, 9, 14, 17] [0, 1, 4, 5, 7, 8, 12, 13, 15, 16, 2, 3, 6, 9, 14, 17, 18, 10, 11, 19, 20] [] (by kernel_rfl) (by kernel_rfl) (HS.drew.pk 12 [0, 1] Z) ?_
     replace HS := HS.drew
     refine GX.ps 1 Z (qL Z Z (fun _ _ g => fL b114 0 fl107_0 Z g) Z (GX.ps 1 Z (qL Z Z (fun _ _ g => GO.ixW Z Z Z U131 sz2 c132 Z g) Z (GX.ps 1 Z (qL Z Z (fun _ _ g => GO.ixW Z Z Z U131 sz2 c133 Z g) Z (GX.ps 1 Z (qL Z Z (fun _ _ g => GO.ixW Z Z Z U131 sz2 c133 Z g) Z (GX.ps 1 Z (qL Z Z (fun _ _ g => GO.ixW Z Z Z U131 sz2 c132 Z g) Z (GX.ls Z Z Z (HS.pk 12 [0, 1] Z) (fun _ HS _ g => lB 1 HS Z na2 Z g) Z (GX.ps 1 Z (GX.ls Z Z Z (HS.pk 12 [0, 1] Z) (fun _ HS _ g => GO.ldW (j := 0) ([t122, t123, t124, t125] : List Int) HS Z Z Z c132 Z Z na2 Z g) Z (GX.ls Z Z Z (HS.pk 12 [0, 1] Z) (fun _ HS _ g => GO.ldW (j := 0) ([t122, t123, t124, t125] : List Int) HS Z Z Z c133 Z Z na2 Z g) Z (GX.ls Z Z Z (HS.pk 12 [0, 1] Z) (fun _ HS _ g => GO.ldW (j := 0) ([t122, t123, t124, t125] : List Int) HS Z Z Z c133 Z Z na2 Z g) Z ?_))))))))))))))
     refine GX.ls Z Z Z (HS.pk 12 [0, 1] Z) (fun _ HS _ g => GO.ldW (j := 0) ([t122, t123, t124, t125] : List Int) HS Z Z Z c132 Z Z na2 Z g) Z (GX.ps 1 Z (GX.l2 Z (fJ fok151 Z (impl_edge.calls HS  h135) (fun _ wd136 ⟨h137, HS⟩ => ⟨_, h137, (GX.fin (HS.pk 12 [0, 1] Z) (GX.ps 1 Z (GX.l2 Z (fJ fok171 Z (impl_sign.calls HS  h139) (fun _ wd140 ⟨h141, HS⟩ => ⟨_, h141, (GX.fin (HS.pk 12 [0, 1] Z) (GX.l2 Z ?_))⟩)))))⟩))))
     replace HS := HS.pk 12 [2, 3, 4, 5, 6, 7, 8, 9, 0, 1, 10, 11] Z
     refine GO.clo Z Z func170 fok170.2.1 fok170.2.2 Z Z (impl_Triangulation_edgeSigns_fn1_free.calls HS (rD 4 r_d) h145) (fun _ wd149 ⟨A147, c148, h150, HS⟩ => ⟨_, h150, (GX.fin (HS.pk 12 [8, 9] Z) (GX.nil (rN 3 Z (G.weak ?_ (q1 t1 (Nat.lt_succ_of_le (lR _)) (Nat.le_of_succ_le s1) _ _ _ _ _ _ _ H (HS.pk 12 [0, 1, 2, 3, 4, 5, 6, 7, 10, 11] Z))))))⟩)
     exact ⟨Z, Z, Z, Z, Z, Z, Z, Z, tv⟩
  refine G.weak ?_ (x1 K (lR _) _ _ _ _ _ _ _ H (HS.pk 11 [3, 4, 5, 6, 7, 8, 9, 10, 2, 0] Z))
  exact ⟨Z, Z, Z, Z, Z, Z, Z, Z, tv⟩
theorem impl_Triangulation_edgeSigns.calls {d1 : List (List GFace)} {y_a : Nat → (Ty.slice 107 T_GFace).Lay} {r1 : List Int} (HS : St w0 w (L)) (r_a : RdIn w0 L (Ty.slice 107 T_GFace) A_a c_a y_a d1) (H : impl_Triangulation_edgeSigns.f K d1 = some r1) :
    Calls prog 161 #[.agg [.slice A_a d1.length c_a].toArray] w (impl_Triangulation_edgeSigns.post w0 L r1) := by
  unfold impl_Triangulation_edgeSigns.f at H
  refine cG func161 Z ?_
  refine sQ (rG (bA HS Z fun b1 wd2 HS => aS Z (nL (sQ ?_))))
  obtain ⟨t3, h4, H⟩ := bI H
  refine rG (fL b1 0 fl31_0 Z (lB 0 HS Z na29 Z (fJ fok49 Z (impl_size_impl_Face.calls HS (rD 1 r_a) h4) (fun _ wd5 ⟨h6, HS⟩ => ⟨_, h6, (pS 2 Z (nL (sQ ?_)))⟩))))
  obtain ⟨c7, H⟩ := iN H
  obtain ⟨c8, H⟩ := iN H
  refine rG (mV Z (GO.make (T := (TInt .i64)) 0 () HS flat_flat Z Z Z U56 inf2 Z Z Z c7 c8 Z fun b9 wd10 HS => GO.alloc HS Z zr56 Z Z fun b11 wd12 HS => GO.stBox (j := 0) (vs := [.slice (some ⟨b9, 0, none⟩) (List.replicate (w64 (6 * t3)).toNat (0 : Int)).length ((w64 (6 * t3)).toNat)]) ([.slice (some ⟨b9, 0, none⟩) (List.replicate (w64 (6 * t3)).toNat (0 : Int)).length ((w64 (6 * t3)).toNat)]) HS Z Z Z Z Z (htN na56 Z) Z Z Z fun wd13 HS => nL (sQ ?_)))
  obtain ⟨t14, h15, H⟩ := bI H
  refine rG (lW 2 HS Z ag31 (fJ fok124 Z (impl_Triangulation_edgeClasses.calls HS (rD 3 r_a) h15) (fun _ wd18 ⟨A16, c17, h19, HS⟩ => ⟨_, h19, (GO.alloc HS Z zr56 Z Z fun b20 wd21 HS => GO.stBox (j := 0) (vs := [.slice A16 t14.length c17]) ([.slice A16 t14.length c17]) HS Z Z Z Z Z (htN na56 Z) Z Z Z fun wd22 HS => nL (sQ (rG (GO.newMapG (Value.int .i64) Value.bool HS Z Z fun b23 wd24 HS => GO.alloc HS Z zr199 Z Z fun b25 wd26 HS => GO.stBox (j := 0) (vs := [.map (some b23)]) ([.map (some b23)]) HS Z Z Z Z Z (htN na199 Z) Z Z Z fun wd27 HS => nL (rN 5 Z ?_)))))⟩)))
  refine G.name (fun z1 f2 => ?_)
  have h2 : ∀ g1, g1 ≤ K → ∀ (c1 : List Int) (i1 : List (Int × Bool)) (x117 : Int) (w : World), impl_Triangulation_edgeSigns.l1 K g1 d1 t3 t14 c1 i1 x117 = some r1 → St w0 w (Box b1 31 [.slice A_a d1.length c_a] :: Box b11 56 [.slice (some ⟨b9, 0, none⟩) c1.length ((w64 (6 * t3)).toNat)] :: Own (TInt .i64) 2 (some ⟨b9, 0, none⟩) ((w64 (6 * t3)).toNat) (fun _ => ()) c1 :: Box b20 56 [.slice A16 t14.length c17] :: Own (TInt .i64) 2 A16 c17 (fun _ => ()) t14 :: Box b25 199 [.map (some b23)] :: MapG b23 (Value.int .i64) Value.bool i1 :: L) → G prog 161 65 [(1, .pointer (some ⟨b1, 0, none⟩)), (4, .pointer (some ⟨b11, 0, none⟩)), (5, .pointer (some ⟨b20, 0, none⟩)), (6, .pointer (some ⟨b25, 0, none⟩)), (20, I (w64 (6 * t3))), (21, I x117)] z1 w (impl_Triangulation_edgeSigns.post w0 L r1) := by
   intro g1
   induction g1 using Nat.strongRecOn with
   | _ g1 p1 =>
    intro e2 c1 i1 x117 w H HS
    cases g1 with
    | zero => rw [impl_Triangulation_edgeSigns.l1] at H; cases H
    | succ k1 =>
     rw [impl_Triangulation_edgeSigns.l1] at H
     subst f2
     refine rN 3 Z ?_
     rcases iS H with ⟨c205, H⟩ | ⟨c205, H⟩
     ·
      refine nB Z (tF c205) (rN 3 Z (rG (lB 1 HS Z na56 Z (lS Z Z U56 Z (mV Z (nL (rN 2 Z ?_)))))))
      refine G.name (fun x1 c2 => ?_)
      have d2 : ∀ e1, e1 ≤ k1 → ∀ (h1 : List Int) (x279 : Int) (w : World), impl_Triangulation_edgeSigns.l7 K e1 t14 c1 i1 h1 x279 = some r1 → St w0 w (Box b11 56 [.slice (some ⟨b9, 0, none⟩) h1.length ((w64 (6 * t3)).toNat)] :: Own (TInt .i64) 2 (some ⟨b9, 0, none⟩) ((w64 (6 * t3)).toNat) (fun _ => ()) h1 :: Box b20 56 [.slice A16 t14.length c17] :: Own (TInt .i64) 2 A16 c17 (fun _ => ()) t14 :: Box b25 199 [.map (some b23)] :: MapG b23 (Value.int .i64) Value.bool i1 :: L) → G prog 161 65 [(4, .pointer (some ⟨b11, 0, none⟩)), (5, .pointer (some ⟨b20, 0, none⟩)), (6, .pointer (some ⟨b25, 0, none⟩)), (50, I (c1.length : Int)), (51, I x279)] x1 w (impl_Triangulation_edgeSigns.post w0 L r1) := by
       intro e1
       induction e1 using Nat.strongRecOn with
       | _ e1 u1 =>
        intro t1 h1 x279 w H HS
        cases e1 with
        | zero => rw [impl_Triangulation_edgeSigns.l7] at H; cases H
        | succ q1 =>
         rw [impl_Triangulation_edgeSigns.l7] at H
         subst c2
         refine rN 3 Z ?_
         rcases iS H with ⟨c286, H⟩ | ⟨c286, H⟩
         ·
          refine nB Z (tF c286) (rN 2 Z (rG (lB 0 HS Z na56 Z (aS Z (nL ?_)))))
          obtain rfl := sI H
          exact rT _ func161 Z Z ⟨_, _, Z, (HS.pk 6 [1] Z)⟩
         refine yB Z (tT c286) (rN 6 Z ?_)
         obtain ⟨c287, H⟩ := iN H
         have h288 := ((RdIn.own (j := 3) Z) _ HS).2.2.1
         refine G.lex mixed [2, 0, 1, 3, 4, 5] (by kernel_rfl) ?_
         replace HS := HS.drew
         refine GX.ps 1 Z (GX.l1 Z Z Z (fun _ g => lB 4 HS Z na199 Z g) Z (GX.l1 Z Z Z (fun _ g => lB 2 HS Z na56 Z g) Z (qL Z Z (fun _ _ g => GO.ix Z Z Z U56 sz2 h288 c287.1 c287.2 Z g) Z (GX.l1 Z Z Z (fun _ g => GO.ldRd (T := (TInt .i64)) (n := x279.toNat) (o := 0) HS (RdIn.own (j := 3) Z) Z Z (getD_some (d := 0) (ltN c287)) Z Z na2 Z g) Z (GX.l1 Z Z Z (fun _ g => GO.lookG false (t14.getD x279.toNat 0) kok2 HS (j := 5) Z Z Z Z U199 zr4 Z Z g) Z (GX.nil ?_))))))
         rcases iS H with ⟨c289, H⟩ | ⟨c289, H⟩
         ·
          refine nB Z (bnot_of c289) (rN 4 Z (G.weak ?_ (u1 q1 (Nat.lt_succ_of_le (lR _)) (Nat.le_of_succ_le t1) _ _ _ H HS)))
          exact ⟨Z, Z, Z, Z, Z, tv⟩
         refine yB Z c289 ?_
         obtain ⟨c290, H⟩ := iN H
         refine rG (lB 0 HS Z na56 Z (mV Z (GO.ix Z Z Z U56 sz2 (fun _ => ⟨_, _, Z⟩) c290.1 c290.2 Z (GO.stRow (T := (TInt .i64)) (j := 1) (n := x279.toNat) (o := 0) (vs := [I 0]) 0 HS Z flat_flat Z Z Z Z (htN na2 Z) Z (getD_some (d := 0) (ltN c290)) Z Z fun wd291 HS => nL ?_))))
         replace HS := HS.boxEq (j := 0) (cs' := [.slice (some ⟨b9, 0, none⟩) (h1.set x279.toNat 0).length ((w64 (6 * t3)).toNat)]) Z (by simp only [List.length_set] <;> rfl)
         refine rN 3 Z (G.weak ?_ (u1 q1 (Nat.lt_succ_of_le (lR _)) (Nat.le_of_succ_le t1) _ _ _ H HS))
         exact ⟨Z, Z, Z, Z, Z, tv⟩
      refine G.weak ?_ (d2 k1 (lR _) _ _ _ H (HS.pk 7 [1, 2, 3, 4, 5, 6] Z))
      exact ⟨Z, Z, Z, Z, Z, tv⟩
     refine yB Z (tT c205) (rN 7 Z ?_)
     obtain ⟨c206, H⟩ := iN H
     refine rG (lB 1 HS Z na56 Z (mV Z (GO.ix Z Z Z U56 sz2 (fun _ => ⟨_, _, Z⟩) c206.1 c206.2 Z (GO.ldRd (T := (TInt .i64)) (n := x117.toNat) (o := 0) HS (RdIn.own (j := 2) Z) Z Z (getD_some (d := 0) (ltN c206)) Z Z na2 Z (GO.neq Z Z Z Z (nL ?_))))))
     rcases iS H with ⟨c207, H⟩ | ⟨c207, H⟩
     ·
      refine yB Z (nF c207) (rN 3 Z (G.weak ?_ (p1 k1 (Nat.lt_succ_of_le (lR _)) (Nat.le_of_succ_le e2) _ _ _ _ H HS)))
      exact ⟨Z, Z, Z, Z, Z, Z, tv⟩
     refine nB Z (nT c207) (rN 2 Z (rG (lB 1 HS Z na56 Z (mV Z (GO.ix Z Z Z U56 sz2 (fun _ => ⟨_, _, Z⟩) c206.1 c206.2 Z (GO.stRow (T := (TInt .i64)) (j := 2) (n := x117.toNat) (o := 0) (vs := [I 1]) 1 HS Z flat_flat Z Z Z Z (htN na2 Z) Z (getD_some (d := 0) (ltN c206)) Z Z fun wd208 HS => nL ?_))))))
     replace HS := HS.boxEq (j := 1) (cs' := [.slice (some ⟨b9, 0, none⟩) (c1.set x117.toNat 1).length ((w64 (6 * t3)).toNat)]) Z (by simp only [List.length_set] <;> rfl)
     refine sQ (rG (mV Z (GO.buildS (el := 2) ([I x117]) HS Z Z (fun _ => by kernel_rfl) Z fun b209 wd210 HS => GO.alloc HS Z zr56 Z Z fun b211 wd212 HS => ?_)))
     replace HS := HS.boxRow (T := (TInt .i64)) (j := 1) Z flat_flat (fun _ => ()) ([x117] : List Int) Z (bndL Z)
     refine GO.lenC (t := 33) (m := ([x117] : List Int).length) (c' := ([x117] : List Int).length) Z Z Z (GO.stBox (j := 0) (vs := [.slice (some ⟨b209, 0, none⟩) ([x117] : List Int).length (([x117] : List Int).length)]) ([.slice (some ⟨b209, 0, none⟩) ([x117] : List Int).length (([x117] : List Int).length)]) HS Z Z Z Z Z (htN na56 Z) Z Z Z fun wd213 HS => nL (sQ (rG (GO.alloc HS Z zr3 Z Z fun b214 wd215 HS => GO.stBox (j := 0) (vs := [I 0]) ([I 0]) HS Z Z Z Z Z (htN na3 Z) Z Z Z fun wd216 HS => nL (rN 2 Z ?_)))))
     refine G.name (fun y1 g2 => ?_)
     have v1 : ∀ f1, f1 ≤ k1 → ∀ (m1 : List Int) (o1 : List (Int × Bool)) (A235 : Option Addr) (c236 : Nat) (n1 : List Int) (b238 : Nat) (a1 : Int) (w : World), impl_Triangulation_edgeSigns.l6 K f1 d1 t3 t14 x117 m1 o1 n1 a1 = some r1 → St w0 w (Box b1 31 [.slice A_a d1.length c_a] :: Box b11 56 [.slice (some ⟨b9, 0, none⟩) m1.length ((w64 (6 * t3)).toNat)] :: Own (TInt .i64) 2 (some ⟨b9, 0, none⟩) ((w64 (6 * t3)).toNat) (fun _ => ()) m1 :: Box b20 56 [.slice A16 t14.length c17] :: Own (TInt .i64) 2 A16 c17 (fun _ => ()) t14 :: Box b25 199 [.map (some b23)] :: MapG b23 (Value.int .i64) Value.bool o1 :: Box b211 56 [.slice A235 n1.length c236] :: Own (TInt .i64) 2 A235 c236 (fun _ => ()) n1 :: Box b238 3 [I a1] :: L) → G prog 161 65 [(1, .pointer (some ⟨b1, 0, none⟩)), (4, .pointer (some ⟨b11, 0, none⟩)), (5, .pointer (some ⟨b20, 0, none⟩)), (6, .pointer (some ⟨b25, 0, none⟩)), (8, .pointer (some ⟨b211, 0, none⟩)), (9, .pointer (some ⟨b238, 0, none⟩)), (20, I (w64 (6 * t3))), (21, I x117)] y1 w (impl_Triangulation_edgeSigns.post w0 L r1) := by
      intro f1
      induction f1 using Nat.strongRecOn with
      | _ f1 a2 =>
       intro b2 m1 o1 A235 c236 n1 b238 a1 w H HS
       cases f1 with
       | zero => rw [impl_Triangulation_edgeSigns.l6] at H; cases H
       | succ s1 =>
        rw [impl_Triangulation_edgeSigns.l6] at H
        subst g2
        refine rN 2 Z (rG (lB 9 HS Z na3 Z (lB 7 HS Z na56 Z (lS Z Z U56 Z (GO.lss Z Z Z Z (nL ?_))))))
        rcases iS H with ⟨c256, H⟩ | ⟨c256, H⟩
        ·
         refine nB Z (tF c256) (rN 4 Z (G.weak ?_ (p1 s1 (by omega) (by omega) _ _ _ _ H (HS.pk 10 [0, 1, 2, 3, 4, 5, 6] Z))))
         exact ⟨Z, Z, Z, Z, Z, Z, tv⟩
        refine yB Z (tT c256) (rN 3 Z ?_)
        obtain ⟨c257, H⟩ := iN H
        have h258 := ((RdIn.own (j := 8) Z) _ HS).2.2.1
        obtain ⟨t259, t260, t261, h262, H⟩ := bind3_elim H
        obtain ⟨c263, H⟩ := iN H
        refine G.lex mixed [5, 0, 1, 2, 3, 4, 6] (by kernel_rfl) ?_
        replace HS := HS.drew
        refine qL Z Z (fun _ _ g => GO.mkFunc Z Z Z Z g) Z (GX.l1 Z Z Z (fun _ g => lW 0 HS Z ag31 g) Z (GX.l1 Z Z Z (fun _ g => lB 7 HS Z na56 Z g) Z (GX.l1 Z Z Z (fun _ g => lB 9 HS Z na3 Z g) Z (qL Z Z (fun _ _ g => GO.ix Z Z Z U56 sz2 h258 c257.1 c257.2 Z g) Z (GX.l1 Z Z Z (fun _ g => GO.ldRd (T := (TInt .i64)) (n := a1.toNat) (o := 0) HS (RdIn.own (j := 8) Z) Z Z (getD_some (d := 0) (ltN c257)) Z Z na2 Z g) Z (GX.l2 Z ?_))))))
        replace HS := HS.pk 10 [1, 2, 7, 8, 9, 5, 6, 3, 0, 4] Z
        refine fJ fok169 Z (impl_Triangulation_neighbors_Triangulation_edgeSigns_fn1.calls HS (rD 2 r_a) (RdIn.own (j := 1) Z) h262) (fun _ wd266 ⟨A264, c265, h267, HS⟩ => ⟨_, h267, (GX.fin tv (GX.nil (rN 3 Z (rG (lB 4 HS Z na3 Z (nL (rG (GO.alloc HS Z zr3 Z Z fun b268 wd269 HS => GO.stBox (j := 0) (vs := [I a1]) ([I a1]) HS Z Z Z Z Z (htN na3 Z) Z Z Z fun wd270 HS => nL (rG (lB 0 HS Z na3 Z (GO.add Z Z Z Z (GO.stBox (j := 0) (vs := [I (w64 (a1 + 1))]) ([I (w64 (a1 + 1))]) HS Z Z Z Z Z (htN na3 Z) Z Z Z fun wd271 HS => ?_))))))))))))⟩)
        refine nL (G.again (G.weak ?_ (a2 s1 (Nat.lt_succ_of_le (lR _)) (Nat.le_of_succ_le b2) _ _ _ _ _ _ _ _ H (HS.pk 11 [9, 1, 2, 8, 10, 6, 7, 3, 4, 0] Z))))
        exact ⟨Z, Z, Z, Z, Z, Z, Z, Z, tv⟩
     refine G.weak ?_ (v1 k1 (lR _) _ _ _ _ _ _ _ _ H (HS.pk 10 [3, 4, 5, 6, 7, 8, 9, 1, 2, 0] Z))
     exact ⟨Z, Z, Z, Z, Z, Z, Z, Z, tv⟩
  refine G.weak ?_ (h2 K (lR _) _ _ _ _ H (HS.pk 7 [6, 4, 5, 2, 3, 0, 1] Z))
  exact ⟨Z, Z, Z, Z, Z, Z, tv⟩
theorem impl_Triangulation_reversedEdges.calls {d1 : List (List GFace)} {y_a : Nat → (Ty.slice 107 T_GFace).Lay} {r1 : List Bool} (HS : St w0 w (L)) (r_a : RdIn w0 L (Ty.slice 107 T_GFace) A_a c_a y_a d1) (H : impl_Triangulation_reversedEdges.f K d1 = some r1) :
    Calls prog 140 #[.agg [.slice A_a d1.length c_a].toArray] w (impl_Triangulation_reversedEdges.post w0 L r1) := by
  unfold impl_Triangulation_reversedEdges.f at H
  refine cG func140 Z ?_
  refine sQ (rG (bA HS Z fun b1 wd2 HS => aS Z (nL (sQ ?_))))
  obtain ⟨t3, h4, H⟩ := bI H
  refine rG (lW 0 HS Z ag31 (fJ fok124 Z (impl_Triangulation_edgeClasses.calls HS (rD 1 r_a) h4) (fun _ wd7 ⟨A5, c6, h8, HS⟩ => ⟨_, h8, (aS Z (nL (sQ ?_)))⟩)))
  obtain ⟨t9, h10, H⟩ := bI H
  obtain ⟨c13, H⟩ := iN H
  obtain ⟨c14, H⟩ := iN H
  refine rG (mV Z (fJ fok160 Z (impl_classCount.calls HS (RdIn.own (j := 0) Z) h10) (fun _ wd11 ⟨h12, HS⟩ => ⟨_, h12, (GO.make (T := TBool) false () HS flat_flat Z Z Z U171 inf4 Z Z Z c13 c14 Z fun b15 wd16 HS => aS Z (nL (rN 2 Z ?_)))⟩)))
  obtain ⟨t17, h18, H⟩ := bI H
  refine rG (lW 2 HS Z ag31 (fJ fok161 Z (impl_Triangulation_edgeSigns.calls HS (rD 3 r_a) h18) (fun _ wd21 ⟨A19, c20, h22, HS⟩ => ⟨_, h22, (lS Z Z U56 Z (mV Z (nL (rN 2 Z ?_))))⟩)))
  refine G.name (fun i1 k1 => ?_)
  have g1 : ∀ a1, a1 ≤ K → ∀ (c1 : List Bool) (x29 : Int) (w : World), impl_Triangulation_reversedEdges.l1 K a1 t3 t17 c1 x29 = some r1 → St w0 w (Own (TInt .i64) 2 A5 c6 (fun _ => ()) t3 :: Own TBool 4 (some ⟨b15, 0, none⟩) t9.toNat (fun _ => ()) c1 :: Own (TInt .i64) 2 A19 c20 (fun _ => ()) t17 :: L) → G prog 140 30 [(3, .slice A5 t3.length c6), (4, .slice (some ⟨b15, 0, none⟩) c1.length t9.toNat), (13, .slice A19 t17.length c20), (14, I (t17.length : Int)), (15, I x29)] i1 w (impl_Triangulation_reversedEdges.post w0 L r1) := by
   intro a1
   induction a1 using Nat.strongRecOn with
   | _ a1 e1 =>
    intro h1 c1 x29 w H HS
    cases a1 with
    | zero => rw [impl_Triangulation_reversedEdges.l1] at H; cases H
    | succ f1 =>
     rw [impl_Triangulation_reversedEdges.l1] at H
     subst k1
     refine rN 3 Z ?_
     rcases iS H with ⟨c35, H⟩ | ⟨c35, H⟩
     ·
      refine nB Z (tF c35) (rN 3 Z ?_)
      obtain rfl := sI H
      exact rT _ func140 Z Z ⟨_, _, Z, (HS.pk 3 [1] Z)⟩
     refine yB Z (tT c35) (rN 4 Z ?_)
     obtain ⟨c36, H⟩ := iN H
     refine rG (mV Z (GO.ix Z Z Z U56 sz2 ((RdIn.own (j := 2) Z) _ HS).2.2.1 c36.1 c36.2 Z (GO.ldRd (T := (TInt .i64)) (n := x29.toNat) (o := 0) HS (RdIn.own (j := 2) Z) Z Z (getD_some (d := 0) (ltN c36)) Z Z na2 Z (pS 2 Z (nL ?_)))))
     obtain ⟨c37, H⟩ := iN H
     obtain ⟨c38, H⟩ := iN H
     refine rG (pS 3 Z (GO.ix Z Z Z U56 sz2 ((RdIn.own (j := 0) Z) _ HS).2.2.1 c37.1 c37.2 Z (GO.ldRd (T := (TInt .i64)) (n := x29.toNat) (o := 0) HS (RdIn.own (j := 0) Z) Z Z (getD_some (d := 0) (ltN c37)) Z Z na2 Z (pS 2 Z (GO.ix Z Z Z U171 sz4 (fun _ => ⟨_, _, Z⟩) c38.1 c38.2 Z (GO.stRow (T := TBool) (j := 1) (n := (t3.getD x29.toNat 0).toNat) (o := 0) (vs := [.bool (decide (t17.getD x29.toNat 0 = 0))]) (decide (t17.getD x29.toNat 0 = 0)) HS Z flat_flat Z Z Z Z (htN na4 Z) Z (getD_some (d := false) (ltN c38)) Z Z fun wd39 HS => nL (G.len (t := 4) (m := (c1.set ((t3.getD x29.toNat 0).toNat) (decide (t17.getD x29.toNat 0 = 0))).length) Z (by simp only [List.length_set] <;> rfl) (rN 3 Z (G.weak ?_ (e1 f1 (Nat.lt_succ_of_le (lR _)) (Nat.le_of_succ_le h1) _ _ _ H HS))))))))))
     exact ⟨Z, Z, Z, Z, Z, tv⟩
  refine G.weak ?_ (g1 K (lR _) _ _ _ H (HS.pk 4 [2, 1, 0] Z))
  exact ⟨Z, Z, Z, Z, Z, tv⟩
theorem impl_Triangulation_boundaryEdges.calls {a1 : List (List GFace)} {y_a : Nat → (Ty.slice 107 T_GFace).Lay} {r1 : List Bool} (HS : St w0 w (L)) (r_a : RdIn w0 L (Ty.slice 107 T_GFace) A_a c_a y_a a1) (H : impl_Triangulation_boundaryEdges.f K a1 = some r1) :
    Calls prog 141 #[.agg [.slice A_a a1.length c_a].toArray] w (impl_Triangulation_boundaryEdges.post w0 L r1) := by
  unfold impl_Triangulation_boundaryEdges.f at H
  refine cG func141 Z ?_
  refine sQ (rG (bA HS Z fun b1 wd2 HS => aS Z (nL (sQ ?_))))
  obtain ⟨t3, h4, H⟩ := bI H
  refine rG (lW 0 HS Z ag31 (fJ fok124 Z (impl_Triangulation_edgeClasses.calls HS (rD 1 r_a) h4) (fun _ wd7 ⟨A5, c6, h8, HS⟩ => ⟨_, h8, (aS Z (nL (sQ ?_)))⟩)))
  obtain ⟨t9, h10, H⟩ := bI H
  obtain ⟨c13, H⟩ := iN H
  obtain ⟨c14, H⟩ := iN H
  refine rG (mV Z (fJ fok160 Z (impl_classCount.calls HS (RdIn.own (j := 0) Z) h10) (fun _ wd11 ⟨h12, HS⟩ => ⟨_, h12, (GO.make (T := TBool) false () HS flat_flat Z Z Z U171 inf4 Z Z Z c13 c14 Z fun b15 wd16 HS => aS Z (nL (rN 2 Z (rG (mV Z (lS Z Z U56 Z (mV Z (nL (rN 2 Z ?_)))))))))⟩)))
  refine G.name (fun s1 t1 => ?_)
  have q1 : ∀ e1, e1 ≤ K → ∀ (f1 : List Bool) (x77 : Int) (w : World), impl_Triangulation_boundaryEdges.l1 K e1 a1 t3 f1 x77 = some r1 → St w0 w (Box b1 31 [.slice A_a a1.length c_a] :: Own TBool 4 (some ⟨b15, 0, none⟩) t9.toNat (fun _ => ()) f1 :: Own (TInt .i64) 2 A5 c6 (fun _ => ()) t3 :: L) → G prog 141 60 [(1, .pointer (some ⟨b1, 0, none⟩)), (4, .slice (some ⟨b15, 0, none⟩) f1.length t9.toNat), (16, .slice A5 t3.length c6), (17, I (t3.length : Int)), (18, I x77)] s1 w (impl_Triangulation_boundaryEdges.post w0 L r1) := by
   intro e1
   induction e1 using Nat.strongRecOn with
   | _ e1 o1 =>
    intro u1 f1 x77 w H HS
    cases e1 with
    | zero => rw [impl_Triangulation_boundaryEdges.l1] at H; cases H
    | succ h1 =>
     rw [impl_Triangulation_boundaryEdges.l1] at H
     subst t1
     refine rN 3 Z ?_
     rcases iS H with ⟨c137, H⟩ | ⟨c137, H⟩
     ·
      refine nB Z (tF c137) (rN 3 Z ?_)
      obtain rfl := sI H
      exact rT _ func141 Z Z ⟨_, _, Z, (HS.pk 3 [1] Z)⟩
     refine yB Z (tT c137) (rN 4 Z ?_)
     obtain ⟨c138, H⟩ := iN H
     refine rG (mV Z (GO.ix Z Z Z U56 sz2 ((RdIn.own (j := 2) Z) _ HS).2.2.1 c138.1 c138.2 Z (GO.ldRd (T := (TInt .i64)) (n := x77.toNat) (o := 0) HS (RdIn.own (j := 2) Z) Z Z (getD_some (d := 0) (ltN c138)) Z Z na2 Z (pS 2 Z (nL (sQ ?_))))))
     obtain ⟨t139, t140, h141, H⟩ := bind2_elim H
     refine rG (mV Z (GO.rem Z Z Z (by decide) Z (fJ fok150 Z (impl_ends.calls HS  h141) (fun _ wd142 ⟨h143, HS⟩ => ⟨_, h143, (pS 5 Z (nL (sQ ?_)))⟩))))
     obtain ⟨t146, h147, H⟩ := bI H
     refine rG (pS 2 Z (GO.buildS (el := 2) ([I t139, I t140]) HS Z Z (fun _ => by kernel_rfl) Z fun b144 wd145 HS => ?_))
     replace HS := HS.boxRow (T := (TInt .i64)) (j := 0) Z flat_flat (fun _ => ()) ([t139, t140] : List Int) Z (bndL Z)
     refine GO.lenC (t := 31) (m := ([t139, t140] : List Int).length) (c' := ([t139, t140] : List Int).length) Z Z Z (fJ fok137 Z (impl_others.calls HS (RdIn.own (j := 0) Z) h147) (fun _ wd150 ⟨A148, c149, h151, HS⟩ => ⟨_, h151, (lS Z Z U56 Z (mV Z (nL (rN 2 Z ?_))))⟩))
     refine G.name (fun m1 n1 => ?_)
     have p1 : ∀ c1, c1 ≤ h1 → ∀ (d1 : List Bool) (x167 : Int) (w : World), impl_Triangulation_boundaryEdges.l4 K c1 a1 t3 x77 t146 d1 x167 = some r1 → St w0 w (Box b1 31 [.slice A_a a1.length c_a] :: Own TBool 4 (some ⟨b15, 0, none⟩) t9.toNat (fun _ => ()) d1 :: Own (TInt .i64) 2 A5 c6 (fun _ => ()) t3 :: Own (TInt .i64) 2 A148 c149 (fun _ => ()) t146 :: L) → G prog 141 60 [(1, .pointer (some ⟨b1, 0, none⟩)), (4, .slice (some ⟨b15, 0, none⟩) d1.length t9.toNat), (5, I x77), (6, I (t3.getD x77.toNat 0)), (16, .slice A5 t3.length c6), (17, I (t3.length : Int)), (18, I x77), (32, .slice A148 t146.length c149), (33, I (t146.length : Int)), (34, I x167)] m1 w (impl_Triangulation_boundaryEdges.post w0 L r1) := by
      intro c1
      induction c1 using Nat.strongRecOn with
      | _ c1 k1 =>
       intro i1 d1 x167 w H HS
       cases c1 with
       | zero => rw [impl_Triangulation_boundaryEdges.l4] at H; cases H
       | succ g1 =>
        rw [impl_Triangulation_boundaryEdges.l4] at H
        subst n1
        refine rN 3 Z ?_
        rcases iS H with ⟨c182, H⟩ | ⟨c182, H⟩
        ·
         refine nB Z (tF c182) (rN 4 Z (G.weak ?_ (o1 g1 (by omega) (by omega) _ _ _ H (HS.pk 4 [0, 1, 2] Z))))
         exact ⟨Z, Z, Z, Z, Z, tv⟩
        refine yB Z (tT c182) (rN 4 Z ?_)
        obtain ⟨c183, H⟩ := iN H
        refine rG (GO.ix Z Z Z U56 sz2 ((RdIn.own (j := 3) Z) _ HS).2.2.1 c183.1 c183.2 Z (GO.ldRd (T := (TInt .i64)) (n := x167.toNat) (o := 0) HS (RdIn.own (j := 3) Z) Z Z (getD_some (d := 0) (ltN c183)) Z Z na2 Z (aS Z (nL ?_))))
        obtain ⟨c184, H⟩ := iN H
        rcases iE H with ⟨c185, H⟩ | ⟨c185, H⟩
        ·
         refine rG (pS 4 Z (GO.ix Z Z Z U171 sz4 (fun _ => ⟨_, _, Z⟩) c184.1 c184.2 Z (GO.ldRd (T := TBool) (n := (t3.getD x77.toNat 0).toNat) (o := 0) HS (RdIn.own (j := 1) Z) Z Z (getD_some (d := false) (ltN c184)) Z Z na4 Z (mV Z (kN 44 Z c185 (oF Z (oF Z (oF Z (oF Z (oF Z (oF Z (oF Z (oF Z (oF Z ?_))))))))))))))
         refine oF Z (GO.pickT Z Z Z Z Z (GO.ix Z Z Z U171 sz4 (fun _ => ⟨_, _, Z⟩) c184.1 c184.2 Z (GO.stRow (T := TBool) (j := 1) (n := (t3.getD x77.toNat 0).toNat) (o := 0) (vs := [.bool true]) true HS Z flat_flat Z Z Z Z (htN na4 Z) Z (getD_some (d := false) (ltN c184)) Z Z fun wd186 HS => nL (G.len (t := 4) (m := (d1.set ((t3.getD x77.toNat 0).toNat) true).length) Z (by simp only [List.length_set] <;> rfl) (rN 3 Z (G.weak ?_ (k1 g1 (Nat.lt_succ_of_le (lR _)) (Nat.le_of_succ_le i1) _ _ _ H HS)))))))
         exact ⟨Z, Z, Z, Z, Z, Z, Z, Z, Z, Z, tv⟩
        obtain ⟨c187, H⟩ := iN H
        obtain ⟨c188, H⟩ := iN H
        obtain ⟨e189, h190, H⟩ := bnd_elim H
        obtain ⟨t191, h192, H⟩ := bI H
        refine rG (pS 4 Z (GO.ix Z Z Z U171 sz4 (fun _ => ⟨_, _, Z⟩) c184.1 c184.2 Z (GO.ldRd (T := TBool) (n := (t3.getD x77.toNat 0).toNat) (o := 0) HS (RdIn.own (j := 1) Z) Z Z (getD_some (d := false) (ltN c184)) Z Z na4 Z (mV Z (kN 44 Z (bnot_of c185) (oN Z (fL b1 0 fl31_0 Z (bK (oN Z (lB 0 HS Z na29 Z (bK (oN Z (mV Z (bK ?_))))))))))))))
        refine oN Z (GO.quo Z Z Z (by decide) Z (bK (oN Z (GO.ix Z Z Z U29 sz77 ((rD 4 r_a) _ HS).2.2.1 c187.1 c187.2 Z (bK (oN Z (GO.ldRd (T := (Ty.slice 107 T_GFace)) (n := (w64 (x77.tdiv 6)).toNat) (o := 0) HS (rD 4 r_a) Z Z (getD_some (d := []) (ltN c187)) Z Z na77 Z (bK (oN Z (mV Z (bK (oN Z (GO.ix Z Z Z U77 sz107 ((RdIn.elem (rD 4 r_a) c187.1 c187.2) _ HS).2.2.1 c188.1 c188.2 Z (bK ?_))))))))))))))
        refine oN Z (GO.ldRdA (T := T_GFace) (n := (t146.getD x167.toNat 0).toNat) HS (RdIn.elem (rD 4 r_a) c187.1 c187.2) Z Z (getD_eq (ltN c188) h190) ag107 Z (bK (oN Z (fJ fok91 Z (impl_Face_isBoundary.calls HS  h192) (fun _ wd193 ⟨h194, HS⟩ => ⟨_, h194, (bK (GO.pickF Z Z Z Z Z (GO.ix Z Z Z U171 sz4 (fun _ => ⟨_, _, Z⟩) c184.1 c184.2 Z (GO.stRow (T := TBool) (j := 1) (n := (t3.getD x77.toNat 0).toNat) (o := 0) (vs := [.bool t191]) t191 HS Z flat_flat Z Z Z Z (htN na4 Z) Z (getD_some (d := false) (ltN c184)) Z Z fun wd195 HS => nL (G.len (t := 4) (m := (d1.set ((t3.getD x77.toNat 0).toNat) t191).length) Z (by simp only [List.length_set] <;> rfl) (rN 3 Z (G.weak ?_ (k1 g1 (Nat.lt_succ_of_le (lR _)) (Nat.le_of_succ_le i1) _ _ _ H HS))))))))⟩)))))
        exact ⟨Z, Z, Z, Z, Z, Z, Z, Z, Z, Z, tv⟩
     refine G.weak ?_ (p1 h1 (lR _) _ _ _ H (HS.pk 5 [2, 3, 4, 0] Z))
     exact ⟨Z, Z, Z, Z, Z, Z, Z, Z, Z, Z, tv⟩
  refine G.weak ?_ (q1 K (lR _) _ _ _ H (HS.pk 3 [2, 0, 1] Z))
  exact ⟨Z, Z, Z, Z, Z, tv⟩
theorem impl_Triangulation_firstCorner.calls {a1 : List (List GFace)} {c1 : Int} {y_a : Nat → (Ty.slice 107 T_GFace).Lay} {r1 r2 : Int} (HS : St w0 w (L)) (r_a : RdIn w0 L (Ty.slice 107 T_GFace) A_a c_a y_a a1) (H : impl_Triangulation_firstCorner.f K a1 c1 = some (r1, r2)) :
    Calls prog 162 #[.agg [.slice A_a a1.length c_a].toArray, I c1] w (impl_Triangulation_firstCorner.post w0 L r1 r2) := by
  unfold impl_Triangulation_firstCorner.f at H
  refine cG func162 Z ?_
  refine sQ (rG (bA HS Z fun b1 wd2 HS => GO.alloc HS Z zr167 Z Z fun b3 wd4 HS => nL (sQ ?_)))
  obtain ⟨t5, h6, H⟩ := bI H
  refine rG (lW 1 HS Z ag31 (fJ fok124 Z (impl_Triangulation_edgeClasses.calls HS (rD 2 r_a) h6) (fun _ wd9 ⟨A7, c8, h10, HS⟩ => ⟨_, h10, (aS Z (nL (rN 2 Z ?_)))⟩)))
  obtain ⟨t11, h12, H⟩ := bI H
  obtain ⟨c17, H⟩ := iN H
  refine rG (lW 2 HS Z ag31 (fJ fok141 Z (impl_Triangulation_boundaryEdges.calls HS (rD 3 r_a) h12) (fun _ wd15 ⟨A13, c14, h16, HS⟩ => ⟨_, h16, (mV Z (GO.ix Z Z Z U171 sz4 ((RdIn.own (j := 0) Z) _ HS).2.2.1 c17.1 c17.2 Z (GO.ldRd (T := TBool) (n := c1.toNat) (o := 0) HS (RdIn.own (j := 0) Z) Z Z (getD_some (d := false) (ltN c17)) Z Z na4 Z (GO.not Z Z Z (nL ?_)))))⟩)))
  rcases iS H with ⟨c18, H⟩ | ⟨c18, H⟩
  ·
   refine yB Z (congrArg Bool.not (bnot_of c18)) (sQ ?_)
   obtain ⟨t408, h409, H⟩ := bI H
   refine rG (pS 2 Z (fJ fok126 Z (slices_Index_int64_int64.calls HS (RdIn.own (j := 1) Z) h409) (fun _ wd410 ⟨h411, HS⟩ => ⟨_, h411, (aS Z (nL (sQ ?_)))⟩)))
   obtain ⟨t412, t413, h414, H⟩ := bind2_elim H
   refine rG (mV Z (GO.rem Z Z Z (by decide) Z (fJ fok150 Z (impl_ends.calls HS  h414) (fun _ wd415 ⟨h416, HS⟩ => ⟨_, h416, (pS 5 Z (nL (sQ ?_)))⟩))))
   obtain ⟨t419, h420, H⟩ := bI H
   refine rG (pS 2 Z (GO.buildS (el := 2) ([I t412, I t413]) HS Z Z (fun _ => by kernel_rfl) Z fun b417 wd418 HS => ?_))
   replace HS := HS.boxRow (T := (TInt .i64)) (j := 0) Z flat_flat (fun _ => ()) ([t412, t413] : List Int) Z (bndL Z)
   refine GO.lenC (t := 32) (m := ([t412, t413] : List Int).length) (c' := ([t412, t413] : List Int).length) Z Z Z (fJ fok137 Z (impl_others.calls HS (RdIn.own (j := 0) Z) h420) (fun _ wd423 ⟨A421, c422, h424, HS⟩ => ⟨_, h424, (aS Z (nL (sQ ?_)))⟩))
   obtain ⟨c425, H⟩ := iN H
   have h426 := ((RdIn.own (j := 0) Z) _ HS).2.2.1
   obtain ⟨c427, H⟩ := iN H
   have h428 := ((RdIn.own (j := 0) Z) _ HS).2.2.1
   obtain ⟨t429, h430, H⟩ := bI H
   refine G.lex mixed [0, 1, 2, 3, 4, 5, 7, 8, 6, 9, 10, 11, 12, 13] (by kernel_rfl) ?_
   replace HS := HS.drew
   refine GX.ps 1 Z (qL Z Z (fun _ _ g => GO.quo Z Z Z (by decide) Z g) Z (GX.ps 3 Z (qL Z Z (fun _ _ g => GO.ix Z Z Z U56 sz2 h426 c425.1 c425.2 Z g) Z (GX.ps 1 Z (qL Z Z (fun _ _ g => GO.ix Z Z Z U56 sz2 h428 c427.1 c427.2 Z g) Z (GX.l1 Z Z Z (fun _ g => GO.ldRd (T := (TInt .i64)) (n := 0) (o := 0) HS (RdIn.own (j := 0) Z) Z Z (getD_some (d := 0) (ltN c425)) Z Z na2 Z g) Z (GX.l1 Z Z Z (fun _ g => GO.ldRd (T := (TInt .i64)) (n := 1) (o := 0) HS (RdIn.own (j := 0) Z) Z Z (getD_some (d := 0) (ltN c427)) Z Z na2 Z g) Z (qL Z Z (fun _ _ g => GO.buildV (.agg [I t412, I t413, I (t419.getD 0 0), I (t419.getD 1 0)].toArray) Z Z (fun _ => by kernel_rfl) Z g) Z (GX.l2 Z (fJ fok130 Z (impl_indexOf.calls HS  h430) (fun _ wd431 ⟨h432, HS⟩ => ⟨_, h432, (GX.fin tv (qL Z Z (fun _ _ g => GO.buildV (.agg [I (w64 (t408.tdiv 6)), I t429].toArray) Z Z (fun _ => by kernel_rfl) Z g) Z (GX.l2 Z (sW 4 HS Z ag167 Z fun wd433 HS => ?_))))⟩)))))))))))
   refine GX.fin tv (GX.nil ?_)
   obtain ⟨rfl, rfl⟩ := some2 H
   exact rT _ func162 Z (Res1.boxA (j := 4) (vs := [I (w64 (t408.tdiv 6)), I t429]) HS Z Z Z ag167) ⟨Z, (HS.pk 6 [] Z)⟩
  refine nB Z (congrArg Bool.not c18) (rN 3 Z ?_)
  obtain ⟨t19, h20, H⟩ := bI H
  refine rG (fL b1 0 fl31_0 Z (lB 3 HS Z na29 Z (fJ fok49 Z (impl_size_impl_Face.calls HS (rD 4 r_a) h20) (fun _ wd21 ⟨h22, HS⟩ => ⟨_, h22, (mV Z (nL (rN 2 Z ?_)))⟩))))
  refine G.name (fun q1 s1 => ?_)
  have p1 : ∀ e1, e1 ≤ K → ∀ (x151 : Int) (w : World), impl_Triangulation_firstCorner.l1 K e1 a1 c1 t5 t19 x151 = some (r1, r2) → St w0 w (Box b1 31 [.slice A_a a1.length c_a] :: Box b3 167 [I 0, I 0] :: Own (TInt .i64) 2 A7 c8 (fun _ => ()) t5 :: L) → G prog 162 89 [(1, I c1), (2, .pointer (some ⟨b1, 0, none⟩)), (4, .pointer (some ⟨b3, 0, none⟩)), (5, .slice A7 t5.length c8), (49, I t19), (50, I x151)] q1 w (impl_Triangulation_firstCorner.post w0 L r1 r2) := by
   intro e1
   induction e1 using Nat.strongRecOn with
   | _ e1 n1 =>
    intro t1 x151 w H HS
    cases e1 with
    | zero => rw [impl_Triangulation_firstCorner.l1] at H; cases H
    | succ g1 =>
     rw [impl_Triangulation_firstCorner.l1] at H
     subst s1
     refine rN 3 Z ?_
     rcases iS H with ⟨c280, H⟩ | ⟨c280, H⟩
     ·
      refine nB Z (tF c280) (rN 2 Z (rG (GO.buildV (.agg [I 0, I 0].toArray) Z Z (fun _ => by kernel_rfl) Z (sW 1 HS Z ag167 Z fun wd407 HS => nL ?_))))
      obtain ⟨rfl, rfl⟩ := some2 H
      exact rT _ func162 Z (Res1.boxA (j := 1) (vs := [I 0, I 0]) HS Z Z Z ag167) ⟨Z, (HS.pk 3 [] Z)⟩
     refine yB Z (tT c280) (rN 9 Z ?_)
     refine G.name (fun k1 m1 => ?_)
     have o1 : ∀ d1, d1 ≤ g1 → ∀ (x322 : Int) (w : World), impl_Triangulation_firstCorner.l4 K d1 a1 c1 t5 t19 x151 x322 = some (r1, r2) → St w0 w (Box b1 31 [.slice A_a a1.length c_a] :: Box b3 167 [I 0, I 0] :: Own (TInt .i64) 2 A7 c8 (fun _ => ()) t5 :: L) → G prog 162 89 [(1, I c1), (2, .pointer (some ⟨b1, 0, none⟩)), (4, .pointer (some ⟨b3, 0, none⟩)), (5, .slice A7 t5.length c8), (10, I x151), (49, I t19), (50, I x151), (53, I x322)] k1 w (impl_Triangulation_firstCorner.post w0 L r1 r2) := by
      intro d1
      induction d1 using Nat.strongRecOn with
      | _ d1 i1 =>
       intro h1 x322 w H HS
       cases d1 with
       | zero => rw [impl_Triangulation_firstCorner.l4] at H; cases H
       | succ f1 =>
        rw [impl_Triangulation_firstCorner.l4] at H
        subst m1
        refine rN 3 Z ?_
        rcases iS H with ⟨c365, H⟩ | ⟨c365, H⟩
        ·
         refine nB Z (tF c365) (rN 4 Z (G.weak ?_ (n1 f1 (by omega) (by omega) _ _ H HS)))
         exact ⟨Z, Z, Z, Z, Z, Z, tv⟩
        refine yB Z (tT c365) (rN 6 Z ?_)
        obtain ⟨t366, t367, t368, t369, h370, H⟩ := bind4_elim H
        refine rG (mV Z (fJ fok93 Z (impl_perm.calls HS  h370) (fun _ wd371 ⟨h372, HS⟩ => ⟨_, h372, (GO.alloc HS Z zr131 Z Z fun b373 wd374 HS => sW 0 HS Z ag131 Z fun wd375 HS => nL (sQ ?_))⟩)))
        obtain ⟨t390, h391, H⟩ := bI H
        obtain ⟨c394, H⟩ := iN H
        have h395 := ((RdIn.own (j := 3) Z) _ HS).2.2.1
        rcases iS H with ⟨c396, H⟩ | ⟨c396, H⟩
        ·
         refine G.lex mixed [0, 1, 2, 3, 5, 11, 4, 6, 7, 8, 9, 10, 12, 13, 14, 16, 19, 15, 17, 18, 20, 21, 22, 23, 24] (by kernel_rfl) ?_
         replace HS := HS.drew
         refine GX.ps 3 Z (qL Z Z (fun _ _ g => GO.ixP 0 Z Z Z Z U131 sz2 Z Z g) Z (qL Z Z (fun _ _ g => GO.ixP 1 Z Z Z Z U131 sz2 Z Z g) Z (GX.ps 1 Z (GX.l1 Z Z Z (fun _ g => lB 0 HS Z na2 Z g) Z (GX.l1 Z Z Z (fun _ g => lB 0 HS Z na2 Z g) Z (GX.l2 Z (fJ fok151 Z (impl_edge.calls HS  h391) (fun _ wd392 ⟨h393, HS⟩ => ⟨_, h393, (GX.fin tv (GX.ps 1 Z (qL Z Z (fun _ _ g => GO.ix Z Z Z U56 sz2 h395 c394.1 c394.2 Z g) Z (GX.l1 Z Z Z (fun _ g => GO.ldRd (T := (TInt .i64)) (n := (w64 ((w64 (6 * x151)) + t390)).toNat) (o := 0) HS (RdIn.own (j := 3) Z) Z Z (getD_some (d := 0) (ltN c394)) Z Z na2 Z g) Z (GX.ps 1 Z (qL Z Z (fun _ _ g => mV Z (kN 71 Z (tF c396) g)) Z (qL Z Z (fun _ _ g => oF Z g) Z ?_)))))))⟩))))))))
         refine qL Z Z (fun _ _ g => oF Z g) Z (qL Z Z (fun _ _ g => oF Z g) Z (GX.l1 Z Z Z (fun _ g => oF Z g) Z (qL Z Z (fun _ _ g => oF Z g) Z (GX.l1 Z Z Z (fun _ g => oF Z g) Z (GX.l1 Z Z Z (fun _ g => oF Z g) Z (qL Z Z (fun _ _ g => oF Z g) Z (GX.l1 Z Z Z (fun _ g => oF Z g) Z (GX.l2 Z (oF Z (GX.fin tv (GX.ps 1 Z (GX.nil (rN 5 Z (G.weak ?_ (i1 f1 (Nat.lt_succ_of_le (lR _)) (Nat.le_of_succ_le h1) _ _ H (HS.pk 4 [1, 2, 3] Z))))))))))))))))
         exact ⟨Z, Z, Z, Z, Z, Z, Z, Z, tv⟩
        obtain ⟨c397, H⟩ := iN H
        obtain ⟨c398, H⟩ := iN H
        obtain ⟨e399, h400, H⟩ := bnd_elim H
        obtain ⟨t401, h402, H⟩ := bI H
        refine G.lex mixed [0, 1, 2, 3, 5, 11, 4, 6, 7, 8, 9, 10, 12, 13, 14, 16, 19, 15, 17, 18, 20, 21, 22, 23, 24] (by kernel_rfl) ?_
        replace HS := HS.drew
        refine GX.ps 3 Z (qL Z Z (fun _ _ g => GO.ixP 0 Z Z Z Z U131 sz2 Z Z g) Z (qL Z Z (fun _ _ g => GO.ixP 1 Z Z Z Z U131 sz2 Z Z g) Z (GX.ps 1 Z (GX.l1 Z Z Z (fun _ g => lB 0 HS Z na2 Z g) Z (GX.l1 Z Z Z (fun _ g => lB 0 HS Z na2 Z g) Z (GX.l2 Z (fJ fok151 Z (impl_edge.calls HS  h391) (fun _ wd392 ⟨h393, HS⟩ => ⟨_, h393, (GX.fin tv (GX.ps 1 Z (qL Z Z (fun _ _ g => GO.ix Z Z Z U56 sz2 h395 c394.1 c394.2 Z g) Z (GX.l1 Z Z Z (fun _ g => GO.ldRd (T := (TInt .i64)) (n := (w64 ((w64 (6 * x151)) + t390)).toNat) (o := 0) HS (RdIn.own (j := 3) Z) Z Z (getD_some (d := 0) (ltN c394)) Z Z na2 Z g) Z (GX.ps 1 Z (qL Z Z (fun _ _ g => mV Z (kN 71 Z (tT c396) g)) Z (qL Z Z (fun _ _ g => oN Z (fL b1 0 fl31_0 Z (bK g))) Z ?_)))))))⟩))))))))
        refine qL Z Z (fun _ _ g => oN Z (mV Z (bK g))) Z (qL Z Z (fun _ _ g => oN Z (GO.ixP 3 Z Z Z Z U131 sz2 Z Z (bK g))) Z (GX.l1 Z Z Z (fun _ g => oN Z (lB 1 HS Z na29 Z (bK g))) Z (qL Z Z (fun _ _ g => oN Z (GO.ix Z Z Z U29 sz77 ((rD 4 r_a) _ HS).2.2.1 c397.1 c397.2 Z (bK g))) Z (GX.l1 Z Z Z (fun _ g => oN Z (GO.ldRd (T := (Ty.slice 107 T_GFace)) (n := x151.toNat) (o := 0) HS (rD 4 r_a) Z Z (getD_some (d := []) (ltN c397)) Z Z na77 Z (bK g))) Z (GX.l1 Z Z Z (fun _ g => oN Z (lB 0 HS Z na2 Z (bK g))) Z (qL Z Z (fun _ _ g => oN Z (GO.ix Z Z Z U77 sz107 ((RdIn.elem (rD 4 r_a) c397.1 c397.2) _ HS).2.2.1 c398.1 c398.2 Z (bK g))) Z (GX.l1 Z Z Z (fun _ g => oN Z (GO.ldRdA (T := T_GFace) (n := t369.toNat) HS (RdIn.elem (rD 4 r_a) c397.1 c397.2) Z Z (getD_eq (ltN c398) h400) ag107 Z (bK g))) Z (GX.l2 Z (oN Z (fJ fok91 Z (impl_Face_isBoundary.calls HS  h402) (fun _ wd403 ⟨h404, HS⟩ => ⟨_, h404, (bK (GX.fin tv (GX.ps 1 Z (GX.nil ?_))))⟩)))))))))))
        rcases iS H with ⟨c405, H⟩ | ⟨c405, H⟩
        ·
         refine nB Z (bnot_of c405) (rN 4 Z (G.weak ?_ (i1 f1 (Nat.lt_succ_of_le (lR _)) (Nat.le_of_succ_le h1) _ _ H (HS.pk 4 [1, 2, 3] Z))))
         exact ⟨Z, Z, Z, Z, Z, Z, Z, Z, tv⟩
        refine yB Z c405 (sQ (rG (pS 2 Z (GO.buildV (.agg [I x151, I x322].toArray) Z Z (fun _ => by kernel_rfl) Z (sW 2 HS Z ag167 Z fun wd406 HS => nL ?_)))))
        obtain ⟨rfl, rfl⟩ := some2 H
        exact rT _ func162 Z (Res1.boxA (j := 2) (vs := [I x151, I x322]) HS Z Z Z ag167) ⟨Z, (HS.pk 4 [] Z)⟩
     refine G.weak ?_ (o1 g1 (lR _) _ _ H HS)
     exact ⟨Z, Z, Z, Z, Z, Z, Z, Z, tv⟩
  refine G.weak ?_ (p1 K (lR _) _ _ H (HS.pk 4 [3, 2, 1] Z))
  exact ⟨Z, Z, Z, Z, Z, Z, tv⟩
theorem impl_Triangulation_after.calls {a1 : List (List GFace)} {c1 d1 : Int} {y_a : Nat → (Ty.slice 107 T_GFace).Lay} {r1 r2 : Int} {r3 : Bool} (HS : St w0 w (L)) (r_a : RdIn w0 L (Ty.slice 107 T_GFace) A_a c_a y_a a1) (H : impl_Triangulation_after.f K a1 c1 d1 = some (r1, r2, r3)) :
    Calls prog 163 #[.agg [.slice A_a a1.length c_a].toArray, .agg [I c1, I d1].toArray] w (impl_Triangulation_after.post w0 L r1 r2 r3) := by
  unfold impl_Triangulation_after.f at H
  refine cG func163 Z ?_
  refine sQ (rG (bA HS Z fun b1 wd2 HS => bA HS Z fun b3 wd4 HS => GO.alloc HS Z zr167 Z Z fun b5 wd6 HS => aS Z (nL (sQ ?_))))
  obtain ⟨t7, t8, t9, t10, h11, H⟩ := bind4_elim H
  refine rG (fL b3 1 fl167_1 Z (lB 1 HS Z na2 Z (fJ fok93 Z (impl_perm.calls HS  h11) (fun _ wd12 ⟨h13, HS⟩ => ⟨_, h13, (GO.alloc HS Z zr131 Z Z fun b14 wd15 HS => sW 0 HS Z ag131 Z fun wd16 HS => nL (sQ ?_))⟩))))
  obtain ⟨c17, H⟩ := iN H
  obtain ⟨c18, H⟩ := iN H
  obtain ⟨e19, h20, H⟩ := bnd_elim H
  refine G.lexS mixed (fun w => St w0 w (Box b14 131 [I t7, I t8, I t9, I t10] :: Box b3 167 [I c1, I d1] :: Box b1 31 [.slice A_a a1.length c_a] :: L)) [1, 3, 5, 7, 9] [0, 2, 6, 1, 3, 4, 5, 7, 8, 9, 10, 11] [] (by kernel_rfl) (by kernel_rfl) (HS.drew.pk 4 [0, 2, 3] Z) ?_
  replace HS := HS.drew
  refine qL Z Z (fun _ _ g => fL b1 0 fl31_0 Z g) Z (qL Z Z (fun _ _ g => fL b3 0 fl167_0 Z g) Z (qL Z Z (fun _ _ g => GO.ixP 2 Z Z Z Z U131 sz2 Z Z g) Z (GX.ls Z Z Z (HS.pk 4 [0, 2, 3] Z) (fun _ HS _ g => lB 2 HS Z na29 Z g) Z (GX.ls Z Z Z (HS.pk 4 [0, 2, 3] Z) (fun _ HS _ g => lB 1 HS Z na2 Z g) Z (qL Z Z (fun _ _ g => GO.ix Z Z Z U29 sz77 ((rD 4 r_a) _ HS).2.2.1 c17.1 c17.2 Z g) Z (GX.ls Z Z Z (HS.pk 4 [0, 2, 3] Z) (fun _ HS _ g => GO.ldRd (T := (Ty.slice 107 T_GFace)) (n := c1.toNat) (o := 0) HS (rD 3 r_a) Z Z (getD_some (d := []) (ltN c17)) Z Z na77 Z g) Z (GX.ls Z Z Z (HS.pk 4 [0, 2, 3] Z) (fun _ HS _ g => lB 0 HS Z na2 Z g) Z (qL Z Z (fun _ _ g => GO.ix Z Z Z U77 sz107 ((RdIn.elem (rD 4 r_a) c17.1 c17.2) _ HS).2.2.1 c18.1 c18.2 Z g) Z (GX.ls Z Z Z (HS.pk 4 [0, 2, 3] Z) (fun _ HS _ g => GO.ldRdA (T := T_GFace) (n := t9.toNat) HS (RdIn.elem (rD 3 r_a) c17.1 c17.2) Z Z (getD_eq (ltN c18) h20) ag107 Z g) Z (GX.l2 Z (GO.alloc HS Z zr107 Z Z fun b21 wd22 HS => GX.fin (HS.pk 5 [1, 3, 4] Z) (GX.l2 Z (sW 0 HS Z ag107 Z fun wd23 HS => ?_)))))))))))))
  refine GX.fin (HS.pk 5 [1, 3, 4] Z) (GX.nil (rN 2 Z ?_))
  obtain ⟨t24, h25, H⟩ := bI H
  refine rG (lW 0 HS Z ag107 (fJ fok91 Z (impl_Face_isBoundary.calls HS  h25) (fun _ wd26 ⟨h27, HS⟩ => ⟨_, h27, (nL ?_)⟩)))
  rcases iE H with ⟨c28, H⟩ | ⟨c28, H⟩
  ·
   refine yB Z c28 (sQ (rG (GO.buildV (.agg [I 0, I 0].toArray) Z Z (fun _ => by kernel_rfl) Z (sW 2 HS Z ag167 Z fun wd29 HS => aS Z (nL ?_)))))
   obtain ⟨rfl, rfl, rfl⟩ := some3 H
   exact G.ret2 _ _ func163 Z (Res1.boxA (j := 2) (vs := [I 0, I 0]) HS Z Z Z ag167) Z ⟨Z, (HS.pk 5 [] Z)⟩
  refine nB Z (bnot_of c28) (rN 2 Z ?_)
  obtain ⟨t30, t31, t32, t33, h34, H⟩ := bind4_elim H
  refine rG (fL b21 1 fl107_1 Z (lB 0 HS Z na2 Z (fJ fok93 Z (impl_perm.calls HS  h34) (fun _ wd35 ⟨h36, HS⟩ => ⟨_, h36, (GO.alloc HS Z zr131 Z Z fun b37 wd38 HS => sW 0 HS Z ag131 Z fun wd39 HS => nL (sQ ?_))⟩))))
  obtain ⟨c40, H⟩ := iN H
  obtain ⟨c41, H⟩ := iN H
  obtain ⟨c42, H⟩ := iN H
  obtain ⟨c43, H⟩ := iN H
  obtain ⟨t44, h45, H⟩ := bI H
  refine G.lexS mixed (fun w => St w0 w (Box b37 131 [I t30, I t31, I t32, I t33] :: Box b21 107 [I e19.Tet, I e19.Perm] :: Box b14 131 [I t7, I t8, I t9, I t10] :: L)) [1, 3, 5, 7, 9, 11, 13, 15, 17] [0, 2, 6, 10, 14, 1, 3, 4, 5, 7, 8, 9, 11, 12, 13, 15, 16, 17, 18, 19, 20, 21, 22] [] (by kernel_rfl) (by kernel_rfl) (HS.drew.pk 6 [0, 1, 2] Z) ?_
  replace HS := HS.drew
  refine qL Z Z (fun _ _ g => fL b21 0 fl107_0 Z g) Z (qL Z Z (fun _ _ g => GO.ixP 0 Z Z Z Z U131 sz2 Z Z g) Z (qL Z Z (fun _ _ g => GO.ixP 1 Z Z Z Z U131 sz2 Z Z g) Z (qL Z Z (fun _ _ g => GO.ixP 3 Z Z Z Z U131 sz2 Z Z g) Z (qL Z Z (fun _ _ g => GO.ixP 2 Z Z Z Z U131 sz2 Z Z g) Z (GX.ls Z Z Z (HS.pk 6 [0, 1, 2] Z) (fun _ HS _ g => lB 1 HS Z na2 Z g) Z (GX.ls Z Z Z (HS.pk 6 [0, 1, 2] Z) (fun _ HS _ g => lB 2 HS Z na2 Z g) Z (qL Z Z (fun _ _ g => GO.ixW Z Z Z U131 sz2 c40 Z g) Z (GX.ls Z Z Z (HS.pk 6 [0, 1, 2] Z) (fun _ HS _ g => GO.ldW (j := 0) ([t30, t31, t32, t33] : List Int) HS Z Z Z c40 Z Z na2 Z g) Z (GX.ls Z Z Z (HS.pk 6 [0, 1, 2] Z) (fun _ HS _ g => lB 2 HS Z na2 Z g) Z (qL Z Z (fun _ _ g => GO.ixW Z Z Z U131 sz2 c41 Z g) Z (GX.ls Z Z Z (HS.pk 6 [0, 1, 2] Z) (fun _ HS _ g => GO.ldW (j := 0) ([t30, t31, t32, t33] : List Int) HS Z Z Z c41 Z Z na2 Z g) Z (GX.ls Z Z Z (HS.pk 6 [0, 1, 2] Z) (fun _ HS _ g => lB 2 HS Z na2 Z g) Z (qL Z Z (fun _ _ g => GO.ixW Z Z Z U131 sz2 c42 Z g) Z (GX.ls Z Z Z (HS.pk 6 [0, 1, 2] Z) (fun _ HS _ g => GO.ldW (j := 0) ([t30, t31, t32, t33] : List Int) HS Z Z Z c42 Z Z na2 Z g) Z ?_))))))))))))))
  refine GX.ls Z Z Z (HS.pk 6 [0, 1, 2] Z) (fun _ HS _ g => lB 2 HS Z na2 Z g) Z (qL Z Z (fun _ _ g => GO.ixW Z Z Z U131 sz2 c43 Z g) Z (GX.ls Z Z Z (HS.pk 6 [0, 1, 2] Z) (fun _ HS _ g => GO.ldW (j := 0) ([t30, t31, t32, t33] : List Int) HS Z Z Z c43 Z Z na2 Z g) Z (qL Z Z (fun _ _ g => GO.buildV (.agg [I (([t30, t31, t32, t33] : List Int).getD t7.toNat 0), I (([t30, t31, t32, t33] : List Int).getD t8.toNat 0), I (([t30, t31, t32, t33] : List Int).getD t10.toNat 0), I (([t30, t31, t32, t33] : List Int).getD t9.toNat 0)].toArray) Z Z (fun _ => by kernel_rfl) Z g) Z (GX.l2 Z (fJ fok130 Z (impl_indexOf.calls HS  h45) (fun _ wd46 ⟨h47, HS⟩ => ⟨_, h47, (GX.fin (HS.pk 6 [0, 1, 2] Z) (qL Z Z (fun _ _ g => GO.buildV (.agg [I e19.Tet, I t44].toArray) Z Z (fun _ => by kernel_rfl) Z g) Z (GX.l2 Z (sW 3 HS Z ag167 Z fun wd48 HS => GX.fin (HS.pk 6 [0, 1, 2] Z) (GX.ps 1 Z (GX.nil ?_))))))⟩))))))
  obtain ⟨rfl, rfl, rfl⟩ := some3 H
  exact G.ret2 _ _ func163 Z (Res1.boxA (j := 3) (vs := [I e19.Tet, I t44]) HS Z Z Z ag167) Z ⟨Z, (HS.pk 6 [] Z)⟩
theorem impl_Triangulation_ring.calls {e1 : List (List GFace)} {z1 : Int} {y_a : Nat → (Ty.slice 107 T_GFace).Lay} {r1 : List GFace} (HS : St w0 w (L)) (r_a : RdIn w0 L (Ty.slice 107 T_GFace) A_a c_a y_a e1) (H : impl_Triangulation_ring.f K e1 z1 = some r1) :
    Calls prog 142 #[.agg [.slice A_a e1.length c_a].toArray, I z1] w (impl_Triangulation_ring.post w0 L r1) := by
  unfold impl_Triangulation_ring.f at H
  refine cG func142 Z ?_
  refine sQ (rG (bA HS Z fun b1 wd2 HS => aS Z (nL (sQ ?_))))
  obtain ⟨t3, t4, h5, H⟩ := bind2_elim H
  refine rG (lW 0 HS Z ag31 (mV Z (fJ fok162 Z (impl_Triangulation_firstCorner.calls HS (rD 1 r_a) h5) (fun _ wd6 ⟨h7, HS⟩ => ⟨_, h7, (GO.alloc HS Z zr167 Z Z fun b8 wd9 HS => sW 0 HS Z ag167 Z fun wd10 HS => nL (sQ (rG (lW 0 HS Z ag167 (GO.buildS (el := 167) ([I t3, I t4]) HS Z Z (fun _ => by kernel_rfl) Z fun b11 wd12 HS => ?_)))))⟩))))
  replace HS := HS.boxRow (T := T_GFace) (j := 0) Z flat_flat (fun _ => ()) ([(⟨t3, t4⟩ : GFace)] : List GFace) Z (bndL Z)
  refine GO.lenC (t := 13) (m := ([(⟨t3, t4⟩ : GFace)] : List GFace).length) (c' := ([(⟨t3, t4⟩ : GFace)] : List GFace).length) Z Z Z (aS Z (nL (rN 2 Z ?_)))
  refine G.name (fun a2 d2 => ?_)
  have g2 : ∀ s1, s1 ≤ K → ∀ (A35 : Option Addr) (c36 : Nat) (a1 : List GFace) (w : World), impl_Triangulation_ring.l1 K s1 e1 t3 t4 a1 = some r1 → St w0 w (Box b1 31 [.slice A_a e1.length c_a] :: Box b8 167 [I t3, I t4] :: Own T_GFace 167 A35 c36 (fun _ => ()) a1 :: L) → G prog 142 37 [(2, .pointer (some ⟨b1, 0, none⟩)), (5, .pointer (some ⟨b8, 0, none⟩)), (6, .slice A35 a1.length c36)] a2 w (impl_Triangulation_ring.post w0 L r1) := by
   intro s1
   induction s1 using Nat.strongRecOn with
   | _ s1 b2 =>
    intro c2 A35 c36 a1 w H HS
    cases s1 with
    | zero => rw [impl_Triangulation_ring.l1] at H; cases H
    | succ e2 =>
     rw [impl_Triangulation_ring.l1] at H
     subst d2
     refine rN 2 Z ?_
     obtain ⟨c60, H⟩ := iN H
     have h61 := ((RdIn.own (j := 2) Z) _ HS).2.2.1
     obtain ⟨e62, h63, H⟩ := bnd_elim H
     obtain ⟨t64, t65, t66, h67, H⟩ := bind3_elim H
     refine G.regionAny mixed (by decide) (fun b a w => ∃ (k1 : Value) (i1 : Value) (v1 : Value) (n1 : Value) (m1 : Value) (h1 : Value) (g1 : Value) (x1 : Value) (u1 : Value) (q1 : Value) (o1 : Value) (p1 : Value) (t1 : Value) (b70 : Nat) (y1 : HObj), Sat 37 [(7, p1), (8, t1), (14, u1), (15, k1), (16, i1), (17, v1), (18, n1), (19, m1), (20, h1), (21, g1), (22, x1), (23, q1), (24, o1), (2, .pointer (some ⟨b1, 0, none⟩)), (5, .pointer (some ⟨b8, 0, none⟩)), (6, .slice A35 a1.length c36)] a ∧ St w0 w (Box b1 31 [.slice A_a e1.length c_a] :: Box b8 167 [I t3, I t4] :: Own T_GFace 167 A35 c36 (fun _ => ()) a1 :: y1 :: L) ∧ (b 11 = true → p1 = (.pointer (some ⟨b70, 0, none⟩))) ∧ (b 13 = true → t1 = (.bool t66)) ∧ (b 8 = true → u1 = (.tuple #[.agg [I t64, I t65].toArray, .bool t66])) ∧ (b 0 = true → k1 = (.agg [.slice A_a e1.length c_a].toArray)) ∧ (b 1 = true → i1 = (.slice A35 a1.length c36)) ∧ (b 2 = true → v1 = (.slice A35 a1.length c36)) ∧ (b 3 = true → n1 = (I (a1.length : Int))) ∧ (b 4 = true → m1 = (I (w64 ((a1.length : Int) - 1)))) ∧ (b 5 = true → h1 = (.pointer (some (ea A35 (((w64 ((a1.length : Int) - 1)).toNat) * 2))))) ∧ (b 6 = true → g1 = (.agg [I e62.Tet, I e62.Perm].toArray)) ∧ (b 7 = true → x1 = (.tuple #[.agg [I t64, I t65].toArray, .bool t66])) ∧ (b 9 = true → q1 = (.agg [I t64, I t65].toArray)) ∧ (b 10 = true → o1 = (.bool t66)) ∧ (b 11 = true → b 12 = false → y1 = Box b70 167 [I 0, I 0]) ∧ (b 12 = true → y1 = Box b70 167 [I t64, I t65])) ?_ ?_ ?_
     ·
      intro a hs
      obtain ⟨p1, hs⟩ := hs.ext (d := 7) Z
      obtain ⟨t1, hs⟩ := hs.ext (d := 8) Z
      obtain ⟨u1, hs⟩ := hs.ext (d := 14) Z
      obtain ⟨k1, hs⟩ := hs.ext (d := 15) Z
      obtain ⟨i1, hs⟩ := hs.ext (d := 16) Z
      obtain ⟨v1, hs⟩ := hs.ext (d := 17) Z
      obtain ⟨n1, hs⟩ := hs.ext (d := 18) Z
      obtain ⟨m1, hs⟩ := hs.ext (d := 19) Z
      obtain ⟨h1, hs⟩ := hs.ext (d := 20) Z
      obtain ⟨g1, hs⟩ := hs.ext (d := 21) Z
      obtain ⟨x1, hs⟩ := hs.ext (d := 22) Z
      obtain ⟨q1, hs⟩ := hs.ext (d := 23) Z
      obtain ⟨o1, hs⟩ := hs.ext (d := 24) Z
      exact ⟨k1, i1, v1, n1, m1, h1, g1, x1, u1, q1, o1, p1, t1, 0, Emp, hs.weak ⟨Z, Z, Z, Z, Z, Z, Z, Z, Z, Z, Z, Z, Z, Z, Z, Z, tv⟩, (HS.drew.emp.pk 4 [1, 2, 3, 0] Z), fun h => Bool.noConfusion h, fun h => Bool.noConfusion h, fun h => Bool.noConfusion h, fun h => Bool.noConfusion h, fun h => Bool.noConfusion h, fun h => Bool.noConfusion h, fun h => Bool.noConfusion h, fun h => Bool.noConfusion h, fun h => Bool.noConfusion h, fun h => Bool.noConfusion h, fun h => Bool.noConfusion h, fun h => Bool.noConfusion h, fun h => Bool.noConfusion h, fun h => Bool.noConfusion h, fun h => Bool.noConfusion h⟩
     ·
      intro j hj b a w
      refine exI fun k1 => exI fun i1 => exI fun v1 => exI fun n1 => exI fun m1 => exI fun h1 => exI fun g1 => exI fun x1 => exI fun u1 => exI fun q1 => exI fun o1 => exI fun p1 => exI fun t1 => exI fun b70 => exI fun y1 => anI fun hs => anI fun HS => anI fun f11 => anI fun f13 => anI fun f8 => anI fun f0 => anI fun f1 => anI fun f2 => anI fun f3 => anI fun f4 => anI fun f5 => anI fun f6 => anI fun f7 => anI fun f9 => anI fun f10 => anI fun d1 => fun c1 hb hd hcl => ?_
      match j, hj with
      | 0, _ =>
       refine GO.at hs (lW 0 HS Z ag31 (GO.fin (fun a hs => ⟨(.agg [.slice A_a e1.length c_a].toArray), _, _, _, _, _, _, _, _, _, _, _, _, b70, _, by exact hs.setAt 3 Z, HS, f11, f13, f8, fun _ => Z, f1, f2, f3, f4, f5, f6, f7, f9, f10, d1, c1⟩)))
      | 1, _ =>
       refine GO.at hs (mV Z (GO.fin (fun a hs => ⟨_, (.slice A35 a1.length c36), _, _, _, _, _, _, _, _, _, _, _, b70, _, by exact hs.setAt 4 Z, HS, f11, f13, f8, f0, fun _ => Z, f2, f3, f4, f5, f6, f7, f9, f10, d1, c1⟩)))
      | 2, _ =>
       refine GO.at hs (mV Z (GO.fin (fun a hs => ⟨_, _, (.slice A35 a1.length c36), _, _, _, _, _, _, _, _, _, _, b70, _, by exact hs.setAt 5 Z, HS, f11, f13, f8, f0, f1, fun _ => Z, f3, f4, f5, f6, f7, f9, f10, d1, c1⟩)))
      | 3, _ =>
       have hb2 : b 2 = true := hd 2 (by decide)
       obtain rfl := f2 hb2
       refine GO.at hs (lS Z Z U165 Z (GO.fin (fun a hs => ⟨_, _, _, (I (a1.length : Int)), _, _, _, _, _, _, _, _, _, b70, _, by exact hs.setAt 6 Z, HS, f11, f13, f8, f0, f1, f2, fun _ => Z, f4, f5, f6, f7, f9, f10, d1, c1⟩)))
      | 4, _ =>
       have hb3 : b 3 = true := hd 3 (by decide)
       obtain rfl := f3 hb3
       refine GO.at hs (GO.sub Z Z Z Z (GO.fin (fun a hs => ⟨_, _, _, _, (I (w64 ((a1.length : Int) - 1))), _, _, _, _, _, _, _, _, b70, _, by exact hs.setAt 7 Z, HS, f11, f13, f8, f0, f1, f2, f3, fun _ => Z, f5, f6, f7, f9, f10, d1, c1⟩)))
      | 5, _ =>
       have hb1 : b 1 = true := hd 1 (by decide)
       obtain rfl := f1 hb1
       have hb4 : b 4 = true := hd 4 (by decide)
       obtain rfl := f4 hb4
       refine GO.at hs (GO.ix Z Z Z U165 sz167 h61 c60.1 c60.2 Z (GO.fin (fun a hs => ⟨_, _, _, _, _, (.pointer (some (ea A35 (((w64 ((a1.length : Int) - 1)).toNat) * 2)))), _, _, _, _, _, _, _, b70, _, by exact hs.setAt 8 Z, HS, f11, f13, f8, f0, f1, f2, f3, f4, fun _ => Z, f6, f7, f9, f10, d1, c1⟩)))
      | 6, _ =>
       have hb5 : b 5 = true := hd 5 (by decide)
       obtain rfl := f5 hb5
       refine GO.at hs (GO.ldRdA (T := T_GFace) (n := (w64 ((a1.length : Int) - 1)).toNat) HS (RdIn.own (j := 2) Z) Z Z (getD_eq (ltN c60) h63) ag167 Z (GO.fin (fun a hs => ⟨_, _, _, _, _, _, (.agg [I e62.Tet, I e62.Perm].toArray), _, _, _, _, _, _, b70, _, by exact hs.setAt 9 Z, HS, f11, f13, f8, f0, f1, f2, f3, f4, f5, fun _ => Z, f7, f9, f10, d1, c1⟩)))
      | 7, _ =>
       have hb0 : b 0 = true := hd 0 (by decide)
       obtain rfl := f0 hb0
       have hb6 : b 6 = true := hd 6 (by decide)
       obtain rfl := f6 hb6
       refine GO.at hs (fJ fok163 Z (impl_Triangulation_after.calls HS (rD 4 r_a) h67) (fun _ wd68 ⟨h69, HS⟩ => ⟨_, h69, (GO.fin (fun a hs => ⟨_, _, _, _, _, _, _, (.tuple #[.agg [I t64, I t65].toArray, .bool t66]), _, _, _, _, _, b70, _, by exact hs.setAt 10 Z, HS, f11, f13, f8, f0, f1, f2, f3, f4, f5, f6, fun _ => Z, f9, f10, d1, c1⟩))⟩))
      | 8, _ =>
       have hb7 : b 7 = true := hd 7 (by decide)
       obtain rfl := f7 hb7
       refine GO.at hs (mV Z (GO.fin (fun a hs => ⟨_, _, _, _, _, _, _, _, (.tuple #[.agg [I t64, I t65].toArray, .bool t66]), _, _, _, _, b70, _, by exact hs.setAt 2 Z, HS, f11, f13, fun _ => Z, f0, f1, f2, f3, f4, f5, f6, f7, f9, f10, d1, c1⟩)))
      | 9, _ =>
       have hb8 : b 8 = true := hd 8 (by decide)
       obtain rfl := f8 hb8
       refine GO.at hs (GO.extract Z Z Z Z (GO.fin (fun a hs => ⟨_, _, _, _, _, _, _, _, _, (.agg [I t64, I t65].toArray), _, _, _, b70, _, by exact hs.setAt 11 Z, HS, f11, f13, f8, f0, f1, f2, f3, f4, f5, f6, f7, fun _ => Z, f10, d1, c1⟩)))
      | 10, _ =>
       have hb8 : b 8 = true := hd 8 (by decide)
       obtain rfl := f8 hb8
       refine GO.at hs (GO.extract Z Z Z Z (GO.fin (fun a hs => ⟨_, _, _, _, _, _, _, _, _, _, (.bool t66), _, _, b70, _, by exact hs.setAt 12 Z, HS, f11, f13, f8, f0, f1, f2, f3, f4, f5, f6, f7, f9, fun _ => Z, d1, c1⟩)))
      | 11, _ =>
       refine GO.at hs (GO.alloc HS Z zr167 Z Z fun b70 wd71 HS => GO.fin (fun a hs => ⟨_, _, _, _, _, _, _, _, _, _, _, (.pointer (some ⟨b70, 0, none⟩)), _, b70, Box b70 167 [I 0, I 0], by exact hs.setAt 0 Z, HS.pk 5 [1, 2, 3, 0] Z, fun _ => Z, f13, f8, f0, f1, f2, f3, f4, f5, f6, f7, f9, f10, fun _ _ => Z, fun hh => (Bool.noConfusion ((hcl 12 (by decide) hh 11 (by decide)).symm.trans hb))⟩))
      | 12, _ =>
       have hb11 : b 11 = true := hd 11 (by decide)
       obtain rfl := f11 hb11
       have hb9 : b 9 = true := hd 9 (by decide)
       obtain rfl := f9 hb9
       obtain rfl := d1 hb11 hb
       refine GO.at hs (sW 3 HS Z ag167 Z fun wd72 HS => GO.fin (fun a hs => ⟨_, _, _, _, _, _, _, _, _, _, _, _, _, b70, Box b70 167 [I t64, I t65], hs, HS, f11, f13, f8, f0, f1, f2, f3, f4, f5, f6, f7, f9, f10, fun _ h => Bool.noConfusion h, fun _ => Z⟩))
      | 13, _ =>
       have hb10 : b 10 = true := hd 10 (by decide)
       obtain rfl := f10 hb10
       refine GO.at hs (aS Z (GO.fin (fun a hs => ⟨_, _, _, _, _, _, _, _, _, _, _, _, (.bool t66), b70, _, by exact hs.setAt 1 Z, HS, f11, fun _ => Z, f8, f0, f1, f2, f3, f4, f5, f6, f7, f9, f10, d1, c1⟩)))
      | k + 14, hj => exact absurd hj (Nat.not_lt.2 (Nat.le_add_left 14 k))
     ·
      intro b a w hall
      refine exI fun k1 => exI fun i1 => exI fun v1 => exI fun n1 => exI fun m1 => exI fun h1 => exI fun g1 => exI fun x1 => exI fun u1 => exI fun q1 => exI fun o1 => exI fun p1 => exI fun t1 => exI fun b70 => exI fun y1 => anI fun hs => anI fun HS => anI fun f11 => anI fun f13 => anI fun f8 => anI fun f0 => anI fun f1 => anI fun f2 => anI fun f3 => anI fun f4 => anI fun f5 => anI fun f6 => anI fun f7 => anI fun f9 => anI fun f10 => anI fun d1 => fun c1 => ?_
      obtain rfl := f11 (hall 11 (by decide))
      obtain rfl := f13 (hall 13 (by decide))
      obtain rfl := f8 (hall 8 (by decide))
      obtain rfl := f0 (hall 0 (by decide))
      obtain rfl := f1 (hall 1 (by decide))
      obtain rfl := f2 (hall 2 (by decide))
      obtain rfl := f3 (hall 3 (by decide))
      obtain rfl := f4 (hall 4 (by decide))
      obtain rfl := f5 (hall 5 (by decide))
      obtain rfl := f6 (hall 6 (by decide))
      obtain rfl := f7 (hall 7 (by decide))
      obtain rfl := f9 (hall 9 (by decide))
      obtain rfl := f10 (hall 10 (by decide))
      obtain rfl := c1 (hall 12 (by decide))
      refine G.at hs (rN 2 Z ?_)
      rcases iS H with ⟨c74, H⟩ | ⟨c74, H⟩
      ·
       refine rG (pS 3 Z (kN 27 Z (congrArg Bool.not (bnot_of c74)) (oF Z (oF Z (oF Z (GO.pickT Z Z Z Z Z (nL (rN 3 Z ?_))))))))
       obtain rfl := sI H
       exact rT _ func142 Z Z ⟨_, _, Z, (HS.pk 4 [2] Z)⟩
      refine rG (pS 3 Z (kN 27 Z (congrArg Bool.not c74) (oN Z (lW 3 HS Z ag167 (bK (oN Z (lW 1 HS Z ag167 (bK (oN Z (GO.eqlA Z Z Z ng167 (fun _ => eq167) Z (bK (GO.pickF Z Z Z Z Z (nL ?_)))))))))))))
      rcases iE H with ⟨c75, H⟩ | ⟨c75, H⟩
      ·
       refine yB Z (tT c75) (rN 2 Z ?_)
       obtain rfl := sI H
       exact rT _ func142 Z Z ⟨_, _, Z, (HS.pk 4 [2] Z)⟩
      refine nB Z (tF c75) (G.skip ?_)
      obtain ⟨c81, H⟩ := iN H
      refine rG (mV Z (lW 3 HS Z ag167 (GO.buildS (el := 167) ([I t64, I t65]) HS Z Z (fun _ => by kernel_rfl) Z fun b76 wd77 HS => GO.app1 (T := T_GFace) (j := 3) (jb := 0) (⟨t64, t65⟩ : GFace) HS Z Z flat_flat Z Z Z U165 inf167 Z Z Z c81 Z fun A79 c80 wd78 HS => aS Z (nL (rN 2 Z (G.weak ?_ (b2 e2 (Nat.lt_succ_of_le (lR _)) (Nat.le_of_succ_le c2) _ _ _ _ H (HS.pk 5 [1, 2, 3] Z))))))))
      exact ⟨Z, Z, Z, tv⟩
  refine G.weak ?_ (g2 K (lR _) _ _ _ _ H (HS.pk 3 [2, 1, 0] Z))
  exact ⟨Z, Z, Z, tv⟩
theorem impl_Triangulation_change32.calls {c1 : List (List GFace)} {o A : Int} {y_a : Nat → (Ty.slice 107 T_GFace).Lay} {r1 : Option (List Int × List (Arr2 × GPlace) × Int × List Arr4)} (HS : St w0 w (L)) (r_a : RdIn w0 L (Ty.slice 107 T_GFace) A_a c_a y_a c1) (H : impl_Triangulation_change32.f K c1 o A = some r1) :
    Calls prog 112 #[.agg [.slice A_a c1.length c_a].toArray, I o, I A] w (impl_Triangulation_change32.post w0 L r1) := by
  unfold impl_Triangulation_change32.f at H
  refine cG func112 Z ?_
  refine sQ (rG (bA HS Z fun b1 wd2 HS => aS Z (nL (sQ ?_))))
  obtain ⟨t3, h4, H⟩ := bI H
  obtain ⟨c9, H⟩ := iN H
  refine rG (lW 0 HS Z ag31 (fJ fok124 Z (impl_Triangulation_edgeClasses.calls HS (rD 1 r_a) h4) (fun _ wd7 ⟨A5, c6, h8, HS⟩ => ⟨_, h8, (pS 4 Z (GO.ix Z Z Z U56 sz2 ((RdIn.own (j := 0) Z) _ HS).2.2.1 c9.1 c9.2 Z (GO.ldRd (T := (TInt .i64)) (n := (w64 ((w64 (6 * o)) + A)).toNat) (o := 0) HS (RdIn.own (j := 0) Z) Z Z (getD_some (d := 0) (ltN c9)) Z Z na2 Z (aS Z (nL (rN 2 Z ?_))))))⟩)))
  obtain ⟨t25, h26, H⟩ := bI H
  obtain ⟨c31, H⟩ := iN H
  rcases iE H with ⟨c32, H⟩ | ⟨c32, H⟩
  ·
   refine rG (lW 1 HS Z ag31 (fJ fok140 Z (impl_Triangulation_reversedEdges.calls HS (rD 2 r_a) h26) (fun _ wd29 ⟨A27, c28, h30, HS⟩ => ⟨_, h30, (mV Z (GO.ix Z Z Z U171 sz4 ((RdIn.own (j := 0) Z) _ HS).2.2.1 c31.1 c31.2 Z (GO.ldRd (T := TBool) (n := (t3.getD ((w64 ((w64 (6 * o)) + A)).toNat) 0).toNat) (o := 0) HS (RdIn.own (j := 0) Z) Z Z (getD_some (d := false) (ltN c31)) Z Z na4 Z (mV Z (kN 31 Z c32 (oF Z (oF Z (oF Z (oF Z (oF Z (GO.pickT Z Z Z Z Z (nL ?_))))))))))))⟩)))
   refine rN 3 Z ?_
   replace HS := HS.emp
   obtain rfl := sI H
   exact rT _ func112 Z Z ⟨0, none, 0, 0, none, 0, Z, (HS.pk 4 [0] Z)⟩
  obtain ⟨t33, h34, H⟩ := bI H
  obtain ⟨c39, H⟩ := iN H
  refine rG (lW 1 HS Z ag31 (fJ fok140 Z (impl_Triangulation_reversedEdges.calls HS (rD 2 r_a) h26) (fun _ wd29 ⟨A27, c28, h30, HS⟩ => ⟨_, h30, (mV Z (GO.ix Z Z Z U171 sz4 ((RdIn.own (j := 0) Z) _ HS).2.2.1 c31.1 c31.2 Z (GO.ldRd (T := TBool) (n := (t3.getD ((w64 ((w64 (6 * o)) + A)).toNat) 0).toNat) (o := 0) HS (RdIn.own (j := 0) Z) Z Z (getD_some (d := false) (ltN c31)) Z Z na4 Z (mV Z (kN 31 Z (bnot_of c32) (oN Z (lW 2 HS Z ag31 (bK (oN Z (fJ fok141 Z (impl_Triangulation_boundaryEdges.calls HS (rD 3 r_a) h34) (fun _ wd37 ⟨A35, c36, h38, HS⟩ => ⟨_, h38, (bK (oN Z ?_))⟩)))))))))))⟩)))
  refine mV Z (bK (oN Z (GO.ix Z Z Z U171 sz4 ((RdIn.own (j := 0) Z) _ HS).2.2.1 c39.1 c39.2 Z (bK (oN Z (GO.ldRd (T := TBool) (n := (t3.getD ((w64 ((w64 (6 * o)) + A)).toNat) 0).toNat) (o := 0) HS (RdIn.own (j := 0) Z) Z Z (getD_some (d := false) (ltN c39)) Z Z na4 Z (bK (GO.pickF Z Z Z Z Z (nL ?_)))))))))
  rcases iE H with ⟨c40, H⟩ | ⟨c40, H⟩
  ·
   refine yB Z c40 (rN 2 Z ?_)
   replace HS := HS.emp
   obtain rfl := sI H
   exact rT _ func112 Z Z ⟨0, none, 0, 0, none, 0, Z, (HS.pk 5 [0] Z)⟩
  refine nB Z (bnot_of c40) (rN 2 Z ?_)
  obtain ⟨t41, h42, H⟩ := bI H
  refine rG (lW 3 HS Z ag31 (mV Z (fJ fok142 Z (impl_Triangulation_ring.calls HS (rD 4 r_a) h42) (fun _ wd45 ⟨A43, c44, h46, HS⟩ => ⟨_, h46, (aS Z (nL (rN 2 Z ?_)))⟩))))
  rcases iS H with ⟨c59, H⟩ | ⟨c59, H⟩
  ·
   refine G.lex mixed [0, 1, 2, 3, 4, 5, 6, 8, 9, 10, 7, 11, 12, 13, 14, 15, 16, 17, 19, 20, 21, 18, 22, 23, 24, 25, 26, 27, 28, 30, 31, 32, 29, 33, 34, 35] (by kernel_rfl) ?_
   replace HS := HS.drew
   refine GX.ps 1 Z (GX.l1 Z Z Z (fun _ g => lS Z Z U165 Z g) Z (GX.ps 1 Z (qL Z Z (fun _ _ g => mV Z (kN 44 Z (nF c59) g)) Z (qL Z Z (fun _ _ g => oF Z g) Z (qL Z Z (fun _ _ g => oF Z g) Z (qL Z Z (fun _ _ g => oF Z g) Z (qL Z Z (fun _ _ g => oF Z g) Z (qL Z Z (fun _ _ g => oF Z g) Z (qL Z Z (fun _ _ g => oF Z g) Z (GX.l1 Z Z Z (fun _ g => oF Z g) Z (GX.l1 Z Z Z (fun _ g => oF Z g) Z (qL Z Z (fun _ _ g => oF Z g) Z (GX.ps 2 Z (qL Z Z (fun _ _ g => oF Z g) Z ?_))))))))))))))
   refine qL Z Z (fun _ _ g => oF Z g) Z (qL Z Z (fun _ _ g => oF Z g) Z (qL Z Z (fun _ _ g => oF Z g) Z (qL Z Z (fun _ _ g => oF Z g) Z (qL Z Z (fun _ _ g => oF Z g) Z (GX.l1 Z Z Z (fun _ g => oF Z g) Z (GX.l1 Z Z Z (fun _ g => oF Z g) Z (qL Z Z (fun _ _ g => oF Z g) Z (GX.ps 2 Z (qL Z Z (fun _ _ g => oF Z g) Z (qL Z Z (fun _ _ g => oF Z g) Z (qL Z Z (fun _ _ g => oF Z g) Z (qL Z Z (fun _ _ g => oF Z g) Z (qL Z Z (fun _ _ g => oF Z g) Z (qL Z Z (fun _ _ g => oF Z g) Z ?_))))))))))))))
   refine GX.l1 Z Z Z (fun _ g => oF Z g) Z (GX.l1 Z Z Z (fun _ g => oF Z g) Z (qL Z Z (fun _ _ g => oF Z g) Z (GX.ps 1 Z (GX.nil (rN 3 Z ?_)))))
   replace HS := HS.emp
   obtain rfl := sI H
   exact rT _ func112 Z Z ⟨0, none, 0, 0, none, 0, Z, (HS.pk 6 [0] Z)⟩
  obtain ⟨c60, H⟩ := iN H
  have h61 := ((RdIn.own (j := 0) Z) _ HS).2.2.1
  obtain ⟨e62, h63, H⟩ := bnd_elim H
  obtain ⟨c64, H⟩ := iN H
  have h65 := ((RdIn.own (j := 0) Z) _ HS).2.2.1
  obtain ⟨e66, h67, H⟩ := bnd_elim H
  rcases iE H with ⟨c68, H⟩ | ⟨c68, H⟩
  ·
   refine G.lex mixed [0, 1, 2, 3, 4, 5, 6, 8, 9, 10, 7, 11, 12, 13, 14, 15, 16, 17, 19, 20, 21, 18, 22, 23, 24, 25, 26, 27, 28, 30, 31, 32, 29, 33, 34, 35] (by kernel_rfl) ?_
   replace HS := HS.drew
   refine GX.ps 1 Z (GX.l1 Z Z Z (fun _ g => lS Z Z U165 Z g) Z (GX.ps 1 Z (qL Z Z (fun _ _ g => mV Z (kN 44 Z (nT c59) g)) Z (qL Z Z (fun _ _ g => oN Z (mV Z (bK g))) Z (qL Z Z (fun _ _ g => oN Z (GO.ix Z Z Z U165 sz167 h61 c60.1 c60.2 Z (bK g))) Z (qL Z Z (fun _ _ g => oN Z (GO.fld (ea A43 (0 * 2)) Z Z fl167_0 Z Z (bK g))) Z (qL Z Z (fun _ _ g => oN Z (mV Z (bK g))) Z (qL Z Z (fun _ _ g => oN Z (GO.ix Z Z Z U165 sz167 h65 c64.1 c64.2 Z (bK g))) Z (qL Z Z (fun _ _ g => oN Z (GO.fld (ea A43 (1 * 2)) Z Z fl167_0 Z Z (bK g))) Z (GX.l1 Z Z Z (fun _ g => oN Z (GO.ldRd (T := T_GFace) (n := 0) (o := 0) HS (RdIn.own (j := 0) Z) Z Z (getD_eq (ltN c60) h63) Z Z na2 Z (bK g))) Z (GX.l1 Z Z Z (fun _ g => oN Z (GO.ldRd (T := T_GFace) (n := 1) (o := 0) HS (RdIn.own (j := 0) Z) Z Z (getD_eq (ltN c64) h67) Z Z na2 Z (bK g))) Z (qL Z Z (fun _ _ g => oN Z (GO.eql Z Z Z Z (bK g))) Z (GX.ps 1 Z (qL Z Z (fun _ _ g => mV Z (kN 55 Z (tT c68) g)) Z ?_))))))))))))))
   refine qL Z Z (fun _ _ g => oF Z g) Z (qL Z Z (fun _ _ g => oF Z g) Z (qL Z Z (fun _ _ g => oF Z g) Z (qL Z Z (fun _ _ g => oF Z g) Z (qL Z Z (fun _ _ g => oF Z g) Z (qL Z Z (fun _ _ g => oF Z g) Z (GX.l1 Z Z Z (fun _ g => oF Z g) Z (GX.l1 Z Z Z (fun _ g => oF Z g) Z (qL Z Z (fun _ _ g => oF Z g) Z (GX.ps 2 Z (qL Z Z (fun _ _ g => oF Z g) Z (qL Z Z (fun _ _ g => oF Z g) Z (qL Z Z (fun _ _ g => oF Z g) Z (qL Z Z (fun _ _ g => oF Z g) Z (qL Z Z (fun _ _ g => oF Z g) Z ?_))))))))))))))
   refine qL Z Z (fun _ _ g => oF Z g) Z (GX.l1 Z Z Z (fun _ g => oF Z g) Z (GX.l1 Z Z Z (fun _ g => oF Z g) Z (qL Z Z (fun _ _ g => oF Z g) Z (GX.ps 1 Z (GX.nil (rN 3 Z ?_))))))
   replace HS := HS.emp
   obtain rfl := sI H
   exact rT _ func112 Z Z ⟨0, none, 0, 0, none, 0, Z, (HS.pk 6 [0] Z)⟩
  obtain ⟨c69, H⟩ := iN H
  obtain ⟨e70, h71, H⟩ := bnd_elim H
  rcases iE H with ⟨c72, H⟩ | ⟨c72, H⟩
  ·
   refine G.lex mixed [0, 1, 2, 3, 4, 5, 6, 8, 9, 10, 7, 11, 12, 13, 14, 15, 16, 17, 19, 20, 21, 18, 22, 23, 24, 25, 26, 27, 28, 30, 31, 32, 29, 33, 34, 35] (by kernel_rfl) ?_
   replace HS := HS.drew
   refine GX.ps 1 Z (GX.l1 Z Z Z (fun _ g => lS Z Z U165 Z g) Z (GX.ps 1 Z (qL Z Z (fun _ _ g => mV Z (kN 44 Z (nT c59) g)) Z (qL Z Z (fun _ _ g => oN Z (mV Z (bK g))) Z (qL Z Z (fun _ _ g => oN Z (GO.ix Z Z Z U165 sz167 h61 c60.1 c60.2 Z (bK g))) Z (qL Z Z (fun _ _ g => oN Z (GO.fld (ea A43 (0 * 2)) Z Z fl167_0 Z Z (bK g))) Z (qL Z Z (fun _ _ g => oN Z (mV Z (bK g))) Z (qL Z Z (fun _ _ g => oN Z (GO.ix Z Z Z U165 sz167 h65 c64.1 c64.2 Z (bK g))) Z (qL Z Z (fun _ _ g => oN Z (GO.fld (ea A43 (1 * 2)) Z Z fl167_0 Z Z (bK g))) Z (GX.l1 Z Z Z (fun _ g => oN Z (GO.ldRd (T := T_GFace) (n := 0) (o := 0) HS (RdIn.own (j := 0) Z) Z Z (getD_eq (ltN c60) h63) Z Z na2 Z (bK g))) Z (GX.l1 Z Z Z (fun _ g => oN Z (GO.ldRd (T := T_GFace) (n := 1) (o := 0) HS (RdIn.own (j := 0) Z) Z Z (getD_eq (ltN c64) h67) Z Z na2 Z (bK g))) Z (qL Z Z (fun _ _ g => oN Z (GO.eql Z Z Z Z (bK g))) Z (GX.ps 1 Z (qL Z Z (fun _ _ g => mV Z (kN 55 Z (tF c68) g)) Z ?_))))))))))))))
   refine qL Z Z (fun _ _ g => oN Z (mV Z (bK g))) Z (qL Z Z (fun _ _ g => oN Z (GO.ix Z Z Z U165 sz167 ((RdIn.own (j := 0) Z) _ HS).2.2.1 c64.1 c64.2 Z (bK g))) Z (qL Z Z (fun _ _ g => oN Z (GO.fld (ea A43 (1 * 2)) Z Z fl167_0 Z Z (bK g))) Z (qL Z Z (fun _ _ g => oN Z (mV Z (bK g))) Z (qL Z Z (fun _ _ g => oN Z (GO.ix Z Z Z U165 sz167 ((RdIn.own (j := 0) Z) _ HS).2.2.1 c69.1 c69.2 Z (bK g))) Z (qL Z Z (fun _ _ g => oN Z (GO.fld (ea A43 (2 * 2)) Z Z fl167_0 Z Z (bK g))) Z (GX.l1 Z Z Z (fun _ g => oN Z (GO.ldRd (T := T_GFace) (n := 1) (o := 0) HS (RdIn.own (j := 0) Z) Z Z (getD_eq (ltN c64) h67) Z Z na2 Z (bK g))) Z (GX.l1 Z Z Z (fun _ g => oN Z (GO.ldRd (T := T_GFace) (n := 2) (o := 0) HS (RdIn.own (j := 0) Z) Z Z (getD_eq (ltN c69) h71) Z Z na2 Z (bK g))) Z (qL Z Z (fun _ _ g => oN Z (GO.eql Z Z Z Z (bK g))) Z (GX.ps 1 Z (qL Z Z (fun _ _ g => mV Z (kN 66 Z (tT c72) g)) Z (qL Z Z (fun _ _ g => oF Z g) Z (qL Z Z (fun _ _ g => oF Z g) Z (qL Z Z (fun _ _ g => oF Z g) Z (qL Z Z (fun _ _ g => oF Z g) Z ?_))))))))))))))
   refine qL Z Z (fun _ _ g => oF Z g) Z (qL Z Z (fun _ _ g => oF Z g) Z (GX.l1 Z Z Z (fun _ g => oF Z g) Z (GX.l1 Z Z Z (fun _ g => oF Z g) Z (qL Z Z (fun _ _ g => oF Z g) Z (GX.ps 1 Z (GX.nil (rN 3 Z ?_)))))))
   replace HS := HS.emp
   obtain rfl := sI H
   exact rT _ func112 Z Z ⟨0, none, 0, 0, none, 0, Z, (HS.pk 6 [0] Z)⟩
  refine G.lex mixed [0, 1, 2, 3, 4, 5, 6, 8, 9, 10, 7, 11, 12, 13, 14, 15, 16, 17, 19, 20, 21, 18, 22, 23, 24, 25, 26, 27, 28, 30, 31, 32, 29, 33, 34, 35] (by kernel_rfl) ?_
  replace HS := HS.drew
  refine GX.ps 1 Z (GX.l1 Z Z Z (fun _ g => lS Z Z U165 Z g) Z (GX.ps 1 Z (qL Z Z (fun _ _ g => mV Z (kN 44 Z (nT c59) g)) Z (qL Z Z (fun _ _ g => oN Z (mV Z (bK g))) Z (qL Z Z (fun _ _ g => oN Z (GO.ix Z Z Z U165 sz167 h61 c60.1 c60.2 Z (bK g))) Z (qL Z Z (fun _ _ g => oN Z (GO.fld (ea A43 (0 * 2)) Z Z fl167_0 Z Z (bK g))) Z (qL Z Z (fun _ _ g => oN Z (mV Z (bK g))) Z (qL Z Z (fun _ _ g => oN Z (GO.ix Z Z Z U165 sz167 h65 c64.1 c64.2 Z (bK g))) Z (qL Z Z (fun _ _ g => oN Z (GO.fld (ea A43 (1 * 2)) Z Z fl167_0 Z Z (bK g))) Z (GX.l1 Z Z Z (fun _ g => oN Z (GO.ldRd (T := T_GFace) (n := 0) (o := 0) HS (RdIn.own (j := 0) Z) Z Z (getD_eq (ltN c60) h63) Z Z na2 Z (bK g))) Z (GX.l1 Z Z Z (fun _ g => oN Z (GO.ldRd (T := T_GFace) (n := 1) (o := 0) HS (RdIn.own (j := 0) Z) Z Z (getD_eq (ltN c64) h67) Z Z na2 Z (bK g))) Z (qL Z Z (fun _ _ g => oN Z (GO.eql Z Z Z Z (bK g))) Z (GX.ps 1 Z (qL Z Z (fun _ _ g => mV Z (kN 55 Z (tF c68) g)) Z ?_))))))))))))))
  refine qL Z Z (fun _ _ g => oN Z (mV Z (bK g))) Z (qL Z Z (fun _ _ g => oN Z (GO.ix Z Z Z U165 sz167 ((RdIn.own (j := 0) Z) _ HS).2.2.1 c64.1 c64.2 Z (bK g))) Z (qL Z Z (fun _ _ g => oN Z (GO.fld (ea A43 (1 * 2)) Z Z fl167_0 Z Z (bK g))) Z (qL Z Z (fun _ _ g => oN Z (mV Z (bK g))) Z (qL Z Z (fun _ _ g => oN Z (GO.ix Z Z Z U165 sz167 ((RdIn.own (j := 0) Z) _ HS).2.2.1 c69.1 c69.2 Z (bK g))) Z (qL Z Z (fun _ _ g => oN Z (GO.fld (ea A43 (2 * 2)) Z Z fl167_0 Z Z (bK g))) Z (GX.l1 Z Z Z (fun _ g => oN Z (GO.ldRd (T := T_GFace) (n := 1) (o := 0) HS (RdIn.own (j := 0) Z) Z Z (getD_eq (ltN c64) h67) Z Z na2 Z (bK g))) Z (GX.l1 Z Z Z (fun _ g => oN Z (GO.ldRd (T := T_GFace) (n := 2) (o := 0) HS (RdIn.own (j := 0) Z) Z Z (getD_eq (ltN c69) h71) Z Z na2 Z (bK g))) Z (qL Z Z (fun _ _ g => oN Z (GO.eql Z Z Z Z (bK g))) Z (GX.ps 1 Z (qL Z Z (fun _ _ g => mV Z (kN 66 Z (tF c72) g)) Z (qL Z Z (fun _ _ g => oN Z (mV Z (bK g))) Z (qL Z Z (fun _ _ g => oN Z (GO.ix Z Z Z U165 sz167 ((RdIn.own (j := 0) Z) _ HS).2.2.1 c69.1 c69.2 Z (bK g))) Z (qL Z Z (fun _ _ g => oN Z (GO.fld (ea A43 (2 * 2)) Z Z fl167_0 Z Z (bK g))) Z (qL Z Z (fun _ _ g => oN Z (mV Z (bK g))) Z ?_))))))))))))))
  refine qL Z Z (fun _ _ g => oN Z (GO.ix Z Z Z U165 sz167 ((RdIn.own (j := 0) Z) _ HS).2.2.1 c60.1 c60.2 Z (bK g))) Z (qL Z Z (fun _ _ g => oN Z (GO.fld (ea A43 (0 * 2)) Z Z fl167_0 Z Z (bK g))) Z (GX.l1 Z Z Z (fun _ g => oN Z (GO.ldRd (T := T_GFace) (n := 2) (o := 0) HS (RdIn.own (j := 0) Z) Z Z (getD_eq (ltN c69) h71) Z Z na2 Z (bK g))) Z (GX.l1 Z Z Z (fun _ g => oN Z (GO.ldRd (T := T_GFace) (n := 0) (o := 0) HS (RdIn.own (j := 0) Z) Z Z (getD_eq (ltN c60) h63) Z Z na2 Z (bK g))) Z (qL Z Z (fun _ _ g => oN Z (GO.eql Z Z Z Z (bK g))) Z (GX.ps 1 Z (GX.nil ?_))))))
  rcases iE H with ⟨c73, H⟩ | ⟨c73, H⟩
  ·
   refine yB Z (tT c73) (rN 2 Z ?_)
   replace HS := HS.emp
   obtain rfl := sI H
   exact rT _ func112 Z Z ⟨0, none, 0, 0, none, 0, Z, (HS.pk 6 [0] Z)⟩
  refine nB Z (tF c73) (rN 2 Z ?_)
  have h74 := ((RdIn.own (j := 0) Z) _ HS).2.2.1
  have h75 := ((RdIn.own (j := 0) Z) _ HS).2.2.1
  have h76 := ((RdIn.own (j := 0) Z) _ HS).2.2.1
  obtain ⟨t79, t80, t81, t82, h83, H⟩ := bind4_elim H
  refine G.lex mixed [0, 1, 2, 4, 5, 6, 8, 9, 10, 3, 7, 11, 12, 13, 14] (by kernel_rfl) ?_
  replace HS := HS.drew
  refine GX.ps 1 Z (qL Z Z (fun _ _ g => GO.ix Z Z Z U165 sz167 h74 c60.1 c60.2 Z g) Z (qL Z Z (fun _ _ g => GO.fld (ea A43 (0 * 2)) Z Z fl167_0 Z Z g) Z (GX.ps 1 Z (qL Z Z (fun _ _ g => GO.ix Z Z Z U165 sz167 h75 c64.1 c64.2 Z g) Z (qL Z Z (fun _ _ g => GO.fld (ea A43 (1 * 2)) Z Z fl167_0 Z Z g) Z (GX.ps 1 Z (qL Z Z (fun _ _ g => GO.ix Z Z Z U165 sz167 h76 c69.1 c69.2 Z g) Z (qL Z Z (fun _ _ g => GO.fld (ea A43 (2 * 2)) Z Z fl167_0 Z Z g) Z (GX.l1 Z Z Z (fun _ g => GO.ldRd (T := T_GFace) (n := 0) (o := 0) HS (RdIn.own (j := 0) Z) Z Z (getD_eq (ltN c60) h63) Z Z na2 Z g) Z (GX.l1 Z Z Z (fun _ g => GO.ldRd (T := T_GFace) (n := 1) (o := 0) HS (RdIn.own (j := 0) Z) Z Z (getD_eq (ltN c64) h67) Z Z na2 Z g) Z (GX.l1 Z Z Z (fun _ g => GO.ldRd (T := T_GFace) (n := 2) (o := 0) HS (RdIn.own (j := 0) Z) Z Z (getD_eq (ltN c69) h71) Z Z na2 Z g) Z (GX.l2 Z (GO.buildS (el := 2) ([I e62.Tet, I e66.Tet, I e70.Tet]) HS Z Z (fun _ => by kernel_rfl) Z fun b77 wd78 HS => GX.fin tv ?_)))))))))))))
  refine GX.l2 Z ?_
  replace HS := HS.boxRow (T := (TInt .i64)) (j := 0) Z flat_flat (fun _ => ()) ([e62.Tet, e66.Tet, e70.Tet] : List Int) Z (bndL Z)
  refine GO.lenC (t := 89) (m := ([e62.Tet, e66.Tet, e70.Tet] : List Int).length) (c' := ([e62.Tet, e66.Tet, e70.Tet] : List Int).length) Z Z Z ?_
  replace HS := HS.pk 6 [0, 1, 2, 3, 4, 5] Z
  refine fJ fok136 Z (impl_newChange.calls HS  h83) (fun _ wd90 ⟨b84, A85, c86, b87, A88, c89, h91, HS⟩ => ⟨_, h91, (GX.fin tv (GX.ps 1 Z (GX.nil (rN 2 Z (rG (mV Z (lS Z Z U165 Z (mV Z (nL (rN 2 Z ?_))))))))))⟩)
  refine G.name (fun h1 i1 => ?_)
  have f1 : ∀ a1, a1 ≤ K → ∀ (x133 : List (Arr2 × GPlace)) (x134 : Int) (w : World), impl_Triangulation_change32.l1 K a1 t41 t79 t81 t82 x133 x134 = some r1 → St w0 w (Box b84 104 [.slice A85 t79.length c86, .map (some b87), I t81, .slice A88 t82.length c89] :: Own (TInt .i64) 2 A85 c86 (fun _ => ()) t79 :: MapG b87 ke_Arr2 ke_GPlace x133 :: Own T_Arr4 131 A88 c89 (fun _ => ()) t82 :: Own T_GFace 167 A43 c44 (fun _ => ()) t41 :: L) → G prog 112 162 [(9, .pointer (some ⟨b84, 0, none⟩)), (91, .slice A43 t41.length c44), (92, I (t41.length : Int)), (93, I x134)] h1 w (impl_Triangulation_change32.post w0 L r1) := by
   intro a1
   induction a1 using Nat.strongRecOn with
   | _ a1 d1 =>
    intro g1 x133 x134 w H HS
    cases a1 with
    | zero => rw [impl_Triangulation_change32.l1] at H; cases H
    | succ e1 =>
     rw [impl_Triangulation_change32.l1] at H
     subst i1
     refine rN 3 Z ?_
     rcases iS H with ⟨c179, H⟩ | ⟨c179, H⟩
     ·
      refine nB Z (tF c179) (rN 2 Z (rG (mV Z (GO.buildV (.agg [I 0, I 0, I 1, I 0].toArray) Z Z (fun _ => by kernel_rfl) Z (GO.buildS (el := 131) ([I 0, I 0, I 1, I 0]) HS Z Z (fun _ => by kernel_rfl) Z fun b220 wd221 HS => GO.nilP Z Z Z (fL b84 3 fl104_3 Z ?_))))))
      replace HS := HS.boxRow (T := T_Arr4) (j := 0) Z flat_flat (fun _ => ()) ([(⟨0, 0, 1, 0⟩ : Arr4)] : List Arr4) Z (bndL Z)
      refine GO.lenC (t := 158) (m := ([(⟨0, 0, 1, 0⟩ : Arr4)] : List Arr4).length) (c' := ([(⟨0, 0, 1, 0⟩ : Arr4)] : List Arr4).length) Z Z Z (GO.stBox (j := 1) (vs := [.slice (some ⟨b220, 0, none⟩) ([(⟨0, 0, 1, 0⟩ : Arr4)] : List Arr4).length (([(⟨0, 0, 1, 0⟩ : Arr4)] : List Arr4).length)]) ([.slice A85 t79.length c86, .map (some b87), I t81, .slice (some ⟨b220, 0, none⟩) ([(⟨0, 0, 1, 0⟩ : Arr4)] : List Arr4).length (([(⟨0, 0, 1, 0⟩ : Arr4)] : List Arr4).length)]) HS Z Z Z Z Z (htN na102 Z) Z Z Z fun wd222 HS => nL (rN 2 Z ?_))
      replace HS := HS.pk 6 [1, 2, 3, 0, 4, 5] Z
      replace HS := St.opt (F := (fun x => [Box b84 104 [.slice A85 x.1.length c86, .map (some b87), I x.2.2.1, .slice (some ⟨b220, 0, none⟩) x.2.2.2.length ([(⟨0, 0, 1, 0⟩ : Arr4)] : List Arr4).length], Own (TInt .i64) 2 A85 c86 (fun _ => ()) x.1, MapG b87 ke_Arr2 ke_GPlace x.2.1, Own T_Arr4 131 (some ⟨b220, 0, none⟩) ([(⟨0, 0, 1, 0⟩ : Arr4)] : List Arr4).length (fun _ => ()) x.2.2.2])) (t79, x133, t81, ([(⟨0, 0, 1, 0⟩ : Arr4)] : List Arr4)) HS Z
      obtain rfl := sI H
      exact rT _ func112 Z Z ⟨_, _, _, _, _, _, Z, (HS.pk 3 [0] Z)⟩
     refine yB Z (tT c179) (rN 4 Z ?_)
     obtain ⟨c180, H⟩ := iN H
     obtain ⟨e181, h182, H⟩ := bnd_elim H
     refine rG (mV Z (GO.ix Z Z Z U165 sz167 ((RdIn.own (j := 4) Z) _ HS).2.2.1 c180.1 c180.2 Z (GO.ldRdA (T := T_GFace) (n := x134.toNat) HS (RdIn.own (j := 4) Z) Z Z (getD_eq (ltN c180) h182) ag167 Z (GO.alloc HS Z zr167 Z Z fun b183 wd184 HS => aS Z (sW 0 HS Z ag167 Z fun wd185 HS => nL (sQ ?_))))))
     obtain ⟨t186, t187, t188, t189, h190, H⟩ := bind4_elim H
     refine rG (fL b183 1 fl167_1 Z (lB 0 HS Z na2 Z (fJ fok93 Z (impl_perm.calls HS  h190) (fun _ wd191 ⟨h192, HS⟩ => ⟨_, h192, (GO.alloc HS Z zr131 Z Z fun b193 wd194 HS => sW 0 HS Z ag131 Z fun wd195 HS => nL (sQ (rG (pS 4 Z (GO.rem Z Z Z (by decide) Z (pS 3 Z (GO.rem Z Z Z (by decide) Z (pS 4 Z (nL ?_)))))))))⟩))))
     refine sQ (rG (GO.alloc HS Z zr131 Z Z fun b196 wd197 HS => GO.alloc HS Z zr131 Z Z fun b198 wd199 HS => nL (sQ ?_)))
     obtain ⟨c200, H⟩ := iN H
     obtain ⟨c202, H⟩ := iN H
     obtain ⟨c204, H⟩ := iN H
     obtain ⟨c206, H⟩ := iN H
     refine G.lexS mixed (fun w => St w0 w (Box b193 131 [I t186, I t187, I t188, I t189] :: L)) [1, 3, 5, 7] [0, 2, 4, 6, 8, 9, 10, 1, 11, 3, 5, 7, 12, 13, 14, 15, 16, 17, 18] [] (by kernel_rfl) (by kernel_rfl) (HS.drew.pk 9 [2] Z) ?_
     replace HS := HS.drew
     refine qL Z Z (fun _ _ g => GO.ixP 0 Z Z Z Z U131 sz2 Z Z g) Z (qL Z Z (fun _ _ g => GO.ixP 1 Z Z Z Z U131 sz2 Z Z g) Z (qL Z Z (fun _ _ g => GO.ixP 2 Z Z Z Z U131 sz2 Z Z g) Z (qL Z Z (fun _ _ g => GO.ixP 3 Z Z Z Z U131 sz2 Z Z g) Z (GX.ps 3 Z (GX.ls Z Z Z (HS.pk 9 [2] Z) (fun _ HS _ g => lB 0 HS Z na2 Z g) Z (qL Z Z (fun _ _ g => GO.ixW Z Z Z U131 sz2 c200 Z g) Z (GX.ls Z Z Z (HS.pk 9 [2] Z) (fun _ HS _ g => lB 0 HS Z na2 Z g) Z (GX.ls Z Z Z (HS.pk 9 [2] Z) (fun _ HS _ g => lB 0 HS Z na2 Z g) Z (GX.ls Z Z Z (HS.pk 9 [2] Z) (fun _ HS _ g => lB 0 HS Z na2 Z g) Z (GX.l2 Z (GO.stW (j := 1) (o := 0) (sz := 1) (vs := [I 0]) (fun u_ => [I (se 0 u_ 0 0), I (se 1 u_ 0 0), I (se 2 u_ 0 0), I (se 3 u_ 0 0)]) HS Z Z Z Z Z c200 (htN na2 Z) Z Z (four Z Z Z Z) fun wd201 HS => GX.fin (HS.pk 9 [2] Z) (qL Z Z (fun _ _ g => GO.ixW Z Z Z U131 sz2 c202 Z g) Z (GX.l2 Z ?_)))))))))))))
     refine GO.stW (j := 1) (o := 0) (sz := 1) (vs := [I (w64 (1 + ((w64 (x134 + 2)).tmod 3)))]) (fun u_ => [I (se 0 u_ (w64 (1 + ((w64 (x134 + 2)).tmod 3))) (se 0 t186 0 0)), I (se 1 u_ (w64 (1 + ((w64 (x134 + 2)).tmod 3))) (se 1 t186 0 0)), I (se 2 u_ (w64 (1 + ((w64 (x134 + 2)).tmod 3))) (se 2 t186 0 0)), I (se 3 u_ (w64 (1 + ((w64 (x134 + 2)).tmod 3))) (se 3 t186 0 0))]) HS Z Z Z Z Z c202 (htN na2 Z) Z Z (four Z Z Z Z) fun wd203 HS => GX.fin (HS.pk 9 [2] Z) (qL Z Z (fun _ _ g => GO.ixW Z Z Z U131 sz2 c204 Z g) Z (GX.l2 Z (GO.stW (j := 1) (o := 0) (sz := 1) (vs := [I (w64 (1 + x134))]) (fun u_ => [I (se 0 u_ (w64 (1 + x134)) (se 0 t187 (w64 (1 + ((w64 (x134 + 2)).tmod 3))) (se 0 t186 0 0))), I (se 1 u_ (w64 (1 + x134)) (se 1 t187 (w64 (1 + ((w64 (x134 + 2)).tmod 3))) (se 1 t186 0 0))), I (se 2 u_ (w64 (1 + x134)) (se 2 t187 (w64 (1 + ((w64 (x134 + 2)).tmod 3))) (se 2 t186 0 0))), I (se 3 u_ (w64 (1 + x134)) (se 3 t187 (w64 (1 + ((w64 (x134 + 2)).tmod 3))) (se 3 t186 0 0)))]) HS Z Z Z Z Z c204 (htN na2 Z) Z Z (four Z Z Z Z) fun wd205 HS => GX.fin (HS.pk 9 [2] Z) (qL Z Z (fun _ _ g => GO.ixW Z Z Z U131 sz2 c206 Z g) Z (GX.l2 Z (GO.stW (j := 1) (o := 0) (sz := 1) (vs := [I (w64 (1 + ((w64 (x134 + 1)).tmod 3)))]) (fun u_ => [I (se 0 u_ (w64 (1 + ((w64 (x134 + 1)).tmod 3))) (se 0 t188 (w64 (1 + x134)) (se 0 t187 (w64 (1 + ((w64 (x134 + 2)).tmod 3))) (se 0 t186 0 0)))), I (se 1 u_ (w64 (1 + ((w64 (x134 + 1)).tmod 3))) (se 1 t188 (w64 (1 + x134)) (se 1 t187 (w64 (1 + ((w64 (x134 + 2)).tmod 3))) (se 1 t186 0 0)))), I (se 2 u_ (w64 (1 + ((w64 (x134 + 1)).tmod 3))) (se 2 t188 (w64 (1 + x134)) (se 2 t187 (w64 (1 + ((w64 (x134 + 2)).tmod 3))) (se 2 t186 0 0)))), I (se 3 u_ (w64 (1 + ((w64 (x134 + 1)).tmod 3))) (se 3 t188 (w64 (1 + x134)) (se 3 t187 (w64 (1 + ((w64 (x134 + 2)).tmod 3))) (se 3 t186 0 0))))]) HS Z Z Z Z Z c206 (htN na2 Z) Z Z (four Z Z Z Z) fun wd207 HS => GX.fin (HS.pk 9 [2] Z) (GX.nil (sQ (G.lexS mixed (fun w => St w0 w (Box b193 131 [I t186, I t187, I t188, I t189] :: L)) [1, 3, 5, 7] [0, 2, 4, 6, 8, 9, 10, 1, 11, 3, 5, 7, 12, 13, 14, 15, 16, 17, 18] [] (by kernel_rfl) (by kernel_rfl) (HS.drew.pk 9 [2] Z) ?_)))))))))
     replace HS := HS.drew
     refine qL Z Z (fun _ _ g => GO.ixP 0 Z Z Z Z U131 sz2 Z Z g) Z (qL Z Z (fun _ _ g => GO.ixP 1 Z Z Z Z U131 sz2 Z Z g) Z (qL Z Z (fun _ _ g => GO.ixP 2 Z Z Z Z U131 sz2 Z Z g) Z (qL Z Z (fun _ _ g => GO.ixP 3 Z Z Z Z U131 sz2 Z Z g) Z (GX.ps 3 Z (GX.ls Z Z Z (HS.pk 9 [2] Z) (fun _ HS _ g => lB 0 HS Z na2 Z g) Z (qL Z Z (fun _ _ g => GO.ixW Z Z Z U131 sz2 c200 Z g) Z (GX.ls Z Z Z (HS.pk 9 [2] Z) (fun _ HS _ g => lB 0 HS Z na2 Z g) Z (GX.ls Z Z Z (HS.pk 9 [2] Z) (fun _ HS _ g => lB 0 HS Z na2 Z g) Z (GX.ls Z Z Z (HS.pk 9 [2] Z) (fun _ HS _ g => lB 0 HS Z na2 Z g) Z (GX.l2 Z (GO.stW (j := 0) (o := 0) (sz := 1) (vs := [I (w64 (1 + ((w64 (x134 + 2)).tmod 3)))]) (fun u_ => [I (se 0 u_ (w64 (1 + ((w64 (x134 + 2)).tmod 3))) 0), I (se 1 u_ (w64 (1 + ((w64 (x134 + 2)).tmod 3))) 0), I (se 2 u_ (w64 (1 + ((w64 (x134 + 2)).tmod 3))) 0), I (se 3 u_ (w64 (1 + ((w64 (x134 + 2)).tmod 3))) 0)]) HS Z Z Z Z Z c200 (htN na2 Z) Z Z (four Z Z Z Z) fun wd208 HS => GX.fin (HS.pk 9 [2] Z) (qL Z Z (fun _ _ g => GO.ixW Z Z Z U131 sz2 c202 Z g) Z (GX.l2 Z ?_)))))))))))))
     refine GO.stW (j := 0) (o := 0) (sz := 1) (vs := [I 0]) (fun u_ => [I (se 0 u_ 0 (se 0 t186 (w64 (1 + ((w64 (x134 + 2)).tmod 3))) 0)), I (se 1 u_ 0 (se 1 t186 (w64 (1 + ((w64 (x134 + 2)).tmod 3))) 0)), I (se 2 u_ 0 (se 2 t186 (w64 (1 + ((w64 (x134 + 2)).tmod 3))) 0)), I (se 3 u_ 0 (se 3 t186 (w64 (1 + ((w64 (x134 + 2)).tmod 3))) 0))]) HS Z Z Z Z Z c202 (htN na2 Z) Z Z (four Z Z Z Z) fun wd209 HS => GX.fin (HS.pk 9 [2] Z) (qL Z Z (fun _ _ g => GO.ixW Z Z Z U131 sz2 c204 Z g) Z (GX.l2 Z (GO.stW (j := 0) (o := 0) (sz := 1) (vs := [I (w64 (1 + x134))]) (fun u_ => [I (se 0 u_ (w64 (1 + x134)) (se 0 t187 0 (se 0 t186 (w64 (1 + ((w64 (x134 + 2)).tmod 3))) 0))), I (se 1 u_ (w64 (1 + x134)) (se 1 t187 0 (se 1 t186 (w64 (1 + ((w64 (x134 + 2)).tmod 3))) 0))), I (se 2 u_ (w64 (1 + x134)) (se 2 t187 0 (se 2 t186 (w64 (1 + ((w64 (x134 + 2)).tmod 3))) 0))), I (se 3 u_ (w64 (1 + x134)) (se 3 t187 0 (se 3 t186 (w64 (1 + ((w64 (x134 + 2)).tmod 3))) 0)))]) HS Z Z Z Z Z c204 (htN na2 Z) Z Z (four Z Z Z Z) fun wd210 HS => GX.fin (HS.pk 9 [2] Z) (qL Z Z (fun _ _ g => GO.ixW Z Z Z U131 sz2 c206 Z g) Z (GX.l2 Z (GO.stW (j := 0) (o := 0) (sz := 1) (vs := [I (w64 (1 + ((w64 (x134 + 1)).tmod 3)))]) (fun u_ => [I (se 0 u_ (w64 (1 + ((w64 (x134 + 1)).tmod 3))) (se 0 t188 (w64 (1 + x134)) (se 0 t187 0 (se 0 t186 (w64 (1 + ((w64 (x134 + 2)).tmod 3))) 0)))), I (se 1 u_ (w64 (1 + ((w64 (x134 + 1)).tmod 3))) (se 1 t188 (w64 (1 + x134)) (se 1 t187 0 (se 1 t186 (w64 (1 + ((w64 (x134 + 2)).tmod 3))) 0)))), I (se 2 u_ (w64 (1 + ((w64 (x134 + 1)).tmod 3))) (se 2 t188 (w64 (1 + x134)) (se 2 t187 0 (se 2 t186 (w64 (1 + ((w64 (x134 + 2)).tmod 3))) 0)))), I (se 3 u_ (w64 (1 + ((w64 (x134 + 1)).tmod 3))) (se 3 t188 (w64 (1 + x134)) (se 3 t187 0 (se 3 t186 (w64 (1 + ((w64 (x134 + 2)).tmod 3))) 0))))]) HS Z Z Z Z Z c206 (htN na2 Z) Z Z (four Z Z Z Z) fun wd211 HS => GX.fin (HS.pk 9 [2] Z) (GX.nil (sQ ?_))))))))
     obtain ⟨t212, h213, H⟩ := bI H
     refine rG (mV Z (fL b183 0 fl167_0 Z (lB 3 HS Z na2 Z (GO.ixP 1 Z Z Z Z U131 sz2 Z Z (lB 2 HS Z na2 Z (lW 1 HS Z ag131 ?_))))))
     replace HS := HS.pk 9 [4, 6, 0, 1, 2, 3, 5, 7, 8] Z
     refine fJ fok138 Z (impl_change_put.calls HS (RdIn.own (j := 4) Z) (RdIn.own (j := 5) Z) h213) (fun _ wd214 ⟨h215, HS⟩ => ⟨_, h215, (nL ?_)⟩)
     obtain ⟨t216, h217, H⟩ := bI H
     refine rG (mV Z (fL b183 0 fl167_0 Z (lB 5 HS Z na2 Z (GO.ixP 0 Z Z Z Z U131 sz2 Z Z (lB 4 HS Z na2 Z (lW 2 HS Z ag131 ?_))))))
     replace HS := HS.pk 9 [0, 1, 2, 3, 4, 5, 6, 7, 8] Z
     refine fJ fok138 Z (impl_change_put.calls HS (RdIn.own (j := 4) Z) (RdIn.own (j := 5) Z) h217) (fun _ wd218 ⟨h219, HS⟩ => ⟨_, h219, (nL (rN 3 Z (G.weak ?_ (d1 e1 (Nat.lt_succ_of_le (lR _)) (Nat.le_of_succ_le g1) _ _ _ H (HS.pk 9 [0, 6, 1, 7, 8] Z)))))⟩)
     exact ⟨Z, Z, Z, Z, tv⟩
  refine G.weak ?_ (f1 K (lR _) _ _ _ H (HS.pk 9 [0, 1, 2, 3, 4] Z))
  exact ⟨Z, Z, Z, Z, tv⟩
theorem impl_change14.calls {tet : Int} {r1 : List Int} {r2 : List (Arr2 × GPlace)} {r3 : Int} {r4 : List Arr4} (HS : St w0 w (L)) (H : impl_change14.f K tet = some (r1, r2, r3, r4)) :
    Calls prog 113 #[I tet] w (impl_change14.post w0 L r1 r2 r3 r4) := by
  unfold impl_change14.f at H
  refine cG func113 Z ?_
  refine rN 3 Z ?_
  obtain ⟨t3, t4, t5, t6, h7, H⟩ := bind4_elim H
  refine rG (mV Z (GO.buildS (el := 2) ([I tet]) HS Z Z (fun _ => by kernel_rfl) Z fun b1 wd2 HS => ?_))
  replace HS := HS.boxRow (T := (TInt .i64)) (j := 0) Z flat_flat (fun _ => ()) ([tet] : List Int) Z (bndL Z)
  refine GO.lenC (t := 7) (m := ([tet] : List Int).length) (c' := ([tet] : List Int).length) Z Z Z ?_
  replace HS := HS.pk 1 [0] Z
  refine fJ fok136 Z (impl_newChange.calls HS  h7) (fun _ wd14 ⟨b8, A9, c10, b11, A12, c13, h15, HS⟩ => ⟨_, h15, (aS Z (nL (rN 5 Z ?_)))⟩)
  refine G.name (fun k1 s1 => ?_)
  have q1 : ∀ c1, c1 ≤ K → ∀ (f1 : List (Arr2 × GPlace)) (x28 : Int) (A81 : Option Addr) (c82 : Nat) (e1 : List Arr4) (w : World), impl_change14.l1 K c1 tet t3 t5 f1 x28 e1 = some (r1, r2, r3, r4) → St w0 w (Box b8 104 [.slice A9 t3.length c10, .map (some b11), I t5, .slice A81 e1.length c82] :: Own (TInt .i64) 2 A9 c10 (fun _ => ()) t3 :: MapG b11 ke_Arr2 ke_GPlace f1 :: Own T_Arr4 131 A81 c82 (fun _ => ()) e1 :: L) → G prog 113 41 [(0, I tet), (3, .pointer (some ⟨b8, 0, none⟩)), (9, I x28)] k1 w (impl_change14.post w0 L r1 r2 r3 r4) := by
   intro c1
   induction c1 using Nat.strongRecOn with
   | _ c1 m1 =>
    intro u1 f1 x28 A81 c82 e1 w H HS
    cases c1 with
    | zero => rw [impl_change14.l1] at H; cases H
    | succ h1 =>
     rw [impl_change14.l1] at H
     subst s1
     refine rN 3 Z ?_
     rcases iS H with ⟨c136, H⟩ | ⟨c136, H⟩
     ·
      refine nB Z (tF c136) (rN 3 Z ?_)
      obtain ⟨rfl, rfl, rfl, rfl⟩ := some4 H
      exact rT _ func113 Z Z ⟨_, _, _, _, _, _, Z, HS⟩
     refine yB Z (tT c136) (rN 6 Z ?_)
     obtain ⟨t137, t138, t139, t140, h141, H⟩ := bind4_elim H
     obtain ⟨t144, h145, H⟩ := bI H
     refine rG (pS 4 Z (fJ fok93 Z (impl_perm.calls HS  h141) (fun _ wd142 ⟨h143, HS⟩ => ⟨_, h143, ?_⟩)))
     replace HS := HS.pk 4 [0, 2, 1, 3] Z
     refine fJ fok138 Z (impl_change_put.calls HS (RdIn.own (j := 0) Z) (RdIn.own (j := 1) Z) h145) (fun _ wd146 ⟨h147, HS⟩ => ⟨_, h147, (nL (rN 4 Z ?_))⟩)
     refine G.name (fun p1 o1 => ?_)
     have n1 : ∀ d1, d1 ≤ h1 → ∀ (A160 : Option Addr) (c161 : Nat) (a1 : List Arr4) (x163 : Int) (w : World), impl_change14.l5 K d1 tet t3 t5 x28 t144 a1 x163 = some (r1, r2, r3, r4) → St w0 w (Box b8 104 [.slice A9 t3.length c10, .map (some b11), I t5, .slice A160 a1.length c161] :: Own (TInt .i64) 2 A9 c10 (fun _ => ()) t3 :: MapG b11 ke_Arr2 ke_GPlace t144 :: Own T_Arr4 131 A160 c161 (fun _ => ()) a1 :: L) → G prog 113 41 [(0, I tet), (3, .pointer (some ⟨b8, 0, none⟩)), (4, I x28), (9, I x28), (18, I x28), (19, I x163)] p1 w (impl_change14.post w0 L r1 r2 r3 r4) := by
      intro d1
      induction d1 using Nat.strongRecOn with
      | _ d1 t1 =>
       intro i1 A160 c161 a1 x163 w H HS
       cases d1 with
       | zero => rw [impl_change14.l5] at H; cases H
       | succ g1 =>
        rw [impl_change14.l5] at H
        subst o1
        refine rN 3 Z ?_
        rcases iS H with ⟨c176, H⟩ | ⟨c176, H⟩
        ·
         refine nB Z (tF c176) (rN 4 Z (G.weak ?_ (m1 g1 (by omega) (by omega) _ _ _ _ _ _ H HS)))
         exact ⟨Z, Z, Z, tv⟩
        refine yB Z (tT c176) (rN 5 Z ?_)
        obtain ⟨t177, h178, H⟩ := bI H
        obtain ⟨c186, H⟩ := iN H
        refine G.lexS mixed (fun w => St w0 w (Box b8 104 [.slice A9 t3.length c10, .map (some b11), I t5, .slice A160 a1.length c161] :: L)) [4] [0, 1, 2, 3, 5, 6, 7, 8, 9, 4, 10, 11, 12, 13, 14, 15, 16] [16] (by kernel_rfl) (by kernel_rfl) (HS.drew.pk 4 [0] Z) ?_
        replace HS := HS.drew
        refine GX.ps 2 Z (qL Z Z (fun _ _ g => GO.nilP Z Z Z g) Z (qL Z Z (fun _ _ g => fL b8 3 fl104_3 Z g) Z (GX.ps 5 Z (GX.ls Z Z Z (HS.pk 4 [0] Z) (fun _ HS _ g => lB 0 HS Z na102 Z g) Z (GX.l2 Z (fJ fok139 Z (impl_exchange.calls HS  h178) (fun _ wd179 ⟨h180, HS⟩ => ⟨_, h180, (GX.fin (HS.pk 4 [0] Z) (qL Z Z (fun _ _ g => GO.buildV (.agg [I x28, I x163, I x163, I t177].toArray) Z Z (fun _ => by kernel_rfl) Z g) Z (GX.l2 Z (GO.buildS (el := 131) ([I x28, I x163, I x163, I t177]) HS Z Z (fun _ => by kernel_rfl) Z fun b181 wd182 HS => GX.fin (HS.pk 5 [1] Z) (GX.l2 Z (GO.app1 (T := T_Arr4) (j := 4) (jb := 0) (⟨x28, x163, x163, t177⟩ : Arr4) HS Z Z flat_flat Z Z Z U102 inf131 Z Z Z c186 Z fun A184 c185 wd183 HS => GX.fin (HS.pk 5 [1] Z) ?_))))))⟩)))))))
        refine qL Z Z (fun _ _ g => GO.nilP Z Z Z g) Z (qL Z Z (fun _ _ g => fL b8 3 fl104_3 Z g) Z (GX.l2 Z (GO.stBox (j := 1) (vs := [.slice A184 (a1 ++ [(⟨x28, x163, x163, t177⟩ : Arr4)]).length c185]) ([.slice A9 t3.length c10, .map (some b11), I t5, .slice A184 (a1 ++ [(⟨x28, x163, x163, t177⟩ : Arr4)]).length c185]) HS Z Z Z Z Z (htN na102 Z) Z Z Z fun wd187 HS => GX.finZ Z (GX.nil (rN 3 Z (G.weak ?_ (t1 g1 (Nat.lt_succ_of_le (lR _)) (Nat.le_of_succ_le i1) _ _ _ _ _ H (HS.pk 5 [1, 2, 3, 4] Z))))))))
        exact ⟨Z, Z, Z, Z, Z, Z, tv⟩
     refine G.weak ?_ (n1 h1 (lR _) _ _ _ _ _ H (HS.pk 4 [0, 2, 1, 3] Z))
     exact ⟨Z, Z, Z, Z, Z, Z, tv⟩
  refine G.weak ?_ (q1 K (lR _) _ _ _ _ _ _ H HS)
  exact ⟨Z, Z, Z, tv⟩
theorem impl_compose.calls {p q r1 : Int} (HS : St w0 w (L)) (H : impl_compose.f K p q = some r1) :
    Calls prog 94 #[I p, I q] w (impl_compose.post w0 L r1) := by
  unfold impl_compose.f at H
  refine cG func94 Z ?_
  refine rN 3 Z ?_
  obtain ⟨t1, t2, t3, t4, h5, H⟩ := bind4_elim H
  obtain ⟨t8, t9, t10, t11, h12, H⟩ := bind4_elim H
  refine rG (mV Z (fJ fok93 Z (impl_perm.calls HS  h5) (fun _ wd6 ⟨h7, HS⟩ => ⟨_, h7, (mV Z (fJ fok93 Z (impl_perm.calls HS  h12) (fun _ wd13 ⟨h14, HS⟩ => ⟨_, h14, (GO.alloc HS Z zr131 Z Z fun b15 wd16 HS => GO.alloc HS Z zr131 Z Z fun b17 wd18 HS => sW 1 HS Z ag131 Z fun wd19 HS => sW 0 HS Z ag131 Z fun wd20 HS => nL (sQ (rG (GO.alloc HS Z zr131 Z Z fun b21 wd22 HS => nL (rN 2 Z ?_)))))⟩)))⟩)))
  refine rG (lW 2 HS Z ag131 (mV Z (nL (rN 2 Z ?_))))
  refine G.name (fun k1 m1 => ?_)
  have h1 : ∀ a1, a1 ≤ K → ∀ (b1 x26 : Int) (c1 e1 d1 : Int) (w : World), impl_compose.l1 K a1 t1 t2 t3 t4 t8 t9 t10 t11 b1 x26 c1 e1 d1 = some r1 → St w0 w (Box b17 131 [I t8, I t9, I t10, I t11] :: Box b21 131 [I b1, I c1, I e1, I d1] :: L) → G prog 94 27 [(6, .pointer (some ⟨b17, 0, none⟩)), (7, .pointer (some ⟨b21, 0, none⟩)), (14, .agg [I t1, I t2, I t3, I t4].toArray), (15, I x26)] k1 w (impl_compose.post w0 L r1) := by
   intro a1
   induction a1 using Nat.strongRecOn with
   | _ a1 f1 =>
    intro i1 b1 x26 c1 e1 d1 w H HS
    cases a1 with
    | zero => rw [impl_compose.l1] at H; cases H
    | succ g1 =>
     rw [impl_compose.l1] at H
     subst m1
     refine rN 3 Z ?_
     rcases iS H with ⟨c46, H⟩ | ⟨c46, H⟩
     ·
      refine nB Z (tF c46) (rN 2 Z ?_)
      obtain ⟨t50, h51, H⟩ := bI H
      refine rG (lW 1 HS Z ag131 (fJ fok130 Z (impl_indexOf.calls HS  h51) (fun _ wd52 ⟨h53, HS⟩ => ⟨_, h53, (aS Z (nL ?_))⟩)))
      obtain rfl := sI H
      exact rT _ func94 Z Z ⟨Z, (HS.pk 2 [] Z)⟩
     refine yB Z (tT c46) (rN 4 Z ?_)
     obtain ⟨c47, H⟩ := iN H
     refine rG (mV Z (GO.ixArr ([t1, t2, t3, t4] : List Int) Z Z Z U131 U2 sz2 Z c47.1 c47.2 Z (pS 2 Z (nL ?_))))
     obtain ⟨c48, H⟩ := iN H
     refine rG (pS 2 Z (GO.ixW Z Z Z U131 sz2 c48 Z (GO.ldW (j := 0) ([t8, t9, t10, t11] : List Int) HS Z Z Z c48 Z Z na2 Z (GO.ixW Z Z Z U131 sz2 c47 Z (GO.stW (j := 1) (o := 0) (sz := 1) (vs := [I (([t8, t9, t10, t11] : List Int).getD (([t1, t2, t3, t4] : List Int).getD x26.toNat 0).toNat 0)]) (fun u_ => [I (se 0 u_ (([t8, t9, t10, t11] : List Int).getD (([t1, t2, t3, t4] : List Int).getD x26.toNat 0).toNat 0) b1), I (se 1 u_ (([t8, t9, t10, t11] : List Int).getD (([t1, t2, t3, t4] : List Int).getD x26.toNat 0).toNat 0) c1), I (se 2 u_ (([t8, t9, t10, t11] : List Int).getD (([t1, t2, t3, t4] : List Int).getD x26.toNat 0).toNat 0) e1), I (se 3 u_ (([t8, t9, t10, t11] : List Int).getD (([t1, t2, t3, t4] : List Int).getD x26.toNat 0).toNat 0) d1)]) HS Z Z Z Z Z c47 (htN na2 Z) Z Z (four Z Z Z Z) fun wd49 HS => nL (rN 3 Z (G.weak ?_ (f1 g1 (Nat.lt_succ_of_le (lR _)) (Nat.le_of_succ_le i1) _ _ _ _ _ _ H HS))))))))
     exact ⟨Z, Z, Z, Z, tv⟩
  refine G.weak ?_ (h1 K (lR _) _ _ _ _ _ _ H (HS.pk 3 [1, 0] Z))
  exact ⟨Z, Z, Z, Z, tv⟩
theorem impl_Triangulation_star.calls {k1 : List (List GFace)} {tet k_ : Int} {y_a : Nat → (Ty.slice 107 T_GFace).Lay} {r1 r2 : Int} {r3 r4 : Int} {r5 r6 : Int} {r7 r8 : Int} {r9 : Bool} (HS : St w0 w (L)) (r_a : RdIn w0 L (Ty.slice 107 T_GFace) A_a c_a y_a k1) (H : impl_Triangulation_star.f K k1 tet k_ = some (r1, r2, r3, r4, r5, r6, r7, r8, r9)) :
    Calls prog 143 #[.agg [.slice A_a k1.length c_a].toArray, I tet, I k_] w (impl_Triangulation_star.post w0 L r1 r2 r3 r4 r5 r6 r7 r8 r9) := by
  unfold impl_Triangulation_star.f at H
  refine cG func143 Z ?_
  refine sQ (rG (bA HS Z fun b1 wd2 HS => GO.alloc HS Z zr174 Z Z fun b3 wd4 HS => aS Z (nL (sQ (rG (GO.alloc HS Z zr174 Z Z fun b5 wd6 HS => nL (sQ ?_)))))))
  obtain ⟨c7, H⟩ := iN H
  refine rG (pS 2 Z (GO.buildV (.agg [I tet, I 0].toArray) Z Z (fun _ => by kernel_rfl) Z (GO.ixW Z Z Z U174 sz127 c7 Z (GO.stW (j := 0) (o := 0) (sz := 2) (vs := [I tet, I 0]) (fun u_ => [I (se 0 u_ tet 0), I (se 0 u_ 0 0), I (se 1 u_ tet 0), I (se 1 u_ 0 0), I (se 2 u_ tet 0), I (se 2 u_ 0 0), I (se 3 u_ tet 0), I (se 3 u_ 0 0)]) HS Z Z Z Z Z c7 (htA ag127) Z Z (four Z Z Z Z) fun wd8 HS => nL (rN 2 Z ?_)))))
  obtain ⟨t11, h12, H⟩ := bI H
  refine rG (mV Z (GO.buildS (el := 2) ([I k_]) HS Z Z (fun _ => by kernel_rfl) Z fun b9 wd10 HS => ?_))
  replace HS := HS.boxRow (T := (TInt .i64)) (j := 0) Z flat_flat (fun _ => ()) ([k_] : List Int) Z (bndL Z)
  refine GO.lenC (t := 21) (m := ([k_] : List Int).length) (c' := ([k_] : List Int).length) Z Z Z (fJ fok137 Z (impl_others.calls HS (RdIn.own (j := 0) Z) h12) (fun _ wd15 ⟨A13, c14, h16, HS⟩ => ⟨_, h16, (lS Z Z U56 Z (mV Z (nL (rN 2 Z ?_))))⟩))
  refine G.name (fun v1 d2 => ?_)
  have h2 : ∀ n1, n1 ≤ K → ∀ (d1 h1 : Int) (c1 f1 : Int) (a1 i1 : Int) (e1 g1 x552 : Int) (w : World), impl_Triangulation_star.l1 K n1 k1 tet k_ t11 d1 h1 c1 f1 a1 i1 e1 g1 x552 = some (r1, r2, r3, r4, r5, r6, r7, r8, r9) → St w0 w (Box b1 31 [.slice A_a k1.length c_a] :: Box b3 174 [I 0, I 0, I 0, I 0, I 0, I 0, I 0, I 0] :: Box b5 174 [I d1, I h1, I c1, I f1, I a1, I i1, I e1, I g1] :: Own (TInt .i64) 2 A13 c14 (fun _ => ()) t11 :: L) → G prog 143 121 [(1, I tet), (2, I k_), (3, .pointer (some ⟨b1, 0, none⟩)), (6, .pointer (some ⟨b3, 0, none⟩)), (8, .pointer (some ⟨b5, 0, none⟩)), (22, .slice A13 t11.length c14), (23, I (t11.length : Int)), (24, I x552)] v1 w (impl_Triangulation_star.post w0 L r1 r2 r3 r4 r5 r6 r7 r8 r9) := by
   intro n1
   induction n1 using Nat.strongRecOn with
   | _ n1 a2 =>
    intro c2 d1 h1 c1 f1 a1 i1 e1 g1 x552 w H HS
    cases n1 with
    | zero => rw [impl_Triangulation_star.l1] at H; cases H
    | succ q1 =>
     rw [impl_Triangulation_star.l1] at H
     subst d2
     refine rN 3 Z ?_
     rcases iE H with ⟨c1080, H⟩ | ⟨c1080, H⟩
     ·
      refine yB Z (tT c1080) (rN 4 Z ?_)
      obtain ⟨c1081, H⟩ := iN H
      refine rG (GO.ix Z Z Z U56 sz2 ((RdIn.own (j := 3) Z) _ HS).2.2.1 c1081.1 c1081.2 Z (GO.ldRd (T := (TInt .i64)) (n := x552.toNat) (o := 0) HS (RdIn.own (j := 3) Z) Z Z (getD_some (d := 0) (ltN c1081)) Z Z na2 Z (aS Z (nL (sQ ?_)))))
      obtain ⟨c1082, H⟩ := iN H
      obtain ⟨c1083, H⟩ := iN H
      obtain ⟨e1084, h1085, H⟩ := bnd_elim H
      refine rG (fL b1 0 fl31_0 Z (lB 0 HS Z na29 Z (mV Z (GO.ix Z Z Z U29 sz77 ((rD 4 r_a) _ HS).2.2.1 c1082.1 c1082.2 Z (GO.ldRd (T := (Ty.slice 107 T_GFace)) (n := tet.toNat) (o := 0) HS (rD 4 r_a) Z Z (getD_some (d := []) (ltN c1082)) Z Z na77 Z (mV Z (GO.ix Z Z Z U77 sz107 ((RdIn.elem (rD 4 r_a) c1082.1 c1082.2) _ HS).2.2.1 c1083.1 c1083.2 Z (GO.ldRdA (T := T_GFace) (n := (t11.getD x552.toNat 0).toNat) HS (RdIn.elem (rD 4 r_a) c1082.1 c1082.2) Z Z (getD_eq (ltN c1083) h1085) ag107 Z (GO.alloc HS Z zr107 Z Z fun b1086 wd1087 HS => sW 0 HS Z ag107 Z fun wd1088 HS => nL (rN 2 Z ?_))))))))))
      obtain ⟨t1089, h1090, H⟩ := bI H
      refine rG (lW 0 HS Z ag107 (fJ fok91 Z (impl_Face_isBoundary.calls HS  h1090) (fun _ wd1091 ⟨h1092, HS⟩ => ⟨_, h1092, (nL ?_)⟩)))
      rcases iE H with ⟨c1093, H⟩ | ⟨c1093, H⟩
      ·
       refine yB Z c1093 (sQ (rG (lW 3 HS Z ag174 (sW 2 HS Z ag174 Z fun wd1094 HS => aS Z (nL ?_)))))
       obtain ⟨rfl, rfl, rfl, rfl, rfl, rfl, rfl, rfl, rfl⟩ := some9 H
       exact G.ret2 _ _ func143 Z (Res1.boxA (j := 2) (vs := [I d1, I h1, I c1, I f1, I a1, I i1, I e1, I g1]) HS Z Z Z ag174) Z ⟨Z, (HS.pk 5 [] Z)⟩
      refine nB Z (bnot_of c1093) (G.skip ?_)
      obtain ⟨t1095, h1096, H⟩ := bI H
      obtain ⟨t1099, h1100, H⟩ := bI H
      obtain ⟨t1103, h1104, H⟩ := bI H
      obtain ⟨c1107, H⟩ := iN H
      refine G.lexS mixed (fun w => St w0 w (Box b1086 107 [I e1084.Tet, I e1084.Perm] :: L)) [2, 4] [0, 1, 3, 6, 7, 2, 4, 5, 8, 9, 10, 11, 12] [] (by kernel_rfl) (by kernel_rfl) (HS.drew.pk 5 [0] Z) ?_
      replace HS := HS.drew
      refine GX.ps 1 Z (qL Z Z (fun _ _ g => fL b1086 0 fl107_0 Z g) Z (qL Z Z (fun _ _ g => fL b1086 1 fl107_1 Z g) Z (GX.ps 2 Z (GX.ls Z Z Z (HS.pk 5 [0] Z) (fun _ HS _ g => lB 0 HS Z na2 Z g) Z (GX.ls Z Z Z (HS.pk 5 [0] Z) (fun _ HS _ g => lB 0 HS Z na2 Z g) Z (GX.l2 Z (fJ fok95 Z (impl_invert.calls HS  h1096) (fun _ wd1097 ⟨h1098, HS⟩ => ⟨_, h1098, (GX.fin (HS.pk 5 [0] Z) (GX.l2 Z (fJ fok139 Z (impl_exchange.calls HS  h1100) (fun _ wd1101 ⟨h1102, HS⟩ => ⟨_, h1102, (GX.fin (HS.pk 5 [0] Z) (GX.l2 Z (fJ fok94 Z (impl_compose.calls HS  h1104) (fun _ wd1105 ⟨h1106, HS⟩ => ⟨_, h1106, (GX.fin (HS.pk 5 [0] Z) ?_)⟩))))⟩))))⟩))))))))
      refine qL Z Z (fun _ _ g => GO.buildV (.agg [I e1084.Tet, I t1103].toArray) Z Z (fun _ => by kernel_rfl) Z g) Z (qL Z Z (fun _ _ g => GO.ixW Z Z Z U174 sz127 c1107 Z g) Z (GX.l2 Z (GO.stW (j := 3) (o := 0) (sz := 2) (vs := [I e1084.Tet, I t1103]) (fun u_ => [I (se 0 u_ e1084.Tet d1), I (se 0 u_ t1103 h1), I (se 1 u_ e1084.Tet c1), I (se 1 u_ t1103 f1), I (se 2 u_ e1084.Tet a1), I (se 2 u_ t1103 i1), I (se 3 u_ e1084.Tet e1), I (se 3 u_ t1103 g1)]) HS Z Z Z Z Z c1107 (htA ag127) Z Z (four Z Z Z Z) fun wd1108 HS => GX.fin (HS.pk 5 [0] Z) (GX.nil (rN 3 Z (G.weak ?_ (a2 q1 (Nat.lt_succ_of_le (lR _)) (Nat.le_of_succ_le c2) _ _ _ _ _ _ _ _ _ _ H (HS.pk 5 [1, 2, 3, 4] Z))))))))
      exact ⟨Z, Z, Z, Z, Z, Z, Z, Z, tv⟩
     refine nB Z (tF c1080) (rN 6 Z ?_)
     refine G.name (fun f2 z1 => ?_)
     have e2 : ∀ m1, m1 ≤ q1 → ∀ (x1232 : Int) (w : World), impl_Triangulation_star.l10 K m1 k1 d1 h1 c1 f1 a1 i1 e1 g1 x1232 = some (r1, r2, r3, r4, r5, r6, r7, r8, r9) → St w0 w (Box b1 31 [.slice A_a k1.length c_a] :: Box b3 174 [I 0, I 0, I 0, I 0, I 0, I 0, I 0, I 0] :: Box b5 174 [I d1, I h1, I c1, I f1, I a1, I i1, I e1, I g1] :: L) → G prog 143 121 [(3, .pointer (some ⟨b1, 0, none⟩)), (6, .pointer (some ⟨b3, 0, none⟩)), (8, .pointer (some ⟨b5, 0, none⟩)), (52, I x1232)] f2 w (impl_Triangulation_star.post w0 L r1 r2 r3 r4 r5 r6 r7 r8 r9) := by
      intro m1
      induction m1 using Nat.strongRecOn with
      | _ m1 x1 =>
       intro i2 x1232 w H HS
       cases m1 with
       | zero => rw [impl_Triangulation_star.l10] at H; cases H
       | succ t1 =>
        rw [impl_Triangulation_star.l10] at H
        subst z1
        refine rN 3 Z ?_
        rcases iS H with ⟨c1420, H⟩ | ⟨c1420, H⟩
        ·
         refine nB Z (tF c1420) (rN 2 Z (rG (lW 2 HS Z ag174 (sW 1 HS Z ag174 Z fun wd1606 HS => aS Z (nL ?_)))))
         obtain ⟨rfl, rfl, rfl, rfl, rfl, rfl, rfl, rfl, rfl⟩ := some9 H
         exact G.ret2 _ _ func143 Z (Res1.boxA (j := 1) (vs := [I d1, I h1, I c1, I f1, I a1, I i1, I e1, I g1]) HS Z Z Z ag174) Z ⟨Z, (HS.pk 3 [] Z)⟩
        refine yB Z (tT c1420) (rN 9 Z ?_)
        refine G.name (fun g2 b2 => ?_)
        have y1 : ∀ o1, o1 ≤ t1 → ∀ (x1481 : Int) (w : World), impl_Triangulation_star.l13 K o1 k1 d1 h1 c1 f1 a1 i1 e1 g1 x1232 x1481 = some (r1, r2, r3, r4, r5, r6, r7, r8, r9) → St w0 w (Box b1 31 [.slice A_a k1.length c_a] :: Box b3 174 [I 0, I 0, I 0, I 0, I 0, I 0, I 0, I 0] :: Box b5 174 [I d1, I h1, I c1, I f1, I a1, I i1, I e1, I g1] :: L) → G prog 143 121 [(3, .pointer (some ⟨b1, 0, none⟩)), (6, .pointer (some ⟨b3, 0, none⟩)), (8, .pointer (some ⟨b5, 0, none⟩)), (12, I x1232), (52, I x1232), (55, I x1481)] g2 w (impl_Triangulation_star.post w0 L r1 r2 r3 r4 r5 r6 r7 r8 r9) := by
         intro o1
         induction o1 using Nat.strongRecOn with
         | _ o1 s1 =>
          intro u1 x1481 w H HS
          cases o1 with
          | zero => rw [impl_Triangulation_star.l13] at H; cases H
          | succ p1 =>
           rw [impl_Triangulation_star.l13] at H
           subst b2
           refine rN 3 Z ?_
           rcases iS H with ⟨c1544, H⟩ | ⟨c1544, H⟩
           ·
            refine nB Z (tF c1544) (rN 4 Z (G.weak ?_ (x1 p1 (by omega) (by omega) _ _ H HS)))
            exact ⟨Z, Z, Z, Z, tv⟩
           refine yB Z (tT c1544) (rN 8 Z ?_)
           rcases iE H with ⟨c1545, H⟩ | ⟨c1545, H⟩
           ·
            refine yB Z (tT c1545) (rN 3 Z (G.weak ?_ (s1 p1 (Nat.lt_succ_of_le (lR _)) (Nat.le_of_succ_le u1) _ _ H HS)))
            exact ⟨Z, Z, Z, Z, Z, Z, tv⟩
           refine nB Z (tF c1545) (rN 2 Z ?_)
           obtain ⟨c1546, H⟩ := iN H
           obtain ⟨t1547, h1548, H⟩ := bI H
           obtain ⟨t1551, t1552, t1553, t1554, h1555, H⟩ := bind4_elim H
           obtain ⟨c1558, H⟩ := iN H
           refine rG (mV Z (GO.ixW Z Z Z U174 sz127 c1546 Z (GO.fld (⟨b5, 1 + x1232.toNat * 2, none⟩) Z Z fl127_1 (adW _ _ _ _) Z (GO.ldW (j := 2) ([h1, f1, i1, g1] : List Int) HS Z Z Z c1546 Z Z na2 Z (fJ fok95 Z (impl_invert.calls HS  h1548) (fun _ wd1549 ⟨h1550, HS⟩ => ⟨_, h1550, (fJ fok93 Z (impl_perm.calls HS  h1555) (fun _ wd1556 ⟨h1557, HS⟩ => ⟨_, h1557, (mV Z (GO.ixArr ([t1551, t1552, t1553, t1554] : List Int) Z Z Z U131 U2 sz2 Z c1558.1 c1558.2 Z (aS Z (nL (sQ ?_)))))⟩))⟩))))))
           obtain ⟨c1559, H⟩ := iN H
           obtain ⟨c1560, H⟩ := iN H
           obtain ⟨e1561, h1562, H⟩ := bnd_elim H
           refine G.lexS mixed (fun w => St w0 w (Box b1 31 [.slice A_a k1.length c_a] :: Box b5 174 [I d1, I h1, I c1, I f1, I a1, I i1, I e1, I g1] :: L)) [1, 5, 7, 10] [0, 2, 3, 4, 8, 1, 5, 6, 7, 9, 10, 11, 12] [] (by kernel_rfl) (by kernel_rfl) (HS.drew.pk 3 [0, 2] Z) ?_
           replace HS := HS.drew
           refine qL Z Z (fun _ _ g => fL b1 0 fl31_0 Z g) Z (GX.ps 1 Z (qL Z Z (fun _ _ g => GO.ixW Z Z Z U174 sz127 c1546 Z g) Z (qL Z Z (fun _ _ g => GO.fld (⟨b5, 0 + x1232.toNat * 2, none⟩) Z Z fl127_0 Z Z g) Z (GX.ps 1 Z (GX.ls Z Z Z (HS.pk 3 [0, 2] Z) (fun _ HS _ g => lB 0 HS Z na29 Z g) Z (GX.ls Z Z Z (HS.pk 3 [0, 2] Z) (fun _ HS _ g => GO.ldW (j := 1) ([d1, c1, a1, e1] : List Int) HS Z Z Z c1546 Z Z na2 Z g) Z (qL Z Z (fun _ _ g => GO.ix Z Z Z U29 sz77 ((rD 3 r_a) _ HS).2.2.1 c1559.1 c1559.2 Z g) Z (GX.ls Z Z Z (HS.pk 3 [0, 2] Z) (fun _ HS _ g => GO.ldRd (T := (Ty.slice 107 T_GFace)) (n := (([d1, c1, a1, e1] : List Int).getD x1232.toNat 0).toNat) (o := 0) HS (rD 2 r_a) Z Z (getD_some (d := []) (ltN c1559)) Z Z na77 Z g) Z (qL Z Z (fun _ _ g => GO.ix Z Z Z U77 sz107 ((RdIn.elem (rD 3 r_a) c1559.1 c1559.2) _ HS).2.2.1 c1560.1 c1560.2 Z g) Z (GX.ls Z Z Z (HS.pk 3 [0, 2] Z) (fun _ HS _ g => GO.ldRdA (T := T_GFace) (n := (([t1551, t1552, t1553, t1554] : List Int).getD x1481.toNat 0).toNat) HS (RdIn.elem (rD 2 r_a) c1559.1 c1559.2) Z Z (getD_eq (ltN c1560) h1562) ag107 Z g) Z (GX.l2 Z (GO.alloc HS Z zr107 Z Z fun b1563 wd1564 HS => GX.fin (HS.pk 4 [1, 3] Z) (GX.l2 Z ?_)))))))))))))
           refine sW 0 HS Z ag107 Z fun wd1565 HS => GX.fin (HS.pk 4 [1, 3] Z) (GX.nil (sQ ?_))
           rcases iS H with ⟨c1584, H⟩ | ⟨c1584, H⟩
           ·
            refine G.lexS mixed (fun w => St w0 w (Box b1563 107 [I e1561.Tet, I e1561.Perm] :: Box b5 174 [I d1, I h1, I c1, I f1, I a1, I i1, I e1, I g1] :: L)) [1, 5, 11, 15, 22, 25, 30] [0, 2, 3, 4, 1, 5, 6, 7, 8, 9, 10, 12, 13, 14, 11, 15, 16, 17, 18, 19, 20, 21, 24, 27, 28, 29, 32, 33, 22, 25, 30, 23, 26, 31, 34, 35, 36] [] (by kernel_rfl) (by kernel_rfl) (HS.drew.pk 4 [0, 3] Z) ?_
            replace HS := HS.drew
            refine qL Z Z (fun _ _ g => fL b1563 0 fl107_0 Z g) Z (GX.ps 1 Z (qL Z Z (fun _ _ g => GO.ixW Z Z Z U174 sz127 c1558 Z g) Z (qL Z Z (fun _ _ g => GO.fld (⟨b5, 0 + x1481.toNat * 2, none⟩) Z Z fl127_0 Z Z g) Z (GX.ls Z Z Z (HS.pk 4 [0, 3] Z) (fun _ HS _ g => lB 0 HS Z na2 Z g) Z (GX.ls Z Z Z (HS.pk 4 [0, 3] Z) (fun _ HS _ g => GO.ldW (j := 1) ([d1, c1, a1, e1] : List Int) HS Z Z Z c1558 Z Z na2 Z g) Z (GX.ps 1 Z (qL Z Z (fun _ _ g => mV Z (kN 87 Z (nF c1584) g)) Z (qL Z Z (fun _ _ g => oF Z g) Z (qL Z Z (fun _ _ g => oF Z g) Z (qL Z Z (fun _ _ g => oF Z g) Z (qL Z Z (fun _ _ g => oF Z g) Z (qL Z Z (fun _ _ g => oF Z g) Z (qL Z Z (fun _ _ g => oF Z g) Z (GX.ls Z Z Z (HS.pk 4 [0, 3] Z) (fun _ HS _ g => oF Z g) Z ?_))))))))))))))
            refine GX.ls Z Z Z (HS.pk 4 [0, 3] Z) (fun _ HS _ g => oF Z g) Z (qL Z Z (fun _ _ g => oF Z g) Z (GX.ps 2 Z (qL Z Z (fun _ _ g => oF Z g) Z (qL Z Z (fun _ _ g => oF Z g) Z (qL Z Z (fun _ _ g => oF Z g) Z (qL Z Z (fun _ _ g => oF Z g) Z (qL Z Z (fun _ _ g => oF Z g) Z (qL Z Z (fun _ _ g => oF Z g) Z (qL Z Z (fun _ _ g => oF Z g) Z (qL Z Z (fun _ _ g => oF Z g) Z (qL Z Z (fun _ _ g => oF Z g) Z (GX.ls Z Z Z (HS.pk 4 [0, 3] Z) (fun _ HS _ g => oF Z g) Z (GX.ls Z Z Z (HS.pk 4 [0, 3] Z) (fun _ HS _ g => oF Z g) Z (GX.ls Z Z Z (HS.pk 4 [0, 3] Z) (fun _ HS _ g => oF Z g) Z ?_))))))))))))))
            refine GX.l2 Z (oF Z (GX.fin (HS.pk 4 [0, 3] Z) (GX.l2 Z (oF Z (GX.fin (HS.pk 4 [0, 3] Z) (GX.l2 Z (oF Z (GX.fin (HS.pk 4 [0, 3] Z) (GX.l2 Z (oF Z (GX.fin (HS.pk 4 [0, 3] Z) (qL Z Z (fun _ _ g => oF Z g) Z (GX.ps 1 Z (GX.nil ?_))))))))))))))
            refine rN 2 Z (rG (lW 3 HS Z ag174 (sW 2 HS Z ag174 Z fun wd1605 HS => aS Z (nL ?_))))
            obtain ⟨rfl, rfl, rfl, rfl, rfl, rfl, rfl, rfl, rfl⟩ := some9 H
            exact G.ret2 _ _ func143 Z (Res1.boxA (j := 2) (vs := [I d1, I h1, I c1, I f1, I a1, I i1, I e1, I g1]) HS Z Z Z ag174) Z ⟨Z, (HS.pk 4 [] Z)⟩
           rcases iE H with ⟨c1585, H⟩ | ⟨c1585, H⟩
           ·
            refine G.lexS mixed (fun w => St w0 w (Box b1563 107 [I e1561.Tet, I e1561.Perm] :: Box b5 174 [I d1, I h1, I c1, I f1, I a1, I i1, I e1, I g1] :: L)) [1, 5, 11, 15, 22, 25, 30] [0, 2, 3, 4, 1, 5, 6, 7, 8, 9, 10, 12, 13, 14, 11, 15, 16, 17, 18, 19, 20, 21, 24, 27, 28, 29, 32, 33, 22, 25, 30, 23, 26, 31, 34, 35, 36] [] (by kernel_rfl) (by kernel_rfl) (HS.drew.pk 4 [0, 3] Z) ?_
            replace HS := HS.drew
            refine qL Z Z (fun _ _ g => fL b1563 0 fl107_0 Z g) Z (GX.ps 1 Z (qL Z Z (fun _ _ g => GO.ixW Z Z Z U174 sz127 c1558 Z g) Z (qL Z Z (fun _ _ g => GO.fld (⟨b5, 0 + x1481.toNat * 2, none⟩) Z Z fl127_0 Z Z g) Z (GX.ls Z Z Z (HS.pk 4 [0, 3] Z) (fun _ HS _ g => lB 0 HS Z na2 Z g) Z (GX.ls Z Z Z (HS.pk 4 [0, 3] Z) (fun _ HS _ g => GO.ldW (j := 1) ([d1, c1, a1, e1] : List Int) HS Z Z Z c1558 Z Z na2 Z g) Z (GX.ps 1 Z (qL Z Z (fun _ _ g => mV Z (kN 87 Z (nT c1584) g)) Z (qL Z Z (fun _ _ g => oN Z (mV Z (bK g))) Z (qL Z Z (fun _ _ g => oN Z (GO.ixW Z Z Z U174 sz127 c1546 Z (bK g))) Z (qL Z Z (fun _ _ g => oN Z (GO.fld (⟨b5, 0 + x1232.toNat * 2, none⟩) Z Z fl127_0 Z Z (bK g))) Z (qL Z Z (fun _ _ g => oN Z (mV Z (bK g))) Z (qL Z Z (fun _ _ g => oN Z (GO.ixW Z Z Z U174 sz127 c1558 Z (bK g))) Z (qL Z Z (fun _ _ g => oN Z (GO.fld (⟨b5, 0 + x1481.toNat * 2, none⟩) Z Z fl127_0 Z Z (bK g))) Z (GX.ls Z Z Z (HS.pk 4 [0, 3] Z) (fun _ HS _ g => oN Z (GO.ldW (j := 1) ([d1, c1, a1, e1] : List Int) HS Z Z Z c1546 Z Z na2 Z (bK g))) Z ?_))))))))))))))
            refine GX.ls Z Z Z (HS.pk 4 [0, 3] Z) (fun _ HS _ g => oN Z (GO.ldW (j := 1) ([d1, c1, a1, e1] : List Int) HS Z Z Z c1558 Z Z na2 Z (bK g))) Z (qL Z Z (fun _ _ g => oN Z (GO.eql Z Z Z Z (bK g))) Z (GX.ps 1 Z (qL Z Z (fun _ _ g => mV Z (kN 98 Z (tT c1585) g)) Z (qL Z Z (fun _ _ g => oF Z g) Z (qL Z Z (fun _ _ g => oF Z g) Z (qL Z Z (fun _ _ g => oF Z g) Z (qL Z Z (fun _ _ g => oF Z g) Z (qL Z Z (fun _ _ g => oF Z g) Z (qL Z Z (fun _ _ g => oF Z g) Z (qL Z Z (fun _ _ g => oF Z g) Z (qL Z Z (fun _ _ g => oF Z g) Z (qL Z Z (fun _ _ g => oF Z g) Z (GX.ls Z Z Z (HS.pk 4 [0, 3] Z) (fun _ HS _ g => oF Z g) Z (GX.ls Z Z Z (HS.pk 4 [0, 3] Z) (fun _ HS _ g => oF Z g) Z ?_))))))))))))))
            refine GX.ls Z Z Z (HS.pk 4 [0, 3] Z) (fun _ HS _ g => oF Z g) Z (GX.l2 Z (oF Z (GX.fin (HS.pk 4 [0, 3] Z) (GX.l2 Z (oF Z (GX.fin (HS.pk 4 [0, 3] Z) (GX.l2 Z (oF Z (GX.fin (HS.pk 4 [0, 3] Z) (GX.l2 Z (oF Z (GX.fin (HS.pk 4 [0, 3] Z) (qL Z Z (fun _ _ g => oF Z g) Z (GX.ps 1 Z ?_))))))))))))))
            refine GX.nil (rN 2 Z (rG (lW 3 HS Z ag174 (sW 2 HS Z ag174 Z fun wd1586 HS => aS Z (nL ?_)))))
            obtain ⟨rfl, rfl, rfl, rfl, rfl, rfl, rfl, rfl, rfl⟩ := some9 H
            exact G.ret2 _ _ func143 Z (Res1.boxA (j := 2) (vs := [I d1, I h1, I c1, I f1, I a1, I i1, I e1, I g1]) HS Z Z Z ag174) Z ⟨Z, (HS.pk 4 [] Z)⟩
           obtain ⟨t1587, h1588, H⟩ := bI H
           obtain ⟨t1591, h1592, H⟩ := bI H
           obtain ⟨t1595, h1596, H⟩ := bI H
           obtain ⟨t1599, h1600, H⟩ := bI H
           refine G.lexS mixed (fun w => St w0 w (Box b1563 107 [I e1561.Tet, I e1561.Perm] :: Box b5 174 [I d1, I h1, I c1, I f1, I a1, I i1, I e1, I g1] :: L)) [1, 5, 11, 15, 22, 25, 30] [0, 2, 3, 4, 1, 5, 6, 7, 8, 9, 10, 12, 13, 14, 11, 15, 16, 17, 18, 19, 20, 21, 24, 27, 28, 29, 32, 33, 22, 25, 30, 23, 26, 31, 34, 35, 36] [] (by kernel_rfl) (by kernel_rfl) (HS.drew.pk 4 [0, 3] Z) ?_
           replace HS := HS.drew
           refine qL Z Z (fun _ _ g => fL b1563 0 fl107_0 Z g) Z (GX.ps 1 Z (qL Z Z (fun _ _ g => GO.ixW Z Z Z U174 sz127 c1558 Z g) Z (qL Z Z (fun _ _ g => GO.fld (⟨b5, 0 + x1481.toNat * 2, none⟩) Z Z fl127_0 Z Z g) Z (GX.ls Z Z Z (HS.pk 4 [0, 3] Z) (fun _ HS _ g => lB 0 HS Z na2 Z g) Z (GX.ls Z Z Z (HS.pk 4 [0, 3] Z) (fun _ HS _ g => GO.ldW (j := 1) ([d1, c1, a1, e1] : List Int) HS Z Z Z c1558 Z Z na2 Z g) Z (GX.ps 1 Z (qL Z Z (fun _ _ g => mV Z (kN 87 Z (nT c1584) g)) Z (qL Z Z (fun _ _ g => oN Z (mV Z (bK g))) Z (qL Z Z (fun _ _ g => oN Z (GO.ixW Z Z Z U174 sz127 c1546 Z (bK g))) Z (qL Z Z (fun _ _ g => oN Z (GO.fld (⟨b5, 0 + x1232.toNat * 2, none⟩) Z Z fl127_0 Z Z (bK g))) Z (qL Z Z (fun _ _ g => oN Z (mV Z (bK g))) Z (qL Z Z (fun _ _ g => oN Z (GO.ixW Z Z Z U174 sz127 c1558 Z (bK g))) Z (qL Z Z (fun _ _ g => oN Z (GO.fld (⟨b5, 0 + x1481.toNat * 2, none⟩) Z Z fl127_0 Z Z (bK g))) Z (GX.ls Z Z Z (HS.pk 4 [0, 3] Z) (fun _ HS _ g => oN Z (GO.ldW (j := 1) ([d1, c1, a1, e1] : List Int) HS Z Z Z c1546 Z Z na2 Z (bK g))) Z ?_))))))))))))))
           refine GX.ls Z Z Z (HS.pk 4 [0, 3] Z) (fun _ HS _ g => oN Z (GO.ldW (j := 1) ([d1, c1, a1, e1] : List Int) HS Z Z Z c1558 Z Z na2 Z (bK g))) Z (qL Z Z (fun _ _ g => oN Z (GO.eql Z Z Z Z (bK g))) Z (GX.ps 1 Z (qL Z Z (fun _ _ g => mV Z (kN 98 Z (tF c1585) g)) Z (qL Z Z (fun _ _ g => oN Z (mV Z (bK g))) Z (qL Z Z (fun _ _ g => oN Z (GO.ixW Z Z Z U174 sz127 c1546 Z (bK g))) Z (qL Z Z (fun _ _ g => oN Z (GO.fld (⟨b5, 1 + x1232.toNat * 2, none⟩) Z Z fl127_1 (adW _ _ _ _) Z (bK g))) Z (qL Z Z (fun _ _ g => oN Z (fL b1563 1 fl107_1 Z (bK g))) Z (qL Z Z (fun _ _ g => oN Z (mV Z (bK g))) Z (qL Z Z (fun _ _ g => oN Z (GO.ixW Z Z Z U174 sz127 c1558 Z (bK g))) Z (qL Z Z (fun _ _ g => oN Z (GO.fld (⟨b5, 1 + x1481.toNat * 2, none⟩) Z Z fl127_1 (adW _ _ _ _) Z (bK g))) Z (qL Z Z (fun _ _ g => oN Z (mV Z (bK g))) Z (qL Z Z (fun _ _ g => oN Z (mV Z (bK g))) Z (GX.ls Z Z Z (HS.pk 4 [0, 3] Z) (fun _ HS _ g => oN Z (GO.ldW (j := 1) ([h1, f1, i1, g1] : List Int) HS Z Z Z c1546 Z Z na2 Z (bK g))) Z (GX.ls Z Z Z (HS.pk 4 [0, 3] Z) (fun _ HS _ g => oN Z (lB 0 HS Z na2 Z (bK g))) Z ?_))))))))))))))
           refine GX.ls Z Z Z (HS.pk 4 [0, 3] Z) (fun _ HS _ g => oN Z (GO.ldW (j := 1) ([h1, f1, i1, g1] : List Int) HS Z Z Z c1558 Z Z na2 Z (bK g))) Z (GX.l2 Z (oN Z (fJ fok95 Z (impl_invert.calls HS  h1588) (fun _ wd1589 ⟨h1590, HS⟩ => ⟨_, h1590, (bK (GX.fin (HS.pk 4 [0, 3] Z) (GX.l2 Z (oN Z (fJ fok94 Z (impl_compose.calls HS  h1592) (fun _ wd1593 ⟨h1594, HS⟩ => ⟨_, h1594, (bK (GX.fin (HS.pk 4 [0, 3] Z) (GX.l2 Z (oN Z (fJ fok94 Z (impl_compose.calls HS  h1596) (fun _ wd1597 ⟨h1598, HS⟩ => ⟨_, h1598, (bK ?_)⟩))))))⟩))))))⟩))))
           refine GX.fin (HS.pk 4 [0, 3] Z) (GX.l2 Z (oN Z (fJ fok139 Z (impl_exchange.calls HS  h1600) (fun _ wd1601 ⟨h1602, HS⟩ => ⟨_, h1602, (bK (GX.fin (HS.pk 4 [0, 3] Z) (qL Z Z (fun _ _ g => oN Z (GO.neq Z Z Z Z (bK g))) Z (GX.ps 1 Z (GX.nil ?_)))))⟩))))
           rcases iE H with ⟨c1603, H⟩ | ⟨c1603, H⟩
           ·
            refine nB Z (nT c1603) (rN 4 Z (G.weak ?_ (s1 p1 (Nat.lt_succ_of_le (lR _)) (Nat.le_of_succ_le u1) _ _ H (HS.pk 4 [1, 2, 3] Z))))
            exact ⟨Z, Z, Z, Z, Z, Z, tv⟩
           refine yB Z (nF c1603) (sQ (rG (lW 3 HS Z ag174 (sW 2 HS Z ag174 Z fun wd1604 HS => aS Z (nL ?_)))))
           obtain ⟨rfl, rfl, rfl, rfl, rfl, rfl, rfl, rfl, rfl⟩ := some9 H
           exact G.ret2 _ _ func143 Z (Res1.boxA (j := 2) (vs := [I d1, I h1, I c1, I f1, I a1, I i1, I e1, I g1]) HS Z Z Z ag174) Z ⟨Z, (HS.pk 4 [] Z)⟩
        refine G.weak ?_ (y1 t1 (lR _) _ _ H HS)
        exact ⟨Z, Z, Z, Z, Z, Z, tv⟩
     refine G.weak ?_ (e2 q1 (lR _) _ _ H (HS.pk 4 [0, 1, 2] Z))
     exact ⟨Z, Z, Z, Z, tv⟩
  refine G.weak ?_ (h2 K (lR _) _ _ _ _ _ _ _ _ _ _ H (HS.pk 5 [4, 3, 2, 0] Z))
  exact ⟨Z, Z, Z, Z, Z, Z, Z, Z, tv⟩
theorem impl_Triangulation_change41.calls {e1 : List (List GFace)} {tet k_ : Int} {y_a : Nat → (Ty.slice 107 T_GFace).Lay} {r1 : Option (List Int × List (Arr2 × GPlace) × Int × List Arr4)} (HS : St w0 w (L)) (r_a : RdIn w0 L (Ty.slice 107 T_GFace) A_a c_a y_a e1) (H : impl_Triangulation_change41.f K e1 tet k_ = some r1) :
    Calls prog 114 #[.agg [.slice A_a e1.length c_a].toArray, I tet, I k_] w (impl_Triangulation_change41.post w0 L r1) := by
  unfold impl_Triangulation_change41.f at H
  refine cG func114 Z ?_
  refine sQ (rG (bA HS Z fun b1 wd2 HS => aS Z (nL (sQ ?_))))
  obtain ⟨t3, t4, t5, t6, t7, t8, t9, t10, t11, h12, H⟩ := bind9_elim H
  refine rG (lW 0 HS Z ag31 (pS 2 Z (fJ fok143 Z (impl_Triangulation_star.calls HS (rD 1 r_a) h12) (fun _ wd13 ⟨h14, HS⟩ => ⟨_, h14, (pS 3 Z (GO.alloc HS Z zr174 Z Z fun b15 wd16 HS => sW 0 HS Z ag174 Z fun wd17 HS => aS Z (nL (rN 3 Z ?_))))⟩))))
  rcases iS H with ⟨c18, H⟩ | ⟨c18, H⟩
  ·
   refine yB Z (congrArg Bool.not (bnot_of c18)) (rN 2 Z ?_)
   replace HS := HS.emp
   obtain rfl := sI H
   exact rT _ func114 Z Z ⟨0, none, 0, 0, none, 0, Z, (HS.pk 3 [0] Z)⟩
  refine nB Z (congrArg Bool.not c18) (rN 2 Z ?_)
  obtain ⟨t19, t20, t21, t22, h23, H⟩ := bind4_elim H
  refine rG ?_
  replace HS := HS.nilRow (TInt .i64) 2 (fun _ => ())
  replace HS := HS.pk 3 [0, 1, 2] Z
  refine fJ fok136 Z (have q := impl_newChange.calls HS  h23; q) (fun _ wd30 ⟨b24, A25, c26, b27, A28, c29, h31, HS⟩ => ⟨_, h31, (aS Z (nL (rN 2 Z (rG (lW 4 HS Z ag174 (mV Z (nL (rN 2 Z ?_))))))))⟩)
  refine G.name (fun k1 m1 => ?_)
  have h1 : ∀ c1, c1 ≤ K → ∀ (A64 : Option Addr) (c65 : Nat) (a1 : List Int) (d1 : List (Arr2 × GPlace)) (x68 : Int) (w : World), impl_Triangulation_change41.l1 K c1 t3 t4 t5 t6 t7 t8 t9 t10 t21 t22 a1 d1 x68 = some r1 → St w0 w (Box b24 104 [.slice A64 a1.length c65, .map (some b27), I t21, .slice A28 t22.length c29] :: Own (TInt .i64) 2 A64 c65 (fun _ => ()) a1 :: MapG b27 ke_Arr2 ke_GPlace d1 :: Own T_Arr4 131 A28 c29 (fun _ => ()) t22 :: L) → G prog 114 53 [(9, .pointer (some ⟨b24, 0, none⟩)), (22, .agg [I t3, I t4, I t5, I t6, I t7, I t8, I t9, I t10].toArray), (23, I x68)] k1 w (impl_Triangulation_change41.post w0 L r1) := by
   intro c1
   induction c1 using Nat.strongRecOn with
   | _ c1 f1 =>
    intro i1 A64 c65 a1 d1 x68 w H HS
    cases c1 with
    | zero => rw [impl_Triangulation_change41.l1] at H; cases H
    | succ g1 =>
     rw [impl_Triangulation_change41.l1] at H
     subst m1
     refine rN 3 Z ?_
     rcases iS H with ⟨c103, H⟩ | ⟨c103, H⟩
     ·
      refine nB Z (tF c103) (rN 3 Z ?_)
      replace HS := St.opt (F := (fun x => [Box b24 104 [.slice A64 x.1.length c65, .map (some b27), I x.2.2.1, .slice A28 x.2.2.2.length c29], Own (TInt .i64) 2 A64 c65 (fun _ => ()) x.1, MapG b27 ke_Arr2 ke_GPlace x.2.1, Own T_Arr4 131 A28 c29 (fun _ => ()) x.2.2.2])) (a1, d1, t21, t22) HS Z
      obtain rfl := sI H
      exact rT _ func114 Z Z ⟨_, _, _, _, _, _, Z, HS⟩
     refine yB Z (tT c103) (rN 4 Z ?_)
     obtain ⟨c104, H⟩ := iN H
     refine rG (mV Z (GO.ixArrA (sz := 2) (fun u_ => [I (([t3, t5, t7, t9] : List Int).getD u_ 0), I (([t4, t6, t8, t10] : List Int).getD u_ 0)]) Z Z Z U174 ag127 c104 (four Z Z Z Z) Z (GO.alloc HS Z zr127 Z Z fun b105 wd106 HS => aS Z (sW 0 HS Z ag127 Z fun wd107 HS => nL (sQ ?_)))))
     obtain ⟨c113, H⟩ := iN H
     refine G.lexS mixed (fun w => St w0 w (Box b105 127 [I (([t3, t5, t7, t9] : List Int).getD x68.toNat 0), I (([t4, t6, t8, t10] : List Int).getD x68.toNat 0)] :: Box b24 104 [.slice A64 a1.length c65, .map (some b27), I t21, .slice A28 t22.length c29] :: L)) [4, 6] [0, 1, 2, 3, 5, 4, 6, 7, 8, 9, 10, 11] [11] (by kernel_rfl) (by kernel_rfl) (HS.drew.pk 5 [0, 1] Z) ?_
     replace HS := HS.drew
     refine GX.ps 2 Z (qL Z Z (fun _ _ g => GO.nilP Z Z Z g) Z (qL Z Z (fun _ _ g => fL b24 0 fl104_0 Z g) Z (qL Z Z (fun _ _ g => fL b105 0 fl127_0 Z g) Z (GX.ls Z Z Z (HS.pk 5 [0, 1] Z) (fun _ HS _ g => lB 1 HS Z na56 Z g) Z (GX.ls Z Z Z (HS.pk 5 [0, 1] Z) (fun _ HS _ g => lB 0 HS Z na2 Z g) Z (GX.l2 Z (GO.buildS (el := 2) ([I (([t3, t5, t7, t9] : List Int).getD x68.toNat 0)]) HS Z Z (fun _ => by kernel_rfl) Z fun b108 wd109 HS => GX.fin (HS.pk 6 [1, 2] Z) (GX.l2 Z (GO.app1 (T := (TInt .i64)) (j := 3) (jb := 0) (([t3, t5, t7, t9] : List Int).getD x68.toNat 0) HS Z Z flat_flat Z Z Z U56 inf2 Z Z Z c113 Z fun A111 c112 wd110 HS => GX.fin (HS.pk 6 [1, 2] Z) (qL Z Z (fun _ _ g => GO.nilP Z Z Z g) Z (qL Z Z (fun _ _ g => fL b24 0 fl104_0 Z g) Z (GX.l2 Z ?_))))))))))))
     refine GO.stBox (j := 2) (vs := [.slice A111 (a1 ++ [(([t3, t5, t7, t9] : List Int).getD x68.toNat 0)]).length c112]) ([.slice A111 (a1 ++ [(([t3, t5, t7, t9] : List Int).getD x68.toNat 0)]).length c112, .map (some b27), I t21, .slice A28 t22.length c29]) HS Z Z Z Z Z (htN na56 Z) Z Z Z fun wd114 HS => GX.finZ Z (GX.nil ?_)
     obtain ⟨t115, h116, H⟩ := bI H
     obtain ⟨t119, t120, t121, t122, h123, H⟩ := bind4_elim H
     obtain ⟨t126, t127, t128, t129, h130, H⟩ := bind4_elim H
     obtain ⟨t133, h134, H⟩ := bI H
     refine G.lexS mixed (fun w => St w0 w (Box b105 127 [I (([t3, t5, t7, t9] : List Int).getD x68.toNat 0), I (([t4, t6, t8, t10] : List Int).getD x68.toNat 0)] :: L)) [2, 4, 10] [0, 1, 3, 7, 9, 2, 4, 10, 5, 6, 8, 11, 12] [] (by kernel_rfl) (by kernel_rfl) (HS.drew.pk 6 [1] Z) ?_
     replace HS := HS.drew
     refine GX.ps 1 Z (qL Z Z (fun _ _ g => fL b105 0 fl127_0 Z g) Z (qL Z Z (fun _ _ g => fL b105 1 fl127_1 Z g) Z (GX.ps 1 Z (qL Z Z (fun _ _ g => fL b105 1 fl127_1 Z g) Z (GX.ls Z Z Z (HS.pk 6 [1] Z) (fun _ HS _ g => lB 0 HS Z na2 Z g) Z (GX.ls Z Z Z (HS.pk 6 [1] Z) (fun _ HS _ g => lB 0 HS Z na2 Z g) Z (GX.ls Z Z Z (HS.pk 6 [1] Z) (fun _ HS _ g => lB 0 HS Z na2 Z g) Z (GX.l2 Z (fJ fok95 Z (impl_invert.calls HS  h116) (fun _ wd117 ⟨h118, HS⟩ => ⟨_, h118, (GX.fin (HS.pk 6 [1] Z) (GX.l2 Z (fJ fok93 Z (impl_perm.calls HS  h123) (fun _ wd124 ⟨h125, HS⟩ => ⟨_, h125, (GX.fin (HS.pk 6 [1] Z) (qL Z Z (fun _ _ g => GO.ixArr ([t119, t120, t121, t122] : List Int) Z Z Z U131 U2 sz2 Z c104.1 c104.2 Z g) Z ?_))⟩))))⟩))))))))))
     refine GX.l2 Z (fJ fok93 Z (impl_perm.calls HS  h130) (fun _ wd131 ⟨h132, HS⟩ => ⟨_, h132, (GX.fin (HS.pk 6 [1] Z) (GX.l2 Z ?_))⟩))
     replace HS := HS.pk 6 [2, 4, 0, 1, 3, 5] Z
     refine fJ fok138 Z (impl_change_put.calls HS (RdIn.own (j := 2) Z) (RdIn.own (j := 3) Z) h134) (fun _ wd135 ⟨h136, HS⟩ => ⟨_, h136, (GX.fin (HS.pk 6 [3] Z) (GX.nil (rN 3 Z (G.weak ?_ (f1 g1 (Nat.lt_succ_of_le (lR _)) (Nat.le_of_succ_le i1) _ _ _ _ _ _ H (HS.pk 6 [0, 4, 1, 5] Z))))))⟩)
     exact ⟨Z, Z, Z, tv⟩
  refine G.weak ?_ (h1 K (lR _) _ _ _ _ _ _ H (HS.pk 6 [0, 1, 2, 3] Z))
  exact ⟨Z, Z, Z, tv⟩
theorem impl_Triangulation_change.calls {a1 : List (List GFace)} {e1 d1 c1 : Int} {y_a : Nat → (Ty.slice 107 T_GFace).Lay} {r1 : Option (List Int × List (Arr2 × GPlace) × Int × List Arr4)} (HS : St w0 w (L)) (r_a : RdIn w0 L (Ty.slice 107 T_GFace) A_a c_a y_a a1) (H : impl_Triangulation_change.f K a1 e1 d1 c1 = some r1) :
    Calls prog 73 #[.agg [.slice A_a a1.length c_a].toArray, .agg [I e1, I d1, I c1].toArray] w (impl_Triangulation_change.post w0 L r1) := by
  unfold impl_Triangulation_change.f at H
  refine cG func73 Z ?_
  refine sQ (rG (bA HS Z fun b1 wd2 HS => bA HS Z fun b3 wd4 HS => aS Z (nL (rN 2 Z (rG (fL b3 0 fl33_0 Z (lB 0 HS Z na2 Z (nL (rN 3 Z ?_)))))))))
  rcases iE H with ⟨c5, H⟩ | ⟨c5, H⟩
  ·
   refine yB Z (tT c5) (sQ ?_)
   obtain ⟨t6, h7, H⟩ := bI H
   refine rG (lW 1 HS Z ag31 (fL b3 1 fl33_1 Z (lB 0 HS Z na2 Z (fL b3 2 fl33_2 Z (lB 0 HS Z na2 Z (fJ fok111 Z (impl_Triangulation_change23.calls HS (rD 2 r_a) h7) (fun _ wd14 ⟨b8, A9, c10, b11, A12, c13, h15, HS⟩ => ⟨_, h15, (aS Z (nL ?_))⟩)))))))
   obtain rfl := sI H
   exact rT _ func73 Z Z ⟨_, _, _, _, _, _, Z, (HS.pk 3 [0] Z)⟩
  refine nB Z (tF c5) (rN 2 Z ?_)
  rcases iE H with ⟨c16, H⟩ | ⟨c16, H⟩
  ·
   refine yB Z (tT c16) (sQ ?_)
   obtain ⟨t17, h18, H⟩ := bI H
   refine rG (lW 1 HS Z ag31 (fL b3 1 fl33_1 Z (lB 0 HS Z na2 Z (fL b3 2 fl33_2 Z (lB 0 HS Z na2 Z (fJ fok112 Z (impl_Triangulation_change32.calls HS (rD 2 r_a) h18) (fun _ wd25 ⟨b19, A20, c21, b22, A23, c24, h26, HS⟩ => ⟨_, h26, (aS Z (nL ?_))⟩)))))))
   obtain rfl := sI H
   exact rT _ func73 Z Z ⟨_, _, _, _, _, _, Z, (HS.pk 3 [0] Z)⟩
  refine nB Z (tF c16) (rN 2 Z ?_)
  rcases iS H with ⟨c27, H⟩ | ⟨c27, H⟩
  ·
   refine nB Z (tF c27) (rN 3 Z ?_)
   obtain ⟨t41, h42, H⟩ := bI H
   refine rG (lW 1 HS Z ag31 (fL b3 1 fl33_1 Z (lB 0 HS Z na2 Z (fL b3 2 fl33_2 Z (lB 0 HS Z na2 Z (fJ fok114 Z (impl_Triangulation_change41.calls HS (rD 2 r_a) h42) (fun _ wd49 ⟨b43, A44, c45, b46, A47, c48, h50, HS⟩ => ⟨_, h50, (aS Z (nL ?_))⟩)))))))
   obtain rfl := sI H
   exact rT _ func73 Z Z ⟨_, _, _, _, _, _, Z, (HS.pk 3 [0] Z)⟩
  refine yB Z (tT c27) (sQ ?_)
  obtain ⟨t28, t29, t30, t31, h32, H⟩ := bind4_elim H
  refine rG (fL b3 1 fl33_1 Z (lB 0 HS Z na2 Z (fJ fok113 Z (impl_change14.calls HS  h32) (fun _ wd39 ⟨b33, A34, c35, b36, A37, c38, h40, HS⟩ => ⟨_, h40, (aS Z (nL ?_))⟩))))
  replace HS := St.opt (F := (fun x => [Box b33 104 [.slice A34 x.1.length c35, .map (some b36), I x.2.2.1, .slice A37 x.2.2.2.length c38], Own (TInt .i64) 2 A34 c35 (fun _ => ()) x.1, MapG b36 ke_Arr2 ke_GPlace x.2.1, Own T_Arr4 131 A37 c38 (fun _ => ()) x.2.2.2])) (t28, t29, t30, t31) HS Z
  obtain rfl := sI H
  exact rT _ func73 Z Z ⟨_, _, _, _, _, _, Z, (HS.pk 3 [0] Z)⟩
theorem impl_Triangulation_moveCode.calls {a1 : List (List GFace)} {e1 d1 c1 : Int} {y_a : Nat → (Ty.slice 107 T_GFace).Lay} {r1 : Option (List Int × List (Arr2 × GPlace) × Int × List Arr4)} {r2 : Int} (HS : St w0 w (L)) (r_a : RdIn w0 L (Ty.slice 107 T_GFace) A_a c_a y_a a1) (H : impl_Triangulation_moveCode.f K a1 e1 d1 c1 = some (r1, r2)) :
    Calls prog 43 #[.agg [.slice A_a a1.length c_a].toArray, .agg [I e1, I d1, I c1].toArray] w (impl_Triangulation_moveCode.post w0 L r1 r2) := by
  unfold impl_Triangulation_moveCode.f at H
  refine cG func43 Z ?_
  refine sQ (rG (bA HS Z fun b1 wd2 HS => bA HS Z fun b3 wd4 HS => pS 2 Z (nL (rN 2 Z ?_))))
  obtain ⟨t18, h19, H⟩ := bI H
  rcases iS H with ⟨c22, H⟩ | ⟨c22, H⟩
  ·
   refine G.lexS mixed (fun w => St w0 w (Box b3 33 [I e1, I d1, I c1] :: Box b1 31 [.slice A_a a1.length c_a] :: L)) [1, 3, 8, 10] [0, 2, 1, 3, 4, 5, 6, 7, 9, 8, 10, 11, 12, 13, 14, 15] [] (by kernel_rfl) (by kernel_rfl) HS.drew ?_
   replace HS := HS.drew
   refine qL Z Z (fun _ _ g => fL b1 0 fl31_0 Z g) Z (qL Z Z (fun _ _ g => fL b3 1 fl33_1 Z g) Z (GX.ls Z Z Z HS (fun _ HS _ g => lB 1 HS Z na29 Z g) Z (GX.ls Z Z Z HS (fun _ HS _ g => lB 0 HS Z na2 Z g) Z (GX.l2 Z (fJ fok70 Z (impl_hasIndex_impl_Face.calls HS (rD 2 r_a) h19) (fun _ wd20 ⟨h21, HS⟩ => ⟨_, h21, (GX.fin HS (GX.ps 1 Z (qL Z Z (fun _ _ g => mV Z (kN 13 Z (congrArg Bool.not (bnot_of c22)) g)) Z (qL Z Z (fun _ _ g => oF Z g) Z (qL Z Z (fun _ _ g => oF Z g) Z (GX.ls Z Z Z HS (fun _ HS _ g => oF Z g) Z (GX.ls Z Z Z HS (fun _ HS _ g => oF Z g) Z (GX.l2 Z (oF Z ?_)))))))))⟩))))))
   refine GX.fin HS (qL Z Z (fun _ _ g => oF Z g) Z (GX.l2 Z (oF Z (GX.fin HS (qL Z Z (fun _ _ g => oF Z g) Z (GX.ps 1 Z (GX.nil (rN 3 Z ?_))))))))
   replace HS := HS.emp
   obtain ⟨rfl, rfl⟩ := some2 H
   exact G.ret2 _ _ func43 Z Z Z ⟨0, none, 0, 0, none, 0, Z, (HS.pk 3 [0] Z)⟩
  obtain ⟨t23, h24, H⟩ := bI H
  obtain ⟨t27, h28, H⟩ := bI H
  refine G.lexS mixed (fun w => St w0 w (Box b3 33 [I e1, I d1, I c1] :: Box b1 31 [.slice A_a a1.length c_a] :: L)) [1, 3, 8, 10] [0, 2, 1, 3, 4, 5, 6, 7, 9, 8, 10, 11, 12, 13, 14, 15] [] (by kernel_rfl) (by kernel_rfl) HS.drew ?_
  replace HS := HS.drew
  refine qL Z Z (fun _ _ g => fL b1 0 fl31_0 Z g) Z (qL Z Z (fun _ _ g => fL b3 1 fl33_1 Z g) Z (GX.ls Z Z Z HS (fun _ HS _ g => lB 1 HS Z na29 Z g) Z (GX.ls Z Z Z HS (fun _ HS _ g => lB 0 HS Z na2 Z g) Z (GX.l2 Z (fJ fok70 Z (impl_hasIndex_impl_Face.calls HS (rD 2 r_a) h19) (fun _ wd20 ⟨h21, HS⟩ => ⟨_, h21, (GX.fin HS (GX.ps 1 Z (qL Z Z (fun _ _ g => mV Z (kN 13 Z (congrArg Bool.not c22) g)) Z (qL Z Z (fun _ _ g => oN Z (fL b3 2 fl33_2 Z (bK g))) Z (qL Z Z (fun _ _ g => oN Z (fL b3 0 fl33_0 Z (bK g))) Z (GX.ls Z Z Z HS (fun _ HS _ g => oN Z (lB 0 HS Z na2 Z (bK g))) Z (GX.ls Z Z Z HS (fun _ HS _ g => oN Z (lB 0 HS Z na2 Z (bK g))) Z (GX.l2 Z (oN Z ?_)))))))))⟩))))))
  refine fJ fok72 Z (impl_indices.calls HS  h24) (fun _ wd25 ⟨h26, HS⟩ => ⟨_, h26, (bK (GX.fin HS (qL Z Z (fun _ _ g => oN Z (GO.sub Z Z Z Z (bK g))) Z (GX.l2 Z (oN Z (fJ fok71 Z (impl_inRange.calls HS  h28) (fun _ wd29 ⟨h30, HS⟩ => ⟨_, h30, (bK (GX.fin HS (qL Z Z (fun _ _ g => oN Z (GO.not Z Z Z (bK g))) Z (GX.ps 1 Z (GX.nil ?_)))))⟩)))))))⟩)
  rcases iS H with ⟨c31, H⟩ | ⟨c31, H⟩
  ·
   refine yB Z (congrArg Bool.not (bnot_of c31)) (rN 2 Z ?_)
   replace HS := HS.emp
   obtain ⟨rfl, rfl⟩ := some2 H
   exact G.ret2 _ _ func43 Z Z Z ⟨0, none, 0, 0, none, 0, Z, (HS.pk 3 [0] Z)⟩
  refine nB Z (congrArg Bool.not c31) (rN 2 Z ?_)
  obtain ⟨t32, h33, H⟩ := bI H
  refine rG (lW 1 HS Z ag31 (lW 0 HS Z ag33 (fJ fok73 Z (impl_Triangulation_change.calls HS (rD 2 r_a) h33) (fun _ wd40 ⟨b34, A35, c36, b37, A38, c39, h41, HS⟩ => ⟨_, h41, (aS Z (nL (rN 3 Z (rG (mV Z (GO.eqlNP Z Z Z Option.isNone_map U70 Z (aS Z (nL ?_))))))))⟩))))
  rcases optC_elim H with ⟨h44, H⟩ | ⟨x43, h44, H⟩
  ·
   subst h44
   replace HS := HS.tail
   refine rN 3 Z ?_
   replace HS := HS.emp
   obtain ⟨rfl, rfl⟩ := some2 H
   exact G.ret2 _ _ func43 Z Z Z ⟨0, none, 0, 0, none, 0, Z, (HS.pk 3 [0] Z)⟩
  subst h44
  replace HS : St w0 _ (Box b34 104 [.slice A35 x43.1.length c36, .map (some b37), I x43.2.2.1, .slice A38 x43.2.2.2.length c39] :: Own (TInt .i64) 2 A35 c36 (fun _ => ()) x43.1 :: MapG b37 ke_Arr2 ke_GPlace x43.2.1 :: Own T_Arr4 131 A38 c39 (fun _ => ()) x43.2.2.2 :: Box b3 33 [I e1, I d1, I c1] :: Box b1 31 [.slice A_a a1.length c_a] :: L) := St.unopt HS
  refine nB Z (bnot_of Bool.false_ne_true) (sQ (G.lex mixed [0, 3, 4, 5, 9, 10, 11, 1, 2, 6, 7, 8, 12, 13, 14, 15] (by kernel_rfl) ?_))
  replace HS := HS.drew
  refine qL Z Z (fun _ _ g => fL b1 0 fl31_0 Z g) Z (GX.ps 1 Z (qL Z Z (fun _ _ g => GO.nilP Z Z Z g) Z (qL Z Z (fun _ _ g => fL b34 0 fl104_0 Z g) Z (GX.ps 1 Z (qL Z Z (fun _ _ g => GO.nilP Z Z Z g) Z (qL Z Z (fun _ _ g => fL b34 2 fl104_2 Z g) Z (GX.l1 Z Z Z (fun _ g => lB 5 HS Z na29 Z g) Z (GX.l1 Z Z Z (fun _ g => lS Z Z U29 Z g) Z (GX.l1 Z Z Z (fun _ g => lB 0 HS Z na56 Z g) Z (GX.l1 Z Z Z (fun _ g => lS Z Z U56 Z g) Z (GX.ps 1 Z (GX.l1 Z Z Z (fun _ g => lB 0 HS Z na2 Z g) Z (GX.ps 3 Z (GX.nil ?_))))))))))))))
  rcases iE H with ⟨c45, H⟩ | ⟨c45, H⟩
  ·
   refine yB Z (tT c45) (rN 2 Z ?_)
   replace HS := HS.emp
   obtain ⟨rfl, rfl⟩ := some2 H
   exact G.ret2 _ _ func43 Z Z Z ⟨0, none, 0, 0, none, 0, Z, (HS.pk 7 [0] Z)⟩
  refine nB Z (tF c45) (rN 4 Z ?_)
  replace HS := St.opt (F := (fun x => [Box b34 104 [.slice A35 x.1.length c36, .map (some b37), I x.2.2.1, .slice A38 x.2.2.2.length c39], Own (TInt .i64) 2 A35 c36 (fun _ => ()) x.1, MapG b37 ke_Arr2 ke_GPlace x.2.1, Own T_Arr4 131 A38 c39 (fun _ => ()) x.2.2.2])) (x43.1, x43.2.1, x43.2.2.1, x43.2.2.2) HS Z
  obtain ⟨rfl, rfl⟩ := some2 H
  exact G.ret2 _ _ func43 Z Z Z ⟨_, _, _, _, _, _, Z, (HS.pk 3 [0] Z)⟩
theorem impl_MoveCode.calls {a1 : List (List GFace)} {e1 d1 c1 : Int} {y_a : Nat → (Ty.slice 107 T_GFace).Lay} {r1 : Int} (HS : St w0 w (L)) (r_a : RdIn w0 L (Ty.slice 107 T_GFace) A_a c_a y_a a1) (H : impl_MoveCode.f K a1 e1 d1 c1 = some r1) :
    Calls prog 14 #[.agg [.slice A_a a1.length c_a].toArray, .agg [I e1, I d1, I c1].toArray] w (impl_MoveCode.post w0 L r1) := by
  unfold impl_MoveCode.f at H
  refine cG func14 Z ?_
  refine sQ (rG (bA HS Z fun b1 wd2 HS => bA HS Z fun b3 wd4 HS => aS Z (nL (rN 2 Z ?_))))
  obtain ⟨t5, h6, H⟩ := bI H
  refine rG (lW 1 HS Z ag31 (fJ fok42 Z (impl_isTriangulation.calls HS (rD 2 r_a) h6) (fun _ wd7 ⟨h8, HS⟩ => ⟨_, h8, (GO.not Z Z Z (nL ?_))⟩)))
  rcases iS H with ⟨c9, H⟩ | ⟨c9, H⟩
  ·
   refine yB Z (congrArg Bool.not (bnot_of c9)) (rN 2 Z ?_)
   obtain rfl := sI H
   exact rT _ func14 Z Z ⟨Z, (HS.pk 2 [] Z)⟩
  refine nB Z (congrArg Bool.not c9) (rN 2 Z ?_)
  obtain ⟨t10, t11, h12, H⟩ := bind2_elim H
  refine rG (lW 1 HS Z ag31 (lW 0 HS Z ag33 (fJ fok43 Z (impl_Triangulation_moveCode.calls HS (rD 2 r_a) h12) (fun _ wd19 ⟨b13, A14, c15, b16, A17, c18, h20, HS⟩ => ⟨_, h20, (pS 5 Z (nL (rN 2 Z ?_)))⟩))))
  obtain rfl := sI H
  exact rT _ func14 Z Z ⟨Z, (HS.pk 3 [] Z)⟩
theorem laws_eqFace.calls {d1 c1 : Int} {e1 a1 : Int} {r1 : Bool} (HS : St w0 w (L)) (H : laws_eqFace.f d1 c1 e1 a1 = some r1) :
    Calls prog 115 #[.agg [I d1, I c1].toArray, .agg [I e1, I a1].toArray] w (laws_eqFace.post w0 L r1) := by
  unfold laws_eqFace.f at H
  refine cG func115 Z ?_
  refine sQ (rG (bA HS Z fun b1 wd2 HS => bA HS Z fun b3 wd4 HS => aS Z (nL (rN 2 Z (rG (fL b1 0 fl107_0 Z (lB 1 HS Z na2 Z (fL b3 0 fl107_0 Z (lB 0 HS Z na2 Z (GO.neq Z Z Z Z (nL ?_)))))))))))
  rcases iS H with ⟨c5, H⟩ | ⟨c5, H⟩
  ·
   refine yB Z (nF c5) (rN 2 Z ?_)
   obtain rfl := sI H
   exact rT _ func115 Z Z ⟨Z, (HS.pk 2 [] Z)⟩
  refine nB Z (nT c5) (rN 3 Z (rG (fL b1 1 fl107_1 Z (lB 1 HS Z na2 Z (fL b3 1 fl107_1 Z (lB 0 HS Z na2 Z (GO.neq Z Z Z Z (nL ?_))))))))
  rcases iS H with ⟨c6, H⟩ | ⟨c6, H⟩
  ·
   refine yB Z (nF c6) (rN 2 Z ?_)
   obtain rfl := sI H
   exact rT _ func115 Z Z ⟨Z, (HS.pk 2 [] Z)⟩
  refine nB Z (nT c6) (rN 3 Z ?_)
  obtain rfl := sI H
  exact rT _ func115 Z Z ⟨Z, (HS.pk 2 [] Z)⟩
theorem laws_eqFaceS.calls {a_ b_ : List GFace} {r1 : Bool} (HS : St w0 w (L)) (r_a : RdIn w0 L T_GFace A_a c_a (fun _ => ()) a_) (r_b : RdIn w0 L T_GFace A_b c_b (fun _ => ()) b_) (H : laws_eqFaceS.f K a_ b_ = some r1) :
    Calls prog 74 #[.slice A_a a_.length c_a, .slice A_b b_.length c_b] w (laws_eqFaceS.post w0 L r1) := by
  unfold laws_eqFaceS.f at H
  refine cG func74 Z ?_
  refine rN 4 Z (rG (mV Z (lS Z Z U77 Z (mV Z (lS Z Z U77 Z (GO.neq Z Z Z Z (nL ?_)))))))
  rcases iS H with ⟨c1, H⟩ | ⟨c1, H⟩
  ·
   refine yB Z (nF c1) (rN 2 Z ?_)
   obtain rfl := sI H
   exact rT _ func74 Z Z ⟨Z, HS⟩
  refine nB Z (nT c1) (rN 6 Z ?_)
  refine G.name (fun h1 i1 => ?_)
  have f1 : ∀ a1, a1 ≤ K → ∀ (b1 : Int) (w : World), laws_eqFaceS.l1 K a1 a_ b_ b1 = some r1 → St w0 w (L) → G prog 74 27 [(0, .slice A_a a_.length c_a), (1, .slice A_b b_.length c_b), (5, I b1)] h1 w (laws_eqFaceS.post w0 L r1) := by
   intro a1
   induction a1 using Nat.strongRecOn with
   | _ a1 d1 =>
    intro g1 b1 w H HS
    cases a1 with
    | zero => rw [laws_eqFaceS.l1] at H; cases H
    | succ e1 =>
     rw [laws_eqFaceS.l1] at H
     subst i1
     refine rN 2 Z (rG (pS 2 Z (lS Z Z U77 Z (GO.lss Z Z Z Z (nL ?_)))))
     rcases iS H with ⟨c27, H⟩ | ⟨c27, H⟩
     ·
      refine nB Z (tF c27) (rN 3 Z ?_)
      obtain rfl := sI H
      exact rT _ func74 Z Z ⟨Z, HS⟩
     refine yB Z (tT c27) (rN 4 Z ?_)
     obtain ⟨c28, H⟩ := iN H
     obtain ⟨e29, h30, H⟩ := bnd_elim H
     obtain ⟨c31, H⟩ := iN H
     obtain ⟨e32, h33, H⟩ := bnd_elim H
     obtain ⟨t34, h35, H⟩ := bI H
     refine G.lex mixed [0, 1, 2, 4, 5, 6, 3, 7, 8, 9] (by kernel_rfl) ?_
     replace HS := HS.drew
     refine GX.ps 2 Z (qL Z Z (fun _ _ g => GO.ix Z Z Z U77 sz107 (r_a _ HS).2.2.1 c28.1 c28.2 Z g) Z (GX.ps 2 Z (qL Z Z (fun _ _ g => GO.ix Z Z Z U77 sz107 (r_b _ HS).2.2.1 c31.1 c31.2 Z g) Z (GX.l1 Z Z Z (fun _ g => GO.ldRdA (T := T_GFace) (n := b1.toNat) HS r_a Z Z (getD_eq (ltN c28) h30) ag107 Z g) Z (GX.l1 Z Z Z (fun _ g => GO.ldRdA (T := T_GFace) (n := b1.toNat) HS r_b Z Z (getD_eq (ltN c31) h33) ag107 Z g) Z (GX.l2 Z (fJ fok115 Z (laws_eqFace.calls HS  h35) (fun _ wd36 ⟨h37, HS⟩ => ⟨_, h37, (GX.fin tv (GX.ps 1 Z (GX.nil ?_)))⟩))))))))
     rcases iS H with ⟨c38, H⟩ | ⟨c38, H⟩
     ·
      refine yB Z (congrArg Bool.not (bnot_of c38)) (rN 2 Z ?_)
      obtain rfl := sI H
      exact rT _ func74 Z Z ⟨Z, HS⟩
     refine nB Z (congrArg Bool.not c38) (rN 4 Z (G.weak ?_ (d1 e1 (Nat.lt_succ_of_le (lR _)) (Nat.le_of_succ_le g1) _ _ H HS)))
     exact ⟨Z, Z, Z, tv⟩
  refine G.weak ?_ (f1 K (lR _) _ _ H HS)
  exact ⟨Z, Z, Z, tv⟩
theorem laws_eqFaceSS.calls {a_ b_ : List (List GFace)} {y_a : Nat → (Ty.slice 107 T_GFace).Lay} {y_b : Nat → (Ty.slice 107 T_GFace).Lay} {r1 : Bool} (HS : St w0 w (L)) (r_a : RdIn w0 L (Ty.slice 107 T_GFace) A_a c_a y_a a_) (r_b : RdIn w0 L (Ty.slice 107 T_GFace) A_b c_b y_b b_) (H : laws_eqFaceSS.f K a_ b_ = some r1) :
    Calls prog 44 #[.slice A_a a_.length c_a, .slice A_b b_.length c_b] w (laws_eqFaceSS.post w0 L r1) := by
  unfold laws_eqFaceSS.f at H
  refine cG func44 Z ?_
  refine rN 4 Z (rG (mV Z (lS Z Z U29 Z (mV Z (lS Z Z U29 Z (GO.neq Z Z Z Z (nL ?_)))))))
  rcases iS H with ⟨c1, H⟩ | ⟨c1, H⟩
  ·
   refine yB Z (nF c1) (rN 2 Z ?_)
   obtain rfl := sI H
   exact rT _ func44 Z Z ⟨Z, HS⟩
  refine nB Z (nT c1) (rN 6 Z ?_)
  refine G.name (fun h1 i1 => ?_)
  have f1 : ∀ a1, a1 ≤ K → ∀ (b1 : Int) (w : World), laws_eqFaceSS.l1 K a1 a_ b_ b1 = some r1 → St w0 w (L) → G prog 44 27 [(0, .slice A_a a_.length c_a), (1, .slice A_b b_.length c_b), (5, I b1)] h1 w (laws_eqFaceSS.post w0 L r1) := by
   intro a1
   induction a1 using Nat.strongRecOn with
   | _ a1 d1 =>
    intro g1 b1 w H HS
    cases a1 with
    | zero => rw [laws_eqFaceSS.l1] at H; cases H
    | succ e1 =>
     rw [laws_eqFaceSS.l1] at H
     subst i1
     refine rN 2 Z (rG (pS 2 Z (lS Z Z U29 Z (GO.lss Z Z Z Z (nL ?_)))))
     rcases iS H with ⟨c19, H⟩ | ⟨c19, H⟩
     ·
      refine nB Z (tF c19) (rN 3 Z ?_)
      obtain rfl := sI H
      exact rT _ func44 Z Z ⟨Z, HS⟩
     refine yB Z (tT c19) (rN 4 Z ?_)
     obtain ⟨c20, H⟩ := iN H
     obtain ⟨c21, H⟩ := iN H
     obtain ⟨t22, h23, H⟩ := bI H
     refine G.lex mixed [0, 1, 2, 4, 5, 6, 3, 7, 8, 9] (by kernel_rfl) ?_
     replace HS := HS.drew
     refine GX.ps 2 Z (qL Z Z (fun _ _ g => GO.ix Z Z Z U29 sz77 (r_a _ HS).2.2.1 c20.1 c20.2 Z g) Z (GX.ps 2 Z (qL Z Z (fun _ _ g => GO.ix Z Z Z U29 sz77 (r_b _ HS).2.2.1 c21.1 c21.2 Z g) Z (GX.l1 Z Z Z (fun _ g => GO.ldRd (T := (Ty.slice 107 T_GFace)) (n := b1.toNat) (o := 0) HS r_a Z Z (getD_some (d := []) (ltN c20)) Z Z na77 Z g) Z (GX.l1 Z Z Z (fun _ g => GO.ldRd (T := (Ty.slice 107 T_GFace)) (n := b1.toNat) (o := 0) HS r_b Z Z (getD_some (d := []) (ltN c21)) Z Z na77 Z g) Z (GX.l2 Z (fJ fok74 Z (laws_eqFaceS.calls HS (RdIn.elem r_a c20.1 c20.2) (RdIn.elem r_b c21.1 c21.2) h23) (fun _ wd24 ⟨h25, HS⟩ => ⟨_, h25, (GX.fin tv (GX.ps 1 Z (GX.nil ?_)))⟩))))))))
     rcases iS H with ⟨c26, H⟩ | ⟨c26, H⟩
     ·
      refine yB Z (congrArg Bool.not (bnot_of c26)) (rN 2 Z ?_)
      obtain rfl := sI H
      exact rT _ func44 Z Z ⟨Z, HS⟩
     refine nB Z (congrArg Bool.not c26) (rN 4 Z (G.weak ?_ (d1 e1 (Nat.lt_succ_of_le (lR _)) (Nat.le_of_succ_le g1) _ _ H HS)))
     exact ⟨Z, Z, Z, tv⟩
  refine G.weak ?_ (f1 K (lR _) _ _ H HS)
  exact ⟨Z, Z, Z, tv⟩
theorem laws_eqTriangulation.calls {c1 a1 : List (List GFace)} {y_a : Nat → (Ty.slice 107 T_GFace).Lay} {y_b : Nat → (Ty.slice 107 T_GFace).Lay} {r1 : Bool} (HS : St w0 w (L)) (r_a : RdIn w0 L (Ty.slice 107 T_GFace) A_a c_a y_a c1) (r_b : RdIn w0 L (Ty.slice 107 T_GFace) A_b c_b y_b a1) (H : laws_eqTriangulation.f K c1 a1 = some r1) :
    Calls prog 15 #[.agg [.slice A_a c1.length c_a].toArray, .agg [.slice A_b a1.length c_b].toArray] w (laws_eqTriangulation.post w0 L r1) := by
  unfold laws_eqTriangulation.f at H
  refine cG func15 Z ?_
  refine sQ (rG (bA HS Z fun b1 wd2 HS => bA HS Z fun b3 wd4 HS => aS Z (nL (rN 2 Z ?_))))
  obtain ⟨t5, h6, H⟩ := bI H
  refine rG (fL b1 0 fl31_0 Z (lB 1 HS Z na29 Z (fL b3 0 fl31_0 Z (lB 0 HS Z na29 Z (fJ fok44 Z (laws_eqFaceSS.calls HS (rD 2 r_a) (rD 2 r_b) h6) (fun _ wd7 ⟨h8, HS⟩ => ⟨_, h8, (GO.not Z Z Z (nL ?_))⟩))))))
  rcases iS H with ⟨c9, H⟩ | ⟨c9, H⟩
  ·
   refine yB Z (congrArg Bool.not (bnot_of c9)) (rN 2 Z ?_)
   obtain rfl := sI H
   exact rT _ func15 Z Z ⟨Z, (HS.pk 2 [] Z)⟩
  refine nB Z (congrArg Bool.not c9) (rN 3 Z ?_)
  obtain rfl := sI H
  exact rT _ func15 Z Z ⟨Z, (HS.pk 2 [] Z)⟩
theorem laws_FnExactMoveCode.calls {a1 : List (List GFace)} {e1 c1 d1 : Int} {y_a : Nat → (Ty.slice 142 T_GFace).Lay} {r1 : Bool} (HS : St w0 w (L)) (r_a : RdIn w0 L (Ty.slice 142 T_GFace) A_a c_a y_a a1) (H : laws_FnExactMoveCode.f K a1 e1 c1 d1 = some r1) :
    Calls prog 3 #[.agg [.slice A_a a1.length c_a].toArray, .agg [I e1, I c1, I d1].toArray] w (laws_FnExactMoveCode.post w0 L r1) := by
  unfold laws_FnExactMoveCode.f at H
  refine cG func3 Z ?_
  refine sQ (rG (bA HS Z fun b1 wd2 HS => bA HS Z fun b3 wd4 HS => aS Z (nL (rN 3 Z ?_))))
  obtain ⟨t5, h6, H⟩ := bI H
  refine rG (lW 1 HS Z ag24 (mV Z (fJ fok10 Z (laws_szTriangulation.calls HS (rD 2 r_a) h6) (fun _ wd7 ⟨h8, HS⟩ => ⟨_, h8, (aS Z (nL (rN 3 Z ?_)))⟩))))
  rcases iE H with ⟨c9, H⟩ | ⟨c9, H⟩
  ·
   refine yB Z (tT c9) (rN 2 Z ?_)
   obtain rfl := sI H
   exact rT _ func3 Z Z ⟨Z, (HS.pk 2 [] Z)⟩
  refine nB Z (tF c9) (rN 2 Z ?_)
  obtain ⟨t10, h11, H⟩ := bI H
  obtain ⟨t17, t18, t19, h20, H⟩ := bind3_elim H
  obtain ⟨t23, h24, H⟩ := bI H
  refine G.lexS mixed (fun w => St w0 w (Box b3 26 [I e1, I c1, I d1] :: Box b1 24 [.slice A_a a1.length c_a] :: L)) [0, 2] [0, 2, 1, 3, 4, 5] [] (by kernel_rfl) (by kernel_rfl) HS.drew ?_
  replace HS := HS.drew
  refine GX.ls Z Z Z HS (fun _ HS _ g => lW 1 HS Z ag24 g) Z (GX.ls Z Z Z HS (fun _ HS _ g => lW 0 HS Z ag26 g) Z (GX.l2 Z (fJ fok12 Z (laws_toTriangulation.calls HS (rD 2 r_a) h11) (fun _ wd15 ⟨A12, c13, y14, h16, HS⟩ => ⟨_, h16, (GX.fin (HS.pk 3 [1, 2] Z) (GX.l2 Z (fJ fok13 Z (laws_toMove.calls HS  h20) (fun _ wd21 ⟨h22, HS⟩ => ⟨_, h22, (GX.fin (HS.pk 3 [1, 2] Z) (GX.l2 Z (fJ fok11 Z (spec_MoveCode.calls HS (RdIn.own (j := 0) Z) h24) (fun _ wd25 ⟨h26, HS⟩ => ⟨_, h26, (GX.fin (HS.pk 3 [1, 2] Z) (GX.ps 1 Z (GX.nil (sQ ?_))))⟩))))⟩))))⟩))))
  obtain ⟨t27, h28, H⟩ := bI H
  refine rG (lW 2 HS Z ag24 (fJ fok12 Z (laws_toTriangulation.calls HS (rD 3 r_a) h28) (fun _ wd32 ⟨A29, c30, y31, h33, HS⟩ => ⟨_, h33, (GO.alloc HS Z zr31 Z Z fun b34 wd35 HS => sW 0 HS Z ag31 Z fun wd36 HS => nL (sQ ?_))⟩)))
  obtain ⟨t37, t38, t39, h40, H⟩ := bind3_elim H
  obtain ⟨t43, h44, H⟩ := bI H
  refine G.lexS mixed (fun w => St w0 w (Box b34 31 [.slice A29 t27.length c30] :: Box b3 26 [I e1, I c1, I d1] :: L)) [0, 1] [0, 1, 2, 3, 4] [] (by kernel_rfl) (by kernel_rfl) (HS.drew.pk 5 [0, 3] Z) ?_
  replace HS := HS.drew
  refine GX.ls Z Z Z (HS.pk 5 [0, 3] Z) (fun _ HS _ g => lW 0 HS Z ag31 g) Z (GX.ls Z Z Z (HS.pk 5 [0, 3] Z) (fun _ HS _ g => lW 1 HS Z ag26 g) Z (GX.l2 Z (fJ fok13 Z (laws_toMove.calls HS  h40) (fun _ wd41 ⟨h42, HS⟩ => ⟨_, h42, (GX.fin (HS.pk 5 [0, 3] Z) (GX.l2 Z (fJ fok14 Z (impl_MoveCode.calls HS (RdIn.own (j := 1) Z) h44) (fun _ wd45 ⟨h46, HS⟩ => ⟨_, h46, (GX.fin (HS.pk 5 [0, 3] Z) (GX.ps 1 Z (GX.nil (rN 3 Z ?_))))⟩))))⟩))))
  rcases iS H with ⟨c47, H⟩ | ⟨c47, H⟩
  ·
   refine yB Z (nF c47) (rN 2 Z ?_)
   obtain rfl := sI H
   exact rT _ func3 Z Z ⟨Z, (HS.pk 5 [] Z)⟩
  refine nB Z (nT c47) (rN 3 Z ?_)
  obtain ⟨t48, h49, H⟩ := bI H
  obtain ⟨t55, h56, H⟩ := bI H
  refine G.lexS mixed (fun w => St w0 w (Box b34 31 [.slice A29 t27.length c30] :: Box b1 24 [.slice A_a a1.length c_a] :: L)) [0, 1] [0, 1, 2, 3, 4] [] (by kernel_rfl) (by kernel_rfl) (HS.drew.pk 5 [0, 4] Z) ?_
  replace HS := HS.drew
  refine GX.ls Z Z Z (HS.pk 5 [0, 4] Z) (fun _ HS _ g => lW 0 HS Z ag31 g) Z (GX.ls Z Z Z (HS.pk 5 [0, 4] Z) (fun _ HS _ g => lW 1 HS Z ag24 g) Z (GX.l2 Z (fJ fok12 Z (laws_toTriangulation.calls HS (rD 5 r_a) h49) (fun _ wd53 ⟨A50, c51, y52, h54, HS⟩ => ⟨_, h54, (GX.fin (HS.pk 6 [1, 5] Z) (GX.l2 Z (fJ fok15 Z (laws_eqTriangulation.calls HS (RdIn.own (j := 2) Z) (RdIn.own (j := 0) Z) h56) (fun _ wd57 ⟨h58, HS⟩ => ⟨_, h58, (GX.fin (HS.pk 6 [1, 5] Z) (GX.ps 1 Z (GX.nil ?_)))⟩))))⟩))))
  rcases iS H with ⟨c59, H⟩ | ⟨c59, H⟩
  ·
   refine yB Z (congrArg Bool.not (bnot_of c59)) (rN 2 Z ?_)
   obtain rfl := sI H
   exact rT _ func3 Z Z ⟨Z, (HS.pk 6 [] Z)⟩
  refine nB Z (congrArg Bool.not c59) (rN 3 Z ?_)
  obtain rfl := sI H
  exact rT _ func3 Z Z ⟨Z, (HS.pk 6 [] Z)⟩
end Go.Proofs.YtbjfinndngafoaaGreat
