/-
  The walks through the functions: a call comes to what its list function says.
-/
import Derived.Test.YtbjfinndngafoaaGreatAlF
set_option linter.unusedVariables false
set_option linter.unusedSimpArgs false
namespace Go.Proofs.YtbjfinndngafoaaGreat
open Go.RowKit
open Tryz
variable {w0 w : World} {L : List HObj} {K : Nat} {A_a A_b A_c A_d A_e A_f A_g A_h A_i A_j A_k A_l A_m A_n A_o A_p A_q A_r A_s A_t A_u A_v A_w A_x A_y A_z : Option Addr} {c_a c_b c_c c_d c_e c_f c_g c_h c_i c_j c_k c_l c_m c_n c_o c_p c_q c_r c_s c_t c_u c_v c_w c_x c_y c_z : Nat}
set_option maxRecDepth 20000
set_option maxHeartbeats 40000000
theorem laws_szFaceS.calls {a_ : List GFace} {left : Int} {r1 : Int} (HS : St w0 w (L)) (r_a : RdIn w0 L T_GFace A_a c_a (fun _ => ()) a_) (H : laws_szFaceS.f a_ left = some r1) :
    Calls prog 61 #[.slice A_a a_.length c_a, I left] w (laws_szFaceS.post w0 L r1) := by
  unfold laws_szFaceS.f at H
  refine cG func61 Z ?_
  refine rN 3 Z (rG (pS 2 Z (lS Z Z U89 Z (pS 2 Z (nL (rN 3 Z ?_))))))
  rcases iE H with ⟨c1, H⟩ | ⟨c1, H⟩
  ·
   refine yB Z (tT c1) (rN 2 Z ?_)
   obtain rfl := sI H
   exact rT _ func61 Z Z ⟨Z, HS⟩
  refine nB Z (tF c1) (rN 3 Z ?_)
  obtain rfl := sI H
  exact rT _ func61 Z Z ⟨Z, HS⟩
theorem laws_szFaceSS.calls {a_ : List (List GFace)} {left : Int} {y_a : Nat → (Ty.slice 142 T_GFace).Lay} {r1 : Int} (HS : St w0 w (L)) (r_a : RdIn w0 L (Ty.slice 142 T_GFace) A_a c_a y_a a_) (H : laws_szFaceSS.f K a_ left = some r1) :
    Calls prog 39 #[.slice A_a a_.length c_a, I left] w (laws_szFaceSS.post w0 L r1) := by
  unfold laws_szFaceSS.f at H
  refine cG func39 Z ?_
  refine rN 3 Z (rG (pS 2 Z (lS Z Z U22 Z (pS 2 Z (nL (rN 3 Z ?_))))))
  rcases iE H with ⟨c1, H⟩ | ⟨c1, H⟩
  ·
   refine yB Z (tT c1) (rN 2 Z ?_)
   obtain rfl := sI H
   exact rT _ func39 Z Z ⟨Z, HS⟩
  refine nB Z (tF c1) (rN 6 Z ?_)
  refine G.name (fun i1 k1 => ?_)
  have g1 : ∀ a1, a1 ≤ K → ∀ (d1 b1 : Int) (w : World), laws_szFaceSS.l1 K a1 a_ d1 b1 = some r1 → St w0 w (L) → G prog 39 27 [(0, .slice A_a a_.length c_a), (1, I d1), (5, I b1)] i1 w (laws_szFaceSS.post w0 L r1) := by
   intro a1
   induction a1 using Nat.strongRecOn with
   | _ a1 e1 =>
    intro h1 d1 b1 w H HS
    cases a1 with
    | zero => rw [laws_szFaceSS.l1] at H; cases H
    | succ f1 =>
     rw [laws_szFaceSS.l1] at H
     subst k1
     refine rN 2 Z (rG (pS 2 Z (lS Z Z U22 Z (GO.lss Z Z Z Z (nL ?_)))))
     rcases iS H with ⟨c18, H⟩ | ⟨c18, H⟩
     ·
      refine nB Z (tF c18) (rN 3 Z ?_)
      obtain rfl := sI H
      exact rT _ func39 Z Z ⟨Z, HS⟩
     refine yB Z (tT c18) (rN 4 Z ?_)
     obtain ⟨c19, H⟩ := iN H
     obtain ⟨t20, h21, H⟩ := bI H
     refine rG (pS 2 Z (GO.ix Z Z Z U22 sz89 (r_a _ HS).2.2.1 c19.1 c19.2 Z (GO.ldRd (T := (Ty.slice 142 T_GFace)) (n := b1.toNat) (o := 0) HS r_a Z Z (getD_some (d := []) (ltN c19)) Z Z na89 Z (mV Z (fJ fok61 Z (laws_szFaceS.calls HS (RdIn.elem r_a c19.1 c19.2) h21) (fun _ wd22 ⟨h23, HS⟩ => ⟨_, h23, (aS Z (nL (rN 2 Z ?_)))⟩))))))
     rcases iE H with ⟨c24, H⟩ | ⟨c24, H⟩
     ·
      refine yB Z (tT c24) (rN 2 Z ?_)
      obtain rfl := sI H
      exact rT _ func39 Z Z ⟨Z, HS⟩
     refine nB Z (tF c24) (rN 4 Z (G.weak ?_ (e1 f1 (Nat.lt_succ_of_le (lR _)) (Nat.le_of_succ_le h1) _ _ _ H HS)))
     exact ⟨Z, Z, Z, tv⟩
  refine G.weak ?_ (g1 K (lR _) _ _ _ H HS)
  exact ⟨Z, Z, Z, tv⟩
theorem laws_szTriangulation.calls {a1 : List (List GFace)} {left : Int} {y_a : Nat → (Ty.slice 142 T_GFace).Lay} {r1 : Int} (HS : St w0 w (L)) (r_a : RdIn w0 L (Ty.slice 142 T_GFace) A_a c_a y_a a1) (H : laws_szTriangulation.f K a1 left = some r1) :
    Calls prog 10 #[.agg [.slice A_a a1.length c_a].toArray, I left] w (laws_szTriangulation.post w0 L r1) := by
  unfold laws_szTriangulation.f at H
  refine cG func10 Z ?_
  refine sQ (rG (bA HS Z fun b1 wd2 HS => aS Z (nL (sQ ?_))))
  obtain ⟨t3, h4, H⟩ := bI H
  refine rG (fL b1 0 fl24_0 Z (lB 0 HS Z na22 Z (mV Z (fJ fok39 Z (laws_szFaceSS.calls HS (rD 1 r_a) h4) (fun _ wd5 ⟨h6, HS⟩ => ⟨_, h6, (aS Z (nL (rN 3 Z ?_)))⟩)))))
  rcases iE H with ⟨c7, H⟩ | ⟨c7, H⟩
  ·
   refine yB Z (tT c7) (rN 2 Z ?_)
   obtain rfl := sI H
   exact rT _ func10 Z Z ⟨Z, (HS.pk 1 [] Z)⟩
  refine nB Z (tF c7) (rN 3 Z ?_)
  obtain rfl := sI H
  exact rT _ func10 Z Z ⟨Z, (HS.pk 1 [] Z)⟩
theorem laws_toFace.calls {a1 c1 : Int} {r1 r2 : Int} (HS : St w0 w (L)) (H : laws_toFace.f a1 c1 = some (r1, r2)) :
    Calls prog 107 #[.agg [I a1, I c1].toArray] w (laws_toFace.post w0 L r1 r2) := by
  unfold laws_toFace.f at H
  refine cG func107 Z ?_
  refine sQ (rG (bA HS Z fun b1 wd2 HS => GO.alloc HS Z zr107 Z Z fun b3 wd4 HS => nL (sQ (rG (GO.alloc HS Z zr107 Z Z fun b5 wd6 HS => nL (sQ (rG (fL b1 0 fl142_0 Z (lB 2 HS Z na2 Z (fL b5 0 fl107_0 Z (GO.stBox (j := 0) (vs := [I a1]) ([I a1, I 0]) HS Z Z Z Z Z (htN na2 Z) Z Z Z fun wd7 HS => ?_)))))))))))
  refine nL (sQ (rG (fL b1 1 fl142_1 Z (lB 2 HS Z na2 Z (fL b5 1 fl107_1 Z (GO.stBox (j := 0) (vs := [I c1]) ([I a1, I c1]) HS Z Z Z Z Z (htN na2 Z) Z Z Z fun wd8 HS => nL (sQ (rG (lW 0 HS Z ag107 (sW 1 HS Z ag107 Z fun wd9 HS => nL ?_))))))))))
  obtain ⟨rfl, rfl⟩ := some2 H
  exact rT _ func107 Z (Res1.boxA (j := 1) (vs := [I a1, I c1]) HS Z Z Z ag107) ⟨Z, (HS.pk 3 [] Z)⟩
theorem laws_toFaceS.calls {a_ : List GFace} {r1 : List GFace} (HS : St w0 w (L)) (r_a : RdIn w0 L T_GFace A_a c_a (fun _ => ()) a_) (H : laws_toFaceS.f K a_ = some r1) :
    Calls prog 66 #[.slice A_a a_.length c_a] w (laws_toFaceS.post w0 L r1) := by
  unfold laws_toFaceS.f at H
  refine cG func66 Z ?_
  refine rN 3 Z ?_
  obtain ⟨c1, H⟩ := iN H
  obtain ⟨c2, H⟩ := iN H
  refine rG (mV Z (lS Z Z U89 Z (GO.make (T := T_GFace) z_GFace () HS flat_flat Z Z Z U77 inf107 Z Z Z c1 c2 Z fun b3 wd4 HS => aS Z (nL (rN 5 Z ?_)))))
  refine G.name (fun i1 k1 => ?_)
  have g1 : ∀ a1, a1 ≤ K → ∀ (d1 : List GFace) (b1 : Int) (w : World), laws_toFaceS.l1 K a1 a_ d1 b1 = some r1 → St w0 w (Own T_GFace 107 (some ⟨b3, 0, none⟩) ((a_.length : Int).toNat) (fun _ => ()) d1 :: L) → G prog 66 23 [(0, .slice A_a a_.length c_a), (3, .slice (some ⟨b3, 0, none⟩) d1.length ((a_.length : Int).toNat)), (4, I b1)] i1 w (laws_toFaceS.post w0 L r1) := by
   intro a1
   induction a1 using Nat.strongRecOn with
   | _ a1 e1 =>
    intro h1 d1 b1 w H HS
    cases a1 with
    | zero => rw [laws_toFaceS.l1] at H; cases H
    | succ f1 =>
     rw [laws_toFaceS.l1] at H
     subst k1
     refine rN 2 Z (rG (pS 2 Z (lS Z Z U89 Z (GO.lss Z Z Z Z (nL ?_)))))
     rcases iS H with ⟨c29, H⟩ | ⟨c29, H⟩
     ·
      refine nB Z (tF c29) (rN 3 Z ?_)
      obtain rfl := sI H
      exact rT _ func66 Z Z ⟨_, _, Z, HS⟩
     refine yB Z (tT c29) (rN 3 Z ?_)
     obtain ⟨c30, H⟩ := iN H
     obtain ⟨e31, h32, H⟩ := bnd_elim H
     obtain ⟨t33, t34, h35, H⟩ := bind2_elim H
     obtain ⟨c38, H⟩ := iN H
     refine rG (pS 4 Z (GO.ix Z Z Z U89 sz142 ((rD 1 r_a) _ HS).2.2.1 c30.1 c30.2 Z (GO.ldRdA (T := T_GFace) (n := b1.toNat) HS (rD 1 r_a) Z Z (getD_eq (ltN c30) h32) ag142 Z (fJ fok107 Z (laws_toFace.calls HS  h35) (fun _ wd36 ⟨h37, HS⟩ => ⟨_, h37, (GO.ix Z Z Z U77 sz107 (fun _ => ⟨_, _, Z⟩) c38.1 c38.2 Z (GO.stRow (T := T_GFace) (j := 0) (n := b1.toNat) (o := 0) (vs := [I t33, I t34]) (⟨t33, t34⟩ : GFace) HS Z flat_flat Z Z Z Z (htA ag107) Z (getD_some (d := z_GFace) (ltN c38)) Z Z fun wd39 HS => nL (G.len (t := 3) (m := (d1.set b1.toNat (⟨t33, t34⟩ : GFace)).length) Z (by simp only [List.length_set] <;> rfl) (rN 3 Z (G.weak ?_ (e1 f1 (Nat.lt_succ_of_le (lR _)) (Nat.le_of_succ_le h1) _ _ _ H HS))))))⟩)))))
     exact ⟨Z, Z, Z, tv⟩
  refine G.weak ?_ (g1 K (lR _) _ _ _ H HS)
  exact ⟨Z, Z, Z, tv⟩
theorem laws_toFaceSS.calls {a_ : List (List GFace)} {y_a : Nat → (Ty.slice 142 T_GFace).Lay} {r1 : List (List GFace)} (HS : St w0 w (L)) (r_a : RdIn w0 L (Ty.slice 142 T_GFace) A_a c_a y_a a_) (H : laws_toFaceSS.f K a_ = some r1) :
    Calls prog 41 #[.slice A_a a_.length c_a] w (laws_toFaceSS.post w0 L r1) := by
  unfold laws_toFaceSS.f at H
  refine cG func41 Z ?_
  refine rN 3 Z ?_
  obtain ⟨c1, H⟩ := iN H
  obtain ⟨c2, H⟩ := iN H
  refine rG (mV Z (lS Z Z U22 Z (GO.makeR (S := T_GFace) (u := 107) (fun _ => ()) HS Z Z Z U29 inf77 Z c1 c2 Z fun b3 wd4 HS => aS Z (nL (rN 5 Z ?_)))))
  refine G.name (fun i1 k1 => ?_)
  have g1 : ∀ a1, a1 ≤ K → ∀ (d1 : List (List GFace)) (y17 : Nat → (Ty.slice 107 T_GFace).Lay) (b1 : Int) (w : World), laws_toFaceSS.l1 K a1 a_ d1 b1 = some r1 → St w0 w (Own (Ty.slice 107 T_GFace) 77 (some ⟨b3, 0, none⟩) ((a_.length : Int).toNat) y17 d1 :: L) → G prog 41 23 [(0, .slice A_a a_.length c_a), (3, .slice (some ⟨b3, 0, none⟩) d1.length ((a_.length : Int).toNat)), (4, I b1)] i1 w (laws_toFaceSS.post w0 L r1) := by
   intro a1
   induction a1 using Nat.strongRecOn with
   | _ a1 e1 =>
    intro h1 d1 y17 b1 w H HS
    cases a1 with
    | zero => rw [laws_toFaceSS.l1] at H; cases H
    | succ f1 =>
     rw [laws_toFaceSS.l1] at H
     subst k1
     refine rN 2 Z (rG (pS 2 Z (lS Z Z U22 Z (GO.lss Z Z Z Z (nL ?_)))))
     rcases iS H with ⟨c30, H⟩ | ⟨c30, H⟩
     ·
      refine nB Z (tF c30) (rN 3 Z ?_)
      obtain rfl := sI H
      exact rT _ func41 Z Z ⟨_, _, _, Z, HS⟩
     refine yB Z (tT c30) (rN 3 Z ?_)
     obtain ⟨c31, H⟩ := iN H
     obtain ⟨t32, h33, H⟩ := bI H
     obtain ⟨c38, H⟩ := iN H
     refine rG (pS 4 Z (GO.ix Z Z Z U22 sz89 ((rD 1 r_a) _ HS).2.2.1 c31.1 c31.2 Z (GO.ldRd (T := (Ty.slice 142 T_GFace)) (n := b1.toNat) (o := 0) HS (rD 1 r_a) Z Z (getD_some (d := []) (ltN c31)) Z Z na89 Z (fJ fok66 Z (laws_toFaceS.calls HS (RdIn.elem (rD 1 r_a) c31.1 c31.2) h33) (fun _ wd36 ⟨A34, c35, h37, HS⟩ => ⟨_, h37, (GO.ix Z Z Z U29 sz77 (fun _ => ⟨_, _, Z⟩) c38.1 c38.2 Z ?_)⟩)))))
     replace HS := HS.pk 2 [1, 0] Z
     refine GO.stRowR (S := T_GFace) (u := 107) HS Z Z Z na77 (ltN c38) fun y40 wd39 HS => nL (G.len (t := 3) (m := (d1.set b1.toNat t32).length) Z (by simp only [List.length_set] <;> rfl) (rN 3 Z (G.weak ?_ (e1 f1 (Nat.lt_succ_of_le (lR _)) (Nat.le_of_succ_le h1) _ _ _ _ H HS))))
     exact ⟨Z, Z, Z, tv⟩
  refine G.weak ?_ (g1 K (lR _) _ _ _ _ H HS)
  exact ⟨Z, Z, Z, tv⟩
theorem laws_toTriangulation.calls {a1 : List (List GFace)} {y_a : Nat → (Ty.slice 142 T_GFace).Lay} {r1 : List (List GFace)} (HS : St w0 w (L)) (r_a : RdIn w0 L (Ty.slice 142 T_GFace) A_a c_a y_a a1) (H : laws_toTriangulation.f K a1 = some r1) :
    Calls prog 12 #[.agg [.slice A_a a1.length c_a].toArray] w (laws_toTriangulation.post w0 L r1) := by
  unfold laws_toTriangulation.f at H
  refine cG func12 Z ?_
  refine sQ (rG (bA HS Z fun b1 wd2 HS => GO.alloc HS Z zr31 Z Z fun b3 wd4 HS => nL (sQ (rG (GO.alloc HS Z zr31 Z Z fun b5 wd6 HS => nL (sQ ?_))))))
  obtain ⟨t7, h8, H⟩ := bI H
  refine rG (fL b1 0 fl24_0 Z (lB 2 HS Z na22 Z (fJ fok41 Z (laws_toFaceSS.calls HS (rD 3 r_a) h8) (fun _ wd12 ⟨A9, c10, y11, h13, HS⟩ => ⟨_, h13, (fL b5 0 fl31_0 Z (GO.stBox (j := 1) (vs := [.slice A9 t7.length c10]) ([.slice A9 t7.length c10]) HS Z Z Z Z Z (htN na29 Z) Z Z Z fun wd14 HS => nL (sQ (rG (lW 1 HS Z ag31 (sW 2 HS Z ag31 Z fun wd15 HS => nL ?_))))))⟩))))
  obtain rfl := sI H
  exact rT _ func12 Z (Res1.boxA (j := 2) (vs := [.slice A9 t7.length c10]) HS Z Z Z ag31) ⟨_, _, _, Z, (HS.pk 4 [0] Z)⟩
theorem laws_toMove.calls {a1 c1 : Int} {d1 r1 : Int} {r2 r3 : Int} (HS : St w0 w (L)) (H : laws_toMove.f a1 c1 d1 = some (r1, r2, r3)) :
    Calls prog 13 #[.agg [I a1, I c1, I d1].toArray] w (laws_toMove.post w0 L r1 r2 r3) := by
  unfold laws_toMove.f at H
  refine cG func13 Z ?_
  refine sQ (rG (bA HS Z fun b1 wd2 HS => GO.alloc HS Z zr33 Z Z fun b3 wd4 HS => nL (sQ (rG (GO.alloc HS Z zr33 Z Z fun b5 wd6 HS => nL (sQ (rG (fL b1 0 fl26_0 Z (lB 2 HS Z na2 Z (fL b5 0 fl33_0 Z (GO.stBox (j := 0) (vs := [I a1]) ([I a1, I 0, I 0]) HS Z Z Z Z Z (htN na2 Z) Z Z Z fun wd7 HS => ?_)))))))))))
  refine nL (sQ (rG (fL b1 1 fl26_1 Z (lB 2 HS Z na2 Z (fL b5 1 fl33_1 Z (GO.stBox (j := 0) (vs := [I c1]) ([I a1, I c1, I 0]) HS Z Z Z Z Z (htN na2 Z) Z Z Z fun wd8 HS => nL (sQ (rG (fL b1 2 fl26_2 Z (lB 2 HS Z na2 Z (fL b5 2 fl33_2 Z (GO.stBox (j := 0) (vs := [I d1]) ([I a1, I c1, I d1]) HS Z Z Z Z Z (htN na2 Z) Z Z Z fun wd9 HS => nL ?_))))))))))))
  refine sQ (rG (lW 0 HS Z ag33 (sW 1 HS Z ag33 Z fun wd10 HS => nL ?_)))
  obtain ⟨rfl, rfl, rfl⟩ := some3 H
  exact rT _ func13 Z (Res1.boxA (j := 1) (vs := [I a1, I c1, I d1]) HS Z Z Z ag33) ⟨Z, (HS.pk 3 [] Z)⟩
theorem spec_l07Tets.calls {a1 : List (List GFace)} {y_a : Nat → (Ty.slice 107 T_GFace).Lay} {r1 : Int} (HS : St w0 w (L)) (r_a : RdIn w0 L (Ty.slice 107 T_GFace) A_a c_a y_a a1) (H : spec_l07Tets.f a1 = some r1) :
    Calls prog 64 #[.agg [.slice A_a a1.length c_a].toArray] w (spec_l07Tets.post w0 L r1) := by
  unfold spec_l07Tets.f at H
  refine cG func64 Z ?_
  refine sQ (rG (bA HS Z fun b1 wd2 HS => aS Z (nL (sQ (rG (fL b1 0 fl31_0 Z (lB 0 HS Z na29 Z (lS Z Z U29 Z (aS Z (nL ?_))))))))))
  obtain rfl := sI H
  exact rT _ func64 Z Z ⟨Z, (HS.pk 1 [] Z)⟩
theorem spec_l07In.calls {n_ low high : Int} {r1 : Bool} (HS : St w0 w (L)) (H : spec_l07In.f n_ low high = some r1) :
    Calls prog 63 #[I n_, I low, I high] w (spec_l07In.post w0 L r1) := by
  unfold spec_l07In.f at H
  refine cG func63 Z ?_
  refine rN 3 Z ?_
  rcases iS H with ⟨c1, H⟩ | ⟨c1, H⟩
  ·
   refine rG (pS 4 Z (kN 10 Z (tF c1) (oF Z (oF Z (oF Z (pS 2 Z (nL ?_)))))))
   obtain rfl := sI H
   exact rT _ func63 Z Z ⟨Z, HS⟩
  refine rG (pS 4 Z (kN 10 Z (tT c1) (oN Z (mV Z (bK (oN Z (mV Z (bK (oN Z (GO.leq Z Z Z Z (bK (pS 2 Z (nL ?_)))))))))))))
  obtain rfl := sI H
  exact rT _ func63 Z Z ⟨Z, HS⟩
theorem spec_l06Valid.calls {p : Int} {r1 : Bool} (HS : St w0 w (L)) (H : spec_l06Valid.f p = some r1) :
    Calls prog 75 #[I p] w (spec_l06Valid.post w0 L r1) := by
  unfold spec_l06Valid.f at H
  refine cG func75 Z ?_
  refine rN 3 Z ?_
  rcases iS H with ⟨c1, H⟩ | ⟨c1, H⟩
  ·
   refine rG (pS 3 Z (kN 5 Z (tF c1) (oF Z (oF Z (pS 2 Z (nL ?_))))))
   obtain rfl := sI H
   exact rT _ func75 Z Z ⟨Z, HS⟩
  refine rG (pS 3 Z (kN 5 Z (tT c1) (oN Z (mV Z (bK (oN Z (GO.lss Z Z Z Z (bK (pS 2 Z (nL ?_))))))))))
  obtain rfl := sI H
  exact rT _ func75 Z Z ⟨Z, HS⟩
theorem spec_l06Images.calls {p : Int} {r1 : List Int} (HS : St w0 w (L)) (H : spec_l06Images.f K p = some r1) :
    Calls prog 116 #[I p] w (spec_l06Images.post w0 L r1) := by
  unfold spec_l06Images.f at H
  refine cG func116 Z ?_
  refine rN 3 Z (rG (GO.buildS (el := 2) ([I 0, I 1, I 2, I 3]) HS Z Z (fun _ => by kernel_rfl) Z fun b1 wd2 HS => ?_))
  replace HS := HS.boxRow (T := (TInt .i64)) (j := 0) Z flat_flat (fun _ => ()) ([0, 1, 2, 3] : List Int) Z (bndL Z)
  refine GO.lenC (t := 8) (m := ([0, 1, 2, 3] : List Int).length) (c' := ([0, 1, 2, 3] : List Int).length) Z Z Z (aS Z (nL (sQ (rG (GO.buildS (el := 2) ([]) HS Z Z (fun _ => by kernel_rfl) Z fun b3 wd4 HS => ?_)))))
  replace HS := HS.boxRow (T := (TInt .i64)) (j := 0) Z flat_flat (fun _ => ()) ([] : List Int) Z (bndL Z)
  refine GO.lenC (t := 9) (m := ([] : List Int).length) (c' := ([] : List Int).length) Z Z Z (aS Z (nL (rN 7 Z ?_)))
  refine G.name (fun n1 o1 => ?_)
  have m1 : ∀ e1, e1 ≤ K → ∀ (c1 : Int) (A25 : Option Addr) (c26 : Nat) (a1 : List Int) (A28 : Option Addr) (c29 : Nat) (f1 : List Int) (d1 g1 : Int) (w : World), spec_l06Images.l1 K e1 c1 a1 f1 d1 g1 = some r1 → St w0 w (Own (TInt .i64) 2 A25 c26 (fun _ => ()) a1 :: Own (TInt .i64) 2 A28 c29 (fun _ => ()) f1 :: L) → G prog 116 43 [(0, I c1), (3, .slice A25 a1.length c26), (4, .slice A28 f1.length c29), (5, I d1), (6, I g1)] n1 w (spec_l06Images.post w0 L r1) := by
   intro e1
   induction e1 using Nat.strongRecOn with
   | _ e1 h1 =>
    intro k1 c1 A25 c26 a1 A28 c29 f1 d1 g1 w H HS
    cases e1 with
    | zero => rw [spec_l06Images.l1] at H; cases H
    | succ i1 =>
     rw [spec_l06Images.l1] at H
     subst o1
     refine rN 3 Z ?_
     rcases iS H with ⟨c56, H⟩ | ⟨c56, H⟩
     ·
      refine nB Z (tF c56) (rN 3 Z ?_)
      obtain rfl := sI H
      exact rT _ func116 Z Z ⟨_, _, Z, (HS.pk 2 [1] Z)⟩
     refine yB Z (tT c56) (rN 4 Z ?_)
     obtain ⟨c57, H⟩ := ite_some H
     refine rG (pS 2 Z (GO.quo Z Z Z c57 Z (aS Z (nL (sQ (rG (pS 2 Z (GO.rem Z Z Z c57 Z (aS Z (nL (sQ ?_)))))))))))
     obtain ⟨c58, H⟩ := iN H
     obtain ⟨c64, H⟩ := iN H
     refine rG (pS 3 Z (GO.ix Z Z Z U56 sz2 ((RdIn.own (j := 0) Z) _ HS).2.2.1 c58.1 c58.2 Z (GO.ldRd (T := (TInt .i64)) (n := (w64 (c1.tdiv d1)).toNat) (o := 0) HS (RdIn.own (j := 0) Z) Z Z (getD_some (d := 0) (ltN c58)) Z Z na2 Z (GO.buildS (el := 2) ([I (a1.getD ((w64 (c1.tdiv d1)).toNat) 0)]) HS Z Z (fun _ => by kernel_rfl) Z fun b59 wd60 HS => GO.app1 (T := (TInt .i64)) (j := 2) (jb := 0) (a1.getD ((w64 (c1.tdiv d1)).toNat) 0) HS Z Z flat_flat Z Z Z U56 inf2 Z Z Z c64 Z fun A62 c63 wd61 HS => aS Z (nL (sQ ?_))))))
     obtain ⟨c67, H⟩ := iN H
     obtain ⟨c71, H⟩ := iN H
     obtain ⟨c72, H⟩ := iN H
     obtain ⟨c76, H⟩ := iN H
     refine G.lexS mixed (fun w => St w0 w (Own (TInt .i64) 2 A25 c26 (fun _ => ()) a1 :: L)) [3, 8] [1, 2, 5, 6, 7, 3, 8, 0, 4, 9, 10] [] (by kernel_rfl) (by kernel_rfl) (HS.drew.pk 3 [1] Z) ?_
     replace HS := HS.drew
     refine GX.ps 5 Z (GX.ls Z Z Z (HS.pk 3 [1] Z) (fun _ HS _ g => GO.slH (T := (TInt .i64)) HS (RdIn.own (j := 0) Z) Z Z Z U56 sz2 c67.1 c67.2 Z g) Z (GX.ls Z Z Z (HS.pk 3 [1] Z) (fun _ HS _ g => GO.slL (T := (TInt .i64)) HS (RdIn.own (j := 0) Z) Z Z Z U56 sz2 c72.1 c72.2 Z g) Z (GX.l2 Z (GO.buildS (el := 2) ([]) HS Z Z (fun _ => by kernel_rfl) Z fun b65 wd66 HS => GX.fin (HS.pk 4 [2] Z) (GX.l2 Z ?_)))))
     replace HS := HS.boxRow (T := (TInt .i64)) (j := 0) Z flat_flat (fun _ => ()) ([] : List Int) Z (bndL Z)
     refine GO.lenC (t := 27) (m := ([] : List Int).length) (c' := ([] : List Int).length) Z Z Z (GO.appS (T := (TInt .i64)) (j := 0) HS Z (RdIn.cut (RdIn.own (j := 2) Z) (Nat.zero_le _) (leN c67)) flat_flat Z Z Z U56 inf2 Z Z Z c71 Z (fun _ => Z) fun A69 c70 wd68 HS => GX.fin (HS.pk 4 [2] Z) (GX.l2 Z (GO.appS (T := (TInt .i64)) (j := 0) HS Z (RdIn.cut (RdIn.own (j := 2) Z) (leN c72) (lR _)) flat_flat Z Z Z U56 inf2 Z Z Z c76 Z (fun _ => Z) fun A74 c75 wd73 HS => GX.fin (HS.pk 4 [2] Z) (GX.ps 1 Z (GX.nil (rN 2 Z ?_))))))
     rcases iS H with ⟨c77, H⟩ | ⟨c77, H⟩
     ·
      refine nB Z (tF c77) (rN 4 Z (G.weak ?_ (h1 i1 (Nat.lt_succ_of_le (lR _)) (Nat.le_of_succ_le k1) _ _ _ _ _ _ _ _ _ _ H (HS.pk 4 [0, 3] Z))))
      exact ⟨Z, Z, Z, Z, Z, tv⟩
     refine yB Z (tT c77) ?_
     obtain ⟨c78, H⟩ := ite_some H
     refine rG (pS 2 Z (GO.quo Z Z Z c78 Z (aS Z (nL (rN 3 Z (G.weak ?_ (h1 i1 (Nat.lt_succ_of_le (lR _)) (Nat.le_of_succ_le k1) _ _ _ _ _ _ _ _ _ _ H (HS.pk 4 [0, 3] Z))))))))
     exact ⟨Z, Z, Z, Z, Z, tv⟩
  refine G.weak ?_ (m1 K (lR _) _ _ _ _ _ _ _ _ _ _ H (HS.pk 2 [1, 0] Z))
  exact ⟨Z, Z, Z, Z, Z, tv⟩
theorem spec_l06At.calls {p k_ r1 : Int} (HS : St w0 w (L)) (H : spec_l06At.f K p k_ = some r1) :
    Calls prog 76 #[I p, I k_] w (spec_l06At.post w0 L r1) := by
  unfold spec_l06At.f at H
  refine cG func76 Z ?_
  refine rN 3 Z ?_
  obtain ⟨t1, h2, H⟩ := bI H
  obtain ⟨c7, H⟩ := iN H
  refine rG (mV Z (fJ fok116 Z (spec_l06Images.calls HS  h2) (fun _ wd5 ⟨A3, c4, h6, HS⟩ => ⟨_, h6, (mV Z (GO.ix Z Z Z U56 sz2 ((RdIn.own (j := 0) Z) _ HS).2.2.1 c7.1 c7.2 Z (GO.ldRd (T := (TInt .i64)) (n := k_.toNat) (o := 0) HS (RdIn.own (j := 0) Z) Z Z (getD_some (d := 0) (ltN c7)) Z Z na2 Z (aS Z (nL ?_)))))⟩)))
  obtain rfl := sI H
  exact rT _ func76 Z Z ⟨Z, (HS.pk 1 [] Z)⟩
theorem spec_l06Index.calls {a_ : List Int} {r1 : Int} (HS : St w0 w (L)) (r_a : RdIn w0 L (TInt .i64) A_a c_a (fun _ => ()) a_) (H : spec_l06Index.f K a_ = some r1) :
    Calls prog 117 #[.slice A_a a_.length c_a] w (spec_l06Index.post w0 L r1) := by
  unfold spec_l06Index.f at H
  refine cG func117 Z ?_
  refine rN 11 Z ?_
  refine G.name (fun q1 s1 => ?_)
  have p1 : ∀ b1, b1 ≤ K → ∀ (p_4 c1 i_6 : Int) (w : World), spec_l06Index.l1 K b1 a_ p_4 c1 i_6 = some r1 → St w0 w (L) → G prog 117 42 [(0, .slice A_a a_.length c_a), (3, I p_4), (4, I c1), (5, I i_6)] q1 w (spec_l06Index.post w0 L r1) := by
   intro b1
   induction b1 using Nat.strongRecOn with
   | _ b1 n1 =>
    intro t1 p_4 c1 i_6 w H HS
    cases b1 with
    | zero => rw [spec_l06Index.l1] at H; cases H
    | succ g1 =>
     rw [spec_l06Index.l1] at H
     subst s1
     refine rN 3 Z ?_
     rcases iS H with ⟨c23, H⟩ | ⟨c23, H⟩
     ·
      refine nB Z (tF c23) (rN 3 Z ?_)
      obtain rfl := sI H
      exact rT _ func117 Z Z ⟨Z, HS⟩
     refine yB Z (tT c23) (rN 4 Z ?_)
     obtain ⟨c24, H⟩ := iN H
     refine rG (pS 2 Z (GO.ix Z Z Z U56 sz2 (r_a _ HS).2.2.1 c24.1 c24.2 Z (GO.ldRd (T := (TInt .i64)) (n := i_6.toNat) (o := 0) HS r_a Z Z (getD_some (d := 0) (ltN c24)) Z Z na2 Z (aS Z (nL (rN 5 Z ?_))))))
     refine G.name (fun k1 m1 => ?_)
     have o1 : ∀ a1, a1 ≤ g1 → ∀ (f1 d1 : Int) (w : World), spec_l06Index.l4 K a1 a_ p_4 c1 i_6 f1 d1 = some r1 → St w0 w (L) → G prog 117 42 [(0, .slice A_a a_.length c_a), (3, I p_4), (4, I c1), (5, I i_6), (6, I f1), (7, I d1)] k1 w (spec_l06Index.post w0 L r1) := by
      intro a1
      induction a1 using Nat.strongRecOn with
      | _ a1 h1 =>
       intro i1 f1 d1 w H HS
       cases a1 with
       | zero => rw [spec_l06Index.l4] at H; cases H
       | succ e1 =>
        rw [spec_l06Index.l4] at H
        subst m1
        refine rN 3 Z ?_
        rcases iS H with ⟨c35, H⟩ | ⟨c35, H⟩
        ·
         refine nB Z (tF c35) (rN 3 Z ?_)
         obtain ⟨c38, H⟩ := ite_some H
         refine rG (pS 3 Z (GO.quo Z Z Z c38 Z (aS Z (nL (rN 3 Z (G.weak ?_ (n1 e1 (by omega) (by omega) _ _ _ _ H HS)))))))
         exact ⟨Z, Z, Z, Z, tv⟩
        refine yB Z (tT c35) (rN 4 Z ?_)
        obtain ⟨c36, H⟩ := iN H
        refine G.lex mixed [0, 1, 2, 4, 5, 6, 3, 7, 8] (by kernel_rfl) ?_
        replace HS := HS.drew
        refine GX.ps 2 Z (qL Z Z (fun _ _ g => GO.ix Z Z Z U56 sz2 (r_a _ HS).2.2.1 c36.1 c36.2 Z g) Z (GX.ps 2 Z (qL Z Z (fun _ _ g => GO.ix Z Z Z U56 sz2 (r_a _ HS).2.2.1 c24.1 c24.2 Z g) Z (GX.l1 Z Z Z (fun _ g => GO.ldRd (T := (TInt .i64)) (n := d1.toNat) (o := 0) HS r_a Z Z (getD_some (d := 0) (ltN c36)) Z Z na2 Z g) Z (GX.l1 Z Z Z (fun _ g => GO.ldRd (T := (TInt .i64)) (n := i_6.toNat) (o := 0) HS r_a Z Z (getD_some (d := 0) (ltN c24)) Z Z na2 Z g) Z (GX.ps 1 Z (GX.nil ?_)))))))
        rcases iS H with ⟨c37, H⟩ | ⟨c37, H⟩
        ·
         refine nB Z (tF c37) (rN 4 Z (G.weak ?_ (h1 e1 (Nat.lt_succ_of_le (lR _)) (Nat.le_of_succ_le i1) _ _ _ H HS)))
         exact ⟨Z, Z, Z, Z, Z, Z, tv⟩
        refine yB Z (tT c37) (rN 4 Z (G.weak ?_ (h1 e1 (Nat.lt_succ_of_le (lR _)) (Nat.le_of_succ_le i1) _ _ _ H HS)))
        exact ⟨Z, Z, Z, Z, Z, Z, tv⟩
     refine G.weak ?_ (o1 g1 (lR _) _ _ _ H HS)
     exact ⟨Z, Z, Z, Z, Z, Z, tv⟩
  refine G.weak ?_ (p1 K (lR _) _ _ _ _ H HS)
  exact ⟨Z, Z, Z, Z, tv⟩
theorem spec_l06Back.calls {p r1 : Int} (HS : St w0 w (L)) (H : spec_l06Back.f K p = some r1) :
    Calls prog 77 #[I p] w (spec_l06Back.post w0 L r1) := by
  unfold spec_l06Back.f at H
  refine cG func77 Z ?_
  refine rN 3 Z ?_
  obtain ⟨t1, h2, H⟩ := bI H
  refine rG (mV Z (fJ fok116 Z (spec_l06Images.calls HS  h2) (fun _ wd5 ⟨A3, c4, h6, HS⟩ => ⟨_, h6, (aS Z (nL (sQ (rG (GO.buildS (el := 2) ([I 0, I 0, I 0, I 0]) HS Z Z (fun _ => by kernel_rfl) Z fun b7 wd8 HS => ?_)))))⟩)))
  replace HS := HS.boxRow (T := (TInt .i64)) (j := 0) Z flat_flat (fun _ => ()) ([0, 0, 0, 0] : List Int) Z (bndL Z)
  refine GO.lenC (t := 8) (m := ([0, 0, 0, 0] : List Int).length) (c' := ([0, 0, 0, 0] : List Int).length) Z Z Z (aS Z (nL (rN 5 Z ?_)))
  refine G.name (fun h1 i1 => ?_)
  have f1 : ∀ b1, b1 ≤ K → ∀ (c1 : List Int) (a1 : Int) (w : World), spec_l06Back.l1 K b1 t1 c1 a1 = some r1 → St w0 w (Own (TInt .i64) 2 A3 c4 (fun _ => ()) t1 :: Own (TInt .i64) 2 (some ⟨b7, 0, none⟩) (([0, 0, 0, 0] : List Int).length) (fun _ => ()) c1 :: L) → G prog 77 22 [(3, .slice A3 t1.length c4), (4, .slice (some ⟨b7, 0, none⟩) c1.length (([0, 0, 0, 0] : List Int).length)), (5, I a1)] h1 w (spec_l06Back.post w0 L r1) := by
   intro b1
   induction b1 using Nat.strongRecOn with
   | _ b1 d1 =>
    intro g1 c1 a1 w H HS
    cases b1 with
    | zero => rw [spec_l06Back.l1] at H; cases H
    | succ e1 =>
     rw [spec_l06Back.l1] at H
     subst i1
     refine rN 3 Z ?_
     rcases iS H with ⟨c22, H⟩ | ⟨c22, H⟩
     ·
      refine nB Z (tF c22) (rN 2 Z ?_)
      obtain ⟨t26, h27, H⟩ := bI H
      refine rG (mV Z (fJ fok117 Z (spec_l06Index.calls HS (RdIn.own (j := 1) Z) h27) (fun _ wd28 ⟨h29, HS⟩ => ⟨_, h29, (aS Z (nL ?_))⟩)))
      obtain rfl := sI H
      exact rT _ func77 Z Z ⟨Z, (HS.pk 2 [] Z)⟩
     refine yB Z (tT c22) (rN 3 Z ?_)
     obtain ⟨c23, H⟩ := iN H
     obtain ⟨c24, H⟩ := iN H
     refine rG (pS 3 Z (GO.ix Z Z Z U56 sz2 ((RdIn.own (j := 0) Z) _ HS).2.2.1 c23.1 c23.2 Z (GO.ldRd (T := (TInt .i64)) (n := a1.toNat) (o := 0) HS (RdIn.own (j := 0) Z) Z Z (getD_some (d := 0) (ltN c23)) Z Z na2 Z (mV Z (GO.ix Z Z Z U56 sz2 (fun _ => ⟨_, _, Z⟩) c24.1 c24.2 Z (GO.stRow (T := (TInt .i64)) (j := 1) (n := (t1.getD a1.toNat 0).toNat) (o := 0) (vs := [I a1]) a1 HS Z flat_flat Z Z Z Z (htN na2 Z) Z (getD_some (d := 0) (ltN c24)) Z Z fun wd25 HS => nL (G.len (t := 4) (m := (c1.set ((t1.getD a1.toNat 0).toNat) a1).length) Z (by simp only [List.length_set] <;> rfl) (rN 3 Z (G.weak ?_ (d1 e1 (Nat.lt_succ_of_le (lR _)) (Nat.le_of_succ_le g1) _ _ _ H HS))))))))))
     exact ⟨Z, Z, Z, tv⟩
  refine G.weak ?_ (f1 K (lR _) _ _ _ H (HS.pk 2 [1, 0] Z))
  exact ⟨Z, Z, Z, tv⟩
theorem spec_IsTriangulation.calls {a1 : List (List GFace)} {y_a : Nat → (Ty.slice 107 T_GFace).Lay} {r1 : Bool} (HS : St w0 w (L)) (r_a : RdIn w0 L (Ty.slice 107 T_GFace) A_a c_a y_a a1) (H : spec_IsTriangulation.f K a1 = some r1) :
    Calls prog 45 #[.agg [.slice A_a a1.length c_a].toArray] w (spec_IsTriangulation.post w0 L r1) := by
  unfold spec_IsTriangulation.f at H
  refine cG func45 Z ?_
  refine sQ (rG (bA HS Z fun b1 wd2 HS => aS Z (nL (rN 2 Z ?_))))
  obtain ⟨t3, h4, H⟩ := bI H
  refine rG (lW 0 HS Z ag31 (fJ fok64 Z (spec_l07Tets.calls HS (rD 1 r_a) h4) (fun _ wd5 ⟨h6, HS⟩ => ⟨_, h6, (GO.gtr Z Z Z Z (nL ?_))⟩)))
  rcases iE H with ⟨c7, H⟩ | ⟨c7, H⟩
  ·
   refine yB Z (tT c7) (rN 2 Z ?_)
   obtain rfl := sI H
   exact rT _ func45 Z Z ⟨Z, (HS.pk 1 [] Z)⟩
  refine nB Z (tF c7) (rN 6 Z ?_)
  refine G.name (fun v1 e2 => ?_)
  have g2 : ∀ g1, g1 ≤ K → ∀ (k1 : Int) (w : World), spec_IsTriangulation.l1 K g1 a1 k1 = some r1 → St w0 w (Box b1 31 [.slice A_a a1.length c_a] :: L) → G prog 45 96 [(1, .pointer (some ⟨b1, 0, none⟩)), (3, I k1)] v1 w (spec_IsTriangulation.post w0 L r1) := by
   intro g1
   induction g1 using Nat.strongRecOn with
   | _ g1 b2 =>
    intro c2 k1 w H HS
    cases g1 with
    | zero => rw [spec_IsTriangulation.l1] at H; cases H
    | succ o1 =>
     rw [spec_IsTriangulation.l1] at H
     subst e2
     refine rN 2 Z (rG (mV Z (fL b1 0 fl31_0 Z (lB 0 HS Z na29 Z (lS Z Z U29 Z (GO.lss Z Z Z Z (nL ?_)))))))
     rcases iE H with ⟨c1091, H⟩ | ⟨c1091, H⟩
     ·
      refine yB Z (tT c1091) (rN 4 Z ?_)
      obtain ⟨c1092, H⟩ := iN H
      refine rG (fL b1 0 fl31_0 Z (lB 0 HS Z na29 Z (mV Z (GO.ix Z Z Z U29 sz77 ((rD 1 r_a) _ HS).2.2.1 c1092.1 c1092.2 Z (GO.ldRd (T := (Ty.slice 107 T_GFace)) (n := k1.toNat) (o := 0) HS (rD 1 r_a) Z Z (getD_some (d := []) (ltN c1092)) Z Z na77 Z (lS Z Z U77 Z (GO.neq Z Z Z Z (nL ?_))))))))
      rcases iS H with ⟨c1093, H⟩ | ⟨c1093, H⟩
      ·
       refine yB Z (nF c1093) (rN 2 Z ?_)
       obtain rfl := sI H
       exact rT _ func45 Z Z ⟨Z, (HS.pk 1 [] Z)⟩
      refine nB Z (nT c1093) (rN 4 Z (G.weak ?_ (b2 o1 (Nat.lt_succ_of_le (lR _)) (Nat.le_of_succ_le c2) _ _ H HS)))
      exact ⟨Z, Z, tv⟩
     refine nB Z (tF c1091) (rN 6 Z ?_)
     refine G.name (fun x1 t1 => ?_)
     have s1 : ∀ d1, d1 ≤ o1 → ∀ (c1 : Int) (w : World), spec_IsTriangulation.l28 K d1 a1 c1 = some r1 → St w0 w (Box b1 31 [.slice A_a a1.length c_a] :: L) → G prog 45 96 [(1, .pointer (some ⟨b1, 0, none⟩)), (4, I c1)] x1 w (spec_IsTriangulation.post w0 L r1) := by
      intro d1
      induction d1 using Nat.strongRecOn with
      | _ d1 d2 =>
       intro j2 c1 w H HS
       cases d1 with
       | zero => rw [spec_IsTriangulation.l28] at H; cases H
       | succ q1 =>
        rw [spec_IsTriangulation.l28] at H
        subst t1
        refine rN 2 Z ?_
        obtain ⟨t1453, h1454, H⟩ := bI H
        refine rG (mV Z (lW 0 HS Z ag31 (fJ fok64 Z (spec_l07Tets.calls HS (rD 1 r_a) h1454) (fun _ wd1455 ⟨h1456, HS⟩ => ⟨_, h1456, (GO.lss Z Z Z Z (nL ?_))⟩))))
        rcases iS H with ⟨c1457, H⟩ | ⟨c1457, H⟩
        ·
         refine nB Z (tF c1457) (rN 3 Z ?_)
         obtain rfl := sI H
         exact rT _ func45 Z Z ⟨Z, (HS.pk 1 [] Z)⟩
        refine yB Z (tT c1457) (rN 7 Z ?_)
        refine G.name (fun z1 a2 => ?_)
        have y1 : ∀ e1, e1 ≤ q1 → ∀ (f1 : Int) (w : World), spec_IsTriangulation.l37 K e1 a1 c1 f1 = some r1 → St w0 w (Box b1 31 [.slice A_a a1.length c_a] :: L) → G prog 45 96 [(1, .pointer (some ⟨b1, 0, none⟩)), (4, I c1), (5, I f1)] z1 w (spec_IsTriangulation.post w0 L r1) := by
         intro e1
         induction e1 using Nat.strongRecOn with
         | _ e1 m1 =>
          intro i2 f1 w H HS
          cases e1 with
          | zero => rw [spec_IsTriangulation.l37] at H; cases H
          | succ h1 =>
           rw [spec_IsTriangulation.l37] at H
           subst a2
           refine rN 3 Z ?_
           rcases iS H with ⟨c1574, H⟩ | ⟨c1574, H⟩
           ·
            refine nB Z (tF c1574) (rN 4 Z (G.weak ?_ (d2 h1 (by omega) (by omega) _ _ H HS)))
            exact ⟨Z, Z, tv⟩
           refine yB Z (tT c1574) (rN 4 Z ?_)
           obtain ⟨c1575, H⟩ := iN H
           obtain ⟨c1576, H⟩ := iN H
           obtain ⟨e1577, h1578, H⟩ := bnd_elim H
           refine rG (fL b1 0 fl31_0 Z (lB 0 HS Z na29 Z (mV Z (GO.ix Z Z Z U29 sz77 ((rD 1 r_a) _ HS).2.2.1 c1575.1 c1575.2 Z (GO.ldRd (T := (Ty.slice 107 T_GFace)) (n := c1.toNat) (o := 0) HS (rD 1 r_a) Z Z (getD_some (d := []) (ltN c1575)) Z Z na77 Z (mV Z (GO.ix Z Z Z U77 sz107 ((RdIn.elem (rD 1 r_a) c1575.1 c1575.2) _ HS).2.2.1 c1576.1 c1576.2 Z (GO.ldRdA (T := T_GFace) (n := f1.toNat) HS (RdIn.elem (rD 1 r_a) c1575.1 c1575.2) Z Z (getD_eq (ltN c1576) h1578) ag107 Z (GO.alloc HS Z zr107 Z Z fun b1579 wd1580 HS => sW 0 HS Z ag107 Z fun wd1581 HS => nL (rN 2 Z ?_))))))))))
           refine G.nameT (fun u1 f2 => ?_)
           have p1 : ∀ i1, i1 ≤ h1 → ∀ (x1584 : Bool) (w : World), spec_IsTriangulation.j40 K i1 a1 c1 f1 e1577 x1584 = some r1 → St w0 w (Box b1 31 [.slice A_a a1.length c_a] :: Box b1579 107 [I e1577.Tet, I e1577.Perm] :: L) → G prog 45 96 [(1, .pointer (some ⟨b1, 0, none⟩)), (4, I c1), (5, I f1), (6, .pointer (some ⟨b1579, 0, none⟩)), (51, .bool x1584)] u1 w (spec_IsTriangulation.post w0 L r1) := by
            intro i1 h2 x1584 w H HS
            cases i1 with
            | zero => rw [spec_IsTriangulation.j40] at H; cases H
            | succ n1 =>
             rw [spec_IsTriangulation.j40] at H
             subst f2
             rcases iE H with ⟨c1585, H⟩ | ⟨c1585, H⟩
             ·
              refine yB Z c1585 (rN 3 Z (G.weak ?_ (m1 n1 (by omega) (by omega) _ _ H (HS.pk 2 [0] Z))))
              exact ⟨Z, Z, Z, tv⟩
             refine nB Z (bnot_of c1585) (rN 3 Z ?_)
             obtain ⟨t1599, h1600, H⟩ := bI H
             obtain ⟨t1603, h1604, H⟩ := bI H
             rcases iS H with ⟨c1607, H⟩ | ⟨c1607, H⟩
             ·
              refine G.lexS mixed (fun w => St w0 w (Box b1 31 [.slice A_a a1.length c_a] :: Box b1579 107 [I e1577.Tet, I e1577.Perm] :: L)) [1, 2, 9] [0, 1, 2, 3, 4, 5, 6, 7, 8, 9, 10, 11, 12] [] (by kernel_rfl) (by kernel_rfl) HS.drew ?_
              replace HS := HS.drew
              refine qL Z Z (fun _ _ g => fL b1579 0 fl107_0 Z g) Z (GX.ls Z Z Z HS (fun _ HS _ g => lB 1 HS Z na2 Z g) Z (GX.ls Z Z Z HS (fun _ HS _ g => lW 0 HS Z ag31 g) Z (GX.l2 Z (fJ fok64 Z (spec_l07Tets.calls HS (rD 2 r_a) h1600) (fun _ wd1601 ⟨h1602, HS⟩ => ⟨_, h1602, (GX.fin HS (GX.ps 1 Z (GX.l2 Z (fJ fok63 Z (spec_l07In.calls HS  h1604) (fun _ wd1605 ⟨h1606, HS⟩ => ⟨_, h1606, (GX.fin HS (GX.ps 1 Z (qL Z Z (fun _ _ g => mV Z (kN 59 Z (congrArg Bool.not (bnot_of c1607)) g)) Z (qL Z Z (fun _ _ g => oF Z g) Z (GX.ls Z Z Z HS (fun _ HS _ g => oF Z g) Z (GX.l2 Z ?_))))))⟩)))))⟩)))))
              refine oF Z (GX.fin HS (qL Z Z (fun _ _ g => oF Z g) Z (GX.ps 1 Z (GX.nil (rN 3 Z ?_)))))
              obtain rfl := sI H
              exact rT _ func45 Z Z ⟨Z, (HS.pk 2 [] Z)⟩
             obtain ⟨t1608, h1609, H⟩ := bI H
             refine G.lexS mixed (fun w => St w0 w (Box b1 31 [.slice A_a a1.length c_a] :: Box b1579 107 [I e1577.Tet, I e1577.Perm] :: L)) [1, 2, 9] [0, 1, 2, 3, 4, 5, 6, 7, 8, 9, 10, 11, 12] [] (by kernel_rfl) (by kernel_rfl) HS.drew ?_
             replace HS := HS.drew
             refine qL Z Z (fun _ _ g => fL b1579 0 fl107_0 Z g) Z (GX.ls Z Z Z HS (fun _ HS _ g => lB 1 HS Z na2 Z g) Z (GX.ls Z Z Z HS (fun _ HS _ g => lW 0 HS Z ag31 g) Z (GX.l2 Z (fJ fok64 Z (spec_l07Tets.calls HS (rD 2 r_a) h1600) (fun _ wd1601 ⟨h1602, HS⟩ => ⟨_, h1602, (GX.fin HS (GX.ps 1 Z (GX.l2 Z (fJ fok63 Z (spec_l07In.calls HS  h1604) (fun _ wd1605 ⟨h1606, HS⟩ => ⟨_, h1606, (GX.fin HS (GX.ps 1 Z (qL Z Z (fun _ _ g => mV Z (kN 59 Z (congrArg Bool.not c1607) g)) Z (qL Z Z (fun _ _ g => oN Z (fL b1579 1 fl107_1 Z (bK g))) Z (GX.ls Z Z Z HS (fun _ HS _ g => oN Z (lB 1 HS Z na2 Z (bK g))) Z (GX.l2 Z ?_))))))⟩)))))⟩)))))
             refine oN Z (fJ fok75 Z (spec_l06Valid.calls HS  h1609) (fun _ wd1610 ⟨h1611, HS⟩ => ⟨_, h1611, (bK (GX.fin HS (qL Z Z (fun _ _ g => oN Z (GO.not Z Z Z (bK g))) Z (GX.ps 1 Z (GX.nil ?_)))))⟩))
             rcases iS H with ⟨c1612, H⟩ | ⟨c1612, H⟩
             ·
              refine yB Z (congrArg Bool.not (bnot_of c1612)) (rN 2 Z ?_)
              obtain rfl := sI H
              exact rT _ func45 Z Z ⟨Z, (HS.pk 2 [] Z)⟩
             refine nB Z (congrArg Bool.not c1612) (rN 2 Z ?_)
             obtain ⟨t1613, h1614, H⟩ := bI H
             refine rG (fL b1579 1 fl107_1 Z (lB 1 HS Z na2 Z (mV Z (fJ fok76 Z (spec_l06At.calls HS  h1614) (fun _ wd1615 ⟨h1616, HS⟩ => ⟨_, h1616, (aS Z (nL (sQ ?_)))⟩)))))
             obtain ⟨t1617, h1618, H⟩ := bI H
             refine rG (mV Z (fL b1579 1 fl107_1 Z (lB 1 HS Z na2 Z (fJ fok77 Z (spec_l06Back.calls HS  h1618) (fun _ wd1619 ⟨h1620, HS⟩ => ⟨_, h1620, (GO.buildV (.agg [I c1, I t1617].toArray) Z Z (fun _ => by kernel_rfl) Z (GO.alloc HS Z zr107 Z Z fun b1621 wd1622 HS => sW 0 HS Z ag107 Z fun wd1623 HS => nL (sQ ?_)))⟩)))))
             obtain ⟨c1624, H⟩ := iN H
             obtain ⟨c1625, H⟩ := iN H
             obtain ⟨e1626, h1627, H⟩ := bnd_elim H
             rcases iS H with ⟨c1628, H⟩ | ⟨c1628, H⟩
             ·
              refine G.lex mixed [0, 2, 6, 1, 3, 4, 5, 7, 8, 9, 10, 11, 12, 14, 13, 15, 16, 17, 18, 19, 20, 21] (by kernel_rfl) ?_
              replace HS := HS.drew
              refine qL Z Z (fun _ _ g => fL b1 0 fl31_0 Z g) Z (qL Z Z (fun _ _ g => fL b1579 0 fl107_0 Z g) Z (GX.ps 1 Z (GX.l1 Z Z Z (fun _ g => lB 1 HS Z na29 Z g) Z (GX.l1 Z Z Z (fun _ g => lB 2 HS Z na2 Z g) Z (qL Z Z (fun _ _ g => GO.ix Z Z Z U29 sz77 ((rD 3 r_a) _ HS).2.2.1 c1624.1 c1624.2 Z g) Z (GX.l1 Z Z Z (fun _ g => GO.ldRd (T := (Ty.slice 107 T_GFace)) (n := e1577.Tet.toNat) (o := 0) HS (rD 3 r_a) Z Z (getD_some (d := []) (ltN c1624)) Z Z na77 Z g) Z (qL Z Z (fun _ _ g => GO.ix Z Z Z U77 sz107 ((RdIn.elem (rD 3 r_a) c1624.1 c1624.2) _ HS).2.2.1 c1625.1 c1625.2 Z g) Z (GX.l1 Z Z Z (fun _ g => GO.ldRdA (T := T_GFace) (n := t1613.toNat) HS (RdIn.elem (rD 3 r_a) c1624.1 c1624.2) Z Z (getD_eq (ltN c1625) h1627) ag107 Z g) Z (GX.l1 Z Z Z (fun _ g => lW 0 HS Z ag107 g) Z (qL Z Z (fun _ _ g => GO.neqA Z Z Z ng107 (fun _ => eq107) Z g) Z (qL Z Z (fun _ _ g => mV Z (kN 85 Z (nF c1628) g)) Z (qL Z Z (fun _ _ g => oF Z g) Z (qL Z Z (fun _ _ g => oF Z g) Z (GX.l1 Z Z Z (fun _ g => oF Z g) Z ?_))))))))))))))
              refine qL Z Z (fun _ _ g => oF Z g) Z (qL Z Z (fun _ _ g => oF Z g) Z (qL Z Z (fun _ _ g => GO.offU Z Z Z Z Z Z g) Z (qL Z Z (fun _ _ g => GO.offU Z Z Z Z Z Z g) Z (qL Z Z (fun _ _ g => GO.offU Z Z Z Z Z Z g) Z (qL Z Z (fun _ _ g => oF Z g) Z (GX.ps 1 Z (GX.nil (rN 3 Z ?_))))))))
              obtain rfl := sI H
              exact rT _ func45 Z Z ⟨Z, (HS.pk 3 [] Z)⟩
             rcases iS H with ⟨c1629, H⟩ | ⟨c1629, H⟩
             ·
              refine G.lex mixed [0, 2, 6, 1, 3, 4, 5, 7, 8, 9, 10, 11, 12, 14, 13, 15, 16, 17, 18, 19, 20, 21] (by kernel_rfl) ?_
              replace HS := HS.drew
              refine qL Z Z (fun _ _ g => fL b1 0 fl31_0 Z g) Z (qL Z Z (fun _ _ g => fL b1579 0 fl107_0 Z g) Z (GX.ps 1 Z (GX.l1 Z Z Z (fun _ g => lB 1 HS Z na29 Z g) Z (GX.l1 Z Z Z (fun _ g => lB 2 HS Z na2 Z g) Z (qL Z Z (fun _ _ g => GO.ix Z Z Z U29 sz77 ((rD 3 r_a) _ HS).2.2.1 c1624.1 c1624.2 Z g) Z (GX.l1 Z Z Z (fun _ g => GO.ldRd (T := (Ty.slice 107 T_GFace)) (n := e1577.Tet.toNat) (o := 0) HS (rD 3 r_a) Z Z (getD_some (d := []) (ltN c1624)) Z Z na77 Z g) Z (qL Z Z (fun _ _ g => GO.ix Z Z Z U77 sz107 ((RdIn.elem (rD 3 r_a) c1624.1 c1624.2) _ HS).2.2.1 c1625.1 c1625.2 Z g) Z (GX.l1 Z Z Z (fun _ g => GO.ldRdA (T := T_GFace) (n := t1613.toNat) HS (RdIn.elem (rD 3 r_a) c1624.1 c1624.2) Z Z (getD_eq (ltN c1625) h1627) ag107 Z g) Z (GX.l1 Z Z Z (fun _ g => lW 0 HS Z ag107 g) Z (qL Z Z (fun _ _ g => GO.neqA Z Z Z ng107 (fun _ => eq107) Z g) Z (qL Z Z (fun _ _ g => mV Z (kN 85 Z (nT c1628) g)) Z (qL Z Z (fun _ _ g => oN Z (fL b1579 0 fl107_0 Z (bK g))) Z (qL Z Z (fun _ _ g => oN Z (mV Z (bK g))) Z (GX.l1 Z Z Z (fun _ g => oN Z (lB 2 HS Z na2 Z (bK g))) Z ?_))))))))))))))
              refine qL Z Z (fun _ _ g => oN Z (GO.eql Z Z Z Z (bK g))) Z (qL Z Z (fun _ _ g => oN Z (mV Z (bK (kN 90 Z (tF c1629) g)))) Z (qL Z Z (fun _ _ g => oF Z g) Z (qL Z Z (fun _ _ g => oF Z g) Z (qL Z Z (fun _ _ g => oF Z g) Z (qL Z Z (fun _ _ g => oN Z (GO.pickF Z Z Z Z Z (bK g))) Z (GX.ps 1 Z (GX.nil (rN 5 Z (G.weak ?_ (m1 n1 (by omega) (by omega) _ _ H (HS.pk 3 [1] Z)))))))))))
              exact ⟨Z, Z, Z, tv⟩
             refine G.lex mixed [0, 2, 6, 1, 3, 4, 5, 7, 8, 9, 10, 11, 12, 14, 13, 15, 16, 17, 18, 19, 20, 21] (by kernel_rfl) ?_
             replace HS := HS.drew
             refine qL Z Z (fun _ _ g => fL b1 0 fl31_0 Z g) Z (qL Z Z (fun _ _ g => fL b1579 0 fl107_0 Z g) Z (GX.ps 1 Z (GX.l1 Z Z Z (fun _ g => lB 1 HS Z na29 Z g) Z (GX.l1 Z Z Z (fun _ g => lB 2 HS Z na2 Z g) Z (qL Z Z (fun _ _ g => GO.ix Z Z Z U29 sz77 ((rD 3 r_a) _ HS).2.2.1 c1624.1 c1624.2 Z g) Z (GX.l1 Z Z Z (fun _ g => GO.ldRd (T := (Ty.slice 107 T_GFace)) (n := e1577.Tet.toNat) (o := 0) HS (rD 3 r_a) Z Z (getD_some (d := []) (ltN c1624)) Z Z na77 Z g) Z (qL Z Z (fun _ _ g => GO.ix Z Z Z U77 sz107 ((RdIn.elem (rD 3 r_a) c1624.1 c1624.2) _ HS).2.2.1 c1625.1 c1625.2 Z g) Z (GX.l1 Z Z Z (fun _ g => GO.ldRdA (T := T_GFace) (n := t1613.toNat) HS (RdIn.elem (rD 3 r_a) c1624.1 c1624.2) Z Z (getD_eq (ltN c1625) h1627) ag107 Z g) Z (GX.l1 Z Z Z (fun _ g => lW 0 HS Z ag107 g) Z (qL Z Z (fun _ _ g => GO.neqA Z Z Z ng107 (fun _ => eq107) Z g) Z (qL Z Z (fun _ _ g => mV Z (kN 85 Z (nT c1628) g)) Z (qL Z Z (fun _ _ g => oN Z (fL b1579 0 fl107_0 Z (bK g))) Z (qL Z Z (fun _ _ g => oN Z (mV Z (bK g))) Z (GX.l1 Z Z Z (fun _ g => oN Z (lB 2 HS Z na2 Z (bK g))) Z ?_))))))))))))))
             refine qL Z Z (fun _ _ g => oN Z (GO.eql Z Z Z Z (bK g))) Z (qL Z Z (fun _ _ g => oN Z (mV Z (bK (kN 90 Z (tT c1629) g)))) Z (qL Z Z (fun _ _ g => oN Z (mV Z (bK g))) Z (qL Z Z (fun _ _ g => oN Z (mV Z (bK g))) Z (qL Z Z (fun _ _ g => oN Z (GO.eql Z Z Z Z (bK g))) Z (qL Z Z (fun _ _ g => oN Z (GO.pickT Z Z Z Z Z (bK g))) Z (GX.ps 1 Z (GX.nil ?_)))))))
             rcases iE H with ⟨c1630, H⟩ | ⟨c1630, H⟩
             ·
              refine yB Z (tT c1630) (rN 2 Z ?_)
              obtain rfl := sI H
              exact rT _ func45 Z Z ⟨Z, (HS.pk 3 [] Z)⟩
             refine nB Z (tF c1630) (rN 4 Z (G.weak ?_ (m1 n1 (by omega) (by omega) _ _ H (HS.pk 3 [1] Z))))
             exact ⟨Z, Z, Z, tv⟩
           rcases iS H with ⟨c1631, H⟩ | ⟨c1631, H⟩
           ·
            refine rG (fL b1579 0 fl107_0 Z (lB 0 HS Z na2 Z (pS 2 Z (kN 47 Z (tF c1631) (oF Z (oF Z (oF Z (GO.pickF Z Z Z Z Z (nL (G.weak ?_ (p1 h1 (lR _) _ _ H (HS.pk 2 [1, 0] Z))))))))))))
            exact ⟨Z, Z, Z, Z, Z, tv⟩
           refine rG (fL b1579 0 fl107_0 Z (lB 0 HS Z na2 Z (pS 2 Z (kN 47 Z (tT c1631) (oN Z (fL b1579 1 fl107_1 Z (bK (oN Z (lB 0 HS Z na2 Z (bK (oN Z (GO.eql Z Z Z Z (bK (GO.pickT Z Z Z Z Z ?_))))))))))))))
           refine nL (G.weak ?_ (p1 h1 (lR _) _ _ H (HS.pk 2 [1, 0] Z)))
           exact ⟨Z, Z, Z, Z, Z, tv⟩
        refine G.weak ?_ (y1 q1 (lR _) _ _ H HS)
        exact ⟨Z, Z, Z, tv⟩
     refine G.weak ?_ (s1 o1 (lR _) _ _ H HS)
     exact ⟨Z, Z, tv⟩
  refine G.weak ?_ (g2 K (lR _) _ _ H HS)
  exact ⟨Z, Z, tv⟩
theorem spec_l12Most.calls {kind r1 : Int} (HS : St w0 w (L)) (H : spec_l12Most.f K kind = some r1) :
    Calls prog 62 #[I kind] w (spec_l12Most.post w0 L r1) := by
  unfold spec_l12Most.f at H
  refine cG func62 Z ?_
  refine rN 9 Z ?_
  refine G.nameT (fun d1 c1 => ?_)
  have b1 : ∀ a1, a1 ≤ K → ∀ (x2 : Bool) (w : World), spec_l12Most.j1 K a1 kind x2 = some r1 → St w0 w (L) → G prog 62 11 [(3, I kind), (4, .bool x2)] d1 w (spec_l12Most.post w0 L r1) := by
   intro a1 e1 x2 w H HS
   cases a1 with
   | zero => rw [spec_l12Most.j1] at H; cases H
   | succ f1 =>
    rw [spec_l12Most.j1] at H
    subst c1
    rcases iE H with ⟨c3, H⟩ | ⟨c3, H⟩
    ·
     refine yB Z c3 (rN 2 Z ?_)
     obtain rfl := sI H
     exact rT _ func62 Z Z ⟨Z, HS⟩
    refine nB Z (bnot_of c3) (rN 2 Z ?_)
    rcases iE H with ⟨c4, H⟩ | ⟨c4, H⟩
    ·
     refine yB Z (tT c4) (rN 2 Z ?_)
     obtain rfl := sI H
     exact rT _ func62 Z Z ⟨Z, HS⟩
    refine nB Z (tF c4) (rN 2 Z ?_)
    rcases iE H with ⟨c5, H⟩ | ⟨c5, H⟩
    ·
     refine yB Z (tT c5) (rN 2 Z ?_)
     obtain rfl := sI H
     exact rT _ func62 Z Z ⟨Z, HS⟩
    refine nB Z (tF c5) (rN 4 Z ?_)
    obtain rfl := sI H
    exact rT _ func62 Z Z ⟨Z, HS⟩
  rcases iE H with ⟨c6, H⟩ | ⟨c6, H⟩
  ·
   refine yB Z (tT c6) (G.skip (G.weak ?_ (b1 K (lR _) _ _ H HS)))
   exact ⟨Z, Z, tv⟩
  refine nB Z (tF c6) (rN 1 Z (G.weak ?_ (b1 K (lR _) _ _ H HS)))
  exact ⟨Z, Z, tv⟩
theorem spec_l07Free.calls {r1 : List GFace} (HS : St w0 w (L)) (H : spec_l07Free.f = some r1) :
    Calls prog 83 #[] w (spec_l07Free.post w0 L r1) := by
  unfold spec_l07Free.f at H
  refine cG func83 Z ?_
  refine rN 3 Z (rG (GO.buildV (.agg [I (-1), I 0].toArray) Z Z (fun _ => by kernel_rfl) Z (GO.buildV (.agg [I (-1), I 0].toArray) Z Z (fun _ => by kernel_rfl) Z (GO.buildV (.agg [I (-1), I 0].toArray) Z Z (fun _ => by kernel_rfl) Z (GO.buildV (.agg [I (-1), I 0].toArray) Z Z (fun _ => by kernel_rfl) Z (GO.buildS (el := 107) ([I (-1), I 0, I (-1), I 0, I (-1), I 0, I (-1), I 0]) HS Z Z (fun _ => by kernel_rfl) Z fun b1 wd2 HS => ?_))))))
  replace HS := HS.boxRow (T := T_GFace) (j := 0) Z flat_flat (fun _ => ()) ([(⟨(-1), 0⟩ : GFace), (⟨(-1), 0⟩ : GFace), (⟨(-1), 0⟩ : GFace), (⟨(-1), 0⟩ : GFace)] : List GFace) Z (bndL Z)
  refine GO.lenC (t := 5) (m := ([(⟨(-1), 0⟩ : GFace), (⟨(-1), 0⟩ : GFace), (⟨(-1), 0⟩ : GFace), (⟨(-1), 0⟩ : GFace)] : List GFace).length) (c' := ([(⟨(-1), 0⟩ : GFace), (⟨(-1), 0⟩ : GFace), (⟨(-1), 0⟩ : GFace), (⟨(-1), 0⟩ : GFace)] : List GFace).length) Z Z Z (aS Z (nL ?_))
  obtain rfl := sI H
  exact rT _ func83 Z Z ⟨_, _, Z, HS⟩
theorem spec_l12Map.calls {a1 to : List Int} {r1 : Int} (HS : St w0 w (L)) (r_a : RdIn w0 L (TInt .i64) A_a c_a (fun _ => ()) a1) (r_b : RdIn w0 L (TInt .i64) A_b c_b (fun _ => ()) to) (H : spec_l12Map.f K a1 to = some r1) :
    Calls prog 131 #[.slice A_a a1.length c_a, .slice A_b to.length c_b] w (spec_l12Map.post w0 L r1) := by
  unfold spec_l12Map.f at H
  refine cG func131 Z ?_
  refine rN 3 Z (rG (GO.buildS (el := 2) ([I 0, I 0, I 0, I 0]) HS Z Z (fun _ => by kernel_rfl) Z fun b1 wd2 HS => ?_))
  replace HS := HS.boxRow (T := (TInt .i64)) (j := 0) Z flat_flat (fun _ => ()) ([0, 0, 0, 0] : List Int) Z (bndL Z)
  refine GO.lenC (t := 7) (m := ([0, 0, 0, 0] : List Int).length) (c' := ([0, 0, 0, 0] : List Int).length) Z Z Z (aS Z (nL (rN 5 Z ?_)))
  refine G.name (fun i1 k1 => ?_)
  have g1 : ∀ c1, c1 ≤ K → ∀ (d1 : List Int) (i_9 : Int) (w : World), spec_l12Map.l1 K c1 a1 to d1 i_9 = some r1 → St w0 w (Own (TInt .i64) 2 (some ⟨b1, 0, none⟩) (([0, 0, 0, 0] : List Int).length) (fun _ => ()) d1 :: L) → G prog 131 24 [(0, .slice A_a a1.length c_a), (1, .slice A_b to.length c_b), (5, .slice (some ⟨b1, 0, none⟩) d1.length (([0, 0, 0, 0] : List Int).length)), (6, I i_9)] i1 w (spec_l12Map.post w0 L r1) := by
   intro c1
   induction c1 using Nat.strongRecOn with
   | _ c1 e1 =>
    intro h1 d1 i_9 w H HS
    cases c1 with
    | zero => rw [spec_l12Map.l1] at H; cases H
    | succ f1 =>
     rw [spec_l12Map.l1] at H
     subst k1
     refine rN 3 Z ?_
     rcases iS H with ⟨c20, H⟩ | ⟨c20, H⟩
     ·
      refine nB Z (tF c20) (rN 2 Z ?_)
      obtain ⟨t26, h27, H⟩ := bI H
      refine rG (mV Z (fJ fok117 Z (spec_l06Index.calls HS (RdIn.own (j := 0) Z) h27) (fun _ wd28 ⟨h29, HS⟩ => ⟨_, h29, (aS Z (nL ?_))⟩)))
      obtain rfl := sI H
      exact rT _ func131 Z Z ⟨Z, (HS.pk 1 [] Z)⟩
     refine yB Z (tT c20) (rN 3 Z ?_)
     obtain ⟨c21, H⟩ := iN H
     obtain ⟨c22, H⟩ := iN H
     obtain ⟨c23, H⟩ := iN H
     have h24 := ((RdIn.own (j := 0) Z) _ HS).2.2.1
     refine G.lex mixed [0, 1, 2, 3, 5, 6, 7, 4, 8, 9, 10] (by kernel_rfl) ?_
     replace HS := HS.drew
     refine GX.ps 3 Z (qL Z Z (fun _ _ g => GO.ix Z Z Z U56 sz2 ((rD 1 r_a) _ HS).2.2.1 c21.1 c21.2 Z g) Z (GX.ps 2 Z (qL Z Z (fun _ _ g => GO.ix Z Z Z U56 sz2 ((rD 1 r_b) _ HS).2.2.1 c22.1 c22.2 Z g) Z (GX.l1 Z Z Z (fun _ g => GO.ldRd (T := (TInt .i64)) (n := i_9.toNat) (o := 0) HS (rD 1 r_a) Z Z (getD_some (d := 0) (ltN c21)) Z Z na2 Z g) Z (GX.l1 Z Z Z (fun _ g => GO.ldRd (T := (TInt .i64)) (n := i_9.toNat) (o := 0) HS (rD 1 r_b) Z Z (getD_some (d := 0) (ltN c22)) Z Z na2 Z g) Z (qL Z Z (fun _ _ g => GO.ix Z Z Z U56 sz2 h24 c23.1 c23.2 Z g) Z (GX.l2 Z (GO.stRow (T := (TInt .i64)) (j := 0) (n := (a1.getD i_9.toNat 0).toNat) (o := 0) (vs := [I (to.getD i_9.toNat 0)]) (to.getD i_9.toNat 0) HS Z flat_flat Z Z Z Z (htN na2 Z) Z (getD_some (d := 0) (ltN c23)) Z Z fun wd25 HS => GX.fin tv (GX.nil (G.len (t := 5) (m := (d1.set ((a1.getD i_9.toNat 0).toNat) (to.getD i_9.toNat 0)).length) Z (by simp only [List.length_set] <;> rfl) (rN 3 Z (G.weak ?_ (e1 f1 (Nat.lt_succ_of_le (lR _)) (Nat.le_of_succ_le h1) _ _ _ H HS)))))))))))))
     exact ⟨Z, Z, Z, Z, tv⟩
  refine G.weak ?_ (g1 K (lR _) _ _ _ H HS)
  exact ⟨Z, Z, Z, Z, tv⟩
theorem spec_l12Plan23.calls {i4 : List (List GFace)} {o A : Int} {y_a : Nat → (Ty.slice 107 T_GFace).Lay} {r1 : List Int} {r2 : List (List GFace)} {r3 : List GL12Outer} {r4 : Bool} (HS : St w0 w (L)) (r_a : RdIn w0 L (Ty.slice 107 T_GFace) A_a c_a y_a i4) (H : spec_l12Plan23.f K i4 o A = some (r1, r2, r3, r4)) :
    Calls prog 103 #[.agg [.slice A_a i4.length c_a].toArray, I o, I A] w (spec_l12Plan23.post w0 L r1 r2 r3 r4) := by
  unfold spec_l12Plan23.f at H
  refine cG func103 Z ?_
  refine sQ (rG (bA HS Z fun b1 wd2 HS => GO.alloc HS Z zr65 Z Z fun b3 wd4 HS => aS Z (nL (sQ ?_))))
  obtain ⟨c5, H⟩ := iN H
  obtain ⟨c6, H⟩ := iN H
  obtain ⟨e7, h8, H⟩ := bnd_elim H
  refine rG (fL b1 0 fl31_0 Z (lB 1 HS Z na29 Z (mV Z (GO.ix Z Z Z U29 sz77 ((rD 2 r_a) _ HS).2.2.1 c5.1 c5.2 Z (GO.ldRd (T := (Ty.slice 107 T_GFace)) (n := o.toNat) (o := 0) HS (rD 2 r_a) Z Z (getD_some (d := []) (ltN c5)) Z Z na77 Z (mV Z (GO.ix Z Z Z U77 sz107 ((RdIn.elem (rD 2 r_a) c5.1 c5.2) _ HS).2.2.1 c6.1 c6.2 Z (GO.ldRdA (T := T_GFace) (n := A.toNat) HS (RdIn.elem (rD 2 r_a) c5.1 c5.2) Z Z (getD_eq (ltN c6) h8) ag107 Z (GO.alloc HS Z zr107 Z Z fun b9 wd10 HS => sW 0 HS Z ag107 Z fun wd11 HS => nL (rN 2 Z ?_))))))))))
  rcases iE H with ⟨c13, H⟩ | ⟨c13, H⟩
  ·
   refine rG (fL b9 0 fl107_0 Z (lB 0 HS Z na2 Z (pS 2 Z (kN 29 Z (tT c13) (oF Z (oF Z (oF Z (oF Z (GO.pickT Z Z Z Z Z (nL (rN 2 Z (rG (GO.buildV (.agg [.slice none 0 0, .slice none 0 0, .slice none 0 0].toArray) Z Z (fun _ => by kernel_rfl) Z (sW 1 HS Z ag65 Z fun wd14 HS => ?_))))))))))))))
   refine aS Z (nL ?_)
   replace HS := HS.nilRow (TInt .i64) 2 (fun _ => ())
   replace HS := HS.nilRow (Ty.slice 107 T_GFace) 77 (fun _ => ⟨none, 0, (fun _ => ())⟩)
   replace HS := HS.nilRow T_GL12Outer 122 (fun _ => ())
   obtain ⟨rfl, rfl, rfl, rfl⟩ := some4 H
   exact G.ret2 _ _ func103 Z (Res1.boxA (j := 4) (vs := [.slice none 0 0, .slice none 0 0, .slice none 0 0]) HS Z Z Z ag65) Z ⟨_, _, _, _, _, _, _, Z, (HS.pk 6 [2, 1, 0] Z)⟩
  refine rG (fL b9 0 fl107_0 Z (lB 0 HS Z na2 Z (pS 2 Z (kN 29 Z (tF c13) (oN Z (fL b9 0 fl107_0 Z (bK (oN Z (lB 0 HS Z na2 Z (bK (oN Z (mV Z (bK (oN Z ?_))))))))))))))
  refine GO.eql Z Z Z Z (bK (GO.pickF Z Z Z Z Z (nL ?_)))
  rcases iE H with ⟨c15, H⟩ | ⟨c15, H⟩
  ·
   refine yB Z (tT c15) (sQ (rG (GO.buildV (.agg [.slice none 0 0, .slice none 0 0, .slice none 0 0].toArray) Z Z (fun _ => by kernel_rfl) Z (sW 1 HS Z ag65 Z fun wd16 HS => aS Z (nL ?_)))))
   replace HS := HS.nilRow (TInt .i64) 2 (fun _ => ())
   replace HS := HS.nilRow (Ty.slice 107 T_GFace) 77 (fun _ => ⟨none, 0, (fun _ => ())⟩)
   replace HS := HS.nilRow T_GL12Outer 122 (fun _ => ())
   obtain ⟨rfl, rfl, rfl, rfl⟩ := some4 H
   exact G.ret2 _ _ func103 Z (Res1.boxA (j := 4) (vs := [.slice none 0 0, .slice none 0 0, .slice none 0 0]) HS Z Z Z ag65) Z ⟨_, _, _, _, _, _, _, Z, (HS.pk 6 [2, 1, 0] Z)⟩
  refine nB Z (tF c15) (rN 2 Z (rG (GO.buildS (el := 2) ([]) HS Z Z (fun _ => by kernel_rfl) Z fun b17 wd18 HS => ?_)))
  replace HS := HS.boxRow (T := (TInt .i64)) (j := 0) Z flat_flat (fun _ => ()) ([] : List Int) Z (bndL Z)
  refine GO.lenC (t := 36) (m := ([] : List Int).length) (c' := ([] : List Int).length) Z Z Z (aS Z (nL (rN 5 Z ?_)))
  refine G.name (fun t4 s4 => ?_)
  have p4 : ∀ y2, y2 ≤ K → ∀ (A26 : Option Addr) (c27 : Nat) (x28 : List Int) (x29 : Int) (w : World), spec_l12Plan23.l1 K y2 o A e7 x28 x29 = some (r1, r2, r3, r4) → St w0 w (Box b3 65 [.slice none 0 0, .slice none 0 0, .slice none 0 0] :: Box b9 107 [I e7.Tet, I e7.Perm] :: Own (TInt .i64) 2 A26 c27 (fun _ => ()) x28 :: L) → G prog 103 138 [(1, I o), (2, I A), (6, .pointer (some ⟨b3, 0, none⟩)), (8, .pointer (some ⟨b9, 0, none⟩)), (9, .slice A26 x28.length c27), (10, I x29)] t4 w (spec_l12Plan23.post w0 L r1 r2 r3 r4) := by
   intro y2
   induction y2 using Nat.strongRecOn with
   | _ y2 m4 =>
    intro k4 A26 c27 x28 x29 w H HS
    cases y2 with
    | zero => rw [spec_l12Plan23.l1] at H; cases H
    | succ h4 =>
     rw [spec_l12Plan23.l1] at H
     subst s4
     refine rN 3 Z ?_
     rcases iE H with ⟨c277, H⟩ | ⟨c277, H⟩
     ·
      refine yB Z (tT c277) (rN 5 Z ?_)
      rcases iE H with ⟨c278, H⟩ | ⟨c278, H⟩
      ·
       refine nB Z (nT c278) (rN 4 Z (G.weak ?_ (m4 h4 (Nat.lt_succ_of_le (lR _)) (Nat.le_of_succ_le k4) _ _ _ _ _ H HS)))
       exact ⟨Z, Z, Z, Z, Z, Z, tv⟩
      refine yB Z (nF c278) ?_
      obtain ⟨c284, H⟩ := iN H
      refine rG (pS 2 Z (GO.buildS (el := 2) ([I x29]) HS Z Z (fun _ => by kernel_rfl) Z fun b279 wd280 HS => GO.app1 (T := (TInt .i64)) (j := 3) (jb := 0) x29 HS Z Z flat_flat Z Z Z U56 inf2 Z Z Z c284 Z fun A282 c283 wd281 HS => aS Z (nL (rN 3 Z (G.weak ?_ (m4 h4 (Nat.lt_succ_of_le (lR _)) (Nat.le_of_succ_le k4) _ _ _ _ _ H (HS.pk 4 [1, 2, 3] Z)))))))
      exact ⟨Z, Z, Z, Z, Z, Z, tv⟩
     refine nB Z (tF c277) (rN 2 Z (rG (mV Z (fL b9 0 fl107_0 Z (lB 1 HS Z na2 Z (GO.buildS (el := 2) ([I o, I e7.Tet]) HS Z Z (fun _ => by kernel_rfl) Z fun b285 wd286 HS => ?_))))))
     replace HS := HS.boxRow (T := (TInt .i64)) (j := 0) Z flat_flat (fun _ => ()) ([o, e7.Tet] : List Int) Z (bndL Z)
     refine GO.lenC (t := 51) (m := ([o, e7.Tet] : List Int).length) (c' := ([o, e7.Tet] : List Int).length) Z Z Z (GO.buildV (.agg [.slice (some ⟨b285, 0, none⟩) ([o, e7.Tet] : List Int).length (([o, e7.Tet] : List Int).length), .slice none 0 0, .slice none 0 0].toArray) Z Z (fun _ => by kernel_rfl) Z (GO.alloc HS Z zr65 Z Z fun b287 wd288 HS => sW 0 HS Z ag65 Z fun wd289 HS => nL (rN 5 Z ?_)))
     refine G.name (fun x4 v4 => ?_)
     have u4 : ∀ u1, u1 ≤ h4 → ∀ (A364 : Option Addr) (c365 : Nat) (x366 : List (List GFace)) (y367 : Nat → (Ty.slice 107 T_GFace).Lay) (A368 : Option Addr) (c369 : Nat) (x370 : List GL12Outer) (x371 : Int) (w : World), spec_l12Plan23.l3 K u1 o A e7 x28 x366 x370 x371 = some (r1, r2, r3, r4) → St w0 w (Box b3 65 [.slice none 0 0, .slice none 0 0, .slice none 0 0] :: Box b9 107 [I e7.Tet, I e7.Perm] :: Own (TInt .i64) 2 A26 c27 (fun _ => ()) x28 :: Box b287 65 [.slice (some ⟨b285, 0, none⟩) ([o, e7.Tet] : List Int).length (([o, e7.Tet] : List Int).length), .slice A364 x366.length c365, .slice A368 x370.length c369] :: Own (TInt .i64) 2 (some ⟨b285, 0, none⟩) (([o, e7.Tet] : List Int).length) (fun _ => ()) ([o, e7.Tet] : List Int) :: Own (Ty.slice 107 T_GFace) 77 A364 c365 y367 x366 :: Own T_GL12Outer 122 A368 c369 (fun _ => ()) x370 :: L) → G prog 103 138 [(1, I o), (2, I A), (6, .pointer (some ⟨b3, 0, none⟩)), (8, .pointer (some ⟨b9, 0, none⟩)), (9, .slice A26 x28.length c27), (11, .pointer (some ⟨b287, 0, none⟩)), (12, I x371)] x4 w (spec_l12Plan23.post w0 L r1 r2 r3 r4) := by
      intro u1
      induction u1 using Nat.strongRecOn with
      | _ u1 q4 =>
       intro o4 A364 c365 x366 y367 A368 c369 x370 x371 w H HS
       cases u1 with
       | zero => rw [spec_l12Plan23.l3] at H; cases H
       | succ n4 =>
        rw [spec_l12Plan23.l3] at H
        subst v4
        refine rN 3 Z ?_
        rcases iS H with ⟨c448, H⟩ | ⟨c448, H⟩
        ·
         refine nB Z (tF c448) (rN 2 Z (rG (lW 3 HS Z ag65 (sW 0 HS Z ag65 Z fun wd523 HS => aS Z (nL ?_)))))
         obtain ⟨rfl, rfl, rfl, rfl⟩ := some4 H
         exact G.ret2 _ _ func103 Z (Res1.boxA (j := 0) (vs := [.slice (some ⟨b285, 0, none⟩) ([o, e7.Tet] : List Int).length (([o, e7.Tet] : List Int).length), .slice A364 x366.length c365, .slice A368 x370.length c369]) HS Z Z Z ag65) Z ⟨_, _, _, _, _, _, _, Z, (HS.pk 7 [4, 5, 6] Z)⟩
        refine yB Z (tT c448) (rN 4 Z ?_)
        obtain ⟨c449, H⟩ := iN H
        have h450 := ((RdIn.own (j := 2) Z) _ HS).2.2.1
        obtain ⟨c451, H⟩ := iN H
        have h452 := ((RdIn.own (j := 2) Z) _ HS).2.2.1
        obtain ⟨c453, H⟩ := iN H
        have h454 := ((RdIn.own (j := 2) Z) _ HS).2.2.1
        refine G.lex mixed [0, 1, 2, 3, 4, 6, 7, 8, 9, 10, 12, 13, 14, 5, 16, 11, 17, 15, 18] (by kernel_rfl) ?_
        replace HS := HS.drew
        refine GX.ps 3 Z (qL Z Z (fun _ _ g => GO.rem Z Z Z (by decide) Z g) Z (qL Z Z (fun _ _ g => GO.ix Z Z Z U56 sz2 h450 c449.1 c449.2 Z g) Z (GX.ps 3 Z (qL Z Z (fun _ _ g => GO.rem Z Z Z (by decide) Z g) Z (qL Z Z (fun _ _ g => GO.ix Z Z Z U56 sz2 h452 c451.1 c451.2 Z g) Z (GX.ps 2 Z (qL Z Z (fun _ _ g => GO.ix Z Z Z U56 sz2 h454 c453.1 c453.2 Z g) Z (GX.l1 Z Z Z (fun _ g => GO.ldRd (T := (TInt .i64)) (n := ((w64 (x371 + 1)).tmod 3).toNat) (o := 0) HS (RdIn.own (j := 2) Z) Z Z (getD_some (d := 0) (ltN c449)) Z Z na2 Z g) Z (GX.ps 1 Z (GX.l1 Z Z Z (fun _ g => GO.ldRd (T := (TInt .i64)) (n := ((w64 (x371 + 2)).tmod 3).toNat) (o := 0) HS (RdIn.own (j := 2) Z) Z Z (getD_some (d := 0) (ltN c451)) Z Z na2 Z g) Z (GX.ps 1 Z (GX.l1 Z Z Z (fun _ g => GO.ldRd (T := (TInt .i64)) (n := x371.toNat) (o := 0) HS (RdIn.own (j := 2) Z) Z Z (getD_some (d := 0) (ltN c453)) Z Z na2 Z g) Z (GX.ps 1 Z (GX.nil ?_))))))))))))))
        refine sQ ?_
        obtain ⟨t455, h456, H⟩ := bI H
        refine rG (fJ fok83 Z (spec_l07Free.calls HS  h456) (fun _ wd459 ⟨A457, c458, h460, HS⟩ => ⟨_, h460, (aS Z (nL (sQ ?_)))⟩))
        obtain ⟨c461, H⟩ := iN H
        refine rG (pS 3 Z (GO.rem Z Z Z (by decide) Z (GO.buildV (.agg [I ((w64 (x371 + 1)).tmod 3), I 1].toArray) Z Z (fun _ => by kernel_rfl) Z (GO.ix Z Z Z U77 sz107 ((RdIn.own (j := 0) Z) _ HS).2.2.1 c461.1 c461.2 Z (GO.stRow (T := T_GFace) (j := 0) (n := 2) (o := 0) (vs := [I ((w64 (x371 + 1)).tmod 3), I 1]) (⟨(w64 (x371 + 1)).tmod 3, 1⟩ : GFace) HS Z flat_flat Z Z Z Z (htA ag107) Z (getD_some (d := z_GFace) (ltN c461)) Z Z fun wd462 HS => nL (G.len (t := 16) (m := (t455.set 2 (⟨(w64 (x371 + 1)).tmod 3, 1⟩ : GFace)).length) Z (by simp only [List.length_set] <;> rfl) (sQ ?_)))))))
        obtain ⟨c463, H⟩ := iN H
        refine rG (pS 3 Z (GO.rem Z Z Z (by decide) Z (GO.buildV (.agg [I ((w64 (x371 + 2)).tmod 3), I 1].toArray) Z Z (fun _ => by kernel_rfl) Z (GO.ix Z Z Z U77 sz107 ((RdIn.own (j := 0) Z) _ HS).2.2.1 c463.1 c463.2 Z (GO.stRow (T := T_GFace) (j := 0) (n := 3) (o := 0) (vs := [I ((w64 (x371 + 2)).tmod 3), I 1]) (⟨(w64 (x371 + 2)).tmod 3, 1⟩ : GFace) HS Z flat_flat Z Z Z Z (htA ag107) Z (getD_some (d := z_GFace) (ltN c463)) Z Z fun wd464 HS => nL (G.len (t := 16) (m := ((t455.set 2 (⟨(w64 (x371 + 1)).tmod 3, 1⟩ : GFace)).set 3 (⟨(w64 (x371 + 2)).tmod 3, 1⟩ : GFace)).length) Z (by simp only [List.length_set] <;> rfl) (sQ ?_)))))))
        obtain ⟨c470, H⟩ := iN H
        refine rG (fL b287 1 fl65_1 Z (lB 4 HS Z na29 Z (mV Z (GO.buildS (el := 77) ([.slice A457 ((t455.set 2 (⟨(w64 (x371 + 1)).tmod 3, 1⟩ : GFace)).set 3 (⟨(w64 (x371 + 2)).tmod 3, 1⟩ : GFace)).length c458]) HS Z Z (fun _ => by kernel_rfl) Z fun b465 wd466 HS => ?_))))
        replace HS := HS.pk 9 [7, 0, 1, 2, 3, 4, 5, 6, 8] Z
        refine GO.appR (S := T_GFace) (u := 107) HS Z Z Z U29 inf77 Z Z c470 Z fun A468 c469 y471 wd467 HS => fL b287 1 fl65_1 Z (GO.stBox (j := 5) (vs := [.slice A468 (x366 ++ [((t455.set 2 (⟨(w64 (x371 + 1)).tmod 3, 1⟩ : GFace)).set 3 (⟨(w64 (x371 + 2)).tmod 3, 1⟩ : GFace))]).length c469]) ([.slice (some ⟨b285, 0, none⟩) ([o, e7.Tet] : List Int).length (([o, e7.Tet] : List Int).length), .slice A468 (x366 ++ [((t455.set 2 (⟨(w64 (x371 + 1)).tmod 3, 1⟩ : GFace)).set 3 (⟨(w64 (x371 + 2)).tmod 3, 1⟩ : GFace))]).length c469, .slice A368 x370.length c369]) HS Z Z Z Z Z (htN na29 Z) Z Z Z fun wd472 HS => nL (sQ ?_))
        obtain ⟨t477, h478, H⟩ := bI H
        obtain ⟨c486, H⟩ := iN H
        refine G.regionAny mixed (by decide) (fun b a w => ∃ (t2 : Value) (s2 : Value) (c2 : Value) (j3 : Value) (i2 : Value) (g3 : Value) (c3 : Value) (n2 : Value) (z2 : Value) (x1 : Value) (k3 : Value) (v1 : Value) (u2 : Value) (k2 : Value) (q2 : Value) (h2 : Value) (b473 : Nat) (b475 : Nat) (b481 : Nat) (A484 : Option Addr) (c485 : Nat) (z3 : HObj) (y3 : HObj) (a4 : HObj) (v3 : HObj) (e4 : HObj), Sat 138 [(92, t2), (93, s2), (94, c2), (95, j3), (96, i2), (97, g3), (98, c3), (99, n2), (100, z2), (101, x1), (102, k3), (103, v1), (104, u2), (105, k2), (106, q2), (107, h2), (1, I o), (2, I A), (6, .pointer (some ⟨b3, 0, none⟩)), (8, .pointer (some ⟨b9, 0, none⟩)), (9, .slice A26 x28.length c27), (11, .pointer (some ⟨b287, 0, none⟩)), (12, I x371), (13, I (x28.getD (((w64 (x371 + 1)).tmod 3).toNat) 0)), (14, I (x28.getD (((w64 (x371 + 2)).tmod 3).toNat) 0)), (15, I (x28.getD x371.toNat 0))] a ∧ St w0 w (Own (Ty.slice 107 T_GFace) 77 A468 c469 y471 (x366 ++ [((t455.set 2 (⟨(w64 (x371 + 1)).tmod 3, 1⟩ : GFace)).set 3 (⟨(w64 (x371 + 2)).tmod 3, 1⟩ : GFace))]) :: Box b465 77 [.slice A457 ((t455.set 2 (⟨(w64 (x371 + 1)).tmod 3, 1⟩ : GFace)).set 3 (⟨(w64 (x371 + 2)).tmod 3, 1⟩ : GFace)).length c458] :: Box b3 65 [.slice none 0 0, .slice none 0 0, .slice none 0 0] :: Box b9 107 [I e7.Tet, I e7.Perm] :: Own (TInt .i64) 2 A26 c27 (fun _ => ()) x28 :: z3 :: Own (TInt .i64) 2 (some ⟨b285, 0, none⟩) (([o, e7.Tet] : List Int).length) (fun _ => ()) ([o, e7.Tet] : List Int) :: y3 :: a4 :: v3 :: e4 :: L) ∧ (b 0 = true → t2 = (.pointer (some ⟨b287, 2, none⟩))) ∧ (b 1 = true → s2 = (.slice A368 x370.length c369)) ∧ (b 2 = true → c2 = (I o)) ∧ (b 3 = true → j3 = (I (x28.getD x371.toNat 0))) ∧ (b 4 = true → i2 = (I x371)) ∧ (b 5 = true → g3 = (I A)) ∧ (b 6 = true → c3 = (I (x28.getD (((w64 (x371 + 1)).tmod 3).toNat) 0))) ∧ (b 7 = true → n2 = (I (x28.getD (((w64 (x371 + 2)).tmod 3).toNat) 0))) ∧ (b 8 = true → z2 = (I (x28.getD x371.toNat 0))) ∧ (b 9 = true → x1 = (.slice (some ⟨b473, 0, none⟩) 4 4)) ∧ (b 10 = true → k3 = (.slice (some ⟨b475, 0, none⟩) 4 4)) ∧ (b 11 = true → v1 = (I t477)) ∧ (b 12 = true → u2 = (.agg [I o, I (x28.getD x371.toNat 0), I x371, I t477].toArray)) ∧ (b 13 = true → k2 = (.slice (some ⟨b481, 0, none⟩) 1 1)) ∧ (b 14 = true → q2 = (.slice A484 (x370 ++ [(⟨o, x28.getD x371.toNat 0, x371, t477⟩ : GL12Outer)]).length c485)) ∧ (b 15 = true → h2 = (.pointer (some ⟨b287, 2, none⟩))) ∧ (b 16 = false → z3 = Box b287 65 [.slice (some ⟨b285, 0, none⟩) ([o, e7.Tet] : List Int).length (([o, e7.Tet] : List Int).length), .slice A468 (x366 ++ [((t455.set 2 (⟨(w64 (x371 + 1)).tmod 3, 1⟩ : GFace)).set 3 (⟨(w64 (x371 + 2)).tmod 3, 1⟩ : GFace))]).length c469, .slice A368 x370.length c369]) ∧ (b 16 = true → z3 = Box b287 65 [.slice (some ⟨b285, 0, none⟩) ([o, e7.Tet] : List Int).length (([o, e7.Tet] : List Int).length), .slice A468 (x366 ++ [((t455.set 2 (⟨(w64 (x371 + 1)).tmod 3, 1⟩ : GFace)).set 3 (⟨(w64 (x371 + 2)).tmod 3, 1⟩ : GFace))]).length c469, .slice A484 (x370 ++ [(⟨o, x28.getD x371.toNat 0, x371, t477⟩ : GL12Outer)]).length c485]) ∧ (b 14 = false → y3 = Own T_GL12Outer 122 A368 c369 (fun _ => ()) x370) ∧ (b 14 = true → y3 = Own T_GL12Outer 122 A484 c485 (fun _ => ()) (x370 ++ [(⟨o, x28.getD x371.toNat 0, x371, t477⟩ : GL12Outer)])) ∧ (b 9 = true → b 11 = false → a4 = Box b473 2 [I A, I (x28.getD (((w64 (x371 + 1)).tmod 3).toNat) 0), I (x28.getD (((w64 (x371 + 2)).tmod 3).toNat) 0), I (x28.getD x371.toNat 0)]) ∧ (b 11 = true → a4 = Own (TInt .i64) 2 (some ⟨b473, 0, none⟩) (([A, x28.getD (((w64 (x371 + 1)).tmod 3).toNat) 0, x28.getD (((w64 (x371 + 2)).tmod 3).toNat) 0, x28.getD x371.toNat 0] : List Int).length) (fun _ => ()) ([A, x28.getD (((w64 (x371 + 1)).tmod 3).toNat) 0, x28.getD (((w64 (x371 + 2)).tmod 3).toNat) 0, x28.getD x371.toNat 0] : List Int)) ∧ (b 10 = true → b 11 = false → v3 = Box b475 2 [I 0, I 2, I 3, I 1]) ∧ (b 11 = true → v3 = Own (TInt .i64) 2 (some ⟨b475, 0, none⟩) (([0, 2, 3, 1] : List Int).length) (fun _ => ()) ([0, 2, 3, 1] : List Int)) ∧ (b 13 = true → e4 = Box b481 122 [I o, I (x28.getD x371.toNat 0), I x371, I t477])) ?_ ?_ ?_
        ·
         intro a hs
         obtain ⟨t2, hs⟩ := hs.ext (d := 92) Z
         obtain ⟨s2, hs⟩ := hs.ext (d := 93) Z
         obtain ⟨c2, hs⟩ := hs.ext (d := 94) Z
         obtain ⟨j3, hs⟩ := hs.ext (d := 95) Z
         obtain ⟨i2, hs⟩ := hs.ext (d := 96) Z
         obtain ⟨g3, hs⟩ := hs.ext (d := 97) Z
         obtain ⟨c3, hs⟩ := hs.ext (d := 98) Z
         obtain ⟨n2, hs⟩ := hs.ext (d := 99) Z
         obtain ⟨z2, hs⟩ := hs.ext (d := 100) Z
         obtain ⟨x1, hs⟩ := hs.ext (d := 101) Z
         obtain ⟨k3, hs⟩ := hs.ext (d := 102) Z
         obtain ⟨v1, hs⟩ := hs.ext (d := 103) Z
         obtain ⟨u2, hs⟩ := hs.ext (d := 104) Z
         obtain ⟨k2, hs⟩ := hs.ext (d := 105) Z
         obtain ⟨q2, hs⟩ := hs.ext (d := 106) Z
         obtain ⟨h2, hs⟩ := hs.ext (d := 107) Z
         exact ⟨t2, s2, c2, j3, i2, g3, c3, n2, z2, x1, k3, v1, u2, k2, q2, h2, 0, 0, 0, none, 0, Box b287 65 [.slice (some ⟨b285, 0, none⟩) ([o, e7.Tet] : List Int).length (([o, e7.Tet] : List Int).length), .slice A468 (x366 ++ [((t455.set 2 (⟨(w64 (x371 + 1)).tmod 3, 1⟩ : GFace)).set 3 (⟨(w64 (x371 + 2)).tmod 3, 1⟩ : GFace))]).length c469, .slice A368 x370.length c369], Own T_GL12Outer 122 A368 c369 (fun _ => ()) x370, Emp, Emp, Emp, hs.weak ⟨Z, Z, Z, Z, Z, Z, Z, Z, Z, Z, Z, Z, Z, Z, Z, Z, Z, Z, Z, Z, Z, Z, Z, Z, Z, Z, tv⟩, (HS.drew.emp.emp.emp.pk 11 [3, 4, 5, 6, 7, 8, 9, 10, 2, 1, 0] Z), fun h => Bool.noConfusion h, fun h => Bool.noConfusion h, fun h => Bool.noConfusion h, fun h => Bool.noConfusion h, fun h => Bool.noConfusion h, fun h => Bool.noConfusion h, fun h => Bool.noConfusion h, fun h => Bool.noConfusion h, fun h => Bool.noConfusion h, fun h => Bool.noConfusion h, fun h => Bool.noConfusion h, fun h => Bool.noConfusion h, fun h => Bool.noConfusion h, fun h => Bool.noConfusion h, fun h => Bool.noConfusion h, fun h => Bool.noConfusion h, fun _ => Z, fun h => Bool.noConfusion h, fun _ => Z, fun h => Bool.noConfusion h, fun h => Bool.noConfusion h, fun h => Bool.noConfusion h, fun h => Bool.noConfusion h, fun h => Bool.noConfusion h, fun h => Bool.noConfusion h⟩
        ·
         intro j hj b a w
         refine exI fun t2 => exI fun s2 => exI fun c2 => exI fun j3 => exI fun i2 => exI fun g3 => exI fun c3 => exI fun n2 => exI fun z2 => exI fun x1 => exI fun k3 => exI fun v1 => exI fun u2 => exI fun k2 => exI fun q2 => exI fun h2 => exI fun b473 => exI fun b475 => exI fun b481 => exI fun A484 => exI fun c485 => exI fun z3 => exI fun y3 => exI fun a4 => exI fun v3 => exI fun e4 => anI fun hs => anI fun HS => anI fun f0 => anI fun f1 => anI fun f2 => anI fun f3 => anI fun f4 => anI fun f5 => anI fun f6 => anI fun f7 => anI fun f8 => anI fun f9 => anI fun f10 => anI fun f11 => anI fun f12 => anI fun f13 => anI fun f14 => anI fun f15 => anI fun a1 => anI fun e1 => anI fun c1 => anI fun d1 => anI fun o1 => anI fun p1 => anI fun s1 => anI fun q1 => fun n1 hb hd hcl => ?_
         match j, hj with
         | 0, _ =>
          refine GO.at hs (fL b287 2 fl65_2 Z (GO.fin (fun a hs => ⟨(.pointer (some ⟨b287, 2, none⟩)), _, _, _, _, _, _, _, _, _, _, _, _, _, _, _, b473, b475, b481, A484, c485, _, _, _, _, _, by exact hs.setAt 0 Z, HS, fun _ => Z, f1, f2, f3, f4, f5, f6, f7, f8, f9, f10, f11, f12, f13, f14, f15, a1, e1, c1, d1, o1, p1, s1, q1, n1⟩)))
         | 1, _ =>
          have hb0 : b 0 = true := hd 0 (by decide)
          obtain rfl := f0 hb0
          have d16 : b 16 = false := bfalse (fun hh => hcl 16 (by decide) (hh) 1 (by decide)) hb
          obtain rfl := a1 d16
          refine GO.at hs (lB 5 HS Z na63 Z (GO.fin (fun a hs => ⟨_, (.slice A368 x370.length c369), _, _, _, _, _, _, _, _, _, _, _, _, _, _, b473, b475, b481, A484, c485, _, _, _, _, _, by exact hs.setAt 1 Z, HS, f0, fun _ => Z, f2, f3, f4, f5, f6, f7, f8, f9, f10, f11, f12, f13, f14, f15, a1, e1, c1, d1, o1, p1, s1, q1, n1⟩)))
         | 2, _ =>
          refine GO.at hs (mV Z (GO.fin (fun a hs => ⟨_, _, (I o), _, _, _, _, _, _, _, _, _, _, _, _, _, b473, b475, b481, A484, c485, _, _, _, _, _, by exact hs.setAt 2 Z, HS, f0, f1, fun _ => Z, f3, f4, f5, f6, f7, f8, f9, f10, f11, f12, f13, f14, f15, a1, e1, c1, d1, o1, p1, s1, q1, n1⟩)))
         | 3, _ =>
          refine GO.at hs (mV Z (GO.fin (fun a hs => ⟨_, _, _, (I (x28.getD x371.toNat 0)), _, _, _, _, _, _, _, _, _, _, _, _, b473, b475, b481, A484, c485, _, _, _, _, _, by exact hs.setAt 3 Z, HS, f0, f1, f2, fun _ => Z, f4, f5, f6, f7, f8, f9, f10, f11, f12, f13, f14, f15, a1, e1, c1, d1, o1, p1, s1, q1, n1⟩)))
         | 4, _ =>
          refine GO.at hs (mV Z (GO.fin (fun a hs => ⟨_, _, _, _, (I x371), _, _, _, _, _, _, _, _, _, _, _, b473, b475, b481, A484, c485, _, _, _, _, _, by exact hs.setAt 4 Z, HS, f0, f1, f2, f3, fun _ => Z, f5, f6, f7, f8, f9, f10, f11, f12, f13, f14, f15, a1, e1, c1, d1, o1, p1, s1, q1, n1⟩)))
         | 5, _ =>
          refine GO.at hs (mV Z (GO.fin (fun a hs => ⟨_, _, _, _, _, (I A), _, _, _, _, _, _, _, _, _, _, b473, b475, b481, A484, c485, _, _, _, _, _, by exact hs.setAt 5 Z, HS, f0, f1, f2, f3, f4, fun _ => Z, f6, f7, f8, f9, f10, f11, f12, f13, f14, f15, a1, e1, c1, d1, o1, p1, s1, q1, n1⟩)))
         | 6, _ =>
          refine GO.at hs (mV Z (GO.fin (fun a hs => ⟨_, _, _, _, _, _, (I (x28.getD (((w64 (x371 + 1)).tmod 3).toNat) 0)), _, _, _, _, _, _, _, _, _, b473, b475, b481, A484, c485, _, _, _, _, _, by exact hs.setAt 6 Z, HS, f0, f1, f2, f3, f4, f5, fun _ => Z, f7, f8, f9, f10, f11, f12, f13, f14, f15, a1, e1, c1, d1, o1, p1, s1, q1, n1⟩)))
         | 7, _ =>
          refine GO.at hs (mV Z (GO.fin (fun a hs => ⟨_, _, _, _, _, _, _, (I (x28.getD (((w64 (x371 + 2)).tmod 3).toNat) 0)), _, _, _, _, _, _, _, _, b473, b475, b481, A484, c485, _, _, _, _, _, by exact hs.setAt 7 Z, HS, f0, f1, f2, f3, f4, f5, f6, fun _ => Z, f8, f9, f10, f11, f12, f13, f14, f15, a1, e1, c1, d1, o1, p1, s1, q1, n1⟩)))
         | 8, _ =>
          refine GO.at hs (mV Z (GO.fin (fun a hs => ⟨_, _, _, _, _, _, _, _, (I (x28.getD x371.toNat 0)), _, _, _, _, _, _, _, b473, b475, b481, A484, c485, _, _, _, _, _, by exact hs.setAt 8 Z, HS, f0, f1, f2, f3, f4, f5, f6, f7, fun _ => Z, f9, f10, f11, f12, f13, f14, f15, a1, e1, c1, d1, o1, p1, s1, q1, n1⟩)))
         | 9, _ =>
          have hb5 : b 5 = true := hd 5 (by decide)
          obtain rfl := f5 hb5
          have hb6 : b 6 = true := hd 6 (by decide)
          obtain rfl := f6 hb6
          have hb7 : b 7 = true := hd 7 (by decide)
          obtain rfl := f7 hb7
          have hb8 : b 8 = true := hd 8 (by decide)
          obtain rfl := f8 hb8
          refine GO.at hs (GO.buildS (el := 2) ([I A, I (x28.getD (((w64 (x371 + 1)).tmod 3).toNat) 0), I (x28.getD (((w64 (x371 + 2)).tmod 3).toNat) 0), I (x28.getD x371.toNat 0)]) HS Z Z (fun _ => by kernel_rfl) Z fun b473 wd474 HS => GO.fin (fun a hs => ⟨_, _, _, _, _, _, _, _, _, (.slice (some ⟨b473, 0, none⟩) 4 4), _, _, _, _, _, _, b473, b475, b481, A484, c485, _, _, Box b473 2 [I A, I (x28.getD (((w64 (x371 + 1)).tmod 3).toNat) 0), I (x28.getD (((w64 (x371 + 2)).tmod 3).toNat) 0), I (x28.getD x371.toNat 0)], _, _, by exact hs.setAt 9 Z, HS.pk 12 [1, 2, 3, 4, 5, 6, 7, 8, 0, 10, 11] Z, f0, f1, f2, f3, f4, f5, f6, f7, f8, fun _ => Z, f10, f11, f12, f13, f14, f15, a1, e1, c1, d1, fun _ _ => Z, fun hh => (Bool.noConfusion ((hcl 11 (by decide) hh 9 (by decide)).symm.trans hb)), s1, q1, n1⟩))
         | 10, _ =>
          refine GO.at hs (GO.buildS (el := 2) ([I 0, I 2, I 3, I 1]) HS Z Z (fun _ => by kernel_rfl) Z fun b475 wd476 HS => GO.fin (fun a hs => ⟨_, _, _, _, _, _, _, _, _, _, (.slice (some ⟨b475, 0, none⟩) 4 4), _, _, _, _, _, b473, b475, b481, A484, c485, _, _, _, Box b475 2 [I 0, I 2, I 3, I 1], _, by exact hs.setAt 10 Z, HS.pk 12 [1, 2, 3, 4, 5, 6, 7, 8, 9, 0, 11] Z, f0, f1, f2, f3, f4, f5, f6, f7, f8, f9, fun _ => Z, f11, f12, f13, f14, f15, a1, e1, c1, d1, o1, p1, fun _ _ => Z, fun hh => (Bool.noConfusion ((hcl 11 (by decide) hh 10 (by decide)).symm.trans hb)), n1⟩))
         | 11, _ =>
          have hb9 : b 9 = true := hd 9 (by decide)
          obtain rfl := f9 hb9
          have hb10 : b 10 = true := hd 10 (by decide)
          obtain rfl := f10 hb10
          obtain rfl := o1 hb9 hb
          obtain rfl := s1 hb10 hb
          refine GO.at hs ?_
          replace HS := HS.boxRow (T := (TInt .i64)) (j := 8) Z flat_flat (fun _ => ()) ([A, x28.getD (((w64 (x371 + 1)).tmod 3).toNat) 0, x28.getD (((w64 (x371 + 2)).tmod 3).toNat) 0, x28.getD x371.toNat 0] : List Int) Z (bndL Z)
          refine GO.lenC (t := 101) (m := ([A, x28.getD (((w64 (x371 + 1)).tmod 3).toNat) 0, x28.getD (((w64 (x371 + 2)).tmod 3).toNat) 0, x28.getD x371.toNat 0] : List Int).length) (c' := ([A, x28.getD (((w64 (x371 + 1)).tmod 3).toNat) 0, x28.getD (((w64 (x371 + 2)).tmod 3).toNat) 0, x28.getD x371.toNat 0] : List Int).length) Z Z Z ?_
          replace HS := HS.boxRow (T := (TInt .i64)) (j := 9) Z flat_flat (fun _ => ()) ([0, 2, 3, 1] : List Int) Z (bndL Z)
          refine GO.lenC (t := 102) (m := ([0, 2, 3, 1] : List Int).length) (c' := ([0, 2, 3, 1] : List Int).length) Z Z Z (fJ fok131 Z (spec_l12Map.calls HS (RdIn.own (j := 8) Z) (RdIn.own (j := 9) Z) h478) (fun _ wd479 ⟨h480, HS⟩ => ⟨_, h480, (GO.fin (fun a hs => ⟨_, _, _, _, _, _, _, _, _, _, _, (I t477), _, _, _, _, b473, b475, b481, A484, c485, _, _, Own (TInt .i64) 2 (some ⟨b473, 0, none⟩) (([A, x28.getD (((w64 (x371 + 1)).tmod 3).toNat) 0, x28.getD (((w64 (x371 + 2)).tmod 3).toNat) 0, x28.getD x371.toNat 0] : List Int).length) (fun _ => ()) ([A, x28.getD (((w64 (x371 + 1)).tmod 3).toNat) 0, x28.getD (((w64 (x371 + 2)).tmod 3).toNat) 0, x28.getD x371.toNat 0] : List Int), Own (TInt .i64) 2 (some ⟨b475, 0, none⟩) (([0, 2, 3, 1] : List Int).length) (fun _ => ()) ([0, 2, 3, 1] : List Int), _, hs.weak ⟨Z, Z, Z, Z, Z, Z, Z, Z, Z, Z, Z, Z, Z, Z, Z, Z, Z, Z, Z, Z, Z, Z, Z, Z, Z, Z, tv⟩, HS, f0, f1, f2, f3, f4, f5, f6, f7, f8, f9, f10, fun _ => Z, f12, f13, f14, f15, a1, e1, c1, d1, fun _ h => Bool.noConfusion h, fun _ => Z, fun _ h => Bool.noConfusion h, fun _ => Z, n1⟩))⟩))
         | 12, _ =>
          have hb2 : b 2 = true := hd 2 (by decide)
          obtain rfl := f2 hb2
          have hb3 : b 3 = true := hd 3 (by decide)
          obtain rfl := f3 hb3
          have hb4 : b 4 = true := hd 4 (by decide)
          obtain rfl := f4 hb4
          have hb11 : b 11 = true := hd 11 (by decide)
          obtain rfl := f11 hb11
          refine GO.at hs (GO.buildV (.agg [I o, I (x28.getD x371.toNat 0), I x371, I t477].toArray) Z Z (fun _ => by kernel_rfl) Z (GO.fin (fun a hs => ⟨_, _, _, _, _, _, _, _, _, _, _, _, (.agg [I o, I (x28.getD x371.toNat 0), I x371, I t477].toArray), _, _, _, b473, b475, b481, A484, c485, _, _, _, _, _, by exact hs.setAt 12 Z, HS, f0, f1, f2, f3, f4, f5, f6, f7, f8, f9, f10, f11, fun _ => Z, f13, f14, f15, a1, e1, c1, d1, o1, p1, s1, q1, n1⟩)))
         | 13, _ =>
          have hb12 : b 12 = true := hd 12 (by decide)
          obtain rfl := f12 hb12
          refine GO.at hs (GO.buildS (el := 122) ([I o, I (x28.getD x371.toNat 0), I x371, I t477]) HS Z Z (fun _ => by kernel_rfl) Z fun b481 wd482 HS => GO.fin (fun a hs => ⟨_, _, _, _, _, _, _, _, _, _, _, _, _, (.slice (some ⟨b481, 0, none⟩) 1 1), _, _, b473, b475, b481, A484, c485, _, _, _, _, Box b481 122 [I o, I (x28.getD x371.toNat 0), I x371, I t477], by exact hs.setAt 13 Z, HS.pk 12 [1, 2, 3, 4, 5, 6, 7, 8, 9, 10, 0] Z, f0, f1, f2, f3, f4, f5, f6, f7, f8, f9, f10, f11, f12, fun _ => Z, f14, f15, a1, e1, c1, d1, o1, p1, s1, q1, fun _ => Z⟩))
         | 14, _ =>
          have hb1 : b 1 = true := hd 1 (by decide)
          obtain rfl := f1 hb1
          have hb13 : b 13 = true := hd 13 (by decide)
          obtain rfl := f13 hb13
          obtain rfl := n1 hb13
          obtain rfl := c1 hb
          refine GO.at hs (GO.app1 (T := T_GL12Outer) (j := 7) (jb := 10) (⟨o, x28.getD x371.toNat 0, x371, t477⟩ : GL12Outer) HS Z Z flat_flat Z Z Z U63 inf122 Z Z Z c486 Z fun A484 c485 wd483 HS => GO.fin (fun a hs => ⟨_, _, _, _, _, _, _, _, _, _, _, _, _, _, (.slice A484 (x370 ++ [(⟨o, x28.getD x371.toNat 0, x371, t477⟩ : GL12Outer)]).length c485), _, b473, b475, b481, A484, c485, _, Own T_GL12Outer 122 A484 c485 (fun _ => ()) (x370 ++ [(⟨o, x28.getD x371.toNat 0, x371, t477⟩ : GL12Outer)]), _, _, _, by exact hs.setAt 14 Z, HS, f0, f1, f2, f3, f4, f5, f6, f7, f8, f9, f10, f11, f12, f13, fun _ => Z, f15, a1, fun hh => (Bool.noConfusion ((hcl 16 (by decide) hh 14 (by decide)).symm.trans hb)), fun h => Bool.noConfusion h, fun _ => Z, o1, p1, s1, q1, n1⟩))
         | 15, _ =>
          refine GO.at hs (fL b287 2 fl65_2 Z (GO.fin (fun a hs => ⟨_, _, _, _, _, _, _, _, _, _, _, _, _, _, _, (.pointer (some ⟨b287, 2, none⟩)), b473, b475, b481, A484, c485, _, _, _, _, _, by exact hs.setAt 15 Z, HS, f0, f1, f2, f3, f4, f5, f6, f7, f8, f9, f10, f11, f12, f13, f14, fun _ => Z, a1, e1, c1, d1, o1, p1, s1, q1, n1⟩)))
         | 16, _ =>
          have hb14 : b 14 = true := hd 14 (by decide)
          obtain rfl := f14 hb14
          have hb15 : b 15 = true := hd 15 (by decide)
          obtain rfl := f15 hb15
          obtain rfl := a1 hb
          refine GO.at hs (GO.stBox (j := 5) (vs := [.slice A484 (x370 ++ [(⟨o, x28.getD x371.toNat 0, x371, t477⟩ : GL12Outer)]).length c485]) ([.slice (some ⟨b285, 0, none⟩) ([o, e7.Tet] : List Int).length (([o, e7.Tet] : List Int).length), .slice A468 (x366 ++ [((t455.set 2 (⟨(w64 (x371 + 1)).tmod 3, 1⟩ : GFace)).set 3 (⟨(w64 (x371 + 2)).tmod 3, 1⟩ : GFace))]).length c469, .slice A484 (x370 ++ [(⟨o, x28.getD x371.toNat 0, x371, t477⟩ : GL12Outer)]).length c485]) HS Z Z Z Z Z (htN na63 Z) Z Z Z fun wd487 HS => GO.fin (fun a hs => ⟨_, _, _, _, _, _, _, _, _, _, _, _, _, _, _, _, b473, b475, b481, A484, c485, Box b287 65 [.slice (some ⟨b285, 0, none⟩) ([o, e7.Tet] : List Int).length (([o, e7.Tet] : List Int).length), .slice A468 (x366 ++ [((t455.set 2 (⟨(w64 (x371 + 1)).tmod 3, 1⟩ : GFace)).set 3 (⟨(w64 (x371 + 2)).tmod 3, 1⟩ : GFace))]).length c469, .slice A484 (x370 ++ [(⟨o, x28.getD x371.toNat 0, x371, t477⟩ : GL12Outer)]).length c485], _, _, _, _, hs, HS, f0, f1, f2, f3, f4, f5, f6, f7, f8, f9, f10, f11, f12, f13, f14, f15, fun h => Bool.noConfusion h, fun _ => Z, c1, d1, o1, p1, s1, q1, n1⟩))
         | k + 17, hj => exact absurd hj (Nat.not_lt.2 (Nat.le_add_left 17 k))
        ·
         intro b a w hall
         refine exI fun t2 => exI fun s2 => exI fun c2 => exI fun j3 => exI fun i2 => exI fun g3 => exI fun c3 => exI fun n2 => exI fun z2 => exI fun x1 => exI fun k3 => exI fun v1 => exI fun u2 => exI fun k2 => exI fun q2 => exI fun h2 => exI fun b473 => exI fun b475 => exI fun b481 => exI fun A484 => exI fun c485 => exI fun z3 => exI fun y3 => exI fun a4 => exI fun v3 => exI fun e4 => anI fun hs => anI fun HS => anI fun f0 => anI fun f1 => anI fun f2 => anI fun f3 => anI fun f4 => anI fun f5 => anI fun f6 => anI fun f7 => anI fun f8 => anI fun f9 => anI fun f10 => anI fun f11 => anI fun f12 => anI fun f13 => anI fun f14 => anI fun f15 => anI fun a1 => anI fun e1 => anI fun c1 => anI fun d1 => anI fun o1 => anI fun p1 => anI fun s1 => anI fun q1 => fun n1 => ?_
         obtain rfl := f0 (hall 0 (by decide))
         obtain rfl := f1 (hall 1 (by decide))
         obtain rfl := f2 (hall 2 (by decide))
         obtain rfl := f3 (hall 3 (by decide))
         obtain rfl := f4 (hall 4 (by decide))
         obtain rfl := f5 (hall 5 (by decide))
         obtain rfl := f6 (hall 6 (by decide))
         obtain rfl := f7 (hall 7 (by decide))
         obtain rfl := f8 (hall 8 (by decide))
         obtain rfl := f9 (hall 9 (by decide))
         obtain rfl := f10 (hall 10 (by decide))
         obtain rfl := f11 (hall 11 (by decide))
         obtain rfl := f12 (hall 12 (by decide))
         obtain rfl := f13 (hall 13 (by decide))
         obtain rfl := f14 (hall 14 (by decide))
         obtain rfl := f15 (hall 15 (by decide))
         obtain rfl := e1 (hall 16 (by decide))
         obtain rfl := d1 (hall 14 (by decide))
         obtain rfl := p1 (hall 11 (by decide))
         obtain rfl := q1 (hall 11 (by decide))
         obtain rfl := n1 (hall 13 (by decide))
         refine G.at hs (sQ (rG (fL b9 1 fl107_1 Z (lB 3 HS Z na2 Z (aS Z (nL ?_))))))
         obtain ⟨t488, h489, H⟩ := bI H
         obtain ⟨t492, h493, H⟩ := bI H
         obtain ⟨t496, h497, H⟩ := bI H
         obtain ⟨t500, h501, H⟩ := bI H
         obtain ⟨t504, h505, H⟩ := bI H
         obtain ⟨t512, h513, H⟩ := bI H
         obtain ⟨c521, H⟩ := iN H
         refine G.regionAny mixed (by decide) (fun b a w => ∃ (a2 : Value) (j2 : Value) (h3 : Value) (e2 : Value) (t3 : Value) (b2 : Value) (x2 : Value) (a3 : Value) (g2 : Value) (e3 : Value) (z1 : Value) (p2 : Value) (m3 : Value) (o3 : Value) (t1 : Value) (s3 : Value) (o2 : Value) (d2 : Value) (u3 : Value) (q3 : Value) (m2 : Value) (p3 : Value) (d3 : Value) (y1 : Value) (i3 : Value) (v2 : Value) (n3 : Value) (b508 : Nat) (b510 : Nat) (b516 : Nat) (A519 : Option Addr) (c520 : Nat) (x3 : HObj) (c4 : HObj) (b4 : HObj) (d4 : HObj) (g4 : HObj), Sat 138 [(110, a2), (111, j2), (112, h3), (113, e2), (114, t3), (115, b2), (116, x2), (117, a3), (118, g2), (119, e3), (120, z1), (121, p2), (122, m3), (123, o3), (124, t1), (125, s3), (126, o2), (127, d2), (128, u3), (129, q3), (130, m2), (131, p3), (132, d3), (133, y1), (134, i3), (135, v2), (136, n3), (1, I o), (2, I A), (6, .pointer (some ⟨b3, 0, none⟩)), (8, .pointer (some ⟨b9, 0, none⟩)), (9, .slice A26 x28.length c27), (11, .pointer (some ⟨b287, 0, none⟩)), (12, I x371), (13, I (x28.getD (((w64 (x371 + 1)).tmod 3).toNat) 0)), (14, I (x28.getD (((w64 (x371 + 2)).tmod 3).toNat) 0)), (15, I (x28.getD x371.toNat 0)), (17, I e7.Perm)] a ∧ St w0 w (Own (Ty.slice 107 T_GFace) 77 A468 c469 y471 (x366 ++ [((t455.set 2 (⟨(w64 (x371 + 1)).tmod 3, 1⟩ : GFace)).set 3 (⟨(w64 (x371 + 2)).tmod 3, 1⟩ : GFace))]) :: Box b465 77 [.slice A457 ((t455.set 2 (⟨(w64 (x371 + 1)).tmod 3, 1⟩ : GFace)).set 3 (⟨(w64 (x371 + 2)).tmod 3, 1⟩ : GFace)).length c458] :: Box b3 65 [.slice none 0 0, .slice none 0 0, .slice none 0 0] :: Box b9 107 [I e7.Tet, I e7.Perm] :: Own (TInt .i64) 2 A26 c27 (fun _ => ()) x28 :: x3 :: Own (TInt .i64) 2 (some ⟨b285, 0, none⟩) (([o, e7.Tet] : List Int).length) (fun _ => ()) ([o, e7.Tet] : List Int) :: c4 :: Own (TInt .i64) 2 (some ⟨b473, 0, none⟩) (([A, x28.getD (((w64 (x371 + 1)).tmod 3).toNat) 0, x28.getD (((w64 (x371 + 2)).tmod 3).toNat) 0, x28.getD x371.toNat 0] : List Int).length) (fun _ => ()) ([A, x28.getD (((w64 (x371 + 1)).tmod 3).toNat) 0, x28.getD (((w64 (x371 + 2)).tmod 3).toNat) 0, x28.getD x371.toNat 0] : List Int) :: Own (TInt .i64) 2 (some ⟨b475, 0, none⟩) (([0, 2, 3, 1] : List Int).length) (fun _ => ()) ([0, 2, 3, 1] : List Int) :: Box b481 122 [I o, I (x28.getD x371.toNat 0), I x371, I t477] :: b4 :: d4 :: g4 :: L) ∧ (b 0 = true → a2 = (.pointer (some ⟨b287, 2, none⟩))) ∧ (b 1 = true → j2 = (.slice A484 (x370 ++ [(⟨o, x28.getD x371.toNat 0, x371, t477⟩ : GL12Outer)]).length c485)) ∧ (b 2 = true → h3 = (.pointer (some ⟨b9, 0, none⟩))) ∧ (b 3 = true → e2 = (I e7.Tet)) ∧ (b 4 = true → t3 = (I e7.Perm)) ∧ (b 5 = true → b2 = (I (x28.getD x371.toNat 0))) ∧ (b 6 = true → x2 = (I t488)) ∧ (b 7 = true → a3 = (I x371)) ∧ (b 8 = true → g2 = (I e7.Perm)) ∧ (b 9 = true → e3 = (I A)) ∧ (b 10 = true → z1 = (I t492)) ∧ (b 11 = true → p2 = (I e7.Perm)) ∧ (b 12 = true → m3 = (I (x28.getD (((w64 (x371 + 1)).tmod 3).toNat) 0))) ∧ (b 13 = true → o3 = (I t496)) ∧ (b 14 = true → t1 = (I e7.Perm)) ∧ (b 15 = true → s3 = (I (x28.getD (((w64 (x371 + 2)).tmod 3).toNat) 0))) ∧ (b 16 = true → o2 = (I t500)) ∧ (b 17 = true → d2 = (I e7.Perm)) ∧ (b 18 = true → u3 = (I (x28.getD x371.toNat 0))) ∧ (b 19 = true → q3 = (I t504)) ∧ (b 20 = true → m2 = (.slice (some ⟨b508, 0, none⟩) 4 4)) ∧ (b 21 = true → p3 = (.slice (some ⟨b510, 0, none⟩) 4 4)) ∧ (b 22 = true → d3 = (I t512)) ∧ (b 23 = true → y1 = (.agg [I e7.Tet, I t488, I x371, I t512].toArray)) ∧ (b 24 = true → i3 = (.slice (some ⟨b516, 0, none⟩) 1 1)) ∧ (b 25 = true → v2 = (.slice A519 ((x370 ++ [(⟨o, x28.getD x371.toNat 0, x371, t477⟩ : GL12Outer)]) ++ [(⟨e7.Tet, t488, x371, t512⟩ : GL12Outer)]).length c520)) ∧ (b 26 = true → n3 = (.pointer (some ⟨b287, 2, none⟩))) ∧ (b 27 = false → x3 = Box b287 65 [.slice (some ⟨b285, 0, none⟩) ([o, e7.Tet] : List Int).length (([o, e7.Tet] : List Int).length), .slice A468 (x366 ++ [((t455.set 2 (⟨(w64 (x371 + 1)).tmod 3, 1⟩ : GFace)).set 3 (⟨(w64 (x371 + 2)).tmod 3, 1⟩ : GFace))]).length c469, .slice A484 (x370 ++ [(⟨o, x28.getD x371.toNat 0, x371, t477⟩ : GL12Outer)]).length c485]) ∧ (b 27 = true → x3 = Box b287 65 [.slice (some ⟨b285, 0, none⟩) ([o, e7.Tet] : List Int).length (([o, e7.Tet] : List Int).length), .slice A468 (x366 ++ [((t455.set 2 (⟨(w64 (x371 + 1)).tmod 3, 1⟩ : GFace)).set 3 (⟨(w64 (x371 + 2)).tmod 3, 1⟩ : GFace))]).length c469, .slice A519 ((x370 ++ [(⟨o, x28.getD x371.toNat 0, x371, t477⟩ : GL12Outer)]) ++ [(⟨e7.Tet, t488, x371, t512⟩ : GL12Outer)]).length c520]) ∧ (b 25 = false → c4 = Own T_GL12Outer 122 A484 c485 (fun _ => ()) (x370 ++ [(⟨o, x28.getD x371.toNat 0, x371, t477⟩ : GL12Outer)])) ∧ (b 25 = true → c4 = Own T_GL12Outer 122 A519 c520 (fun _ => ()) ((x370 ++ [(⟨o, x28.getD x371.toNat 0, x371, t477⟩ : GL12Outer)]) ++ [(⟨e7.Tet, t488, x371, t512⟩ : GL12Outer)])) ∧ (b 20 = true → b 22 = false → b4 = Box b508 2 [I t492, I t496, I t500, I t504]) ∧ (b 22 = true → b4 = Own (TInt .i64) 2 (some ⟨b508, 0, none⟩) (([t492, t496, t500, t504] : List Int).length) (fun _ => ()) ([t492, t496, t500, t504] : List Int)) ∧ (b 21 = true → b 22 = false → d4 = Box b510 2 [I 1, I 2, I 3, I 0]) ∧ (b 22 = true → d4 = Own (TInt .i64) 2 (some ⟨b510, 0, none⟩) (([1, 2, 3, 0] : List Int).length) (fun _ => ()) ([1, 2, 3, 0] : List Int)) ∧ (b 24 = true → g4 = Box b516 122 [I e7.Tet, I t488, I x371, I t512])) ?_ ?_ ?_
         ·
          intro a hs
          obtain ⟨a2, hs⟩ := hs.ext (d := 110) Z
          obtain ⟨j2, hs⟩ := hs.ext (d := 111) Z
          obtain ⟨h3, hs⟩ := hs.ext (d := 112) Z
          obtain ⟨e2, hs⟩ := hs.ext (d := 113) Z
          obtain ⟨t3, hs⟩ := hs.ext (d := 114) Z
          obtain ⟨b2, hs⟩ := hs.ext (d := 115) Z
          obtain ⟨x2, hs⟩ := hs.ext (d := 116) Z
          obtain ⟨a3, hs⟩ := hs.ext (d := 117) Z
          obtain ⟨g2, hs⟩ := hs.ext (d := 118) Z
          obtain ⟨e3, hs⟩ := hs.ext (d := 119) Z
          obtain ⟨z1, hs⟩ := hs.ext (d := 120) Z
          obtain ⟨p2, hs⟩ := hs.ext (d := 121) Z
          obtain ⟨m3, hs⟩ := hs.ext (d := 122) Z
          obtain ⟨o3, hs⟩ := hs.ext (d := 123) Z
          obtain ⟨t1, hs⟩ := hs.ext (d := 124) Z
          obtain ⟨s3, hs⟩ := hs.ext (d := 125) Z
          obtain ⟨o2, hs⟩ := hs.ext (d := 126) Z
          obtain ⟨d2, hs⟩ := hs.ext (d := 127) Z
          obtain ⟨u3, hs⟩ := hs.ext (d := 128) Z
          obtain ⟨q3, hs⟩ := hs.ext (d := 129) Z
          obtain ⟨m2, hs⟩ := hs.ext (d := 130) Z
          obtain ⟨p3, hs⟩ := hs.ext (d := 131) Z
          obtain ⟨d3, hs⟩ := hs.ext (d := 132) Z
          obtain ⟨y1, hs⟩ := hs.ext (d := 133) Z
          obtain ⟨i3, hs⟩ := hs.ext (d := 134) Z
          obtain ⟨v2, hs⟩ := hs.ext (d := 135) Z
          obtain ⟨n3, hs⟩ := hs.ext (d := 136) Z
          exact ⟨a2, j2, h3, e2, t3, b2, x2, a3, g2, e3, z1, p2, m3, o3, t1, s3, o2, d2, u3, q3, m2, p3, d3, y1, i3, v2, n3, 0, 0, 0, none, 0, Box b287 65 [.slice (some ⟨b285, 0, none⟩) ([o, e7.Tet] : List Int).length (([o, e7.Tet] : List Int).length), .slice A468 (x366 ++ [((t455.set 2 (⟨(w64 (x371 + 1)).tmod 3, 1⟩ : GFace)).set 3 (⟨(w64 (x371 + 2)).tmod 3, 1⟩ : GFace))]).length c469, .slice A484 (x370 ++ [(⟨o, x28.getD x371.toNat 0, x371, t477⟩ : GL12Outer)]).length c485], Own T_GL12Outer 122 A484 c485 (fun _ => ()) (x370 ++ [(⟨o, x28.getD x371.toNat 0, x371, t477⟩ : GL12Outer)]), Emp, Emp, Emp, hs.weak ⟨Z, Z, Z, Z, Z, Z, Z, Z, Z, Z, Z, Z, Z, Z, Z, Z, Z, Z, Z, Z, Z, Z, Z, Z, Z, Z, Z, Z, Z, Z, Z, Z, Z, Z, Z, Z, Z, Z, tv⟩, (HS.drew.emp.emp.emp.pk 14 [3, 4, 5, 6, 7, 8, 9, 10, 11, 12, 13, 2, 1, 0] Z), fun h => Bool.noConfusion h, fun h => Bool.noConfusion h, fun h => Bool.noConfusion h, fun h => Bool.noConfusion h, fun h => Bool.noConfusion h, fun h => Bool.noConfusion h, fun h => Bool.noConfusion h, fun h => Bool.noConfusion h, fun h => Bool.noConfusion h, fun h => Bool.noConfusion h, fun h => Bool.noConfusion h, fun h => Bool.noConfusion h, fun h => Bool.noConfusion h, fun h => Bool.noConfusion h, fun h => Bool.noConfusion h, fun h => Bool.noConfusion h, fun h => Bool.noConfusion h, fun h => Bool.noConfusion h, fun h => Bool.noConfusion h, fun h => Bool.noConfusion h, fun h => Bool.noConfusion h, fun h => Bool.noConfusion h, fun h => Bool.noConfusion h, fun h => Bool.noConfusion h, fun h => Bool.noConfusion h, fun h => Bool.noConfusion h, fun h => Bool.noConfusion h, fun _ => Z, fun h => Bool.noConfusion h, fun _ => Z, fun h => Bool.noConfusion h, fun h => Bool.noConfusion h, fun h => Bool.noConfusion h, fun h => Bool.noConfusion h, fun h => Bool.noConfusion h, fun h => Bool.noConfusion h⟩
         ·
          intro j hj b a w
          refine exI fun a2 => exI fun j2 => exI fun h3 => exI fun e2 => exI fun t3 => exI fun b2 => exI fun x2 => exI fun a3 => exI fun g2 => exI fun e3 => exI fun z1 => exI fun p2 => exI fun m3 => exI fun o3 => exI fun t1 => exI fun s3 => exI fun o2 => exI fun d2 => exI fun u3 => exI fun q3 => exI fun m2 => exI fun p3 => exI fun d3 => exI fun y1 => exI fun i3 => exI fun v2 => exI fun n3 => exI fun b508 => exI fun b510 => exI fun b516 => exI fun A519 => exI fun c520 => exI fun x3 => exI fun c4 => exI fun b4 => exI fun d4 => exI fun g4 => anI fun hs => anI fun HS => anI fun f0 => anI fun f1 => anI fun f2 => anI fun f3 => anI fun f4 => anI fun f5 => anI fun f6 => anI fun f7 => anI fun f8 => anI fun f9 => anI fun f10 => anI fun f11 => anI fun f12 => anI fun f13 => anI fun f14 => anI fun f15 => anI fun f16 => anI fun f17 => anI fun f18 => anI fun f19 => anI fun f20 => anI fun f21 => anI fun f22 => anI fun f23 => anI fun f24 => anI fun f25 => anI fun f26 => anI fun a1 => anI fun e1 => anI fun c1 => anI fun d1 => anI fun i1 => anI fun h1 => anI fun k1 => anI fun m1 => fun g1 hb hd hcl => ?_
          match j, hj with
          | 0, _ =>
           refine GO.at hs (fL b287 2 fl65_2 Z (GO.fin (fun a hs => ⟨(.pointer (some ⟨b287, 2, none⟩)), _, _, _, _, _, _, _, _, _, _, _, _, _, _, _, _, _, _, _, _, _, _, _, _, _, _, b508, b510, b516, A519, c520, _, _, _, _, _, by exact hs.setAt 0 Z, HS, fun _ => Z, f1, f2, f3, f4, f5, f6, f7, f8, f9, f10, f11, f12, f13, f14, f15, f16, f17, f18, f19, f20, f21, f22, f23, f24, f25, f26, a1, e1, c1, d1, i1, h1, k1, m1, g1⟩)))
          | 1, _ =>
           have hb0 : b 0 = true := hd 0 (by decide)
           obtain rfl := f0 hb0
           have d27 : b 27 = false := bfalse (fun hh => hcl 27 (by decide) (hh) 1 (by decide)) hb
           obtain rfl := a1 d27
           refine GO.at hs (lB 5 HS Z na63 Z (GO.fin (fun a hs => ⟨_, (.slice A484 (x370 ++ [(⟨o, x28.getD x371.toNat 0, x371, t477⟩ : GL12Outer)]).length c485), _, _, _, _, _, _, _, _, _, _, _, _, _, _, _, _, _, _, _, _, _, _, _, _, _, b508, b510, b516, A519, c520, _, _, _, _, _, by exact hs.setAt 1 Z, HS, f0, fun _ => Z, f2, f3, f4, f5, f6, f7, f8, f9, f10, f11, f12, f13, f14, f15, f16, f17, f18, f19, f20, f21, f22, f23, f24, f25, f26, a1, e1, c1, d1, i1, h1, k1, m1, g1⟩)))
          | 2, _ =>
           refine GO.at hs (fL b9 0 fl107_0 Z (GO.fin (fun a hs => ⟨_, _, (.pointer (some ⟨b9, 0, none⟩)), _, _, _, _, _, _, _, _, _, _, _, _, _, _, _, _, _, _, _, _, _, _, _, _, b508, b510, b516, A519, c520, _, _, _, _, _, by exact hs.setAt 2 Z, HS, f0, f1, fun _ => Z, f3, f4, f5, f6, f7, f8, f9, f10, f11, f12, f13, f14, f15, f16, f17, f18, f19, f20, f21, f22, f23, f24, f25, f26, a1, e1, c1, d1, i1, h1, k1, m1, g1⟩)))
          | 3, _ =>
           have hb2 : b 2 = true := hd 2 (by decide)
           obtain rfl := f2 hb2
           refine GO.at hs (lB 3 HS Z na2 Z (GO.fin (fun a hs => ⟨_, _, _, (I e7.Tet), _, _, _, _, _, _, _, _, _, _, _, _, _, _, _, _, _, _, _, _, _, _, _, b508, b510, b516, A519, c520, _, _, _, _, _, by exact hs.setAt 3 Z, HS, f0, f1, f2, fun _ => Z, f4, f5, f6, f7, f8, f9, f10, f11, f12, f13, f14, f15, f16, f17, f18, f19, f20, f21, f22, f23, f24, f25, f26, a1, e1, c1, d1, i1, h1, k1, m1, g1⟩)))
          | 4, _ =>
           refine GO.at hs (mV Z (GO.fin (fun a hs => ⟨_, _, _, _, (I e7.Perm), _, _, _, _, _, _, _, _, _, _, _, _, _, _, _, _, _, _, _, _, _, _, b508, b510, b516, A519, c520, _, _, _, _, _, by exact hs.setAt 4 Z, HS, f0, f1, f2, f3, fun _ => Z, f5, f6, f7, f8, f9, f10, f11, f12, f13, f14, f15, f16, f17, f18, f19, f20, f21, f22, f23, f24, f25, f26, a1, e1, c1, d1, i1, h1, k1, m1, g1⟩)))
          | 5, _ =>
           refine GO.at hs (mV Z (GO.fin (fun a hs => ⟨_, _, _, _, _, (I (x28.getD x371.toNat 0)), _, _, _, _, _, _, _, _, _, _, _, _, _, _, _, _, _, _, _, _, _, b508, b510, b516, A519, c520, _, _, _, _, _, by exact hs.setAt 5 Z, HS, f0, f1, f2, f3, f4, fun _ => Z, f6, f7, f8, f9, f10, f11, f12, f13, f14, f15, f16, f17, f18, f19, f20, f21, f22, f23, f24, f25, f26, a1, e1, c1, d1, i1, h1, k1, m1, g1⟩)))
          | 6, _ =>
           have hb4 : b 4 = true := hd 4 (by decide)
           obtain rfl := f4 hb4
           have hb5 : b 5 = true := hd 5 (by decide)
           obtain rfl := f5 hb5
           refine GO.at hs (fJ fok76 Z (spec_l06At.calls HS  h489) (fun _ wd490 ⟨h491, HS⟩ => ⟨_, h491, (GO.fin (fun a hs => ⟨_, _, _, _, _, _, (I t488), _, _, _, _, _, _, _, _, _, _, _, _, _, _, _, _, _, _, _, _, b508, b510, b516, A519, c520, _, _, _, _, _, by exact hs.setAt 6 Z, HS, f0, f1, f2, f3, f4, f5, fun _ => Z, f7, f8, f9, f10, f11, f12, f13, f14, f15, f16, f17, f18, f19, f20, f21, f22, f23, f24, f25, f26, a1, e1, c1, d1, i1, h1, k1, m1, g1⟩))⟩))
          | 7, _ =>
           refine GO.at hs (mV Z (GO.fin (fun a hs => ⟨_, _, _, _, _, _, _, (I x371), _, _, _, _, _, _, _, _, _, _, _, _, _, _, _, _, _, _, _, b508, b510, b516, A519, c520, _, _, _, _, _, by exact hs.setAt 7 Z, HS, f0, f1, f2, f3, f4, f5, f6, fun _ => Z, f8, f9, f10, f11, f12, f13, f14, f15, f16, f17, f18, f19, f20, f21, f22, f23, f24, f25, f26, a1, e1, c1, d1, i1, h1, k1, m1, g1⟩)))
          | 8, _ =>
           refine GO.at hs (mV Z (GO.fin (fun a hs => ⟨_, _, _, _, _, _, _, _, (I e7.Perm), _, _, _, _, _, _, _, _, _, _, _, _, _, _, _, _, _, _, b508, b510, b516, A519, c520, _, _, _, _, _, by exact hs.setAt 8 Z, HS, f0, f1, f2, f3, f4, f5, f6, f7, fun _ => Z, f9, f10, f11, f12, f13, f14, f15, f16, f17, f18, f19, f20, f21, f22, f23, f24, f25, f26, a1, e1, c1, d1, i1, h1, k1, m1, g1⟩)))
          | 9, _ =>
           refine GO.at hs (mV Z (GO.fin (fun a hs => ⟨_, _, _, _, _, _, _, _, _, (I A), _, _, _, _, _, _, _, _, _, _, _, _, _, _, _, _, _, b508, b510, b516, A519, c520, _, _, _, _, _, by exact hs.setAt 9 Z, HS, f0, f1, f2, f3, f4, f5, f6, f7, f8, fun _ => Z, f10, f11, f12, f13, f14, f15, f16, f17, f18, f19, f20, f21, f22, f23, f24, f25, f26, a1, e1, c1, d1, i1, h1, k1, m1, g1⟩)))
          | 10, _ =>
           have hb8 : b 8 = true := hd 8 (by decide)
           obtain rfl := f8 hb8
           have hb9 : b 9 = true := hd 9 (by decide)
           obtain rfl := f9 hb9
           refine GO.at hs (fJ fok76 Z (spec_l06At.calls HS  h493) (fun _ wd494 ⟨h495, HS⟩ => ⟨_, h495, (GO.fin (fun a hs => ⟨_, _, _, _, _, _, _, _, _, _, (I t492), _, _, _, _, _, _, _, _, _, _, _, _, _, _, _, _, b508, b510, b516, A519, c520, _, _, _, _, _, by exact hs.setAt 10 Z, HS, f0, f1, f2, f3, f4, f5, f6, f7, f8, f9, fun _ => Z, f11, f12, f13, f14, f15, f16, f17, f18, f19, f20, f21, f22, f23, f24, f25, f26, a1, e1, c1, d1, i1, h1, k1, m1, g1⟩))⟩))
          | 11, _ =>
           refine GO.at hs (mV Z (GO.fin (fun a hs => ⟨_, _, _, _, _, _, _, _, _, _, _, (I e7.Perm), _, _, _, _, _, _, _, _, _, _, _, _, _, _, _, b508, b510, b516, A519, c520, _, _, _, _, _, by exact hs.setAt 11 Z, HS, f0, f1, f2, f3, f4, f5, f6, f7, f8, f9, f10, fun _ => Z, f12, f13, f14, f15, f16, f17, f18, f19, f20, f21, f22, f23, f24, f25, f26, a1, e1, c1, d1, i1, h1, k1, m1, g1⟩)))
          | 12, _ =>
           refine GO.at hs (mV Z (GO.fin (fun a hs => ⟨_, _, _, _, _, _, _, _, _, _, _, _, (I (x28.getD (((w64 (x371 + 1)).tmod 3).toNat) 0)), _, _, _, _, _, _, _, _, _, _, _, _, _, _, b508, b510, b516, A519, c520, _, _, _, _, _, by exact hs.setAt 12 Z, HS, f0, f1, f2, f3, f4, f5, f6, f7, f8, f9, f10, f11, fun _ => Z, f13, f14, f15, f16, f17, f18, f19, f20, f21, f22, f23, f24, f25, f26, a1, e1, c1, d1, i1, h1, k1, m1, g1⟩)))
          | 13, _ =>
           have hb11 : b 11 = true := hd 11 (by decide)
           obtain rfl := f11 hb11
           have hb12 : b 12 = true := hd 12 (by decide)
           obtain rfl := f12 hb12
           refine GO.at hs (fJ fok76 Z (spec_l06At.calls HS  h497) (fun _ wd498 ⟨h499, HS⟩ => ⟨_, h499, (GO.fin (fun a hs => ⟨_, _, _, _, _, _, _, _, _, _, _, _, _, (I t496), _, _, _, _, _, _, _, _, _, _, _, _, _, b508, b510, b516, A519, c520, _, _, _, _, _, by exact hs.setAt 13 Z, HS, f0, f1, f2, f3, f4, f5, f6, f7, f8, f9, f10, f11, f12, fun _ => Z, f14, f15, f16, f17, f18, f19, f20, f21, f22, f23, f24, f25, f26, a1, e1, c1, d1, i1, h1, k1, m1, g1⟩))⟩))
          | 14, _ =>
           refine GO.at hs (mV Z (GO.fin (fun a hs => ⟨_, _, _, _, _, _, _, _, _, _, _, _, _, _, (I e7.Perm), _, _, _, _, _, _, _, _, _, _, _, _, b508, b510, b516, A519, c520, _, _, _, _, _, by exact hs.setAt 14 Z, HS, f0, f1, f2, f3, f4, f5, f6, f7, f8, f9, f10, f11, f12, f13, fun _ => Z, f15, f16, f17, f18, f19, f20, f21, f22, f23, f24, f25, f26, a1, e1, c1, d1, i1, h1, k1, m1, g1⟩)))
          | 15, _ =>
           refine GO.at hs (mV Z (GO.fin (fun a hs => ⟨_, _, _, _, _, _, _, _, _, _, _, _, _, _, _, (I (x28.getD (((w64 (x371 + 2)).tmod 3).toNat) 0)), _, _, _, _, _, _, _, _, _, _, _, b508, b510, b516, A519, c520, _, _, _, _, _, by exact hs.setAt 15 Z, HS, f0, f1, f2, f3, f4, f5, f6, f7, f8, f9, f10, f11, f12, f13, f14, fun _ => Z, f16, f17, f18, f19, f20, f21, f22, f23, f24, f25, f26, a1, e1, c1, d1, i1, h1, k1, m1, g1⟩)))
          | 16, _ =>
           have hb14 : b 14 = true := hd 14 (by decide)
           obtain rfl := f14 hb14
           have hb15 : b 15 = true := hd 15 (by decide)
           obtain rfl := f15 hb15
           refine GO.at hs (fJ fok76 Z (spec_l06At.calls HS  h501) (fun _ wd502 ⟨h503, HS⟩ => ⟨_, h503, (GO.fin (fun a hs => ⟨_, _, _, _, _, _, _, _, _, _, _, _, _, _, _, _, (I t500), _, _, _, _, _, _, _, _, _, _, b508, b510, b516, A519, c520, _, _, _, _, _, by exact hs.setAt 16 Z, HS, f0, f1, f2, f3, f4, f5, f6, f7, f8, f9, f10, f11, f12, f13, f14, f15, fun _ => Z, f17, f18, f19, f20, f21, f22, f23, f24, f25, f26, a1, e1, c1, d1, i1, h1, k1, m1, g1⟩))⟩))
          | 17, _ =>
           refine GO.at hs (mV Z (GO.fin (fun a hs => ⟨_, _, _, _, _, _, _, _, _, _, _, _, _, _, _, _, _, (I e7.Perm), _, _, _, _, _, _, _, _, _, b508, b510, b516, A519, c520, _, _, _, _, _, by exact hs.setAt 17 Z, HS, f0, f1, f2, f3, f4, f5, f6, f7, f8, f9, f10, f11, f12, f13, f14, f15, f16, fun _ => Z, f18, f19, f20, f21, f22, f23, f24, f25, f26, a1, e1, c1, d1, i1, h1, k1, m1, g1⟩)))
          | 18, _ =>
           refine GO.at hs (mV Z (GO.fin (fun a hs => ⟨_, _, _, _, _, _, _, _, _, _, _, _, _, _, _, _, _, _, (I (x28.getD x371.toNat 0)), _, _, _, _, _, _, _, _, b508, b510, b516, A519, c520, _, _, _, _, _, by exact hs.setAt 18 Z, HS, f0, f1, f2, f3, f4, f5, f6, f7, f8, f9, f10, f11, f12, f13, f14, f15, f16, f17, fun _ => Z, f19, f20, f21, f22, f23, f24, f25, f26, a1, e1, c1, d1, i1, h1, k1, m1, g1⟩)))
          | 19, _ =>
           have hb17 : b 17 = true := hd 17 (by decide)
           obtain rfl := f17 hb17
           have hb18 : b 18 = true := hd 18 (by decide)
           obtain rfl := f18 hb18
           refine GO.at hs (fJ fok76 Z (spec_l06At.calls HS  h505) (fun _ wd506 ⟨h507, HS⟩ => ⟨_, h507, (GO.fin (fun a hs => ⟨_, _, _, _, _, _, _, _, _, _, _, _, _, _, _, _, _, _, _, (I t504), _, _, _, _, _, _, _, b508, b510, b516, A519, c520, _, _, _, _, _, by exact hs.setAt 19 Z, HS, f0, f1, f2, f3, f4, f5, f6, f7, f8, f9, f10, f11, f12, f13, f14, f15, f16, f17, f18, fun _ => Z, f20, f21, f22, f23, f24, f25, f26, a1, e1, c1, d1, i1, h1, k1, m1, g1⟩))⟩))
          | 20, _ =>
           have hb10 : b 10 = true := hd 10 (by decide)
           obtain rfl := f10 hb10
           have hb13 : b 13 = true := hd 13 (by decide)
           obtain rfl := f13 hb13
           have hb16 : b 16 = true := hd 16 (by decide)
           obtain rfl := f16 hb16
           have hb19 : b 19 = true := hd 19 (by decide)
           obtain rfl := f19 hb19
           refine GO.at hs (GO.buildS (el := 2) ([I t492, I t496, I t500, I t504]) HS Z Z (fun _ => by kernel_rfl) Z fun b508 wd509 HS => GO.fin (fun a hs => ⟨_, _, _, _, _, _, _, _, _, _, _, _, _, _, _, _, _, _, _, _, (.slice (some ⟨b508, 0, none⟩) 4 4), _, _, _, _, _, _, b508, b510, b516, A519, c520, _, _, Box b508 2 [I t492, I t496, I t500, I t504], _, _, by exact hs.setAt 20 Z, HS.pk 15 [1, 2, 3, 4, 5, 6, 7, 8, 9, 10, 11, 0, 13, 14] Z, f0, f1, f2, f3, f4, f5, f6, f7, f8, f9, f10, f11, f12, f13, f14, f15, f16, f17, f18, f19, fun _ => Z, f21, f22, f23, f24, f25, f26, a1, e1, c1, d1, fun _ _ => Z, fun hh => (Bool.noConfusion ((hcl 22 (by decide) hh 20 (by decide)).symm.trans hb)), k1, m1, g1⟩))
          | 21, _ =>
           refine GO.at hs (GO.buildS (el := 2) ([I 1, I 2, I 3, I 0]) HS Z Z (fun _ => by kernel_rfl) Z fun b510 wd511 HS => GO.fin (fun a hs => ⟨_, _, _, _, _, _, _, _, _, _, _, _, _, _, _, _, _, _, _, _, _, (.slice (some ⟨b510, 0, none⟩) 4 4), _, _, _, _, _, b508, b510, b516, A519, c520, _, _, _, Box b510 2 [I 1, I 2, I 3, I 0], _, by exact hs.setAt 21 Z, HS.pk 15 [1, 2, 3, 4, 5, 6, 7, 8, 9, 10, 11, 12, 0, 14] Z, f0, f1, f2, f3, f4, f5, f6, f7, f8, f9, f10, f11, f12, f13, f14, f15, f16, f17, f18, f19, f20, fun _ => Z, f22, f23, f24, f25, f26, a1, e1, c1, d1, i1, h1, fun _ _ => Z, fun hh => (Bool.noConfusion ((hcl 22 (by decide) hh 21 (by decide)).symm.trans hb)), g1⟩))
          | 22, _ =>
           have hb20 : b 20 = true := hd 20 (by decide)
           obtain rfl := f20 hb20
           have hb21 : b 21 = true := hd 21 (by decide)
           obtain rfl := f21 hb21
           obtain rfl := i1 hb20 hb
           obtain rfl := k1 hb21 hb
           refine GO.at hs ?_
           replace HS := HS.boxRow (T := (TInt .i64)) (j := 11) Z flat_flat (fun _ => ()) ([t492, t496, t500, t504] : List Int) Z (bndL Z)
           refine GO.lenC (t := 130) (m := ([t492, t496, t500, t504] : List Int).length) (c' := ([t492, t496, t500, t504] : List Int).length) Z Z Z ?_
           replace HS := HS.boxRow (T := (TInt .i64)) (j := 12) Z flat_flat (fun _ => ()) ([1, 2, 3, 0] : List Int) Z (bndL Z)
           refine GO.lenC (t := 131) (m := ([1, 2, 3, 0] : List Int).length) (c' := ([1, 2, 3, 0] : List Int).length) Z Z Z (fJ fok131 Z (spec_l12Map.calls HS (RdIn.own (j := 11) Z) (RdIn.own (j := 12) Z) h513) (fun _ wd514 ⟨h515, HS⟩ => ⟨_, h515, (GO.fin (fun a hs => ⟨_, _, _, _, _, _, _, _, _, _, _, _, _, _, _, _, _, _, _, _, _, _, (I t512), _, _, _, _, b508, b510, b516, A519, c520, _, _, Own (TInt .i64) 2 (some ⟨b508, 0, none⟩) (([t492, t496, t500, t504] : List Int).length) (fun _ => ()) ([t492, t496, t500, t504] : List Int), Own (TInt .i64) 2 (some ⟨b510, 0, none⟩) (([1, 2, 3, 0] : List Int).length) (fun _ => ()) ([1, 2, 3, 0] : List Int), _, hs.weak ⟨Z, Z, Z, Z, Z, Z, Z, Z, Z, Z, Z, Z, Z, Z, Z, Z, Z, Z, Z, Z, Z, Z, Z, Z, Z, Z, Z, Z, Z, Z, Z, Z, Z, Z, Z, Z, Z, Z, tv⟩, HS, f0, f1, f2, f3, f4, f5, f6, f7, f8, f9, f10, f11, f12, f13, f14, f15, f16, f17, f18, f19, f20, f21, fun _ => Z, f23, f24, f25, f26, a1, e1, c1, d1, fun _ h => Bool.noConfusion h, fun _ => Z, fun _ h => Bool.noConfusion h, fun _ => Z, g1⟩))⟩))
          | 23, _ =>
           have hb3 : b 3 = true := hd 3 (by decide)
           obtain rfl := f3 hb3
           have hb6 : b 6 = true := hd 6 (by decide)
           obtain rfl := f6 hb6
           have hb7 : b 7 = true := hd 7 (by decide)
           obtain rfl := f7 hb7
           have hb22 : b 22 = true := hd 22 (by decide)
           obtain rfl := f22 hb22
           refine GO.at hs (GO.buildV (.agg [I e7.Tet, I t488, I x371, I t512].toArray) Z Z (fun _ => by kernel_rfl) Z (GO.fin (fun a hs => ⟨_, _, _, _, _, _, _, _, _, _, _, _, _, _, _, _, _, _, _, _, _, _, _, (.agg [I e7.Tet, I t488, I x371, I t512].toArray), _, _, _, b508, b510, b516, A519, c520, _, _, _, _, _, by exact hs.setAt 23 Z, HS, f0, f1, f2, f3, f4, f5, f6, f7, f8, f9, f10, f11, f12, f13, f14, f15, f16, f17, f18, f19, f20, f21, f22, fun _ => Z, f24, f25, f26, a1, e1, c1, d1, i1, h1, k1, m1, g1⟩)))
          | 24, _ =>
           have hb23 : b 23 = true := hd 23 (by decide)
           obtain rfl := f23 hb23
           refine GO.at hs (GO.buildS (el := 122) ([I e7.Tet, I t488, I x371, I t512]) HS Z Z (fun _ => by kernel_rfl) Z fun b516 wd517 HS => GO.fin (fun a hs => ⟨_, _, _, _, _, _, _, _, _, _, _, _, _, _, _, _, _, _, _, _, _, _, _, _, (.slice (some ⟨b516, 0, none⟩) 1 1), _, _, b508, b510, b516, A519, c520, _, _, _, _, Box b516 122 [I e7.Tet, I t488, I x371, I t512], by exact hs.setAt 24 Z, HS.pk 15 [1, 2, 3, 4, 5, 6, 7, 8, 9, 10, 11, 12, 13, 0] Z, f0, f1, f2, f3, f4, f5, f6, f7, f8, f9, f10, f11, f12, f13, f14, f15, f16, f17, f18, f19, f20, f21, f22, f23, fun _ => Z, f25, f26, a1, e1, c1, d1, i1, h1, k1, m1, fun _ => Z⟩))
          | 25, _ =>
           have hb1 : b 1 = true := hd 1 (by decide)
           obtain rfl := f1 hb1
           have hb24 : b 24 = true := hd 24 (by decide)
           obtain rfl := f24 hb24
           obtain rfl := g1 hb24
           obtain rfl := c1 hb
           refine GO.at hs (GO.app1 (T := T_GL12Outer) (j := 7) (jb := 13) (⟨e7.Tet, t488, x371, t512⟩ : GL12Outer) HS Z Z flat_flat Z Z Z U63 inf122 Z Z Z c521 Z fun A519 c520 wd518 HS => GO.fin (fun a hs => ⟨_, _, _, _, _, _, _, _, _, _, _, _, _, _, _, _, _, _, _, _, _, _, _, _, _, (.slice A519 ((x370 ++ [(⟨o, x28.getD x371.toNat 0, x371, t477⟩ : GL12Outer)]) ++ [(⟨e7.Tet, t488, x371, t512⟩ : GL12Outer)]).length c520), _, b508, b510, b516, A519, c520, _, Own T_GL12Outer 122 A519 c520 (fun _ => ()) ((x370 ++ [(⟨o, x28.getD x371.toNat 0, x371, t477⟩ : GL12Outer)]) ++ [(⟨e7.Tet, t488, x371, t512⟩ : GL12Outer)]), _, _, _, by exact hs.setAt 25 Z, HS, f0, f1, f2, f3, f4, f5, f6, f7, f8, f9, f10, f11, f12, f13, f14, f15, f16, f17, f18, f19, f20, f21, f22, f23, f24, fun _ => Z, f26, a1, fun hh => (Bool.noConfusion ((hcl 27 (by decide) hh 25 (by decide)).symm.trans hb)), fun h => Bool.noConfusion h, fun _ => Z, i1, h1, k1, m1, g1⟩))
          | 26, _ =>
           refine GO.at hs (fL b287 2 fl65_2 Z (GO.fin (fun a hs => ⟨_, _, _, _, _, _, _, _, _, _, _, _, _, _, _, _, _, _, _, _, _, _, _, _, _, _, (.pointer (some ⟨b287, 2, none⟩)), b508, b510, b516, A519, c520, _, _, _, _, _, by exact hs.setAt 26 Z, HS, f0, f1, f2, f3, f4, f5, f6, f7, f8, f9, f10, f11, f12, f13, f14, f15, f16, f17, f18, f19, f20, f21, f22, f23, f24, f25, fun _ => Z, a1, e1, c1, d1, i1, h1, k1, m1, g1⟩)))
          | 27, _ =>
           have hb25 : b 25 = true := hd 25 (by decide)
           obtain rfl := f25 hb25
           have hb26 : b 26 = true := hd 26 (by decide)
           obtain rfl := f26 hb26
           obtain rfl := a1 hb
           refine GO.at hs (GO.stBox (j := 5) (vs := [.slice A519 ((x370 ++ [(⟨o, x28.getD x371.toNat 0, x371, t477⟩ : GL12Outer)]) ++ [(⟨e7.Tet, t488, x371, t512⟩ : GL12Outer)]).length c520]) ([.slice (some ⟨b285, 0, none⟩) ([o, e7.Tet] : List Int).length (([o, e7.Tet] : List Int).length), .slice A468 (x366 ++ [((t455.set 2 (⟨(w64 (x371 + 1)).tmod 3, 1⟩ : GFace)).set 3 (⟨(w64 (x371 + 2)).tmod 3, 1⟩ : GFace))]).length c469, .slice A519 ((x370 ++ [(⟨o, x28.getD x371.toNat 0, x371, t477⟩ : GL12Outer)]) ++ [(⟨e7.Tet, t488, x371, t512⟩ : GL12Outer)]).length c520]) HS Z Z Z Z Z (htN na63 Z) Z Z Z fun wd522 HS => GO.fin (fun a hs => ⟨_, _, _, _, _, _, _, _, _, _, _, _, _, _, _, _, _, _, _, _, _, _, _, _, _, _, _, b508, b510, b516, A519, c520, Box b287 65 [.slice (some ⟨b285, 0, none⟩) ([o, e7.Tet] : List Int).length (([o, e7.Tet] : List Int).length), .slice A468 (x366 ++ [((t455.set 2 (⟨(w64 (x371 + 1)).tmod 3, 1⟩ : GFace)).set 3 (⟨(w64 (x371 + 2)).tmod 3, 1⟩ : GFace))]).length c469, .slice A519 ((x370 ++ [(⟨o, x28.getD x371.toNat 0, x371, t477⟩ : GL12Outer)]) ++ [(⟨e7.Tet, t488, x371, t512⟩ : GL12Outer)]).length c520], _, _, _, _, hs, HS, f0, f1, f2, f3, f4, f5, f6, f7, f8, f9, f10, f11, f12, f13, f14, f15, f16, f17, f18, f19, f20, f21, f22, f23, f24, f25, f26, fun h => Bool.noConfusion h, fun _ => Z, c1, d1, i1, h1, k1, m1, g1⟩))
          | k + 28, hj => exact absurd hj (Nat.not_lt.2 (Nat.le_add_left 28 k))
         ·
          intro b a w hall
          refine exI fun a2 => exI fun j2 => exI fun h3 => exI fun e2 => exI fun t3 => exI fun b2 => exI fun x2 => exI fun a3 => exI fun g2 => exI fun e3 => exI fun z1 => exI fun p2 => exI fun m3 => exI fun o3 => exI fun t1 => exI fun s3 => exI fun o2 => exI fun d2 => exI fun u3 => exI fun q3 => exI fun m2 => exI fun p3 => exI fun d3 => exI fun y1 => exI fun i3 => exI fun v2 => exI fun n3 => exI fun b508 => exI fun b510 => exI fun b516 => exI fun A519 => exI fun c520 => exI fun x3 => exI fun c4 => exI fun b4 => exI fun d4 => exI fun g4 => anI fun hs => anI fun HS => anI fun f0 => anI fun f1 => anI fun f2 => anI fun f3 => anI fun f4 => anI fun f5 => anI fun f6 => anI fun f7 => anI fun f8 => anI fun f9 => anI fun f10 => anI fun f11 => anI fun f12 => anI fun f13 => anI fun f14 => anI fun f15 => anI fun f16 => anI fun f17 => anI fun f18 => anI fun f19 => anI fun f20 => anI fun f21 => anI fun f22 => anI fun f23 => anI fun f24 => anI fun f25 => anI fun f26 => anI fun a1 => anI fun e1 => anI fun c1 => anI fun d1 => anI fun i1 => anI fun h1 => anI fun k1 => anI fun m1 => fun g1 => ?_
          obtain rfl := f0 (hall 0 (by decide))
          obtain rfl := f1 (hall 1 (by decide))
          obtain rfl := f2 (hall 2 (by decide))
          obtain rfl := f3 (hall 3 (by decide))
          obtain rfl := f4 (hall 4 (by decide))
          obtain rfl := f5 (hall 5 (by decide))
          obtain rfl := f6 (hall 6 (by decide))
          obtain rfl := f7 (hall 7 (by decide))
          obtain rfl := f8 (hall 8 (by decide))
          obtain rfl := f9 (hall 9 (by decide))
          obtain rfl := f10 (hall 10 (by decide))
          obtain rfl := f11 (hall 11 (by decide))
          obtain rfl := f12 (hall 12 (by decide))
          obtain rfl := f13 (hall 13 (by decide))
          obtain rfl := f14 (hall 14 (by decide))
          obtain rfl := f15 (hall 15 (by decide))
          obtain rfl := f16 (hall 16 (by decide))
          obtain rfl := f17 (hall 17 (by decide))
          obtain rfl := f18 (hall 18 (by decide))
          obtain rfl := f19 (hall 19 (by decide))
          obtain rfl := f20 (hall 20 (by decide))
          obtain rfl := f21 (hall 21 (by decide))
          obtain rfl := f22 (hall 22 (by decide))
          obtain rfl := f23 (hall 23 (by decide))
          obtain rfl := f24 (hall 24 (by decide))
          obtain rfl := f25 (hall 25 (by decide))
          obtain rfl := f26 (hall 26 (by decide))
          obtain rfl := e1 (hall 27 (by decide))
          obtain rfl := d1 (hall 25 (by decide))
          obtain rfl := h1 (hall 22 (by decide))
          obtain rfl := m1 (hall 22 (by decide))
          obtain rfl := g1 (hall 24 (by decide))
          refine G.at hs (rN 3 Z (G.weak ?_ (q4 n4 (Nat.lt_succ_of_le (lR _)) (Nat.le_of_succ_le o4) _ _ _ _ _ _ _ _ _ H (HS.pk 14 [2, 3, 4, 5, 6, 0, 7] Z))))
          exact ⟨Z, Z, Z, Z, Z, Z, Z, tv⟩
     replace HS := HS.nilRow (Ty.slice 107 T_GFace) 77 (fun _ => ⟨none, 0, (fun _ => ())⟩)
     replace HS := HS.nilRow T_GL12Outer 122 (fun _ => ())
     refine G.weak ?_ (u4 h4 (lR _) _ _ _ _ _ _ _ _ _ H (HS.pk 7 [4, 5, 6, 2, 3, 1, 0] Z))
     exact ⟨Z, Z, Z, Z, Z, Z, Z, tv⟩
  refine G.weak ?_ (p4 K (lR _) _ _ _ _ _ H (HS.pk 4 [2, 1, 0] Z))
  exact ⟨Z, Z, Z, Z, Z, Z, tv⟩
theorem spec_l08Fresh.calls {n_ : Int} {r1 : List Int} (HS : St w0 w (L)) (H : spec_l08Fresh.f K n_ = some r1) :
    Calls prog 118 #[I n_] w (spec_l08Fresh.post w0 L r1) := by
  unfold spec_l08Fresh.f at H
  refine cG func118 Z ?_
  refine rN 3 Z (rG (GO.buildS (el := 2) ([]) HS Z Z (fun _ => by kernel_rfl) Z fun b1 wd2 HS => ?_))
  replace HS := HS.boxRow (T := (TInt .i64)) (j := 0) Z flat_flat (fun _ => ()) ([] : List Int) Z (bndL Z)
  refine GO.lenC (t := 5) (m := ([] : List Int).length) (c' := ([] : List Int).length) Z Z Z (aS Z (nL (rN 5 Z ?_)))
  refine G.name (fun i1 k1 => ?_)
  have g1 : ∀ a1, a1 ≤ K → ∀ (A10 : Option Addr) (c11 : Nat) (d1 : List Int) (c1 : Int) (w : World), spec_l08Fresh.l1 K a1 n_ d1 c1 = some r1 → St w0 w (Own (TInt .i64) 2 A10 c11 (fun _ => ()) d1 :: L) → G prog 118 16 [(0, I n_), (3, .slice A10 d1.length c11), (4, I c1)] i1 w (spec_l08Fresh.post w0 L r1) := by
   intro a1
   induction a1 using Nat.strongRecOn with
   | _ a1 e1 =>
    intro h1 A10 c11 d1 c1 w H HS
    cases a1 with
    | zero => rw [spec_l08Fresh.l1] at H; cases H
    | succ f1 =>
     rw [spec_l08Fresh.l1] at H
     subst k1
     refine rN 3 Z ?_
     rcases iS H with ⟨c21, H⟩ | ⟨c21, H⟩
     ·
      refine nB Z (tF c21) (rN 3 Z ?_)
      obtain rfl := sI H
      exact rT _ func118 Z Z ⟨_, _, Z, HS⟩
     refine yB Z (tT c21) (rN 3 Z ?_)
     obtain ⟨c27, H⟩ := iN H
     refine rG (pS 2 Z (GO.buildS (el := 2) ([I c1]) HS Z Z (fun _ => by kernel_rfl) Z fun b22 wd23 HS => GO.app1 (T := (TInt .i64)) (j := 1) (jb := 0) c1 HS Z Z flat_flat Z Z Z U56 inf2 Z Z Z c27 Z fun A25 c26 wd24 HS => aS Z (nL (rN 3 Z (G.weak ?_ (e1 f1 (Nat.lt_succ_of_le (lR _)) (Nat.le_of_succ_le h1) _ _ _ _ _ H (HS.pk 2 [1] Z)))))))
     exact ⟨Z, Z, Z, tv⟩
  refine G.weak ?_ (g1 K (lR _) _ _ _ _ _ H HS)
  exact ⟨Z, Z, Z, tv⟩
theorem spec_l08Join.calls {marks : List Int} {i k_ : Int} {r1 : List Int} (HS : St w0 w (Own (TInt .i64) 2 A_a c_a (fun _ => ()) marks :: L)) (H : spec_l08Join.f K marks i k_ = some r1) :
    Calls prog 119 #[.slice A_a marks.length c_a, I i, I k_] w (spec_l08Join.post w0 L A_a c_a r1) := by
  unfold spec_l08Join.f at H
  refine cG func119 Z ?_
  refine sQ ?_
  obtain ⟨c1, H⟩ := iN H
  have h2 := ((RdIn.own (j := 0) Z) _ HS).2.2.1
  obtain ⟨c3, H⟩ := iN H
  have h4 := ((RdIn.own (j := 0) Z) _ HS).2.2.1
  refine G.lex mixed [0, 1, 2, 4, 5, 6, 3, 7, 8, 9] (by kernel_rfl) ?_
  replace HS := HS.drew
  refine GX.ps 2 Z (qL Z Z (fun _ _ g => GO.ix Z Z Z U56 sz2 h2 c1.1 c1.2 Z g) Z (GX.ps 2 Z (qL Z Z (fun _ _ g => GO.ix Z Z Z U56 sz2 h4 c3.1 c3.2 Z g) Z (GX.l1 Z Z Z (fun _ g => GO.ldRd (T := (TInt .i64)) (n := i.toNat) (o := 0) HS (RdIn.own (j := 0) Z) Z Z (getD_some (d := 0) (ltN c1)) Z Z na2 Z g) Z (GX.l1 Z Z Z (fun _ g => GO.ldRd (T := (TInt .i64)) (n := k_.toNat) (o := 0) HS (RdIn.own (j := 0) Z) Z Z (getD_some (d := 0) (ltN c3)) Z Z na2 Z g) Z (GX.l1 Z Z Z (fun _ g => GO.min2 Z Z Z Z g) Z (GX.ps 1 Z (GX.nil (sQ ?_)))))))))
  have h5 := ((RdIn.own (j := 0) Z) _ HS).2.2.1
  have h6 := ((RdIn.own (j := 0) Z) _ HS).2.2.1
  refine G.lex mixed [0, 1, 2, 4, 5, 6, 3, 7, 8, 9] (by kernel_rfl) ?_
  replace HS := HS.drew
  refine GX.ps 2 Z (qL Z Z (fun _ _ g => GO.ix Z Z Z U56 sz2 h5 c1.1 c1.2 Z g) Z (GX.ps 2 Z (qL Z Z (fun _ _ g => GO.ix Z Z Z U56 sz2 h6 c3.1 c3.2 Z g) Z (GX.l1 Z Z Z (fun _ g => GO.ldRd (T := (TInt .i64)) (n := i.toNat) (o := 0) HS (RdIn.own (j := 0) Z) Z Z (getD_some (d := 0) (ltN c1)) Z Z na2 Z g) Z (GX.l1 Z Z Z (fun _ g => GO.ldRd (T := (TInt .i64)) (n := k_.toNat) (o := 0) HS (RdIn.own (j := 0) Z) Z Z (getD_some (d := 0) (ltN c3)) Z Z na2 Z g) Z (GX.l1 Z Z Z (fun _ g => GO.max2 Z Z Z Z g) Z (GX.ps 1 Z (GX.nil (rN 4 Z ?_)))))))))
  refine G.name (fun h1 i1 => ?_)
  have g1 : ∀ b1, b1 ≤ K → ∀ (x11 : List Int) (a1 : Int) (w : World), spec_l08Join.l1 K b1 marks i k_ x11 a1 = some r1 → St w0 w (Own (TInt .i64) 2 A_a c_a (fun _ => ()) x11 :: L) → G prog 119 43 [(0, .slice A_a x11.length c_a), (6, I (if marks.getD k_.toNat 0 < marks.getD i.toNat 0 then marks.getD k_.toNat 0 else marks.getD i.toNat 0)), (7, I (if marks.getD k_.toNat 0 > marks.getD i.toNat 0 then marks.getD k_.toNat 0 else marks.getD i.toNat 0)), (8, I a1)] h1 w (spec_l08Join.post w0 L A_a c_a r1) := by
   intro b1
   induction b1 using Nat.strongRecOn with
   | _ b1 d1 =>
    intro f1 x11 a1 w H HS
    cases b1 with
    | zero => rw [spec_l08Join.l1] at H; cases H
    | succ e1 =>
     rw [spec_l08Join.l1] at H
     subst i1
     refine rN 2 Z (rG (pS 2 Z (lS Z Z U56 Z (GO.lss Z Z Z Z (nL ?_)))))
     rcases iS H with ⟨c17, H⟩ | ⟨c17, H⟩
     ·
      refine nB Z (tF c17) (G.exit Z ?_)
      obtain rfl := sI H
      exact G.end0 func119 Z ⟨Z, HS⟩
     refine yB Z (tT c17) (rN 4 Z ?_)
     obtain ⟨c18, H⟩ := iN H
     refine rG (pS 2 Z (GO.ix Z Z Z U56 sz2 ((RdIn.own (j := 0) Z) _ HS).2.2.1 c18.1 c18.2 Z (GO.ldRd (T := (TInt .i64)) (n := a1.toNat) (o := 0) HS (RdIn.own (j := 0) Z) Z Z (getD_some (d := 0) (ltN c18)) Z Z na2 Z (pS 2 Z (nL ?_)))))
     rcases iS H with ⟨c19, H⟩ | ⟨c19, H⟩
     ·
      refine nB Z (tF c19) (rN 4 Z (G.weak ?_ (d1 e1 (Nat.lt_succ_of_le (lR _)) (Nat.le_of_succ_le f1) _ _ _ H HS)))
      exact ⟨Z, Z, Z, Z, tv⟩
     refine yB Z (tT c19) (rG (pS 3 Z (GO.ix Z Z Z U56 sz2 ((RdIn.own (j := 0) Z) _ HS).2.2.1 c18.1 c18.2 Z (GO.stRow (T := (TInt .i64)) (j := 0) (n := a1.toNat) (o := 0) (vs := [I (if marks.getD k_.toNat 0 < marks.getD i.toNat 0 then marks.getD k_.toNat 0 else marks.getD i.toNat 0)]) (if marks.getD k_.toNat 0 < marks.getD i.toNat 0 then marks.getD k_.toNat 0 else marks.getD i.toNat 0) HS Z flat_flat Z Z Z Z (htN na2 Z) Z (getD_some (d := 0) (ltN c18)) Z Z fun wd20 HS => nL (G.len (t := 0) (m := (x11.set a1.toNat (if marks.getD k_.toNat 0 < marks.getD i.toNat 0 then marks.getD k_.toNat 0 else marks.getD i.toNat 0)).length) Z (by simp only [List.length_set] <;> rfl) (rN 3 Z (G.weak ?_ (d1 e1 (Nat.lt_succ_of_le (lR _)) (Nat.le_of_succ_le f1) _ _ _ H HS))))))))
     exact ⟨Z, Z, Z, Z, tv⟩
  refine G.weak ?_ (g1 K (lR _) _ _ _ H HS)
  exact ⟨Z, Z, Z, Z, tv⟩
theorem spec_l08Ends.calls {e_ r1 r2 : Int} (HS : St w0 w (L)) (H : spec_l08Ends.f e_ = some (r1, r2)) :
    Calls prog 120 #[I e_] w (spec_l08Ends.post w0 L r1 r2) := by
  unfold spec_l08Ends.f at H
  refine cG func120 Z ?_
  refine rN 3 Z ?_
  obtain ⟨c3, H⟩ := iN H
  obtain ⟨c6, H⟩ := iN H
  refine G.regionAny mixed (by decide) (fun b a w => ∃ (s1 : Value) (q1 : Value) (n1 : Value) (i1 : Value) (h1 : Value) (p1 : Value) (g1 : Value) (o1 : Value) (k1 : Value) (m1 : Value) (b1 : Nat) (b4 : Nat) (t1 : HObj) (u1 : HObj), Sat 12 [(2, k1), (3, m1), (4, s1), (5, q1), (6, n1), (7, i1), (8, h1), (9, p1), (10, g1), (11, o1), (0, I e_)] a ∧ St w0 w (t1 :: u1 :: L) ∧ (b 8 = true → k1 = (I (([0, 0, 0, 1, 1, 2] : List Int).getD e_.toNat 0))) ∧ (b 9 = true → m1 = (I (([1, 2, 3, 2, 3, 3] : List Int).getD e_.toNat 0))) ∧ (b 0 = true → s1 = (.slice (some ⟨b1, 0, none⟩) 6 6)) ∧ (b 1 = true → q1 = (I e_)) ∧ (b 2 = true → n1 = (.pointer (some (ea (some ⟨b1, 0, none⟩) (e_.toNat * 1))))) ∧ (b 3 = true → i1 = (I (([0, 0, 0, 1, 1, 2] : List Int).getD e_.toNat 0))) ∧ (b 4 = true → h1 = (.slice (some ⟨b4, 0, none⟩) 6 6)) ∧ (b 5 = true → p1 = (I e_)) ∧ (b 6 = true → g1 = (.pointer (some (ea (some ⟨b4, 0, none⟩) (e_.toNat * 1))))) ∧ (b 7 = true → o1 = (I (([1, 2, 3, 2, 3, 3] : List Int).getD e_.toNat 0))) ∧ (b 0 = true → b 2 = false → t1 = Box b1 2 [I 0, I 0, I 0, I 1, I 1, I 2]) ∧ (b 2 = true → t1 = Own (TInt .i64) 2 (some ⟨b1, 0, none⟩) (([0, 0, 0, 1, 1, 2] : List Int).length) (fun _ => ()) ([0, 0, 0, 1, 1, 2] : List Int)) ∧ (b 4 = true → b 6 = false → u1 = Box b4 2 [I 1, I 2, I 3, I 2, I 3, I 3]) ∧ (b 6 = true → u1 = Own (TInt .i64) 2 (some ⟨b4, 0, none⟩) (([1, 2, 3, 2, 3, 3] : List Int).length) (fun _ => ()) ([1, 2, 3, 2, 3, 3] : List Int))) ?_ ?_ ?_
  ·
   intro a hs
   obtain ⟨k1, hs⟩ := hs.ext (d := 2) Z
   obtain ⟨m1, hs⟩ := hs.ext (d := 3) Z
   obtain ⟨s1, hs⟩ := hs.ext (d := 4) Z
   obtain ⟨q1, hs⟩ := hs.ext (d := 5) Z
   obtain ⟨n1, hs⟩ := hs.ext (d := 6) Z
   obtain ⟨i1, hs⟩ := hs.ext (d := 7) Z
   obtain ⟨h1, hs⟩ := hs.ext (d := 8) Z
   obtain ⟨p1, hs⟩ := hs.ext (d := 9) Z
   obtain ⟨g1, hs⟩ := hs.ext (d := 10) Z
   obtain ⟨o1, hs⟩ := hs.ext (d := 11) Z
   exact ⟨s1, q1, n1, i1, h1, p1, g1, o1, k1, m1, 0, 0, Emp, Emp, hs.weak ⟨Z, Z, Z, Z, Z, Z, Z, Z, Z, Z, Z, tv⟩, (HS.drew.emp.emp.pk 2 [1, 0] Z), fun h => Bool.noConfusion h, fun h => Bool.noConfusion h, fun h => Bool.noConfusion h, fun h => Bool.noConfusion h, fun h => Bool.noConfusion h, fun h => Bool.noConfusion h, fun h => Bool.noConfusion h, fun h => Bool.noConfusion h, fun h => Bool.noConfusion h, fun h => Bool.noConfusion h, fun h => Bool.noConfusion h, fun h => Bool.noConfusion h, fun h => Bool.noConfusion h, fun h => Bool.noConfusion h⟩
  ·
   intro j hj b a w
   refine exI fun s1 => exI fun q1 => exI fun n1 => exI fun i1 => exI fun h1 => exI fun p1 => exI fun g1 => exI fun o1 => exI fun k1 => exI fun m1 => exI fun b1 => exI fun b4 => exI fun t1 => exI fun u1 => anI fun hs => anI fun HS => anI fun f8 => anI fun f9 => anI fun f0 => anI fun f1 => anI fun f2 => anI fun f3 => anI fun f4 => anI fun f5 => anI fun f6 => anI fun f7 => anI fun d1 => anI fun c1 => anI fun e1 => fun a1 hb hd hcl => ?_
   match j, hj with
   | 0, _ =>
    refine GO.at hs (GO.buildS (el := 2) ([I 0, I 0, I 0, I 1, I 1, I 2]) HS Z Z (fun _ => by kernel_rfl) Z fun b1 wd2 HS => GO.fin (fun a hs => ⟨(.slice (some ⟨b1, 0, none⟩) 6 6), _, _, _, _, _, _, _, _, _, b1, b4, Box b1 2 [I 0, I 0, I 0, I 1, I 1, I 2], _, by exact hs.setAt 2 Z, HS.pk 3 [0, 2] Z, f8, f9, fun _ => Z, f1, fun hh => (Bool.noConfusion ((hcl 2 (by decide) hh 0 (by decide)).symm.trans hb)), f3, f4, f5, f6, f7, fun _ _ => Z, fun hh => (Bool.noConfusion ((hcl 2 (by decide) hh 0 (by decide)).symm.trans hb)), e1, a1⟩))
   | 1, _ =>
    refine GO.at hs (mV Z (GO.fin (fun a hs => ⟨_, (I e_), _, _, _, _, _, _, _, _, b1, b4, _, _, by exact hs.setAt 3 Z, HS, f8, f9, f0, fun _ => Z, f2, f3, f4, f5, f6, f7, d1, c1, e1, a1⟩)))
   | 2, _ =>
    have hb0 : b 0 = true := hd 0 (by decide)
    obtain rfl := f0 hb0
    have hb1 : b 1 = true := hd 1 (by decide)
    obtain rfl := f1 hb1
    obtain rfl := d1 hb0 hb
    refine GO.at hs ?_
    replace HS := HS.boxRow (T := (TInt .i64)) (j := 0) Z flat_flat (fun _ => ()) ([0, 0, 0, 1, 1, 2] : List Int) Z (bndL Z)
    refine GO.lenC (t := 4) (m := ([0, 0, 0, 1, 1, 2] : List Int).length) (c' := ([0, 0, 0, 1, 1, 2] : List Int).length) Z Z Z (GO.ix Z Z Z U56 sz2 (fun _ => ⟨_, _, Z⟩) c3.1 c3.2 Z (GO.fin (fun a hs => ⟨_, _, (.pointer (some (ea (some ⟨b1, 0, none⟩) (e_.toNat * 1)))), _, _, _, _, _, _, _, b1, b4, Own (TInt .i64) 2 (some ⟨b1, 0, none⟩) (([0, 0, 0, 1, 1, 2] : List Int).length) (fun _ => ()) ([0, 0, 0, 1, 1, 2] : List Int), _, hs.weak ⟨Z, Z, Z, Z, Z, Z, Z, Z, Z, Z, Z, tv⟩, HS, f8, f9, f0, f1, fun _ => Z, f3, f4, f5, f6, f7, fun _ h => Bool.noConfusion h, fun _ => Z, e1, a1⟩)))
   | 3, _ =>
    have hb2 : b 2 = true := hd 2 (by decide)
    obtain rfl := f2 hb2
    obtain rfl := c1 hb2
    refine GO.at hs (GO.ldRd (T := (TInt .i64)) (n := e_.toNat) (o := 0) HS (RdIn.own (j := 0) Z) Z Z (getD_some (d := 0) (ltN c3)) Z Z na2 Z (GO.fin (fun a hs => ⟨_, _, _, (I (([0, 0, 0, 1, 1, 2] : List Int).getD e_.toNat 0)), _, _, _, _, _, _, b1, b4, _, _, by exact hs.setAt 5 Z, HS, f8, f9, f0, f1, f2, fun _ => Z, f4, f5, f6, f7, d1, c1, e1, a1⟩)))
   | 4, _ =>
    refine GO.at hs (GO.buildS (el := 2) ([I 1, I 2, I 3, I 2, I 3, I 3]) HS Z Z (fun _ => by kernel_rfl) Z fun b4 wd5 HS => GO.fin (fun a hs => ⟨_, _, _, _, (.slice (some ⟨b4, 0, none⟩) 6 6), _, _, _, _, _, b1, b4, _, Box b4 2 [I 1, I 2, I 3, I 2, I 3, I 3], by exact hs.setAt 6 Z, HS.pk 3 [1, 0] Z, f8, f9, f0, f1, f2, f3, fun _ => Z, f5, fun hh => (Bool.noConfusion ((hcl 6 (by decide) hh 4 (by decide)).symm.trans hb)), f7, d1, c1, fun _ _ => Z, fun hh => (Bool.noConfusion ((hcl 6 (by decide) hh 4 (by decide)).symm.trans hb))⟩))
   | 5, _ =>
    refine GO.at hs (mV Z (GO.fin (fun a hs => ⟨_, _, _, _, _, (I e_), _, _, _, _, b1, b4, _, _, by exact hs.setAt 7 Z, HS, f8, f9, f0, f1, f2, f3, f4, fun _ => Z, f6, f7, d1, c1, e1, a1⟩)))
   | 6, _ =>
    have hb4 : b 4 = true := hd 4 (by decide)
    obtain rfl := f4 hb4
    have hb5 : b 5 = true := hd 5 (by decide)
    obtain rfl := f5 hb5
    obtain rfl := e1 hb4 hb
    refine GO.at hs ?_
    replace HS := HS.boxRow (T := (TInt .i64)) (j := 1) Z flat_flat (fun _ => ()) ([1, 2, 3, 2, 3, 3] : List Int) Z (bndL Z)
    refine GO.lenC (t := 8) (m := ([1, 2, 3, 2, 3, 3] : List Int).length) (c' := ([1, 2, 3, 2, 3, 3] : List Int).length) Z Z Z (GO.ix Z Z Z U56 sz2 (fun _ => ⟨_, _, Z⟩) c6.1 c6.2 Z (GO.fin (fun a hs => ⟨_, _, _, _, _, _, (.pointer (some (ea (some ⟨b4, 0, none⟩) (e_.toNat * 1)))), _, _, _, b1, b4, _, Own (TInt .i64) 2 (some ⟨b4, 0, none⟩) (([1, 2, 3, 2, 3, 3] : List Int).length) (fun _ => ()) ([1, 2, 3, 2, 3, 3] : List Int), hs.weak ⟨Z, Z, Z, Z, Z, Z, Z, Z, Z, Z, Z, tv⟩, HS, f8, f9, f0, f1, f2, f3, f4, f5, fun _ => Z, f7, d1, c1, fun _ h => Bool.noConfusion h, fun _ => Z⟩)))
   | 7, _ =>
    have hb6 : b 6 = true := hd 6 (by decide)
    obtain rfl := f6 hb6
    obtain rfl := a1 hb6
    refine GO.at hs (GO.ldRd (T := (TInt .i64)) (n := e_.toNat) (o := 0) HS (RdIn.own (j := 1) Z) Z Z (getD_some (d := 0) (ltN c6)) Z Z na2 Z (GO.fin (fun a hs => ⟨_, _, _, _, _, _, _, (I (([1, 2, 3, 2, 3, 3] : List Int).getD e_.toNat 0)), _, _, b1, b4, _, _, by exact hs.setAt 9 Z, HS, f8, f9, f0, f1, f2, f3, f4, f5, f6, fun _ => Z, d1, c1, e1, a1⟩)))
   | 8, _ =>
    have hb3 : b 3 = true := hd 3 (by decide)
    obtain rfl := f3 hb3
    refine GO.at hs (aS Z (GO.fin (fun a hs => ⟨_, _, _, _, _, _, _, _, (I (([0, 0, 0, 1, 1, 2] : List Int).getD e_.toNat 0)), _, b1, b4, _, _, by exact hs.setAt 0 Z, HS, fun _ => Z, f9, f0, f1, f2, f3, f4, f5, f6, f7, d1, c1, e1, a1⟩)))
   | 9, _ =>
    have hb7 : b 7 = true := hd 7 (by decide)
    obtain rfl := f7 hb7
    refine GO.at hs (aS Z (GO.fin (fun a hs => ⟨_, _, _, _, _, _, _, _, _, (I (([1, 2, 3, 2, 3, 3] : List Int).getD e_.toNat 0)), b1, b4, _, _, by exact hs.setAt 1 Z, HS, f8, fun _ => Z, f0, f1, f2, f3, f4, f5, f6, f7, d1, c1, e1, a1⟩)))
   | k + 10, hj => exact absurd hj (Nat.not_lt.2 (Nat.le_add_left 10 k))
  ·
   intro b a w hall
   refine exI fun s1 => exI fun q1 => exI fun n1 => exI fun i1 => exI fun h1 => exI fun p1 => exI fun g1 => exI fun o1 => exI fun k1 => exI fun m1 => exI fun b1 => exI fun b4 => exI fun t1 => exI fun u1 => anI fun hs => anI fun HS => anI fun f8 => anI fun f9 => anI fun f0 => anI fun f1 => anI fun f2 => anI fun f3 => anI fun f4 => anI fun f5 => anI fun f6 => anI fun f7 => anI fun d1 => anI fun c1 => anI fun e1 => fun a1 => ?_
   obtain rfl := f8 (hall 8 (by decide))
   obtain rfl := f9 (hall 9 (by decide))
   obtain rfl := f0 (hall 0 (by decide))
   obtain rfl := f1 (hall 1 (by decide))
   obtain rfl := f2 (hall 2 (by decide))
   obtain rfl := f3 (hall 3 (by decide))
   obtain rfl := f4 (hall 4 (by decide))
   obtain rfl := f5 (hall 5 (by decide))
   obtain rfl := f6 (hall 6 (by decide))
   obtain rfl := f7 (hall 7 (by decide))
   obtain rfl := c1 (hall 2 (by decide))
   obtain rfl := a1 (hall 6 (by decide))
   refine G.at hs ?_
   obtain ⟨rfl, rfl⟩ := some2 H
   exact G.ret2 _ _ func120 Z Z Z ⟨Z, (HS.pk 2 [] Z)⟩
theorem spec_l08Edge.calls {a_ b_ r1 : Int} (HS : St w0 w (L)) (H : spec_l08Edge.f K a_ b_ = some r1) :
    Calls prog 121 #[I a_, I b_] w (spec_l08Edge.post w0 L r1) := by
  unfold spec_l08Edge.f at H
  refine cG func121 Z ?_
  refine rN 7 Z ?_
  refine G.name (fun f1 g1 => ?_)
  have e1 : ∀ a1, a1 ≤ K → ∀ (e_9 : Int) (w : World), spec_l08Edge.l1 K a1 a_ b_ e_9 = some r1 → St w0 w (L) → G prog 121 30 [(0, I a_), (1, I b_), (5, I e_9)] f1 w (spec_l08Edge.post w0 L r1) := by
   intro a1
   induction a1 using Nat.strongRecOn with
   | _ a1 b1 =>
    intro d1 e_9 w H HS
    cases a1 with
    | zero => rw [spec_l08Edge.l1] at H; cases H
    | succ c1 =>
     rw [spec_l08Edge.l1] at H
     subst g1
     refine rN 3 Z ?_
     rcases iS H with ⟨c19, H⟩ | ⟨c19, H⟩
     ·
      refine nB Z (tF c19) (rN 3 Z ?_)
      obtain rfl := sI H
      exact rT _ func121 Z Z ⟨Z, HS⟩
     refine yB Z (tT c19) (rN 4 Z ?_)
     obtain ⟨t20, t21, h22, H⟩ := bind2_elim H
     refine rG (mV Z (fJ fok120 Z (spec_l08Ends.calls HS  h22) (fun _ wd23 ⟨h24, HS⟩ => ⟨_, h24, (pS 5 Z (nL (sQ ?_)))⟩)))
     rcases iS H with ⟨c26, H⟩ | ⟨c26, H⟩
     ·
      refine rG (pS 3 Z (GO.min2 Z Z Z Z (pS 2 Z (kN 22 Z (tF c26) (oF Z (oF Z (oF Z (oF Z (oF Z (GO.pickF Z Z Z Z Z (nL (rN 5 Z (G.weak ?_ (b1 c1 (Nat.lt_succ_of_le (lR _)) (Nat.le_of_succ_le d1) _ _ H HS))))))))))))))
      exact ⟨Z, Z, Z, tv⟩
     refine rG (pS 3 Z (GO.min2 Z Z Z Z (pS 2 Z (kN 22 Z (tT c26) (oN Z (mV Z (bK (oN Z (mV Z (bK (oN Z (mV Z (bK (oN Z ?_))))))))))))))
     refine GO.max2 Z Z Z Z (bK (oN Z (GO.eql Z Z Z Z (bK (GO.pickT Z Z Z Z Z (nL ?_))))))
     rcases iE H with ⟨c27, H⟩ | ⟨c27, H⟩
     ·
      refine yB Z (tT c27) (rN 2 Z ?_)
      obtain rfl := sI H
      exact rT _ func121 Z Z ⟨Z, HS⟩
     refine nB Z (tF c27) (rN 4 Z (G.weak ?_ (b1 c1 (Nat.lt_succ_of_le (lR _)) (Nat.le_of_succ_le d1) _ _ H HS)))
     exact ⟨Z, Z, Z, tv⟩
  refine G.weak ?_ (e1 K (lR _) _ _ H HS)
  exact ⟨Z, Z, Z, tv⟩
theorem spec_l08Rows.calls {marks : List Int} {width : Int} {r1 : List (List Int)} {r2 : Int} (HS : St w0 w (L)) (r_a : RdIn w0 L (TInt .i64) A_a c_a (fun _ => ()) marks) (H : spec_l08Rows.f K marks width = some (r1, r2)) :
    Calls prog 122 #[.slice A_a marks.length c_a, I width] w (spec_l08Rows.post w0 L r1 r2) := by
  unfold spec_l08Rows.f at H
  refine cG func122 Z ?_
  refine rN 3 Z ?_
  obtain ⟨c1, H⟩ := iN H
  obtain ⟨c2, H⟩ := iN H
  refine rG (mV Z (lS Z Z U56 Z (GO.make (T := (TInt .i64)) 0 () HS flat_flat Z Z Z U56 inf2 Z Z Z c1 c2 Z fun b3 wd4 HS => aS Z (nL (rN 3 Z (rG (GO.buildS (el := 56) ([]) HS Z Z (fun _ => by kernel_rfl) Z fun b5 wd6 HS => ?_)))))))
  replace HS := HS.boxNil (T := (Ty.slice 2 (TInt .i64))) (j := 0) Z (fun _ => ⟨none, 0, (fun _ => ())⟩)
  refine GO.lenC (t := 16) (m := ([] : List (List Int)).length) (c' := 0) Z Z Z (aS Z (nL (rN 5 Z ?_)))
  refine G.name (fun u1 b2 => ?_)
  have f2 : ∀ i1, i1 ≤ K → ∀ (a1 : List Int) (b1 g1 : Int) (w : World), spec_l08Rows.l1 K i1 marks width a1 b1 g1 = some (r1, r2) → St w0 w (Own (TInt .i64) 2 (some ⟨b3, 0, none⟩) ((marks.length : Int).toNat) (fun _ => ()) a1 :: Own (Ty.slice 2 (TInt .i64)) 56 (some ⟨b5, 0, none⟩) 0 (fun _ => ⟨none, 0, (fun _ => ())⟩) ([] : List (List Int)) :: L) → G prog 122 67 [(0, .slice A_a marks.length c_a), (1, I width), (6, .slice (some ⟨b3, 0, none⟩) a1.length ((marks.length : Int).toNat)), (7, I b1), (8, .slice (some ⟨b5, 0, none⟩) ([] : List (List Int)).length 0), (9, I g1)] u1 w (spec_l08Rows.post w0 L r1 r2) := by
   intro i1
   induction i1 using Nat.strongRecOn with
   | _ i1 p1 =>
    intro s1 a1 b1 g1 w H HS
    cases i1 with
    | zero => rw [spec_l08Rows.l1] at H; cases H
    | succ n1 =>
     rw [spec_l08Rows.l1] at H
     subst b2
     refine rN 2 Z (rG (pS 2 Z (lS Z Z U56 Z (GO.lss Z Z Z Z (nL ?_)))))
     rcases iE H with ⟨c190, H⟩ | ⟨c190, H⟩
     ·
      refine yB Z (tT c190) (rN 4 Z ?_)
      obtain ⟨c191, H⟩ := iN H
      refine rG (pS 2 Z (GO.ix Z Z Z U56 sz2 ((rD 2 r_a) _ HS).2.2.1 c191.1 c191.2 Z (GO.ldRd (T := (TInt .i64)) (n := g1.toNat) (o := 0) HS (rD 2 r_a) Z Z (getD_some (d := 0) (ltN c191)) Z Z na2 Z (pS 2 Z (nL ?_)))))
      rcases iS H with ⟨c192, H⟩ | ⟨c192, H⟩
      ·
       refine nB Z (tF c192) (rN 4 Z (G.weak ?_ (p1 n1 (Nat.lt_succ_of_le (lR _)) (Nat.le_of_succ_le s1) _ _ _ _ H HS)))
       exact ⟨Z, Z, Z, Z, Z, Z, tv⟩
      refine yB Z (tT c192) (sQ ?_)
      obtain ⟨c193, H⟩ := iN H
      refine rG (pS 3 Z (GO.ix Z Z Z U56 sz2 (fun _ => ⟨_, _, Z⟩) c193.1 c193.2 Z (GO.stRow (T := (TInt .i64)) (j := 0) (n := g1.toNat) (o := 0) (vs := [I b1]) b1 HS Z flat_flat Z Z Z Z (htN na2 Z) Z (getD_some (d := 0) (ltN c193)) Z Z fun wd194 HS => nL (G.len (t := 6) (m := (a1.set g1.toNat b1).length) Z (by simp only [List.length_set] <;> rfl) (rN 4 Z (G.weak ?_ (p1 n1 (Nat.lt_succ_of_le (lR _)) (Nat.le_of_succ_le s1) _ _ _ _ H HS)))))))
      exact ⟨Z, Z, Z, Z, Z, Z, tv⟩
     refine nB Z (tF c190) (rN 6 Z ?_)
     refine G.name (fun t1 y1 => ?_)
     have a2 : ∀ f1, f1 ≤ n1 → ∀ (A250 : Option Addr) (c251 : Nat) (e1 : List (List Int)) (y253 : Nat → (Ty.slice 2 (TInt .i64)).Lay) (k1 : Int) (w : World), spec_l08Rows.l7 K f1 marks width a1 b1 e1 k1 = some (r1, r2) → St w0 w (Own (TInt .i64) 2 (some ⟨b3, 0, none⟩) ((marks.length : Int).toNat) (fun _ => ()) a1 :: Own (Ty.slice 2 (TInt .i64)) 56 A250 c251 y253 e1 :: L) → G prog 122 67 [(0, .slice A_a marks.length c_a), (1, I width), (6, .slice (some ⟨b3, 0, none⟩) a1.length ((marks.length : Int).toNat)), (7, I b1), (8, .slice A250 e1.length c251), (10, I k1)] t1 w (spec_l08Rows.post w0 L r1 r2) := by
      intro f1
      induction f1 using Nat.strongRecOn with
      | _ f1 g2 =>
       intro h2 A250 c251 e1 y253 k1 w H HS
       cases f1 with
       | zero => rw [spec_l08Rows.l7] at H; cases H
       | succ q1 =>
        rw [spec_l08Rows.l7] at H
        subst y1
        refine rN 2 Z (rG (pS 2 Z (lS Z Z U56 Z (GO.lss Z Z Z Z (nL ?_)))))
        rcases iS H with ⟨c310, H⟩ | ⟨c310, H⟩
        ·
         refine nB Z (tF c310) (rN 3 Z ?_)
         obtain ⟨rfl, rfl⟩ := some2 H
         exact G.ret2 _ _ func122 Z Z Z ⟨_, _, _, Z, (HS.pk 2 [1] Z)⟩
        refine yB Z (tT c310) (rN 4 Z (rG (GO.buildS (el := 2) ([]) HS Z Z (fun _ => by kernel_rfl) Z fun b311 wd312 HS => ?_)))
        replace HS := HS.boxRow (T := (TInt .i64)) (j := 0) Z flat_flat (fun _ => ()) ([] : List Int) Z (bndL Z)
        refine GO.lenC (t := 42) (m := ([] : List Int).length) (c' := ([] : List Int).length) Z Z Z (aS Z (nL (rN 5 Z ?_)))
        refine G.name (fun e2 x1 => ?_)
        have d2 : ∀ h1, h1 ≤ q1 → ∀ (A329 : Option Addr) (c330 : Nat) (m1 : List Int) (d1 : Int) (w : World), spec_l08Rows.l10 K h1 marks width a1 b1 e1 k1 m1 d1 = some (r1, r2) → St w0 w (Own (TInt .i64) 2 (some ⟨b3, 0, none⟩) ((marks.length : Int).toNat) (fun _ => ()) a1 :: Own (Ty.slice 2 (TInt .i64)) 56 A250 c251 y253 e1 :: Own (TInt .i64) 2 A329 c330 (fun _ => ()) m1 :: L) → G prog 122 67 [(0, .slice A_a marks.length c_a), (1, I width), (6, .slice (some ⟨b3, 0, none⟩) a1.length ((marks.length : Int).toNat)), (7, I b1), (8, .slice A250 e1.length c251), (10, I k1), (11, .slice A329 m1.length c330), (12, I d1)] e2 w (spec_l08Rows.post w0 L r1 r2) := by
         intro h1
         induction h1 using Nat.strongRecOn with
         | _ h1 v1 =>
          intro z1 A329 c330 m1 d1 w H HS
          cases h1 with
          | zero => rw [spec_l08Rows.l10] at H; cases H
          | succ o1 =>
           rw [spec_l08Rows.l10] at H
           subst x1
           refine rN 3 Z ?_
           rcases iS H with ⟨c349, H⟩ | ⟨c349, H⟩
           ·
            refine nB Z (tF c349) (G.exit Z ?_)
            obtain ⟨c363, H⟩ := iN H
            refine rG (pS 2 Z (GO.buildS (el := 56) ([.slice A329 m1.length c330]) HS Z Z (fun _ => by kernel_rfl) Z fun b358 wd359 HS => ?_))
            replace HS := HS.pk 4 [2, 0, 3, 1] Z
            refine GO.appR (S := (TInt .i64)) (u := 2) HS Z Z Z U109 inf56 Z Z c363 Z fun A361 c362 y364 wd360 HS => aS Z (nL (rN 3 Z (G.weak ?_ (g2 o1 (by omega) (by omega) _ _ _ _ _ _ H (HS.pk 3 [2, 0] Z)))))
            exact ⟨Z, Z, Z, Z, Z, Z, tv⟩
           refine yB Z (tT c349) (rN 3 Z ?_)
           obtain ⟨c350, H⟩ := iN H
           obtain ⟨c351, H⟩ := iN H
           obtain ⟨c357, H⟩ := iN H
           refine rG (pS 4 Z (GO.ix Z Z Z U56 sz2 ((rD 3 r_a) _ HS).2.2.1 c350.1 c350.2 Z (GO.ldRd (T := (TInt .i64)) (n := d1.toNat) (o := 0) HS (rD 3 r_a) Z Z (getD_some (d := 0) (ltN c350)) Z Z na2 Z (GO.ix Z Z Z U56 sz2 (fun _ => ⟨_, _, Z⟩) c351.1 c351.2 Z (GO.ldRd (T := (TInt .i64)) (n := (marks.getD d1.toNat 0).toNat) (o := 0) HS (RdIn.own (j := 0) Z) Z Z (getD_some (d := 0) (ltN c351)) Z Z na2 Z (GO.buildS (el := 2) ([I (a1.getD ((marks.getD d1.toNat 0).toNat) 0)]) HS Z Z (fun _ => by kernel_rfl) Z fun b352 wd353 HS => GO.app1 (T := (TInt .i64)) (j := 3) (jb := 0) (a1.getD ((marks.getD d1.toNat 0).toNat) 0) HS Z Z flat_flat Z Z Z U56 inf2 Z Z Z c357 Z fun A355 c356 wd354 HS => aS Z (nL (rN 3 Z (G.weak ?_ (v1 o1 (Nat.lt_succ_of_le (lR _)) (Nat.le_of_succ_le z1) _ _ _ _ _ H (HS.pk 4 [1, 2, 3] Z)))))))))))
           exact ⟨Z, Z, Z, Z, Z, Z, Z, Z, tv⟩
        refine G.weak ?_ (d2 q1 (lR _) _ _ _ _ _ H (HS.pk 3 [1, 2, 0] Z))
        exact ⟨Z, Z, Z, Z, Z, Z, Z, Z, tv⟩
     refine G.weak ?_ (a2 n1 (lR _) _ _ _ _ _ _ H HS)
     exact ⟨Z, Z, Z, Z, Z, Z, tv⟩
  refine G.weak ?_ (f2 K (lR _) _ _ _ _ H (HS.pk 2 [1, 0] Z))
  exact ⟨Z, Z, Z, Z, Z, Z, tv⟩
theorem spec_l08Count.calls {a1 : List (List GFace)} {y_a : Nat → (Ty.slice 107 T_GFace).Lay} {r1 r2 r3 : List (List Int)} {r4 : List Int} (HS : St w0 w (L)) (r_a : RdIn w0 L (Ty.slice 107 T_GFace) A_a c_a y_a a1) (H : spec_l08Count.f K a1 = some (r1, r2, r3, r4)) :
    Calls prog 78 #[.agg [.slice A_a a1.length c_a].toArray] w (spec_l08Count.post w0 L r1 r2 r3 r4) := by
  unfold spec_l08Count.f at H
  refine cG func78 Z ?_
  refine sQ (rG (bA HS Z fun b1 wd2 HS => GO.alloc HS Z zr111 Z Z fun b3 wd4 HS => aS Z (nL (sQ ?_))))
  obtain ⟨t5, h6, H⟩ := bI H
  refine rG (lW 1 HS Z ag31 (fJ fok64 Z (spec_l07Tets.calls HS (rD 2 r_a) h6) (fun _ wd7 ⟨h8, HS⟩ => ⟨_, h8, (aS Z (nL (sQ ?_)))⟩)))
  obtain ⟨t9, h10, H⟩ := bI H
  refine rG (pS 2 Z (fJ fok118 Z (spec_l08Fresh.calls HS  h10) (fun _ wd13 ⟨A11, c12, h14, HS⟩ => ⟨_, h14, (aS Z (nL (sQ ?_)))⟩)))
  obtain ⟨t15, h16, H⟩ := bI H
  refine rG (pS 2 Z (fJ fok118 Z (spec_l08Fresh.calls HS  h16) (fun _ wd19 ⟨A17, c18, h20, HS⟩ => ⟨_, h20, (aS Z (nL (sQ ?_)))⟩)))
  obtain ⟨t21, h22, H⟩ := bI H
  refine rG (pS 2 Z (fJ fok118 Z (spec_l08Fresh.calls HS  h22) (fun _ wd25 ⟨A23, c24, h26, HS⟩ => ⟨_, h26, (aS Z (nL (rN 5 Z ?_)))⟩)))
  refine G.name (fun c2 h2 => ?_)
  have k2 : ∀ h1, h1 ≤ K → ∀ (k1 p1 x782 : List Int) (x783 : Int) (w : World), spec_l08Count.l1 K h1 a1 t5 k1 p1 x782 x783 = some (r1, r2, r3, r4) → St w0 w (Box b1 31 [.slice A_a a1.length c_a] :: Box b3 111 [.slice none 0 0, .slice none 0 0, .slice none 0 0] :: Own (TInt .i64) 2 A11 c12 (fun _ => ()) k1 :: Own (TInt .i64) 2 A17 c18 (fun _ => ()) p1 :: Own (TInt .i64) 2 A23 c24 (fun _ => ()) x782 :: L) → G prog 78 148 [(1, .pointer (some ⟨b1, 0, none⟩)), (2, .pointer (some ⟨b3, 0, none⟩)), (4, I t5), (5, .slice A11 k1.length c12), (6, .slice A17 p1.length c18), (7, .slice A23 x782.length c24), (8, I x783)] c2 w (spec_l08Count.post w0 L r1 r2 r3 r4) := by
   intro h1
   induction h1 using Nat.strongRecOn with
   | _ h1 g2 =>
    intro o2 k1 p1 x782 x783 w H HS
    cases h1 with
    | zero => rw [spec_l08Count.l1] at H; cases H
    | succ y1 =>
     rw [spec_l08Count.l1] at H
     subst h2
     refine rN 3 Z ?_
     rcases iS H with ⟨c1537, H⟩ | ⟨c1537, H⟩
     ·
      refine nB Z (tF c1537) (rN 2 Z (rG (GO.buildV (.agg [.slice none 0 0, .slice none 0 0, .slice none 0 0].toArray) Z Z (fun _ => by kernel_rfl) Z (GO.alloc HS Z zr111 Z Z fun b2251 wd2252 HS => sW 0 HS Z ag111 Z fun wd2253 HS => nL (sQ (rG (mV Z (GO.buildS (el := 2) ([I 0, I 0, I 0, I t5]) HS Z Z (fun _ => by kernel_rfl) Z fun b2254 wd2255 HS => ?_))))))))
      replace HS := HS.boxRow (T := (TInt .i64)) (j := 0) Z flat_flat (fun _ => ()) ([0, 0, 0, t5] : List Int) Z (bndL Z)
      refine GO.lenC (t := 121) (m := ([0, 0, 0, t5] : List Int).length) (c' := ([0, 0, 0, t5] : List Int).length) Z Z Z (aS Z (nL (sQ ?_)))
      obtain ⟨t2256, t2257, h2258, H⟩ := bind2_elim H
      obtain ⟨c2265, H⟩ := iN H
      refine rG (pS 2 Z (fJ fok122 Z (spec_l08Rows.calls HS (RdIn.own (j := 4) Z) h2258) (fun _ wd2262 ⟨A2259, c2260, y2261, h2263, HS⟩ => ⟨_, h2263, (pS 3 Z (fL b2251 0 fl111_0 Z (GO.stBox (j := 2) (vs := [.slice A2259 t2256.length c2260]) ([.slice A2259 t2256.length c2260, .slice none 0 0, .slice none 0 0]) HS Z Z Z Z Z (htN na109 Z) Z Z Z fun wd2264 HS => GO.ix Z Z Z U56 sz2 (fun _ => ⟨_, _, Z⟩) c2265.1 c2265.2 Z (GO.stRow (T := (TInt .i64)) (j := 1) (n := 0) (o := 0) (vs := [I t2257]) t2257 HS Z flat_flat Z Z Z Z (htN na2 Z) Z (getD_some (d := 0) (ltN c2265)) Z Z fun wd2266 HS => nL (G.len (t := 16) (m := (([0, 0, 0, t5] : List Int).set 0 t2257).length) Z (by simp only [List.length_set] <;> rfl) (sQ ?_))))))⟩)))
      obtain ⟨t2267, t2268, h2269, H⟩ := bind2_elim H
      obtain ⟨c2276, H⟩ := iN H
      refine rG (pS 2 Z (fJ fok122 Z (spec_l08Rows.calls HS (RdIn.own (j := 6) Z) h2269) (fun _ wd2273 ⟨A2270, c2271, y2272, h2274, HS⟩ => ⟨_, h2274, (pS 3 Z (fL b2251 1 fl111_1 Z (GO.stBox (j := 3) (vs := [.slice A2270 t2267.length c2271]) ([.slice A2259 t2256.length c2260, .slice A2270 t2267.length c2271, .slice none 0 0]) HS Z Z Z Z Z (htN na109 Z) Z Z Z fun wd2275 HS => GO.ix Z Z Z U56 sz2 (fun _ => ⟨_, _, Z⟩) c2276.1 c2276.2 Z (GO.stRow (T := (TInt .i64)) (j := 2) (n := 1) (o := 0) (vs := [I t2268]) t2268 HS Z flat_flat Z Z Z Z (htN na2 Z) Z (getD_some (d := 0) (ltN c2276)) Z Z fun wd2277 HS => nL (G.len (t := 16) (m := ((([0, 0, 0, t5] : List Int).set 0 t2257).set 1 t2268).length) Z (by simp only [List.length_set] <;> rfl) (sQ ?_))))))⟩)))
      obtain ⟨t2278, t2279, h2280, H⟩ := bind2_elim H
      obtain ⟨c2287, H⟩ := iN H
      refine rG (pS 2 Z (fJ fok122 Z (spec_l08Rows.calls HS (RdIn.own (j := 8) Z) h2280) (fun _ wd2284 ⟨A2281, c2282, y2283, h2285, HS⟩ => ⟨_, h2285, (pS 3 Z (fL b2251 2 fl111_2 Z (GO.stBox (j := 4) (vs := [.slice A2281 t2278.length c2282]) ([.slice A2259 t2256.length c2260, .slice A2270 t2267.length c2271, .slice A2281 t2278.length c2282]) HS Z Z Z Z Z (htN na109 Z) Z Z Z fun wd2286 HS => GO.ix Z Z Z U56 sz2 (fun _ => ⟨_, _, Z⟩) c2287.1 c2287.2 Z (GO.stRow (T := (TInt .i64)) (j := 3) (n := 2) (o := 0) (vs := [I t2279]) t2279 HS Z flat_flat Z Z Z Z (htN na2 Z) Z (getD_some (d := 0) (ltN c2287)) Z Z fun wd2288 HS => nL (G.len (t := 16) (m := (((([0, 0, 0, t5] : List Int).set 0 t2257).set 1 t2268).set 2 t2279).length) Z (by simp only [List.length_set] <;> rfl) (sQ (rG (lW 4 HS Z ag111 (mV Z (sW 6 HS Z ag111 Z fun wd2289 HS => ?_))))))))))⟩)))
      refine aS Z (nL ?_)
      obtain ⟨rfl, rfl, rfl, rfl⟩ := some4 H
      exact G.ret2 _ _ func78 Z (Res1.boxA (j := 6) (vs := [.slice A2259 t2256.length c2260, .slice A2270 t2267.length c2271, .slice A2281 t2278.length c2282]) HS Z Z Z ag111) Z ⟨_, _, _, _, _, _, _, _, _, _, _, Z, (HS.pk 10 [2, 1, 0, 3] Z)⟩
     refine yB Z (tT c1537) (rN 7 Z ?_)
     refine G.name (fun d2 a2 => ?_)
     have j2 : ∀ f1, f1 ≤ y1 → ∀ (q1 c1 x1829 : List Int) (x1830 : Int) (w : World), spec_l08Count.l24 K f1 a1 t5 x783 q1 c1 x1829 x1830 = some (r1, r2, r3, r4) → St w0 w (Box b1 31 [.slice A_a a1.length c_a] :: Box b3 111 [.slice none 0 0, .slice none 0 0, .slice none 0 0] :: Own (TInt .i64) 2 A11 c12 (fun _ => ()) q1 :: Own (TInt .i64) 2 A17 c18 (fun _ => ()) c1 :: Own (TInt .i64) 2 A23 c24 (fun _ => ()) x1829 :: L) → G prog 78 148 [(1, .pointer (some ⟨b1, 0, none⟩)), (2, .pointer (some ⟨b3, 0, none⟩)), (4, I t5), (5, .slice A11 q1.length c12), (6, .slice A17 c1.length c18), (7, .slice A23 x1829.length c24), (8, I x783), (9, I x1830)] d2 w (spec_l08Count.post w0 L r1 r2 r3 r4) := by
      intro f1
      induction f1 using Nat.strongRecOn with
      | _ f1 u1 =>
       intro f2 q1 c1 x1829 x1830 w H HS
       cases f1 with
       | zero => rw [spec_l08Count.l24] at H; cases H
       | succ m1 =>
        rw [spec_l08Count.l24] at H
        subst a2
        refine rN 3 Z ?_
        rcases iS H with ⟨c2041, H⟩ | ⟨c2041, H⟩
        ·
         refine nB Z (tF c2041) (rN 4 Z (G.weak ?_ (g2 m1 (by omega) (by omega) _ _ _ _ _ H HS)))
         exact ⟨Z, Z, Z, Z, Z, Z, Z, tv⟩
        refine yB Z (tT c2041) (rN 4 Z ?_)
        obtain ⟨c2042, H⟩ := iN H
        obtain ⟨c2043, H⟩ := iN H
        obtain ⟨e2044, h2045, H⟩ := bnd_elim H
        refine rG (fL b1 0 fl31_0 Z (lB 0 HS Z na29 Z (mV Z (GO.ix Z Z Z U29 sz77 ((rD 5 r_a) _ HS).2.2.1 c2042.1 c2042.2 Z (GO.ldRd (T := (Ty.slice 107 T_GFace)) (n := x783.toNat) (o := 0) HS (rD 5 r_a) Z Z (getD_some (d := []) (ltN c2042)) Z Z na77 Z (mV Z (GO.ix Z Z Z U77 sz107 ((RdIn.elem (rD 5 r_a) c2042.1 c2042.2) _ HS).2.2.1 c2043.1 c2043.2 Z (GO.ldRdA (T := T_GFace) (n := x1830.toNat) HS (RdIn.elem (rD 5 r_a) c2042.1 c2042.2) Z Z (getD_eq (ltN c2043) h2045) ag107 Z (GO.alloc HS Z zr107 Z Z fun b2046 wd2047 HS => sW 0 HS Z ag107 Z fun wd2048 HS => nL (rN 2 Z (rG (fL b2046 0 fl107_0 Z ?_))))))))))))
        refine lB 0 HS Z na2 Z (GO.lss Z Z Z Z (nL ?_))
        rcases iE H with ⟨c2049, H⟩ | ⟨c2049, H⟩
        ·
         refine yB Z (tT c2049) (rN 3 Z (G.weak ?_ (u1 m1 (Nat.lt_succ_of_le (lR _)) (Nat.le_of_succ_le f2) _ _ _ _ _ H (HS.pk 6 [1, 2, 3, 4, 5] Z))))
         exact ⟨Z, Z, Z, Z, Z, Z, Z, Z, tv⟩
        refine nB Z (tF c2049) (rN 2 Z ?_)
        obtain ⟨t2050, h2051, H⟩ := bI H
        obtain ⟨t2054, h2055, H⟩ := bI H
        obtain ⟨c2056, H⟩ := iN H
        refine G.lexS mixed (fun w => St w0 w (Box b2046 107 [I e2044.Tet, I e2044.Perm] :: L)) [6, 9] [0, 1, 2, 3, 4, 5, 8, 10, 6, 7, 9, 11, 12, 13] [] (by kernel_rfl) (by kernel_rfl) (HS.drew.pk 6 [0] Z) ?_
        replace HS := HS.drew
        refine GX.ps 5 Z (qL Z Z (fun _ _ g => fL b2046 0 fl107_0 Z g) Z (qL Z Z (fun _ _ g => fL b2046 1 fl107_1 Z g) Z (GX.ps 1 Z (GX.ls Z Z Z (HS.pk 6 [0] Z) (fun _ HS _ g => lB 0 HS Z na2 Z g) Z (GX.ps 1 Z (GX.ls Z Z Z (HS.pk 6 [0] Z) (fun _ HS _ g => lB 0 HS Z na2 Z g) Z (GX.l2 Z (fJ fok76 Z (spec_l06At.calls HS  h2051) (fun _ wd2052 ⟨h2053, HS⟩ => ⟨_, h2053, (GX.fin (HS.pk 6 [0] Z) (GX.ps 1 Z (GX.l2 Z ?_)))⟩)))))))))
        replace HS := HS.pk 6 [5, 0, 1, 2, 3, 4] Z
        refine fJ fok119 Z (spec_l08Join.calls HS  h2055) (fun _ wd2057 ⟨h2058, HS⟩ => ⟨_, h2058, (GX.fin (HS.pk 6 [1] Z) (GX.nil (G.len (t := 7) (m := t2054.length) Z (by simp only [List.length_set, c2056] <;> rfl) (rN 5 Z ?_))))⟩)
        refine G.name (fun i2 m2 => ?_)
        have b2 : ∀ g1, g1 ≤ m1 → ∀ (d1 : List Int) (x2070 : Int) (w : World), spec_l08Count.l32 K g1 a1 t5 x783 c1 x1830 e2044 t2054 d1 x2070 = some (r1, r2, r3, r4) → St w0 w (Box b1 31 [.slice A_a a1.length c_a] :: Box b3 111 [.slice none 0 0, .slice none 0 0, .slice none 0 0] :: Own (TInt .i64) 2 A11 c12 (fun _ => ()) d1 :: Own (TInt .i64) 2 A17 c18 (fun _ => ()) c1 :: Own (TInt .i64) 2 A23 c24 (fun _ => ()) t2054 :: Box b2046 107 [I e2044.Tet, I e2044.Perm] :: L) → G prog 78 148 [(1, .pointer (some ⟨b1, 0, none⟩)), (2, .pointer (some ⟨b3, 0, none⟩)), (4, I t5), (5, .slice A11 d1.length c12), (6, .slice A17 c1.length c18), (7, .slice A23 t2054.length c24), (8, I x783), (9, I x1830), (10, .pointer (some ⟨b2046, 0, none⟩)), (11, I x2070)] i2 w (spec_l08Count.post w0 L r1 r2 r3 r4) := by
         intro g1
         induction g1 using Nat.strongRecOn with
         | _ g1 x1 =>
          intro v1 d1 x2070 w H HS
          cases g1 with
          | zero => rw [spec_l08Count.l32] at H; cases H
          | succ i1 =>
           rw [spec_l08Count.l32] at H
           subst m2
           refine rN 3 Z ?_
           rcases iE H with ⟨c2161, H⟩ | ⟨c2161, H⟩
           ·
            refine yB Z (tT c2161) (rN 5 Z ?_)
            rcases iE H with ⟨c2162, H⟩ | ⟨c2162, H⟩
            ·
             refine nB Z (nT c2162) (rN 4 Z (G.weak ?_ (x1 i1 (Nat.lt_succ_of_le (lR _)) (Nat.le_of_succ_le v1) _ _ _ H HS)))
             exact ⟨Z, Z, Z, Z, Z, Z, Z, Z, Z, Z, tv⟩
            refine yB Z (nF c2162) ?_
            obtain ⟨t2163, h2164, H⟩ := bI H
            obtain ⟨t2167, h2168, H⟩ := bI H
            obtain ⟨c2169, H⟩ := iN H
            refine G.lexS mixed (fun w => St w0 w (Box b2046 107 [I e2044.Tet, I e2044.Perm] :: L)) [6, 9] [0, 1, 2, 3, 4, 5, 8, 10, 6, 7, 9, 11, 12, 13] [] (by kernel_rfl) (by kernel_rfl) (HS.drew.pk 6 [5] Z) ?_
            replace HS := HS.drew
            refine GX.ps 5 Z (qL Z Z (fun _ _ g => fL b2046 0 fl107_0 Z g) Z (qL Z Z (fun _ _ g => fL b2046 1 fl107_1 Z g) Z (GX.ps 1 Z (GX.ls Z Z Z (HS.pk 6 [5] Z) (fun _ HS _ g => lB 0 HS Z na2 Z g) Z (GX.ps 1 Z (GX.ls Z Z Z (HS.pk 6 [5] Z) (fun _ HS _ g => lB 0 HS Z na2 Z g) Z (GX.l2 Z (fJ fok76 Z (spec_l06At.calls HS  h2164) (fun _ wd2165 ⟨h2166, HS⟩ => ⟨_, h2166, (GX.fin (HS.pk 6 [5] Z) (GX.ps 1 Z (GX.l2 Z ?_)))⟩)))))))))
            replace HS := HS.pk 6 [2, 0, 1, 3, 4, 5] Z
            refine fJ fok119 Z (spec_l08Join.calls HS  h2168) (fun _ wd2170 ⟨h2171, HS⟩ => ⟨_, h2171, (GX.fin (HS.pk 6 [5] Z) (GX.nil (G.len (t := 5) (m := t2167.length) Z (by simp only [List.length_set, c2169] <;> rfl) (rN 3 Z (G.weak ?_ (x1 i1 (Nat.lt_succ_of_le (lR _)) (Nat.le_of_succ_le v1) _ _ _ H (HS.pk 6 [1, 2, 0, 3, 4, 5] Z)))))))⟩)
            exact ⟨Z, Z, Z, Z, Z, Z, Z, Z, Z, Z, tv⟩
           refine nB Z (tF c2161) (rN 5 Z ?_)
           refine G.name (fun e2 n2 => ?_)
           have z1 : ∀ e1, e1 ≤ i1 → ∀ (n1 : List Int) (x2198 : Int) (w : World), spec_l08Count.l34 K e1 a1 t5 x783 x1830 e2044 t2054 d1 n1 x2198 = some (r1, r2, r3, r4) → St w0 w (Box b1 31 [.slice A_a a1.length c_a] :: Box b3 111 [.slice none 0 0, .slice none 0 0, .slice none 0 0] :: Own (TInt .i64) 2 A11 c12 (fun _ => ()) d1 :: Own (TInt .i64) 2 A17 c18 (fun _ => ()) n1 :: Own (TInt .i64) 2 A23 c24 (fun _ => ()) t2054 :: Box b2046 107 [I e2044.Tet, I e2044.Perm] :: L) → G prog 78 148 [(1, .pointer (some ⟨b1, 0, none⟩)), (2, .pointer (some ⟨b3, 0, none⟩)), (4, I t5), (5, .slice A11 d1.length c12), (6, .slice A17 n1.length c18), (7, .slice A23 t2054.length c24), (8, I x783), (9, I x1830), (10, .pointer (some ⟨b2046, 0, none⟩)), (12, I x2198)] e2 w (spec_l08Count.post w0 L r1 r2 r3 r4) := by
            intro e1
            induction e1 using Nat.strongRecOn with
            | _ e1 s1 =>
             intro t1 n1 x2198 w H HS
             cases e1 with
             | zero => rw [spec_l08Count.l34] at H; cases H
             | succ o1 =>
              rw [spec_l08Count.l34] at H
              subst n2
              refine rN 3 Z ?_
              rcases iS H with ⟨c2225, H⟩ | ⟨c2225, H⟩
              ·
               refine nB Z (tF c2225) (rN 4 Z (G.weak ?_ (u1 o1 (by omega) (by omega) _ _ _ _ _ H (HS.pk 6 [0, 1, 2, 3, 4] Z))))
               exact ⟨Z, Z, Z, Z, Z, Z, Z, Z, tv⟩
              refine yB Z (tT c2225) (rN 4 Z ?_)
              obtain ⟨t2226, t2227, h2228, H⟩ := bind2_elim H
              refine rG (mV Z (fJ fok120 Z (spec_l08Ends.calls HS  h2228) (fun _ wd2229 ⟨h2230, HS⟩ => ⟨_, h2230, (pS 5 Z (nL (sQ ?_)))⟩)))
              rcases iE H with ⟨c2232, H⟩ | ⟨c2232, H⟩
              ·
               refine rG (pS 4 Z (kN 95 Z (nT c2232) (oF Z (oF Z (oF Z (GO.pickF Z Z Z Z Z (nL (rN 5 Z (G.weak ?_ (s1 o1 (Nat.lt_succ_of_le (lR _)) (Nat.le_of_succ_le t1) _ _ _ H HS))))))))))
               exact ⟨Z, Z, Z, Z, Z, Z, Z, Z, Z, Z, tv⟩
              refine rG (pS 4 Z (kN 95 Z (nF c2232) (oN Z (mV Z (bK (oN Z (mV Z (bK (oN Z (GO.neq Z Z Z Z (bK (GO.pickT Z Z Z Z Z (nL ?_)))))))))))))
              rcases iE H with ⟨c2233, H⟩ | ⟨c2233, H⟩
              ·
               refine nB Z (nT c2233) (rN 4 Z (G.weak ?_ (s1 o1 (Nat.lt_succ_of_le (lR _)) (Nat.le_of_succ_le t1) _ _ _ H HS)))
               exact ⟨Z, Z, Z, Z, Z, Z, Z, Z, Z, Z, tv⟩
              refine yB Z (nF c2233) ?_
              obtain ⟨t2234, h2235, H⟩ := bI H
              obtain ⟨t2238, h2239, H⟩ := bI H
              obtain ⟨t2242, h2243, H⟩ := bI H
              obtain ⟨t2246, h2247, H⟩ := bI H
              obtain ⟨c2248, H⟩ := iN H
              refine G.lexS mixed (fun w => St w0 w (Box b2046 107 [I e2044.Tet, I e2044.Perm] :: L)) [6, 9, 13] [0, 1, 2, 3, 4, 5, 8, 10, 12, 14, 6, 7, 9, 13, 11, 15, 16, 17, 18] [] (by kernel_rfl) (by kernel_rfl) (HS.drew.pk 6 [5] Z) ?_
              replace HS := HS.drew
              refine GX.ps 5 Z (qL Z Z (fun _ _ g => fL b2046 0 fl107_0 Z g) Z (qL Z Z (fun _ _ g => fL b2046 1 fl107_1 Z g) Z (GX.ps 1 Z (qL Z Z (fun _ _ g => fL b2046 1 fl107_1 Z g) Z (GX.ps 1 Z (GX.ls Z Z Z (HS.pk 6 [5] Z) (fun _ HS _ g => lB 0 HS Z na2 Z g) Z (GX.ps 1 Z (GX.ls Z Z Z (HS.pk 6 [5] Z) (fun _ HS _ g => lB 0 HS Z na2 Z g) Z (GX.ls Z Z Z (HS.pk 6 [5] Z) (fun _ HS _ g => lB 0 HS Z na2 Z g) Z (GX.l2 Z (fJ fok76 Z (spec_l06At.calls HS  h2235) (fun _ wd2236 ⟨h2237, HS⟩ => ⟨_, h2237, (GX.fin (HS.pk 6 [5] Z) (GX.l2 Z (fJ fok76 Z (spec_l06At.calls HS  h2239) (fun _ wd2240 ⟨h2241, HS⟩ => ⟨_, h2241, ?_⟩))))⟩))))))))))))
              refine GX.fin (HS.pk 6 [5] Z) (GX.l2 Z (fJ fok121 Z (spec_l08Edge.calls HS  h2243) (fun _ wd2244 ⟨h2245, HS⟩ => ⟨_, h2245, (GX.fin (HS.pk 6 [5] Z) (GX.ps 1 Z (GX.l2 Z ?_)))⟩)))
              replace HS := HS.pk 6 [3, 0, 1, 2, 4, 5] Z
              refine fJ fok119 Z (spec_l08Join.calls HS  h2247) (fun _ wd2249 ⟨h2250, HS⟩ => ⟨_, h2250, (GX.fin (HS.pk 6 [5] Z) (GX.nil (G.len (t := 6) (m := t2246.length) Z (by simp only [List.length_set, c2248] <;> rfl) (rN 3 Z (G.weak ?_ (s1 o1 (Nat.lt_succ_of_le (lR _)) (Nat.le_of_succ_le t1) _ _ _ H (HS.pk 6 [1, 2, 3, 0, 4, 5] Z)))))))⟩)
              exact ⟨Z, Z, Z, Z, Z, Z, Z, Z, Z, Z, tv⟩
           refine G.weak ?_ (z1 i1 (lR _) _ _ _ H HS)
           exact ⟨Z, Z, Z, Z, Z, Z, Z, Z, Z, Z, tv⟩
        refine G.weak ?_ (b2 m1 (lR _) _ _ _ H (HS.pk 6 [2, 3, 4, 5, 0, 1] Z))
        exact ⟨Z, Z, Z, Z, Z, Z, Z, Z, Z, Z, tv⟩
     refine G.weak ?_ (j2 y1 (lR _) _ _ _ _ _ H HS)
     exact ⟨Z, Z, Z, Z, Z, Z, Z, Z, tv⟩
  refine G.weak ?_ (k2 K (lR _) _ _ _ _ _ H (HS.pk 5 [4, 3, 2, 1, 0] Z))
  exact ⟨Z, Z, Z, Z, Z, Z, Z, tv⟩
theorem spec_l07Boundary.calls {d1 : List (List GFace)} {y_a : Nat → (Ty.slice 107 T_GFace).Lay} {r1 : List (List Int)} (HS : St w0 w (L)) (r_a : RdIn w0 L (Ty.slice 107 T_GFace) A_a c_a y_a d1) (H : spec_l07Boundary.f K d1 = some r1) :
    Calls prog 154 #[.agg [.slice A_a d1.length c_a].toArray] w (spec_l07Boundary.post w0 L r1) := by
  unfold spec_l07Boundary.f at H
  refine cG func154 Z ?_
  refine sQ (rG (bA HS Z fun b1 wd2 HS => aS Z (nL (sQ (rG (GO.buildS (el := 56) ([]) HS Z Z (fun _ => by kernel_rfl) Z fun b3 wd4 HS => ?_))))))
  replace HS := HS.boxNil (T := (Ty.slice 2 (TInt .i64))) (j := 0) Z (fun _ => ⟨none, 0, (fun _ => ())⟩)
  refine GO.lenC (t := 6) (m := ([] : List (List Int)).length) (c' := 0) Z Z Z (aS Z (nL (rN 5 Z ?_)))
  refine G.name (fun p1 t1 => ?_)
  have v1 : ∀ f1, f1 ≤ K → ∀ (A55 : Option Addr) (c56 : Nat) (g1 : List (List Int)) (y58 : Nat → (Ty.slice 2 (TInt .i64)).Lay) (a1 : Int) (w : World), spec_l07Boundary.l1 K f1 d1 g1 a1 = some r1 → St w0 w (Box b1 31 [.slice A_a d1.length c_a] :: Own (Ty.slice 2 (TInt .i64)) 56 A55 c56 y58 g1 :: L) → G prog 154 35 [(1, .pointer (some ⟨b1, 0, none⟩)), (3, .slice A55 g1.length c56), (4, I a1)] p1 w (spec_l07Boundary.post w0 L r1) := by
   intro f1
   induction f1 using Nat.strongRecOn with
   | _ f1 s1 =>
    intro x1 A55 c56 g1 y58 a1 w H HS
    cases f1 with
    | zero => rw [spec_l07Boundary.l1] at H; cases H
    | succ n1 =>
     rw [spec_l07Boundary.l1] at H
     subst t1
     refine rN 2 Z (rG (mV Z (fL b1 0 fl31_0 Z (lB 0 HS Z na29 Z (lS Z Z U29 Z (GO.lss Z Z Z Z (nL ?_)))))))
     rcases iS H with ⟨c110, H⟩ | ⟨c110, H⟩
     ·
      refine nB Z (tF c110) (rN 3 Z ?_)
      obtain rfl := sI H
      exact rT _ func154 Z Z ⟨_, _, _, Z, (HS.pk 2 [1] Z)⟩
     refine yB Z (tT c110) (rN 7 Z ?_)
     refine G.name (fun q1 o1 => ?_)
     have u1 : ∀ e1, e1 ≤ n1 → ∀ (A125 : Option Addr) (c126 : Nat) (h1 : List (List Int)) (y128 : Nat → (Ty.slice 2 (TInt .i64)).Lay) (c1 : Int) (w : World), spec_l07Boundary.l4 K e1 d1 a1 h1 c1 = some r1 → St w0 w (Box b1 31 [.slice A_a d1.length c_a] :: Own (Ty.slice 2 (TInt .i64)) 56 A125 c126 y128 h1 :: L) → G prog 154 35 [(1, .pointer (some ⟨b1, 0, none⟩)), (3, .slice A125 h1.length c126), (4, I a1), (5, I c1)] q1 w (spec_l07Boundary.post w0 L r1) := by
      intro e1
      induction e1 using Nat.strongRecOn with
      | _ e1 k1 =>
       intro m1 A125 c126 h1 y128 c1 w H HS
       cases e1 with
       | zero => rw [spec_l07Boundary.l4] at H; cases H
       | succ i1 =>
        rw [spec_l07Boundary.l4] at H
        subst o1
        refine rN 3 Z ?_
        rcases iS H with ⟨c145, H⟩ | ⟨c145, H⟩
        ·
         refine nB Z (tF c145) (rN 4 Z (G.weak ?_ (s1 i1 (by omega) (by omega) _ _ _ _ _ _ H HS)))
         exact ⟨Z, Z, Z, tv⟩
        refine yB Z (tT c145) (rN 4 Z ?_)
        obtain ⟨c146, H⟩ := iN H
        obtain ⟨c147, H⟩ := iN H
        obtain ⟨e148, h149, H⟩ := bnd_elim H
        refine rG (fL b1 0 fl31_0 Z (lB 0 HS Z na29 Z (mV Z (GO.ix Z Z Z U29 sz77 ((rD 2 r_a) _ HS).2.2.1 c146.1 c146.2 Z (GO.ldRd (T := (Ty.slice 107 T_GFace)) (n := a1.toNat) (o := 0) HS (rD 2 r_a) Z Z (getD_some (d := []) (ltN c146)) Z Z na77 Z (mV Z (GO.ix Z Z Z U77 sz107 ((RdIn.elem (rD 2 r_a) c146.1 c146.2) _ HS).2.2.1 c147.1 c147.2 Z (GO.fld (ea ((y_a a1.toNat).A) (c1.toNat * 2)) Z Z fl107_0 Z Z (GO.ldRd (T := T_GFace) (n := c1.toNat) (o := 0) HS (RdIn.elem (rD 2 r_a) c146.1 c146.2) Z Z (getD_eq (ltN c147) h149) Z Z na2 Z (GO.lss Z Z Z Z (nL ?_)))))))))))
        rcases iS H with ⟨c150, H⟩ | ⟨c150, H⟩
        ·
         refine nB Z (tF c150) (rN 4 Z (G.weak ?_ (k1 i1 (Nat.lt_succ_of_le (lR _)) (Nat.le_of_succ_le m1) _ _ _ _ _ _ H HS)))
         exact ⟨Z, Z, Z, Z, tv⟩
        refine yB Z (tT c150) ?_
        obtain ⟨c158, H⟩ := iN H
        refine rG (pS 3 Z (GO.buildS (el := 2) ([I a1, I c1]) HS Z Z (fun _ => by kernel_rfl) Z fun b151 wd152 HS => ?_))
        replace HS := HS.boxRow (T := (TInt .i64)) (j := 0) Z flat_flat (fun _ => ()) ([a1, c1] : List Int) Z (bndL Z)
        refine GO.lenC (t := 31) (m := ([a1, c1] : List Int).length) (c' := ([a1, c1] : List Int).length) Z Z Z (GO.buildS (el := 56) ([.slice (some ⟨b151, 0, none⟩) ([a1, c1] : List Int).length (([a1, c1] : List Int).length)]) HS Z Z (fun _ => by kernel_rfl) Z fun b153 wd154 HS => ?_)
        replace HS := HS.pk 4 [3, 0, 1, 2] Z
        refine GO.appR (S := (TInt .i64)) (u := 2) HS Z Z Z U109 inf56 Z Z c158 Z fun A156 c157 y159 wd155 HS => aS Z (nL (rN 3 Z (G.weak ?_ (k1 i1 (Nat.lt_succ_of_le (lR _)) (Nat.le_of_succ_le m1) _ _ _ _ _ _ H (HS.pk 3 [2, 0] Z)))))
        exact ⟨Z, Z, Z, Z, tv⟩
     refine G.weak ?_ (u1 n1 (lR _) _ _ _ _ _ _ H HS)
     exact ⟨Z, Z, Z, Z, tv⟩
  refine G.weak ?_ (v1 K (lR _) _ _ _ _ _ _ H (HS.pk 2 [1, 0] Z))
  exact ⟨Z, Z, Z, tv⟩
theorem spec_l08Listed.calls {flags : List Bool} {r1 : List Int} (HS : St w0 w (L)) (r_a : RdIn w0 L TBool A_a c_a (fun _ => ()) flags) (H : spec_l08Listed.f K flags = some r1) :
    Calls prog 155 #[.slice A_a flags.length c_a] w (spec_l08Listed.post w0 L r1) := by
  unfold spec_l08Listed.f at H
  refine cG func155 Z ?_
  refine rN 3 Z (rG (GO.buildS (el := 2) ([]) HS Z Z (fun _ => by kernel_rfl) Z fun b1 wd2 HS => ?_))
  replace HS := HS.boxRow (T := (TInt .i64)) (j := 0) Z flat_flat (fun _ => ()) ([] : List Int) Z (bndL Z)
  refine GO.lenC (t := 5) (m := ([] : List Int).length) (c' := ([] : List Int).length) Z Z Z (aS Z (nL (rN 5 Z ?_)))
  refine G.name (fun i1 k1 => ?_)
  have h1 : ∀ c1, c1 ≤ K → ∀ (A12 : Option Addr) (c13 : Nat) (d1 : List Int) (a1 : Int) (w : World), spec_l08Listed.l1 K c1 flags d1 a1 = some r1 → St w0 w (Own (TInt .i64) 2 A12 c13 (fun _ => ()) d1 :: L) → G prog 155 21 [(0, .slice A_a flags.length c_a), (3, .slice A12 d1.length c13), (4, I a1)] i1 w (spec_l08Listed.post w0 L r1) := by
   intro c1
   induction c1 using Nat.strongRecOn with
   | _ c1 e1 =>
    intro g1 A12 c13 d1 a1 w H HS
    cases c1 with
    | zero => rw [spec_l08Listed.l1] at H; cases H
    | succ f1 =>
     rw [spec_l08Listed.l1] at H
     subst k1
     refine rN 2 Z (rG (pS 2 Z (lS Z Z U171 Z (GO.lss Z Z Z Z (nL ?_)))))
     rcases iS H with ⟨c25, H⟩ | ⟨c25, H⟩
     ·
      refine nB Z (tF c25) (rN 3 Z ?_)
      obtain rfl := sI H
      exact rT _ func155 Z Z ⟨_, _, Z, HS⟩
     refine yB Z (tT c25) (rN 4 Z ?_)
     obtain ⟨c26, H⟩ := iN H
     refine rG (pS 2 Z (GO.ix Z Z Z U171 sz4 ((rD 1 r_a) _ HS).2.2.1 c26.1 c26.2 Z (GO.ldRd (T := TBool) (n := a1.toNat) (o := 0) HS (rD 1 r_a) Z Z (getD_some (d := false) (ltN c26)) Z Z na4 Z (nL ?_))))
     rcases iS H with ⟨c27, H⟩ | ⟨c27, H⟩
     ·
      refine nB Z (bnot_of c27) (rN 4 Z (G.weak ?_ (e1 f1 (Nat.lt_succ_of_le (lR _)) (Nat.le_of_succ_le g1) _ _ _ _ _ H HS)))
      exact ⟨Z, Z, Z, tv⟩
     refine yB Z c27 ?_
     obtain ⟨c33, H⟩ := iN H
     refine rG (pS 2 Z (GO.buildS (el := 2) ([I a1]) HS Z Z (fun _ => by kernel_rfl) Z fun b28 wd29 HS => GO.app1 (T := (TInt .i64)) (j := 1) (jb := 0) a1 HS Z Z flat_flat Z Z Z U56 inf2 Z Z Z c33 Z fun A31 c32 wd30 HS => aS Z (nL (rN 3 Z (G.weak ?_ (e1 f1 (Nat.lt_succ_of_le (lR _)) (Nat.le_of_succ_le g1) _ _ _ _ _ H (HS.pk 2 [1] Z)))))))
     exact ⟨Z, Z, Z, tv⟩
  refine G.weak ?_ (h1 K (lR _) _ _ _ _ _ H HS)
  exact ⟨Z, Z, Z, tv⟩
end Go.Proofs.YtbjfinndngafoaaGreat
