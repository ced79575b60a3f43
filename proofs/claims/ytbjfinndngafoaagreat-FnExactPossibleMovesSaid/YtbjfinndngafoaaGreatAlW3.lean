/-
  The walks through the functions: a call comes to what its list function says.
-/
import Derived.Test.YtbjfinndngafoaaGreatAlF
import Derived.Test.YtbjfinndngafoaaGreatAlW1
import Derived.Test.YtbjfinndngafoaaGreatAlW2
set_option linter.unusedVariables false
set_option linter.unusedSimpArgs false
namespace Go.Proofs.YtbjfinndngafoaaGreat
open Go.RowKit
open Tryz
variable {w0 w : World} {L : List HObj} {K : Nat} {A_a A_b A_c A_d A_e A_f A_g A_h A_i A_j A_k A_l A_m A_n A_o A_p A_q A_r A_s A_t A_u A_v A_w A_x A_y A_z : Option Addr} {c_a c_b c_c c_d c_e c_f c_g c_h c_i c_j c_k c_l c_m c_n c_o c_p c_q c_r c_s c_t c_u c_v c_w c_x c_y c_z : Nat}
set_option maxRecDepth 20000
set_option maxHeartbeats 40000000
theorem spec_MoveCode.calls {a1 : List (List GFace)} {d1 c1 e1 : Int} {y_a : Nat → (Ty.slice 107 T_GFace).Lay} {r1 : Int} (HS : St w0 w (L)) (r_a : RdIn w0 L (Ty.slice 107 T_GFace) A_a c_a y_a a1) (H : spec_MoveCode.f K a1 d1 c1 e1 = some r1) :
    Calls prog 11 #[.agg [sV A_a a1 c_a].toArray, .agg [I d1, I c1, I e1].toArray] w (spec_MoveCode.post w0 L r1) := by
  unfold spec_MoveCode.f at H
  refine cG func11 Z ?_
  refine sQ (rG (bA HS Z fun b1 wd2 HS => bA HS Z fun b3 wd4 HS => aS Z (nL (sQ ?_))))
  obtain ⟨t5, t6, t7, t8, h9, H⟩ := bind4_elim H
  refine rG (lW 1 HS Z ag31 (lW 0 HS Z ag33 (fJ fok40 Z (spec_l12Check.calls HS (rD 2 r_a) h9) (fun _ wd17 ⟨A10, c11, A12, c13, y14, A15, c16, h18, HS⟩ => ⟨_, h18, (pS 3 Z (GO.alloc HS Z zr65 Z Z fun b19 wd20 HS => sW 0 HS Z ag65 Z fun wd21 HS => aS Z (nL (rN 2 Z ?_))))⟩))))
  obtain rfl := sI H
  exact rT _ func11 Z Z ⟨Z, (HS.pk 6 [] Z)⟩
theorem spec_l12Possible.calls {c1 : List (List GFace)} {y_a : Nat → (Ty.slice 107 T_GFace).Lay} {r1 : List GMove} (HS : St w0 w (L)) (r_a : RdIn w0 L (Ty.slice 107 T_GFace) A_a c_a y_a c1) (H : spec_l12Possible.f K c1 = some r1) :
    Calls prog 46 #[.agg [sV A_a c1 c_a].toArray] w (spec_l12Possible.post w0 L r1) := by
  unfold spec_l12Possible.f at H
  refine cG func46 Z ?_
  refine sQ (rG (bA HS Z fun b1 wd2 HS => aS Z (nL (sQ (rG (GO.buildS (el := 33) ([]) HS Z Z (fun _ => by kernel_rfl) Z fun b3 wd4 HS => ?_))))))
  replace HS := HS.boxRow (T := T_GMove) (j := 0) Z flat_flat uu ([] : List GMove) Z (bndL Z)
  refine GO.lenC (t := 12) (m := ([] : List GMove).length) (c' := ([] : List GMove).length) Z Z Z (aS Z (nL (sQ ?_)))
  obtain ⟨t5, t6, t7, t8, h9, H⟩ := bind4_elim H
  refine rG (lW 1 HS Z ag31 (fJ fok78 Z (spec_l08Count.calls HS (rD 2 r_a) h9) (fun _ wd21 ⟨A10, c11, y12, A13, c14, y15, A16, c17, y18, A19, c20, h22, HS⟩ => ⟨_, h22, (pS 3 Z (GO.alloc HS Z zr111 Z Z fun b23 wd24 HS => sW 0 HS Z ag111 Z fun wd25 HS => aS Z (nL (rN 5 Z ?_))))⟩)))
  refine G.name (fun h2 z1 => ?_)
  have g2 : ∀ p1, p1 ≤ K → ∀ (A458 : Option Addr) (c459 : Nat) (m1 : List GMove) (a1 : Int) (w : World), spec_l12Possible.l1 K p1 c1 t5 t6 t7 m1 a1 = some r1 → St w0 w (Box b1 31 [sV A_a c1 c_a] :: Own T_GMove 33 A458 c459 uu m1 :: Box b23 111 [sV A10 t5 c11, sV A13 t6 c14, sV A16 t7 c17] :: Own (Ty.slice 2 (TInt .i64)) 56 A10 c11 y12 t5 :: Own (Ty.slice 2 (TInt .i64)) 56 A13 c14 y15 t6 :: Own (Ty.slice 2 (TInt .i64)) 56 A16 c17 y18 t7 :: L) → G prog 46 61 [(1, pT b1), (3, sV A458 m1 c459), (4, pT b23), (6, I a1)] h2 w (spec_l12Possible.post w0 L r1) := by
   refine lp (fun _ _ _ _ w H _ => by rw [spec_l12Possible.l1] at H; cases H) fun q1 i2 c2 A458 c459 m1 a1 w H HS => ?_
   rw [spec_l12Possible.l1] at H
   subst z1
   refine rN 3 Z ?_
   rcases iS H with ⟨c895, H⟩ | ⟨c895, H⟩
   ·
    refine nB Z (tF c895) (rN 3 Z ?_)
    obtain rfl := sI H
    exact rT _ func46 Z Z ⟨_, _, Z, (HS.pk 6 [1] Z)⟩
   refine yB Z (tT c895) (rN 4 Z (rG (GO.buildS (el := 2) ([]) HS Z Z (fun _ => by kernel_rfl) Z fun b896 wd897 HS => ?_)))
   replace HS := HS.boxRow (T := (TInt .i64)) (j := 0) Z flat_flat uu ([] : List Int) Z (bndL Z)
   refine GO.lenC (t := 22) (m := ([] : List Int).length) (c' := ([] : List Int).length) Z Z Z (aS Z (nL (rN 4 Z ?_)))
   refine G.name (fun b2 x1 => ?_)
   have e2 : ∀ s1, s1 ≤ q1 → ∀ (A1039 : Option Addr) (c1040 : Nat) (g1 : List GMove) (A1042 : Option Addr) (c1043 : Nat) (i1 : List Int) (d1 : Int) (w : World), spec_l12Possible.l10 K s1 c1 t5 t6 t7 a1 g1 i1 d1 = some r1 → St w0 w (Box b1 31 [sV A_a c1 c_a] :: Own T_GMove 33 A1039 c1040 uu g1 :: Box b23 111 [sV A10 t5 c11, sV A13 t6 c14, sV A16 t7 c17] :: Own (Ty.slice 2 (TInt .i64)) 56 A10 c11 y12 t5 :: Own (Ty.slice 2 (TInt .i64)) 56 A13 c14 y15 t6 :: Own (Ty.slice 2 (TInt .i64)) 56 A16 c17 y18 t7 :: Own (TInt .i64) 2 A1042 c1043 uu i1 :: L) → G prog 46 61 [(1, pT b1), (3, sV A1039 g1 c1040), (4, pT b23), (6, I a1), (7, sV A1042 i1 c1043), (8, I d1)] b2 w (spec_l12Possible.post w0 L r1) := by
    refine lp (fun _ _ _ _ _ _ _ w H _ => by rw [spec_l12Possible.l10] at H; cases H) fun o1 a2 y1 A1039 c1040 g1 A1042 c1043 i1 d1 w H HS => ?_
    rw [spec_l12Possible.l10] at H
    subst x1
    refine rN 2 Z ?_
    obtain ⟨t1187, h1188, H⟩ := bI H
    refine rG (mV Z (lW 0 HS Z ag31 (fJ fok64 Z (spec_l07Tets.calls HS (rD 7 r_a) h1188) (fun _ wd1189 ⟨h1190, HS⟩ => ⟨_, h1190, (GO.lss Z Z Z Z (nL ?_))⟩))))
    rcases iS H with ⟨c1191, H⟩ | ⟨c1191, H⟩
    ·
     refine nB Z (tF c1191) (rN 4 Z (gW (c2 o1 (Nat.le_of_succ_le a2) _ _ _ _ _ H (HS.pk 7 [0, 1, 2, 3, 4, 5] Z)) Z))
    refine yB Z (tT c1191) (rN 7 Z ?_)
    refine G.name (fun f2 d2 => ?_)
    have v1 : ∀ t1, t1 ≤ o1 → ∀ (A1235 : Option Addr) (c1236 : Nat) (f1 : List GMove) (A1238 : Option Addr) (c1239 : Nat) (h1 : List Int) (e1 : Int) (w : World), spec_l12Possible.l13 K t1 c1 t5 t6 t7 a1 d1 f1 h1 e1 = some r1 → St w0 w (Box b1 31 [sV A_a c1 c_a] :: Own T_GMove 33 A1235 c1236 uu f1 :: Box b23 111 [sV A10 t5 c11, sV A13 t6 c14, sV A16 t7 c17] :: Own (Ty.slice 2 (TInt .i64)) 56 A10 c11 y12 t5 :: Own (Ty.slice 2 (TInt .i64)) 56 A13 c14 y15 t6 :: Own (Ty.slice 2 (TInt .i64)) 56 A16 c17 y18 t7 :: Own (TInt .i64) 2 A1238 c1239 uu h1 :: L) → G prog 46 61 [(1, pT b1), (3, sV A1235 f1 c1236), (4, pT b23), (6, I a1), (7, sV A1238 h1 c1239), (8, I d1), (9, I e1)] f2 w (spec_l12Possible.post w0 L r1) := by
     refine lp (fun _ _ _ _ _ _ _ w H _ => by rw [spec_l12Possible.l13] at H; cases H) fun k1 u1 n1 A1235 c1236 f1 A1238 c1239 h1 e1 w H HS => ?_
     rw [spec_l12Possible.l13] at H
     subst d2
     refine rN 2 Z ?_
     obtain ⟨t1285, h1286, H⟩ := bI H
     refine rG (pS 2 Z (fJ fok62 Z (spec_l12Most.calls HS  h1286) (fun _ wd1287 ⟨h1288, HS⟩ => ⟨_, h1288, (GO.leq Z Z Z Z (nL ?_))⟩)))
     rcases iS H with ⟨c1289, H⟩ | ⟨c1289, H⟩
     ·
      refine nB Z (tF c1289) (rN 4 Z (gW (y1 k1 (Nat.le_of_succ_le u1) _ _ _ _ _ _ _ _ H HS) Z))
     refine yB Z (tT c1289) (rN 4 Z (rG (pS 3 Z (GO.buildV (.agg [I a1, I d1, I e1].toArray) Z Z (fun _ => by kernel_rfl) Z (GO.alloc HS Z zr33 Z Z fun b1290 wd1291 HS => sW 0 HS Z ag33 Z fun wd1292 HS => nL (sQ ?_))))))
     obtain ⟨t1293, h1294, H⟩ := bI H
     refine rG (lW 3 HS Z ag111 (lW 0 HS Z ag33 (fJ fok79 Z (spec_l12Place.calls HS (ro 4 Z) (ro 5 Z) (ro 6 Z) h1294) (fun _ wd1295 ⟨h1296, HS⟩ => ⟨_, h1296, (aS Z (nL (sQ ?_)))⟩))))
     obtain ⟨t1306, h1307, H⟩ := bI H
     rcases iE H with ⟨c1310, H⟩ | ⟨c1310, H⟩
     ·
      refine rG (pS 2 Z (fJ fok80 Z (spec_l11Has.calls HS (ro 7 Z) h1307) (fun _ wd1308 ⟨h1309, HS⟩ => ⟨_, h1309, (pS 2 Z (kN 46 Z (congrArg Bool.not c1310) (oF Z (oF Z (oF Z (oF Z (GO.pickF Z Z Z Z Z (nL (rN 5 Z (gW (n1 k1 (lR _) _ _ _ _ _ _ _ _ H (HS.pk 8 [1, 2, 3, 4, 5, 6, 7] Z)) Z))))))))))⟩)))
     obtain ⟨t1311, h1312, H⟩ := bI H
     refine rG (pS 2 Z (fJ fok80 Z (spec_l11Has.calls HS (ro 7 Z) h1307) (fun _ wd1308 ⟨h1309, HS⟩ => ⟨_, h1309, (pS 2 Z (kN 46 Z (congrArg Bool.not (bnot_of c1310)) (oN Z (lW 1 HS Z ag31 (bK (oN Z (lW 0 HS Z ag33 (bK (oN Z (fJ fok11 Z (spec_MoveCode.calls HS (rD 8 r_a) h1312) (fun _ wd1313 ⟨h1314, HS⟩ => ⟨_, h1314, (bK (oN Z ?_))⟩)))))))))))⟩)))
     refine GO.eql Z Z Z Z (bK (GO.pickT Z Z Z Z Z (nL ?_)))
     rcases iS H with ⟨c1315, H⟩ | ⟨c1315, H⟩
     ·
      refine nB Z (tF c1315) (rN 4 Z (gW (n1 k1 (lR _) _ _ _ _ _ _ _ _ H (HS.pk 8 [1, 2, 3, 4, 5, 6, 7] Z)) Z))
     refine yB Z (tT c1315) (sQ ?_)
     obtain ⟨c1321, H⟩ := iN H
     refine rG (mV Z (lW 0 HS Z ag33 (GO.buildS (el := 33) ([I a1, I d1, I e1]) HS Z Z (fun _ => by kernel_rfl) Z fun b1316 wd1317 HS => GO.app1 (T := T_GMove) (j := 3) (jb := 0) (⟨a1, d1, e1⟩ : GMove) HS Z Z flat_flat Z Z Z U37 inf33 Z Z Z c1321 Z fun A1319 c1320 wd1318 HS => aS Z (nL ?_))))
     obtain ⟨c1327, H⟩ := iN H
     refine rG (pS 2 Z (GO.buildS (el := 2) ([I t1293]) HS Z Z (fun _ => by kernel_rfl) Z fun b1322 wd1323 HS => GO.app1 (T := (TInt .i64)) (j := 9) (jb := 0) t1293 HS Z Z flat_flat Z Z Z U56 inf2 Z Z Z c1327 Z fun A1325 c1326 wd1324 HS => aS Z (nL (rN 3 Z (gW (n1 k1 (lR _) _ _ _ _ _ _ _ _ H (HS.pk 10 [3, 4, 5, 6, 7, 8, 9] Z)) Z)))))
    exact gW (v1 o1 (lR _) _ _ _ _ _ _ _ _ H HS) Z
   exact gW (e2 q1 (lR _) _ _ _ _ _ _ _ _ H (HS.pk 7 [1, 2, 3, 4, 5, 6, 0] Z)) Z
  exact gW (g2 K (lR _) _ _ _ _ _ H (HS.pk 7 [6, 5, 0, 1, 2, 3] Z)) Z
theorem spec_PossibleMoves.calls {a1 : List (List GFace)} {y_a : Nat → (Ty.slice 107 T_GFace).Lay} {r1 : List GMove} (HS : St w0 w (L)) (r_a : RdIn w0 L (Ty.slice 107 T_GFace) A_a c_a y_a a1) (H : spec_PossibleMoves.f K a1 = some r1) :
    Calls prog 16 #[.agg [sV A_a a1 c_a].toArray] w (spec_PossibleMoves.post w0 L r1) := by
  unfold spec_PossibleMoves.f at H
  refine cG func16 Z ?_
  refine sQ (rG (bA HS Z fun b1 wd2 HS => aS Z (nL (rN 2 Z ?_))))
  obtain ⟨t3, h4, H⟩ := bI H
  refine rG (lW 0 HS Z ag31 (fJ fok45 Z (spec_IsTriangulation.calls HS (rD 1 r_a) h4) (fun _ wd5 ⟨h6, HS⟩ => ⟨_, h6, (GO.not Z Z Z (nL ?_))⟩)))
  rcases iS H with ⟨c7, H⟩ | ⟨c7, H⟩
  ·
   refine yB Z (congrArg Bool.not (bnot_of c7)) (rN 2 Z ?_)
   replace HS := HS.nilRow T_GMove 33 uu
   obtain rfl := sI H
   exact rT _ func16 Z Z ⟨_, _, Z, (HS.pk 2 [0] Z)⟩
  refine nB Z (congrArg Bool.not c7) (rN 2 Z ?_)
  obtain ⟨t8, h9, H⟩ := bI H
  refine rG (lW 0 HS Z ag31 (fJ fok46 Z (spec_l12Possible.calls HS (rD 1 r_a) h9) (fun _ wd12 ⟨A10, c11, h13, HS⟩ => ⟨_, h13, (aS Z (nL ?_))⟩)))
  obtain rfl := sI H
  exact rT _ func16 Z Z ⟨_, _, Z, (HS.pk 2 [0] Z)⟩
theorem impl_isTriangulation_fn1.calls {faces : List GFace} {r1 : Bool} (HS : St w0 w (L)) (r_a : RdIn w0 L T_GFace A_a c_a uu faces) (H : impl_isTriangulation_fn1.f faces = some r1) :
    Calls prog 68 #[sV A_a faces c_a] w (impl_isTriangulation_fn1.post w0 L r1) := by
  unfold impl_isTriangulation_fn1.f at H
  refine cG func68 Z ?_
  refine rN 3 Z (rG (mV Z (lS Z Z U77 Z (pS 2 Z (nL ?_)))))
  obtain rfl := sI H
  exact rT _ func68 Z Z ⟨Z, HS⟩
theorem slices_IndexFunc_impl_Face_impl_Face_isTriangulation_fn1.calls {s : List (List GFace)} {y_a : Nat → (Ty.slice 107 T_GFace).Lay} {r1 : Int} (HS : St w0 w (L)) (r_a : RdIn w0 L (Ty.slice 107 T_GFace) A_a c_a y_a s) (H : slices_IndexFunc_impl_Face_impl_Face_isTriangulation_fn1.f K s = some r1) :
    Calls prog 108 #[sV A_a s c_a, .func (.func 68) #[] #[]] w (slices_IndexFunc_impl_Face_impl_Face_isTriangulation_fn1.post w0 L r1) := by
  unfold slices_IndexFunc_impl_Face_impl_Face_isTriangulation_fn1.f at H
  refine cG func108 Z ?_
  refine rN 4 Z (rG (mV Z (lS Z Z U29 Z (mV Z (nL (rN 2 Z ?_))))))
  refine G.name (fun e1 d1 => ?_)
  have f1 : ∀ a1, a1 ≤ K → ∀ (x8 : Int) (w : World), slices_IndexFunc_impl_Face_impl_Face_isTriangulation_fn1.l1 K a1 s x8 = some r1 → St w0 w (L) → G prog 108 19 [(0, sV A_a s c_a), (1, .func (.func 68) #[] #[]), (7, I (s.length : Int)), (8, I x8)] e1 w (slices_IndexFunc_impl_Face_impl_Face_isTriangulation_fn1.post w0 L r1) := by
   refine lp (fun _ w H _ => by rw [slices_IndexFunc_impl_Face_impl_Face_isTriangulation_fn1.l1] at H; cases H) fun b1 g1 c1 x8 w H HS => ?_
   rw [slices_IndexFunc_impl_Face_impl_Face_isTriangulation_fn1.l1] at H
   subst d1
   refine rN 3 Z ?_
   rcases iS H with ⟨c16, H⟩ | ⟨c16, H⟩
   ·
    refine nB Z (tF c16) (rN 3 Z ?_)
    obtain rfl := sI H
    exact rT _ func108 Z Z ⟨Z, HS⟩
   refine yB Z (tT c16) (rN 6 Z ?_)
   obtain ⟨c17, H⟩ := iN H
   obtain ⟨t18, h19, H⟩ := bI H
   refine rG (pS 3 Z (iX Z U29 sz77 (rk r_a HS) c17 (GO.ldRd (T := (Ty.slice 107 T_GFace)) (n := x8.toNat) (o := 0) HS r_a Z Z (getD_some (d := []) (ltN c17)) Z Z na77 Z (GO.clo Z Z func68 fok68.2.1 fok68.2.2 Z Z (impl_isTriangulation_fn1.calls HS (RdIn.elem r_a c17.1 c17.2) h19) (fun _ wd20 ⟨h21, HS⟩ => ⟨_, h21, (nL ?_)⟩)))))
   rcases iE H with ⟨c22, H⟩ | ⟨c22, H⟩
   ·
    refine yB Z c22 (rN 2 Z ?_)
    obtain rfl := sI H
    exact rT _ func108 Z Z ⟨Z, HS⟩
   refine nB Z (bnot_of c22) (rN 4 Z (gW (c1 b1 (lR _) _ _ H HS) Z))
  exact gW (f1 K (lR _) _ _ H HS) Z
theorem slices_ContainsFunc_impl_Face_impl_Face_isTriangulation_fn1.calls {s : List (List GFace)} {y_a : Nat → (Ty.slice 107 T_GFace).Lay} {r1 : Bool} (HS : St w0 w (L)) (r_a : RdIn w0 L (Ty.slice 107 T_GFace) A_a c_a y_a s) (H : slices_ContainsFunc_impl_Face_impl_Face_isTriangulation_fn1.f K s = some r1) :
    Calls prog 67 #[sV A_a s c_a, .func (.func 68) #[] #[]] w (slices_ContainsFunc_impl_Face_impl_Face_isTriangulation_fn1.post w0 L r1) := by
  unfold slices_ContainsFunc_impl_Face_impl_Face_isTriangulation_fn1.f at H
  refine cG func67 Z ?_
  refine rN 3 Z ?_
  obtain ⟨t1, h2, H⟩ := bI H
  refine rG (pS 2 Z (fJ fok108 Z (slices_IndexFunc_impl_Face_impl_Face_isTriangulation_fn1.calls HS r_a h2) (fun _ wd3 ⟨h4, HS⟩ => ⟨_, h4, (pS 2 Z (nL ?_))⟩)))
  obtain rfl := sI H
  exact rT _ func67 Z Z ⟨Z, HS⟩
theorem impl_size_impl_Face.calls {list : List (List GFace)} {y_a : Nat → (Ty.slice 107 T_GFace).Lay} {r1 : Int} (HS : St w0 w (L)) (r_a : RdIn w0 L (Ty.slice 107 T_GFace) A_a c_a y_a list) (H : impl_size_impl_Face.f list = some r1) :
    Calls prog 49 #[sV A_a list c_a] w (impl_size_impl_Face.post w0 L r1) := by
  unfold impl_size_impl_Face.f at H
  refine cG func49 Z ?_
  refine rN 3 Z (rG (mV Z (lS Z Z U29 Z (aS Z (nL ?_)))))
  obtain rfl := sI H
  exact rT _ func49 Z Z ⟨Z, HS⟩
theorem impl_inRange.calls {x low high : Int} {r1 : Bool} (HS : St w0 w (L)) (H : impl_inRange.f x low high = some r1) :
    Calls prog 71 #[I x, I low, I high] w (impl_inRange.post w0 L r1) := by
  unfold impl_inRange.f at H
  refine cG func71 Z ?_
  refine rN 3 Z ?_
  rcases iS H with ⟨c1, H⟩ | ⟨c1, H⟩
  ·
   refine rG (pS 4 Z (kN 10 Z (tF c1) (oF Z (oF Z (oF Z (pS 2 Z (nL ?_)))))))
   obtain rfl := sI H
   exact rT _ func71 Z Z ⟨Z, HS⟩
  refine rG (pS 4 Z (kN 10 Z (tT c1) (oN Z (mV Z (bK (oN Z (mV Z (bK (oN Z (GO.leq Z Z Z Z (bK (pS 2 Z (nL ?_)))))))))))))
  obtain rfl := sI H
  exact rT _ func71 Z Z ⟨Z, HS⟩
theorem impl_hasIndex_impl_Face.calls {list : List (List GFace)} {i : Int} {y_a : Nat → (Ty.slice 107 T_GFace).Lay} {r1 : Bool} (HS : St w0 w (L)) (r_a : RdIn w0 L (Ty.slice 107 T_GFace) A_a c_a y_a list) (H : impl_hasIndex_impl_Face.f list i = some r1) :
    Calls prog 70 #[sV A_a list c_a, I i] w (impl_hasIndex_impl_Face.post w0 L r1) := by
  unfold impl_hasIndex_impl_Face.f at H
  refine cG func70 Z ?_
  refine rN 3 Z ?_
  obtain ⟨t1, h2, H⟩ := bI H
  obtain ⟨t5, h6, H⟩ := bI H
  refine rG (pS 2 Z (fJ fok49 Z (impl_size_impl_Face.calls HS r_a h2) (fun _ wd3 ⟨h4, HS⟩ => ⟨_, h4, (GO.sub Z Z Z Z (fJ fok71 Z (impl_inRange.calls HS  h6) (fun _ wd7 ⟨h8, HS⟩ => ⟨_, h8, (aS Z (nL ?_))⟩)))⟩)))
  obtain rfl := sI H
  exact rT _ func70 Z Z ⟨Z, HS⟩
theorem impl_isPerm.calls {p : Int} {r1 : Bool} (HS : St w0 w (L)) (H : impl_isPerm.f p = some r1) :
    Calls prog 109 #[I p] w (impl_isPerm.post w0 L r1) := by
  unfold impl_isPerm.f at H
  refine cG func109 Z ?_
  refine rN 3 Z ?_
  obtain ⟨t1, h2, H⟩ := bI H
  refine rG (mV Z (fJ fok71 Z (impl_inRange.calls HS  h2) (fun _ wd3 ⟨h4, HS⟩ => ⟨_, h4, (aS Z (nL ?_))⟩)))
  obtain rfl := sI H
  exact rT _ func109 Z Z ⟨Z, HS⟩
theorem slices_Delete_int64_int64.calls {s : List Int} {i j_ : Int} {r1 : List Int} (HS : St w0 w (Own (TInt .i64) 2 A_a c_a uu s :: L)) (H : slices_Delete_int64_int64.f s i j_ = some r1) :
    Calls prog 129 #[sV A_a s c_a, I i, I j_] w (slices_Delete_int64_int64.post w0 L r1) := by
  unfold slices_Delete_int64_int64.f at H
  refine cG func129 Z ?_
  refine rN 3 Z ?_
  obtain ⟨c1, H⟩ := iN H
  obtain ⟨c2, H⟩ := iN H
  refine rG (pS 4 Z (lS Z Z U56 Z (GO.slM Z Z Z Z Z U56 sz2 c1 c2 (Int.ofNat_le.2 ((ro 0 Z) _ HS).1) Z (nL (rN 3 Z ?_)))))
  rcases iE H with ⟨c3, H⟩ | ⟨c3, H⟩
  ·
   refine yB Z (tT c3) (rN 2 Z ?_)
   obtain rfl := sI H
   exact rT _ func129 Z Z ⟨_, _, Z, HS⟩
  refine nB Z (tF c3) (rN 2 Z (rG (mV Z (lS Z Z U56 Z (aS Z (nL (sQ ?_)))))))
  obtain ⟨c4, H⟩ := iN H
  obtain ⟨c5, H⟩ := iN H
  obtain ⟨c7, H⟩ := iN H
  have h8 := over_lenD c7 (leN c5)
  refine G.lex mixed [0, 1, 3, 4, 2, 5, 6, 7] (by kernel_rfl) ?_
  replace HS := HS.drew
  refine GX.ps 4 Z (GX.l1 Z Z Z (fun _ g => GO.slH (T := (TInt .i64)) HS (ro 0 Z) Z Z Z U56 sz2 c4.1 c4.2 Z g) Z (GX.l1 Z Z Z (fun _ g => GO.slL (T := (TInt .i64)) HS (ro 0 Z) Z Z Z U56 sz2 c5.1 c5.2 Z g) Z (GX.l2 Z (GO.appCut (T := (TInt .i64)) (j := 0) (i1 := i.toNat) (l1 := j_.toNat) HS Z flat_flat (fun _ _ => Z) Z Z Z (by rw [List.drop_zero, List.length_take]; exact Nat.min_eq_left (leN c4)) (by rw [List.length_drop, List.take_length]) U56 inf2 c7 (leN c5) Z fun wd6 HS => GX.fin tv (GX.ps 1 Z (GX.nil (sQ ?_)))))))
  obtain ⟨c9, H⟩ := iN H
  obtain ⟨c10, H⟩ := iN H
  have h12 := over_lenR (xs := (over s i.toNat (s.drop j_.toNat))) (z := 0) (cutN (leNN c9) (leN c10))
  refine rG (pS 2 Z (lS Z Z U56 Z (mV Z (GO.slCut (T := (TInt .i64)) (xs := (over s i.toNat (s.drop j_.toNat))) ((ro 0 Z) _ HS).1 Z Z Z Z U56 sz2 c9 c10 Z (GO.clearC (T := (TInt .i64)) (j := 0) (l := ((((over s i.toNat (s.drop j_.toNat)).take (i.toNat + (s.length - j_.toNat))).drop 0).length : Int).toNat) 0 () HS Z flat_flat Z Z U56 zr2 Z Z (cutC (leN c10) ((ro 0 Z) _ HS).1) (cutN (leNN c9) (leN c10)) (fun _ => Z) fun wd11 HS => nL ?_)))))
  obtain ⟨c13, H⟩ := iN H
  refine G.len (t := 0) (m := (((over (over s i.toNat (s.drop j_.toNat)) (((((over s i.toNat (s.drop j_.toNat)).take (i.toNat + (s.length - j_.toNat))).drop 0).length : Int).toNat) (List.replicate (((over s i.toNat (s.drop j_.toNat)).take ((s.length : Int).toNat)).drop (((((over s i.toNat (s.drop j_.toNat)).take (i.toNat + (s.length - j_.toNat))).drop 0).length : Int).toNat)).length 0)).take (i.toNat + (s.length - j_.toNat))).drop 0).length) Z (lenCut h12) (rN 2 Z ?_)
  replace HS := HS.cutOwn (A' := (cutA A_a 0 c_a 1)) (c' := (c_a - 0)) (j := 0) (l := 0) (h := (i.toNat + (s.length - j_.toNat))) (m := c_a) Z (Nat.zero_le _) c13 (Nat.le_trans c13 ((ro 0 Z) _ HS).1) (lR _) Z Z
  obtain rfl := sI H
  exact rT _ func129 Z Z ⟨_, _, Z, HS⟩
theorem impl_perm.calls {p r1 : Int} {r2 r3 r4 : Int} (HS : St w0 w (L)) (H : impl_perm.f K p = some (r1, r2, r3, r4)) :
    Calls prog 93 #[I p] w (impl_perm.post w0 L r1 r2 r3 r4) := by
  unfold impl_perm.f at H
  refine cG func93 Z ?_
  refine sQ (rG (GO.alloc HS Z zr131 Z Z fun b1 wd2 HS => nL (sQ (rG (GO.alloc HS Z zr131 Z Z fun b3 wd4 HS => nL (sQ (rG (GO.buildS (el := 2) ([I 0, I 1, I 2, I 3]) HS Z Z (fun _ => by kernel_rfl) Z fun b5 wd6 HS => ?_))))))))
  replace HS := HS.boxRow (T := (TInt .i64)) (j := 0) Z flat_flat uu ([0, 1, 2, 3] : List Int) Z (bndL Z)
  refine GO.lenC (t := 8) (m := ([0, 1, 2, 3] : List Int).length) (c' := ([0, 1, 2, 3] : List Int).length) Z Z Z (aS Z (nL (rN 2 Z (rG (GO.buildS (el := 2) ([I 6, I 2, I 1, I 1]) HS Z Z (fun _ => by kernel_rfl) Z fun b7 wd8 HS => lS Z Z U56 Z (mV Z (nL (rN 2 Z ?_))))))))
  replace HS := HS.boxRow (T := (TInt .i64)) (j := 0) Z flat_flat uu ([6, 2, 1, 1] : List Int) Z (bndL Z)
  refine G.lenC (t := 9) (m := ([6, 2, 1, 1] : List Int).length) (c' := ([6, 2, 1, 1] : List Int).length) Z Z Z ?_
  refine G.name (fun n1 m1 => ?_)
  have o1 : ∀ h1, h1 ≤ K → ∀ (a1 f1 : Int) (A21 : Option Addr) (c22 : Nat) (c1 : List Int) (x24 d1 : Int) (e1 g1 : Int) (w : World), impl_perm.l1 K h1 a1 f1 c1 x24 d1 e1 g1 = some (r1, r2, r3, r4) → St w0 w (Box b1 131 [I 0, I 0, I 0, I 0] :: Box b3 131 [I f1, I d1, I e1, I g1] :: Own (TInt .i64) 2 A21 c22 uu c1 :: Own (TInt .i64) 2 (sb b7) (([6, 2, 1, 1] : List Int).length) uu ([6, 2, 1, 1] : List Int) :: L) → G prog 93 35 [(0, I a1), (2, pT b1), (3, pT b3), (4, sV A21 c1 c22), (9, sV (sb b7) ([6, 2, 1, 1] : List Int) (([6, 2, 1, 1] : List Int).length)), (10, I 4), (11, I x24)] n1 w (impl_perm.post w0 L r1 r2 r3 r4) := by
   refine lp (fun _ _ _ _ _ _ _ _ _ w H _ => by rw [impl_perm.l1] at H; cases H) fun i1 p1 k1 a1 f1 A21 c22 c1 x24 d1 e1 g1 w H HS => ?_
   rw [impl_perm.l1] at H
   subst m1
   refine rN 3 Z ?_
   rcases iS H with ⟨c54, H⟩ | ⟨c54, H⟩
   ·
    refine nB Z (tF c54) (rN 2 Z (rG (lW 1 HS Z ag131 (sW 0 HS Z ag131 Z fun wd66 HS => nL ?_))))
    obtain ⟨rfl, rfl, rfl, rfl⟩ := some4 H
    exact rT _ func93 Z (Res1.boxA (j := 0) (vs := [I f1, I d1, I e1, I g1]) HS Z Z Z ag131) ⟨Z, (HS.pk 4 [] Z)⟩
   refine yB Z (tT c54) (rN 4 Z ?_)
   obtain ⟨c55, H⟩ := iN H
   refine rG (mV Z (iX Z U56 sz2 (fun _ => ⟨_, _, Z⟩) c55 (GO.ldRd (T := (TInt .i64)) (n := x24.toNat) (o := 0) HS (ro 3 Z) Z Z (getD_some (d := 0) (ltN c55)) Z Z na2 Z (pS 2 Z (nL (sQ ?_))))))
   obtain ⟨c56, H⟩ := ite_some H
   refine rG (pS 2 Z (GO.quo Z Z Z c56 Z (aS Z (nL (sQ (rG (pS 2 Z (GO.rem Z Z Z c56 Z (aS Z (nL (sQ ?_)))))))))))
   obtain ⟨c57, H⟩ := iN H
   obtain ⟨c58, H⟩ := iN H
   refine rG (pS 3 Z (iX Z U56 sz2 (rk (ro 2 Z) HS) c57 (GO.ldRd (T := (TInt .i64)) (n := (w64 (a1.tdiv (([6, 2, 1, 1] : List Int).getD x24.toNat 0))).toNat) (o := 0) HS (ro 2 Z) Z Z (getD_some (d := 0) (ltN c57)) Z Z na2 Z (GO.ixW Z Z Z U131 sz2 c58 Z (GO.stW (j := 1) (o := 0) (sz := 1) (vs := [I (c1.getD ((w64 (a1.tdiv (([6, 2, 1, 1] : List Int).getD x24.toNat 0))).toNat) 0)]) (fun u_ => [I (se 0 u_ (c1.getD ((w64 (a1.tdiv (([6, 2, 1, 1] : List Int).getD x24.toNat 0))).toNat) 0) f1), I (se 1 u_ (c1.getD ((w64 (a1.tdiv (([6, 2, 1, 1] : List Int).getD x24.toNat 0))).toNat) 0) d1), I (se 2 u_ (c1.getD ((w64 (a1.tdiv (([6, 2, 1, 1] : List Int).getD x24.toNat 0))).toNat) 0) e1), I (se 3 u_ (c1.getD ((w64 (a1.tdiv (([6, 2, 1, 1] : List Int).getD x24.toNat 0))).toNat) 0) g1)]) HS Z Z Z Z Z c58 (htN na2 Z) Z Z (four Z Z Z Z) fun wd59 HS => nL ?_)))))
   obtain ⟨t60, h61, H⟩ := bI H
   refine rG (pS 4 Z ?_)
   replace HS := HS.pk 4 [2, 0, 1, 3] Z
   refine fJ fok129 Z (slices_Delete_int64_int64.calls HS  h61) (fun _ wd64 ⟨A62, c63, h65, HS⟩ => ⟨_, h65, (aS Z (nL (rN 3 Z (gW (k1 i1 (lR _) _ _ _ _ _ _ _ _ _ _ H (HS.pk 4 [1, 2, 0, 3] Z)) Z))))⟩)
  exact gW (o1 K (lR _) _ _ _ _ _ _ _ _ _ _ H (HS.pk 4 [3, 2, 1, 0] Z)) Z
theorem impl_Face_target.calls {c1 a1 : Int} {face r1 : Int} (HS : St w0 w (L)) (H : impl_Face_target.f K c1 a1 face = some r1) :
    Calls prog 92 #[.agg [I c1, I a1].toArray, I face] w (impl_Face_target.post w0 L r1) := by
  unfold impl_Face_target.f at H
  refine cG func92 Z ?_
  refine sQ (rG (bA HS Z fun b1 wd2 HS => aS Z (nL (sQ ?_))))
  obtain ⟨t3, t4, t5, t6, h7, H⟩ := bind4_elim H
  obtain ⟨c10, H⟩ := iN H
  refine rG (fL b1 1 fl107_1 Z (lB 0 HS Z na2 Z (fJ fok93 Z (impl_perm.calls HS  h7) (fun _ wd8 ⟨h9, HS⟩ => ⟨_, h9, (mV Z (GO.ixArr ([t3, t4, t5, t6] : List Int) Z Z Z U131 U2 sz2 Z c10.1 c10.2 Z (aS Z (nL ?_))))⟩))))
  obtain rfl := sI H
  exact rT _ func92 Z Z ⟨Z, (HS.pk 1 [] Z)⟩
theorem impl_indexOf.calls {c1 a1 : Int} {e1 d1 r1 : Int} (HS : St w0 w (L)) (H : impl_indexOf.f K c1 a1 e1 d1 = some r1) :
    Calls prog 130 #[.agg [I c1, I a1, I e1, I d1].toArray] w (impl_indexOf.post w0 L r1) := by
  unfold impl_indexOf.f at H
  refine cG func130 Z ?_
  refine sQ (rG (bA HS Z fun b1 wd2 HS => aS Z (nL (rN 4 Z (rG (GO.buildS (el := 2) ([I 6, I 2, I 1, I 1]) HS Z Z (fun _ => by kernel_rfl) Z fun b3 wd4 HS => lS Z Z U56 Z (mV Z (nL (rN 2 Z ?_)))))))))
  replace HS := HS.boxRow (T := (TInt .i64)) (j := 0) Z flat_flat uu ([6, 2, 1, 1] : List Int) Z (bndL Z)
  refine G.lenC (t := 9) (m := ([6, 2, 1, 1] : List Int).length) (c' := ([6, 2, 1, 1] : List Int).length) Z Z Z ?_
  refine G.name (fun v1 o1 => ?_)
  have u1 : ∀ k1, k1 ≤ K → ∀ (f1 x19 : Int) (w : World), impl_indexOf.l1 K k1 c1 a1 e1 d1 f1 x19 = some r1 → St w0 w (Box b1 131 [I c1, I a1, I e1, I d1] :: Own (TInt .i64) 2 (sb b3) (([6, 2, 1, 1] : List Int).length) uu ([6, 2, 1, 1] : List Int) :: L) → G prog 130 41 [(1, pT b1), (3, I f1), (9, sV (sb b3) ([6, 2, 1, 1] : List Int) (([6, 2, 1, 1] : List Int).length)), (10, I 4), (11, I x19)] v1 w (impl_indexOf.post w0 L r1) := by
   refine lp (fun _ _ w H _ => by rw [impl_indexOf.l1] at H; cases H) fun m1 y1 s1 f1 x19 w H HS => ?_
   rw [impl_indexOf.l1] at H
   subst o1
   refine rN 3 Z ?_
   rcases iS H with ⟨c35, H⟩ | ⟨c35, H⟩
   ·
    refine nB Z (tF c35) (rN 3 Z ?_)
    obtain rfl := sI H
    exact rT _ func130 Z Z ⟨Z, (HS.pk 2 [] Z)⟩
   refine yB Z (tT c35) (rN 4 Z ?_)
   obtain ⟨c36, H⟩ := iN H
   refine rG (mV Z (iX Z U56 sz2 (fun _ => ⟨_, _, Z⟩) c36 (GO.ldRd (T := (TInt .i64)) (n := x19.toNat) (o := 0) HS (ro 1 Z) Z Z (getD_some (d := 0) (ltN c36)) Z Z na2 Z (pS 2 Z (nL (sQ ?_))))))
   obtain ⟨c37, H⟩ := iN H
   refine rG (mV Z (GO.ixW Z Z Z U131 sz2 c37 Z (GO.ldW (j := 0) ([c1, a1, e1, d1] : List Int) HS Z Z Z c37 Z Z na2 Z (aS Z (nL (rN 2 Z ?_))))))
   obtain ⟨c38, H⟩ := iN H
   refine rG (mV Z (GO.slArrH (m := (([c1, a1, e1, d1] : List Int).take x19.toNat).length) Z Z Z U131 sz2 c38 (lenTake (leN c38)) Z (lS Z Z U56 Z (mV Z (nL (rN 2 Z ?_))))))
   refine G.name (fun p1 t1 => ?_)
   have q1 : ∀ n1, n1 ≤ m1 → ∀ (h1 x43 : Int) (w : World), impl_indexOf.l4 K n1 c1 a1 e1 d1 f1 x19 h1 x43 = some r1 → St w0 w (Box b1 131 [I c1, I a1, I e1, I d1] :: Own (TInt .i64) 2 (sb b3) (([6, 2, 1, 1] : List Int).length) uu ([6, 2, 1, 1] : List Int) :: L) → G prog 130 41 [(1, pT b1), (3, I f1), (4, I x19), (5, I (([6, 2, 1, 1] : List Int).getD x19.toNat 0)), (6, I h1), (9, sV (sb b3) ([6, 2, 1, 1] : List Int) (([6, 2, 1, 1] : List Int).length)), (10, I 4), (11, I x19), (20, sV (sb b1) (([c1, a1, e1, d1] : List Int).take x19.toNat) 4), (21, I ((([c1, a1, e1, d1] : List Int).take x19.toNat).length : Int)), (22, I x43)] p1 w (impl_indexOf.post w0 L r1) := by
    refine lp (fun _ _ w H _ => by rw [impl_indexOf.l4] at H; cases H) fun g1 x1 i1 h1 x43 w H HS => ?_
    rw [impl_indexOf.l4] at H
    subst t1
    refine rN 3 Z ?_
    rcases iS H with ⟨c47, H⟩ | ⟨c47, H⟩
    ·
     refine nB Z (tF c47) (rN 5 Z (gW (s1 g1 (Nat.le_of_succ_le x1) _ _ _ H HS) Z))
    refine yB Z (tT c47) (rN 4 Z ?_)
    obtain ⟨c48, H⟩ := iN H
    refine rG (iX Z U56 sz2 (fun _ => ⟨_, _, Z⟩) c48 (GO.ldRd (T := (TInt .i64)) (n := x43.toNat) (o := 0) HS (RdIn.take (RdIn.box (j := 0) uu ([c1, a1, e1, d1] : List Int) Z Z Z Z (fun _ _ _ _ _ => tv)) (leN c38)) Z Z (getD_some (d := 0) (ltN c48)) Z Z na2 Z (aS Z (nL (sQ (rG (pS 2 Z (GO.ixW Z Z Z U131 sz2 c37 Z (GO.ldW (j := 0) ([c1, a1, e1, d1] : List Int) HS Z Z Z c37 Z Z na2 Z (GO.lss Z Z Z Z (nL ?_)))))))))))
    rcases iS H with ⟨c49, H⟩ | ⟨c49, H⟩
    ·
     refine nB Z (tF c49) (rN 4 Z (gW (i1 g1 (lR _) _ _ _ H HS) Z))
    refine yB Z (tT c49) (rN 4 Z (gW (i1 g1 (lR _) _ _ _ H HS) Z))
   exact gW (q1 m1 (lR _) _ _ _ H HS) Z
  exact gW (u1 K (lR _) _ _ _ H (HS.pk 2 [1, 0] Z)) Z
theorem impl_invert.calls {p r1 : Int} (HS : St w0 w (L)) (H : impl_invert.f K p = some r1) :
    Calls prog 95 #[I p] w (impl_invert.post w0 L r1) := by
  unfold impl_invert.f at H
  refine cG func95 Z ?_
  refine rN 3 Z (rG (GO.alloc HS Z zr131 Z Z fun b1 wd2 HS => nL (rN 2 Z ?_)))
  obtain ⟨t3, t4, t5, t6, h7, H⟩ := bind4_elim H
  refine rG (mV Z (fJ fok93 Z (impl_perm.calls HS  h7) (fun _ wd8 ⟨h9, HS⟩ => ⟨_, h9, (mV Z (nL (rN 2 Z ?_)))⟩)))
  refine G.name (fun k1 i1 => ?_)
  have m1 : ∀ f1, f1 ≤ K → ∀ (c1 d1 : Int) (e1 a1 x16 : Int) (w : World), impl_invert.l1 K f1 t3 t4 t5 t6 c1 d1 e1 a1 x16 = some r1 → St w0 w (Box b1 131 [I c1, I d1, I e1, I a1] :: L) → G prog 95 18 [(3, pT b1), (7, .agg [I t3, I t4, I t5, I t6].toArray), (8, I x16)] k1 w (impl_invert.post w0 L r1) := by
   refine lp (fun _ _ _ _ _ w H _ => by rw [impl_invert.l1] at H; cases H) fun g1 n1 h1 c1 d1 e1 a1 x16 w H HS => ?_
   rw [impl_invert.l1] at H
   subst i1
   refine rN 3 Z ?_
   rcases iS H with ⟨c25, H⟩ | ⟨c25, H⟩
   ·
    refine nB Z (tF c25) (rN 2 Z ?_)
    obtain ⟨t29, h30, H⟩ := bI H
    refine rG (lW 0 HS Z ag131 (fJ fok130 Z (impl_indexOf.calls HS  h30) (fun _ wd31 ⟨h32, HS⟩ => ⟨_, h32, (aS Z (nL ?_))⟩)))
    obtain rfl := sI H
    exact rT _ func95 Z Z ⟨Z, (HS.pk 1 [] Z)⟩
   refine yB Z (tT c25) (rN 4 Z ?_)
   obtain ⟨c26, H⟩ := iN H
   refine rG (mV Z (GO.ixArr ([t3, t4, t5, t6] : List Int) Z Z Z U131 U2 sz2 Z c26.1 c26.2 Z (pS 2 Z (nL ?_))))
   obtain ⟨c27, H⟩ := iN H
   refine rG (pS 2 Z (GO.ixW Z Z Z U131 sz2 c27 Z (GO.stW (j := 0) (o := 0) (sz := 1) (vs := [I x16]) (fun u_ => [I (se 0 u_ x16 c1), I (se 1 u_ x16 d1), I (se 2 u_ x16 e1), I (se 3 u_ x16 a1)]) HS Z Z Z Z Z c27 (htN na2 Z) Z Z (four Z Z Z Z) fun wd28 HS => nL (rN 3 Z (gW (h1 g1 (lR _) _ _ _ _ _ _ H HS) Z)))))
  exact gW (m1 K (lR _) _ _ _ _ _ _ H HS) Z
theorem impl_Face_partner.calls {c1 a1 : Int} {tet r1 r2 : Int} (HS : St w0 w (L)) (H : impl_Face_partner.f K c1 a1 tet = some (r1, r2)) :
    Calls prog 110 #[.agg [I c1, I a1].toArray, I tet] w (impl_Face_partner.post w0 L r1 r2) := by
  unfold impl_Face_partner.f at H
  refine cG func110 Z ?_
  refine sQ (rG (bA HS Z fun b1 wd2 HS => GO.alloc HS Z zr107 Z Z fun b3 wd4 HS => nL (sQ ?_)))
  obtain ⟨t5, h6, H⟩ := bI H
  refine rG (mV Z (fL b1 1 fl107_1 Z (lB 1 HS Z na2 Z (fJ fok95 Z (impl_invert.calls HS  h6) (fun _ wd7 ⟨h8, HS⟩ => ⟨_, h8, (GO.buildV (.agg [I tet, I t5].toArray) Z Z (fun _ => by kernel_rfl) Z (sW 0 HS Z ag107 Z fun wd9 HS => nL ?_))⟩)))))
  obtain ⟨rfl, rfl⟩ := some2 H
  exact rT _ func110 Z (Res1.boxA (j := 0) (vs := [I tet, I t5]) HS Z Z Z ag107) ⟨Z, (HS.pk 2 [] Z)⟩
theorem impl_Triangulation_isGood.calls {a1 : List (List GFace)} {tet f : Int} {y_a : Nat → (Ty.slice 107 T_GFace).Lay} {r1 : Bool} (HS : St w0 w (L)) (r_a : RdIn w0 L (Ty.slice 107 T_GFace) A_a c_a y_a a1) (H : impl_Triangulation_isGood.f K a1 tet f = some r1) :
    Calls prog 69 #[.agg [sV A_a a1 c_a].toArray, I tet, I f] w (impl_Triangulation_isGood.post w0 L r1) := by
  unfold impl_Triangulation_isGood.f at H
  refine cG func69 Z ?_
  refine sQ (rG (bA HS Z fun b1 wd2 HS => aS Z (nL (sQ ?_))))
  obtain ⟨c3, H⟩ := iN H
  obtain ⟨c4, H⟩ := iN H
  obtain ⟨e5, h6, H⟩ := bnd_elim H
  refine rG (fL b1 0 fl31_0 Z (lB 0 HS Z na29 Z (mV Z (iX Z U29 sz77 (rk (rD 1 r_a) HS) c3 (GO.ldRd (T := (Ty.slice 107 T_GFace)) (n := tet.toNat) (o := 0) HS (rD 1 r_a) Z Z (getD_some (d := []) (ltN c3)) Z Z na77 Z (mV Z (GO.ix Z Z Z U77 sz107 ((RdIn.elem (rD 1 r_a) c3.1 c3.2) _ HS).2.2.1 c4.1 c4.2 Z (GO.ldRdA (T := T_GFace) (n := f.toNat) HS (RdIn.elem (rD 1 r_a) c3.1 c3.2) Z Z (getD_eq (ltN c4) h6) ag107 Z (GO.alloc HS Z zr107 Z Z fun b7 wd8 HS => sW 0 HS Z ag107 Z fun wd9 HS => nL (rN 2 Z (rG (fL b7 0 fl107_0 Z ?_))))))))))))
  refine lB 0 HS Z na2 Z (GO.eql Z Z Z Z (nL ?_))
  rcases iE H with ⟨c10, H⟩ | ⟨c10, H⟩
  ·
   refine yB Z (tT c10) (sQ (rG (fL b7 1 fl107_1 Z (lB 0 HS Z na2 Z (pS 2 Z (nL ?_))))))
   obtain rfl := sI H
   exact rT _ func69 Z Z ⟨Z, (HS.pk 2 [] Z)⟩
  refine nB Z (tF c10) (rN 3 Z ?_)
  obtain ⟨t20, h21, H⟩ := bI H
  rcases iS H with ⟨c24, H⟩ | ⟨c24, H⟩
  ·
   refine rG (fL b1 0 fl31_0 Z (lB 1 HS Z na29 Z (fL b7 0 fl107_0 Z (lB 0 HS Z na2 Z (fJ fok70 Z (impl_hasIndex_impl_Face.calls HS (rD 2 r_a) h21) (fun _ wd22 ⟨h23, HS⟩ => ⟨_, h23, (pS 2 Z (kN 29 Z (congrArg Bool.not (bnot_of c24)) (oF Z (oF Z (oF Z (oF Z (GO.pickT Z Z Z Z Z (nL (rN 3 Z ?_)))))))))⟩))))))
   obtain rfl := sI H
   exact rT _ func69 Z Z ⟨Z, (HS.pk 2 [] Z)⟩
  obtain ⟨t25, h26, H⟩ := bI H
  refine rG (fL b1 0 fl31_0 Z (lB 1 HS Z na29 Z (fL b7 0 fl107_0 Z (lB 0 HS Z na2 Z (fJ fok70 Z (impl_hasIndex_impl_Face.calls HS (rD 2 r_a) h21) (fun _ wd22 ⟨h23, HS⟩ => ⟨_, h23, (pS 2 Z (kN 29 Z (congrArg Bool.not c24) (oN Z (fL b7 1 fl107_1 Z (bK (oN Z (lB 0 HS Z na2 Z (bK (oN Z ?_)))))))))⟩))))))
  refine fJ fok109 Z (impl_isPerm.calls HS  h26) (fun _ wd27 ⟨h28, HS⟩ => ⟨_, h28, (bK (oN Z (GO.not Z Z Z (bK (GO.pickF Z Z Z Z Z (nL ?_))))))⟩)
  rcases iS H with ⟨c29, H⟩ | ⟨c29, H⟩
  ·
   refine yB Z (congrArg Bool.not (bnot_of c29)) (rN 2 Z ?_)
   obtain rfl := sI H
   exact rT _ func69 Z Z ⟨Z, (HS.pk 2 [] Z)⟩
  refine nB Z (congrArg Bool.not c29) (rN 2 Z ?_)
  obtain ⟨t30, h31, H⟩ := bI H
  refine rG (lW 0 HS Z ag107 (mV Z (fJ fok92 Z (impl_Face_target.calls HS  h31) (fun _ wd32 ⟨h33, HS⟩ => ⟨_, h33, (aS Z (nL (sQ ?_)))⟩))))
  obtain ⟨c34, H⟩ := iN H
  obtain ⟨c35, H⟩ := iN H
  obtain ⟨e36, h37, H⟩ := bnd_elim H
  obtain ⟨t38, t39, h40, H⟩ := bind2_elim H
  rcases iS H with ⟨c43, H⟩ | ⟨c43, H⟩
  ·
   refine G.lexS mixed (fun w => St w0 w (Box b7 107 [I e5.Tet, I e5.Perm] :: Box b1 31 [sV A_a a1 c_a] :: L)) [1, 3, 5, 8, 9, 15] [0, 2, 6, 10, 1, 3, 4, 5, 7, 8, 9, 11, 12, 13, 14, 16, 15, 17, 18, 19, 20, 21, 22, 23, 24] [] (by kernel_rfl) (by kernel_rfl) HS.drew ?_
   replace HS := HS.drew
   refine qL Z Z (fun _ _ g => fL b1 0 fl31_0 Z g) Z (qL Z Z (fun _ _ g => fL b7 0 fl107_0 Z g) Z (GX.ps 2 Z (GX.ls Z Z Z HS (fun _ HS _ g => lB 1 HS Z na29 Z g) Z (GX.ls Z Z Z HS (fun _ HS _ g => lB 0 HS Z na2 Z g) Z (qL Z Z (fun _ _ g => iX Z U29 sz77 (rk (rD 2 r_a) HS) c34 g) Z (GX.ls Z Z Z HS (fun _ HS _ g => GO.ldRd (T := (Ty.slice 107 T_GFace)) (n := e5.Tet.toNat) (o := 0) HS (rD 2 r_a) Z Z (getD_some (d := []) (ltN c34)) Z Z na77 Z g) Z (qL Z Z (fun _ _ g => GO.ix Z Z Z U77 sz107 ((RdIn.elem (rD 2 r_a) c34.1 c34.2) _ HS).2.2.1 c35.1 c35.2 Z g) Z (GX.ls Z Z Z HS (fun _ HS _ g => GO.ldRdA (T := T_GFace) (n := t30.toNat) HS (RdIn.elem (rD 2 r_a) c34.1 c34.2) Z Z (getD_eq (ltN c35) h37) ag107 Z g) Z (GX.ls Z Z Z HS (fun _ HS _ g => lW 0 HS Z ag107 g) Z (GX.l2 Z (fJ fok110 Z (impl_Face_partner.calls HS  h40) (fun _ wd41 ⟨h42, HS⟩ => ⟨_, h42, (GX.fin HS (qL Z Z (fun _ _ g => GO.eqlA Z Z Z ng107 (fun _ => eq107) Z g) Z (qL Z Z (fun _ _ g => mV Z (kN 51 Z (tF c43) g)) Z ?_)))⟩))))))))))))
   refine qL Z Z (fun _ _ g => oF Z g) Z (qL Z Z (fun _ _ g => oF Z g) Z (GX.ls Z Z Z HS (fun _ HS _ g => oF Z g) Z (qL Z Z (fun _ _ g => oF Z g) Z (qL Z Z (fun _ _ g => oF Z g) Z (qL Z Z (fun _ _ g => GO.offU Z Z Z Z Z Z g) Z (qL Z Z (fun _ _ g => GO.offU Z Z Z Z Z Z g) Z (qL Z Z (fun _ _ g => GO.offU Z Z Z Z Z Z g) Z (qL Z Z (fun _ _ g => oF Z g) Z (GX.ps 2 Z (GX.nil ?_))))))))))
   obtain rfl := sI H
   exact rT _ func69 Z Z ⟨Z, (HS.pk 2 [] Z)⟩
  rcases iS H with ⟨c44, H⟩ | ⟨c44, H⟩
  ·
   refine G.lexS mixed (fun w => St w0 w (Box b7 107 [I e5.Tet, I e5.Perm] :: Box b1 31 [sV A_a a1 c_a] :: L)) [1, 3, 5, 8, 9, 15] [0, 2, 6, 10, 1, 3, 4, 5, 7, 8, 9, 11, 12, 13, 14, 16, 15, 17, 18, 19, 20, 21, 22, 23, 24] [] (by kernel_rfl) (by kernel_rfl) HS.drew ?_
   replace HS := HS.drew
   refine qL Z Z (fun _ _ g => fL b1 0 fl31_0 Z g) Z (qL Z Z (fun _ _ g => fL b7 0 fl107_0 Z g) Z (GX.ps 2 Z (GX.ls Z Z Z HS (fun _ HS _ g => lB 1 HS Z na29 Z g) Z (GX.ls Z Z Z HS (fun _ HS _ g => lB 0 HS Z na2 Z g) Z (qL Z Z (fun _ _ g => iX Z U29 sz77 (rk (rD 2 r_a) HS) c34 g) Z (GX.ls Z Z Z HS (fun _ HS _ g => GO.ldRd (T := (Ty.slice 107 T_GFace)) (n := e5.Tet.toNat) (o := 0) HS (rD 2 r_a) Z Z (getD_some (d := []) (ltN c34)) Z Z na77 Z g) Z (qL Z Z (fun _ _ g => GO.ix Z Z Z U77 sz107 ((RdIn.elem (rD 2 r_a) c34.1 c34.2) _ HS).2.2.1 c35.1 c35.2 Z g) Z (GX.ls Z Z Z HS (fun _ HS _ g => GO.ldRdA (T := T_GFace) (n := t30.toNat) HS (RdIn.elem (rD 2 r_a) c34.1 c34.2) Z Z (getD_eq (ltN c35) h37) ag107 Z g) Z (GX.ls Z Z Z HS (fun _ HS _ g => lW 0 HS Z ag107 g) Z (GX.l2 Z (fJ fok110 Z (impl_Face_partner.calls HS  h40) (fun _ wd41 ⟨h42, HS⟩ => ⟨_, h42, (GX.fin HS (qL Z Z (fun _ _ g => GO.eqlA Z Z Z ng107 (fun _ => eq107) Z g) Z (qL Z Z (fun _ _ g => mV Z (kN 51 Z (tT c43) g)) Z ?_)))⟩))))))))))))
   refine qL Z Z (fun _ _ g => oN Z (fL b7 0 fl107_0 Z (bK g))) Z (qL Z Z (fun _ _ g => oN Z (mV Z (bK g))) Z (GX.ls Z Z Z HS (fun _ HS _ g => oN Z (lB 0 HS Z na2 Z (bK g))) Z (qL Z Z (fun _ _ g => oN Z (GO.neq Z Z Z Z (bK g))) Z (qL Z Z (fun _ _ g => oN Z (mV Z (bK (kN 56 Z (nF c44) g)))) Z (qL Z Z (fun _ _ g => oF Z g) Z (qL Z Z (fun _ _ g => oF Z g) Z (qL Z Z (fun _ _ g => oF Z g) Z (qL Z Z (fun _ _ g => oN Z (GO.pickT Z Z Z Z Z (bK g))) Z (GX.ps 2 Z (GX.nil ?_))))))))))
   obtain rfl := sI H
   exact rT _ func69 Z Z ⟨Z, (HS.pk 2 [] Z)⟩
  refine G.lexS mixed (fun w => St w0 w (Box b7 107 [I e5.Tet, I e5.Perm] :: Box b1 31 [sV A_a a1 c_a] :: L)) [1, 3, 5, 8, 9, 15] [0, 2, 6, 10, 1, 3, 4, 5, 7, 8, 9, 11, 12, 13, 14, 16, 15, 17, 18, 19, 20, 21, 22, 23, 24] [] (by kernel_rfl) (by kernel_rfl) HS.drew ?_
  replace HS := HS.drew
  refine qL Z Z (fun _ _ g => fL b1 0 fl31_0 Z g) Z (qL Z Z (fun _ _ g => fL b7 0 fl107_0 Z g) Z (GX.ps 2 Z (GX.ls Z Z Z HS (fun _ HS _ g => lB 1 HS Z na29 Z g) Z (GX.ls Z Z Z HS (fun _ HS _ g => lB 0 HS Z na2 Z g) Z (qL Z Z (fun _ _ g => iX Z U29 sz77 (rk (rD 2 r_a) HS) c34 g) Z (GX.ls Z Z Z HS (fun _ HS _ g => GO.ldRd (T := (Ty.slice 107 T_GFace)) (n := e5.Tet.toNat) (o := 0) HS (rD 2 r_a) Z Z (getD_some (d := []) (ltN c34)) Z Z na77 Z g) Z (qL Z Z (fun _ _ g => GO.ix Z Z Z U77 sz107 ((RdIn.elem (rD 2 r_a) c34.1 c34.2) _ HS).2.2.1 c35.1 c35.2 Z g) Z (GX.ls Z Z Z HS (fun _ HS _ g => GO.ldRdA (T := T_GFace) (n := t30.toNat) HS (RdIn.elem (rD 2 r_a) c34.1 c34.2) Z Z (getD_eq (ltN c35) h37) ag107 Z g) Z (GX.ls Z Z Z HS (fun _ HS _ g => lW 0 HS Z ag107 g) Z (GX.l2 Z (fJ fok110 Z (impl_Face_partner.calls HS  h40) (fun _ wd41 ⟨h42, HS⟩ => ⟨_, h42, (GX.fin HS (qL Z Z (fun _ _ g => GO.eqlA Z Z Z ng107 (fun _ => eq107) Z g) Z (qL Z Z (fun _ _ g => mV Z (kN 51 Z (tT c43) g)) Z ?_)))⟩))))))))))))
  refine qL Z Z (fun _ _ g => oN Z (fL b7 0 fl107_0 Z (bK g))) Z (qL Z Z (fun _ _ g => oN Z (mV Z (bK g))) Z (GX.ls Z Z Z HS (fun _ HS _ g => oN Z (lB 0 HS Z na2 Z (bK g))) Z (qL Z Z (fun _ _ g => oN Z (GO.neq Z Z Z Z (bK g))) Z (qL Z Z (fun _ _ g => oN Z (mV Z (bK (kN 56 Z (nT c44) g)))) Z (qL Z Z (fun _ _ g => oN Z (mV Z (bK g))) Z (qL Z Z (fun _ _ g => oN Z (mV Z (bK g))) Z (qL Z Z (fun _ _ g => oN Z (GO.neq Z Z Z Z (bK g))) Z (qL Z Z (fun _ _ g => oN Z (GO.pickF Z Z Z Z Z (bK g))) Z (GX.ps 2 Z (GX.nil ?_))))))))))
  obtain rfl := sI H
  exact rT _ func69 Z Z ⟨Z, (HS.pk 2 [] Z)⟩
theorem impl_isTriangulation.calls {a1 : List (List GFace)} {y_a : Nat → (Ty.slice 107 T_GFace).Lay} {r1 : Bool} (HS : St w0 w (L)) (r_a : RdIn w0 L (Ty.slice 107 T_GFace) A_a c_a y_a a1) (H : impl_isTriangulation.f K a1 = some r1) :
    Calls prog 42 #[.agg [sV A_a a1 c_a].toArray] w (impl_isTriangulation.post w0 L r1) := by
  unfold impl_isTriangulation.f at H
  refine cG func42 Z ?_
  refine sQ (rG (bA HS Z fun b1 wd2 HS => aS Z (nL (rN 2 Z ?_))))
  rcases iE H with ⟨c8, H⟩ | ⟨c8, H⟩
  ·
   refine rG (fL b1 0 fl31_0 Z (lB 0 HS Z na29 Z (lS Z Z U29 Z (pS 2 Z (kN 9 Z (tT c8) (oF Z (oF Z (oF Z (GO.pickT Z Z Z Z Z (nL (rN 3 Z ?_)))))))))))
   obtain rfl := sI H
   exact rT _ func42 Z Z ⟨Z, (HS.pk 1 [] Z)⟩
  obtain ⟨t9, h10, H⟩ := bI H
  refine rG (fL b1 0 fl31_0 Z (lB 0 HS Z na29 Z (lS Z Z U29 Z (pS 2 Z (kN 9 Z (tF c8) (oN Z (fL b1 0 fl31_0 Z (bK (oN Z (lB 0 HS Z na29 Z (bK (oN Z (fJ fok67 Z (slices_ContainsFunc_impl_Face_impl_Face_isTriangulation_fn1.calls HS (rD 1 r_a) h10) (fun _ wd11 ⟨h12, HS⟩ => ⟨_, h12, (bK ?_)⟩))))))))))))))
  refine GO.pickF Z Z Z Z Z (nL ?_)
  rcases iE H with ⟨c13, H⟩ | ⟨c13, H⟩
  ·
   refine yB Z c13 (rN 2 Z ?_)
   obtain rfl := sI H
   exact rT _ func42 Z Z ⟨Z, (HS.pk 1 [] Z)⟩
  refine nB Z (bnot_of c13) (rN 3 Z ?_)
  obtain ⟨t14, h15, H⟩ := bI H
  refine rG (fL b1 0 fl31_0 Z (lB 0 HS Z na29 Z (fJ fok49 Z (impl_size_impl_Face.calls HS (rD 1 r_a) h15) (fun _ wd16 ⟨h17, HS⟩ => ⟨_, h17, (mV Z (nL (rN 2 Z ?_)))⟩))))
  refine G.name (fun k1 i1 => ?_)
  have q1 : ∀ f1, f1 ≤ K → ∀ (x37 : Int) (w : World), impl_isTriangulation.l1 K f1 a1 t14 x37 = some r1 → St w0 w (Box b1 31 [sV A_a a1 c_a] :: L) → G prog 42 30 [(1, pT b1), (16, I t14), (17, I x37)] k1 w (impl_isTriangulation.post w0 L r1) := by
   refine lp (fun _ w H _ => by rw [impl_isTriangulation.l1] at H; cases H) fun c1 s1 g1 x37 w H HS => ?_
   rw [impl_isTriangulation.l1] at H
   subst i1
   refine rN 3 Z ?_
   rcases iS H with ⟨c57, H⟩ | ⟨c57, H⟩
   ·
    refine nB Z (tF c57) (rN 3 Z ?_)
    obtain rfl := sI H
    exact rT _ func42 Z Z ⟨Z, (HS.pk 1 [] Z)⟩
   refine yB Z (tT c57) (rN 9 Z ?_)
   refine G.name (fun m1 n1 => ?_)
   have p1 : ∀ d1, d1 ≤ c1 → ∀ (x63 : Int) (w : World), impl_isTriangulation.l4 K d1 a1 t14 x37 x63 = some r1 → St w0 w (Box b1 31 [sV A_a a1 c_a] :: L) → G prog 42 30 [(1, pT b1), (3, I x37), (16, I t14), (17, I x37), (20, I x63)] m1 w (impl_isTriangulation.post w0 L r1) := by
    refine lp (fun _ w H _ => by rw [impl_isTriangulation.l4] at H; cases H) fun e1 o1 h1 x63 w H HS => ?_
    rw [impl_isTriangulation.l4] at H
    subst n1
    refine rN 3 Z ?_
    rcases iS H with ⟨c70, H⟩ | ⟨c70, H⟩
    ·
     refine nB Z (tF c70) (rN 4 Z (gW (g1 e1 (Nat.le_of_succ_le o1) _ _ H HS) Z))
    refine yB Z (tT c70) (rN 6 Z ?_)
    obtain ⟨t71, h72, H⟩ := bI H
    refine rG (lW 0 HS Z ag31 (pS 2 Z (fJ fok69 Z (impl_Triangulation_isGood.calls HS (rD 1 r_a) h72) (fun _ wd73 ⟨h74, HS⟩ => ⟨_, h74, (GO.not Z Z Z (nL ?_))⟩))))
    rcases iS H with ⟨c75, H⟩ | ⟨c75, H⟩
    ·
     refine yB Z (congrArg Bool.not (bnot_of c75)) (rN 2 Z ?_)
     obtain rfl := sI H
     exact rT _ func42 Z Z ⟨Z, (HS.pk 1 [] Z)⟩
    refine nB Z (congrArg Bool.not c75) (rN 4 Z (gW (h1 e1 (lR _) _ _ H HS) Z))
   exact gW (p1 c1 (lR _) _ _ H HS) Z
  exact gW (q1 K (lR _) _ _ H HS) Z
theorem impl_indices.calls {kind r1 : Int} (HS : St w0 w (L)) (H : impl_indices.f K kind = some r1) :
    Calls prog 72 #[I kind] w (impl_indices.post w0 L r1) := by
  unfold impl_indices.f at H
  refine cG func72 Z ?_
  refine rN 9 Z ?_
  refine G.nameT (fun c1 d1 => ?_)
  have b1 : ∀ a1, a1 ≤ K → ∀ (x2 : Bool) (w : World), impl_indices.j1 K a1 kind x2 = some r1 → St w0 w (L) → G prog 72 11 [(3, I kind), (4, .bool x2)] c1 w (impl_indices.post w0 L r1) := by
   refine jp (fun _ w H _ => by rw [impl_indices.j1] at H; cases H) fun e1 f1 x2 w H HS => ?_
   rw [impl_indices.j1] at H
   subst d1
   rcases iE H with ⟨c3, H⟩ | ⟨c3, H⟩
   ·
    refine yB Z c3 (rN 2 Z ?_)
    obtain rfl := sI H
    exact rT _ func72 Z Z ⟨Z, HS⟩
   refine nB Z (bnot_of c3) (rN 2 Z ?_)
   rcases iE H with ⟨c4, H⟩ | ⟨c4, H⟩
   ·
    refine yB Z (tT c4) (rN 2 Z ?_)
    obtain rfl := sI H
    exact rT _ func72 Z Z ⟨Z, HS⟩
   refine nB Z (tF c4) (rN 2 Z ?_)
   rcases iE H with ⟨c5, H⟩ | ⟨c5, H⟩
   ·
    refine yB Z (tT c5) (rN 2 Z ?_)
    obtain rfl := sI H
    exact rT _ func72 Z Z ⟨Z, HS⟩
   refine nB Z (tF c5) (rN 4 Z ?_)
   obtain rfl := sI H
   exact rT _ func72 Z Z ⟨Z, HS⟩
  rcases iE H with ⟨c6, H⟩ | ⟨c6, H⟩
  ·
   refine yB Z (tT c6) (G.skip (gW (b1 K (lR _) _ _ H HS) Z))
  refine nB Z (tF c6) (rN 1 Z (gW (b1 K (lR _) _ _ H HS) Z))
theorem impl_Face_isBoundary.calls {c1 a1 : Int} {r1 : Bool} (HS : St w0 w (L)) (H : impl_Face_isBoundary.f c1 a1 = some r1) :
    Calls prog 91 #[.agg [I c1, I a1].toArray] w (impl_Face_isBoundary.post w0 L r1) := by
  unfold impl_Face_isBoundary.f at H
  refine cG func91 Z ?_
  refine sQ (rG (bA HS Z fun b1 wd2 HS => aS Z (nL (sQ (rG (fL b1 0 fl107_0 Z (lB 0 HS Z na2 Z (pS 2 Z (nL ?_)))))))))
  obtain rfl := sI H
  exact rT _ func91 Z Z ⟨Z, (HS.pk 1 [] Z)⟩
theorem impl_newChange.calls {news : Int} {old : List Int} {r1 : List Int} {r2 : List (Arr2 × GPlace)} {r3 : Int} {r4 : List Arr4} (HS : St w0 w (Own (TInt .i64) 2 A_a c_a uu old :: L)) (H : impl_newChange.f news old = some (r1, r2, r3, r4)) :
    Calls prog 136 #[I news, sV A_a old c_a] w (impl_newChange.post w0 L r1 r2 r3 r4) := by
  unfold impl_newChange.f at H
  refine cG func136 Z ?_
  refine rN 3 Z (rG (mV Z (GO.newMapG ke_Arr2 ke_GPlace HS Z Z fun b1 wd2 HS => mV Z (GO.buildV (.agg [sV A_a old c_a, .map (some b1), I news, .slice none 0 0].toArray) Z Z (fun _ => by kernel_rfl) Z (bA HS Z fun b3 wd4 HS => aS Z (nL ?_))))))
  replace HS := HS.nilRow T_Arr4 131 uu
  obtain ⟨rfl, rfl, rfl, rfl⟩ := some4 H
  exact rT _ func136 Z Z ⟨_, _, _, _, _, _, Z, (HS.pk 4 [1, 3, 2, 0] Z)⟩
theorem impl_counting.calls {n_ : Int} {r1 : List Int} (HS : St w0 w (L)) (H : impl_counting.f K n_ = some r1) :
    Calls prog 144 #[I n_] w (impl_counting.post w0 L r1) := by
  unfold impl_counting.f at H
  refine cG func144 Z ?_
  refine rN 9 Z ?_
  refine G.name (fun f1 e1 => ?_)
  have g1 : ∀ b1, b1 ≤ K → ∀ (A8 : Option Addr) (c9 : Nat) (a1 : List Int) (x11 : Int) (w : World), impl_counting.l1 K b1 n_ a1 x11 = some r1 → St w0 w (Own (TInt .i64) 2 A8 c9 uu a1 :: L) → G prog 144 15 [(3, sV A8 a1 c9), (5, I n_), (6, I x11)] f1 w (impl_counting.post w0 L r1) := by
   refine lp (fun _ _ _ _ w H _ => by rw [impl_counting.l1] at H; cases H) fun c1 h1 d1 A8 c9 a1 x11 w H HS => ?_
   rw [impl_counting.l1] at H
   subst e1
   refine rN 3 Z ?_
   rcases iS H with ⟨c19, H⟩ | ⟨c19, H⟩
   ·
    refine nB Z (tF c19) (rN 3 Z ?_)
    obtain rfl := sI H
    exact rT _ func144 Z Z ⟨_, _, Z, HS⟩
   refine yB Z (tT c19) (rN 5 Z ?_)
   obtain ⟨c25, H⟩ := iN H
   refine rG (pS 2 Z (GO.buildS (el := 2) ([I x11]) HS Z Z (fun _ => by kernel_rfl) Z fun b20 wd21 HS => GO.app1 (T := (TInt .i64)) (j := 1) (jb := 0) x11 HS Z Z flat_flat Z Z Z U56 inf2 Z Z Z c25 Z fun A23 c24 wd22 HS => aS Z (nL (rN 3 Z (gW (d1 c1 (lR _) _ _ _ _ _ H (HS.pk 2 [1] Z)) Z)))))
  replace HS := HS.nilRow (TInt .i64) 2 uu
  exact gW (g1 K (lR _) _ _ _ _ _ H HS) Z
theorem slices_Index_int64_int64.calls {s : List Int} {v : Int} {r1 : Int} (HS : St w0 w (L)) (r_a : RdIn w0 L (TInt .i64) A_a c_a uu s) (H : slices_Index_int64_int64.f K s v = some r1) :
    Calls prog 126 #[sV A_a s c_a, I v] w (slices_Index_int64_int64.post w0 L r1) := by
  unfold slices_Index_int64_int64.f at H
  refine cG func126 Z ?_
  refine rN 4 Z (rG (mV Z (lS Z Z U56 Z (mV Z (nL (rN 2 Z ?_))))))
  refine G.name (fun e1 d1 => ?_)
  have f1 : ∀ a1, a1 ≤ K → ∀ (x4 : Int) (w : World), slices_Index_int64_int64.l1 K a1 s v x4 = some r1 → St w0 w (L) → G prog 126 19 [(0, sV A_a s c_a), (1, I v), (7, I (s.length : Int)), (8, I x4)] e1 w (slices_Index_int64_int64.post w0 L r1) := by
   refine lp (fun _ w H _ => by rw [slices_Index_int64_int64.l1] at H; cases H) fun b1 g1 c1 x4 w H HS => ?_
   rw [slices_Index_int64_int64.l1] at H
   subst d1
   refine rN 3 Z ?_
   rcases iS H with ⟨c8, H⟩ | ⟨c8, H⟩
   ·
    refine nB Z (tF c8) (rN 3 Z ?_)
    obtain rfl := sI H
    exact rT _ func126 Z Z ⟨Z, HS⟩
   refine yB Z (tT c8) (rN 6 Z ?_)
   obtain ⟨c9, H⟩ := iN H
   refine rG (pS 3 Z (iX Z U56 sz2 (rk r_a HS) c9 (GO.ldRd (T := (TInt .i64)) (n := x4.toNat) (o := 0) HS r_a Z Z (getD_some (d := 0) (ltN c9)) Z Z na2 Z (GO.eql Z Z Z Z (nL ?_)))))
   rcases iE H with ⟨c10, H⟩ | ⟨c10, H⟩
   ·
    refine yB Z (tT c10) (rN 2 Z ?_)
    obtain rfl := sI H
    exact rT _ func126 Z Z ⟨Z, HS⟩
   refine nB Z (tF c10) (rN 4 Z (gW (c1 b1 (lR _) _ _ H HS) Z))
  exact gW (f1 K (lR _) _ _ H HS) Z
theorem slices_Contains_int64_int64.calls {s : List Int} {v : Int} {r1 : Bool} (HS : St w0 w (L)) (r_a : RdIn w0 L (TInt .i64) A_a c_a uu s) (H : slices_Contains_int64_int64.f K s v = some r1) :
    Calls prog 87 #[sV A_a s c_a, I v] w (slices_Contains_int64_int64.post w0 L r1) := by
  unfold slices_Contains_int64_int64.f at H
  refine cG func87 Z ?_
  refine rN 3 Z ?_
  obtain ⟨t1, h2, H⟩ := bI H
  refine rG (pS 2 Z (fJ fok126 Z (slices_Index_int64_int64.calls HS r_a h2) (fun _ wd3 ⟨h4, HS⟩ => ⟨_, h4, (pS 2 Z (nL ?_))⟩)))
  obtain rfl := sI H
  exact rT _ func87 Z Z ⟨Z, HS⟩
theorem impl_others_fn1_free.calls {v : Int} {a1 : List Int} {b1 : Nat} {r1 : Bool} (HS : St w0 w (Box b1 56 [sV A_a a1 c_a] :: L)) (r_a : RdIn w0 L (TInt .i64) A_a c_a uu a1) (H : impl_others_fn1_free.f K v a1 = some r1) :
    Calls prog 159 #[I v, pT b1] w (impl_others_fn1_free.post w0 L a1 b1 A_a c_a r1) := by
  unfold impl_others_fn1_free.f at H
  refine cG func159 Z ?_
  refine rN 3 Z ?_
  obtain ⟨t1, h2, H⟩ := bI H
  refine rG (lB 0 HS Z na56 Z (mV Z (fJ fok87 Z (slices_Contains_int64_int64.calls HS (rD 1 r_a) h2) (fun _ wd3 ⟨h4, HS⟩ => ⟨_, h4, (aS Z (nL ?_))⟩))))
  obtain rfl := sI H
  exact rT _ func159 Z Z ⟨Z, HS⟩
theorem slices_IndexFunc_int64_int64_others_fn1.calls {s a1 : List Int} {A_a : Option Addr} {c_a b1 : Nat} {r1 : Int} (HS : St w0 w (Box b1 56 [sV A_b a1 c_b] :: L)) (r_a : RdIn w0 L (TInt .i64) A_a c_a uu s) (r_b : RdIn w0 L (TInt .i64) A_b c_b uu a1) (H : slices_IndexFunc_int64_int64_others_fn1.f K s a1 = some r1) :
    Calls prog 102 #[sV A_a s c_a, .func (.func 159) #[] #[pT b1]] w (slices_IndexFunc_int64_int64_others_fn1.post w0 L a1 b1 A_b c_b r1) := by
  unfold slices_IndexFunc_int64_int64_others_fn1.f at H
  refine cG func102 Z ?_
  refine rN 4 Z (rG (mV Z (lS Z Z U56 Z (mV Z (nL (rN 2 Z ?_))))))
  refine G.name (fun h1 g1 => ?_)
  have e1 : ∀ c1, c1 ≤ K → ∀ (x8 : Int) (w : World), slices_IndexFunc_int64_int64_others_fn1.l1 K c1 s a1 x8 = some r1 → St w0 w (Box b1 56 [sV A_b a1 c_b] :: L) → G prog 102 19 [(0, sV A_a s c_a), (1, .func (.func 159) #[] #[pT b1]), (7, I (s.length : Int)), (8, I x8)] h1 w (slices_IndexFunc_int64_int64_others_fn1.post w0 L a1 b1 A_b c_b r1) := by
   refine lp (fun _ w H _ => by rw [slices_IndexFunc_int64_int64_others_fn1.l1] at H; cases H) fun d1 i1 f1 x8 w H HS => ?_
   rw [slices_IndexFunc_int64_int64_others_fn1.l1] at H
   subst g1
   refine rN 3 Z ?_
   rcases iS H with ⟨c16, H⟩ | ⟨c16, H⟩
   ·
    refine nB Z (tF c16) (rN 3 Z ?_)
    obtain rfl := sI H
    exact rT _ func102 Z Z ⟨Z, HS⟩
   refine yB Z (tT c16) (rN 6 Z ?_)
   obtain ⟨c17, H⟩ := iN H
   obtain ⟨t18, h19, H⟩ := bI H
   refine rG (pS 3 Z (iX Z U56 sz2 (rk (rD 1 r_a) HS) c17 (GO.ldRd (T := (TInt .i64)) (n := x8.toNat) (o := 0) HS (rD 1 r_a) Z Z (getD_some (d := 0) (ltN c17)) Z Z na2 Z ?_)))
   replace HS := HS.pk 1 [0] Z
   refine GO.clo Z Z func159 fok159.2.1 fok159.2.2 Z Z (impl_others_fn1_free.calls HS r_b h19) (fun _ wd20 ⟨h21, HS⟩ => ⟨_, h21, (nL ?_)⟩)
   rcases iE H with ⟨c22, H⟩ | ⟨c22, H⟩
   ·
    refine yB Z c22 (rN 2 Z ?_)
    obtain rfl := sI H
    exact rT _ func102 Z Z ⟨Z, HS⟩
   refine nB Z (bnot_of c22) (rN 4 Z (gW (f1 d1 (lR _) _ _ H HS) Z))
  exact gW (e1 K (lR _) _ _ H HS) Z
theorem slices_DeleteFunc_int64_int64_others_fn1.calls {s c1 : List Int} {A_a : Option Addr} {c_a d1 : Nat} {r1 : List Int} (HS : St w0 w (Own (TInt .i64) 2 A_a c_a uu s :: Box d1 56 [sV A_b c1 c_b] :: L)) (r_b : RdIn w0 L (TInt .i64) A_b c_b uu c1) (H : slices_DeleteFunc_int64_int64_others_fn1.f K s c1 = some r1) :
    Calls prog 158 #[sV A_a s c_a, .func (.func 159) #[] #[pT d1]] w (slices_DeleteFunc_int64_int64_others_fn1.post w0 L c1 d1 A_b c_b r1) := by
  unfold slices_DeleteFunc_int64_int64_others_fn1.f at H
  refine cG func158 Z ?_
  refine rN 3 Z ?_
  obtain ⟨t1, h2, H⟩ := bI H
  refine rG (pS 2 Z ?_)
  replace HS := HS.pk 2 [1, 0] Z
  refine fJ fok102 Z (slices_IndexFunc_int64_int64_others_fn1.calls HS (ro 0 Z) (rD 1 r_b) h2) (fun _ wd3 ⟨h4, HS⟩ => ⟨_, h4, (aS Z (nL (rN 3 Z ?_)))⟩)
  rcases iE H with ⟨c5, H⟩ | ⟨c5, H⟩
  ·
   refine yB Z (tT c5) (rN 2 Z ?_)
   obtain rfl := sI H
   exact rT _ func158 Z Z ⟨_, _, Z, (HS.pk 2 [1, 0] Z)⟩
  refine nB Z (tF c5) (rN 6 Z ?_)
  refine G.name (fun k1 i1 => ?_)
  have h1 : ∀ g1, g1 ≤ K → ∀ (x19 : List Int) (a1 b1 : Int) (w : World), slices_DeleteFunc_int64_int64_others_fn1.l1 K g1 c1 x19 a1 b1 = some r1 → St w0 w (Own (TInt .i64) 2 A_a c_a uu x19 :: Box d1 56 [sV A_b c1 c_b] :: L) → G prog 158 42 [(0, sV A_a x19 c_a), (1, .func (.func 159) #[] #[pT d1]), (5, I a1), (6, I b1)] k1 w (slices_DeleteFunc_int64_int64_others_fn1.post w0 L c1 d1 A_b c_b r1) := by
   refine lp (fun _ _ _ w H _ => by rw [slices_DeleteFunc_int64_int64_others_fn1.l1] at H; cases H) fun e1 m1 f1 x19 a1 b1 w H HS => ?_
   rw [slices_DeleteFunc_int64_int64_others_fn1.l1] at H
   subst i1
   refine rN 2 Z (rG (pS 2 Z (lS Z Z U56 Z (GO.lss Z Z Z Z (nL ?_)))))
   rcases iS H with ⟨c35, H⟩ | ⟨c35, H⟩
   ·
    refine nB Z (tF c35) (rN 2 Z ?_)
    obtain ⟨c44, H⟩ := iN H
    have h46 := over_lenR (xs := x19) (z := 0) (cutN (leN c44) (lR _))
    refine rG (pS 2 Z (GO.slL (T := (TInt .i64)) HS (ro 0 Z) Z Z Z U56 sz2 c44.1 c44.2 Z (GO.clearC (T := (TInt .i64)) (j := 0) (l := a1.toNat) 0 () HS Z flat_flat Z Z U56 zr2 Z Z (cutC (lR _) ((ro 0 Z) _ HS).1) (cutN (leN c44) (lR _)) (fun _ => Z) fun wd45 HS => nL (G.len (t := 0) (m := (over x19 a1.toNat (List.replicate ((x19.take x19.length).drop a1.toNat).length 0)).length) Z (by simp only [List.length_set, h46] <;> rfl) (sQ ?_)))))
    obtain ⟨c47, H⟩ := iN H
    refine rG (pS 2 Z (GO.slH (T := (TInt .i64)) HS (ro 0 Z) Z Z Z U56 sz2 c47.1 c47.2 Z (aS Z (nL ?_))))
    replace HS := HS.cutOwn (A' := (cutA A_a 0 c_a 1)) (c' := (c_a - 0)) (j := 0) (l := 0) (h := a1.toNat) (m := c_a) Z (Nat.zero_le _) (leN c47) (Nat.le_trans (leN c47) ((ro 0 Z) _ HS).1) (lR _) Z Z
    obtain rfl := sI H
    exact rT _ func158 Z Z ⟨_, _, Z, HS⟩
   refine yB Z (tT c35) (rN 4 Z ?_)
   obtain ⟨c36, H⟩ := iN H
   refine rG (pS 2 Z (iX Z U56 sz2 (rk (ro 0 Z) HS) c36 (GO.ldRd (T := (TInt .i64)) (n := b1.toNat) (o := 0) HS (ro 0 Z) Z Z (getD_some (d := 0) (ltN c36)) Z Z na2 Z (aS Z (nL (sQ ?_))))))
   obtain ⟨t37, h38, H⟩ := bI H
   refine rG (pS 2 Z ?_)
   replace HS := HS.pk 2 [1, 0] Z
   refine GO.clo Z Z func159 fok159.2.1 fok159.2.2 Z Z (impl_others_fn1_free.calls HS (rD 1 r_b) h38) (fun _ wd39 ⟨h40, HS⟩ => ⟨_, h40, (GO.not Z Z Z (nL ?_))⟩)
   rcases iE H with ⟨c41, H⟩ | ⟨c41, H⟩
   ·
    refine nB Z (congrArg Bool.not c41) (rN 4 Z (gW (f1 e1 (lR _) _ _ _ _ H (HS.pk 2 [1, 0] Z)) Z))
   refine yB Z (congrArg Bool.not (bnot_of c41)) (sQ ?_)
   obtain ⟨c42, H⟩ := iN H
   refine rG (pS 3 Z (iX Z U56 sz2 (rk (ro 1 Z) HS) c42 (GO.stRow (T := (TInt .i64)) (j := 1) (n := a1.toNat) (o := 0) (vs := [I (x19.getD b1.toNat 0)]) (x19.getD b1.toNat 0) HS Z flat_flat Z Z Z Z (htN na2 Z) Z (getD_some (d := 0) (ltN c42)) Z Z fun wd43 HS => nL (G.len (t := 0) (m := (x19.set a1.toNat (x19.getD b1.toNat 0)).length) Z (by simp only [List.length_set] <;> rfl) (rN 4 Z (gW (f1 e1 (lR _) _ _ _ _ H (HS.pk 2 [1, 0] Z)) Z))))))
  exact gW (h1 K (lR _) _ _ _ _ H (HS.pk 2 [1, 0] Z)) Z
theorem impl_others.calls {not : List Int} {r1 : List Int} (HS : St w0 w (L)) (r_a : RdIn w0 L (TInt .i64) A_a c_a uu not) (H : impl_others.f K not = some r1) :
    Calls prog 137 #[sV A_a not c_a] w (impl_others.post w0 L r1) := by
  unfold impl_others.f at H
  refine cG func137 Z ?_
  refine sQ (rG (GO.box (cs := [sV A_a not c_a]) HS Z Z Z Z fun b1 wd2 HS => aS Z (nL (sQ ?_))))
  obtain ⟨t3, h4, H⟩ := bI H
  obtain ⟨t9, h10, H⟩ := bI H
  refine rG (fJ fok144 Z (impl_counting.calls HS  h4) (fun _ wd7 ⟨A5, c6, h8, HS⟩ => ⟨_, h8, (GO.mkFunc Z Z Z Z ?_)⟩))
  replace HS := HS.pk 2 [0, 1] Z
  refine fJ fok158 Z (slices_DeleteFunc_int64_int64_others_fn1.calls HS r_a h10) (fun _ wd13 ⟨A11, c12, h14, HS⟩ => ⟨_, h14, (aS Z (nL ?_))⟩)
  obtain rfl := sI H
  exact rT _ func137 Z Z ⟨_, _, Z, (HS.pk 2 [0] Z)⟩
theorem impl_change_put.calls {a1 : List Int} {k1 : List (Arr2 × GPlace)} {d1 : Int} {c1 : List Arr4} {tet face : Int} {to h1 : Int} {i1 g1 f1 : Int} {b_c : Nat} {A_a : Option Addr} {c_a e1 : Nat} {r1 : List (Arr2 × GPlace)} (HS : St w0 w (Box b_c 104 [sV A_a a1 c_a, .map (some e1), I d1, sV A_b c1 c_b] :: MapG e1 ke_Arr2 ke_GPlace k1 :: L)) (r_a : RdIn w0 L (TInt .i64) A_a c_a uu a1) (r_b : RdIn w0 L T_Arr4 A_b c_b uu c1) (H : impl_change_put.f K a1 k1 d1 c1 tet face to h1 i1 g1 f1 = some r1) :
    Calls prog 138 #[pT b_c, I tet, I face, I to, .agg [I h1, I i1, I g1, I f1].toArray] w (impl_change_put.post w0 L a1 d1 c1 b_c A_a c_a e1 A_b c_b r1) := by
  unfold impl_change_put.f at H
  refine cG func138 Z ?_
  refine sQ (rG (bA HS Z fun b1 wd2 HS => nL ?_))
  obtain ⟨t3, h4, H⟩ := bI H
  refine G.lexS mixed (fun w => St w0 w (Box b1 131 [I h1, I i1, I g1, I f1] :: Box b_c 104 [sV A_a a1 c_a, .map (some e1), I d1, sV A_b c1 c_b] :: L)) [3, 8] [0, 1, 2, 4, 5, 6, 7, 3, 8, 9, 10, 11] [] (by kernel_rfl) (by kernel_rfl) (HS.drew.pk 3 [0, 1] Z) ?_
  replace HS := HS.drew
  refine GX.ps 1 Z (qL Z Z (fun _ _ g => GO.nilP Z Z Z g) Z (qL Z Z (fun _ _ g => fL b_c 1 fl104_1 Z g) Z (GX.ps 2 Z (qL Z Z (fun _ _ g => GO.buildV (.agg [I tet, I face].toArray) Z Z (fun _ => by kernel_rfl) Z g) Z (GX.ps 1 Z (GX.ls Z Z Z (HS.pk 3 [0, 1] Z) (fun _ HS _ g => lB 1 HS Z na101 Z g) Z (GX.ls Z Z Z (HS.pk 3 [0, 1] Z) (fun _ HS _ g => lW 0 HS Z ag131 g) Z (GX.l2 Z (fJ fok130 Z (impl_indexOf.calls HS  h4) (fun _ wd5 ⟨h6, HS⟩ => ⟨_, h6, (GX.fin (HS.pk 3 [0, 1] Z) (qL Z Z (fun _ _ g => GO.buildV (.agg [I to, I t3].toArray) Z Z (fun _ => by kernel_rfl) Z g) Z (GX.l2 Z (GO.putMG (⟨tet, face⟩ : Arr2) (⟨to, t3⟩ : GPlace) kok118 HS (j := 2) Z Z Z Z Z U101 fun wd7 HS => GX.fin (HS.pk 3 [0, 1] Z) ?_))))⟩))))))))))
  refine GX.nil ?_
  obtain rfl := sI H
  exact G.end0 func138 Z ⟨Z, (HS.pk 3 [1, 2] Z)⟩
theorem impl_exchange.calls {i j_ r1 : Int} (HS : St w0 w (L)) (H : impl_exchange.f K i j_ = some r1) :
    Calls prog 139 #[I i, I j_] w (impl_exchange.post w0 L r1) := by
  unfold impl_exchange.f at H
  refine cG func139 Z ?_
  refine rN 3 Z (rG (GO.buildV (.agg [I 0, I 1, I 2, I 3].toArray) Z Z (fun _ => by kernel_rfl) Z (GO.alloc HS Z zr131 Z Z fun b1 wd2 HS => sW 0 HS Z ag131 Z fun wd3 HS => nL (sQ ?_))))
  obtain ⟨c4, H⟩ := iN H
  obtain ⟨c6, H⟩ := iN H
  refine rG (pS 4 Z (GO.ixW Z Z Z U131 sz2 c4 Z (GO.stW (j := 0) (o := 0) (sz := 1) (vs := [I j_]) (fun u_ => [I (se 0 u_ j_ 0), I (se 1 u_ j_ 1), I (se 2 u_ j_ 2), I (se 3 u_ j_ 3)]) HS Z Z Z Z Z c4 (htN na2 Z) Z Z (four Z Z Z Z) fun wd5 HS => GO.ixW Z Z Z U131 sz2 c6 Z (GO.stW (j := 0) (o := 0) (sz := 1) (vs := [I i]) (fun u_ => [I (se 0 u_ i (se 0 i j_ 0)), I (se 1 u_ i (se 1 i j_ 1)), I (se 2 u_ i (se 2 i j_ 2)), I (se 3 u_ i (se 3 i j_ 3))]) HS Z Z Z Z Z c6 (htN na2 Z) Z Z (four Z Z Z Z) fun wd7 HS => nL (sQ ?_)))))
  obtain ⟨t8, h9, H⟩ := bI H
  refine rG (lW 0 HS Z ag131 (fJ fok130 Z (impl_indexOf.calls HS  h9) (fun _ wd10 ⟨h11, HS⟩ => ⟨_, h11, (aS Z (nL ?_))⟩)))
  obtain rfl := sI H
  exact rT _ func139 Z Z ⟨Z, (HS.pk 1 [] Z)⟩
theorem impl_Triangulation_change23.calls {d1 : List (List GFace)} {a_ f : Int} {y_a : Nat → (Ty.slice 107 T_GFace).Lay} {r1 : Option (List Int × List (Arr2 × GPlace) × Int × List Arr4)} (HS : St w0 w (L)) (r_a : RdIn w0 L (Ty.slice 107 T_GFace) A_a c_a y_a d1) (H : impl_Triangulation_change23.f K d1 a_ f = some r1) :
    Calls prog 111 #[.agg [sV A_a d1 c_a].toArray, I a_, I f] w (impl_Triangulation_change23.post w0 L r1) := by
  unfold impl_Triangulation_change23.f at H
  refine cG func111 Z ?_
  refine sQ (rG (bA HS Z fun b1 wd2 HS => aS Z (nL (sQ ?_))))
  obtain ⟨c3, H⟩ := iN H
  obtain ⟨c4, H⟩ := iN H
  obtain ⟨e5, h6, H⟩ := bnd_elim H
  refine rG (fL b1 0 fl31_0 Z (lB 0 HS Z na29 Z (mV Z (iX Z U29 sz77 (rk (rD 1 r_a) HS) c3 (GO.ldRd (T := (Ty.slice 107 T_GFace)) (n := a_.toNat) (o := 0) HS (rD 1 r_a) Z Z (getD_some (d := []) (ltN c3)) Z Z na77 Z (mV Z (GO.ix Z Z Z U77 sz107 ((RdIn.elem (rD 1 r_a) c3.1 c3.2) _ HS).2.2.1 c4.1 c4.2 Z (GO.ldRdA (T := T_GFace) (n := f.toNat) HS (RdIn.elem (rD 1 r_a) c3.1 c3.2) Z Z (getD_eq (ltN c4) h6) ag107 Z (GO.alloc HS Z zr107 Z Z fun b7 wd8 HS => sW 0 HS Z ag107 Z fun wd9 HS => nL (rN 2 Z ?_))))))))))
  obtain ⟨t15, h16, H⟩ := bI H
  rcases iE H with ⟨c19, H⟩ | ⟨c19, H⟩
  ·
   refine rG (lW 0 HS Z ag107 (fJ fok91 Z (impl_Face_isBoundary.calls HS  h16) (fun _ wd17 ⟨h18, HS⟩ => ⟨_, h18, (mV Z (kN 27 Z c19 (oF Z (oF Z (oF Z (oF Z (GO.pickT Z Z Z Z Z (nL (rN 3 Z ?_)))))))))⟩)))
   replace HS := HS.emp
   obtain rfl := sI H
   exact rT _ func111 Z Z ⟨0, none, 0, 0, none, 0, Z, (HS.pk 3 [0] Z)⟩
  refine rG (lW 0 HS Z ag107 (fJ fok91 Z (impl_Face_isBoundary.calls HS  h16) (fun _ wd17 ⟨h18, HS⟩ => ⟨_, h18, (mV Z (kN 27 Z (bnot_of c19) (oN Z (fL b7 0 fl107_0 Z (bK (oN Z (lB 0 HS Z na2 Z (bK (oN Z (mV Z (bK (oN Z ?_))))))))))))⟩)))
  refine GO.eql Z Z Z Z (bK (GO.pickF Z Z Z Z Z (nL ?_)))
  rcases iE H with ⟨c20, H⟩ | ⟨c20, H⟩
  ·
   refine yB Z (tT c20) (rN 2 Z ?_)
   replace HS := HS.emp
   obtain rfl := sI H
   exact rT _ func111 Z Z ⟨0, none, 0, 0, none, 0, Z, (HS.pk 3 [0] Z)⟩
  refine nB Z (tF c20) (rN 2 Z ?_)
  obtain ⟨t23, t24, t25, t26, h27, H⟩ := bind4_elim H
  refine rG (mV Z (fL b7 0 fl107_0 Z (lB 0 HS Z na2 Z (GO.buildS (el := 2) ([I a_, I e5.Tet]) HS Z Z (fun _ => by kernel_rfl) Z fun b21 wd22 HS => ?_))))
  replace HS := HS.boxRow (T := (TInt .i64)) (j := 0) Z flat_flat uu ([a_, e5.Tet] : List Int) Z (bndL Z)
  refine GO.lenC (t := 36) (m := ([a_, e5.Tet] : List Int).length) (c' := ([a_, e5.Tet] : List Int).length) Z Z Z ?_
  replace HS := HS.pk 3 [0, 1, 2] Z
  refine fJ fok136 Z (impl_newChange.calls HS  h27) (fun _ wd34 ⟨b28, A29, c30, b31, A32, c33, h35, HS⟩ => ⟨_, h35, (aS Z (nL (sQ ?_)))⟩)
  obtain ⟨t36, t37, t38, t39, h40, H⟩ := bind4_elim H
  obtain ⟨t45, h46, H⟩ := bI H
  refine rG (fL b7 1 fl107_1 Z (lB 4 HS Z na2 Z (fJ fok93 Z (impl_perm.calls HS  h40) (fun _ wd41 ⟨h42, HS⟩ => ⟨_, h42, (mV Z (GO.buildS (el := 2) ([I f]) HS Z Z (fun _ => by kernel_rfl) Z fun b43 wd44 HS => ?_))⟩))))
  replace HS := HS.boxRow (T := (TInt .i64)) (j := 0) Z flat_flat uu ([f] : List Int) Z (bndL Z)
  refine GO.lenC (t := 42) (m := ([f] : List Int).length) (c' := ([f] : List Int).length) Z Z Z (fJ fok137 Z (impl_others.calls HS (ro 0 Z) h46) (fun _ wd49 ⟨A47, c48, h50, HS⟩ => ⟨_, h50, (GO.alloc HS Z zr131 Z Z fun b51 wd52 HS => sW 0 HS Z ag131 Z fun wd53 HS => aS Z (nL (rN 5 Z ?_)))⟩))
  refine G.name (fun i1 h1 => ?_)
  have k1 : ∀ e1, e1 ≤ K → ∀ (c1 : List (Arr2 × GPlace)) (A100 : Option Addr) (c101 : Nat) (a1 : List Arr4) (x103 : Int) (w : World), impl_Triangulation_change23.l1 K e1 a_ f e5 t23 t25 t36 t37 t38 t39 t45 c1 a1 x103 = some r1 → St w0 w (Box b7 107 [I e5.Tet, I e5.Perm] :: Box b28 104 [sV A29 t23 c30, .map (some b31), I t25, sV A100 a1 c101] :: Own (TInt .i64) 2 A29 c30 uu t23 :: MapG b31 ke_Arr2 ke_GPlace c1 :: Own T_Arr4 131 A100 c101 uu a1 :: Box b51 131 [I t36, I t37, I t38, I t39] :: Own (TInt .i64) 2 A47 c48 uu t45 :: L) → G prog 111 119 [(1, I a_), (2, I f), (7, pT b7), (8, pT b28), (9, pT b51), (10, sV A47 t45 c48), (44, I x103)] i1 w (impl_Triangulation_change23.post w0 L r1) := by
   refine lp (fun _ _ _ _ _ w H _ => by rw [impl_Triangulation_change23.l1] at H; cases H) fun f1 m1 g1 c1 A100 c101 a1 x103 w H HS => ?_
   rw [impl_Triangulation_change23.l1] at H
   subst h1
   refine rN 3 Z ?_
   rcases iS H with ⟨c150, H⟩ | ⟨c150, H⟩
   ·
    refine nB Z (tF c150) (rN 3 Z ?_)
    replace HS := HS.pk 7 [1, 2, 3, 4, 0, 5, 6] Z
    replace HS := St.opt (F := (fun x => [Box b28 104 [.slice A29 x.1.length c30, .map (some b31), I x.2.2.1, .slice A100 x.2.2.2.length c101], Own (TInt .i64) 2 A29 c30 uu x.1, MapG b31 ke_Arr2 ke_GPlace x.2.1, Own T_Arr4 131 A100 c101 uu x.2.2.2])) (t23, c1, t25, a1) HS Z
    obtain rfl := sI H
    exact rT _ func111 Z Z ⟨_, _, _, _, _, _, Z, (HS.pk 4 [0] Z)⟩
   refine yB Z (tT c150) (rN 6 Z ?_)
   obtain ⟨c151, H⟩ := iN H
   have h152 := (rk (ro 6 Z) HS)
   obtain ⟨c153, H⟩ := iN H
   have h154 := (rk (ro 6 Z) HS)
   obtain ⟨c155, H⟩ := iN H
   have h156 := (rk (ro 6 Z) HS)
   refine G.lex mixed [0, 1, 2, 4, 5, 6, 7, 8, 10, 11, 12, 13, 14, 3, 16, 9, 17, 15, 18] (by kernel_rfl) ?_
   replace HS := HS.drew
   refine GX.ps 2 Z (qL Z Z (fun _ _ g => iX Z U56 sz2 h152 c151 g) Z (GX.ps 3 Z (qL Z Z (fun _ _ g => GO.rem Z Z Z (by decide) Z g) Z (qL Z Z (fun _ _ g => iX Z U56 sz2 h154 c153 g) Z (GX.ps 3 Z (qL Z Z (fun _ _ g => GO.rem Z Z Z (by decide) Z g) Z (qL Z Z (fun _ _ g => iX Z U56 sz2 h156 c155 g) Z (GX.l1 Z Z Z (fun _ g => GO.ldRd (T := (TInt .i64)) (n := x103.toNat) (o := 0) HS (ro 6 Z) Z Z (getD_some (d := 0) (ltN c151)) Z Z na2 Z g) Z (GX.ps 1 Z (GX.l1 Z Z Z (fun _ g => GO.ldRd (T := (TInt .i64)) (n := ((w64 (x103 + 1)).tmod 3).toNat) (o := 0) HS (ro 6 Z) Z Z (getD_some (d := 0) (ltN c153)) Z Z na2 Z g) Z (GX.ps 1 Z (GX.l1 Z Z Z (fun _ g => GO.ldRd (T := (TInt .i64)) (n := ((w64 (x103 + 2)).tmod 3).toNat) (o := 0) HS (ro 6 Z) Z Z (getD_some (d := 0) (ltN c155)) Z Z na2 Z g) Z (GX.ps 1 Z (GX.nil ?_))))))))))))))
   refine sQ (rG (GO.alloc HS Z zr131 Z Z fun b157 wd158 HS => GO.alloc HS Z zr131 Z Z fun b159 wd160 HS => nL (sQ ?_)))
   obtain ⟨c161, H⟩ := iN H
   obtain ⟨c163, H⟩ := iN H
   obtain ⟨c165, H⟩ := iN H
   obtain ⟨c167, H⟩ := iN H
   refine rG (pS 4 Z (GO.ixW Z Z Z U131 sz2 c161 Z (GO.stW (j := 1) (o := 0) (sz := 1) (vs := [I 0]) (fun u_ => [I (se 0 u_ 0 0), I (se 1 u_ 0 0), I (se 2 u_ 0 0), I (se 3 u_ 0 0)]) HS Z Z Z Z Z c161 (htN na2 Z) Z Z (four Z Z Z Z) fun wd162 HS => GO.ixW Z Z Z U131 sz2 c163 Z (GO.stW (j := 1) (o := 0) (sz := 1) (vs := [I 1]) (fun u_ => [I (se 0 u_ 1 (se 0 f 0 0)), I (se 1 u_ 1 (se 1 f 0 0)), I (se 2 u_ 1 (se 2 f 0 0)), I (se 3 u_ 1 (se 3 f 0 0))]) HS Z Z Z Z Z c163 (htN na2 Z) Z Z (four Z Z Z Z) fun wd164 HS => GO.ixW Z Z Z U131 sz2 c165 Z (GO.stW (j := 1) (o := 0) (sz := 1) (vs := [I 2]) (fun u_ => [I (se 0 u_ 2 (se 0 (t45.getD x103.toNat 0) 1 (se 0 f 0 0))), I (se 1 u_ 2 (se 1 (t45.getD x103.toNat 0) 1 (se 1 f 0 0))), I (se 2 u_ 2 (se 2 (t45.getD x103.toNat 0) 1 (se 2 f 0 0))), I (se 3 u_ 2 (se 3 (t45.getD x103.toNat 0) 1 (se 3 f 0 0)))]) HS Z Z Z Z Z c165 (htN na2 Z) Z Z (four Z Z Z Z) fun wd166 HS => GO.ixW Z Z Z U131 sz2 c167 Z (GO.stW (j := 1) (o := 0) (sz := 1) (vs := [I 3]) (fun u_ => [I (se 0 u_ 3 (se 0 (t45.getD (((w64 (x103 + 1)).tmod 3).toNat) 0) 2 (se 0 (t45.getD x103.toNat 0) 1 (se 0 f 0 0)))), I (se 1 u_ 3 (se 1 (t45.getD (((w64 (x103 + 1)).tmod 3).toNat) 0) 2 (se 1 (t45.getD x103.toNat 0) 1 (se 1 f 0 0)))), I (se 2 u_ 3 (se 2 (t45.getD (((w64 (x103 + 1)).tmod 3).toNat) 0) 2 (se 2 (t45.getD x103.toNat 0) 1 (se 2 f 0 0)))), I (se 3 u_ 3 (se 3 (t45.getD (((w64 (x103 + 1)).tmod 3).toNat) 0) 2 (se 3 (t45.getD x103.toNat 0) 1 (se 3 f 0 0))))]) HS Z Z Z Z Z c167 (htN na2 Z) Z Z (four Z Z Z Z) fun wd168 HS => nL (sQ ?_)))))))
   obtain ⟨c169, H⟩ := iN H
   obtain ⟨c171, H⟩ := iN H
   obtain ⟨c173, H⟩ := iN H
   obtain ⟨c175, H⟩ := iN H
   refine G.lexS mixed (fun w => St w0 w (Box b51 131 [I t36, I t37, I t38, I t39] :: L)) [2, 5, 8, 11] [0, 1, 3, 4, 6, 7, 9, 10, 2, 12, 5, 8, 11, 13, 14, 15, 16, 17, 18, 19] [] (by kernel_rfl) (by kernel_rfl) (HS.drew.pk 9 [7] Z) ?_
   replace HS := HS.drew
   refine GX.ps 1 Z (qL Z Z (fun _ _ g => GO.ixW Z Z Z U131 sz2 c161 Z g) Z (GX.ps 1 Z (qL Z Z (fun _ _ g => GO.ixW Z Z Z U131 sz2 c163 Z g) Z (GX.ps 1 Z (qL Z Z (fun _ _ g => GO.ixW Z Z Z U131 sz2 c165 Z g) Z (GX.ps 1 Z (qL Z Z (fun _ _ g => GO.ixW Z Z Z U131 sz2 c167 Z g) Z (GX.ls Z Z Z (HS.pk 9 [7] Z) (fun _ HS _ g => GO.ldW (j := 0) ([t36, t37, t38, t39] : List Int) HS Z Z Z c161 Z Z na2 Z g) Z (qL Z Z (fun _ _ g => GO.ixW Z Z Z U131 sz2 c169 Z g) Z (GX.ls Z Z Z (HS.pk 9 [7] Z) (fun _ HS _ g => GO.ldW (j := 0) ([t36, t37, t38, t39] : List Int) HS Z Z Z c163 Z Z na2 Z g) Z (GX.ls Z Z Z (HS.pk 9 [7] Z) (fun _ HS _ g => GO.ldW (j := 0) ([t36, t37, t38, t39] : List Int) HS Z Z Z c165 Z Z na2 Z g) Z (GX.ls Z Z Z (HS.pk 9 [7] Z) (fun _ HS _ g => GO.ldW (j := 0) ([t36, t37, t38, t39] : List Int) HS Z Z Z c167 Z Z na2 Z g) Z (GX.l2 Z (GO.stW (j := 0) (o := 0) (sz := 1) (vs := [I 1]) (fun u_ => [I (se 0 u_ 1 0), I (se 1 u_ 1 0), I (se 2 u_ 1 0), I (se 3 u_ 1 0)]) HS Z Z Z Z Z c169 (htN na2 Z) Z Z (four Z Z Z Z) fun wd170 HS => ?_))))))))))))))
   refine GX.fin (HS.pk 9 [7] Z) (qL Z Z (fun _ _ g => GO.ixW Z Z Z U131 sz2 c171 Z g) Z (GX.l2 Z (GO.stW (j := 0) (o := 0) (sz := 1) (vs := [I 0]) (fun u_ => [I (se 0 u_ 0 (se 0 (([t36, t37, t38, t39] : List Int).getD f.toNat 0) 1 0)), I (se 1 u_ 0 (se 1 (([t36, t37, t38, t39] : List Int).getD f.toNat 0) 1 0)), I (se 2 u_ 0 (se 2 (([t36, t37, t38, t39] : List Int).getD f.toNat 0) 1 0)), I (se 3 u_ 0 (se 3 (([t36, t37, t38, t39] : List Int).getD f.toNat 0) 1 0))]) HS Z Z Z Z Z c171 (htN na2 Z) Z Z (four Z Z Z Z) fun wd172 HS => GX.fin (HS.pk 9 [7] Z) (qL Z Z (fun _ _ g => GO.ixW Z Z Z U131 sz2 c173 Z g) Z (GX.l2 Z (GO.stW (j := 0) (o := 0) (sz := 1) (vs := [I 2]) (fun u_ => [I (se 0 u_ 2 (se 0 (([t36, t37, t38, t39] : List Int).getD (t45.getD x103.toNat 0).toNat 0) 0 (se 0 (([t36, t37, t38, t39] : List Int).getD f.toNat 0) 1 0))), I (se 1 u_ 2 (se 1 (([t36, t37, t38, t39] : List Int).getD (t45.getD x103.toNat 0).toNat 0) 0 (se 1 (([t36, t37, t38, t39] : List Int).getD f.toNat 0) 1 0))), I (se 2 u_ 2 (se 2 (([t36, t37, t38, t39] : List Int).getD (t45.getD x103.toNat 0).toNat 0) 0 (se 2 (([t36, t37, t38, t39] : List Int).getD f.toNat 0) 1 0))), I (se 3 u_ 2 (se 3 (([t36, t37, t38, t39] : List Int).getD (t45.getD x103.toNat 0).toNat 0) 0 (se 3 (([t36, t37, t38, t39] : List Int).getD f.toNat 0) 1 0)))]) HS Z Z Z Z Z c173 (htN na2 Z) Z Z (four Z Z Z Z) fun wd174 HS => GX.fin (HS.pk 9 [7] Z) (qL Z Z (fun _ _ g => GO.ixW Z Z Z U131 sz2 c175 Z g) Z (GX.l2 Z (GO.stW (j := 0) (o := 0) (sz := 1) (vs := [I 3]) (fun u_ => [I (se 0 u_ 3 (se 0 (([t36, t37, t38, t39] : List Int).getD (t45.getD (((w64 (x103 + 1)).tmod 3).toNat) 0).toNat 0) 2 (se 0 (([t36, t37, t38, t39] : List Int).getD (t45.getD x103.toNat 0).toNat 0) 0 (se 0 (([t36, t37, t38, t39] : List Int).getD f.toNat 0) 1 0)))), I (se 1 u_ 3 (se 1 (([t36, t37, t38, t39] : List Int).getD (t45.getD (((w64 (x103 + 1)).tmod 3).toNat) 0).toNat 0) 2 (se 1 (([t36, t37, t38, t39] : List Int).getD (t45.getD x103.toNat 0).toNat 0) 0 (se 1 (([t36, t37, t38, t39] : List Int).getD f.toNat 0) 1 0)))), I (se 2 u_ 3 (se 2 (([t36, t37, t38, t39] : List Int).getD (t45.getD (((w64 (x103 + 1)).tmod 3).toNat) 0).toNat 0) 2 (se 2 (([t36, t37, t38, t39] : List Int).getD (t45.getD x103.toNat 0).toNat 0) 0 (se 2 (([t36, t37, t38, t39] : List Int).getD f.toNat 0) 1 0)))), I (se 3 u_ 3 (se 3 (([t36, t37, t38, t39] : List Int).getD (t45.getD (((w64 (x103 + 1)).tmod 3).toNat) 0).toNat 0) 2 (se 3 (([t36, t37, t38, t39] : List Int).getD (t45.getD x103.toNat 0).toNat 0) 0 (se 3 (([t36, t37, t38, t39] : List Int).getD f.toNat 0) 1 0))))]) HS Z Z Z Z Z c175 (htN na2 Z) Z Z (four Z Z Z Z) fun wd176 HS => GX.fin (HS.pk 9 [7] Z) (GX.nil (sQ ?_)))))))))))
   obtain ⟨t177, h178, H⟩ := bI H
   refine rG (pS 4 Z (lW 1 HS Z ag131 ?_))
   replace HS := HS.pk 9 [3, 5, 0, 1, 2, 4, 6, 7, 8] Z
   refine fJ fok138 Z (impl_change_put.calls HS (ro 3 Z) (ro 4 Z) h178) (fun _ wd179 ⟨h180, HS⟩ => ⟨_, h180, (nL (sQ ?_))⟩)
   obtain ⟨t181, h182, H⟩ := bI H
   refine G.lex mixed [0, 1, 3, 4, 6, 2, 5, 7, 8] (by kernel_rfl) ?_
   replace HS := HS.drew
   refine GX.ps 1 Z (qL Z Z (fun _ _ g => fL b7 0 fl107_0 Z g) Z (GX.ps 1 Z (qL Z Z (fun _ _ g => GO.ixW Z Z Z U131 sz2 c163 Z g) Z (GX.ps 1 Z (GX.l1 Z Z Z (fun _ g => lB 4 HS Z na2 Z g) Z (GX.l1 Z Z Z (fun _ g => GO.ldW (j := 7) ([t36, t37, t38, t39] : List Int) HS Z Z Z c163 Z Z na2 Z g) Z (GX.l1 Z Z Z (fun _ g => lW 2 HS Z ag131 g) Z (GX.l2 Z ?_))))))))
   replace HS := HS.pk 9 [0, 1, 2, 3, 4, 5, 6, 7, 8] Z
   refine fJ fok138 Z (impl_change_put.calls HS (ro 3 Z) (ro 4 Z) h182) (fun _ wd183 ⟨h184, HS⟩ => ⟨_, h184, (GX.fin tv (GX.nil ?_))⟩)
   obtain ⟨t185, h186, H⟩ := bI H
   obtain ⟨c194, H⟩ := iN H
   refine G.lexS mixed (fun w => St w0 w (Box b28 104 [sV A29 t23 c30, .map (some b31), I t25, sV A100 a1 c101] :: L)) [4] [0, 1, 2, 3, 5, 6, 7, 8, 4, 9, 10, 11, 12, 13, 14, 15] [15] (by kernel_rfl) (by kernel_rfl) (HS.drew.pk 9 [0] Z) ?_
   replace HS := HS.drew
   refine GX.ps 2 Z (qL Z Z (fun _ _ g => GO.nilP Z Z Z g) Z (qL Z Z (fun _ _ g => fL b28 3 fl104_3 Z g) Z (GX.ps 3 Z (qL Z Z (fun _ _ g => GO.rem Z Z Z (by decide) Z g) Z (GX.ls Z Z Z (HS.pk 9 [0] Z) (fun _ HS _ g => lB 0 HS Z na102 Z g) Z (GX.l2 Z (fJ fok139 Z (impl_exchange.calls HS  h186) (fun _ wd187 ⟨h188, HS⟩ => ⟨_, h188, (GX.fin (HS.pk 9 [0] Z) (qL Z Z (fun _ _ g => GO.buildV (.agg [I x103, I 2, I ((w64 (x103 + 1)).tmod 3), I t185].toArray) Z Z (fun _ => by kernel_rfl) Z g) Z (GX.l2 Z (GO.buildS (el := 131) ([I x103, I 2, I ((w64 (x103 + 1)).tmod 3), I t185]) HS Z Z (fun _ => by kernel_rfl) Z fun b189 wd190 HS => GX.fin (HS.pk 10 [1] Z) (GX.l2 Z (GO.app1 (T := T_Arr4) (j := 7) (jb := 0) (⟨x103, 2, (w64 (x103 + 1)).tmod 3, t185⟩ : Arr4) HS Z Z flat_flat Z Z Z U102 inf131 Z Z Z c194 Z fun A192 c193 wd191 HS => ?_))))))⟩))))))))
   refine GX.fin (HS.pk 10 [1] Z) (qL Z Z (fun _ _ g => GO.nilP Z Z Z g) Z (qL Z Z (fun _ _ g => fL b28 3 fl104_3 Z g) Z (GX.l2 Z (GO.stBox (j := 1) (vs := [sV A192 (a1 ++ [(⟨x103, 2, (w64 (x103 + 1)).tmod 3, t185⟩ : Arr4)]) c193]) ([sV A29 t23 c30, .map (some b31), I t25, sV A192 (a1 ++ [(⟨x103, 2, (w64 (x103 + 1)).tmod 3, t185⟩ : Arr4)]) c193]) HS Z Z Z Z Z (htN na102 Z) Z Z Z fun wd195 HS => GX.finZ Z (GX.nil (rN 3 Z (gW (g1 f1 (lR _) _ _ _ _ _ _ H (HS.pk 10 [5, 1, 6, 2, 7, 8, 9] Z)) Z)))))))
  exact gW (k1 K (lR _) _ _ _ _ _ _ H (HS.pk 9 [7, 3, 4, 5, 6, 0, 1] Z)) Z
theorem impl_ends.calls {e_ r1 r2 : Int} (HS : St w0 w (L)) (H : impl_ends.f K e_ = some (r1, r2)) :
    Calls prog 150 #[I e_] w (impl_ends.post w0 L r1 r2) := by
  unfold impl_ends.f at H
  refine cG func150 Z ?_
  refine rN 7 Z ?_
  refine G.name (fun e1 d1 => ?_)
  have f1 : ∀ a1, a1 ≤ K → ∀ (e_2 x3 : Int) (w : World), impl_ends.l1 K a1 e_2 x3 = some (r1, r2) → St w0 w (L) → G prog 150 23 [(0, I e_2), (6, I x3)] e1 w (impl_ends.post w0 L r1 r2) := by
   refine lp (fun _ _ w H _ => by rw [impl_ends.l1] at H; cases H) fun b1 g1 c1 e_2 x3 w H HS => ?_
   rw [impl_ends.l1] at H
   subst d1
   refine rN 3 Z ?_
   rcases iS H with ⟨c6, H⟩ | ⟨c6, H⟩
   ·
    refine nB Z (tF c6) (rN 3 Z ?_)
    obtain ⟨rfl, rfl⟩ := some2 H
    exact G.ret2 _ _ func150 Z Z Z ⟨Z, HS⟩
   refine yB Z (tT c6) (rN 9 Z ?_)
   rcases iE H with ⟨c7, H⟩ | ⟨c7, H⟩
   ·
    refine yB Z (tT c7) (rN 2 Z ?_)
    obtain ⟨rfl, rfl⟩ := some2 H
    exact G.ret2 _ _ func150 Z Z Z ⟨Z, HS⟩
   refine nB Z (tF c7) (rN 4 Z (gW (c1 b1 (lR _) _ _ _ H HS) Z))
  exact gW (f1 K (lR _) _ _ _ H HS) Z
theorem impl_edge.calls {a_ b_ r1 : Int} (HS : St w0 w (L)) (H : impl_edge.f K a_ b_ = some r1) :
    Calls prog 151 #[I a_, I b_] w (impl_edge.post w0 L r1) := by
  unfold impl_edge.f at H
  refine cG func151 Z ?_
  refine rN 5 Z ?_
  refine G.nameT (fun c1 d1 => ?_)
  have b1 : ∀ a1, a1 ≤ K → ∀ (a_2 b_3 : Int) (w : World), impl_edge.j1 K a1 a_2 b_3 = some r1 → St w0 w (L) → G prog 151 20 [(0, I a_2), (1, I b_3)] c1 w (impl_edge.post w0 L r1) := by
   refine jp (fun _ _ w H _ => by rw [impl_edge.j1] at H; cases H) fun e1 f1 a_2 b_3 w H HS => ?_
   rw [impl_edge.j1] at H
   subst d1
   refine sQ (rG (pS 4 Z (GO.quo Z Z Z (by decide) Z (pS 6 Z (nL ?_)))))
   obtain rfl := sI H
   exact rT _ func151 Z Z ⟨Z, HS⟩
  rcases iS H with ⟨c4, H⟩ | ⟨c4, H⟩
  ·
   refine nB Z (tF c4) (G.skip (gW (b1 K (lR _) _ _ _ H HS) Z))
  refine yB Z (tT c4) (rN 1 Z (gW (b1 K (lR _) _ _ _ H HS) Z))
theorem impl_union.calls {sets : List Int} {i k_ : Int} {r1 : List Int} (HS : St w0 w (Own (TInt .i64) 2 A_a c_a uu sets :: L)) (H : impl_union.f K sets i k_ = some r1) :
    Calls prog 147 #[sV A_a sets c_a, I i, I k_] w (impl_union.post w0 L A_a c_a r1) := by
  unfold impl_union.f at H
  refine cG func147 Z ?_
  refine sQ ?_
  obtain ⟨c1, H⟩ := iN H
  have h2 := (rk (ro 0 Z) HS)
  obtain ⟨c3, H⟩ := iN H
  have h4 := (rk (ro 0 Z) HS)
  refine G.lex mixed [0, 1, 2, 4, 5, 6, 3, 8, 7, 9] (by kernel_rfl) ?_
  replace HS := HS.drew
  refine GX.ps 2 Z (qL Z Z (fun _ _ g => iX Z U56 sz2 h2 c1 g) Z (GX.ps 2 Z (qL Z Z (fun _ _ g => iX Z U56 sz2 h4 c3 g) Z (GX.l1 Z Z Z (fun _ g => GO.ldRd (T := (TInt .i64)) (n := k_.toNat) (o := 0) HS (ro 0 Z) Z Z (getD_some (d := 0) (ltN c1)) Z Z na2 Z g) Z (GX.ps 1 Z (GX.l1 Z Z Z (fun _ g => GO.ldRd (T := (TInt .i64)) (n := i.toNat) (o := 0) HS (ro 0 Z) Z Z (getD_some (d := 0) (ltN c3)) Z Z na2 Z g) Z (GX.ps 1 Z (GX.nil (sQ (rG (mV Z (lS Z Z U56 Z (mV Z (nL ?_))))))))))))))
  refine rN 2 Z ?_
  refine G.name (fun f1 e1 => ?_)
  have g1 : ∀ d1, d1 ≤ K → ∀ (x9 : List Int) (x10 : Int) (w : World), impl_union.l1 K d1 sets i k_ x9 x10 = some r1 → St w0 w (Own (TInt .i64) 2 A_a c_a uu x9 :: L) → G prog 147 33 [(0, sV A_a x9 c_a), (6, I (sets.getD k_.toNat 0)), (7, I (sets.getD i.toNat 0)), (18, sV A_a x9 c_a), (19, I (sets.length : Int)), (20, I x10)] f1 w (impl_union.post w0 L A_a c_a r1) := by
   refine lp (fun _ _ w H _ => by rw [impl_union.l1] at H; cases H) fun a1 h1 b1 x9 x10 w H HS => ?_
   rw [impl_union.l1] at H
   subst e1
   refine rN 3 Z ?_
   rcases iS H with ⟨c15, H⟩ | ⟨c15, H⟩
   ·
    refine nB Z (tF c15) (G.exit Z ?_)
    obtain rfl := sI H
    exact G.end0 func147 Z ⟨Z, HS⟩
   refine yB Z (tT c15) (rN 4 Z ?_)
   obtain ⟨c16, H⟩ := iN H
   refine rG (mV Z (iX Z U56 sz2 (rk (ro 0 Z) HS) c16 (GO.ldRd (T := (TInt .i64)) (n := x10.toNat) (o := 0) HS (ro 0 Z) Z Z (getD_some (d := 0) (ltN c16)) Z Z na2 Z (pS 2 Z (nL (rN 2 Z ?_))))))
   rcases iS H with ⟨c17, H⟩ | ⟨c17, H⟩
   ·
    refine nB Z (tF c17) (rN 4 Z (gW (b1 a1 (lR _) _ _ _ H HS) Z))
   refine yB Z (tT c17) (rG (pS 3 Z (iX Z U56 sz2 (rk (ro 0 Z) HS) c16 (GO.stRow (T := (TInt .i64)) (j := 0) (n := x10.toNat) (o := 0) (vs := [I (sets.getD i.toNat 0)]) (sets.getD i.toNat 0) HS Z flat_flat Z Z Z Z (htN na2 Z) Z (getD_some (d := 0) (ltN c16)) Z Z fun wd18 HS => nL (G.len (t := 0) (m := (x9.set x10.toNat (sets.getD i.toNat 0)).length) Z (by simp only [List.length_set] <;> rfl) (G.len (t := 18) (m := (x9.set x10.toNat (sets.getD i.toNat 0)).length) Z (by simp only [List.length_set] <;> rfl) (rN 3 Z (gW (b1 a1 (lR _) _ _ _ H HS) Z))))))))
  exact gW (g1 K (lR _) _ _ _ H HS) Z
theorem impl_Triangulation_edgeClasses_fn1_free.calls {tet f : Int} {g1 h1 : Int} {e1 f1 : Int} {d1 c1 : Int} {m1 : List Int} {a1 : Nat} {r1 : List Int} (HS : St w0 w (Box a1 56 [sV A_a m1 c_a] :: Own (TInt .i64) 2 A_a c_a uu m1 :: L)) (H : impl_Triangulation_edgeClasses_fn1_free.f K tet f g1 h1 e1 f1 d1 c1 m1 = some r1) :
    Calls prog 149 #[I tet, I f, .agg [I g1, I h1].toArray, .agg [I e1, I f1, I d1, I c1].toArray, pT a1] w (impl_Triangulation_edgeClasses_fn1_free.post w0 L a1 A_a c_a r1) := by
  unfold impl_Triangulation_edgeClasses_fn1_free.f at H
  refine cG func149 Z ?_
  refine sQ (rG (bA HS Z fun b1 wd2 HS => bA HS Z fun b3 wd4 HS => nL (rN 4 Z ?_)))
  refine G.name (fun p1 o1 => ?_)
  have q1 : ∀ n1, n1 ≤ K → ∀ (x24 : List Int) (x25 : Int) (w : World), impl_Triangulation_edgeClasses_fn1_free.l1 K n1 tet f g1 e1 f1 d1 c1 x24 x25 = some r1 → St w0 w (Box a1 56 [sV A_a x24 c_a] :: Own (TInt .i64) 2 A_a c_a uu x24 :: Box b1 107 [I g1, I h1] :: Box b3 131 [I e1, I f1, I d1, I c1] :: L) → G prog 149 46 [(0, I tet), (1, I f), (4, pT a1), (7, pT b1), (8, pT b3), (12, I x25)] p1 w (impl_Triangulation_edgeClasses_fn1_free.post w0 L a1 A_a c_a r1) := by
   refine lp (fun _ _ w H _ => by rw [impl_Triangulation_edgeClasses_fn1_free.l1] at H; cases H) fun i1 s1 k1 x24 x25 w H HS => ?_
   rw [impl_Triangulation_edgeClasses_fn1_free.l1] at H
   subst o1
   refine rN 3 Z ?_
   rcases iS H with ⟨c46, H⟩ | ⟨c46, H⟩
   ·
    refine nB Z (tF c46) (G.exit Z ?_)
    obtain rfl := sI H
    exact G.end0 func149 Z ⟨Z, (HS.pk 4 [0, 1] Z)⟩
   refine yB Z (tT c46) (rN 6 Z ?_)
   obtain ⟨t47, t48, h49, H⟩ := bind2_elim H
   refine rG (mV Z (fJ fok150 Z (impl_ends.calls HS  h49) (fun _ wd50 ⟨h51, HS⟩ => ⟨_, h51, (pS 5 Z (nL (sQ ?_)))⟩)))
   rcases iE H with ⟨c53, H⟩ | ⟨c53, H⟩
   ·
    refine rG (pS 4 Z (kN 23 Z (nT c53) (oF Z (oF Z (oF Z (GO.pickF Z Z Z Z Z (nL (rN 5 Z (gW (k1 i1 (lR _) _ _ _ H HS) Z)))))))))
   refine rG (pS 4 Z (kN 23 Z (nF c53) (oN Z (mV Z (bK (oN Z (mV Z (bK (oN Z (GO.neq Z Z Z Z (bK (GO.pickT Z Z Z Z Z (nL ?_)))))))))))))
   rcases iE H with ⟨c54, H⟩ | ⟨c54, H⟩
   ·
    refine nB Z (nT c54) (rN 4 Z (gW (k1 i1 (lR _) _ _ _ H HS) Z))
   refine yB Z (nF c54) ?_
   obtain ⟨c55, H⟩ := iN H
   obtain ⟨c56, H⟩ := iN H
   obtain ⟨t57, h58, H⟩ := bI H
   obtain ⟨t61, h62, H⟩ := bI H
   obtain ⟨c63, H⟩ := iN H
   refine G.lexS mixed (fun w => St w0 w (Box a1 56 [sV A_a x24 c_a] :: Box b1 107 [I g1, I h1] :: Box b3 131 [I e1, I f1, I d1, I c1] :: L)) [0, 6, 10, 13] [1, 2, 3, 4, 5, 8, 9, 11, 12, 0, 6, 7, 10, 13, 14, 15, 16] [] (by kernel_rfl) (by kernel_rfl) (HS.drew.pk 4 [0, 2, 3] Z) ?_
   replace HS := HS.drew
   refine GX.ps 4 Z (qL Z Z (fun _ _ g => fL b1 0 fl107_0 Z g) Z (GX.ps 1 Z (qL Z Z (fun _ _ g => GO.ixW Z Z Z U131 sz2 c55 Z g) Z (GX.ps 1 Z (qL Z Z (fun _ _ g => GO.ixW Z Z Z U131 sz2 c56 Z g) Z (GX.ls Z Z Z (HS.pk 4 [0, 2, 3] Z) (fun _ HS _ g => lB 0 HS Z na56 Z g) Z (GX.ls Z Z Z (HS.pk 4 [0, 2, 3] Z) (fun _ HS _ g => lB 1 HS Z na2 Z g) Z (GX.ps 1 Z (GX.ls Z Z Z (HS.pk 4 [0, 2, 3] Z) (fun _ HS _ g => GO.ldW (j := 2) ([e1, f1, d1, c1] : List Int) HS Z Z Z c55 Z Z na2 Z g) Z (GX.ls Z Z Z (HS.pk 4 [0, 2, 3] Z) (fun _ HS _ g => GO.ldW (j := 2) ([e1, f1, d1, c1] : List Int) HS Z Z Z c56 Z Z na2 Z g) Z (GX.l2 Z (fJ fok151 Z (impl_edge.calls HS  h58) (fun _ wd59 ⟨h60, HS⟩ => ⟨_, h60, (GX.fin (HS.pk 4 [0, 2, 3] Z) (GX.ps 1 Z ?_))⟩)))))))))))))
   refine GX.l2 Z ?_
   replace HS := HS.pk 4 [1, 0, 2, 3] Z
   refine fJ fok147 Z (impl_union.calls HS  h62) (fun _ wd64 ⟨h65, HS⟩ => ⟨_, h65, (GX.fin (HS.pk 4 [1, 2, 3] Z) (GX.nil ?_))⟩)
   replace HS := HS.boxEq (j := 1) (cs' := [sV A_a t61 c_a]) Z (by simp only [sV, List.length_set, c63] <;> rfl)
   refine rN 3 Z (gW (k1 i1 (lR _) _ _ _ H (HS.pk 4 [1, 0, 2, 3] Z)) Z)
  exact gW (q1 K (lR _) _ _ _ H (HS.pk 4 [2, 3, 1, 0] Z)) Z
theorem impl_Triangulation_glued_Triangulation_edgeClasses_fn1.calls {a1 : List (List GFace)} {e1 : List Int} {y_a : Nat → (Ty.slice 107 T_GFace).Lay} {c1 : Nat} {r1 : List Int} (HS : St w0 w (Box c1 56 [sV A_b e1 c_b] :: Own (TInt .i64) 2 A_b c_b uu e1 :: L)) (r_a : RdIn w0 L (Ty.slice 107 T_GFace) A_a c_a y_a a1) (H : impl_Triangulation_glued_Triangulation_edgeClasses_fn1.f K a1 e1 = some r1) :
    Calls prog 145 #[.agg [sV A_a a1 c_a].toArray, .func (.func 149) #[] #[pT c1]] w (impl_Triangulation_glued_Triangulation_edgeClasses_fn1.post w0 L c1 A_b c_b r1) := by
  unfold impl_Triangulation_glued_Triangulation_edgeClasses_fn1.f at H
  refine cG func145 Z ?_
  refine sQ (rG (bA HS Z fun b1 wd2 HS => nL (sQ (rG (fL b1 0 fl31_0 Z (lB 0 HS Z na29 Z (lS Z Z U29 Z (mV Z (nL (rN 2 Z ?_))))))))))
  refine G.name (fun o1 n1 => ?_)
  have k1 : ∀ i1, i1 ≤ K → ∀ (x79 : List Int) (x80 : Int) (w : World), impl_Triangulation_glued_Triangulation_edgeClasses_fn1.l1 K i1 a1 x79 x80 = some r1 → St w0 w (Box c1 56 [sV A_b x79 c_b] :: Own (TInt .i64) 2 A_b c_b uu x79 :: L) → G prog 145 36 [(1, .func (.func 149) #[] #[pT c1]), (9, sV A_a a1 c_a), (10, I (a1.length : Int)), (11, I x80)] o1 w (impl_Triangulation_glued_Triangulation_edgeClasses_fn1.post w0 L c1 A_b c_b r1) := by
   refine lp (fun _ _ w H _ => by rw [impl_Triangulation_glued_Triangulation_edgeClasses_fn1.l1] at H; cases H) fun f1 u1 m1 x79 x80 w H HS => ?_
   rw [impl_Triangulation_glued_Triangulation_edgeClasses_fn1.l1] at H
   subst n1
   refine rN 3 Z ?_
   rcases iS H with ⟨c157, H⟩ | ⟨c157, H⟩
   ·
    refine nB Z (tF c157) (G.exit Z ?_)
    obtain rfl := sI H
    exact G.end0 func145 Z ⟨Z, HS⟩
   refine yB Z (tT c157) (rN 4 Z ?_)
   obtain ⟨c158, H⟩ := iN H
   refine rG (mV Z (iX Z U29 sz77 (rk (rD 2 r_a) HS) c158 (GO.ldRd (T := (Ty.slice 107 T_GFace)) (n := x80.toNat) (o := 0) HS (rD 2 r_a) Z Z (getD_some (d := []) (ltN c158)) Z Z na77 Z (pS 2 Z (nL (sQ (rG (mV Z (lS Z Z U77 Z (mV Z (nL (rN 2 Z ?_))))))))))))
   refine G.name (fun p1 q1 => ?_)
   have t1 : ∀ g1, g1 ≤ f1 → ∀ (x183 : List Int) (x184 : Int) (w : World), impl_Triangulation_glued_Triangulation_edgeClasses_fn1.l4 K g1 a1 x80 x183 x184 = some r1 → St w0 w (Box c1 56 [sV A_b x183 c_b] :: Own (TInt .i64) 2 A_b c_b uu x183 :: L) → G prog 145 36 [(1, .func (.func 149) #[] #[pT c1]), (4, I x80), (9, sV A_a a1 c_a), (10, I (a1.length : Int)), (11, I x80), (16, sV ((y_a x80.toNat).A) (a1.getD x80.toNat []) ((y_a x80.toNat).c)), (17, I ((a1.getD x80.toNat []).length : Int)), (18, I x184)] p1 w (impl_Triangulation_glued_Triangulation_edgeClasses_fn1.post w0 L c1 A_b c_b r1) := by
    refine lp (fun _ _ w H _ => by rw [impl_Triangulation_glued_Triangulation_edgeClasses_fn1.l4] at H; cases H) fun d1 s1 h1 x183 x184 w H HS => ?_
    rw [impl_Triangulation_glued_Triangulation_edgeClasses_fn1.l4] at H
    subst q1
    refine rN 3 Z ?_
    rcases iS H with ⟨c209, H⟩ | ⟨c209, H⟩
    ·
     refine nB Z (tF c209) (rN 4 Z (gW (m1 d1 (Nat.le_of_succ_le s1) _ _ _ H HS) Z))
    refine yB Z (tT c209) (rN 4 Z ?_)
    obtain ⟨c210, H⟩ := iN H
    obtain ⟨e211, h212, H⟩ := bnd_elim H
    refine rG (mV Z (GO.ix Z Z Z U77 sz107 ((RdIn.elem (rD 2 r_a) c158.1 c158.2) _ HS).2.2.1 c210.1 c210.2 Z (GO.ldRdA (T := T_GFace) (n := x184.toNat) HS (RdIn.elem (rD 2 r_a) c158.1 c158.2) Z Z (getD_eq (ltN c210) h212) ag107 Z (GO.alloc HS Z zr107 Z Z fun b213 wd214 HS => aS Z (sW 0 HS Z ag107 Z fun wd215 HS => nL (sQ ?_))))))
    obtain ⟨t216, h217, H⟩ := bI H
    refine rG (lW 0 HS Z ag107 (fJ fok91 Z (impl_Face_isBoundary.calls HS  h217) (fun _ wd218 ⟨h219, HS⟩ => ⟨_, h219, (GO.not Z Z Z (nL ?_))⟩)))
    rcases iE H with ⟨c220, H⟩ | ⟨c220, H⟩
    ·
     refine nB Z (congrArg Bool.not c220) (rN 4 Z (gW (h1 d1 (lR _) _ _ _ H (HS.pk 3 [1, 2] Z)) Z))
    refine yB Z (congrArg Bool.not (bnot_of c220)) ?_
    obtain ⟨t221, t222, t223, t224, h225, H⟩ := bind4_elim H
    obtain ⟨t228, h229, H⟩ := bI H
    obtain ⟨c230, H⟩ := iN H
    refine G.lexS mixed (fun w => St w0 w (Box b213 107 [I e211.Tet, I e211.Perm] :: L)) [3, 5] [0, 1, 2, 4, 3, 5, 6, 7] [] (by kernel_rfl) (by kernel_rfl) (HS.drew.pk 3 [0] Z) ?_
    replace HS := HS.drew
    refine GX.ps 3 Z (qL Z Z (fun _ _ g => fL b213 1 fl107_1 Z g) Z (GX.ls Z Z Z (HS.pk 3 [0] Z) (fun _ HS _ g => lW 0 HS Z ag107 g) Z (GX.ls Z Z Z (HS.pk 3 [0] Z) (fun _ HS _ g => lB 0 HS Z na2 Z g) Z (GX.l2 Z (fJ fok93 Z (impl_perm.calls HS  h225) (fun _ wd226 ⟨h227, HS⟩ => ⟨_, h227, (GX.fin (HS.pk 3 [0] Z) (GX.l2 Z ?_))⟩))))))
    replace HS := HS.pk 3 [1, 2, 0] Z
    refine GO.clo Z Z func149 fok149.2.1 fok149.2.2 Z Z (impl_Triangulation_edgeClasses_fn1_free.calls HS  h229) (fun _ wd231 ⟨h232, HS⟩ => ⟨_, h232, (GX.fin (HS.pk 3 [2] Z) (GX.nil (rN 3 Z (gW (h1 d1 (lR _) _ _ _ H (HS.pk 3 [0, 1] Z)) Z))))⟩)
   exact gW (t1 f1 (lR _) _ _ _ H HS) Z
  exact gW (k1 K (lR _) _ _ _ H (HS.pk 3 [1, 2] Z)) Z
theorem impl_numbered.calls {roots : List Int} {r1 : List Int} (HS : St w0 w (L)) (r_a : RdIn w0 L (TInt .i64) A_a c_a uu roots) (H : impl_numbered.f K roots = some r1) :
    Calls prog 148 #[sV A_a roots c_a] w (impl_numbered.post w0 L r1) := by
  unfold impl_numbered.f at H
  refine cG func148 Z ?_
  refine rN 3 Z (rG (GO.newMapJ .i64 .i64 HS Z Z fun b1 wd2 HS => aS Z (nL (rN 4 Z (rG (mV Z (lS Z Z U56 Z (mV Z (nL (rN 2 Z ?_))))))))))
  refine G.name (fun m1 k1 => ?_)
  have q1 : ∀ g1, g1 ≤ K → ∀ (e1 : List (Int × Int)) (A17 : Option Addr) (c18 : Nat) (a1 : List Int) (x20 : Int) (w : World), impl_numbered.l1 K g1 roots e1 a1 x20 = some r1 → St w0 w (MapJ b1 .i64 .i64 e1 :: Own (TInt .i64) 2 A17 c18 uu a1 :: L) → G prog 148 36 [(3, .map (some b1)), (4, sV A17 a1 c18), (10, sV A_a roots c_a), (11, I (roots.length : Int)), (12, I x20)] m1 w (impl_numbered.post w0 L r1) := by
   refine lp (fun _ _ _ _ _ w H _ => by rw [impl_numbered.l1] at H; cases H) fun d1 t1 i1 e1 A17 c18 a1 x20 w H HS => ?_
   rw [impl_numbered.l1] at H
   subst k1
   refine rN 3 Z ?_
   rcases iS H with ⟨c34, H⟩ | ⟨c34, H⟩
   ·
    refine nB Z (tF c34) (rN 3 Z ?_)
    obtain rfl := sI H
    exact rT _ func148 Z Z ⟨_, _, Z, (HS.pk 2 [1] Z)⟩
   refine yB Z (tT c34) (rN 4 Z ?_)
   obtain ⟨c35, H⟩ := iN H
   refine rG (iX Z U56 sz2 (rk (rD 2 r_a) HS) c35 (GO.ldRd (T := (TInt .i64)) (n := x20.toNat) (o := 0) HS (rD 2 r_a) Z Z (getD_some (d := 0) (ltN c35)) Z Z na2 Z (aS Z (nL (rN 2 Z (rG (pS 2 Z (GO.lookOkJ (j := 0) HS Z Z Z Z U189 U2 zr2 Z (pS 5 Z (nL (rN 2 Z ?_)))))))))))
   refine G.nameT (fun s1 p1 => ?_)
   have f1 : ∀ h1, h1 ≤ d1 → ∀ (c1 : List (Int × Int)) (w : World), impl_numbered.j4 K h1 roots a1 x20 c1 = some r1 → St w0 w (MapJ b1 .i64 .i64 c1 :: Own (TInt .i64) 2 A17 c18 uu a1 :: L) → G prog 148 36 [(3, .map (some b1)), (4, sV A17 a1 c18), (6, I (roots.getD x20.toNat 0)), (10, sV A_a roots c_a), (11, I (roots.length : Int)), (12, I x20)] s1 w (impl_numbered.post w0 L r1) := by
    refine jp (fun _ w H _ => by rw [impl_numbered.j4] at H; cases H) fun o1 n1 c1 w H HS => ?_
    rw [impl_numbered.j4] at H
    subst p1
    obtain ⟨c44, H⟩ := iN H
    refine rG (pS 3 Z (GO.lookJ (j := 0) HS Z Z Z Z U189 U2 zr2 Z (GO.buildS (el := 2) ([I ((mget c1 (roots.getD x20.toNat 0)).getD 0)]) HS Z Z (fun _ => by kernel_rfl) Z fun b39 wd40 HS => GO.app1 (T := (TInt .i64)) (j := 2) (jb := 0) ((mget c1 (roots.getD x20.toNat 0)).getD 0) HS Z Z flat_flat Z Z Z U56 inf2 Z Z Z c44 Z fun A42 c43 wd41 HS => aS Z (nL (rN 3 Z (gW (i1 o1 (Nat.le_of_succ_le n1) _ _ _ _ _ _ H (HS.pk 3 [1, 2] Z)) Z))))))
   rcases iE H with ⟨c45, H⟩ | ⟨c45, H⟩
   ·
    refine nB Z (congrArg Bool.not c45) (G.skip (gW (f1 d1 (lR _) _ _ H HS) Z))
   refine yB Z (congrArg Bool.not (bnot_of c45)) (rG (pS 3 Z (GO.lenMJ (j := 0) HS Z Z Z U189 Z (GO.putMJ (j := 0) HS Z Z Z Z Z U189 U2 fun wd46 HS => nL (gW (f1 d1 (lR _) _ _ H HS) Z)))))
  replace HS := HS.nilRow (TInt .i64) 2 uu
  exact gW (q1 K (lR _) _ _ _ _ _ _ H (HS.pk 2 [1, 0] Z)) Z
theorem impl_Triangulation_edgeClasses.calls {a1 : List (List GFace)} {y_a : Nat → (Ty.slice 107 T_GFace).Lay} {r1 : List Int} (HS : St w0 w (L)) (r_a : RdIn w0 L (Ty.slice 107 T_GFace) A_a c_a y_a a1) (H : impl_Triangulation_edgeClasses.f K a1 = some r1) :
    Calls prog 124 #[.agg [sV A_a a1 c_a].toArray] w (impl_Triangulation_edgeClasses.post w0 L r1) := by
  unfold impl_Triangulation_edgeClasses.f at H
  refine cG func124 Z ?_
  refine sQ (rG (bA HS Z fun b1 wd2 HS => aS Z (nL (sQ ?_))))
  obtain ⟨t3, h4, H⟩ := bI H
  obtain ⟨t7, h8, H⟩ := bI H
  refine rG (fL b1 0 fl31_0 Z (lB 0 HS Z na29 Z (fJ fok49 Z (impl_size_impl_Face.calls HS (rD 1 r_a) h4) (fun _ wd5 ⟨h6, HS⟩ => ⟨_, h6, (GO.mul Z Z Z Z (fJ fok144 Z (impl_counting.calls HS  h8) (fun _ wd11 ⟨A9, c10, h12, HS⟩ => ⟨_, h12, (GO.alloc HS Z zr56 Z Z fun b13 wd14 HS => GO.stBox (j := 0) (vs := [sV A9 t7 c10]) ([sV A9 t7 c10]) HS Z Z Z Z Z (htN na56 Z) Z Z Z fun wd15 HS => nL (sQ ?_))⟩)))⟩))))
  obtain ⟨t16, h17, H⟩ := bI H
  obtain ⟨c18, H⟩ := iN H
  refine rG (lW 2 HS Z ag31 (GO.mkFunc Z Z Z Z ?_))
  replace HS := HS.pk 3 [0, 1, 2] Z
  refine fJ fok145 Z (impl_Triangulation_glued_Triangulation_edgeClasses_fn1.calls HS (rD 1 r_a) h17) (fun _ wd19 ⟨h20, HS⟩ => ⟨_, h20, (nL (sQ ?_))⟩)
  obtain ⟨t21, h22, H⟩ := bI H
  refine rG (lB 0 HS Z na56 Z (fJ fok148 Z (impl_numbered.calls HS (ro 1 Z) h22) (fun _ wd25 ⟨A23, c24, h26, HS⟩ => ⟨_, h26, (aS Z (nL ?_))⟩)))
  obtain rfl := sI H
  exact rT _ func124 Z Z ⟨_, _, Z, (HS.pk 4 [0] Z)⟩
theorem slices_Max_int64_int64.calls {x : List Int} {r1 : Int} (HS : St w0 w (L)) (r_a : RdIn w0 L (TInt .i64) A_a c_a uu x) (H : slices_Max_int64_int64.f K x = some r1) :
    Calls prog 168 #[sV A_a x c_a] w (slices_Max_int64_int64.post w0 L r1) := by
  unfold slices_Max_int64_int64.f at H
  refine cG func168 Z ?_
  refine rN 4 Z (rG (mV Z (lS Z Z U56 Z (GO.lss Z Z Z Z (nL ?_)))))
  rcases iE H with ⟨c2, H⟩ | ⟨c2, H⟩
  ·
   refine yB Z (tT c2) ?_
   cases H
  refine nB Z (tF c2) (rN 2 Z ?_)
  obtain ⟨c3, H⟩ := iN H
  refine rG (mV Z (iX Z U56 sz2 (rk r_a HS) c3 (GO.ldRd (T := (TInt .i64)) (n := 0) (o := 0) HS r_a Z Z (getD_some (d := 0) (ltN c3)) Z Z na2 Z (aS Z (nL (rN 5 Z ?_))))))
  refine G.name (fun d1 f1 => ?_)
  have e1 : ∀ a1, a1 ≤ K → ∀ (m_6 i_7 : Int) (w : World), slices_Max_int64_int64.l2 K a1 x m_6 i_7 = some r1 → St w0 w (L) → G prog 168 25 [(0, sV A_a x c_a), (3, I m_6), (4, I i_7)] d1 w (slices_Max_int64_int64.post w0 L r1) := by
   refine lp (fun _ _ w H _ => by rw [slices_Max_int64_int64.l2] at H; cases H) fun b1 g1 c1 m_6 i_7 w H HS => ?_
   rw [slices_Max_int64_int64.l2] at H
   subst f1
   refine rN 2 Z (rG (pS 2 Z (lS Z Z U56 Z (GO.lss Z Z Z Z (nL ?_)))))
   rcases iS H with ⟨c10, H⟩ | ⟨c10, H⟩
   ·
    refine nB Z (tF c10) (rN 3 Z ?_)
    obtain rfl := sI H
    exact rT _ func168 Z Z ⟨Z, HS⟩
   refine yB Z (tT c10) (rN 3 Z ?_)
   obtain ⟨c11, H⟩ := iN H
   refine rG (pS 3 Z (iX Z U56 sz2 (rk r_a HS) c11 (GO.ldRd (T := (TInt .i64)) (n := i_7.toNat) (o := 0) HS r_a Z Z (getD_some (d := 0) (ltN c11)) Z Z na2 Z (GO.max2 Z Z Z Z (aS Z (nL (rN 3 Z (gW (c1 b1 (lR _) _ _ _ H HS) Z))))))))
  exact gW (e1 K (lR _) _ _ _ H HS) Z
theorem impl_classCount.calls {classes : List Int} {r1 : Int} (HS : St w0 w (L)) (r_a : RdIn w0 L (TInt .i64) A_a c_a uu classes) (H : impl_classCount.f K classes = some r1) :
    Calls prog 160 #[sV A_a classes c_a] w (impl_classCount.post w0 L r1) := by
  unfold impl_classCount.f at H
  refine cG func160 Z ?_
  refine rN 4 Z (rG (mV Z (lS Z Z U56 Z (GO.eql Z Z Z Z (nL ?_)))))
  rcases iE H with ⟨c1, H⟩ | ⟨c1, H⟩
  ·
   refine yB Z (tT c1) (rN 2 Z ?_)
   obtain rfl := sI H
   exact rT _ func160 Z Z ⟨Z, HS⟩
  refine nB Z (tF c1) (rN 2 Z ?_)
  obtain ⟨t2, h3, H⟩ := bI H
  refine rG (mV Z (fJ fok168 Z (slices_Max_int64_int64.calls HS r_a h3) (fun _ wd4 ⟨h5, HS⟩ => ⟨_, h5, (pS 2 Z (nL ?_))⟩)))
  obtain rfl := sI H
  exact rT _ func160 Z Z ⟨Z, HS⟩
theorem impl_sign.calls {x r1 : Int} (HS : St w0 w (L)) (H : impl_sign.f x = some r1) :
    Calls prog 171 #[I x] w (impl_sign.post w0 L r1) := by
  unfold impl_sign.f at H
  refine cG func171 Z ?_
  refine rN 5 Z ?_
  rcases iE H with ⟨c1, H⟩ | ⟨c1, H⟩
  ·
   refine yB Z (tT c1) (rN 2 Z ?_)
   obtain rfl := sI H
   exact rT _ func171 Z Z ⟨Z, HS⟩
  refine nB Z (tF c1) (rN 3 Z ?_)
  obtain rfl := sI H
  exact rT _ func171 Z Z ⟨Z, HS⟩
theorem impl_Triangulation_edgeSigns_fn1_free.calls {next same : Int} {d1 a1 : List Int} {b1 : Int} {n1 : List (Int × Bool)} {e1 : List Int} {g1 : Nat} {A_a : Option Addr} {c_a i1 : Nat} {A_b : Option Addr} {c_b h1 : Nat} {m1 f1 k1 : Nat} {r1 r2 : List Int} {r3 : List (Int × Bool)} (HS : St w0 w (Box g1 56 [sV A_a d1 c_a] :: Own (TInt .i64) 2 A_a c_a uu d1 :: Box i1 56 [sV A_b a1 c_b] :: Own (TInt .i64) 2 A_b c_b uu a1 :: Box h1 3 [I b1] :: Box m1 199 [.map (some f1)] :: MapG f1 (Value.int .i64) Value.bool n1 :: Box k1 56 [sV A_c e1 c_c] :: L)) (r_c : RdIn w0 L (TInt .i64) A_c c_c uu e1) (H : impl_Triangulation_edgeSigns_fn1_free.f next same d1 a1 b1 n1 e1 = some (r1, r2, r3)) :
    Calls prog 170 #[I next, I same, pT g1, pT i1, pT h1, pT m1, pT k1] w (impl_Triangulation_edgeSigns_fn1_free.post w0 L b1 e1 g1 A_a c_a i1 h1 m1 f1 k1 A_c c_c r1 r2 r3) := by
  unfold impl_Triangulation_edgeSigns_fn1_free.f at H
  refine cG func170 Z ?_
  refine sQ ?_
  obtain ⟨c1, H⟩ := iN H
  have h2 := (rk (ro 3 Z) HS)
  obtain ⟨c3, H⟩ := iN H
  have h4 := (rk (ro 1 Z) HS)
  refine G.lex mixed [7, 0, 1, 2, 3, 4, 5, 6, 8, 9] (by kernel_rfl) ?_
  replace HS := HS.drew
  refine GX.ps 1 Z (GX.l1 Z Z Z (fun _ g => lB 0 HS Z na56 Z g) Z (GX.l1 Z Z Z (fun _ g => lB 2 HS Z na56 Z g) Z (GX.l1 Z Z Z (fun _ g => lB 4 HS Z na3 Z g) Z (qL Z Z (fun _ _ g => iX Z U56 sz2 h2 c1 g) Z (GX.l1 Z Z Z (fun _ g => GO.ldRd (T := (TInt .i64)) (n := b1.toNat) (o := 0) HS (ro 3 Z) Z Z (getD_some (d := 0) (ltN c1)) Z Z na2 Z g) Z (qL Z Z (fun _ _ g => iX Z U56 sz2 h4 c3 g) Z (GX.l1 Z Z Z (fun _ g => GO.ldRd (T := (TInt .i64)) (n := (a1.getD b1.toNat 0).toNat) (o := 0) HS (ro 1 Z) Z Z (getD_some (d := 0) (ltN c3)) Z Z na2 Z g) Z (GX.ps 2 Z (GX.nil (sQ ?_))))))))))
  obtain ⟨c5, H⟩ := iN H
  refine rG (lB 0 HS Z na56 Z (mV Z (iX Z U56 sz2 (rk (ro 1 Z) HS) c5 (GO.ldRd (T := (TInt .i64)) (n := next.toNat) (o := 0) HS (ro 1 Z) Z Z (getD_some (d := 0) (ltN c5)) Z Z na2 Z (nL (rN 3 Z ?_))))))
  rcases iS H with ⟨c6, H⟩ | ⟨c6, H⟩
  ·
   refine nB Z (tF c6) (sQ (rG (mV Z (GO.neg Z Z Z (pS 2 Z (nL ?_))))))
   rcases iS H with ⟨c15, H⟩ | ⟨c15, H⟩
   ·
    refine nB Z (tF c15) (rN 2 Z ?_)
    obtain ⟨rfl, rfl, rfl⟩ := some3 H
    exact G.end0 func170 Z ⟨_, _, Z, HS⟩
   refine yB Z (tT c15) ?_
   obtain ⟨c16, H⟩ := iN H
   refine G.lex mixed [2, 0, 1, 3, 4, 5] (by kernel_rfl) ?_
   replace HS := HS.drew
   refine GX.ps 1 Z (GX.l1 Z Z Z (fun _ g => lB 5 HS Z na199 Z g) Z (GX.l1 Z Z Z (fun _ g => lB 7 HS Z na56 Z g) Z (qL Z Z (fun _ _ g => iX Z U56 sz2 (rk (rD 8 r_c) HS) c16 g) Z (GX.l1 Z Z Z (fun _ g => GO.ldRd (T := (TInt .i64)) (n := next.toNat) (o := 0) HS (rD 8 r_c) Z Z (getD_some (d := 0) (ltN c16)) Z Z na2 Z g) Z (GX.l2 Z (GO.putMG (e1.getD next.toNat 0) true kok2 HS (j := 6) Z Z Z Z Z U199 fun wd17 HS => GX.fin tv (GX.nil (G.blockEnd ?_))))))))
   obtain ⟨rfl, rfl, rfl⟩ := some3 H
   exact G.end0 func170 Z ⟨_, _, Z, HS⟩
  refine yB Z (tT c6) (sQ (rG (lB 0 HS Z na56 Z (pS 2 Z (iX Z U56 sz2 (rk (ro 1 Z) HS) c5 (GO.stRow (T := (TInt .i64)) (j := 1) (n := next.toNat) (o := 0) (vs := [I (w64 ((d1.getD ((a1.getD b1.toNat 0).toNat) 0) * same))]) (w64 ((d1.getD ((a1.getD b1.toNat 0).toNat) 0) * same)) HS Z flat_flat Z Z Z Z (htN na2 Z) Z (getD_some (d := 0) (ltN c5)) Z Z fun wd7 HS => nL ?_))))))
  replace HS := HS.boxEq (j := 0) (cs' := [sV A_a (d1.set next.toNat (w64 ((d1.getD ((a1.getD b1.toNat 0).toNat) 0) * same))) c_a]) Z (by simp only [sV, List.length_set] <;> rfl)
  obtain ⟨c13, H⟩ := iN H
  refine rG (lB 2 HS Z na56 Z (mV Z (GO.buildS (el := 2) ([I next]) HS Z Z (fun _ => by kernel_rfl) Z fun b8 wd9 HS => GO.app1 (T := (TInt .i64)) (j := 4) (jb := 0) next HS Z Z flat_flat Z Z Z U56 inf2 Z Z Z c13 Z fun A11 c12 wd10 HS => GO.stBox (j := 3) (vs := [sV A11 (a1 ++ [next]) c12]) ([sV A11 (a1 ++ [next]) c12]) HS Z Z Z Z Z (htN na56 Z) Z Z Z fun wd14 HS => nL (G.blockEnd ?_))))
  obtain ⟨rfl, rfl, rfl⟩ := some3 H
  exact G.end0 func170 Z ⟨_, _, Z, (HS.pk 9 [1, 2, 3, 4, 5, 6, 7, 8] Z)⟩
theorem impl_Triangulation_neighbors_Triangulation_edgeSigns_fn1.calls {k1 : List (List GFace)} {id : Int} {n1 m1 : List Int} {d1 : Int} {s1 : List (Int × Bool)} {a1 : List Int} {y_a : Nat → (Ty.slice 107 T_GFace).Lay} {c1 : Nat} {A_b : Option Addr} {c_b e1 : Nat} {A_c : Option Addr} {c_c f1 : Nat} {i1 h1 g1 : Nat} {r1 r2 : List Int} {r3 : List (Int × Bool)} (HS : St w0 w (Box c1 56 [sV A_b n1 c_b] :: Own (TInt .i64) 2 A_b c_b uu n1 :: Box e1 56 [sV A_c m1 c_c] :: Own (TInt .i64) 2 A_c c_c uu m1 :: Box f1 3 [I d1] :: Box i1 199 [.map (some h1)] :: MapG h1 (Value.int .i64) Value.bool s1 :: Box g1 56 [sV A_d a1 c_d] :: L)) (r_a : RdIn w0 L (Ty.slice 107 T_GFace) A_a c_a y_a k1) (r_d : RdIn w0 L (TInt .i64) A_d c_d uu a1) (H : impl_Triangulation_neighbors_Triangulation_edgeSigns_fn1.f K k1 id n1 m1 d1 s1 a1 = some (r1, r2, r3)) :
    Calls prog 169 #[.agg [sV A_a k1 c_a].toArray, I id, .func (.func 170) #[] #[pT c1, pT e1, pT f1, pT i1, pT g1]] w (impl_Triangulation_neighbors_Triangulation_edgeSigns_fn1.post w0 L d1 a1 c1 A_b c_b e1 f1 i1 h1 g1 A_d c_d r1 r2 r3) := by
  unfold impl_Triangulation_neighbors_Triangulation_edgeSigns_fn1.f at H
  refine cG func169 Z ?_
  refine sQ (rG (bA HS Z fun b1 wd2 HS => nL (sQ (rG (mV Z (GO.quo Z Z Z (by decide) Z (aS Z (nL (sQ ?_)))))))))
  obtain ⟨t3, t4, h5, H⟩ := bind2_elim H
  refine rG (mV Z (GO.rem Z Z Z (by decide) Z (fJ fok150 Z (impl_ends.calls HS  h5) (fun _ wd6 ⟨h7, HS⟩ => ⟨_, h7, (pS 5 Z (nL (sQ ?_)))⟩))))
  obtain ⟨t10, h11, H⟩ := bI H
  refine rG (pS 2 Z (GO.buildS (el := 2) ([I t3, I t4]) HS Z Z (fun _ => by kernel_rfl) Z fun b8 wd9 HS => ?_))
  replace HS := HS.boxRow (T := (TInt .i64)) (j := 0) Z flat_flat uu ([t3, t4] : List Int) Z (bndL Z)
  refine GO.lenC (t := 23) (m := ([t3, t4] : List Int).length) (c' := ([t3, t4] : List Int).length) Z Z Z (fJ fok137 Z (impl_others.calls HS (ro 0 Z) h11) (fun _ wd14 ⟨A12, c13, h15, HS⟩ => ⟨_, h15, (lS Z Z U56 Z (mV Z (nL (rN 2 Z ?_))))⟩))
  refine G.name (fun v1 t1 => ?_)
  have u1 : ∀ o1, o1 ≤ K → ∀ (x59 : List Int) (A60 : Option Addr) (c61 : Nat) (x62 : List Int) (x63 : List (Int × Bool)) (x64 : Int) (w : World), impl_Triangulation_neighbors_Triangulation_edgeSigns_fn1.l1 K o1 k1 id d1 a1 t3 t4 t10 x59 x62 x63 x64 = some (r1, r2, r3) → St w0 w (Box c1 56 [sV A_b x59 c_b] :: Own (TInt .i64) 2 A_b c_b uu x59 :: Box e1 56 [sV A60 x62 c61] :: Own (TInt .i64) 2 A60 c61 uu x62 :: Box f1 3 [I d1] :: Box i1 199 [.map (some h1)] :: MapG h1 (Value.int .i64) Value.bool x63 :: Box g1 56 [sV A_d a1 c_d] :: Box b1 31 [sV A_a k1 c_a] :: Own (TInt .i64) 2 A12 c13 uu t10 :: L) → G prog 169 65 [(2, .func (.func 170) #[] #[pT c1, pT e1, pT f1, pT i1, pT g1]), (3, pT b1), (6, I (w64 (id.tdiv 6))), (7, I t3), (8, I t4), (24, sV A12 t10 c13), (25, I (t10.length : Int)), (26, I x64)] v1 w (impl_Triangulation_neighbors_Triangulation_edgeSigns_fn1.post w0 L d1 a1 c1 A_b c_b e1 f1 i1 h1 g1 A_d c_d r1 r2 r3) := by
   refine lp (fun _ _ _ _ _ _ w H _ => by rw [impl_Triangulation_neighbors_Triangulation_edgeSigns_fn1.l1] at H; cases H) fun p1 x1 q1 x59 A60 c61 x62 x63 x64 w H HS => ?_
   rw [impl_Triangulation_neighbors_Triangulation_edgeSigns_fn1.l1] at H
   subst t1
   refine rN 3 Z ?_
   rcases iS H with ⟨c108, H⟩ | ⟨c108, H⟩
   ·
    refine nB Z (tF c108) (G.exit Z ?_)
    obtain ⟨rfl, rfl, rfl⟩ := some3 H
    exact G.end0 func169 Z ⟨_, _, Z, (HS.pk 10 [0, 1, 2, 3, 4, 5, 6, 7] Z)⟩
   refine yB Z (tT c108) (rN 4 Z ?_)
   obtain ⟨c109, H⟩ := iN H
   refine rG (iX Z U56 sz2 (rk (ro 9 Z) HS) c109 (GO.ldRd (T := (TInt .i64)) (n := x64.toNat) (o := 0) HS (ro 9 Z) Z Z (getD_some (d := 0) (ltN c109)) Z Z na2 Z (aS Z (nL (sQ ?_)))))
   obtain ⟨c110, H⟩ := iN H
   obtain ⟨c111, H⟩ := iN H
   obtain ⟨e112, h113, H⟩ := bnd_elim H
   refine rG (fL b1 0 fl31_0 Z (lB 8 HS Z na29 Z (mV Z (iX Z U29 sz77 (rk (rD 10 r_a) HS) c110 (GO.ldRd (T := (Ty.slice 107 T_GFace)) (n := (w64 (id.tdiv 6)).toNat) (o := 0) HS (rD 10 r_a) Z Z (getD_some (d := []) (ltN c110)) Z Z na77 Z (mV Z (GO.ix Z Z Z U77 sz107 ((RdIn.elem (rD 10 r_a) c110.1 c110.2) _ HS).2.2.1 c111.1 c111.2 Z (GO.ldRdA (T := T_GFace) (n := (t10.getD x64.toNat 0).toNat) HS (RdIn.elem (rD 10 r_a) c110.1 c110.2) Z Z (getD_eq (ltN c111) h113) ag107 Z (GO.alloc HS Z zr107 Z Z fun b114 wd115 HS => sW 0 HS Z ag107 Z fun wd116 HS => nL (rN 2 Z ?_))))))))))
   obtain ⟨t117, h118, H⟩ := bI H
   refine rG (lW 0 HS Z ag107 (fJ fok91 Z (impl_Face_isBoundary.calls HS  h118) (fun _ wd119 ⟨h120, HS⟩ => ⟨_, h120, (nL ?_)⟩)))
   rcases iE H with ⟨c121, H⟩ | ⟨c121, H⟩
   ·
    refine yB Z c121 (rN 3 Z (gW (q1 p1 (lR _) _ _ _ _ _ _ _ H (HS.pk 11 [1, 2, 3, 4, 5, 6, 7, 8, 9, 10] Z)) Z))
   refine nB Z (bnot_of c121) (rN 2 Z ?_)
   obtain ⟨t122, t123, t124, t125, h126, H⟩ := bind4_elim H
   refine rG (fL b114 1 fl107_1 Z (lB 0 HS Z na2 Z (fJ fok93 Z (impl_perm.calls HS  h126) (fun _ wd127 ⟨h128, HS⟩ => ⟨_, h128, (GO.alloc HS Z zr131 Z Z fun b129 wd130 HS => sW 0 HS Z ag131 Z fun wd131 HS => nL ?_)⟩))))
   obtain ⟨c132, H⟩ := iN H
   obtain ⟨c133, H⟩ := iN H
   obtain ⟨t134, h135, H⟩ := bI H
   obtain ⟨t138, h139, H⟩ := bI H
   obtain ⟨t142, t143, t144, h145, H⟩ := bind3_elim H
   obtain ⟨c146, H⟩ := iN H
   refine G.lexS mixed (fun w => St w0 w (Box b129 131 [I t122, I t123, I t124, I t125] :: Box b114 107 [I e112.Tet, I e112.Perm] :: L)) [2, 6, 9, 14, 17] [0, 1, 4, 5, 7, 8, 12, 13, 15, 16, 2, 3, 6, 9, 14, 17, 18, 10, 11, 19, 20] [] (by kernel_rfl) (by kernel_rfl) (HS.drew.pk 12 [0, 1] Z) ?_
   replace HS := HS.drew
   refine GX.ps 1 Z (qL Z Z (fun _ _ g => fL b114 0 fl107_0 Z g) Z (GX.ps 1 Z (qL Z Z (fun _ _ g => GO.ixW Z Z Z U131 sz2 c132 Z g) Z (GX.ps 1 Z (qL Z Z (fun _ _ g => GO.ixW Z Z Z U131 sz2 c133 Z g) Z (GX.ps 1 Z (qL Z Z (fun _ _ g => GO.ixW Z Z Z U131 sz2 c133 Z g) Z (GX.ps 1 Z (qL Z Z (fun _ _ g => GO.ixW Z Z Z U131 sz2 c132 Z g) Z (GX.ls Z Z Z (HS.pk 12 [0, 1] Z) (fun _ HS _ g => lB 1 HS Z na2 Z g) Z (GX.ps 1 Z (GX.ls Z Z Z (HS.pk 12 [0, 1] Z) (fun _ HS _ g => GO.ldW (j := 0) ([t122, t123, t124, t125] : List Int) HS Z Z Z c132 Z Z na2 Z g) Z (GX.ls Z Z Z (HS.pk 12 [0, 1] Z) (fun _ HS _ g => GO.ldW (j := 0) ([t122, t123, t124, t125] : List Int) HS Z Z Z c133 Z Z na2 Z g) Z (GX.ls Z Z Z (HS.pk 12 [0, 1] Z) (fun _ HS _ g => GO.ldW (j := 0) ([t122, t123, t124, t125] : List Int) HS Z Z Z c133 Z Z na2 Z g) Z ?_))))))))))))))
   refine GX.ls Z Z Z (HS.pk 12 [0, 1] Z) (fun _ HS _ g => GO.ldW (j := 0) ([t122, t123, t124, t125] : List Int) HS Z Z Z c132 Z Z na2 Z g) Z (GX.ps 1 Z (GX.l2 Z (fJ fok151 Z (impl_edge.calls HS  h135) (fun _ wd136 ⟨h137, HS⟩ => ⟨_, h137, (GX.fin (HS.pk 12 [0, 1] Z) (GX.ps 1 Z (GX.l2 Z (fJ fok171 Z (impl_sign.calls HS  h139) (fun _ wd140 ⟨h141, HS⟩ => ⟨_, h141, (GX.fin (HS.pk 12 [0, 1] Z) (GX.l2 Z ?_))⟩)))))⟩))))
   replace HS := HS.pk 12 [2, 3, 4, 5, 6, 7, 8, 9, 0, 1, 10, 11] Z
   refine GO.clo Z Z func170 fok170.2.1 fok170.2.2 Z Z (impl_Triangulation_edgeSigns_fn1_free.calls HS (rD 4 r_d) h145) (fun _ wd149 ⟨A147, c148, h150, HS⟩ => ⟨_, h150, (GX.fin (HS.pk 12 [8, 9] Z) (GX.nil (rN 3 Z (gW (q1 p1 (lR _) _ _ _ _ _ _ _ H (HS.pk 12 [0, 1, 2, 3, 4, 5, 6, 7, 10, 11] Z)) Z))))⟩)
  exact gW (u1 K (lR _) _ _ _ _ _ _ _ H (HS.pk 11 [3, 4, 5, 6, 7, 8, 9, 10, 2, 0] Z)) Z
theorem impl_Triangulation_edgeSigns.calls {d1 : List (List GFace)} {y_a : Nat → (Ty.slice 107 T_GFace).Lay} {r1 : List Int} (HS : St w0 w (L)) (r_a : RdIn w0 L (Ty.slice 107 T_GFace) A_a c_a y_a d1) (H : impl_Triangulation_edgeSigns.f K d1 = some r1) :
    Calls prog 161 #[.agg [sV A_a d1 c_a].toArray] w (impl_Triangulation_edgeSigns.post w0 L r1) := by
  unfold impl_Triangulation_edgeSigns.f at H
  refine cG func161 Z ?_
  refine sQ (rG (bA HS Z fun b1 wd2 HS => aS Z (nL (sQ ?_))))
  obtain ⟨t3, h4, H⟩ := bI H
  refine rG (fL b1 0 fl31_0 Z (lB 0 HS Z na29 Z (fJ fok49 Z (impl_size_impl_Face.calls HS (rD 1 r_a) h4) (fun _ wd5 ⟨h6, HS⟩ => ⟨_, h6, (pS 2 Z (nL (sQ ?_)))⟩))))
  obtain ⟨c7, H⟩ := iN H
  obtain ⟨c8, H⟩ := iN H
  refine rG (mV Z (GO.make (T := (TInt .i64)) 0 () HS flat_flat Z Z Z U56 inf2 Z Z Z c7 c8 Z fun b9 wd10 HS => GO.alloc HS Z zr56 Z Z fun b11 wd12 HS => GO.stBox (j := 0) (vs := [sV (sb b9) (List.replicate (w64 (6 * t3)).toNat (0 : Int)) ((w64 (6 * t3)).toNat)]) ([sV (sb b9) (List.replicate (w64 (6 * t3)).toNat (0 : Int)) ((w64 (6 * t3)).toNat)]) HS Z Z Z Z Z (htN na56 Z) Z Z Z fun wd13 HS => nL (sQ ?_)))
  obtain ⟨t14, h15, H⟩ := bI H
  refine rG (lW 2 HS Z ag31 (fJ fok124 Z (impl_Triangulation_edgeClasses.calls HS (rD 3 r_a) h15) (fun _ wd18 ⟨A16, c17, h19, HS⟩ => ⟨_, h19, (GO.alloc HS Z zr56 Z Z fun b20 wd21 HS => GO.stBox (j := 0) (vs := [sV A16 t14 c17]) ([sV A16 t14 c17]) HS Z Z Z Z Z (htN na56 Z) Z Z Z fun wd22 HS => nL (sQ (rG (GO.newMapG (Value.int .i64) Value.bool HS Z Z fun b23 wd24 HS => GO.alloc HS Z zr199 Z Z fun b25 wd26 HS => GO.stBox (j := 0) (vs := [.map (some b23)]) ([.map (some b23)]) HS Z Z Z Z Z (htN na199 Z) Z Z Z fun wd27 HS => nL (rN 5 Z ?_)))))⟩)))
  refine G.name (fun e2 x1 => ?_)
  have c2 : ∀ m1, m1 ≤ K → ∀ (c1 : List Int) (f1 : List (Int × Bool)) (x117 : Int) (w : World), impl_Triangulation_edgeSigns.l1 K m1 d1 t3 t14 c1 f1 x117 = some r1 → St w0 w (Box b1 31 [sV A_a d1 c_a] :: Box b11 56 [sV (sb b9) c1 ((w64 (6 * t3)).toNat)] :: Own (TInt .i64) 2 (sb b9) ((w64 (6 * t3)).toNat) uu c1 :: Box b20 56 [sV A16 t14 c17] :: Own (TInt .i64) 2 A16 c17 uu t14 :: Box b25 199 [.map (some b23)] :: MapG b23 (Value.int .i64) Value.bool f1 :: L) → G prog 161 65 [(1, pT b1), (4, pT b11), (5, pT b20), (6, pT b25), (20, I (w64 (6 * t3))), (21, I x117)] e2 w (impl_Triangulation_edgeSigns.post w0 L r1) := by
   refine lp (fun _ _ _ w H _ => by rw [impl_Triangulation_edgeSigns.l1] at H; cases H) fun e1 h2 p1 c1 f1 x117 w H HS => ?_
   rw [impl_Triangulation_edgeSigns.l1] at H
   subst x1
   refine rN 3 Z ?_
   rcases iS H with ⟨c205, H⟩ | ⟨c205, H⟩
   ·
    refine nB Z (tF c205) (rN 3 Z (rG (lB 1 HS Z na56 Z (lS Z Z U56 Z (mV Z (nL (rN 2 Z ?_)))))))
    refine G.name (fun y1 u1 => ?_)
    have b2 : ∀ n1, n1 ≤ e1 → ∀ (g1 : List Int) (x279 : Int) (w : World), impl_Triangulation_edgeSigns.l7 K n1 t14 c1 f1 g1 x279 = some r1 → St w0 w (Box b11 56 [sV (sb b9) g1 ((w64 (6 * t3)).toNat)] :: Own (TInt .i64) 2 (sb b9) ((w64 (6 * t3)).toNat) uu g1 :: Box b20 56 [sV A16 t14 c17] :: Own (TInt .i64) 2 A16 c17 uu t14 :: Box b25 199 [.map (some b23)] :: MapG b23 (Value.int .i64) Value.bool f1 :: L) → G prog 161 65 [(4, pT b11), (5, pT b20), (6, pT b25), (50, I (c1.length : Int)), (51, I x279)] y1 w (impl_Triangulation_edgeSigns.post w0 L r1) := by
     refine lp (fun _ _ w H _ => by rw [impl_Triangulation_edgeSigns.l7] at H; cases H) fun t1 g2 q1 g1 x279 w H HS => ?_
     rw [impl_Triangulation_edgeSigns.l7] at H
     subst u1
     refine rN 3 Z ?_
     rcases iS H with ⟨c286, H⟩ | ⟨c286, H⟩
     ·
      refine nB Z (tF c286) (rN 2 Z (rG (lB 0 HS Z na56 Z (aS Z (nL ?_)))))
      obtain rfl := sI H
      exact rT _ func161 Z Z ⟨_, _, Z, (HS.pk 6 [1] Z)⟩
     refine yB Z (tT c286) (rN 6 Z ?_)
     obtain ⟨c287, H⟩ := iN H
     have h288 := (rk (ro 3 Z) HS)
     refine G.lex mixed [2, 0, 1, 3, 4, 5] (by kernel_rfl) ?_
     replace HS := HS.drew
     refine GX.ps 1 Z (GX.l1 Z Z Z (fun _ g => lB 4 HS Z na199 Z g) Z (GX.l1 Z Z Z (fun _ g => lB 2 HS Z na56 Z g) Z (qL Z Z (fun _ _ g => iX Z U56 sz2 h288 c287 g) Z (GX.l1 Z Z Z (fun _ g => GO.ldRd (T := (TInt .i64)) (n := x279.toNat) (o := 0) HS (ro 3 Z) Z Z (getD_some (d := 0) (ltN c287)) Z Z na2 Z g) Z (GX.l1 Z Z Z (fun _ g => GO.lookG false (t14.getD x279.toNat 0) kok2 HS (j := 5) Z Z Z Z U199 zr4 Z Z g) Z (GX.nil ?_))))))
     rcases iS H with ⟨c289, H⟩ | ⟨c289, H⟩
     ·
      refine nB Z (bnot_of c289) (rN 4 Z (gW (q1 t1 (lR _) _ _ _ H HS) Z))
     refine yB Z c289 ?_
     obtain ⟨c290, H⟩ := iN H
     refine rG (lB 0 HS Z na56 Z (mV Z (iX Z U56 sz2 (fun _ => ⟨_, _, Z⟩) c290 (GO.stRow (T := (TInt .i64)) (j := 1) (n := x279.toNat) (o := 0) (vs := [I 0]) 0 HS Z flat_flat Z Z Z Z (htN na2 Z) Z (getD_some (d := 0) (ltN c290)) Z Z fun wd291 HS => nL ?_))))
     replace HS := HS.boxEq (j := 0) (cs' := [sV (sb b9) (g1.set x279.toNat 0) ((w64 (6 * t3)).toNat)]) Z (by simp only [sV, List.length_set] <;> rfl)
     refine rN 3 Z (gW (q1 t1 (lR _) _ _ _ H HS) Z)
    exact gW (b2 e1 (lR _) _ _ _ H (HS.pk 7 [1, 2, 3, 4, 5, 6] Z)) Z
   refine yB Z (tT c205) (rN 7 Z ?_)
   obtain ⟨c206, H⟩ := iN H
   refine rG (lB 1 HS Z na56 Z (mV Z (iX Z U56 sz2 (fun _ => ⟨_, _, Z⟩) c206 (GO.ldRd (T := (TInt .i64)) (n := x117.toNat) (o := 0) HS (ro 2 Z) Z Z (getD_some (d := 0) (ltN c206)) Z Z na2 Z (GO.neq Z Z Z Z (nL ?_))))))
   rcases iS H with ⟨c207, H⟩ | ⟨c207, H⟩
   ·
    refine yB Z (nF c207) (rN 3 Z (gW (p1 e1 (lR _) _ _ _ _ H HS) Z))
   refine nB Z (nT c207) (rN 2 Z (rG (lB 1 HS Z na56 Z (mV Z (iX Z U56 sz2 (fun _ => ⟨_, _, Z⟩) c206 (GO.stRow (T := (TInt .i64)) (j := 2) (n := x117.toNat) (o := 0) (vs := [I 1]) 1 HS Z flat_flat Z Z Z Z (htN na2 Z) Z (getD_some (d := 0) (ltN c206)) Z Z fun wd208 HS => nL ?_))))))
   replace HS := HS.boxEq (j := 1) (cs' := [sV (sb b9) (c1.set x117.toNat 1) ((w64 (6 * t3)).toNat)]) Z (by simp only [sV, List.length_set] <;> rfl)
   refine sQ (rG (mV Z (GO.buildS (el := 2) ([I x117]) HS Z Z (fun _ => by kernel_rfl) Z fun b209 wd210 HS => GO.alloc HS Z zr56 Z Z fun b211 wd212 HS => ?_)))
   replace HS := HS.boxRow (T := (TInt .i64)) (j := 1) Z flat_flat uu ([x117] : List Int) Z (bndL Z)
   refine GO.lenC (t := 33) (m := ([x117] : List Int).length) (c' := ([x117] : List Int).length) Z Z Z (GO.stBox (j := 0) (vs := [sV (sb b209) ([x117] : List Int) (([x117] : List Int).length)]) ([sV (sb b209) ([x117] : List Int) (([x117] : List Int).length)]) HS Z Z Z Z Z (htN na56 Z) Z Z Z fun wd213 HS => nL (sQ (rG (GO.alloc HS Z zr3 Z Z fun b214 wd215 HS => GO.stBox (j := 0) (vs := [I 0]) ([I 0]) HS Z Z Z Z Z (htN na3 Z) Z Z Z fun wd216 HS => nL (rN 2 Z ?_)))))
   refine G.name (fun d2 z1 => ?_)
   have f2 : ∀ s1, s1 ≤ e1 → ∀ (h1 : List Int) (k1 : List (Int × Bool)) (A235 : Option Addr) (c236 : Nat) (i1 : List Int) (b238 : Nat) (a1 : Int) (w : World), impl_Triangulation_edgeSigns.l6 K s1 d1 t3 t14 x117 h1 k1 i1 a1 = some r1 → St w0 w (Box b1 31 [sV A_a d1 c_a] :: Box b11 56 [sV (sb b9) h1 ((w64 (6 * t3)).toNat)] :: Own (TInt .i64) 2 (sb b9) ((w64 (6 * t3)).toNat) uu h1 :: Box b20 56 [sV A16 t14 c17] :: Own (TInt .i64) 2 A16 c17 uu t14 :: Box b25 199 [.map (some b23)] :: MapG b23 (Value.int .i64) Value.bool k1 :: Box b211 56 [sV A235 i1 c236] :: Own (TInt .i64) 2 A235 c236 uu i1 :: Box b238 3 [I a1] :: L) → G prog 161 65 [(1, pT b1), (4, pT b11), (5, pT b20), (6, pT b25), (8, pT b211), (9, pT b238), (20, I (w64 (6 * t3))), (21, I x117)] d2 w (impl_Triangulation_edgeSigns.post w0 L r1) := by
    refine lp (fun _ _ _ _ _ _ _ w H _ => by rw [impl_Triangulation_edgeSigns.l6] at H; cases H) fun o1 v1 a2 h1 k1 A235 c236 i1 b238 a1 w H HS => ?_
    rw [impl_Triangulation_edgeSigns.l6] at H
    subst z1
    refine rN 2 Z (rG (lB 9 HS Z na3 Z (lB 7 HS Z na56 Z (lS Z Z U56 Z (GO.lss Z Z Z Z (nL ?_))))))
    rcases iS H with ⟨c256, H⟩ | ⟨c256, H⟩
    ·
     refine nB Z (tF c256) (rN 4 Z (gW (p1 o1 (Nat.le_of_succ_le v1) _ _ _ _ H (HS.pk 10 [0, 1, 2, 3, 4, 5, 6] Z)) Z))
    refine yB Z (tT c256) (rN 3 Z ?_)
    obtain ⟨c257, H⟩ := iN H
    have h258 := (rk (ro 8 Z) HS)
    obtain ⟨t259, t260, t261, h262, H⟩ := bind3_elim H
    obtain ⟨c263, H⟩ := iN H
    refine G.lex mixed [5, 0, 1, 2, 3, 4, 6] (by kernel_rfl) ?_
    replace HS := HS.drew
    refine qL Z Z (fun _ _ g => GO.mkFunc Z Z Z Z g) Z (GX.l1 Z Z Z (fun _ g => lW 0 HS Z ag31 g) Z (GX.l1 Z Z Z (fun _ g => lB 7 HS Z na56 Z g) Z (GX.l1 Z Z Z (fun _ g => lB 9 HS Z na3 Z g) Z (qL Z Z (fun _ _ g => iX Z U56 sz2 h258 c257 g) Z (GX.l1 Z Z Z (fun _ g => GO.ldRd (T := (TInt .i64)) (n := a1.toNat) (o := 0) HS (ro 8 Z) Z Z (getD_some (d := 0) (ltN c257)) Z Z na2 Z g) Z (GX.l2 Z ?_))))))
    replace HS := HS.pk 10 [1, 2, 7, 8, 9, 5, 6, 3, 0, 4] Z
    refine fJ fok169 Z (impl_Triangulation_neighbors_Triangulation_edgeSigns_fn1.calls HS (rD 2 r_a) (ro 1 Z) h262) (fun _ wd266 ⟨A264, c265, h267, HS⟩ => ⟨_, h267, (GX.fin tv (GX.nil (rN 3 Z (rG (lB 4 HS Z na3 Z (nL (rG (GO.alloc HS Z zr3 Z Z fun b268 wd269 HS => GO.stBox (j := 0) (vs := [I a1]) ([I a1]) HS Z Z Z Z Z (htN na3 Z) Z Z Z fun wd270 HS => nL (rG (lB 0 HS Z na3 Z (GO.add Z Z Z Z (GO.stBox (j := 0) (vs := [I (w64 (a1 + 1))]) ([I (w64 (a1 + 1))]) HS Z Z Z Z Z (htN na3 Z) Z Z Z fun wd271 HS => ?_))))))))))))⟩)
    refine nL (G.again (gW (a2 o1 (lR _) _ _ _ _ _ _ _ _ H (HS.pk 11 [9, 1, 2, 8, 10, 6, 7, 3, 4, 0] Z)) Z))
   exact gW (f2 e1 (lR _) _ _ _ _ _ _ _ _ H (HS.pk 10 [3, 4, 5, 6, 7, 8, 9, 1, 2, 0] Z)) Z
  exact gW (c2 K (lR _) _ _ _ _ H (HS.pk 7 [6, 4, 5, 2, 3, 0, 1] Z)) Z
theorem impl_Triangulation_reversedEdges.calls {c1 : List (List GFace)} {y_a : Nat → (Ty.slice 107 T_GFace).Lay} {r1 : List Bool} (HS : St w0 w (L)) (r_a : RdIn w0 L (Ty.slice 107 T_GFace) A_a c_a y_a c1) (H : impl_Triangulation_reversedEdges.f K c1 = some r1) :
    Calls prog 140 #[.agg [sV A_a c1 c_a].toArray] w (impl_Triangulation_reversedEdges.post w0 L r1) := by
  unfold impl_Triangulation_reversedEdges.f at H
  refine cG func140 Z ?_
  refine sQ (rG (bA HS Z fun b1 wd2 HS => aS Z (nL (sQ ?_))))
  obtain ⟨t3, h4, H⟩ := bI H
  refine rG (lW 0 HS Z ag31 (fJ fok124 Z (impl_Triangulation_edgeClasses.calls HS (rD 1 r_a) h4) (fun _ wd7 ⟨A5, c6, h8, HS⟩ => ⟨_, h8, (aS Z (nL (sQ ?_)))⟩)))
  obtain ⟨t9, h10, H⟩ := bI H
  obtain ⟨c13, H⟩ := iN H
  obtain ⟨c14, H⟩ := iN H
  refine rG (mV Z (fJ fok160 Z (impl_classCount.calls HS (ro 0 Z) h10) (fun _ wd11 ⟨h12, HS⟩ => ⟨_, h12, (GO.make (T := TBool) false () HS flat_flat Z Z Z U171 inf4 Z Z Z c13 c14 Z fun b15 wd16 HS => aS Z (nL (rN 2 Z ?_)))⟩)))
  obtain ⟨t17, h18, H⟩ := bI H
  refine rG (lW 2 HS Z ag31 (fJ fok161 Z (impl_Triangulation_edgeSigns.calls HS (rD 3 r_a) h18) (fun _ wd21 ⟨A19, c20, h22, HS⟩ => ⟨_, h22, (lS Z Z U56 Z (mV Z (nL (rN 2 Z ?_))))⟩)))
  refine G.name (fun h1 g1 => ?_)
  have i1 : ∀ d1, d1 ≤ K → ∀ (a1 : List Bool) (x29 : Int) (w : World), impl_Triangulation_reversedEdges.l1 K d1 t3 t17 a1 x29 = some r1 → St w0 w (Own (TInt .i64) 2 A5 c6 uu t3 :: Own TBool 4 (sb b15) t9.toNat uu a1 :: Own (TInt .i64) 2 A19 c20 uu t17 :: L) → G prog 140 30 [(3, sV A5 t3 c6), (4, sV (sb b15) a1 t9.toNat), (13, sV A19 t17 c20), (14, I (t17.length : Int)), (15, I x29)] h1 w (impl_Triangulation_reversedEdges.post w0 L r1) := by
   refine lp (fun _ _ w H _ => by rw [impl_Triangulation_reversedEdges.l1] at H; cases H) fun e1 k1 f1 a1 x29 w H HS => ?_
   rw [impl_Triangulation_reversedEdges.l1] at H
   subst g1
   refine rN 3 Z ?_
   rcases iS H with ⟨c35, H⟩ | ⟨c35, H⟩
   ·
    refine nB Z (tF c35) (rN 3 Z ?_)
    obtain rfl := sI H
    exact rT _ func140 Z Z ⟨_, _, Z, (HS.pk 3 [1] Z)⟩
   refine yB Z (tT c35) (rN 4 Z ?_)
   obtain ⟨c36, H⟩ := iN H
   refine rG (mV Z (iX Z U56 sz2 (rk (ro 2 Z) HS) c36 (GO.ldRd (T := (TInt .i64)) (n := x29.toNat) (o := 0) HS (ro 2 Z) Z Z (getD_some (d := 0) (ltN c36)) Z Z na2 Z (pS 2 Z (nL ?_)))))
   obtain ⟨c37, H⟩ := iN H
   obtain ⟨c38, H⟩ := iN H
   refine rG (pS 3 Z (iX Z U56 sz2 (rk (ro 0 Z) HS) c37 (GO.ldRd (T := (TInt .i64)) (n := x29.toNat) (o := 0) HS (ro 0 Z) Z Z (getD_some (d := 0) (ltN c37)) Z Z na2 Z (pS 2 Z (iX Z U171 sz4 (fun _ => ⟨_, _, Z⟩) c38 (GO.stRow (T := TBool) (j := 1) (n := (t3.getD x29.toNat 0).toNat) (o := 0) (vs := [.bool (decide (t17.getD x29.toNat 0 = 0))]) (decide (t17.getD x29.toNat 0 = 0)) HS Z flat_flat Z Z Z Z (htN na4 Z) Z (getD_some (d := false) (ltN c38)) Z Z fun wd39 HS => nL (G.len (t := 4) (m := (a1.set ((t3.getD x29.toNat 0).toNat) (decide (t17.getD x29.toNat 0 = 0))).length) Z (by simp only [List.length_set] <;> rfl) (rN 3 Z (gW (f1 e1 (lR _) _ _ _ H HS) Z)))))))))
  exact gW (i1 K (lR _) _ _ _ H (HS.pk 4 [2, 1, 0] Z)) Z
theorem impl_Triangulation_boundaryEdges.calls {a1 : List (List GFace)} {y_a : Nat → (Ty.slice 107 T_GFace).Lay} {r1 : List Bool} (HS : St w0 w (L)) (r_a : RdIn w0 L (Ty.slice 107 T_GFace) A_a c_a y_a a1) (H : impl_Triangulation_boundaryEdges.f K a1 = some r1) :
    Calls prog 141 #[.agg [sV A_a a1 c_a].toArray] w (impl_Triangulation_boundaryEdges.post w0 L r1) := by
  unfold impl_Triangulation_boundaryEdges.f at H
  refine cG func141 Z ?_
  refine sQ (rG (bA HS Z fun b1 wd2 HS => aS Z (nL (sQ ?_))))
  obtain ⟨t3, h4, H⟩ := bI H
  refine rG (lW 0 HS Z ag31 (fJ fok124 Z (impl_Triangulation_edgeClasses.calls HS (rD 1 r_a) h4) (fun _ wd7 ⟨A5, c6, h8, HS⟩ => ⟨_, h8, (aS Z (nL (sQ ?_)))⟩)))
  obtain ⟨t9, h10, H⟩ := bI H
  obtain ⟨c13, H⟩ := iN H
  obtain ⟨c14, H⟩ := iN H
  refine rG (mV Z (fJ fok160 Z (impl_classCount.calls HS (ro 0 Z) h10) (fun _ wd11 ⟨h12, HS⟩ => ⟨_, h12, (GO.make (T := TBool) false () HS flat_flat Z Z Z U171 inf4 Z Z Z c13 c14 Z fun b15 wd16 HS => aS Z (nL (rN 2 Z (rG (mV Z (lS Z Z U56 Z (mV Z (nL (rN 2 Z ?_)))))))))⟩)))
  refine G.name (fun n1 m1 => ?_)
  have t1 : ∀ i1, i1 ≤ K → ∀ (d1 : List Bool) (x77 : Int) (w : World), impl_Triangulation_boundaryEdges.l1 K i1 a1 t3 d1 x77 = some r1 → St w0 w (Box b1 31 [sV A_a a1 c_a] :: Own TBool 4 (sb b15) t9.toNat uu d1 :: Own (TInt .i64) 2 A5 c6 uu t3 :: L) → G prog 141 60 [(1, pT b1), (4, sV (sb b15) d1 t9.toNat), (16, sV A5 t3 c6), (17, I (t3.length : Int)), (18, I x77)] n1 w (impl_Triangulation_boundaryEdges.post w0 L r1) := by
   refine lp (fun _ _ w H _ => by rw [impl_Triangulation_boundaryEdges.l1] at H; cases H) fun f1 u1 k1 d1 x77 w H HS => ?_
   rw [impl_Triangulation_boundaryEdges.l1] at H
   subst m1
   refine rN 3 Z ?_
   rcases iS H with ⟨c137, H⟩ | ⟨c137, H⟩
   ·
    refine nB Z (tF c137) (rN 3 Z ?_)
    obtain rfl := sI H
    exact rT _ func141 Z Z ⟨_, _, Z, (HS.pk 3 [1] Z)⟩
   refine yB Z (tT c137) (rN 4 Z ?_)
   obtain ⟨c138, H⟩ := iN H
   refine rG (mV Z (iX Z U56 sz2 (rk (ro 2 Z) HS) c138 (GO.ldRd (T := (TInt .i64)) (n := x77.toNat) (o := 0) HS (ro 2 Z) Z Z (getD_some (d := 0) (ltN c138)) Z Z na2 Z (pS 2 Z (nL (sQ ?_))))))
   obtain ⟨t139, t140, h141, H⟩ := bind2_elim H
   refine rG (mV Z (GO.rem Z Z Z (by decide) Z (fJ fok150 Z (impl_ends.calls HS  h141) (fun _ wd142 ⟨h143, HS⟩ => ⟨_, h143, (pS 5 Z (nL (sQ ?_)))⟩))))
   obtain ⟨t146, h147, H⟩ := bI H
   refine rG (pS 2 Z (GO.buildS (el := 2) ([I t139, I t140]) HS Z Z (fun _ => by kernel_rfl) Z fun b144 wd145 HS => ?_))
   replace HS := HS.boxRow (T := (TInt .i64)) (j := 0) Z flat_flat uu ([t139, t140] : List Int) Z (bndL Z)
   refine GO.lenC (t := 31) (m := ([t139, t140] : List Int).length) (c' := ([t139, t140] : List Int).length) Z Z Z (fJ fok137 Z (impl_others.calls HS (ro 0 Z) h147) (fun _ wd150 ⟨A148, c149, h151, HS⟩ => ⟨_, h151, (lS Z Z U56 Z (mV Z (nL (rN 2 Z ?_))))⟩))
   refine G.name (fun o1 p1 => ?_)
   have s1 : ∀ g1, g1 ≤ f1 → ∀ (c1 : List Bool) (x167 : Int) (w : World), impl_Triangulation_boundaryEdges.l4 K g1 a1 t3 x77 t146 c1 x167 = some r1 → St w0 w (Box b1 31 [sV A_a a1 c_a] :: Own TBool 4 (sb b15) t9.toNat uu c1 :: Own (TInt .i64) 2 A5 c6 uu t3 :: Own (TInt .i64) 2 A148 c149 uu t146 :: L) → G prog 141 60 [(1, pT b1), (4, sV (sb b15) c1 t9.toNat), (5, I x77), (6, I (t3.getD x77.toNat 0)), (16, sV A5 t3 c6), (17, I (t3.length : Int)), (18, I x77), (32, sV A148 t146 c149), (33, I (t146.length : Int)), (34, I x167)] o1 w (impl_Triangulation_boundaryEdges.post w0 L r1) := by
    refine lp (fun _ _ w H _ => by rw [impl_Triangulation_boundaryEdges.l4] at H; cases H) fun e1 q1 h1 c1 x167 w H HS => ?_
    rw [impl_Triangulation_boundaryEdges.l4] at H
    subst p1
    refine rN 3 Z ?_
    rcases iS H with ⟨c182, H⟩ | ⟨c182, H⟩
    ·
     refine nB Z (tF c182) (rN 4 Z (gW (k1 e1 (Nat.le_of_succ_le q1) _ _ _ H (HS.pk 4 [0, 1, 2] Z)) Z))
    refine yB Z (tT c182) (rN 4 Z ?_)
    obtain ⟨c183, H⟩ := iN H
    refine rG (iX Z U56 sz2 (rk (ro 3 Z) HS) c183 (GO.ldRd (T := (TInt .i64)) (n := x167.toNat) (o := 0) HS (ro 3 Z) Z Z (getD_some (d := 0) (ltN c183)) Z Z na2 Z (aS Z (nL ?_))))
    obtain ⟨c184, H⟩ := iN H
    rcases iE H with ⟨c185, H⟩ | ⟨c185, H⟩
    ·
     refine rG (pS 4 Z (iX Z U171 sz4 (fun _ => ⟨_, _, Z⟩) c184 (GO.ldRd (T := TBool) (n := (t3.getD x77.toNat 0).toNat) (o := 0) HS (ro 1 Z) Z Z (getD_some (d := false) (ltN c184)) Z Z na4 Z (mV Z (kN 44 Z c185 (oF Z (oF Z (oF Z (oF Z (oF Z (oF Z (oF Z (oF Z (oF Z ?_))))))))))))))
     refine oF Z (GO.pickT Z Z Z Z Z (iX Z U171 sz4 (fun _ => ⟨_, _, Z⟩) c184 (GO.stRow (T := TBool) (j := 1) (n := (t3.getD x77.toNat 0).toNat) (o := 0) (vs := [.bool true]) true HS Z flat_flat Z Z Z Z (htN na4 Z) Z (getD_some (d := false) (ltN c184)) Z Z fun wd186 HS => nL (G.len (t := 4) (m := (c1.set ((t3.getD x77.toNat 0).toNat) true).length) Z (by simp only [List.length_set] <;> rfl) (rN 3 Z (gW (h1 e1 (lR _) _ _ _ H HS) Z))))))
    obtain ⟨c187, H⟩ := iN H
    obtain ⟨c188, H⟩ := iN H
    obtain ⟨e189, h190, H⟩ := bnd_elim H
    obtain ⟨t191, h192, H⟩ := bI H
    refine rG (pS 4 Z (iX Z U171 sz4 (fun _ => ⟨_, _, Z⟩) c184 (GO.ldRd (T := TBool) (n := (t3.getD x77.toNat 0).toNat) (o := 0) HS (ro 1 Z) Z Z (getD_some (d := false) (ltN c184)) Z Z na4 Z (mV Z (kN 44 Z (bnot_of c185) (oN Z (fL b1 0 fl31_0 Z (bK (oN Z (lB 0 HS Z na29 Z (bK (oN Z (mV Z (bK ?_))))))))))))))
    refine oN Z (GO.quo Z Z Z (by decide) Z (bK (oN Z (iX Z U29 sz77 (rk (rD 4 r_a) HS) c187 (bK (oN Z (GO.ldRd (T := (Ty.slice 107 T_GFace)) (n := (w64 (x77.tdiv 6)).toNat) (o := 0) HS (rD 4 r_a) Z Z (getD_some (d := []) (ltN c187)) Z Z na77 Z (bK (oN Z (mV Z (bK (oN Z (GO.ix Z Z Z U77 sz107 ((RdIn.elem (rD 4 r_a) c187.1 c187.2) _ HS).2.2.1 c188.1 c188.2 Z (bK ?_))))))))))))))
    refine oN Z (GO.ldRdA (T := T_GFace) (n := (t146.getD x167.toNat 0).toNat) HS (RdIn.elem (rD 4 r_a) c187.1 c187.2) Z Z (getD_eq (ltN c188) h190) ag107 Z (bK (oN Z (fJ fok91 Z (impl_Face_isBoundary.calls HS  h192) (fun _ wd193 ⟨h194, HS⟩ => ⟨_, h194, (bK (GO.pickF Z Z Z Z Z (iX Z U171 sz4 (fun _ => ⟨_, _, Z⟩) c184 (GO.stRow (T := TBool) (j := 1) (n := (t3.getD x77.toNat 0).toNat) (o := 0) (vs := [.bool t191]) t191 HS Z flat_flat Z Z Z Z (htN na4 Z) Z (getD_some (d := false) (ltN c184)) Z Z fun wd195 HS => nL (G.len (t := 4) (m := (c1.set ((t3.getD x77.toNat 0).toNat) t191).length) Z (by simp only [List.length_set] <;> rfl) (rN 3 Z (gW (h1 e1 (lR _) _ _ _ H HS) Z)))))))⟩)))))
   exact gW (s1 f1 (lR _) _ _ _ H (HS.pk 5 [2, 3, 4, 0] Z)) Z
  exact gW (t1 K (lR _) _ _ _ H (HS.pk 3 [2, 0, 1] Z)) Z
theorem impl_Triangulation_firstCorner.calls {c1 : List (List GFace)} {a1 : Int} {y_a : Nat → (Ty.slice 107 T_GFace).Lay} {r1 r2 : Int} (HS : St w0 w (L)) (r_a : RdIn w0 L (Ty.slice 107 T_GFace) A_a c_a y_a c1) (H : impl_Triangulation_firstCorner.f K c1 a1 = some (r1, r2)) :
    Calls prog 162 #[.agg [sV A_a c1 c_a].toArray, I a1] w (impl_Triangulation_firstCorner.post w0 L r1 r2) := by
  unfold impl_Triangulation_firstCorner.f at H
  refine cG func162 Z ?_
  refine sQ (rG (bA HS Z fun b1 wd2 HS => GO.alloc HS Z zr167 Z Z fun b3 wd4 HS => nL (sQ ?_)))
  obtain ⟨t5, h6, H⟩ := bI H
  refine rG (lW 1 HS Z ag31 (fJ fok124 Z (impl_Triangulation_edgeClasses.calls HS (rD 2 r_a) h6) (fun _ wd9 ⟨A7, c8, h10, HS⟩ => ⟨_, h10, (aS Z (nL (rN 2 Z ?_)))⟩)))
  obtain ⟨t11, h12, H⟩ := bI H
  obtain ⟨c17, H⟩ := iN H
  refine rG (lW 2 HS Z ag31 (fJ fok141 Z (impl_Triangulation_boundaryEdges.calls HS (rD 3 r_a) h12) (fun _ wd15 ⟨A13, c14, h16, HS⟩ => ⟨_, h16, (mV Z (iX Z U171 sz4 (rk (ro 0 Z) HS) c17 (GO.ldRd (T := TBool) (n := a1.toNat) (o := 0) HS (ro 0 Z) Z Z (getD_some (d := false) (ltN c17)) Z Z na4 Z (GO.not Z Z Z (nL ?_)))))⟩)))
  rcases iS H with ⟨c18, H⟩ | ⟨c18, H⟩
  ·
   refine yB Z (congrArg Bool.not (bnot_of c18)) (sQ ?_)
   obtain ⟨t408, h409, H⟩ := bI H
   refine rG (pS 2 Z (fJ fok126 Z (slices_Index_int64_int64.calls HS (ro 1 Z) h409) (fun _ wd410 ⟨h411, HS⟩ => ⟨_, h411, (aS Z (nL (sQ ?_)))⟩)))
   obtain ⟨t412, t413, h414, H⟩ := bind2_elim H
   refine rG (mV Z (GO.rem Z Z Z (by decide) Z (fJ fok150 Z (impl_ends.calls HS  h414) (fun _ wd415 ⟨h416, HS⟩ => ⟨_, h416, (pS 5 Z (nL (sQ ?_)))⟩))))
   obtain ⟨t419, h420, H⟩ := bI H
   refine rG (pS 2 Z (GO.buildS (el := 2) ([I t412, I t413]) HS Z Z (fun _ => by kernel_rfl) Z fun b417 wd418 HS => ?_))
   replace HS := HS.boxRow (T := (TInt .i64)) (j := 0) Z flat_flat uu ([t412, t413] : List Int) Z (bndL Z)
   refine GO.lenC (t := 32) (m := ([t412, t413] : List Int).length) (c' := ([t412, t413] : List Int).length) Z Z Z (fJ fok137 Z (impl_others.calls HS (ro 0 Z) h420) (fun _ wd423 ⟨A421, c422, h424, HS⟩ => ⟨_, h424, (aS Z (nL (sQ ?_)))⟩))
   obtain ⟨c425, H⟩ := iN H
   have h426 := (rk (ro 0 Z) HS)
   obtain ⟨c427, H⟩ := iN H
   have h428 := (rk (ro 0 Z) HS)
   obtain ⟨t429, h430, H⟩ := bI H
   refine G.lex mixed [0, 1, 2, 3, 4, 5, 7, 8, 6, 9, 10, 11, 12, 13] (by kernel_rfl) ?_
   replace HS := HS.drew
   refine GX.ps 1 Z (qL Z Z (fun _ _ g => GO.quo Z Z Z (by decide) Z g) Z (GX.ps 3 Z (qL Z Z (fun _ _ g => iX Z U56 sz2 h426 c425 g) Z (GX.ps 1 Z (qL Z Z (fun _ _ g => iX Z U56 sz2 h428 c427 g) Z (GX.l1 Z Z Z (fun _ g => GO.ldRd (T := (TInt .i64)) (n := 0) (o := 0) HS (ro 0 Z) Z Z (getD_some (d := 0) (ltN c425)) Z Z na2 Z g) Z (GX.l1 Z Z Z (fun _ g => GO.ldRd (T := (TInt .i64)) (n := 1) (o := 0) HS (ro 0 Z) Z Z (getD_some (d := 0) (ltN c427)) Z Z na2 Z g) Z (qL Z Z (fun _ _ g => GO.buildV (.agg [I t412, I t413, I (t419.getD 0 0), I (t419.getD 1 0)].toArray) Z Z (fun _ => by kernel_rfl) Z g) Z (GX.l2 Z (fJ fok130 Z (impl_indexOf.calls HS  h430) (fun _ wd431 ⟨h432, HS⟩ => ⟨_, h432, (GX.fin tv (qL Z Z (fun _ _ g => GO.buildV (.agg [I (w64 (t408.tdiv 6)), I t429].toArray) Z Z (fun _ => by kernel_rfl) Z g) Z (GX.l2 Z (sW 4 HS Z ag167 Z fun wd433 HS => ?_))))⟩)))))))))))
   refine GX.fin tv (GX.nil ?_)
   obtain ⟨rfl, rfl⟩ := some2 H
   exact rT _ func162 Z (Res1.boxA (j := 4) (vs := [I (w64 (t408.tdiv 6)), I t429]) HS Z Z Z ag167) ⟨Z, (HS.pk 6 [] Z)⟩
  refine nB Z (congrArg Bool.not c18) (rN 3 Z ?_)
  obtain ⟨t19, h20, H⟩ := bI H
  refine rG (fL b1 0 fl31_0 Z (lB 3 HS Z na29 Z (fJ fok49 Z (impl_size_impl_Face.calls HS (rD 4 r_a) h20) (fun _ wd21 ⟨h22, HS⟩ => ⟨_, h22, (mV Z (nL (rN 2 Z ?_)))⟩))))
  refine G.name (fun m1 k1 => ?_)
  have s1 : ∀ h1, h1 ≤ K → ∀ (x151 : Int) (w : World), impl_Triangulation_firstCorner.l1 K h1 c1 a1 t5 t19 x151 = some (r1, r2) → St w0 w (Box b1 31 [sV A_a c1 c_a] :: Box b3 167 [I 0, I 0] :: Own (TInt .i64) 2 A7 c8 uu t5 :: L) → G prog 162 89 [(1, I a1), (2, pT b1), (4, pT b3), (5, sV A7 t5 c8), (49, I t19), (50, I x151)] m1 w (impl_Triangulation_firstCorner.post w0 L r1 r2) := by
   refine lp (fun _ w H _ => by rw [impl_Triangulation_firstCorner.l1] at H; cases H) fun e1 t1 i1 x151 w H HS => ?_
   rw [impl_Triangulation_firstCorner.l1] at H
   subst k1
   refine rN 3 Z ?_
   rcases iS H with ⟨c280, H⟩ | ⟨c280, H⟩
   ·
    refine nB Z (tF c280) (rN 2 Z (rG (GO.buildV (.agg [I 0, I 0].toArray) Z Z (fun _ => by kernel_rfl) Z (sW 1 HS Z ag167 Z fun wd407 HS => nL ?_))))
    obtain ⟨rfl, rfl⟩ := some2 H
    exact rT _ func162 Z (Res1.boxA (j := 1) (vs := [I 0, I 0]) HS Z Z Z ag167) ⟨Z, (HS.pk 3 [] Z)⟩
   refine yB Z (tT c280) (rN 9 Z ?_)
   refine G.name (fun n1 o1 => ?_)
   have q1 : ∀ f1, f1 ≤ e1 → ∀ (x322 : Int) (w : World), impl_Triangulation_firstCorner.l4 K f1 c1 a1 t5 t19 x151 x322 = some (r1, r2) → St w0 w (Box b1 31 [sV A_a c1 c_a] :: Box b3 167 [I 0, I 0] :: Own (TInt .i64) 2 A7 c8 uu t5 :: L) → G prog 162 89 [(1, I a1), (2, pT b1), (4, pT b3), (5, sV A7 t5 c8), (10, I x151), (49, I t19), (50, I x151), (53, I x322)] n1 w (impl_Triangulation_firstCorner.post w0 L r1 r2) := by
    refine lp (fun _ w H _ => by rw [impl_Triangulation_firstCorner.l4] at H; cases H) fun d1 p1 g1 x322 w H HS => ?_
    rw [impl_Triangulation_firstCorner.l4] at H
    subst o1
    refine rN 3 Z ?_
    rcases iS H with ⟨c365, H⟩ | ⟨c365, H⟩
    ·
     refine nB Z (tF c365) (rN 4 Z (gW (i1 d1 (Nat.le_of_succ_le p1) _ _ H HS) Z))
    refine yB Z (tT c365) (rN 6 Z ?_)
    obtain ⟨t366, t367, t368, t369, h370, H⟩ := bind4_elim H
    refine rG (mV Z (fJ fok93 Z (impl_perm.calls HS  h370) (fun _ wd371 ⟨h372, HS⟩ => ⟨_, h372, (GO.alloc HS Z zr131 Z Z fun b373 wd374 HS => sW 0 HS Z ag131 Z fun wd375 HS => nL (sQ ?_))⟩)))
    obtain ⟨t390, h391, H⟩ := bI H
    obtain ⟨c394, H⟩ := iN H
    have h395 := (rk (ro 3 Z) HS)
    rcases iS H with ⟨c396, H⟩ | ⟨c396, H⟩
    ·
     refine G.lex mixed [0, 1, 2, 3, 5, 11, 4, 6, 7, 8, 9, 10, 12, 13, 14, 16, 19, 15, 17, 18, 20, 21, 22, 23, 24] (by kernel_rfl) ?_
     replace HS := HS.drew
     refine GX.ps 3 Z (qL Z Z (fun _ _ g => GO.ixP 0 Z Z Z Z U131 sz2 Z Z g) Z (qL Z Z (fun _ _ g => GO.ixP 1 Z Z Z Z U131 sz2 Z Z g) Z (GX.ps 1 Z (GX.l1 Z Z Z (fun _ g => lB 0 HS Z na2 Z g) Z (GX.l1 Z Z Z (fun _ g => lB 0 HS Z na2 Z g) Z (GX.l2 Z (fJ fok151 Z (impl_edge.calls HS  h391) (fun _ wd392 ⟨h393, HS⟩ => ⟨_, h393, (GX.fin tv (GX.ps 1 Z (qL Z Z (fun _ _ g => iX Z U56 sz2 h395 c394 g) Z (GX.l1 Z Z Z (fun _ g => GO.ldRd (T := (TInt .i64)) (n := (w64 ((w64 (6 * x151)) + t390)).toNat) (o := 0) HS (ro 3 Z) Z Z (getD_some (d := 0) (ltN c394)) Z Z na2 Z g) Z (GX.ps 1 Z (qL Z Z (fun _ _ g => mV Z (kN 71 Z (tF c396) g)) Z (qL Z Z (fun _ _ g => oF Z g) Z ?_)))))))⟩))))))))
     refine qL Z Z (fun _ _ g => oF Z g) Z (qL Z Z (fun _ _ g => oF Z g) Z (GX.l1 Z Z Z (fun _ g => oF Z g) Z (qL Z Z (fun _ _ g => oF Z g) Z (GX.l1 Z Z Z (fun _ g => oF Z g) Z (GX.l1 Z Z Z (fun _ g => oF Z g) Z (qL Z Z (fun _ _ g => oF Z g) Z (GX.l1 Z Z Z (fun _ g => oF Z g) Z (GX.l2 Z (oF Z (GX.fin tv (GX.ps 1 Z (GX.nil (rN 5 Z (gW (g1 d1 (lR _) _ _ H (HS.pk 4 [1, 2, 3] Z)) Z))))))))))))))
    obtain ⟨c397, H⟩ := iN H
    obtain ⟨c398, H⟩ := iN H
    obtain ⟨e399, h400, H⟩ := bnd_elim H
    obtain ⟨t401, h402, H⟩ := bI H
    refine G.lex mixed [0, 1, 2, 3, 5, 11, 4, 6, 7, 8, 9, 10, 12, 13, 14, 16, 19, 15, 17, 18, 20, 21, 22, 23, 24] (by kernel_rfl) ?_
    replace HS := HS.drew
    refine GX.ps 3 Z (qL Z Z (fun _ _ g => GO.ixP 0 Z Z Z Z U131 sz2 Z Z g) Z (qL Z Z (fun _ _ g => GO.ixP 1 Z Z Z Z U131 sz2 Z Z g) Z (GX.ps 1 Z (GX.l1 Z Z Z (fun _ g => lB 0 HS Z na2 Z g) Z (GX.l1 Z Z Z (fun _ g => lB 0 HS Z na2 Z g) Z (GX.l2 Z (fJ fok151 Z (impl_edge.calls HS  h391) (fun _ wd392 ⟨h393, HS⟩ => ⟨_, h393, (GX.fin tv (GX.ps 1 Z (qL Z Z (fun _ _ g => iX Z U56 sz2 h395 c394 g) Z (GX.l1 Z Z Z (fun _ g => GO.ldRd (T := (TInt .i64)) (n := (w64 ((w64 (6 * x151)) + t390)).toNat) (o := 0) HS (ro 3 Z) Z Z (getD_some (d := 0) (ltN c394)) Z Z na2 Z g) Z (GX.ps 1 Z (qL Z Z (fun _ _ g => mV Z (kN 71 Z (tT c396) g)) Z (qL Z Z (fun _ _ g => oN Z (fL b1 0 fl31_0 Z (bK g))) Z ?_)))))))⟩))))))))
    refine qL Z Z (fun _ _ g => oN Z (mV Z (bK g))) Z (qL Z Z (fun _ _ g => oN Z (GO.ixP 3 Z Z Z Z U131 sz2 Z Z (bK g))) Z (GX.l1 Z Z Z (fun _ g => oN Z (lB 1 HS Z na29 Z (bK g))) Z (qL Z Z (fun _ _ g => oN Z (iX Z U29 sz77 (rk (rD 4 r_a) HS) c397 (bK g))) Z (GX.l1 Z Z Z (fun _ g => oN Z (GO.ldRd (T := (Ty.slice 107 T_GFace)) (n := x151.toNat) (o := 0) HS (rD 4 r_a) Z Z (getD_some (d := []) (ltN c397)) Z Z na77 Z (bK g))) Z (GX.l1 Z Z Z (fun _ g => oN Z (lB 0 HS Z na2 Z (bK g))) Z (qL Z Z (fun _ _ g => oN Z (GO.ix Z Z Z U77 sz107 ((RdIn.elem (rD 4 r_a) c397.1 c397.2) _ HS).2.2.1 c398.1 c398.2 Z (bK g))) Z (GX.l1 Z Z Z (fun _ g => oN Z (GO.ldRdA (T := T_GFace) (n := t369.toNat) HS (RdIn.elem (rD 4 r_a) c397.1 c397.2) Z Z (getD_eq (ltN c398) h400) ag107 Z (bK g))) Z (GX.l2 Z (oN Z (fJ fok91 Z (impl_Face_isBoundary.calls HS  h402) (fun _ wd403 ⟨h404, HS⟩ => ⟨_, h404, (bK (GX.fin tv (GX.ps 1 Z (GX.nil ?_))))⟩)))))))))))
    rcases iS H with ⟨c405, H⟩ | ⟨c405, H⟩
    ·
     refine nB Z (bnot_of c405) (rN 4 Z (gW (g1 d1 (lR _) _ _ H (HS.pk 4 [1, 2, 3] Z)) Z))
    refine yB Z c405 (sQ (rG (pS 2 Z (GO.buildV (.agg [I x151, I x322].toArray) Z Z (fun _ => by kernel_rfl) Z (sW 2 HS Z ag167 Z fun wd406 HS => nL ?_)))))
    obtain ⟨rfl, rfl⟩ := some2 H
    exact rT _ func162 Z (Res1.boxA (j := 2) (vs := [I x151, I x322]) HS Z Z Z ag167) ⟨Z, (HS.pk 4 [] Z)⟩
   exact gW (q1 e1 (lR _) _ _ H HS) Z
  exact gW (s1 K (lR _) _ _ H (HS.pk 4 [3, 2, 1] Z)) Z
theorem impl_Triangulation_after.calls {c1 : List (List GFace)} {a1 d1 : Int} {y_a : Nat → (Ty.slice 107 T_GFace).Lay} {r1 r2 : Int} {r3 : Bool} (HS : St w0 w (L)) (r_a : RdIn w0 L (Ty.slice 107 T_GFace) A_a c_a y_a c1) (H : impl_Triangulation_after.f K c1 a1 d1 = some (r1, r2, r3)) :
    Calls prog 163 #[.agg [sV A_a c1 c_a].toArray, .agg [I a1, I d1].toArray] w (impl_Triangulation_after.post w0 L r1 r2 r3) := by
  unfold impl_Triangulation_after.f at H
  refine cG func163 Z ?_
  refine sQ (rG (bA HS Z fun b1 wd2 HS => bA HS Z fun b3 wd4 HS => GO.alloc HS Z zr167 Z Z fun b5 wd6 HS => aS Z (nL (sQ ?_))))
  obtain ⟨t7, t8, t9, t10, h11, H⟩ := bind4_elim H
  refine rG (fL b3 1 fl167_1 Z (lB 1 HS Z na2 Z (fJ fok93 Z (impl_perm.calls HS  h11) (fun _ wd12 ⟨h13, HS⟩ => ⟨_, h13, (GO.alloc HS Z zr131 Z Z fun b14 wd15 HS => sW 0 HS Z ag131 Z fun wd16 HS => nL (sQ ?_))⟩))))
  obtain ⟨c17, H⟩ := iN H
  obtain ⟨c18, H⟩ := iN H
  obtain ⟨e19, h20, H⟩ := bnd_elim H
  refine G.lexS mixed (fun w => St w0 w (Box b14 131 [I t7, I t8, I t9, I t10] :: Box b3 167 [I a1, I d1] :: Box b1 31 [sV A_a c1 c_a] :: L)) [1, 3, 5, 7, 9] [0, 2, 6, 1, 3, 4, 5, 7, 8, 9, 10, 11] [] (by kernel_rfl) (by kernel_rfl) (HS.drew.pk 4 [0, 2, 3] Z) ?_
  replace HS := HS.drew
  refine qL Z Z (fun _ _ g => fL b1 0 fl31_0 Z g) Z (qL Z Z (fun _ _ g => fL b3 0 fl167_0 Z g) Z (qL Z Z (fun _ _ g => GO.ixP 2 Z Z Z Z U131 sz2 Z Z g) Z (GX.ls Z Z Z (HS.pk 4 [0, 2, 3] Z) (fun _ HS _ g => lB 2 HS Z na29 Z g) Z (GX.ls Z Z Z (HS.pk 4 [0, 2, 3] Z) (fun _ HS _ g => lB 1 HS Z na2 Z g) Z (qL Z Z (fun _ _ g => iX Z U29 sz77 (rk (rD 4 r_a) HS) c17 g) Z (GX.ls Z Z Z (HS.pk 4 [0, 2, 3] Z) (fun _ HS _ g => GO.ldRd (T := (Ty.slice 107 T_GFace)) (n := a1.toNat) (o := 0) HS (rD 3 r_a) Z Z (getD_some (d := []) (ltN c17)) Z Z na77 Z g) Z (GX.ls Z Z Z (HS.pk 4 [0, 2, 3] Z) (fun _ HS _ g => lB 0 HS Z na2 Z g) Z (qL Z Z (fun _ _ g => GO.ix Z Z Z U77 sz107 ((RdIn.elem (rD 4 r_a) c17.1 c17.2) _ HS).2.2.1 c18.1 c18.2 Z g) Z (GX.ls Z Z Z (HS.pk 4 [0, 2, 3] Z) (fun _ HS _ g => GO.ldRdA (T := T_GFace) (n := t9.toNat) HS (RdIn.elem (rD 3 r_a) c17.1 c17.2) Z Z (getD_eq (ltN c18) h20) ag107 Z g) Z (GX.l2 Z (GO.alloc HS Z zr107 Z Z fun b21 wd22 HS => GX.fin (HS.pk 5 [1, 3, 4] Z) (GX.l2 Z (sW 0 HS Z ag107 Z fun wd23 HS => ?_)))))))))))))
  refine GX.fin (HS.pk 5 [1, 3, 4] Z) (GX.nil (rN 2 Z ?_))
  obtain ⟨t24, h25, H⟩ := bI H
  refine rG (lW 0 HS Z ag107 (fJ fok91 Z (impl_Face_isBoundary.calls HS  h25) (fun _ wd26 ⟨h27, HS⟩ => ⟨_, h27, (nL ?_)⟩)))
  rcases iE H with ⟨c28, H⟩ | ⟨c28, H⟩
  ·
   refine yB Z c28 (sQ (rG (GO.buildV (.agg [I 0, I 0].toArray) Z Z (fun _ => by kernel_rfl) Z (sW 2 HS Z ag167 Z fun wd29 HS => aS Z (nL ?_)))))
   obtain ⟨rfl, rfl, rfl⟩ := some3 H
   exact G.ret2 _ _ func163 Z (Res1.boxA (j := 2) (vs := [I 0, I 0]) HS Z Z Z ag167) Z ⟨Z, (HS.pk 5 [] Z)⟩
  refine nB Z (bnot_of c28) (rN 2 Z ?_)
  obtain ⟨t30, t31, t32, t33, h34, H⟩ := bind4_elim H
  refine rG (fL b21 1 fl107_1 Z (lB 0 HS Z na2 Z (fJ fok93 Z (impl_perm.calls HS  h34) (fun _ wd35 ⟨h36, HS⟩ => ⟨_, h36, (GO.alloc HS Z zr131 Z Z fun b37 wd38 HS => sW 0 HS Z ag131 Z fun wd39 HS => nL (sQ ?_))⟩))))
  obtain ⟨c40, H⟩ := iN H
  obtain ⟨c41, H⟩ := iN H
  obtain ⟨c42, H⟩ := iN H
  obtain ⟨c43, H⟩ := iN H
  obtain ⟨t44, h45, H⟩ := bI H
  refine G.lexS mixed (fun w => St w0 w (Box b37 131 [I t30, I t31, I t32, I t33] :: Box b21 107 [I e19.Tet, I e19.Perm] :: Box b14 131 [I t7, I t8, I t9, I t10] :: L)) [1, 3, 5, 7, 9, 11, 13, 15, 17] [0, 2, 6, 10, 14, 1, 3, 4, 5, 7, 8, 9, 11, 12, 13, 15, 16, 17, 18, 19, 20, 21, 22] [] (by kernel_rfl) (by kernel_rfl) (HS.drew.pk 6 [0, 1, 2] Z) ?_
  replace HS := HS.drew
  refine qL Z Z (fun _ _ g => fL b21 0 fl107_0 Z g) Z (qL Z Z (fun _ _ g => GO.ixP 0 Z Z Z Z U131 sz2 Z Z g) Z (qL Z Z (fun _ _ g => GO.ixP 1 Z Z Z Z U131 sz2 Z Z g) Z (qL Z Z (fun _ _ g => GO.ixP 3 Z Z Z Z U131 sz2 Z Z g) Z (qL Z Z (fun _ _ g => GO.ixP 2 Z Z Z Z U131 sz2 Z Z g) Z (GX.ls Z Z Z (HS.pk 6 [0, 1, 2] Z) (fun _ HS _ g => lB 1 HS Z na2 Z g) Z (GX.ls Z Z Z (HS.pk 6 [0, 1, 2] Z) (fun _ HS _ g => lB 2 HS Z na2 Z g) Z (qL Z Z (fun _ _ g => GO.ixW Z Z Z U131 sz2 c40 Z g) Z (GX.ls Z Z Z (HS.pk 6 [0, 1, 2] Z) (fun _ HS _ g => GO.ldW (j := 0) ([t30, t31, t32, t33] : List Int) HS Z Z Z c40 Z Z na2 Z g) Z (GX.ls Z Z Z (HS.pk 6 [0, 1, 2] Z) (fun _ HS _ g => lB 2 HS Z na2 Z g) Z (qL Z Z (fun _ _ g => GO.ixW Z Z Z U131 sz2 c41 Z g) Z (GX.ls Z Z Z (HS.pk 6 [0, 1, 2] Z) (fun _ HS _ g => GO.ldW (j := 0) ([t30, t31, t32, t33] : List Int) HS Z Z Z c41 Z Z na2 Z g) Z (GX.ls Z Z Z (HS.pk 6 [0, 1, 2] Z) (fun _ HS _ g => lB 2 HS Z na2 Z g) Z (qL Z Z (fun _ _ g => GO.ixW Z Z Z U131 sz2 c42 Z g) Z (GX.ls Z Z Z (HS.pk 6 [0, 1, 2] Z) (fun _ HS _ g => GO.ldW (j := 0) ([t30, t31, t32, t33] : List Int) HS Z Z Z c42 Z Z na2 Z g) Z ?_))))))))))))))
  refine GX.ls Z Z Z (HS.pk 6 [0, 1, 2] Z) (fun _ HS _ g => lB 2 HS Z na2 Z g) Z (qL Z Z (fun _ _ g => GO.ixW Z Z Z U131 sz2 c43 Z g) Z (GX.ls Z Z Z (HS.pk 6 [0, 1, 2] Z) (fun _ HS _ g => GO.ldW (j := 0) ([t30, t31, t32, t33] : List Int) HS Z Z Z c43 Z Z na2 Z g) Z (qL Z Z (fun _ _ g => GO.buildV (.agg [I (([t30, t31, t32, t33] : List Int).getD t7.toNat 0), I (([t30, t31, t32, t33] : List Int).getD t8.toNat 0), I (([t30, t31, t32, t33] : List Int).getD t10.toNat 0), I (([t30, t31, t32, t33] : List Int).getD t9.toNat 0)].toArray) Z Z (fun _ => by kernel_rfl) Z g) Z (GX.l2 Z (fJ fok130 Z (impl_indexOf.calls HS  h45) (fun _ wd46 ⟨h47, HS⟩ => ⟨_, h47, (GX.fin (HS.pk 6 [0, 1, 2] Z) (qL Z Z (fun _ _ g => GO.buildV (.agg [I e19.Tet, I t44].toArray) Z Z (fun _ => by kernel_rfl) Z g) Z (GX.l2 Z (sW 3 HS Z ag167 Z fun wd48 HS => GX.fin (HS.pk 6 [0, 1, 2] Z) (GX.ps 1 Z (GX.nil ?_))))))⟩))))))
  obtain ⟨rfl, rfl, rfl⟩ := some3 H
  exact G.ret2 _ _ func163 Z (Res1.boxA (j := 3) (vs := [I e19.Tet, I t44]) HS Z Z Z ag167) Z ⟨Z, (HS.pk 6 [] Z)⟩
theorem impl_Triangulation_ring.calls {c1 : List (List GFace)} {g1 : Int} {y_a : Nat → (Ty.slice 107 T_GFace).Lay} {r1 : List GFace} (HS : St w0 w (L)) (r_a : RdIn w0 L (Ty.slice 107 T_GFace) A_a c_a y_a c1) (H : impl_Triangulation_ring.f K c1 g1 = some r1) :
    Calls prog 142 #[.agg [sV A_a c1 c_a].toArray, I g1] w (impl_Triangulation_ring.post w0 L r1) := by
  unfold impl_Triangulation_ring.f at H
  refine cG func142 Z ?_
  refine sQ (rG (bA HS Z fun b1 wd2 HS => aS Z (nL (sQ ?_))))
  obtain ⟨t3, t4, h5, H⟩ := bind2_elim H
  refine rG (lW 0 HS Z ag31 (mV Z (fJ fok162 Z (impl_Triangulation_firstCorner.calls HS (rD 1 r_a) h5) (fun _ wd6 ⟨h7, HS⟩ => ⟨_, h7, (GO.alloc HS Z zr167 Z Z fun b8 wd9 HS => sW 0 HS Z ag167 Z fun wd10 HS => nL (sQ (rG (lW 0 HS Z ag167 (GO.buildS (el := 167) ([I t3, I t4]) HS Z Z (fun _ => by kernel_rfl) Z fun b11 wd12 HS => ?_)))))⟩))))
  replace HS := HS.boxRow (T := T_GFace) (j := 0) Z flat_flat uu ([(⟨t3, t4⟩ : GFace)] : List GFace) Z (bndL Z)
  refine GO.lenC (t := 13) (m := ([(⟨t3, t4⟩ : GFace)] : List GFace).length) (c' := ([(⟨t3, t4⟩ : GFace)] : List GFace).length) Z Z Z (aS Z (nL (rN 2 Z ?_)))
  refine G.name (fun n1 m1 => ?_)
  have o1 : ∀ h1, h1 ≤ K → ∀ (A35 : Option Addr) (c36 : Nat) (a1 : List GFace) (w : World), impl_Triangulation_ring.l1 K h1 c1 t3 t4 a1 = some r1 → St w0 w (Box b1 31 [sV A_a c1 c_a] :: Box b8 167 [I t3, I t4] :: Own T_GFace 167 A35 c36 uu a1 :: L) → G prog 142 37 [(2, pT b1), (5, pT b8), (6, sV A35 a1 c36)] n1 w (impl_Triangulation_ring.post w0 L r1) := by
   refine lp (fun _ _ _ w H _ => by rw [impl_Triangulation_ring.l1] at H; cases H) fun i1 p1 k1 A35 c36 a1 w H HS => ?_
   rw [impl_Triangulation_ring.l1] at H
   subst m1
   refine rN 2 Z ?_
   obtain ⟨c60, H⟩ := iN H
   have h61 := (rk (ro 2 Z) HS)
   obtain ⟨e62, h63, H⟩ := bnd_elim H
   obtain ⟨t64, t65, t66, h67, H⟩ := bind3_elim H
   refine G.regionRS mixed (by decide) (fun b a w => ∃ (b70 : Nat) (d1 : HObj), RS 37 [(2, pT b1), (5, pT b8), (6, sV A35 a1 c36)] [rv 15 (.agg [sV A_a c1 c_a].toArray), rv 16 (sV A35 a1 c36), rv 17 (sV A35 a1 c36), rv 18 (I (a1.length : Int)), rv 19 (I (w64 ((a1.length : Int) - 1))), rv 20 (.pointer (some (ea A35 (((w64 ((a1.length : Int) - 1)).toNat) * 2)))), rv 21 (.agg [I e62.Tet, I e62.Perm].toArray), rv 22 (.tuple #[.agg [I t64, I t65].toArray, .bool t66]), rv 14 (.tuple #[.agg [I t64, I t65].toArray, .bool t66]), rv 23 (.agg [I t64, I t65].toArray), rv 24 (.bool t66), rv 7 (pT b70), none, rv 8 (.bool t66)] b a ∧ St w0 w (Box b1 31 [sV A_a c1 c_a] :: Box b8 167 [I t3, I t4] :: Own T_GFace 167 A35 c36 uu a1 :: d1 :: L) ∧ (b 11 = true → b 12 = false → d1 = Box b70 167 [I 0, I 0]) ∧ (b 12 = true → d1 = Box b70 167 [I t64, I t65])) ?_ ?_ ?_
   · exact fun a hs => ⟨0, Emp, hs.init Z, (HS.drew.emp.pk 4 [1, 2, 3, 0] Z), fun h => Bool.noConfusion h, fun h => Bool.noConfusion h⟩
   ·
    intro j b a w hj
    refine exI fun b70 => exI fun d1 => anI fun hs => fun hM q => ?_
    have HS := hM.1
    match j, hj with
    | 0, _ =>
     refine hs.at q [] [] (lW 0 HS Z ag31 (hs.fin q Z fun _ hs => ⟨_, _, hs, hM⟩))
    | 1, _ =>
     refine hs.at q [] [] (mV Z (hs.fin q Z fun _ hs => ⟨_, _, hs, hM⟩))
    | 2, _ =>
     refine hs.at q [] [] (mV Z (hs.fin q Z fun _ hs => ⟨_, _, hs, hM⟩))
    | 3, _ =>
     refine hs.at q [2] [] (lS Z Z U165 Z (hs.fin q Z fun _ hs => ⟨_, _, hs, HS, hM.2⟩))
    | 4, _ =>
     refine hs.at q [3] [] (GO.sub Z Z Z Z (hs.fin q Z fun _ hs => ⟨_, _, hs, hM⟩))
    | 5, _ =>
     refine hs.at q [1, 4] [] (iX Z U165 sz167 h61 c60 (hs.fin q Z fun _ hs => ⟨_, _, hs, hM⟩))
    | 6, _ =>
     refine hs.at q [5] [] (GO.ldRdA (T := T_GFace) (n := (w64 ((a1.length : Int) - 1)).toNat) HS (ro 2 Z) Z Z (getD_eq (ltN c60) h63) ag167 Z (hs.fin q Z fun _ hs => ⟨_, _, hs, hM⟩))
    | 7, _ =>
     refine hs.at q [0, 6] [] (fJ fok163 Z (impl_Triangulation_after.calls HS (rD 4 r_a) h67) (fun _ wd68 ⟨h69, HS⟩ => ⟨_, h69, (hs.fin q Z fun _ hs => ⟨_, _, hs, HS, hM.2⟩)⟩))
    | 8, _ =>
     refine hs.at q [7] [] (mV Z (hs.fin q Z fun _ hs => ⟨_, _, hs, hM⟩))
    | 9, _ =>
     refine hs.at q [8] [] (GO.extract Z Z Z Z (hs.fin q Z fun _ hs => ⟨_, _, hs, hM⟩))
    | 10, _ =>
     refine hs.at q [8] [] (GO.extract Z Z Z Z (hs.fin q Z fun _ hs => ⟨_, _, hs, hM⟩))
    | 11, _ =>
     refine (anI fun HS => anI fun f1 => fun e1 => ?_) hM
     refine hs.at q [] [] (GO.alloc HS Z zr167 Z Z fun b70 wd71 HS => hs.finL q [11] (fun _ hs => ⟨b70, Box b70 167 [I 0, I 0], hs, HS.pk 5 [1, 2, 3, 0] Z, fun _ _ => Z, fun hh => (q.no 12 hh).elim⟩) Z Z)
    | 12, _ =>
     refine (anI fun HS => anI fun f1 => fun e1 => ?_) hM
     have hb11 := q.on 11
     obtain rfl := f1 hb11 q.hb
     refine hs.at q [11, 9] [] (sW 3 HS Z ag167 Z fun wd72 HS => hs.finN q Z fun _ hs => ⟨b70, Box b70 167 [I t64, I t65], hs, HS, fun _ h => Bool.noConfusion h, fun _ => Z⟩)
    | 13, _ =>
     refine hs.at q [10] [] (aS Z (hs.fin q Z fun _ hs => ⟨_, _, hs, hM⟩))
    | k + 14, hj => exact absurd hj (Nat.not_lt.2 (Nat.le_add_left 14 k))
   ·
    intro b a w hall
    refine exI fun b70 => exI fun d1 => anI fun hs => anI fun HS => anI fun f1 => fun e1 => ?_
    obtain rfl := e1 (hall 12 (by decide))
    refine G.at (hs.all hall) (rN 2 Z ?_)
    rcases iS H with ⟨c74, H⟩ | ⟨c74, H⟩
    ·
     refine rG (pS 3 Z (kN 27 Z (congrArg Bool.not (bnot_of c74)) (oF Z (oF Z (oF Z (GO.pickT Z Z Z Z Z (nL (rN 3 Z ?_))))))))
     obtain rfl := sI H
     exact rT _ func142 Z Z ⟨_, _, Z, (HS.pk 4 [2] Z)⟩
    refine rG (pS 3 Z (kN 27 Z (congrArg Bool.not c74) (oN Z (lW 3 HS Z ag167 (bK (oN Z (lW 1 HS Z ag167 (bK (oN Z (GO.eqlA Z Z Z ng167 (fun _ => eq167) Z (bK (GO.pickF Z Z Z Z Z (nL ?_)))))))))))))
    rcases iE H with ⟨c75, H⟩ | ⟨c75, H⟩
    ·
     refine yB Z (tT c75) (rN 2 Z ?_)
     obtain rfl := sI H
     exact rT _ func142 Z Z ⟨_, _, Z, (HS.pk 4 [2] Z)⟩
    refine nB Z (tF c75) (G.skip ?_)
    obtain ⟨c81, H⟩ := iN H
    refine rG (mV Z (lW 3 HS Z ag167 (GO.buildS (el := 167) ([I t64, I t65]) HS Z Z (fun _ => by kernel_rfl) Z fun b76 wd77 HS => GO.app1 (T := T_GFace) (j := 3) (jb := 0) (⟨t64, t65⟩ : GFace) HS Z Z flat_flat Z Z Z U165 inf167 Z Z Z c81 Z fun A79 c80 wd78 HS => aS Z (nL (rN 2 Z (gW (k1 i1 (lR _) _ _ _ _ H (HS.pk 5 [1, 2, 3] Z)) Z))))))
  exact gW (o1 K (lR _) _ _ _ _ H (HS.pk 3 [2, 1, 0] Z)) Z
end Go.Proofs.YtbjfinndngafoaaGreat
