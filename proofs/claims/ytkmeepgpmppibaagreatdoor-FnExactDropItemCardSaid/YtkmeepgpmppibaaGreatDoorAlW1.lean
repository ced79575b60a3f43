/-
  The walks through the functions: a call comes to what its list function says.
-/
import Derived.Test.YtkmeepgpmppibaaGreatDoorAlF
set_option linter.unusedVariables false
set_option linter.unusedSimpArgs false
namespace Go.Proofs.YtkmeepgpmppibaaGreatDoor
open Go.RowKit
open Tryz
variable {w0 w : World} {L : List HObj} {K : Nat}
set_option maxRecDepth 20000
set_option maxHeartbeats 40000000
theorem laws_szFaceS.calls {a_ : List GFace} {left : Int} {A_a : Option Addr} {c_a : Nat} {r1 : Int} (HS : St w0 w (L)) (r_a : RdIn w0 L T_GFace A_a c_a (fun _ => ()) a_) (H : laws_szFaceS.f a_ left = some r1) :
    Calls prog 117 #[.slice A_a a_.length c_a, I left] w (laws_szFaceS.post w0 L r1) := by
  unfold laws_szFaceS.f at H
  refine cG func117 Z ?_
  refine rN 3 Z (rG (pS 2 Z (lS Z Z underlying154 Z (pS 2 Z (nL (rN 3 Z ?_))))))
  rcases iE H with ⟨c1, H⟩ | ⟨c1, H⟩
  ·
   refine yB Z (tT c1) (rN 2 Z ?_)
   obtain rfl := sI H
   exact rT _ func117 Z Z ⟨Z, HS⟩
  refine nB Z (tF c1) (rN 3 Z ?_)
  obtain rfl := sI H
  exact rT _ func117 Z Z ⟨Z, HS⟩
theorem laws_szFaceSS.calls {a_ : List (List GFace)} {left : Int} {A_a : Option Addr} {c_a : Nat} {y_a : Nat → (Ty.slice 200 T_GFace).Lay} {r1 : Int} (HS : St w0 w (L)) (r_a : RdIn w0 L (Ty.slice 200 T_GFace) A_a c_a y_a a_) (H : laws_szFaceSS.f K a_ left = some r1) :
    Calls prog 79 #[.slice A_a a_.length c_a, I left] w (laws_szFaceSS.post w0 L r1) := by
  unfold laws_szFaceSS.f at H
  refine cG func79 Z ?_
  refine rN 3 Z (rG (pS 2 Z (lS Z Z underlying37 Z (pS 2 Z (nL (rN 3 Z ?_))))))
  rcases iE H with ⟨c1, H⟩ | ⟨c1, H⟩
  ·
   refine yB Z (tT c1) (rN 2 Z ?_)
   obtain rfl := sI H
   exact rT _ func79 Z Z ⟨Z, HS⟩
  refine nB Z (tF c1) (rN 6 Z ?_)
  refine G.name (fun i1 f1 => ?_)
  have k1 : ∀ a1, a1 ≤ K → ∀ (d1 b1 : Int) (w : World), laws_szFaceSS.l1 K a1 a_ d1 b1 = some r1 → St w0 w (L) → G prog 79 27 [(0, .slice A_a a_.length c_a), (1, I d1), (5, I b1)] i1 w (laws_szFaceSS.post w0 L r1) := by
   intro a1
   induction a1 using Nat.strongRecOn with
   | _ a1 h1 =>
    intro g1 d1 b1 w H HS
    cases a1 with
    | zero => rw [laws_szFaceSS.l1] at H; cases H
    | succ e1 =>
     rw [laws_szFaceSS.l1] at H
     subst f1
     refine rN 2 Z (rG (pS 2 Z (lS Z Z underlying37 Z (GO.lss Z Z Z Z (nL ?_)))))
     rcases iE H with ⟨c18, H⟩ | ⟨c18, H⟩
     ·
      refine yB Z (tT c18) (rN 4 Z ?_)
      obtain ⟨c19, H⟩ := iN H
      obtain ⟨t20, h21, H⟩ := bI H
      refine rG (pS 2 Z (GO.ix Z Z Z underlying37 sz154 (r_a _ HS).2.2.1 c19.1 c19.2 Z (GO.ldRd (T := (Ty.slice 200 T_GFace)) (n := b1.toNat) (o := 0) HS r_a Z Z (getD_some (d := []) (ltN c19)) Z Z na154 Z (mV Z (fN Z func117 fok117.1 fok117.2 Z Z (laws_szFaceS.calls HS (RdIn.elem r_a c19.1 c19.2) h21) (fun _ wd22 ⟨h23, HS⟩ => ⟨_, h23, (aS Z (nL (rN 2 Z ?_)))⟩))))))
      rcases iE H with ⟨c24, H⟩ | ⟨c24, H⟩
      ·
       refine yB Z (tT c24) (rN 2 Z ?_)
       obtain rfl := sI H
       exact rT _ func79 Z Z ⟨Z, HS⟩
      refine nB Z (tF c24) (rN 4 Z (G.weak ?_ (h1 e1 (Nat.lt_succ_of_le (lR _)) (Nat.le_of_succ_le g1) _ _ _ H HS)))
      exact ⟨Z, Z, Z, tv⟩
     refine nB Z (tF c18) (rN 3 Z ?_)
     obtain rfl := sI H
     exact rT _ func79 Z Z ⟨Z, HS⟩
  refine G.weak ?_ (k1 K (lR _) _ _ _ H HS)
  exact ⟨Z, Z, Z, tv⟩
theorem laws_szTriangulation.calls {a1 : List (List GFace)} {left : Int} {A_a : Option Addr} {c_a : Nat} {y_a : Nat → (Ty.slice 200 T_GFace).Lay} {r1 : Int} (HS : St w0 w (L)) (r_a : RdIn w0 L (Ty.slice 200 T_GFace) A_a c_a y_a a1) (H : laws_szTriangulation.f K a1 left = some r1) :
    Calls prog 38 #[.agg [.slice A_a a1.length c_a].toArray, I left] w (laws_szTriangulation.post w0 L r1) := by
  unfold laws_szTriangulation.f at H
  refine cG func38 Z ?_
  refine sQ (rG (GO.box (cs := [.slice A_a a1.length c_a]) HS Z Z Z Z fun b1 wd2 HS => aS Z (nL (sQ ?_))))
  obtain ⟨t3, h4, H⟩ := bI H
  refine rG (fL b1 0 fl39_0 Z (lB 0 HS Z na37 Z (mV Z (fN Z func79 fok79.1 fok79.2 Z Z (laws_szFaceSS.calls HS (rD 1 r_a) h4) (fun _ wd5 ⟨h6, HS⟩ => ⟨_, h6, (aS Z (nL (rN 3 Z ?_)))⟩)))))
  rcases iE H with ⟨c7, H⟩ | ⟨c7, H⟩
  ·
   refine yB Z (tT c7) (rN 2 Z ?_)
   obtain rfl := sI H
   exact rT _ func38 Z Z ⟨Z, (HS.pk 1 [] Z)⟩
  refine nB Z (tF c7) (rN 3 Z ?_)
  obtain rfl := sI H
  exact rT _ func38 Z Z ⟨Z, (HS.pk 1 [] Z)⟩
theorem laws_szCrossingS.calls {a_ : List GCrossing} {left : Int} {A_a : Option Addr} {c_a : Nat} {r1 : Int} (HS : St w0 w (L)) (r_a : RdIn w0 L T_GCrossing A_a c_a (fun _ => ()) a_) (H : laws_szCrossingS.f a_ left = some r1) :
    Calls prog 80 #[.slice A_a a_.length c_a, I left] w (laws_szCrossingS.post w0 L r1) := by
  unfold laws_szCrossingS.f at H
  refine cG func80 Z ?_
  refine rN 3 Z (rG (pS 2 Z (lS Z Z underlying40 Z (pS 2 Z (nL (rN 3 Z ?_))))))
  rcases iE H with ⟨c1, H⟩ | ⟨c1, H⟩
  ·
   refine yB Z (tT c1) (rN 2 Z ?_)
   obtain rfl := sI H
   exact rT _ func80 Z Z ⟨Z, HS⟩
  refine nB Z (tF c1) (rN 3 Z ?_)
  obtain rfl := sI H
  exact rT _ func80 Z Z ⟨Z, HS⟩
theorem laws_szDiagram.calls {a1 : List GCrossing} {c1 left : Int} {A_a : Option Addr} {c_a : Nat} {r1 : Int} (HS : St w0 w (L)) (r_a : RdIn w0 L T_GCrossing A_a c_a (fun _ => ()) a1) (H : laws_szDiagram.f a1 c1 left = some r1) :
    Calls prog 39 #[.agg [.slice A_a a1.length c_a, I c1].toArray, I left] w (laws_szDiagram.post w0 L r1) := by
  unfold laws_szDiagram.f at H
  refine cG func39 Z ?_
  refine sQ (rG (GO.box (cs := [.slice A_a a1.length c_a, I c1]) HS Z Z Z Z fun b1 wd2 HS => aS Z (nL (sQ ?_))))
  obtain ⟨t3, h4, H⟩ := bI H
  refine rG (fL b1 0 fl42_0 Z (lB 0 HS Z na40 Z (mV Z (fN Z func80 fok80.1 fok80.2 Z Z (laws_szCrossingS.calls HS (rD 1 r_a) h4) (fun _ wd5 ⟨h6, HS⟩ => ⟨_, h6, (aS Z (nL (rN 3 Z ?_)))⟩)))))
  rcases iE H with ⟨c7, H⟩ | ⟨c7, H⟩
  ·
   refine yB Z (tT c7) (rN 2 Z ?_)
   obtain rfl := sI H
   exact rT _ func39 Z Z ⟨Z, (HS.pk 1 [] Z)⟩
  refine nB Z (tF c7) (rN 3 Z ?_)
  obtain rfl := sI H
  exact rT _ func39 Z Z ⟨Z, (HS.pk 1 [] Z)⟩
theorem laws_szInt64S.calls {a_ : List Int} {left : Int} {A_a : Option Addr} {c_a : Nat} {r1 : Int} (HS : St w0 w (L)) (r_a : RdIn w0 L (TInt .i64) A_a c_a (fun _ => ()) a_) (H : laws_szInt64S.f a_ left = some r1) :
    Calls prog 81 #[.slice A_a a_.length c_a, I left] w (laws_szInt64S.post w0 L r1) := by
  unfold laws_szInt64S.f at H
  refine cG func81 Z ?_
  refine rN 3 Z (rG (pS 2 Z (lS Z Z underlying43 Z (pS 2 Z (nL (rN 3 Z ?_))))))
  rcases iE H with ⟨c1, H⟩ | ⟨c1, H⟩
  ·
   refine yB Z (tT c1) (rN 2 Z ?_)
   obtain rfl := sI H
   exact rT _ func81 Z Z ⟨Z, HS⟩
  refine nB Z (tF c1) (rN 3 Z ?_)
  obtain rfl := sI H
  exact rT _ func81 Z Z ⟨Z, HS⟩
theorem laws_szBraid.calls {c1 : Int} {a1 : List Int} {left : Int} {A_a : Option Addr} {c_a : Nat} {r1 : Int} (HS : St w0 w (L)) (r_a : RdIn w0 L (TInt .i64) A_a c_a (fun _ => ()) a1) (H : laws_szBraid.f c1 a1 left = some r1) :
    Calls prog 40 #[.agg [I c1, .slice A_a a1.length c_a].toArray, I left] w (laws_szBraid.post w0 L r1) := by
  unfold laws_szBraid.f at H
  refine cG func40 Z ?_
  refine sQ (rG (GO.box (cs := [I c1, .slice A_a a1.length c_a]) HS Z Z Z Z fun b1 wd2 HS => aS Z (nL (sQ ?_))))
  obtain ⟨t3, h4, H⟩ := bI H
  refine rG (fL b1 1 fl45_1 Z (lB 0 HS Z na43 Z (mV Z (fN Z func81 fok81.1 fok81.2 Z Z (laws_szInt64S.calls HS (rD 1 r_a) h4) (fun _ wd5 ⟨h6, HS⟩ => ⟨_, h6, (aS Z (nL (rN 3 Z ?_)))⟩)))))
  rcases iE H with ⟨c7, H⟩ | ⟨c7, H⟩
  ·
   refine yB Z (tT c7) (rN 2 Z ?_)
   obtain rfl := sI H
   exact rT _ func40 Z Z ⟨Z, (HS.pk 1 [] Z)⟩
  refine nB Z (tF c7) (rN 3 Z ?_)
  obtain rfl := sI H
  exact rT _ func40 Z Z ⟨Z, (HS.pk 1 [] Z)⟩
theorem laws_szMoveS.calls {a_ : List GMove} {left : Int} {A_a : Option Addr} {c_a : Nat} {r1 : Int} (HS : St w0 w (L)) (r_a : RdIn w0 L T_GMove A_a c_a (fun _ => ()) a_) (H : laws_szMoveS.f a_ left = some r1) :
    Calls prog 82 #[.slice A_a a_.length c_a, I left] w (laws_szMoveS.post w0 L r1) := by
  unfold laws_szMoveS.f at H
  refine cG func82 Z ?_
  refine rN 3 Z (rG (pS 2 Z (lS Z Z underlying46 Z (pS 2 Z (nL (rN 3 Z ?_))))))
  rcases iE H with ⟨c1, H⟩ | ⟨c1, H⟩
  ·
   refine yB Z (tT c1) (rN 2 Z ?_)
   obtain rfl := sI H
   exact rT _ func82 Z Z ⟨Z, HS⟩
  refine nB Z (tF c1) (rN 3 Z ?_)
  obtain rfl := sI H
  exact rT _ func82 Z Z ⟨Z, HS⟩
theorem laws_szCertificate.calls {f1 e1 : Int} {a1 : List GMove} {d1 c1 : List Int} {left : Int} {A_a : Option Addr} {c_a : Nat} {A_b : Option Addr} {c_b : Nat} {A_c : Option Addr} {c_c : Nat} {r1 : Int} (HS : St w0 w (L)) (r_a : RdIn w0 L T_GMove A_a c_a (fun _ => ()) a1) (r_b : RdIn w0 L (TInt .i64) A_b c_b (fun _ => ()) d1) (r_c : RdIn w0 L (TInt .i64) A_c c_c (fun _ => ()) c1) (H : laws_szCertificate.f f1 e1 a1 d1 c1 left = some r1) :
    Calls prog 41 #[.agg [I f1, I e1, .slice A_a a1.length c_a, .slice A_b d1.length c_b, .slice A_c c1.length c_c].toArray, I left] w (laws_szCertificate.post w0 L r1) := by
  unfold laws_szCertificate.f at H
  refine cG func41 Z ?_
  refine sQ (rG (GO.box (cs := [I f1, I e1, .slice A_a a1.length c_a, .slice A_b d1.length c_b, .slice A_c c1.length c_c]) HS Z Z Z Z fun b1 wd2 HS => aS Z (nL (sQ ?_))))
  obtain ⟨t3, h4, H⟩ := bI H
  refine rG (fL b1 2 fl48_2 Z (lB 0 HS Z na46 Z (mV Z (fN Z func82 fok82.1 fok82.2 Z Z (laws_szMoveS.calls HS (rD 1 r_a) h4) (fun _ wd5 ⟨h6, HS⟩ => ⟨_, h6, (aS Z (nL (rN 3 Z ?_)))⟩)))))
  rcases iE H with ⟨c7, H⟩ | ⟨c7, H⟩
  ·
   refine yB Z (tT c7) (rN 2 Z ?_)
   obtain rfl := sI H
   exact rT _ func41 Z Z ⟨Z, (HS.pk 1 [] Z)⟩
  refine nB Z (tF c7) (rN 2 Z ?_)
  obtain ⟨t8, h9, H⟩ := bI H
  refine rG (fL b1 3 fl48_3 Z (lB 0 HS Z na43 Z (mV Z (fN Z func81 fok81.1 fok81.2 Z Z (laws_szInt64S.calls HS (rD 1 r_b) h9) (fun _ wd10 ⟨h11, HS⟩ => ⟨_, h11, (aS Z (nL (rN 3 Z ?_)))⟩)))))
  rcases iE H with ⟨c12, H⟩ | ⟨c12, H⟩
  ·
   refine yB Z (tT c12) (rN 2 Z ?_)
   obtain rfl := sI H
   exact rT _ func41 Z Z ⟨Z, (HS.pk 1 [] Z)⟩
  refine nB Z (tF c12) (rN 2 Z ?_)
  obtain ⟨t13, h14, H⟩ := bI H
  refine rG (fL b1 4 fl48_4 Z (lB 0 HS Z na43 Z (mV Z (fN Z func81 fok81.1 fok81.2 Z Z (laws_szInt64S.calls HS (rD 1 r_c) h14) (fun _ wd15 ⟨h16, HS⟩ => ⟨_, h16, (aS Z (nL (rN 3 Z ?_)))⟩)))))
  rcases iE H with ⟨c17, H⟩ | ⟨c17, H⟩
  ·
   refine yB Z (tT c17) (rN 2 Z ?_)
   obtain rfl := sI H
   exact rT _ func41 Z Z ⟨Z, (HS.pk 1 [] Z)⟩
  refine nB Z (tF c17) (rN 3 Z ?_)
  obtain rfl := sI H
  exact rT _ func41 Z Z ⟨Z, (HS.pk 1 [] Z)⟩
theorem laws_szItem.calls {o1 : ByteArray} {n1 : Int} {f1 : List (List GFace)} {e1 : List GCrossing} {k1 i1 : Int} {a1 : List Int} {h1 m1 : Int} {d1 : List GMove} {g1 c1 : List Int} {left : Int} {A_a : Option Addr} {c_a : Nat} {y_a : Nat → (Ty.slice 200 T_GFace).Lay} {A_b : Option Addr} {c_b : Nat} {A_c : Option Addr} {c_c : Nat} {A_d : Option Addr} {c_d : Nat} {A_e : Option Addr} {c_e : Nat} {A_f : Option Addr} {c_f : Nat} {r1 : Int} (HS : St w0 w (L)) (r_a : RdIn w0 L (Ty.slice 200 T_GFace) A_a c_a y_a f1) (r_b : RdIn w0 L T_GCrossing A_b c_b (fun _ => ()) e1) (r_c : RdIn w0 L (TInt .i64) A_c c_c (fun _ => ()) a1) (r_d : RdIn w0 L T_GMove A_d c_d (fun _ => ()) d1) (r_e : RdIn w0 L (TInt .i64) A_e c_e (fun _ => ()) g1) (r_f : RdIn w0 L (TInt .i64) A_f c_f (fun _ => ()) c1) (H : laws_szItem.f K o1 n1 f1 e1 k1 i1 a1 h1 m1 d1 g1 c1 left = some r1) :
    Calls prog 12 #[.agg [.string o1, I n1, .slice A_a f1.length c_a, .slice A_b e1.length c_b, I k1, I i1, .slice A_c a1.length c_c, I h1, I m1, .slice A_d d1.length c_d, .slice A_e g1.length c_e, .slice A_f c1.length c_f].toArray, I left] w (laws_szItem.post w0 L r1) := by
  unfold laws_szItem.f at H
  refine cG func12 Z ?_
  refine sQ (rG (GO.box (cs := [.string o1, I n1, .slice A_a f1.length c_a, .slice A_b e1.length c_b, I k1, I i1, .slice A_c a1.length c_c, I h1, I m1, .slice A_d d1.length c_d, .slice A_e g1.length c_e, .slice A_f c1.length c_f]) HS Z Z Z Z fun b1 wd2 HS => aS Z (nL (sQ (rG (mV Z (fL b1 0 fl50_0 Z (lB 0 HS Z na9 Z (GO.lenStr Z Z underlying9 Z (pS 2 Z (nL (rN 3 Z ?_))))))))))))
  rcases iE H with ⟨c3, H⟩ | ⟨c3, H⟩
  ·
   refine yB Z (tT c3) (rN 2 Z ?_)
   obtain rfl := sI H
   exact rT _ func12 Z Z ⟨Z, (HS.pk 1 [] Z)⟩
  refine nB Z (tF c3) (rN 2 Z ?_)
  obtain ⟨t4, h5, H⟩ := bI H
  refine rG (fL b1 2 fl50_2 Z (GO.ldBoxA (j := 0) ([.slice A_a f1.length c_a]) HS Z Z Z Z ag39 Z (mV Z (fN Z func38 fok38.1 fok38.2 Z Z (laws_szTriangulation.calls HS (rD 1 r_a) h5) (fun _ wd6 ⟨h7, HS⟩ => ⟨_, h7, (aS Z (nL (rN 3 Z ?_)))⟩)))))
  rcases iE H with ⟨c8, H⟩ | ⟨c8, H⟩
  ·
   refine yB Z (tT c8) (rN 2 Z ?_)
   obtain rfl := sI H
   exact rT _ func12 Z Z ⟨Z, (HS.pk 1 [] Z)⟩
  refine nB Z (tF c8) (rN 2 Z ?_)
  obtain ⟨t9, h10, H⟩ := bI H
  refine rG (fL b1 3 fl50_3 Z (GO.ldBoxA (j := 0) ([.slice A_b e1.length c_b, I k1]) HS Z Z Z Z ag42 Z (mV Z (fN Z func39 fok39.1 fok39.2 Z Z (laws_szDiagram.calls HS (rD 1 r_b) h10) (fun _ wd11 ⟨h12, HS⟩ => ⟨_, h12, (aS Z (nL (rN 3 Z ?_)))⟩)))))
  rcases iE H with ⟨c13, H⟩ | ⟨c13, H⟩
  ·
   refine yB Z (tT c13) (rN 2 Z ?_)
   obtain rfl := sI H
   exact rT _ func12 Z Z ⟨Z, (HS.pk 1 [] Z)⟩
  refine nB Z (tF c13) (rN 2 Z ?_)
  obtain ⟨t14, h15, H⟩ := bI H
  refine rG (fL b1 5 fl50_4 Z (GO.ldBoxA (j := 0) ([I i1, .slice A_c a1.length c_c]) HS Z Z Z Z ag45 Z (mV Z (fN Z func40 fok40.1 fok40.2 Z Z (laws_szBraid.calls HS (rD 1 r_c) h15) (fun _ wd16 ⟨h17, HS⟩ => ⟨_, h17, (aS Z (nL (rN 3 Z ?_)))⟩)))))
  rcases iE H with ⟨c18, H⟩ | ⟨c18, H⟩
  ·
   refine yB Z (tT c18) (rN 2 Z ?_)
   obtain rfl := sI H
   exact rT _ func12 Z Z ⟨Z, (HS.pk 1 [] Z)⟩
  refine nB Z (tF c18) (rN 2 Z ?_)
  obtain ⟨t19, h20, H⟩ := bI H
  refine rG (fL b1 7 fl50_5 Z (GO.ldBoxA (j := 0) ([I h1, I m1, .slice A_d d1.length c_d, .slice A_e g1.length c_e, .slice A_f c1.length c_f]) HS Z Z Z Z ag48 Z (mV Z (fN Z func41 fok41.1 fok41.2 Z Z (laws_szCertificate.calls HS (rD 1 r_d) (rD 1 r_e) (rD 1 r_f) h20) (fun _ wd21 ⟨h22, HS⟩ => ⟨_, h22, (aS Z (nL (rN 3 Z ?_)))⟩)))))
  rcases iE H with ⟨c23, H⟩ | ⟨c23, H⟩
  ·
   refine yB Z (tT c23) (rN 2 Z ?_)
   obtain rfl := sI H
   exact rT _ func12 Z Z ⟨Z, (HS.pk 1 [] Z)⟩
  refine nB Z (tF c23) (rN 3 Z ?_)
  obtain rfl := sI H
  exact rT _ func12 Z Z ⟨Z, (HS.pk 1 [] Z)⟩
theorem laws_szItemS.calls {a_ : List GItem} {left : Int} {A_a : Option Addr} {c_a : Nat} {y_a : Nat → T_GItem.Lay} {r1 : Int} (HS : St w0 w (L)) (r_a : RdIn w0 L T_GItem A_a c_a y_a a_) (H : laws_szItemS.f K a_ left = some r1) :
    Calls prog 18 #[.slice A_a a_.length c_a, I left] w (laws_szItemS.post w0 L r1) := by
  unfold laws_szItemS.f at H
  refine cG func18 Z ?_
  refine rN 3 Z (rG (pS 2 Z (lS Z Z underlying22 Z (pS 2 Z (nL (rN 3 Z ?_))))))
  rcases iE H with ⟨c1, H⟩ | ⟨c1, H⟩
  ·
   refine yB Z (tT c1) (rN 2 Z ?_)
   obtain rfl := sI H
   exact rT _ func18 Z Z ⟨Z, HS⟩
  refine nB Z (tF c1) (rN 6 Z ?_)
  refine G.name (fun i1 f1 => ?_)
  have k1 : ∀ a1, a1 ≤ K → ∀ (d1 b1 : Int) (w : World), laws_szItemS.l1 K a1 a_ d1 b1 = some r1 → St w0 w (L) → G prog 18 27 [(0, .slice A_a a_.length c_a), (1, I d1), (5, I b1)] i1 w (laws_szItemS.post w0 L r1) := by
   intro a1
   induction a1 using Nat.strongRecOn with
   | _ a1 h1 =>
    intro g1 d1 b1 w H HS
    cases a1 with
    | zero => rw [laws_szItemS.l1] at H; cases H
    | succ e1 =>
     rw [laws_szItemS.l1] at H
     subst f1
     refine rN 2 Z (rG (pS 2 Z (lS Z Z underlying22 Z (GO.lss Z Z Z Z (nL ?_)))))
     rcases iE H with ⟨c22, H⟩ | ⟨c22, H⟩
     ·
      refine yB Z (tT c22) (rN 4 Z ?_)
      obtain ⟨c23, H⟩ := iN H
      obtain ⟨e24, h25, H⟩ := bnd_elim H
      obtain ⟨t26, h27, H⟩ := bI H
      refine rG (pS 2 Z (GO.ix Z Z Z underlying22 sz50 (r_a _ HS).2.2.1 c23.1 c23.2 Z (GO.ldRdA (T := T_GItem) (n := b1.toNat) HS r_a Z Z (getD_eq (ltN c23) h25) ag50 Z (mV Z (fN Z func12 fok12.1 fok12.2 Z Z (laws_szItem.calls HS (RdIn.fld r_a (getD_eq (ltN c23) h25) (fun _ h => h.2.2.1)) (RdIn.fld r_a (getD_eq (ltN c23) h25) (fun _ h => h.2.2.2.1)) (RdIn.fld r_a (getD_eq (ltN c23) h25) (fun _ h => h.2.2.2.2.2.2.1)) (RdIn.fld r_a (getD_eq (ltN c23) h25) (fun _ h => h.2.2.2.2.2.2.2.2.2.1)) (RdIn.fld r_a (getD_eq (ltN c23) h25) (fun _ h => h.2.2.2.2.2.2.2.2.2.2.1)) (RdIn.fld r_a (getD_eq (ltN c23) h25) (fun _ h => h.2.2.2.2.2.2.2.2.2.2.2)) h27) (fun _ wd28 ⟨h29, HS⟩ => ⟨_, h29, (aS Z (nL (rN 2 Z ?_)))⟩))))))
      rcases iE H with ⟨c30, H⟩ | ⟨c30, H⟩
      ·
       refine yB Z (tT c30) (rN 2 Z ?_)
       obtain rfl := sI H
       exact rT _ func18 Z Z ⟨Z, HS⟩
      refine nB Z (tF c30) (rN 4 Z (G.weak ?_ (h1 e1 (Nat.lt_succ_of_le (lR _)) (Nat.le_of_succ_le g1) _ _ _ H HS)))
      exact ⟨Z, Z, Z, tv⟩
     refine nB Z (tF c22) (rN 3 Z ?_)
     obtain rfl := sI H
     exact rT _ func18 Z Z ⟨Z, HS⟩
  refine G.weak ?_ (k1 K (lR _) _ _ _ H HS)
  exact ⟨Z, Z, Z, tv⟩
theorem laws_szItemSS.calls {a_ : List (List GItem)} {left : Int} {A_a : Option Addr} {c_a : Nat} {y_a : Nat → (Ty.slice 50 T_GItem).Lay} {r1 : Int} (HS : St w0 w (L)) (r_a : RdIn w0 L (Ty.slice 50 T_GItem) A_a c_a y_a a_) (H : laws_szItemSS.f K a_ left = some r1) :
    Calls prog 19 #[.slice A_a a_.length c_a, I left] w (laws_szItemSS.post w0 L r1) := by
  unfold laws_szItemSS.f at H
  refine cG func19 Z ?_
  refine rN 3 Z (rG (pS 2 Z (lS Z Z underlying23 Z (pS 2 Z (nL (rN 3 Z ?_))))))
  rcases iE H with ⟨c1, H⟩ | ⟨c1, H⟩
  ·
   refine yB Z (tT c1) (rN 2 Z ?_)
   obtain rfl := sI H
   exact rT _ func19 Z Z ⟨Z, HS⟩
  refine nB Z (tF c1) (rN 6 Z ?_)
  refine G.name (fun i1 f1 => ?_)
  have k1 : ∀ a1, a1 ≤ K → ∀ (d1 b1 : Int) (w : World), laws_szItemSS.l1 K a1 a_ d1 b1 = some r1 → St w0 w (L) → G prog 19 27 [(0, .slice A_a a_.length c_a), (1, I d1), (5, I b1)] i1 w (laws_szItemSS.post w0 L r1) := by
   intro a1
   induction a1 using Nat.strongRecOn with
   | _ a1 h1 =>
    intro g1 d1 b1 w H HS
    cases a1 with
    | zero => rw [laws_szItemSS.l1] at H; cases H
    | succ e1 =>
     rw [laws_szItemSS.l1] at H
     subst f1
     refine rN 2 Z (rG (pS 2 Z (lS Z Z underlying23 Z (GO.lss Z Z Z Z (nL ?_)))))
     rcases iE H with ⟨c18, H⟩ | ⟨c18, H⟩
     ·
      refine yB Z (tT c18) (rN 4 Z ?_)
      obtain ⟨c19, H⟩ := iN H
      obtain ⟨t20, h21, H⟩ := bI H
      refine rG (pS 2 Z (GO.ix Z Z Z underlying23 sz22 (r_a _ HS).2.2.1 c19.1 c19.2 Z (GO.ldRd (T := (Ty.slice 50 T_GItem)) (n := b1.toNat) (o := 0) HS r_a Z Z (getD_some (d := []) (ltN c19)) Z Z na22 Z (mV Z (fN Z func18 fok18.1 fok18.2 Z Z (laws_szItemS.calls HS (RdIn.elem r_a c19.1 c19.2) h21) (fun _ wd22 ⟨h23, HS⟩ => ⟨_, h23, (aS Z (nL (rN 2 Z ?_)))⟩))))))
      rcases iE H with ⟨c24, H⟩ | ⟨c24, H⟩
      ·
       refine yB Z (tT c24) (rN 2 Z ?_)
       obtain rfl := sI H
       exact rT _ func19 Z Z ⟨Z, HS⟩
      refine nB Z (tF c24) (rN 4 Z (G.weak ?_ (h1 e1 (Nat.lt_succ_of_le (lR _)) (Nat.le_of_succ_le g1) _ _ _ H HS)))
      exact ⟨Z, Z, Z, tv⟩
     refine nB Z (tF c18) (rN 3 Z ?_)
     obtain rfl := sI H
     exact rT _ func19 Z Z ⟨Z, HS⟩
  refine G.weak ?_ (k1 K (lR _) _ _ _ H HS)
  exact ⟨Z, Z, Z, tv⟩
theorem laws_szBench.calls {d1 : List GItem} {c1 a1 : List (List GItem)} {left : Int} {A_a : Option Addr} {c_a : Nat} {y_a : Nat → T_GItem.Lay} {A_b : Option Addr} {c_b : Nat} {y_b : Nat → (Ty.slice 50 T_GItem).Lay} {A_c : Option Addr} {c_c : Nat} {y_c : Nat → (Ty.slice 50 T_GItem).Lay} {r1 : Int} (HS : St w0 w (L)) (r_a : RdIn w0 L T_GItem A_a c_a y_a d1) (r_b : RdIn w0 L (Ty.slice 50 T_GItem) A_b c_b y_b c1) (r_c : RdIn w0 L (Ty.slice 50 T_GItem) A_c c_c y_c a1) (H : laws_szBench.f K d1 c1 a1 left = some r1) :
    Calls prog 5 #[.agg [.slice A_a d1.length c_a, .slice A_b c1.length c_b, .slice A_c a1.length c_c].toArray, I left] w (laws_szBench.post w0 L r1) := by
  unfold laws_szBench.f at H
  refine cG func5 Z ?_
  refine sQ (rG (GO.box (cs := [.slice A_a d1.length c_a, .slice A_b c1.length c_b, .slice A_c a1.length c_c]) HS Z Z Z Z fun b1 wd2 HS => aS Z (nL (sQ ?_))))
  obtain ⟨t3, h4, H⟩ := bI H
  refine rG (fL b1 0 fl25_0 Z (lB 0 HS Z na22 Z (mV Z (fN Z func18 fok18.1 fok18.2 Z Z (laws_szItemS.calls HS (rD 1 r_a) h4) (fun _ wd5 ⟨h6, HS⟩ => ⟨_, h6, (aS Z (nL (rN 3 Z ?_)))⟩)))))
  rcases iE H with ⟨c7, H⟩ | ⟨c7, H⟩
  ·
   refine yB Z (tT c7) (rN 2 Z ?_)
   obtain rfl := sI H
   exact rT _ func5 Z Z ⟨Z, (HS.pk 1 [] Z)⟩
  refine nB Z (tF c7) (rN 2 Z ?_)
  obtain ⟨t8, h9, H⟩ := bI H
  refine rG (fL b1 1 fl25_1 Z (lB 0 HS Z na23 Z (mV Z (fN Z func19 fok19.1 fok19.2 Z Z (laws_szItemSS.calls HS (rD 1 r_b) h9) (fun _ wd10 ⟨h11, HS⟩ => ⟨_, h11, (aS Z (nL (rN 3 Z ?_)))⟩)))))
  rcases iE H with ⟨c12, H⟩ | ⟨c12, H⟩
  ·
   refine yB Z (tT c12) (rN 2 Z ?_)
   obtain rfl := sI H
   exact rT _ func5 Z Z ⟨Z, (HS.pk 1 [] Z)⟩
  refine nB Z (tF c12) (rN 2 Z ?_)
  obtain ⟨t13, h14, H⟩ := bI H
  refine rG (fL b1 2 fl25_2 Z (lB 0 HS Z na23 Z (mV Z (fN Z func19 fok19.1 fok19.2 Z Z (laws_szItemSS.calls HS (rD 1 r_c) h14) (fun _ wd15 ⟨h16, HS⟩ => ⟨_, h16, (aS Z (nL (rN 3 Z ?_)))⟩)))))
  rcases iE H with ⟨c17, H⟩ | ⟨c17, H⟩
  ·
   refine yB Z (tT c17) (rN 2 Z ?_)
   obtain rfl := sI H
   exact rT _ func5 Z Z ⟨Z, (HS.pk 1 [] Z)⟩
  refine nB Z (tF c17) (rN 3 Z ?_)
  obtain rfl := sI H
  exact rT _ func5 Z Z ⟨Z, (HS.pk 1 [] Z)⟩
theorem laws_toFace.calls {a1 c1 : Int} {r1 r2 : Int} (HS : St w0 w (L)) (H : laws_toFace.f a1 c1 = some (r1, r2)) :
    Calls prog 169 #[.agg [I a1, I c1].toArray] w (laws_toFace.post w0 L r1 r2) := by
  unfold laws_toFace.f at H
  refine cG func169 Z ?_
  refine sQ (rG (GO.box (cs := [I a1, I c1]) HS Z Z Z Z fun b1 wd2 HS => GO.alloc HS Z zr157 Z Z fun b3 wd4 HS => nL (sQ (rG (GO.alloc HS Z zr157 Z Z fun b5 wd6 HS => nL (sQ (rG (fL b1 0 fl200_0 Z (lB 2 HS Z na2 Z (fL b5 0 fl157_0 Z (GO.stBox (j := 0) (vs := [I a1]) ([I a1, I 0]) HS Z Z Z Z Z (htN na2 Z) Z Z Z fun wd7 HS => ?_)))))))))))
  refine nL (sQ (rG (fL b1 1 fl200_1 Z (lB 2 HS Z na2 Z (fL b5 1 fl157_1 Z (GO.stBox (j := 0) (vs := [I c1]) ([I a1, I c1]) HS Z Z Z Z Z (htN na2 Z) Z Z Z fun wd8 HS => nL (sQ (rG (GO.ldBoxA (j := 0) ([I a1, I c1]) HS Z Z Z Z ag157 Z (GO.stBox (j := 1) (vs := [I a1, I c1]) ([I a1, I c1]) HS Z Z Z Z Z (htA ag157) Z Z Z fun wd9 HS => nL ?_))))))))))
  obtain ⟨rfl, rfl⟩ := some2 H
  exact rT _ func169 Z (Res1.boxA (j := 1) (vs := [I a1, I c1]) HS Z Z Z ag157) ⟨Z, (HS.pk 3 [] Z)⟩
theorem laws_toFaceS.calls {a_ : List GFace} {A_a : Option Addr} {c_a : Nat} {r1 : List GFace} (HS : St w0 w (L)) (r_a : RdIn w0 L T_GFace A_a c_a (fun _ => ()) a_) (H : laws_toFaceS.f K a_ = some r1) :
    Calls prog 133 #[.slice A_a a_.length c_a] w (laws_toFaceS.post w0 L r1) := by
  unfold laws_toFaceS.f at H
  refine cG func133 Z ?_
  refine rN 3 Z ?_
  obtain ⟨c1, H⟩ := iN H
  obtain ⟨c2, H⟩ := iN H
  refine rG (mV Z (lS Z Z underlying154 Z (GO.make (T := T_GFace) z_GFace () HS flat_flat Z Z Z underlying150 inf157 Z Z Z c1 c2 Z fun b3 wd4 HS => aS Z (nL (rN 5 Z ?_)))))
  refine G.name (fun i1 f1 => ?_)
  have k1 : ∀ b1, b1 ≤ K → ∀ (d1 : List GFace) (a1 : Int) (w : World), laws_toFaceS.l1 K b1 a_ d1 a1 = some r1 → St w0 w (Own T_GFace 157 (some ⟨b3, 0, none⟩) ((a_.length : Int).toNat) (fun _ => ()) d1 :: L) → G prog 133 23 [(0, .slice A_a a_.length c_a), (3, .slice (some ⟨b3, 0, none⟩) d1.length ((a_.length : Int).toNat)), (4, I a1)] i1 w (laws_toFaceS.post w0 L r1) := by
   intro b1
   induction b1 using Nat.strongRecOn with
   | _ b1 h1 =>
    intro g1 d1 a1 w H HS
    cases b1 with
    | zero => rw [laws_toFaceS.l1] at H; cases H
    | succ e1 =>
     rw [laws_toFaceS.l1] at H
     subst f1
     refine rN 2 Z (rG (pS 2 Z (lS Z Z underlying154 Z (GO.lss Z Z Z Z (nL ?_)))))
     rcases iE H with ⟨c29, H⟩ | ⟨c29, H⟩
     ·
      refine yB Z (tT c29) (rN 3 Z ?_)
      obtain ⟨c30, H⟩ := iN H
      obtain ⟨e31, h32, H⟩ := bnd_elim H
      obtain ⟨t33, t34, h35, H⟩ := bind2_elim H
      obtain ⟨c38, H⟩ := iN H
      refine rG (pS 4 Z (GO.ix Z Z Z underlying154 sz200 ((rD 1 r_a) _ HS).2.2.1 c30.1 c30.2 Z (GO.ldRdA (T := T_GFace) (n := a1.toNat) HS (rD 1 r_a) Z Z (getD_eq (ltN c30) h32) ag200 Z (fN Z func169 fok169.1 fok169.2 Z Z (laws_toFace.calls HS  h35) (fun _ wd36 ⟨h37, HS⟩ => ⟨_, h37, (GO.ix Z Z Z underlying150 sz157 (fun _ => ⟨_, _, Z⟩) c38.1 c38.2 Z (GO.stRow (T := T_GFace) (j := 0) (n := a1.toNat) (o := 0) (vs := [I t33, I t34]) (⟨t33, t34⟩ : GFace) HS Z flat_flat Z Z Z Z (htA ag157) Z (getD_some (d := z_GFace) (ltN c38)) Z Z fun wd39 HS => nL (G.len (t := 3) (m := (d1.set a1.toNat (⟨t33, t34⟩ : GFace)).length) Z (by simp only [List.length_set] <;> rfl) (rN 3 Z (G.weak ?_ (h1 e1 (Nat.lt_succ_of_le (lR _)) (Nat.le_of_succ_le g1) _ _ _ H HS))))))⟩)))))
      exact ⟨Z, Z, Z, tv⟩
     refine nB Z (tF c29) (rN 3 Z ?_)
     obtain rfl := sI H
     exact rT _ func133 Z Z ⟨_, _, Z, HS⟩
  refine G.weak ?_ (k1 K (lR _) _ _ _ H HS)
  exact ⟨Z, Z, Z, tv⟩
theorem laws_toFaceSS.calls {a_ : List (List GFace)} {A_a : Option Addr} {c_a : Nat} {y_a : Nat → (Ty.slice 200 T_GFace).Lay} {r1 : List (List GFace)} (HS : St w0 w (L)) (r_a : RdIn w0 L (Ty.slice 200 T_GFace) A_a c_a y_a a_) (H : laws_toFaceSS.f K a_ = some r1) :
    Calls prog 92 #[.slice A_a a_.length c_a] w (laws_toFaceSS.post w0 L r1) := by
  unfold laws_toFaceSS.f at H
  refine cG func92 Z ?_
  refine rN 3 Z ?_
  obtain ⟨c1, H⟩ := iN H
  obtain ⟨c2, H⟩ := iN H
  refine rG (mV Z (lS Z Z underlying37 Z (GO.makeR (S := T_GFace) (u := 157) (fun _ => ()) HS Z Z Z underlying53 inf150 Z c1 c2 Z fun b3 wd4 HS => aS Z (nL (rN 5 Z ?_)))))
  refine G.name (fun i1 f1 => ?_)
  have k1 : ∀ a1, a1 ≤ K → ∀ (d1 : List (List GFace)) (y17 : Nat → (Ty.slice 157 T_GFace).Lay) (b1 : Int) (w : World), laws_toFaceSS.l1 K a1 a_ d1 b1 = some r1 → St w0 w (Own (Ty.slice 157 T_GFace) 150 (some ⟨b3, 0, none⟩) ((a_.length : Int).toNat) y17 d1 :: L) → G prog 92 23 [(0, .slice A_a a_.length c_a), (3, .slice (some ⟨b3, 0, none⟩) d1.length ((a_.length : Int).toNat)), (4, I b1)] i1 w (laws_toFaceSS.post w0 L r1) := by
   intro a1
   induction a1 using Nat.strongRecOn with
   | _ a1 h1 =>
    intro g1 d1 y17 b1 w H HS
    cases a1 with
    | zero => rw [laws_toFaceSS.l1] at H; cases H
    | succ e1 =>
     rw [laws_toFaceSS.l1] at H
     subst f1
     refine rN 2 Z (rG (pS 2 Z (lS Z Z underlying37 Z (GO.lss Z Z Z Z (nL ?_)))))
     rcases iE H with ⟨c30, H⟩ | ⟨c30, H⟩
     ·
      refine yB Z (tT c30) (rN 3 Z ?_)
      obtain ⟨c31, H⟩ := iN H
      obtain ⟨t32, h33, H⟩ := bI H
      obtain ⟨c38, H⟩ := iN H
      refine rG (pS 4 Z (GO.ix Z Z Z underlying37 sz154 ((rD 1 r_a) _ HS).2.2.1 c31.1 c31.2 Z (GO.ldRd (T := (Ty.slice 200 T_GFace)) (n := b1.toNat) (o := 0) HS (rD 1 r_a) Z Z (getD_some (d := []) (ltN c31)) Z Z na154 Z (fN Z func133 fok133.1 fok133.2 Z Z (laws_toFaceS.calls HS (RdIn.elem (rD 1 r_a) c31.1 c31.2) h33) (fun _ wd36 ⟨A34, c35, h37, HS⟩ => ⟨_, h37, (GO.ix Z Z Z underlying53 sz150 (fun _ => ⟨_, _, Z⟩) c38.1 c38.2 Z ?_)⟩)))))
      replace HS := HS.pk 2 [1, 0] Z
      refine GO.stRowR (S := T_GFace) (u := 157) HS Z Z Z na150 (ltN c38) fun y40 wd39 HS => nL (G.len (t := 3) (m := (d1.set b1.toNat t32).length) Z (by simp only [List.length_set] <;> rfl) (rN 3 Z (G.weak ?_ (h1 e1 (Nat.lt_succ_of_le (lR _)) (Nat.le_of_succ_le g1) _ _ _ _ H HS))))
      exact ⟨Z, Z, Z, tv⟩
     refine nB Z (tF c30) (rN 3 Z ?_)
     obtain rfl := sI H
     exact rT _ func92 Z Z ⟨_, _, _, Z, HS⟩
  refine G.weak ?_ (k1 K (lR _) _ _ _ _ H HS)
  exact ⟨Z, Z, Z, tv⟩
theorem laws_toTriangulation.calls {a1 : List (List GFace)} {A_a : Option Addr} {c_a : Nat} {y_a : Nat → (Ty.slice 200 T_GFace).Lay} {r1 : List (List GFace)} (HS : St w0 w (L)) (r_a : RdIn w0 L (Ty.slice 200 T_GFace) A_a c_a y_a a1) (H : laws_toTriangulation.f K a1 = some r1) :
    Calls prog 44 #[.agg [.slice A_a a1.length c_a].toArray] w (laws_toTriangulation.post w0 L r1) := by
  unfold laws_toTriangulation.f at H
  refine cG func44 Z ?_
  refine sQ (rG (GO.box (cs := [.slice A_a a1.length c_a]) HS Z Z Z Z fun b1 wd2 HS => GO.alloc HS Z zr55 Z Z fun b3 wd4 HS => nL (sQ (rG (GO.alloc HS Z zr55 Z Z fun b5 wd6 HS => nL (sQ ?_))))))
  obtain ⟨t7, h8, H⟩ := bI H
  refine rG (fL b1 0 fl39_0 Z (lB 2 HS Z na37 Z (fN Z func92 fok92.1 fok92.2 Z Z (laws_toFaceSS.calls HS (rD 3 r_a) h8) (fun _ wd12 ⟨A9, c10, y11, h13, HS⟩ => ⟨_, h13, (fL b5 0 fl55_0 Z (GO.stBox (j := 1) (vs := [.slice A9 t7.length c10]) ([.slice A9 t7.length c10]) HS Z Z Z Z Z (htN na53 Z) Z Z Z fun wd14 HS => nL (sQ (rG (GO.ldBoxA (j := 1) ([.slice A9 t7.length c10]) HS Z Z Z Z ag55 Z (GO.stBox (j := 2) (vs := [.slice A9 t7.length c10]) ([.slice A9 t7.length c10]) HS Z Z Z Z Z (htA ag55) Z Z Z fun wd15 HS => nL ?_))))))⟩))))
  obtain rfl := sI H
  exact rT _ func44 Z (Res1.boxA (j := 2) (vs := [.slice A9 t7.length c10]) HS Z Z Z ag55) ⟨_, _, _, Z, (HS.pk 4 [0] Z)⟩
theorem laws_toCrossing.calls {a_A a_B : Int} {a_C a_D : Int} {a1 r1 : Int} {r2 r3 : Int} {r4 r5 : Int} (HS : St w0 w (L)) (H : laws_toCrossing.f a_A a_B a_C a_D a1 = some (r1, r2, r3, r4, r5)) :
    Calls prog 134 #[.agg [I a_A, I a_B, I a_C, I a_D, I a1].toArray] w (laws_toCrossing.post w0 L r1 r2 r3 r4 r5) := by
  unfold laws_toCrossing.f at H
  refine cG func134 Z ?_
  refine sQ (rG (GO.box (cs := [I a_A, I a_B, I a_C, I a_D, I a1]) HS Z Z Z Z fun b1 wd2 HS => GO.alloc HS Z zr152 Z Z fun b3 wd4 HS => nL (sQ (rG (GO.alloc HS Z zr152 Z Z fun b5 wd6 HS => nL (sQ (rG (fL b1 0 fl168_0 Z (lB 2 HS Z na2 Z (fL b5 0 fl152_0 Z (GO.stBox (j := 0) (vs := [I a_A]) ([I a_A, I 0, I 0, I 0, I 0]) HS Z Z Z Z Z (htN na2 Z) Z Z Z fun wd7 HS => ?_)))))))))))
  refine nL (sQ (rG (fL b1 1 fl168_1 Z (lB 2 HS Z na2 Z (fL b5 1 fl152_1 Z (GO.stBox (j := 0) (vs := [I a_B]) ([I a_A, I a_B, I 0, I 0, I 0]) HS Z Z Z Z Z (htN na2 Z) Z Z Z fun wd8 HS => nL (sQ (rG (fL b1 2 fl168_2 Z (lB 2 HS Z na2 Z (fL b5 2 fl152_2 Z (GO.stBox (j := 0) (vs := [I a_C]) ([I a_A, I a_B, I a_C, I 0, I 0]) HS Z Z Z Z Z (htN na2 Z) Z Z Z fun wd9 HS => nL ?_))))))))))))
  refine sQ (rG (fL b1 3 fl168_3 Z (lB 2 HS Z na2 Z (fL b5 3 fl152_3 Z (GO.stBox (j := 0) (vs := [I a_D]) ([I a_A, I a_B, I a_C, I a_D, I 0]) HS Z Z Z Z Z (htN na2 Z) Z Z Z fun wd10 HS => nL (sQ (rG (fL b1 4 fl168_4 Z (lB 2 HS Z na2 Z (fL b5 4 fl152_4 Z (GO.stBox (j := 0) (vs := [I a1]) ([I a_A, I a_B, I a_C, I a_D, I a1]) HS Z Z Z Z Z (htN na2 Z) Z Z Z fun wd11 HS => nL (sQ ?_))))))))))))
  refine rG (GO.ldBoxA (j := 0) ([I a_A, I a_B, I a_C, I a_D, I a1]) HS Z Z Z Z ag152 Z (GO.stBox (j := 1) (vs := [I a_A, I a_B, I a_C, I a_D, I a1]) ([I a_A, I a_B, I a_C, I a_D, I a1]) HS Z Z Z Z Z (htA ag152) Z Z Z fun wd12 HS => nL ?_))
  obtain ⟨rfl, rfl, rfl, rfl, rfl⟩ := some5 H
  exact rT _ func134 Z (Res1.boxA (j := 1) (vs := [I a_A, I a_B, I a_C, I a_D, I a1]) HS Z Z Z ag152) ⟨Z, (HS.pk 3 [] Z)⟩
theorem laws_toCrossingS.calls {a_ : List GCrossing} {A_a : Option Addr} {c_a : Nat} {r1 : List GCrossing} (HS : St w0 w (L)) (r_a : RdIn w0 L T_GCrossing A_a c_a (fun _ => ()) a_) (H : laws_toCrossingS.f K a_ = some r1) :
    Calls prog 93 #[.slice A_a a_.length c_a] w (laws_toCrossingS.post w0 L r1) := by
  unfold laws_toCrossingS.f at H
  refine cG func93 Z ?_
  refine rN 3 Z ?_
  obtain ⟨c1, H⟩ := iN H
  obtain ⟨c2, H⟩ := iN H
  refine rG (mV Z (lS Z Z underlying40 Z (GO.make (T := T_GCrossing) z_GCrossing () HS flat_flat Z Z Z underlying56 inf152 Z Z Z c1 c2 Z fun b3 wd4 HS => aS Z (nL (rN 5 Z ?_)))))
  refine G.name (fun i1 f1 => ?_)
  have k1 : ∀ b1, b1 ≤ K → ∀ (d1 : List GCrossing) (a1 : Int) (w : World), laws_toCrossingS.l1 K b1 a_ d1 a1 = some r1 → St w0 w (Own T_GCrossing 152 (some ⟨b3, 0, none⟩) ((a_.length : Int).toNat) (fun _ => ()) d1 :: L) → G prog 93 23 [(0, .slice A_a a_.length c_a), (3, .slice (some ⟨b3, 0, none⟩) d1.length ((a_.length : Int).toNat)), (4, I a1)] i1 w (laws_toCrossingS.post w0 L r1) := by
   intro b1
   induction b1 using Nat.strongRecOn with
   | _ b1 h1 =>
    intro g1 d1 a1 w H HS
    cases b1 with
    | zero => rw [laws_toCrossingS.l1] at H; cases H
    | succ e1 =>
     rw [laws_toCrossingS.l1] at H
     subst f1
     refine rN 2 Z (rG (pS 2 Z (lS Z Z underlying40 Z (GO.lss Z Z Z Z (nL ?_)))))
     rcases iE H with ⟨c35, H⟩ | ⟨c35, H⟩
     ·
      refine yB Z (tT c35) (rN 3 Z ?_)
      obtain ⟨c36, H⟩ := iN H
      obtain ⟨e37, h38, H⟩ := bnd_elim H
      obtain ⟨t39, t40, t41, t42, t43, h44, H⟩ := bind5_elim H
      obtain ⟨c47, H⟩ := iN H
      refine rG (pS 4 Z (GO.ix Z Z Z underlying40 sz168 ((rD 1 r_a) _ HS).2.2.1 c36.1 c36.2 Z (GO.ldRdA (T := T_GCrossing) (n := a1.toNat) HS (rD 1 r_a) Z Z (getD_eq (ltN c36) h38) ag168 Z (fN Z func134 fok134.1 fok134.2 Z Z (laws_toCrossing.calls HS  h44) (fun _ wd45 ⟨h46, HS⟩ => ⟨_, h46, (GO.ix Z Z Z underlying56 sz152 (fun _ => ⟨_, _, Z⟩) c47.1 c47.2 Z (GO.stRow (T := T_GCrossing) (j := 0) (n := a1.toNat) (o := 0) (vs := [I t39, I t40, I t41, I t42, I t43]) (⟨t39, t40, t41, t42, t43⟩ : GCrossing) HS Z flat_flat Z Z Z Z (htA ag152) Z (getD_some (d := z_GCrossing) (ltN c47)) Z Z fun wd48 HS => nL (G.len (t := 3) (m := (d1.set a1.toNat (⟨t39, t40, t41, t42, t43⟩ : GCrossing)).length) Z (by simp only [List.length_set] <;> rfl) (rN 3 Z (G.weak ?_ (h1 e1 (Nat.lt_succ_of_le (lR _)) (Nat.le_of_succ_le g1) _ _ _ H HS))))))⟩)))))
      exact ⟨Z, Z, Z, tv⟩
     refine nB Z (tF c35) (rN 3 Z ?_)
     obtain rfl := sI H
     exact rT _ func93 Z Z ⟨_, _, Z, HS⟩
  refine G.weak ?_ (k1 K (lR _) _ _ _ H HS)
  exact ⟨Z, Z, Z, tv⟩
theorem laws_toDiagram.calls {c1 : List GCrossing} {a1 : Int} {A_a : Option Addr} {c_a : Nat} {r1 : List GCrossing} {r2 : Int} (HS : St w0 w (L)) (r_a : RdIn w0 L T_GCrossing A_a c_a (fun _ => ()) c1) (H : laws_toDiagram.f K c1 a1 = some (r1, r2)) :
    Calls prog 45 #[.agg [.slice A_a c1.length c_a, I a1].toArray] w (laws_toDiagram.post w0 L r1 r2) := by
  unfold laws_toDiagram.f at H
  refine cG func45 Z ?_
  refine sQ (rG (GO.box (cs := [.slice A_a c1.length c_a, I a1]) HS Z Z Z Z fun b1 wd2 HS => GO.alloc HS Z zr58 Z Z fun b3 wd4 HS => nL (sQ (rG (GO.alloc HS Z zr58 Z Z fun b5 wd6 HS => nL (sQ ?_))))))
  obtain ⟨t7, h8, H⟩ := bI H
  refine rG (fL b1 0 fl42_0 Z (lB 2 HS Z na40 Z (fN Z func93 fok93.1 fok93.2 Z Z (laws_toCrossingS.calls HS (rD 3 r_a) h8) (fun _ wd11 ⟨A9, c10, h12, HS⟩ => ⟨_, h12, (fL b5 0 fl58_0 Z (GO.stBox (j := 1) (vs := [.slice A9 t7.length c10]) ([.slice A9 t7.length c10, I 0]) HS Z Z Z Z Z (htN na56 Z) Z Z Z fun wd13 HS => nL (sQ (rG (fL b1 1 fl42_1 Z (lB 3 HS Z na2 Z (fL b5 1 fl58_1 Z (GO.stBox (j := 1) (vs := [I a1]) ([.slice A9 t7.length c10, I a1]) HS Z Z Z Z Z (htN na2 Z) Z Z Z fun wd14 HS => nL (sQ ?_)))))))))⟩))))
  refine rG (GO.ldBoxA (j := 1) ([.slice A9 t7.length c10, I a1]) HS Z Z Z Z ag58 Z (GO.stBox (j := 2) (vs := [.slice A9 t7.length c10, I a1]) ([.slice A9 t7.length c10, I a1]) HS Z Z Z Z Z (htA ag58) Z Z Z fun wd15 HS => nL ?_))
  obtain ⟨rfl, rfl⟩ := some2 H
  exact rT _ func45 Z (Res1.boxA (j := 2) (vs := [.slice A9 t7.length c10, I a1]) HS Z Z Z ag58) ⟨_, _, Z, (HS.pk 4 [0] Z)⟩
theorem laws_toInt64S.calls {a_ : List Int} {A_a : Option Addr} {c_a : Nat} {r1 : List Int} (HS : St w0 w (L)) (r_a : RdIn w0 L (TInt .i64) A_a c_a (fun _ => ()) a_) (H : laws_toInt64S.f K a_ = some r1) :
    Calls prog 94 #[.slice A_a a_.length c_a] w (laws_toInt64S.post w0 L r1) := by
  unfold laws_toInt64S.f at H
  refine cG func94 Z ?_
  refine rN 3 Z ?_
  obtain ⟨c1, H⟩ := iN H
  obtain ⟨c2, H⟩ := iN H
  refine rG (mV Z (lS Z Z underlying43 Z (GO.make (T := (TInt .i64)) 0 () HS flat_flat Z Z Z underlying43 inf2 Z Z Z c1 c2 Z fun b3 wd4 HS => aS Z (nL (rN 5 Z ?_)))))
  refine G.name (fun i1 f1 => ?_)
  have k1 : ∀ b1, b1 ≤ K → ∀ (d1 : List Int) (a1 : Int) (w : World), laws_toInt64S.l1 K b1 a_ d1 a1 = some r1 → St w0 w (Own (TInt .i64) 2 (some ⟨b3, 0, none⟩) ((a_.length : Int).toNat) (fun _ => ()) d1 :: L) → G prog 94 22 [(0, .slice A_a a_.length c_a), (3, .slice (some ⟨b3, 0, none⟩) d1.length ((a_.length : Int).toNat)), (4, I a1)] i1 w (laws_toInt64S.post w0 L r1) := by
   intro b1
   induction b1 using Nat.strongRecOn with
   | _ b1 h1 =>
    intro g1 d1 a1 w H HS
    cases b1 with
    | zero => rw [laws_toInt64S.l1] at H; cases H
    | succ e1 =>
     rw [laws_toInt64S.l1] at H
     subst f1
     refine rN 2 Z (rG (pS 2 Z (lS Z Z underlying43 Z (GO.lss Z Z Z Z (nL ?_)))))
     rcases iE H with ⟨c15, H⟩ | ⟨c15, H⟩
     ·
      refine yB Z (tT c15) (rN 3 Z ?_)
      obtain ⟨c16, H⟩ := iN H
      obtain ⟨c17, H⟩ := iN H
      refine rG (pS 4 Z (GO.ix Z Z Z underlying43 sz2 ((rD 1 r_a) _ HS).2.2.1 c16.1 c16.2 Z (GO.ldRd (T := (TInt .i64)) (n := a1.toNat) (o := 0) HS (rD 1 r_a) Z Z (getD_some (d := 0) (ltN c16)) Z Z na2 Z (GO.ix Z Z Z underlying43 sz2 (fun _ => ⟨_, _, Z⟩) c17.1 c17.2 Z (GO.stRow (T := (TInt .i64)) (j := 0) (n := a1.toNat) (o := 0) (vs := [I (a_.getD a1.toNat 0)]) (a_.getD a1.toNat 0) HS Z flat_flat Z Z Z Z (htN na2 Z) Z (getD_some (d := 0) (ltN c17)) Z Z fun wd18 HS => nL (G.len (t := 3) (m := (d1.set a1.toNat (a_.getD a1.toNat 0)).length) Z (by simp only [List.length_set] <;> rfl) (rN 3 Z (G.weak ?_ (h1 e1 (Nat.lt_succ_of_le (lR _)) (Nat.le_of_succ_le g1) _ _ _ H HS)))))))))
      exact ⟨Z, Z, Z, tv⟩
     refine nB Z (tF c15) (rN 3 Z ?_)
     obtain rfl := sI H
     exact rT _ func94 Z Z ⟨_, _, Z, HS⟩
  refine G.weak ?_ (k1 K (lR _) _ _ _ H HS)
  exact ⟨Z, Z, Z, tv⟩
theorem laws_toBraid.calls {a1 : Int} {c1 : List Int} {A_a : Option Addr} {c_a : Nat} {r1 : Int} {r2 : List Int} (HS : St w0 w (L)) (r_a : RdIn w0 L (TInt .i64) A_a c_a (fun _ => ()) c1) (H : laws_toBraid.f K a1 c1 = some (r1, r2)) :
    Calls prog 46 #[.agg [I a1, .slice A_a c1.length c_a].toArray] w (laws_toBraid.post w0 L r1 r2) := by
  unfold laws_toBraid.f at H
  refine cG func46 Z ?_
  refine sQ (rG (GO.box (cs := [I a1, .slice A_a c1.length c_a]) HS Z Z Z Z fun b1 wd2 HS => GO.alloc HS Z zr59 Z Z fun b3 wd4 HS => nL (sQ (rG (GO.alloc HS Z zr59 Z Z fun b5 wd6 HS => nL (sQ (rG (fL b1 0 fl45_0 Z (lB 2 HS Z na2 Z (fL b5 0 fl59_0 Z (GO.stBox (j := 0) (vs := [I a1]) ([I a1, .slice none 0 0]) HS Z Z Z Z Z (htN na2 Z) Z Z Z fun wd7 HS => ?_)))))))))))
  refine nL (sQ ?_)
  obtain ⟨t8, h9, H⟩ := bI H
  refine rG (fL b1 1 fl45_1 Z (lB 2 HS Z na43 Z (fN Z func94 fok94.1 fok94.2 Z Z (laws_toInt64S.calls HS (rD 3 r_a) h9) (fun _ wd12 ⟨A10, c11, h13, HS⟩ => ⟨_, h13, (fL b5 1 fl59_1 Z (GO.stBox (j := 1) (vs := [.slice A10 t8.length c11]) ([I a1, .slice A10 t8.length c11]) HS Z Z Z Z Z (htN na43 Z) Z Z Z fun wd14 HS => nL (sQ (rG (GO.ldBoxA (j := 1) ([I a1, .slice A10 t8.length c11]) HS Z Z Z Z ag59 Z (GO.stBox (j := 2) (vs := [I a1, .slice A10 t8.length c11]) ([I a1, .slice A10 t8.length c11]) HS Z Z Z Z Z (htA ag59) Z Z Z fun wd15 HS => nL ?_))))))⟩))))
  obtain ⟨rfl, rfl⟩ := some2 H
  exact rT _ func46 Z (Res1.boxA (j := 2) (vs := [I a1, .slice A10 t8.length c11]) HS Z Z Z ag59) ⟨_, _, Z, (HS.pk 4 [0] Z)⟩
theorem laws_toMove.calls {a1 c1 : Int} {d1 r1 : Int} {r2 r3 : Int} (HS : St w0 w (L)) (H : laws_toMove.f a1 c1 d1 = some (r1, r2, r3)) :
    Calls prog 135 #[.agg [I a1, I c1, I d1].toArray] w (laws_toMove.post w0 L r1 r2 r3) := by
  unfold laws_toMove.f at H
  refine cG func135 Z ?_
  refine sQ (rG (GO.box (cs := [I a1, I c1, I d1]) HS Z Z Z Z fun b1 wd2 HS => GO.alloc HS Z zr140 Z Z fun b3 wd4 HS => nL (sQ (rG (GO.alloc HS Z zr140 Z Z fun b5 wd6 HS => nL (sQ (rG (fL b1 0 fl170_0 Z (lB 2 HS Z na2 Z (fL b5 0 fl140_0 Z (GO.stBox (j := 0) (vs := [I a1]) ([I a1, I 0, I 0]) HS Z Z Z Z Z (htN na2 Z) Z Z Z fun wd7 HS => ?_)))))))))))
  refine nL (sQ (rG (fL b1 1 fl170_1 Z (lB 2 HS Z na2 Z (fL b5 1 fl140_1 Z (GO.stBox (j := 0) (vs := [I c1]) ([I a1, I c1, I 0]) HS Z Z Z Z Z (htN na2 Z) Z Z Z fun wd8 HS => nL (sQ (rG (fL b1 2 fl170_2 Z (lB 2 HS Z na2 Z (fL b5 2 fl140_2 Z (GO.stBox (j := 0) (vs := [I d1]) ([I a1, I c1, I d1]) HS Z Z Z Z Z (htN na2 Z) Z Z Z fun wd9 HS => nL ?_))))))))))))
  refine sQ (rG (GO.ldBoxA (j := 0) ([I a1, I c1, I d1]) HS Z Z Z Z ag140 Z (GO.stBox (j := 1) (vs := [I a1, I c1, I d1]) ([I a1, I c1, I d1]) HS Z Z Z Z Z (htA ag140) Z Z Z fun wd10 HS => nL ?_)))
  obtain ⟨rfl, rfl, rfl⟩ := some3 H
  exact rT _ func135 Z (Res1.boxA (j := 1) (vs := [I a1, I c1, I d1]) HS Z Z Z ag140) ⟨Z, (HS.pk 3 [] Z)⟩
theorem laws_toMoveS.calls {a_ : List GMove} {A_a : Option Addr} {c_a : Nat} {r1 : List GMove} (HS : St w0 w (L)) (r_a : RdIn w0 L T_GMove A_a c_a (fun _ => ()) a_) (H : laws_toMoveS.f K a_ = some r1) :
    Calls prog 95 #[.slice A_a a_.length c_a] w (laws_toMoveS.post w0 L r1) := by
  unfold laws_toMoveS.f at H
  refine cG func95 Z ?_
  refine rN 3 Z ?_
  obtain ⟨c1, H⟩ := iN H
  obtain ⟨c2, H⟩ := iN H
  refine rG (mV Z (lS Z Z underlying46 Z (GO.make (T := T_GMove) z_GMove () HS flat_flat Z Z Z underlying60 inf140 Z Z Z c1 c2 Z fun b3 wd4 HS => aS Z (nL (rN 5 Z ?_)))))
  refine G.name (fun i1 f1 => ?_)
  have k1 : ∀ a1, a1 ≤ K → ∀ (d1 : List GMove) (b1 : Int) (w : World), laws_toMoveS.l1 K a1 a_ d1 b1 = some r1 → St w0 w (Own T_GMove 140 (some ⟨b3, 0, none⟩) ((a_.length : Int).toNat) (fun _ => ()) d1 :: L) → G prog 95 23 [(0, .slice A_a a_.length c_a), (3, .slice (some ⟨b3, 0, none⟩) d1.length ((a_.length : Int).toNat)), (4, I b1)] i1 w (laws_toMoveS.post w0 L r1) := by
   intro a1
   induction a1 using Nat.strongRecOn with
   | _ a1 h1 =>
    intro g1 d1 b1 w H HS
    cases a1 with
    | zero => rw [laws_toMoveS.l1] at H; cases H
    | succ e1 =>
     rw [laws_toMoveS.l1] at H
     subst f1
     refine rN 2 Z (rG (pS 2 Z (lS Z Z underlying46 Z (GO.lss Z Z Z Z (nL ?_)))))
     rcases iE H with ⟨c31, H⟩ | ⟨c31, H⟩
     ·
      refine yB Z (tT c31) (rN 3 Z ?_)
      obtain ⟨c32, H⟩ := iN H
      obtain ⟨e33, h34, H⟩ := bnd_elim H
      obtain ⟨t35, t36, t37, h38, H⟩ := bind3_elim H
      obtain ⟨c41, H⟩ := iN H
      refine rG (pS 4 Z (GO.ix Z Z Z underlying46 sz170 ((rD 1 r_a) _ HS).2.2.1 c32.1 c32.2 Z (GO.ldRdA (T := T_GMove) (n := b1.toNat) HS (rD 1 r_a) Z Z (getD_eq (ltN c32) h34) ag170 Z (fN Z func135 fok135.1 fok135.2 Z Z (laws_toMove.calls HS  h38) (fun _ wd39 ⟨h40, HS⟩ => ⟨_, h40, (GO.ix Z Z Z underlying60 sz140 (fun _ => ⟨_, _, Z⟩) c41.1 c41.2 Z (GO.stRow (T := T_GMove) (j := 0) (n := b1.toNat) (o := 0) (vs := [I t35, I t36, I t37]) (⟨t35, t36, t37⟩ : GMove) HS Z flat_flat Z Z Z Z (htA ag140) Z (getD_some (d := z_GMove) (ltN c41)) Z Z fun wd42 HS => nL (G.len (t := 3) (m := (d1.set b1.toNat (⟨t35, t36, t37⟩ : GMove)).length) Z (by simp only [List.length_set] <;> rfl) (rN 3 Z (G.weak ?_ (h1 e1 (Nat.lt_succ_of_le (lR _)) (Nat.le_of_succ_le g1) _ _ _ H HS))))))⟩)))))
      exact ⟨Z, Z, Z, tv⟩
     refine nB Z (tF c31) (rN 3 Z ?_)
     obtain rfl := sI H
     exact rT _ func95 Z Z ⟨_, _, Z, HS⟩
  refine G.weak ?_ (k1 K (lR _) _ _ _ H HS)
  exact ⟨Z, Z, Z, tv⟩
theorem laws_toCertificate.calls {a1 c1 : Int} {d1 : List GMove} {f1 e1 : List Int} {A_a : Option Addr} {c_a : Nat} {A_b : Option Addr} {c_b : Nat} {A_c : Option Addr} {c_c : Nat} {r1 r2 : Int} {r3 : List GMove} {r4 r5 : List Int} (HS : St w0 w (L)) (r_a : RdIn w0 L T_GMove A_a c_a (fun _ => ()) d1) (r_b : RdIn w0 L (TInt .i64) A_b c_b (fun _ => ()) f1) (r_c : RdIn w0 L (TInt .i64) A_c c_c (fun _ => ()) e1) (H : laws_toCertificate.f K a1 c1 d1 f1 e1 = some (r1, r2, r3, r4, r5)) :
    Calls prog 47 #[.agg [I a1, I c1, .slice A_a d1.length c_a, .slice A_b f1.length c_b, .slice A_c e1.length c_c].toArray] w (laws_toCertificate.post w0 L r1 r2 r3 r4 r5) := by
  unfold laws_toCertificate.f at H
  refine cG func47 Z ?_
  refine sQ (rG (GO.box (cs := [I a1, I c1, .slice A_a d1.length c_a, .slice A_b f1.length c_b, .slice A_c e1.length c_c]) HS Z Z Z Z fun b1 wd2 HS => GO.alloc HS Z zr62 Z Z fun b3 wd4 HS => nL (sQ (rG (GO.alloc HS Z zr62 Z Z fun b5 wd6 HS => nL (sQ (rG (fL b1 0 fl48_0 Z (lB 2 HS Z na2 Z (fL b5 0 fl62_0 Z (GO.stBox (j := 0) (vs := [I a1]) ([I a1, I 0, .slice none 0 0, .slice none 0 0, .slice none 0 0]) HS Z Z Z Z Z (htN na2 Z) Z Z Z fun wd7 HS => ?_)))))))))))
  refine nL (sQ (rG (fL b1 1 fl48_1 Z (lB 2 HS Z na2 Z (fL b5 1 fl62_1 Z (GO.stBox (j := 0) (vs := [I c1]) ([I a1, I c1, .slice none 0 0, .slice none 0 0, .slice none 0 0]) HS Z Z Z Z Z (htN na2 Z) Z Z Z fun wd8 HS => nL (sQ ?_)))))))
  obtain ⟨t9, h10, H⟩ := bI H
  refine rG (fL b1 2 fl48_2 Z (lB 2 HS Z na46 Z (fN Z func95 fok95.1 fok95.2 Z Z (laws_toMoveS.calls HS (rD 3 r_a) h10) (fun _ wd13 ⟨A11, c12, h14, HS⟩ => ⟨_, h14, (fL b5 2 fl62_2 Z (GO.stBox (j := 1) (vs := [.slice A11 t9.length c12]) ([I a1, I c1, .slice A11 t9.length c12, .slice none 0 0, .slice none 0 0]) HS Z Z Z Z Z (htN na60 Z) Z Z Z fun wd15 HS => nL (sQ ?_)))⟩))))
  obtain ⟨t16, h17, H⟩ := bI H
  refine rG (fL b1 3 fl48_3 Z (lB 3 HS Z na43 Z (fN Z func94 fok94.1 fok94.2 Z Z (laws_toInt64S.calls HS (rD 4 r_b) h17) (fun _ wd20 ⟨A18, c19, h21, HS⟩ => ⟨_, h21, (fL b5 3 fl62_3 Z (GO.stBox (j := 2) (vs := [.slice A18 t16.length c19]) ([I a1, I c1, .slice A11 t9.length c12, .slice A18 t16.length c19, .slice none 0 0]) HS Z Z Z Z Z (htN na43 Z) Z Z Z fun wd22 HS => nL (sQ ?_)))⟩))))
  obtain ⟨t23, h24, H⟩ := bI H
  refine rG (fL b1 4 fl48_4 Z (lB 4 HS Z na43 Z (fN Z func94 fok94.1 fok94.2 Z Z (laws_toInt64S.calls HS (rD 5 r_c) h24) (fun _ wd27 ⟨A25, c26, h28, HS⟩ => ⟨_, h28, (fL b5 4 fl62_4 Z (GO.stBox (j := 3) (vs := [.slice A25 t23.length c26]) ([I a1, I c1, .slice A11 t9.length c12, .slice A18 t16.length c19, .slice A25 t23.length c26]) HS Z Z Z Z Z (htN na43 Z) Z Z Z fun wd29 HS => nL (sQ (rG (GO.ldBoxA (j := 3) ([I a1, I c1, .slice A11 t9.length c12, .slice A18 t16.length c19, .slice A25 t23.length c26]) HS Z Z Z Z ag62 Z (GO.stBox (j := 4) (vs := [I a1, I c1, .slice A11 t9.length c12, .slice A18 t16.length c19, .slice A25 t23.length c26]) ([I a1, I c1, .slice A11 t9.length c12, .slice A18 t16.length c19, .slice A25 t23.length c26]) HS Z Z Z Z Z (htA ag62) Z Z Z fun wd30 HS => nL ?_))))))⟩))))
  obtain ⟨rfl, rfl, rfl, rfl, rfl⟩ := some5 H
  exact rT _ func47 Z (Res1.boxA (j := 4) (vs := [I a1, I c1, .slice A11 t9.length c12, .slice A18 t16.length c19, .slice A25 t23.length c26]) HS Z Z Z ag62) ⟨_, _, _, _, _, _, Z, (HS.pk 6 [2, 1, 0] Z)⟩
theorem laws_toItem.calls {a1 : ByteArray} {c1 : Int} {h1 : List (List GFace)} {g1 : List GCrossing} {n1 m1 : Int} {d1 : List Int} {k1 o1 : Int} {f1 : List GMove} {i1 e1 : List Int} {A_a : Option Addr} {c_a : Nat} {y_a : Nat → (Ty.slice 200 T_GFace).Lay} {A_b : Option Addr} {c_b : Nat} {A_c : Option Addr} {c_c : Nat} {A_d : Option Addr} {c_d : Nat} {A_e : Option Addr} {c_e : Nat} {A_f : Option Addr} {c_f : Nat} {r1 : ByteArray} {r2 : Int} {r3 : List (List GFace)} {r4 : List GCrossing} {r5 r6 : Int} {r7 : List Int} {r8 r9 : Int} {r10 : List GMove} {r11 r12 : List Int} (HS : St w0 w (L)) (r_a : RdIn w0 L (Ty.slice 200 T_GFace) A_a c_a y_a h1) (r_b : RdIn w0 L T_GCrossing A_b c_b (fun _ => ()) g1) (r_c : RdIn w0 L (TInt .i64) A_c c_c (fun _ => ()) d1) (r_d : RdIn w0 L T_GMove A_d c_d (fun _ => ()) f1) (r_e : RdIn w0 L (TInt .i64) A_e c_e (fun _ => ()) i1) (r_f : RdIn w0 L (TInt .i64) A_f c_f (fun _ => ()) e1) (H : laws_toItem.f K a1 c1 h1 g1 n1 m1 d1 k1 o1 f1 i1 e1 = some (r1, r2, r3, r4, r5, r6, r7, r8, r9, r10, r11, r12)) :
    Calls prog 14 #[.agg [.string a1, I c1, .slice A_a h1.length c_a, .slice A_b g1.length c_b, I n1, I m1, .slice A_c d1.length c_c, I k1, I o1, .slice A_d f1.length c_d, .slice A_e i1.length c_e, .slice A_f e1.length c_f].toArray] w (laws_toItem.post w0 L r1 r2 r3 r4 r5 r6 r7 r8 r9 r10 r11 r12) := by
  unfold laws_toItem.f at H
  refine cG func14 Z ?_
  refine sQ (rG (GO.box (cs := [.string a1, I c1, .slice A_a h1.length c_a, .slice A_b g1.length c_b, I n1, I m1, .slice A_c d1.length c_c, I k1, I o1, .slice A_d f1.length c_d, .slice A_e i1.length c_e, .slice A_f e1.length c_f]) HS Z Z Z Z fun b1 wd2 HS => GO.alloc HS Z zr64 Z Z fun b3 wd4 HS => nL (sQ (rG (GO.alloc HS Z zr64 Z Z fun b5 wd6 HS => nL (sQ (rG (fL b1 0 fl50_0 Z (lB 2 HS Z na9 Z (fL b5 0 fl64_0 Z (GO.stBox (j := 0) (vs := [.string a1]) ([.string a1, I 0, .slice none 0 0, .slice none 0 0, I 0, I 0, .slice none 0 0, I 0, I 0, .slice none 0 0, .slice none 0 0, .slice none 0 0]) HS Z Z Z Z Z (htN na9 Z) Z Z Z fun wd7 HS => ?_)))))))))))
  refine nL (sQ (rG (fL b1 1 fl50_1 Z (lB 2 HS Z na2 Z (fL b5 1 fl64_1 Z (GO.stBox (j := 0) (vs := [I c1]) ([.string a1, I c1, .slice none 0 0, .slice none 0 0, I 0, I 0, .slice none 0 0, I 0, I 0, .slice none 0 0, .slice none 0 0, .slice none 0 0]) HS Z Z Z Z Z (htN na2 Z) Z Z Z fun wd8 HS => nL (sQ ?_)))))))
  obtain ⟨t9, h10, H⟩ := bI H
  refine rG (fL b1 2 fl50_2 Z (GO.ldBoxA (j := 2) ([.slice A_a h1.length c_a]) HS Z Z Z Z ag39 Z (fN Z func44 fok44.1 fok44.2 Z Z (laws_toTriangulation.calls HS (rD 3 r_a) h10) (fun _ wd14 ⟨A11, c12, y13, h15, HS⟩ => ⟨_, h15, (fL b5 2 fl64_2 Z (GO.stBox (j := 1) (vs := [.slice A11 t9.length c12]) ([.string a1, I c1, .slice A11 t9.length c12, .slice none 0 0, I 0, I 0, .slice none 0 0, I 0, I 0, .slice none 0 0, .slice none 0 0, .slice none 0 0]) HS Z Z Z Z Z (htA ag55) Z Z Z fun wd16 HS => nL (sQ ?_)))⟩))))
  obtain ⟨t17, t18, h19, H⟩ := bind2_elim H
  refine rG (fL b1 3 fl50_3 Z (GO.ldBoxA (j := 3) ([.slice A_b g1.length c_b, I n1]) HS Z Z Z Z ag42 Z (fN Z func45 fok45.1 fok45.2 Z Z (laws_toDiagram.calls HS (rD 4 r_b) h19) (fun _ wd22 ⟨A20, c21, h23, HS⟩ => ⟨_, h23, (fL b5 3 fl64_3 Z (GO.stBox (j := 2) (vs := [.slice A20 t17.length c21, I t18]) ([.string a1, I c1, .slice A11 t9.length c12, .slice A20 t17.length c21, I t18, I 0, .slice none 0 0, I 0, I 0, .slice none 0 0, .slice none 0 0, .slice none 0 0]) HS Z Z Z Z Z (htA ag58) Z Z Z fun wd24 HS => nL (sQ ?_)))⟩))))
  obtain ⟨t25, t26, h27, H⟩ := bind2_elim H
  refine rG (fL b1 5 fl50_4 Z (GO.ldBoxA (j := 4) ([I m1, .slice A_c d1.length c_c]) HS Z Z Z Z ag45 Z (fN Z func46 fok46.1 fok46.2 Z Z (laws_toBraid.calls HS (rD 5 r_c) h27) (fun _ wd30 ⟨A28, c29, h31, HS⟩ => ⟨_, h31, (fL b5 5 fl64_4 Z (GO.stBox (j := 3) (vs := [I t25, .slice A28 t26.length c29]) ([.string a1, I c1, .slice A11 t9.length c12, .slice A20 t17.length c21, I t18, I t25, .slice A28 t26.length c29, I 0, I 0, .slice none 0 0, .slice none 0 0, .slice none 0 0]) HS Z Z Z Z Z (htA ag59) Z Z Z fun wd32 HS => nL (sQ ?_)))⟩))))
  obtain ⟨t33, t34, t35, t36, t37, h38, H⟩ := bind5_elim H
  refine rG (fL b1 7 fl50_5 Z (GO.ldBoxA (j := 5) ([I k1, I o1, .slice A_d f1.length c_d, .slice A_e i1.length c_e, .slice A_f e1.length c_f]) HS Z Z Z Z ag48 Z (fN Z func47 fok47.1 fok47.2 Z Z (laws_toCertificate.calls HS (rD 6 r_d) (rD 6 r_e) (rD 6 r_f) h38) (fun _ wd45 ⟨A39, c40, A41, c42, A43, c44, h46, HS⟩ => ⟨_, h46, (fL b5 7 fl64_5 Z (GO.stBox (j := 6) (vs := [I t33, I t34, .slice A39 t35.length c40, .slice A41 t36.length c42, .slice A43 t37.length c44]) ([.string a1, I c1, .slice A11 t9.length c12, .slice A20 t17.length c21, I t18, I t25, .slice A28 t26.length c29, I t33, I t34, .slice A39 t35.length c40, .slice A41 t36.length c42, .slice A43 t37.length c44]) HS Z Z Z Z Z (htA ag62) Z Z Z fun wd47 HS => nL (sQ (rG (GO.ldBoxA (j := 6) ([.string a1, I c1, .slice A11 t9.length c12, .slice A20 t17.length c21, I t18, I t25, .slice A28 t26.length c29, I t33, I t34, .slice A39 t35.length c40, .slice A41 t36.length c42, .slice A43 t37.length c44]) HS Z Z Z Z ag64 Z (GO.stBox (j := 7) (vs := [.string a1, I c1, .slice A11 t9.length c12, .slice A20 t17.length c21, I t18, I t25, .slice A28 t26.length c29, I t33, I t34, .slice A39 t35.length c40, .slice A41 t36.length c42, .slice A43 t37.length c44]) ([.string a1, I c1, .slice A11 t9.length c12, .slice A20 t17.length c21, I t18, I t25, .slice A28 t26.length c29, I t33, I t34, .slice A39 t35.length c40, .slice A41 t36.length c42, .slice A43 t37.length c44]) HS Z Z Z Z Z (htA ag64) Z Z Z fun wd48 HS => nL ?_))))))⟩))))
  obtain ⟨rfl, rfl, rfl, rfl, rfl, rfl, rfl, rfl, rfl, rfl, rfl, rfl⟩ := some12 H
  exact rT _ func14 Z (Res1.boxA (j := 7) (vs := [.string a1, I c1, .slice A11 t9.length c12, .slice A20 t17.length c21, I t18, I t25, .slice A28 t26.length c29, I t33, I t34, .slice A39 t35.length c40, .slice A41 t36.length c42, .slice A43 t37.length c44]) HS Z Z Z ag64) ⟨_, _, _, _, _, _, _, _, _, _, _, _, _, Z, (HS.pk 9 [5, 4, 3, 0, 1, 2] Z)⟩
theorem laws_toItemS.calls {a_ : List GItem} {A_a : Option Addr} {c_a : Nat} {y_a : Nat → T_GItem.Lay} {r1 : List GItem} (HS : St w0 w (L)) (r_a : RdIn w0 L T_GItem A_a c_a y_a a_) (H : laws_toItemS.f K a_ = some r1) :
    Calls prog 24 #[.slice A_a a_.length c_a] w (laws_toItemS.post w0 L r1) := by
  unfold laws_toItemS.f at H
  refine cG func24 Z ?_
  refine rN 3 Z ?_
  obtain ⟨c1, H⟩ := iN H
  obtain ⟨c2, H⟩ := iN H
  refine rG (mV Z (lS Z Z underlying22 Z (GO.makeE (T := T_GItem_63) z_GItem ((), (), ⟨none, 0, (fun _ => ⟨none, 0, (fun _ => ())⟩)⟩, ⟨none, 0, (fun _ => ())⟩, (), (), ⟨none, 0, (fun _ => ())⟩, (), (), ⟨none, 0, (fun _ => ())⟩, ⟨none, 0, (fun _ => ())⟩, ⟨none, 0, (fun _ => ())⟩) HS zM_GItem_63 Z Z Z underlying27 inf64 Z Z Z c1 c2 Z fun b3 wd4 HS => aS Z (nL (rN 5 Z ?_)))))
  refine G.name (fun i1 f1 => ?_)
  have k1 : ∀ a1, a1 ≤ K → ∀ (d1 : List GItem) (y41 : Nat → T_GItem_63.Lay) (b1 : Int) (w : World), laws_toItemS.l1 K a1 a_ d1 b1 = some r1 → St w0 w (Own T_GItem_63 64 (some ⟨b3, 0, none⟩) ((a_.length : Int).toNat) y41 d1 :: L) → G prog 24 23 [(0, .slice A_a a_.length c_a), (3, .slice (some ⟨b3, 0, none⟩) d1.length ((a_.length : Int).toNat)), (4, I b1)] i1 w (laws_toItemS.post w0 L r1) := by
   intro a1
   induction a1 using Nat.strongRecOn with
   | _ a1 h1 =>
    intro g1 d1 y41 b1 w H HS
    cases a1 with
    | zero => rw [laws_toItemS.l1] at H; cases H
    | succ e1 =>
     rw [laws_toItemS.l1] at H
     subst f1
     refine rN 2 Z (rG (pS 2 Z (lS Z Z underlying22 Z (GO.lss Z Z Z Z (nL ?_)))))
     rcases iE H with ⟨c78, H⟩ | ⟨c78, H⟩
     ·
      refine yB Z (tT c78) (rN 3 Z ?_)
      obtain ⟨c79, H⟩ := iN H
      obtain ⟨e80, h81, H⟩ := bnd_elim H
      obtain ⟨t82, t83, t84, t85, t86, t87, t88, t89, t90, t91, t92, t93, h94, H⟩ := bind12_elim H
      obtain ⟨c110, H⟩ := iN H
      refine rG (pS 4 Z (GO.ix Z Z Z underlying22 sz50 ((rD 1 r_a) _ HS).2.2.1 c79.1 c79.2 Z (GO.ldRdA (T := T_GItem) (n := b1.toNat) HS (rD 1 r_a) Z Z (getD_eq (ltN c79) h81) ag50 Z (fN Z func14 fok14.1 fok14.2 Z Z (laws_toItem.calls HS (RdIn.fld (rD 1 r_a) (getD_eq (ltN c79) h81) (fun _ h => h.2.2.1)) (RdIn.fld (rD 1 r_a) (getD_eq (ltN c79) h81) (fun _ h => h.2.2.2.1)) (RdIn.fld (rD 1 r_a) (getD_eq (ltN c79) h81) (fun _ h => h.2.2.2.2.2.2.1)) (RdIn.fld (rD 1 r_a) (getD_eq (ltN c79) h81) (fun _ h => h.2.2.2.2.2.2.2.2.2.1)) (RdIn.fld (rD 1 r_a) (getD_eq (ltN c79) h81) (fun _ h => h.2.2.2.2.2.2.2.2.2.2.1)) (RdIn.fld (rD 1 r_a) (getD_eq (ltN c79) h81) (fun _ h => h.2.2.2.2.2.2.2.2.2.2.2)) h94) (fun _ wd108 ⟨A95, c96, y97, A98, c99, A100, c101, A102, c103, A104, c105, A106, c107, h109, HS⟩ => ⟨_, h109, (GO.ix Z Z Z underlying27 sz64 (fun _ => ⟨_, _, Z⟩) c110.1 c110.2 Z ?_)⟩)))))
      replace HS := HS.pk 7 [5, 4, 3, 2, 1, 0, 6] Z
      replace HS := mk_GItem_63 (Name := t82) (Kind := t83) (Diagram_Circles := t86) (Braid_Strands := t87) (Certificate_Name := t89) (Certificate_Trait := t90) HS
      replace HS := HS.pk 2 [1, 0] Z
      refine GO.stE (T := T_GItem_63) (n := b1.toNat) ((), (), ⟨A95, c96, y97⟩, ⟨A98, c99, (fun _ => ())⟩, (), (), ⟨A100, c101, (fun _ => ())⟩, (), (), ⟨A102, c103, (fun _ => ())⟩, ⟨A104, c105, (fun _ => ())⟩, ⟨A106, c107, (fun _ => ())⟩) (⟨t82, t83, t84, t85, t86, t87, t88, t89, t90, t91, t92, t93⟩ : GItem) HS Z Z Z Z (htA ag64) Z (ltN c110) fun y112 wd111 HS => nL (G.len (t := 3) (m := (d1.set b1.toNat (⟨t82, t83, t84, t85, t86, t87, t88, t89, t90, t91, t92, t93⟩ : GItem)).length) Z (by simp only [List.length_set] <;> rfl) (rN 3 Z (G.weak ?_ (h1 e1 (Nat.lt_succ_of_le (lR _)) (Nat.le_of_succ_le g1) _ _ _ _ H HS))))
      exact ⟨Z, Z, Z, tv⟩
     refine nB Z (tF c78) (rN 3 Z ?_)
     obtain rfl := sI H
     exact rT _ func24 Z Z ⟨_, _, _, Z, HS⟩
  refine G.weak ?_ (k1 K (lR _) _ _ _ _ H HS)
  exact ⟨Z, Z, Z, tv⟩
theorem laws_toItemSS.calls {a_ : List (List GItem)} {A_a : Option Addr} {c_a : Nat} {y_a : Nat → (Ty.slice 50 T_GItem).Lay} {r1 : List (List GItem)} (HS : St w0 w (L)) (r_a : RdIn w0 L (Ty.slice 50 T_GItem) A_a c_a y_a a_) (H : laws_toItemSS.f K a_ = some r1) :
    Calls prog 25 #[.slice A_a a_.length c_a] w (laws_toItemSS.post w0 L r1) := by
  unfold laws_toItemSS.f at H
  refine cG func25 Z ?_
  refine rN 3 Z ?_
  obtain ⟨c1, H⟩ := iN H
  obtain ⟨c2, H⟩ := iN H
  refine rG (mV Z (lS Z Z underlying23 Z (GO.makeR (S := T_GItem_63) (u := 64) (fun _ => ((), (), ⟨none, 0, (fun _ => ⟨none, 0, (fun _ => ())⟩)⟩, ⟨none, 0, (fun _ => ())⟩, (), (), ⟨none, 0, (fun _ => ())⟩, (), (), ⟨none, 0, (fun _ => ())⟩, ⟨none, 0, (fun _ => ())⟩, ⟨none, 0, (fun _ => ())⟩)) HS Z Z Z underlying28 inf27 Z c1 c2 Z fun b3 wd4 HS => aS Z (nL (rN 5 Z ?_)))))
  refine G.name (fun i1 f1 => ?_)
  have k1 : ∀ a1, a1 ≤ K → ∀ (b1 : List (List GItem)) (y18 : Nat → (Ty.slice 64 T_GItem_63).Lay) (d1 : Int) (w : World), laws_toItemSS.l1 K a1 a_ b1 d1 = some r1 → St w0 w (Own (Ty.slice 64 T_GItem_63) 27 (some ⟨b3, 0, none⟩) ((a_.length : Int).toNat) y18 b1 :: L) → G prog 25 23 [(0, .slice A_a a_.length c_a), (3, .slice (some ⟨b3, 0, none⟩) b1.length ((a_.length : Int).toNat)), (4, I d1)] i1 w (laws_toItemSS.post w0 L r1) := by
   intro a1
   induction a1 using Nat.strongRecOn with
   | _ a1 h1 =>
    intro g1 b1 y18 d1 w H HS
    cases a1 with
    | zero => rw [laws_toItemSS.l1] at H; cases H
    | succ e1 =>
     rw [laws_toItemSS.l1] at H
     subst f1
     refine rN 2 Z (rG (pS 2 Z (lS Z Z underlying23 Z (GO.lss Z Z Z Z (nL ?_)))))
     rcases iE H with ⟨c32, H⟩ | ⟨c32, H⟩
     ·
      refine yB Z (tT c32) (rN 3 Z ?_)
      obtain ⟨c33, H⟩ := iN H
      obtain ⟨t34, h35, H⟩ := bI H
      obtain ⟨c41, H⟩ := iN H
      refine rG (pS 4 Z (GO.ix Z Z Z underlying23 sz22 ((rD 1 r_a) _ HS).2.2.1 c33.1 c33.2 Z (GO.ldRd (T := (Ty.slice 50 T_GItem)) (n := d1.toNat) (o := 0) HS (rD 1 r_a) Z Z (getD_some (d := []) (ltN c33)) Z Z na22 Z (fN Z func24 fok24.1 fok24.2 Z Z (laws_toItemS.calls HS (RdIn.elem (rD 1 r_a) c33.1 c33.2) h35) (fun _ wd39 ⟨A36, c37, y38, h40, HS⟩ => ⟨_, h40, (GO.ix Z Z Z underlying28 sz27 (fun _ => ⟨_, _, Z⟩) c41.1 c41.2 Z ?_)⟩)))))
      replace HS := HS.pk 2 [1, 0] Z
      refine GO.stRowR (S := T_GItem_63) (u := 64) HS Z Z Z na27 (ltN c41) fun y43 wd42 HS => nL (G.len (t := 3) (m := (b1.set d1.toNat t34).length) Z (by simp only [List.length_set] <;> rfl) (rN 3 Z (G.weak ?_ (h1 e1 (Nat.lt_succ_of_le (lR _)) (Nat.le_of_succ_le g1) _ _ _ _ H HS))))
      exact ⟨Z, Z, Z, tv⟩
     refine nB Z (tF c32) (rN 3 Z ?_)
     obtain rfl := sI H
     exact rT _ func25 Z Z ⟨_, _, _, Z, HS⟩
  refine G.weak ?_ (k1 K (lR _) _ _ _ _ H HS)
  exact ⟨Z, Z, Z, tv⟩
theorem laws_toBench.calls {d1 : List GItem} {c1 a1 : List (List GItem)} {A_a : Option Addr} {c_a : Nat} {y_a : Nat → T_GItem.Lay} {A_b : Option Addr} {c_b : Nat} {y_b : Nat → (Ty.slice 50 T_GItem).Lay} {A_c : Option Addr} {c_c : Nat} {y_c : Nat → (Ty.slice 50 T_GItem).Lay} {r1 : List GItem} {r2 r3 : List (List GItem)} (HS : St w0 w (L)) (r_a : RdIn w0 L T_GItem A_a c_a y_a d1) (r_b : RdIn w0 L (Ty.slice 50 T_GItem) A_b c_b y_b c1) (r_c : RdIn w0 L (Ty.slice 50 T_GItem) A_c c_c y_c a1) (H : laws_toBench.f K d1 c1 a1 = some (r1, r2, r3)) :
    Calls prog 7 #[.agg [.slice A_a d1.length c_a, .slice A_b c1.length c_b, .slice A_c a1.length c_c].toArray] w (laws_toBench.post w0 L r1 r2 r3) := by
  unfold laws_toBench.f at H
  refine cG func7 Z ?_
  refine sQ (rG (GO.box (cs := [.slice A_a d1.length c_a, .slice A_b c1.length c_b, .slice A_c a1.length c_c]) HS Z Z Z Z fun b1 wd2 HS => GO.alloc HS Z zr30 Z Z fun b3 wd4 HS => nL (sQ (rG (GO.alloc HS Z zr30 Z Z fun b5 wd6 HS => nL (sQ ?_))))))
  obtain ⟨t7, h8, H⟩ := bI H
  refine rG (fL b1 0 fl25_0 Z (lB 2 HS Z na22 Z (fN Z func24 fok24.1 fok24.2 Z Z (laws_toItemS.calls HS (rD 3 r_a) h8) (fun _ wd12 ⟨A9, c10, y11, h13, HS⟩ => ⟨_, h13, (fL b5 0 fl30_0 Z (GO.stBox (j := 1) (vs := [.slice A9 t7.length c10]) ([.slice A9 t7.length c10, .slice none 0 0, .slice none 0 0]) HS Z Z Z Z Z (htN na27 Z) Z Z Z fun wd14 HS => nL (sQ ?_)))⟩))))
  obtain ⟨t15, h16, H⟩ := bI H
  refine rG (fL b1 1 fl25_1 Z (lB 3 HS Z na23 Z (fN Z func25 fok25.1 fok25.2 Z Z (laws_toItemSS.calls HS (rD 4 r_b) h16) (fun _ wd20 ⟨A17, c18, y19, h21, HS⟩ => ⟨_, h21, (fL b5 1 fl30_1 Z (GO.stBox (j := 2) (vs := [.slice A17 t15.length c18]) ([.slice A9 t7.length c10, .slice A17 t15.length c18, .slice none 0 0]) HS Z Z Z Z Z (htN na28 Z) Z Z Z fun wd22 HS => nL (sQ ?_)))⟩))))
  obtain ⟨t23, h24, H⟩ := bI H
  refine rG (fL b1 2 fl25_2 Z (lB 4 HS Z na23 Z (fN Z func25 fok25.1 fok25.2 Z Z (laws_toItemSS.calls HS (rD 5 r_c) h24) (fun _ wd28 ⟨A25, c26, y27, h29, HS⟩ => ⟨_, h29, (fL b5 2 fl30_2 Z (GO.stBox (j := 3) (vs := [.slice A25 t23.length c26]) ([.slice A9 t7.length c10, .slice A17 t15.length c18, .slice A25 t23.length c26]) HS Z Z Z Z Z (htN na28 Z) Z Z Z fun wd30 HS => nL (sQ (rG (GO.ldBoxA (j := 3) ([.slice A9 t7.length c10, .slice A17 t15.length c18, .slice A25 t23.length c26]) HS Z Z Z Z ag30 Z (GO.stBox (j := 4) (vs := [.slice A9 t7.length c10, .slice A17 t15.length c18, .slice A25 t23.length c26]) ([.slice A9 t7.length c10, .slice A17 t15.length c18, .slice A25 t23.length c26]) HS Z Z Z Z Z (htA ag30) Z Z Z fun wd31 HS => nL ?_))))))⟩))))
  obtain ⟨rfl, rfl, rfl⟩ := some3 H
  exact rT _ func7 Z (Res1.boxA (j := 4) (vs := [.slice A9 t7.length c10, .slice A17 t15.length c18, .slice A25 t23.length c26]) HS Z Z Z ag30) ⟨_, _, _, _, _, _, _, _, _, Z, (HS.pk 6 [2, 1, 0] Z)⟩
theorem spec_l33Name.calls {s : ByteArray} {r1 : Bool} (HS : St w0 w (L)) (H : spec_l33Name.f K s = some r1) :
    Calls prog 83 #[.string s] w (spec_l33Name.post w0 L r1) := by
  unfold spec_l33Name.f at H
  refine cG func83 Z ?_
  refine rN 7 Z ?_
  refine G.name (fun f1 c1 => ?_)
  have g1 : ∀ a1, a1 ≤ K → ∀ (i_6 : Int) (w : World), spec_l33Name.l1 K a1 s i_6 = some r1 → St w0 w (L) → G prog 83 28 [(0, .string s), (3, I i_6)] f1 w (spec_l33Name.post w0 L r1) := by
   intro a1
   induction a1 using Nat.strongRecOn with
   | _ a1 e1 =>
    intro d1 i_6 w H HS
    cases a1 with
    | zero => rw [spec_l33Name.l1] at H; cases H
    | succ b1 =>
     rw [spec_l33Name.l1] at H
     subst c1
     refine rN 2 Z (rG (pS 2 Z (GO.lenStr Z Z underlying9 Z (GO.lss Z Z Z Z (nL ?_)))))
     rcases iE H with ⟨c12, H⟩ | ⟨c12, H⟩
     ·
      refine yB Z (tT c12) (rN 4 Z ?_)
      obtain ⟨c13, H⟩ := iN H
      rcases iE H with ⟨c14, H⟩ | ⟨c14, H⟩
      ·
       refine rG (pS 2 Z (GO.ixS Z Z Z underlying9 c13.1 c13.2 Z (pS 2 Z (kN 14 Z (tT c14) (oF Z (oF Z (oF Z (oF Z (GO.pickT Z Z Z Z Z (nL (rN 3 Z ?_)))))))))))
       obtain rfl := sI H
       exact rT _ func83 Z Z ⟨Z, HS⟩
      refine rG (pS 2 Z (GO.ixS Z Z Z underlying9 c13.1 c13.2 Z (pS 2 Z (kN 14 Z (tF c14) (oN Z (mV Z (bK (oN Z (mV Z (bK (oN Z (GO.ixS Z Z Z underlying9 c13.1 c13.2 Z (bK (oN Z ?_))))))))))))))
      refine GO.gtr Z Z Z Z (bK (GO.pickF Z Z Z Z Z (nL ?_)))
      rcases iE H with ⟨c15, H⟩ | ⟨c15, H⟩
      ·
       refine yB Z (tT c15) (rN 2 Z ?_)
       obtain rfl := sI H
       exact rT _ func83 Z Z ⟨Z, HS⟩
      refine nB Z (tF c15) (rN 4 Z (G.weak ?_ (e1 b1 (Nat.lt_succ_of_le (lR _)) (Nat.le_of_succ_le d1) _ _ H HS)))
      exact ⟨Z, Z, tv⟩
     refine nB Z (tF c12) (rN 2 Z ?_)
     rcases iE H with ⟨c16, H⟩ | ⟨c16, H⟩
     ·
      refine rG (mV Z (GO.lenStr Z Z underlying9 Z (pS 2 Z (kN 23 Z (tT c16) (oN Z (mV Z (bK (oN Z (GO.lenStr Z Z underlying9 Z (bK (oN Z (GO.leq Z Z Z Z (bK (pS 2 Z ?_))))))))))))))
      refine nL ?_
      obtain rfl := sI H
      exact rT _ func83 Z Z ⟨Z, HS⟩
     refine rG (mV Z (GO.lenStr Z Z underlying9 Z (pS 2 Z (kN 23 Z (tF c16) (oF Z (oF Z (oF Z (pS 2 Z (nL ?_)))))))))
     obtain rfl := sI H
     exact rT _ func83 Z Z ⟨Z, HS⟩
  refine G.weak ?_ (g1 K (lR _) _ _ H HS)
  exact ⟨Z, Z, tv⟩
theorem spec_l01In.calls {n_ low high : Int} {r1 : Bool} (HS : St w0 w (L)) (H : spec_l01In.f n_ low high = some r1) :
    Calls prog 84 #[I n_, I low, I high] w (spec_l01In.post w0 L r1) := by
  unfold spec_l01In.f at H
  refine cG func84 Z ?_
  refine rN 3 Z ?_
  rcases iE H with ⟨c1, H⟩ | ⟨c1, H⟩
  ·
   refine rG (pS 4 Z (kN 10 Z (tT c1) (oN Z (mV Z (bK (oN Z (mV Z (bK (oN Z (GO.leq Z Z Z Z (bK (pS 2 Z (nL ?_)))))))))))))
   obtain rfl := sI H
   exact rT _ func84 Z Z ⟨Z, HS⟩
  refine rG (pS 4 Z (kN 10 Z (tF c1) (oF Z (oF Z (oF Z (pS 2 Z (nL ?_)))))))
  obtain rfl := sI H
  exact rT _ func84 Z Z ⟨Z, HS⟩
theorem spec_l33NoTri.calls {a1 : List (List GFace)} {A_a : Option Addr} {c_a : Nat} {y_a : Nat → (Ty.slice 157 T_GFace).Lay} {r1 : Bool} (HS : St w0 w (L)) (r_a : RdIn w0 L (Ty.slice 157 T_GFace) A_a c_a y_a a1) (H : spec_l33NoTri.f a1 = some r1) :
    Calls prog 118 #[.agg [.slice A_a a1.length c_a].toArray] w (spec_l33NoTri.post w0 L r1) := by
  unfold spec_l33NoTri.f at H
  refine cG func118 Z ?_
  refine sQ (rG (GO.box (cs := [.slice A_a a1.length c_a]) HS Z Z Z Z fun b1 wd2 HS => aS Z (nL (sQ (rG (fL b1 0 fl55_0 Z (lB 0 HS Z na53 Z (lS Z Z underlying53 Z (pS 2 Z (nL ?_))))))))))
  obtain rfl := sI H
  exact rT _ func118 Z Z ⟨Z, (HS.pk 1 [] Z)⟩
theorem spec_l33NoDiagram.calls {a1 : List GCrossing} {c1 : Int} {A_a : Option Addr} {c_a : Nat} {r1 : Bool} (HS : St w0 w (L)) (r_a : RdIn w0 L T_GCrossing A_a c_a (fun _ => ()) a1) (H : spec_l33NoDiagram.f a1 c1 = some r1) :
    Calls prog 119 #[.agg [.slice A_a a1.length c_a, I c1].toArray] w (spec_l33NoDiagram.post w0 L r1) := by
  unfold spec_l33NoDiagram.f at H
  refine cG func119 Z ?_
  refine sQ (rG (GO.box (cs := [.slice A_a a1.length c_a, I c1]) HS Z Z Z Z fun b1 wd2 HS => aS Z (nL (sQ ?_))))
  rcases iE H with ⟨c3, H⟩ | ⟨c3, H⟩
  ·
   refine rG (fL b1 0 fl58_0 Z (lB 0 HS Z na56 Z (lS Z Z underlying56 Z (pS 2 Z (kN 7 Z (tT c3) (oN Z (fL b1 1 fl58_1 Z (bK (oN Z (lB 0 HS Z na2 Z (bK (oN Z (GO.eql Z Z Z Z (bK ?_))))))))))))))
   refine pS 2 Z (nL ?_)
   obtain rfl := sI H
   exact rT _ func119 Z Z ⟨Z, (HS.pk 1 [] Z)⟩
  refine rG (fL b1 0 fl58_0 Z (lB 0 HS Z na56 Z (lS Z Z underlying56 Z (pS 2 Z (kN 7 Z (tF c3) (oF Z (oF Z (oF Z (pS 2 Z (nL ?_))))))))))
  obtain rfl := sI H
  exact rT _ func119 Z Z ⟨Z, (HS.pk 1 [] Z)⟩
theorem spec_l33NoBraid.calls {c1 : Int} {a1 : List Int} {A_a : Option Addr} {c_a : Nat} {r1 : Bool} (HS : St w0 w (L)) (r_a : RdIn w0 L (TInt .i64) A_a c_a (fun _ => ()) a1) (H : spec_l33NoBraid.f c1 a1 = some r1) :
    Calls prog 120 #[.agg [I c1, .slice A_a a1.length c_a].toArray] w (spec_l33NoBraid.post w0 L r1) := by
  unfold spec_l33NoBraid.f at H
  refine cG func120 Z ?_
  refine sQ (rG (GO.box (cs := [I c1, .slice A_a a1.length c_a]) HS Z Z Z Z fun b1 wd2 HS => aS Z (nL (sQ ?_))))
  rcases iE H with ⟨c3, H⟩ | ⟨c3, H⟩
  ·
   refine rG (fL b1 0 fl59_0 Z (lB 0 HS Z na2 Z (pS 2 Z (kN 6 Z (tT c3) (oN Z (fL b1 1 fl59_1 Z (bK (oN Z (lB 0 HS Z na43 Z (bK (oN Z (lS Z Z underlying43 Z (bK (oN Z ?_))))))))))))))
   refine GO.eql Z Z Z Z (bK (pS 2 Z (nL ?_)))
   obtain rfl := sI H
   exact rT _ func120 Z Z ⟨Z, (HS.pk 1 [] Z)⟩
  refine rG (fL b1 0 fl59_0 Z (lB 0 HS Z na2 Z (pS 2 Z (kN 6 Z (tF c3) (oF Z (oF Z (oF Z (oF Z (pS 2 Z (nL ?_))))))))))
  obtain rfl := sI H
  exact rT _ func120 Z Z ⟨Z, (HS.pk 1 [] Z)⟩
theorem spec_l33NoCertificate.calls {e1 f1 : Int} {a1 : List GMove} {d1 c1 : List Int} {A_a : Option Addr} {c_a : Nat} {A_b : Option Addr} {c_b : Nat} {A_c : Option Addr} {c_c : Nat} {r1 : Bool} (HS : St w0 w (L)) (r_a : RdIn w0 L T_GMove A_a c_a (fun _ => ()) a1) (r_b : RdIn w0 L (TInt .i64) A_b c_b (fun _ => ()) d1) (r_c : RdIn w0 L (TInt .i64) A_c c_c (fun _ => ()) c1) (H : spec_l33NoCertificate.f e1 f1 a1 d1 c1 = some r1) :
    Calls prog 121 #[.agg [I e1, I f1, .slice A_a a1.length c_a, .slice A_b d1.length c_b, .slice A_c c1.length c_c].toArray] w (spec_l33NoCertificate.post w0 L r1) := by
  unfold spec_l33NoCertificate.f at H
  refine cG func121 Z ?_
  refine sQ (rG (GO.box (cs := [I e1, I f1, .slice A_a a1.length c_a, .slice A_b d1.length c_b, .slice A_c c1.length c_c]) HS Z Z Z Z fun b1 wd2 HS => aS Z (nL (sQ ?_))))
  rcases iE H with ⟨c3, H⟩ | ⟨c3, H⟩
  ·
   rcases iE H with ⟨c4, H⟩ | ⟨c4, H⟩
   ·
    rcases iE H with ⟨c5, H⟩ | ⟨c5, H⟩
    ·
     rcases iE H with ⟨c6, H⟩ | ⟨c6, H⟩
     ·
      refine rG (fL b1 0 fl62_0 Z (lB 0 HS Z na2 Z (pS 2 Z (kN 6 Z (tT c3) (oN Z (fL b1 1 fl62_1 Z (bK (oN Z (lB 0 HS Z na2 Z (bK (oN Z (GO.eql Z Z Z Z (bK (pS 2 Z ?_))))))))))))))
      refine kN 11 Z (tT c4) (oN Z (fL b1 2 fl62_2 Z (bK (oN Z (lB 0 HS Z na60 Z (bK (oN Z (lS Z Z underlying60 Z (bK (oN Z (GO.eql Z Z Z Z (bK (pS 2 Z (kN 17 Z (tT c5) ?_))))))))))))))
      refine oN Z (fL b1 3 fl62_3 Z (bK (oN Z (lB 0 HS Z na43 Z (bK (oN Z (lS Z Z underlying43 Z (bK (oN Z (GO.eql Z Z Z Z (bK (pS 2 Z (kN 23 Z (tT c6) (oN Z ?_))))))))))))))
      refine fL b1 4 fl62_4 Z (bK (oN Z (lB 0 HS Z na43 Z (bK (oN Z (lS Z Z underlying43 Z (bK (oN Z (GO.eql Z Z Z Z (bK (pS 2 Z (nL ?_))))))))))))
      obtain rfl := sI H
      exact rT _ func121 Z Z ⟨Z, (HS.pk 1 [] Z)⟩
     refine rG (fL b1 0 fl62_0 Z (lB 0 HS Z na2 Z (pS 2 Z (kN 6 Z (tT c3) (oN Z (fL b1 1 fl62_1 Z (bK (oN Z (lB 0 HS Z na2 Z (bK (oN Z (GO.eql Z Z Z Z (bK (pS 2 Z ?_))))))))))))))
     refine kN 11 Z (tT c4) (oN Z (fL b1 2 fl62_2 Z (bK (oN Z (lB 0 HS Z na60 Z (bK (oN Z (lS Z Z underlying60 Z (bK (oN Z (GO.eql Z Z Z Z (bK (pS 2 Z (kN 17 Z (tT c5) ?_))))))))))))))
     refine oN Z (fL b1 3 fl62_3 Z (bK (oN Z (lB 0 HS Z na43 Z (bK (oN Z (lS Z Z underlying43 Z (bK (oN Z (GO.eql Z Z Z Z (bK (pS 2 Z (kN 23 Z (tF c6) (oF Z ?_))))))))))))))
     refine oF Z (oF Z (oF Z (pS 2 Z (nL ?_))))
     obtain rfl := sI H
     exact rT _ func121 Z Z ⟨Z, (HS.pk 1 [] Z)⟩
    refine rG (fL b1 0 fl62_0 Z (lB 0 HS Z na2 Z (pS 2 Z (kN 6 Z (tT c3) (oN Z (fL b1 1 fl62_1 Z (bK (oN Z (lB 0 HS Z na2 Z (bK (oN Z (GO.eql Z Z Z Z (bK (pS 2 Z ?_))))))))))))))
    refine kN 11 Z (tT c4) (oN Z (fL b1 2 fl62_2 Z (bK (oN Z (lB 0 HS Z na60 Z (bK (oN Z (lS Z Z underlying60 Z (bK (oN Z (GO.eql Z Z Z Z (bK (pS 2 Z (kN 17 Z (tF c5) ?_))))))))))))))
    refine oF Z (oF Z (oF Z (oF Z (pS 2 Z (oF Z (oF Z (oF Z (oF Z (pS 2 Z (nL ?_))))))))))
    obtain rfl := sI H
    exact rT _ func121 Z Z ⟨Z, (HS.pk 1 [] Z)⟩
   refine rG (fL b1 0 fl62_0 Z (lB 0 HS Z na2 Z (pS 2 Z (kN 6 Z (tT c3) (oN Z (fL b1 1 fl62_1 Z (bK (oN Z (lB 0 HS Z na2 Z (bK (oN Z (GO.eql Z Z Z Z (bK (pS 2 Z ?_))))))))))))))
   refine kN 11 Z (tF c4) (oF Z (oF Z (oF Z (oF Z (pS 2 Z (oF Z (oF Z (oF Z (oF Z (pS 2 Z (oF Z (oF Z (oF Z (oF Z ?_))))))))))))))
   refine pS 2 Z (nL ?_)
   obtain rfl := sI H
   exact rT _ func121 Z Z ⟨Z, (HS.pk 1 [] Z)⟩
  refine rG (fL b1 0 fl62_0 Z (lB 0 HS Z na2 Z (pS 2 Z (kN 6 Z (tF c3) (oF Z (oF Z (oF Z (pS 2 Z (oF Z (oF Z (oF Z (oF Z (pS 2 Z (oF Z ?_))))))))))))))
  refine oF Z (oF Z (oF Z (pS 2 Z (oF Z (oF Z (oF Z (oF Z (pS 2 Z (nL ?_)))))))))
  obtain rfl := sI H
  exact rT _ func121 Z Z ⟨Z, (HS.pk 1 [] Z)⟩
theorem spec_l33Zero.calls {n1 : ByteArray} {o1 : Int} {c1 : List (List GFace)} {e1 : List GCrossing} {h1 m1 : Int} {a1 : List Int} {i1 k1 : Int} {g1 : List GMove} {f1 d1 : List Int} {kind : Int} {A_a : Option Addr} {c_a : Nat} {y_a : Nat → (Ty.slice 157 T_GFace).Lay} {A_b : Option Addr} {c_b : Nat} {A_c : Option Addr} {c_c : Nat} {A_d : Option Addr} {c_d : Nat} {A_e : Option Addr} {c_e : Nat} {A_f : Option Addr} {c_f : Nat} {r1 : Bool} (HS : St w0 w (L)) (r_a : RdIn w0 L (Ty.slice 157 T_GFace) A_a c_a y_a c1) (r_b : RdIn w0 L T_GCrossing A_b c_b (fun _ => ()) e1) (r_c : RdIn w0 L (TInt .i64) A_c c_c (fun _ => ()) a1) (r_d : RdIn w0 L T_GMove A_d c_d (fun _ => ()) g1) (r_e : RdIn w0 L (TInt .i64) A_e c_e (fun _ => ()) f1) (r_f : RdIn w0 L (TInt .i64) A_f c_f (fun _ => ()) d1) (H : spec_l33Zero.f n1 o1 c1 e1 h1 m1 a1 i1 k1 g1 f1 d1 kind = some r1) :
    Calls prog 85 #[.agg [.string n1, I o1, .slice A_a c1.length c_a, .slice A_b e1.length c_b, I h1, I m1, .slice A_c a1.length c_c, I i1, I k1, .slice A_d g1.length c_d, .slice A_e f1.length c_e, .slice A_f d1.length c_f].toArray, I kind] w (spec_l33Zero.post w0 L r1) := by
  unfold spec_l33Zero.f at H
  refine cG func85 Z ?_
  refine sQ (rG (GO.box (cs := [.string n1, I o1, .slice A_a c1.length c_a, .slice A_b e1.length c_b, I h1, I m1, .slice A_c a1.length c_c, I i1, I k1, .slice A_d g1.length c_d, .slice A_e f1.length c_e, .slice A_f d1.length c_f]) HS Z Z Z Z fun b1 wd2 HS => aS Z (nL (rN 6 Z ?_))))
  rcases iE H with ⟨c3, H⟩ | ⟨c3, H⟩
  ·
   refine yB Z (tT c3) (sQ ?_)
   obtain ⟨t4, h5, H⟩ := bI H
   refine rG (fL b1 2 fl64_2 Z (GO.ldBoxA (j := 0) ([.slice A_a c1.length c_a]) HS Z Z Z Z ag55 Z (fN Z func118 fok118.1 fok118.2 Z Z (spec_l33NoTri.calls HS (rD 1 r_a) h5) (fun _ wd6 ⟨h7, HS⟩ => ⟨_, h7, (aS Z (nL ?_))⟩))))
   obtain rfl := sI H
   exact rT _ func85 Z Z ⟨Z, (HS.pk 1 [] Z)⟩
  refine nB Z (tF c3) (rN 2 Z ?_)
  rcases iE H with ⟨c8, H⟩ | ⟨c8, H⟩
  ·
   refine yB Z (tT c8) (sQ ?_)
   obtain ⟨t9, h10, H⟩ := bI H
   refine rG (fL b1 3 fl64_3 Z (GO.ldBoxA (j := 0) ([.slice A_b e1.length c_b, I h1]) HS Z Z Z Z ag58 Z (fN Z func119 fok119.1 fok119.2 Z Z (spec_l33NoDiagram.calls HS (rD 1 r_b) h10) (fun _ wd11 ⟨h12, HS⟩ => ⟨_, h12, (aS Z (nL ?_))⟩))))
   obtain rfl := sI H
   exact rT _ func85 Z Z ⟨Z, (HS.pk 1 [] Z)⟩
  refine nB Z (tF c8) (rN 2 Z ?_)
  rcases iE H with ⟨c13, H⟩ | ⟨c13, H⟩
  ·
   refine yB Z (tT c13) (sQ ?_)
   obtain ⟨t14, h15, H⟩ := bI H
   refine rG (fL b1 5 fl64_4 Z (GO.ldBoxA (j := 0) ([I m1, .slice A_c a1.length c_c]) HS Z Z Z Z ag59 Z (fN Z func120 fok120.1 fok120.2 Z Z (spec_l33NoBraid.calls HS (rD 1 r_c) h15) (fun _ wd16 ⟨h17, HS⟩ => ⟨_, h17, (aS Z (nL ?_))⟩))))
   obtain rfl := sI H
   exact rT _ func85 Z Z ⟨Z, (HS.pk 1 [] Z)⟩
  refine nB Z (tF c13) (rN 3 Z ?_)
  obtain ⟨t18, h19, H⟩ := bI H
  refine rG (fL b1 7 fl64_5 Z (GO.ldBoxA (j := 0) ([I i1, I k1, .slice A_d g1.length c_d, .slice A_e f1.length c_e, .slice A_f d1.length c_f]) HS Z Z Z Z ag62 Z (fN Z func121 fok121.1 fok121.2 Z Z (spec_l33NoCertificate.calls HS (rD 1 r_d) (rD 1 r_e) (rD 1 r_f) h19) (fun _ wd20 ⟨h21, HS⟩ => ⟨_, h21, (aS Z (nL ?_))⟩))))
  obtain rfl := sI H
  exact rT _ func85 Z Z ⟨Z, (HS.pk 1 [] Z)⟩
theorem spec_l07Tets.calls {a1 : List (List GFace)} {A_a : Option Addr} {c_a : Nat} {y_a : Nat → (Ty.slice 157 T_GFace).Lay} {r1 : Int} (HS : St w0 w (L)) (r_a : RdIn w0 L (Ty.slice 157 T_GFace) A_a c_a y_a a1) (H : spec_l07Tets.f a1 = some r1) :
    Calls prog 122 #[.agg [.slice A_a a1.length c_a].toArray] w (spec_l07Tets.post w0 L r1) := by
  unfold spec_l07Tets.f at H
  refine cG func122 Z ?_
  refine sQ (rG (GO.box (cs := [.slice A_a a1.length c_a]) HS Z Z Z Z fun b1 wd2 HS => aS Z (nL (sQ (rG (fL b1 0 fl55_0 Z (lB 0 HS Z na53 Z (lS Z Z underlying53 Z (aS Z (nL ?_))))))))))
  obtain rfl := sI H
  exact rT _ func122 Z Z ⟨Z, (HS.pk 1 [] Z)⟩
theorem spec_l07In.calls {n_ low high : Int} {r1 : Bool} (HS : St w0 w (L)) (H : spec_l07In.f n_ low high = some r1) :
    Calls prog 123 #[I n_, I low, I high] w (spec_l07In.post w0 L r1) := by
  unfold spec_l07In.f at H
  refine cG func123 Z ?_
  refine rN 3 Z ?_
  rcases iE H with ⟨c1, H⟩ | ⟨c1, H⟩
  ·
   refine rG (pS 4 Z (kN 10 Z (tT c1) (oN Z (mV Z (bK (oN Z (mV Z (bK (oN Z (GO.leq Z Z Z Z (bK (pS 2 Z (nL ?_)))))))))))))
   obtain rfl := sI H
   exact rT _ func123 Z Z ⟨Z, HS⟩
  refine rG (pS 4 Z (kN 10 Z (tF c1) (oF Z (oF Z (oF Z (pS 2 Z (nL ?_)))))))
  obtain rfl := sI H
  exact rT _ func123 Z Z ⟨Z, HS⟩
theorem spec_l06Valid.calls {p : Int} {r1 : Bool} (HS : St w0 w (L)) (H : spec_l06Valid.f p = some r1) :
    Calls prog 124 #[I p] w (spec_l06Valid.post w0 L r1) := by
  unfold spec_l06Valid.f at H
  refine cG func124 Z ?_
  refine rN 3 Z ?_
  rcases iE H with ⟨c1, H⟩ | ⟨c1, H⟩
  ·
   refine rG (pS 3 Z (kN 5 Z (tT c1) (oN Z (mV Z (bK (oN Z (GO.lss Z Z Z Z (bK (pS 2 Z (nL ?_))))))))))
   obtain rfl := sI H
   exact rT _ func124 Z Z ⟨Z, HS⟩
  refine rG (pS 3 Z (kN 5 Z (tF c1) (oF Z (oF Z (pS 2 Z (nL ?_))))))
  obtain rfl := sI H
  exact rT _ func124 Z Z ⟨Z, HS⟩
theorem spec_l06Images.calls {p : Int} {r1 : List Int} (HS : St w0 w (L)) (H : spec_l06Images.f K p = some r1) :
    Calls prog 160 #[I p] w (spec_l06Images.post w0 L r1) := by
  unfold spec_l06Images.f at H
  refine cG func160 Z ?_
  refine rN 3 Z (rG (GO.buildS (el := 2) ([I 0, I 1, I 2, I 3]) HS Z Z (fun _ => by kernel_rfl) Z fun b1 wd2 HS => ?_))
  replace HS := HS.boxRow (T := (TInt .i64)) (j := 0) Z flat_flat (fun _ => ()) ([0, 1, 2, 3] : List Int) Z (bndL Z)
  refine GO.lenC (t := 8) (m := ([0, 1, 2, 3] : List Int).length) (c' := ([0, 1, 2, 3] : List Int).length) Z Z Z (aS Z (nL (sQ (rG (GO.buildS (el := 2) ([]) HS Z Z (fun _ => by kernel_rfl) Z fun b3 wd4 HS => ?_)))))
  replace HS := HS.boxRow (T := (TInt .i64)) (j := 0) Z flat_flat (fun _ => ()) ([] : List Int) Z (bndL Z)
  refine GO.lenC (t := 9) (m := ([] : List Int).length) (c' := ([] : List Int).length) Z Z Z (aS Z (nL (rN 7 Z ?_)))
  refine G.name (fun n1 m1 => ?_)
  have o1 : ∀ d1, d1 ≤ K → ∀ (e1 : Int) (A25 : Option Addr) (c26 : Nat) (a1 : List Int) (A28 : Option Addr) (c29 : Nat) (f1 : List Int) (c1 g1 : Int) (w : World), spec_l06Images.l1 K d1 e1 a1 f1 c1 g1 = some r1 → St w0 w (Own (TInt .i64) 2 A25 c26 (fun _ => ()) a1 :: Own (TInt .i64) 2 A28 c29 (fun _ => ()) f1 :: L) → G prog 160 43 [(0, I e1), (3, .slice A25 a1.length c26), (4, .slice A28 f1.length c29), (5, I c1), (6, I g1)] n1 w (spec_l06Images.post w0 L r1) := by
   intro d1
   induction d1 using Nat.strongRecOn with
   | _ d1 k1 =>
    intro i1 e1 A25 c26 a1 A28 c29 f1 c1 g1 w H HS
    cases d1 with
    | zero => rw [spec_l06Images.l1] at H; cases H
    | succ h1 =>
     rw [spec_l06Images.l1] at H
     subst m1
     refine rN 3 Z ?_
     rcases iE H with ⟨c56, H⟩ | ⟨c56, H⟩
     ·
      refine yB Z (tT c56) (rN 4 Z ?_)
      obtain ⟨c57, H⟩ := ite_some H
      refine rG (pS 2 Z (GO.quo Z Z Z c57 Z (aS Z (nL (sQ (rG (pS 2 Z (GO.rem Z Z Z c57 Z (aS Z (nL (sQ ?_)))))))))))
      obtain ⟨c58, H⟩ := iN H
      obtain ⟨c64, H⟩ := iN H
      refine rG (pS 3 Z (GO.ix Z Z Z underlying43 sz2 ((RdIn.own (j := 0) Z) _ HS).2.2.1 c58.1 c58.2 Z (GO.ldRd (T := (TInt .i64)) (n := (w64 (e1.tdiv c1)).toNat) (o := 0) HS (RdIn.own (j := 0) Z) Z Z (getD_some (d := 0) (ltN c58)) Z Z na2 Z (GO.buildS (el := 2) ([I (a1.getD ((w64 (e1.tdiv c1)).toNat) 0)]) HS Z Z (fun _ => by kernel_rfl) Z fun b59 wd60 HS => GO.app1 (T := (TInt .i64)) (j := 2) (jb := 0) (a1.getD ((w64 (e1.tdiv c1)).toNat) 0) HS Z Z flat_flat Z Z Z underlying43 inf2 Z Z Z c64 Z fun A62 c63 wd61 HS => aS Z (nL (sQ ?_))))))
      obtain ⟨c67, H⟩ := iN H
      obtain ⟨c71, H⟩ := iN H
      obtain ⟨c72, H⟩ := iN H
      obtain ⟨c76, H⟩ := iN H
      refine G.lexS mixed (fun w => St w0 w (Own (TInt .i64) 2 A25 c26 (fun _ => ()) a1 :: L)) [3, 8] [1, 2, 5, 6, 7, 3, 8, 0, 4, 9, 10] [] (by kernel_rfl) (by kernel_rfl) (HS.drew.pk 3 [1] Z) ?_
      replace HS := HS.drew
      refine GX.ps 5 Z (GX.ls Z Z Z (HS.pk 3 [1] Z) (fun _ HS _ g => GO.slH (T := (TInt .i64)) HS (RdIn.own (j := 0) Z) Z Z Z underlying43 sz2 c67.1 c67.2 Z g) Z (GX.ls Z Z Z (HS.pk 3 [1] Z) (fun _ HS _ g => GO.slL (T := (TInt .i64)) HS (RdIn.own (j := 0) Z) Z Z Z underlying43 sz2 c72.1 c72.2 Z g) Z (GX.l2 Z (GO.buildS (el := 2) ([]) HS Z Z (fun _ => by kernel_rfl) Z fun b65 wd66 HS => GX.fin (HS.pk 4 [2] Z) (GX.l2 Z ?_)))))
      replace HS := HS.boxRow (T := (TInt .i64)) (j := 0) Z flat_flat (fun _ => ()) ([] : List Int) Z (bndL Z)
      refine GO.lenC (t := 27) (m := ([] : List Int).length) (c' := ([] : List Int).length) Z Z Z (GO.appS (T := (TInt .i64)) (j := 0) HS Z (RdIn.cut (RdIn.own (j := 2) Z) (Nat.zero_le _) (leN c67)) flat_flat Z Z Z underlying43 inf2 Z Z Z c71 Z (fun _ => Z) fun A69 c70 wd68 HS => GX.fin (HS.pk 4 [2] Z) (GX.l2 Z (GO.appS (T := (TInt .i64)) (j := 0) HS Z (RdIn.cut (RdIn.own (j := 2) Z) (leN c72) (lR _)) flat_flat Z Z Z underlying43 inf2 Z Z Z c76 Z (fun _ => Z) fun A74 c75 wd73 HS => GX.fin (HS.pk 4 [2] Z) (GX.ps 1 Z (GX.nil (rN 2 Z ?_))))))
      rcases iE H with ⟨c77, H⟩ | ⟨c77, H⟩
      ·
       refine yB Z (tT c77) ?_
       obtain ⟨c78, H⟩ := ite_some H
       refine rG (pS 2 Z (GO.quo Z Z Z c78 Z (aS Z (nL (rN 3 Z (G.weak ?_ (k1 h1 (Nat.lt_succ_of_le (lR _)) (Nat.le_of_succ_le i1) _ _ _ _ _ _ _ _ _ _ H (HS.pk 4 [0, 3] Z))))))))
       exact ⟨Z, Z, Z, Z, Z, tv⟩
      refine nB Z (tF c77) (rN 4 Z (G.weak ?_ (k1 h1 (Nat.lt_succ_of_le (lR _)) (Nat.le_of_succ_le i1) _ _ _ _ _ _ _ _ _ _ H (HS.pk 4 [0, 3] Z))))
      exact ⟨Z, Z, Z, Z, Z, tv⟩
     refine nB Z (tF c56) (rN 3 Z ?_)
     obtain rfl := sI H
     exact rT _ func160 Z Z ⟨_, _, Z, (HS.pk 2 [1] Z)⟩
  refine G.weak ?_ (o1 K (lR _) _ _ _ _ _ _ _ _ _ _ H (HS.pk 2 [1, 0] Z))
  exact ⟨Z, Z, Z, Z, Z, tv⟩
theorem spec_l06At.calls {p k_ r1 : Int} (HS : St w0 w (L)) (H : spec_l06At.f K p k_ = some r1) :
    Calls prog 125 #[I p, I k_] w (spec_l06At.post w0 L r1) := by
  unfold spec_l06At.f at H
  refine cG func125 Z ?_
  refine rN 3 Z ?_
  obtain ⟨t1, h2, H⟩ := bI H
  obtain ⟨c7, H⟩ := iN H
  refine rG (mV Z (fN Z func160 fok160.1 fok160.2 Z Z (spec_l06Images.calls HS  h2) (fun _ wd5 ⟨A3, c4, h6, HS⟩ => ⟨_, h6, (mV Z (GO.ix Z Z Z underlying43 sz2 ((RdIn.own (j := 0) Z) _ HS).2.2.1 c7.1 c7.2 Z (GO.ldRd (T := (TInt .i64)) (n := k_.toNat) (o := 0) HS (RdIn.own (j := 0) Z) Z Z (getD_some (d := 0) (ltN c7)) Z Z na2 Z (aS Z (nL ?_)))))⟩)))
  obtain rfl := sI H
  exact rT _ func125 Z Z ⟨Z, (HS.pk 1 [] Z)⟩
theorem spec_l06Index.calls {a_ : List Int} {A_a : Option Addr} {c_a : Nat} {r1 : Int} (HS : St w0 w (L)) (r_a : RdIn w0 L (TInt .i64) A_a c_a (fun _ => ()) a_) (H : spec_l06Index.f K a_ = some r1) :
    Calls prog 161 #[.slice A_a a_.length c_a] w (spec_l06Index.post w0 L r1) := by
  unfold spec_l06Index.f at H
  refine cG func161 Z ?_
  refine rN 11 Z ?_
  refine G.name (fun p1 k1 => ?_)
  have q1 : ∀ a1, a1 ≤ K → ∀ (p_4 c1 i_6 : Int) (w : World), spec_l06Index.l1 K a1 a_ p_4 c1 i_6 = some r1 → St w0 w (L) → G prog 161 42 [(0, .slice A_a a_.length c_a), (3, I p_4), (4, I c1), (5, I i_6)] p1 w (spec_l06Index.post w0 L r1) := by
   intro a1
   induction a1 using Nat.strongRecOn with
   | _ a1 o1 =>
    intro t1 p_4 c1 i_6 w H HS
    cases a1 with
    | zero => rw [spec_l06Index.l1] at H; cases H
    | succ g1 =>
     rw [spec_l06Index.l1] at H
     subst k1
     refine rN 3 Z ?_
     rcases iE H with ⟨c23, H⟩ | ⟨c23, H⟩
     ·
      refine yB Z (tT c23) (rN 4 Z ?_)
      obtain ⟨c24, H⟩ := iN H
      refine rG (pS 2 Z (GO.ix Z Z Z underlying43 sz2 (r_a _ HS).2.2.1 c24.1 c24.2 Z (GO.ldRd (T := (TInt .i64)) (n := i_6.toNat) (o := 0) HS r_a Z Z (getD_some (d := 0) (ltN c24)) Z Z na2 Z (aS Z (nL (rN 5 Z ?_))))))
      refine G.name (fun s1 m1 => ?_)
      have n1 : ∀ b1, b1 ≤ g1 → ∀ (e1 d1 : Int) (w : World), spec_l06Index.l4 K b1 a_ p_4 c1 i_6 e1 d1 = some r1 → St w0 w (L) → G prog 161 42 [(0, .slice A_a a_.length c_a), (3, I p_4), (4, I c1), (5, I i_6), (6, I e1), (7, I d1)] s1 w (spec_l06Index.post w0 L r1) := by
       intro b1
       induction b1 using Nat.strongRecOn with
       | _ b1 h1 =>
        intro i1 e1 d1 w H HS
        cases b1 with
        | zero => rw [spec_l06Index.l4] at H; cases H
        | succ f1 =>
         rw [spec_l06Index.l4] at H
         subst m1
         refine rN 3 Z ?_
         rcases iE H with ⟨c35, H⟩ | ⟨c35, H⟩
         ·
          refine yB Z (tT c35) (rN 4 Z ?_)
          obtain ⟨c36, H⟩ := iN H
          refine G.lex mixed [0, 1, 2, 4, 5, 6, 3, 7, 8] (by kernel_rfl) ?_
          replace HS := HS.drew
          refine GX.ps 2 Z (qL Z Z (fun _ _ g => GO.ix Z Z Z underlying43 sz2 (r_a _ HS).2.2.1 c36.1 c36.2 Z g) Z (GX.ps 2 Z (qL Z Z (fun _ _ g => GO.ix Z Z Z underlying43 sz2 (r_a _ HS).2.2.1 c24.1 c24.2 Z g) Z (GX.l1 Z Z Z (fun _ g => GO.ldRd (T := (TInt .i64)) (n := d1.toNat) (o := 0) HS r_a Z Z (getD_some (d := 0) (ltN c36)) Z Z na2 Z g) Z (GX.l1 Z Z Z (fun _ g => GO.ldRd (T := (TInt .i64)) (n := i_6.toNat) (o := 0) HS r_a Z Z (getD_some (d := 0) (ltN c24)) Z Z na2 Z g) Z (GX.ps 1 Z (GX.nil ?_)))))))
          rcases iE H with ⟨c37, H⟩ | ⟨c37, H⟩
          ·
           refine yB Z (tT c37) (rN 4 Z (G.weak ?_ (h1 f1 (Nat.lt_succ_of_le (lR _)) (Nat.le_of_succ_le i1) _ _ _ H HS)))
           exact ⟨Z, Z, Z, Z, Z, Z, tv⟩
          refine nB Z (tF c37) (rN 4 Z (G.weak ?_ (h1 f1 (Nat.lt_succ_of_le (lR _)) (Nat.le_of_succ_le i1) _ _ _ H HS)))
          exact ⟨Z, Z, Z, Z, Z, Z, tv⟩
         refine nB Z (tF c35) (rN 3 Z ?_)
         obtain ⟨c38, H⟩ := ite_some H
         refine rG (pS 3 Z (GO.quo Z Z Z c38 Z (aS Z (nL (rN 3 Z (G.weak ?_ (o1 f1 (by omega) (by omega) _ _ _ _ H HS)))))))
         exact ⟨Z, Z, Z, Z, tv⟩
      refine G.weak ?_ (n1 g1 (lR _) _ _ _ H HS)
      exact ⟨Z, Z, Z, Z, Z, Z, tv⟩
     refine nB Z (tF c23) (rN 3 Z ?_)
     obtain rfl := sI H
     exact rT _ func161 Z Z ⟨Z, HS⟩
  refine G.weak ?_ (q1 K (lR _) _ _ _ _ H HS)
  exact ⟨Z, Z, Z, Z, tv⟩
theorem spec_l06Back.calls {p r1 : Int} (HS : St w0 w (L)) (H : spec_l06Back.f K p = some r1) :
    Calls prog 126 #[I p] w (spec_l06Back.post w0 L r1) := by
  unfold spec_l06Back.f at H
  refine cG func126 Z ?_
  refine rN 3 Z ?_
  obtain ⟨t1, h2, H⟩ := bI H
  refine rG (mV Z (fN Z func160 fok160.1 fok160.2 Z Z (spec_l06Images.calls HS  h2) (fun _ wd5 ⟨A3, c4, h6, HS⟩ => ⟨_, h6, (aS Z (nL (sQ (rG (GO.buildS (el := 2) ([I 0, I 0, I 0, I 0]) HS Z Z (fun _ => by kernel_rfl) Z fun b7 wd8 HS => ?_)))))⟩)))
  replace HS := HS.boxRow (T := (TInt .i64)) (j := 0) Z flat_flat (fun _ => ()) ([0, 0, 0, 0] : List Int) Z (bndL Z)
  refine GO.lenC (t := 8) (m := ([0, 0, 0, 0] : List Int).length) (c' := ([0, 0, 0, 0] : List Int).length) Z Z Z (aS Z (nL (rN 5 Z ?_)))
  refine G.name (fun h1 e1 => ?_)
  have i1 : ∀ b1, b1 ≤ K → ∀ (c1 : List Int) (a1 : Int) (w : World), spec_l06Back.l1 K b1 t1 c1 a1 = some r1 → St w0 w (Own (TInt .i64) 2 A3 c4 (fun _ => ()) t1 :: Own (TInt .i64) 2 (some ⟨b7, 0, none⟩) (([0, 0, 0, 0] : List Int).length) (fun _ => ()) c1 :: L) → G prog 126 22 [(3, .slice A3 t1.length c4), (4, .slice (some ⟨b7, 0, none⟩) c1.length (([0, 0, 0, 0] : List Int).length)), (5, I a1)] h1 w (spec_l06Back.post w0 L r1) := by
   intro b1
   induction b1 using Nat.strongRecOn with
   | _ b1 g1 =>
    intro f1 c1 a1 w H HS
    cases b1 with
    | zero => rw [spec_l06Back.l1] at H; cases H
    | succ d1 =>
     rw [spec_l06Back.l1] at H
     subst e1
     refine rN 3 Z ?_
     rcases iE H with ⟨c22, H⟩ | ⟨c22, H⟩
     ·
      refine yB Z (tT c22) (rN 3 Z ?_)
      obtain ⟨c23, H⟩ := iN H
      obtain ⟨c24, H⟩ := iN H
      refine rG (pS 3 Z (GO.ix Z Z Z underlying43 sz2 ((RdIn.own (j := 0) Z) _ HS).2.2.1 c23.1 c23.2 Z (GO.ldRd (T := (TInt .i64)) (n := a1.toNat) (o := 0) HS (RdIn.own (j := 0) Z) Z Z (getD_some (d := 0) (ltN c23)) Z Z na2 Z (mV Z (GO.ix Z Z Z underlying43 sz2 (fun _ => ⟨_, _, Z⟩) c24.1 c24.2 Z (GO.stRow (T := (TInt .i64)) (j := 1) (n := (t1.getD a1.toNat 0).toNat) (o := 0) (vs := [I a1]) a1 HS Z flat_flat Z Z Z Z (htN na2 Z) Z (getD_some (d := 0) (ltN c24)) Z Z fun wd25 HS => nL (G.len (t := 4) (m := (c1.set ((t1.getD a1.toNat 0).toNat) a1).length) Z (by simp only [List.length_set] <;> rfl) (rN 3 Z (G.weak ?_ (g1 d1 (Nat.lt_succ_of_le (lR _)) (Nat.le_of_succ_le f1) _ _ _ H HS))))))))))
      exact ⟨Z, Z, Z, tv⟩
     refine nB Z (tF c22) (rN 2 Z ?_)
     obtain ⟨t26, h27, H⟩ := bI H
     refine rG (mV Z (fN Z func161 fok161.1 fok161.2 Z Z (spec_l06Index.calls HS (RdIn.own (j := 1) Z) h27) (fun _ wd28 ⟨h29, HS⟩ => ⟨_, h29, (aS Z (nL ?_))⟩)))
     obtain rfl := sI H
     exact rT _ func126 Z Z ⟨Z, (HS.pk 2 [] Z)⟩
  refine G.weak ?_ (i1 K (lR _) _ _ _ H (HS.pk 2 [1, 0] Z))
  exact ⟨Z, Z, Z, tv⟩
theorem spec_IsTriangulation.calls {a1 : List (List GFace)} {A_a : Option Addr} {c_a : Nat} {y_a : Nat → (Ty.slice 157 T_GFace).Lay} {r1 : Bool} (HS : St w0 w (L)) (r_a : RdIn w0 L (Ty.slice 157 T_GFace) A_a c_a y_a a1) (H : spec_IsTriangulation.f K a1 = some r1) :
    Calls prog 86 #[.agg [.slice A_a a1.length c_a].toArray] w (spec_IsTriangulation.post w0 L r1) := by
  unfold spec_IsTriangulation.f at H
  refine cG func86 Z ?_
  refine sQ (rG (GO.box (cs := [.slice A_a a1.length c_a]) HS Z Z Z Z fun b1 wd2 HS => aS Z (nL (rN 2 Z ?_))))
  obtain ⟨t3, h4, H⟩ := bI H
  refine rG (GO.ldBoxA (j := 0) ([.slice A_a a1.length c_a]) HS Z Z Z Z ag55 Z (fN Z func122 fok122.1 fok122.2 Z Z (spec_l07Tets.calls HS (rD 1 r_a) h4) (fun _ wd5 ⟨h6, HS⟩ => ⟨_, h6, (GO.gtr Z Z Z Z (nL ?_))⟩)))
  rcases iE H with ⟨c7, H⟩ | ⟨c7, H⟩
  ·
   refine yB Z (tT c7) (rN 2 Z ?_)
   obtain rfl := sI H
   exact rT _ func86 Z Z ⟨Z, (HS.pk 1 [] Z)⟩
  refine nB Z (tF c7) (rN 6 Z ?_)
  refine G.name (fun a2 t1 => ?_)
  have u1 : ∀ g1, g1 ≤ K → ∀ (k1 : Int) (w : World), spec_IsTriangulation.l1 K g1 a1 k1 = some r1 → St w0 w (Box b1 55 [.slice A_a a1.length c_a] :: L) → G prog 86 96 [(1, .pointer (some ⟨b1, 0, none⟩)), (3, I k1)] a2 w (spec_IsTriangulation.post w0 L r1) := by
   intro g1
   induction g1 using Nat.strongRecOn with
   | _ g1 z1 =>
    intro y1 k1 w H HS
    cases g1 with
    | zero => rw [spec_IsTriangulation.l1] at H; cases H
    | succ o1 =>
     rw [spec_IsTriangulation.l1] at H
     subst t1
     refine rN 2 Z (rG (mV Z (fL b1 0 fl55_0 Z (lB 0 HS Z na53 Z (lS Z Z underlying53 Z (GO.lss Z Z Z Z (nL ?_)))))))
     rcases iE H with ⟨c1091, H⟩ | ⟨c1091, H⟩
     ·
      refine yB Z (tT c1091) (rN 4 Z ?_)
      obtain ⟨c1092, H⟩ := iN H
      refine rG (fL b1 0 fl55_0 Z (lB 0 HS Z na53 Z (mV Z (GO.ix Z Z Z underlying53 sz150 ((rD 1 r_a) _ HS).2.2.1 c1092.1 c1092.2 Z (GO.ldRd (T := (Ty.slice 157 T_GFace)) (n := k1.toNat) (o := 0) HS (rD 1 r_a) Z Z (getD_some (d := []) (ltN c1092)) Z Z na150 Z (lS Z Z underlying150 Z (GO.neq Z Z Z Z (nL ?_))))))))
      rcases iE H with ⟨c1093, H⟩ | ⟨c1093, H⟩
      ·
       refine nB Z (nT c1093) (rN 4 Z (G.weak ?_ (z1 o1 (Nat.lt_succ_of_le (lR _)) (Nat.le_of_succ_le y1) _ _ H HS)))
       exact ⟨Z, Z, tv⟩
      refine yB Z (nF c1093) (rN 2 Z ?_)
      obtain rfl := sI H
      exact rT _ func86 Z Z ⟨Z, (HS.pk 1 [] Z)⟩
     refine nB Z (tF c1091) (rN 6 Z ?_)
     refine G.name (fun f2 d2 => ?_)
     have s1 : ∀ e1, e1 ≤ o1 → ∀ (c1 : Int) (w : World), spec_IsTriangulation.l28 K e1 a1 c1 = some r1 → St w0 w (Box b1 55 [.slice A_a a1.length c_a] :: L) → G prog 86 96 [(1, .pointer (some ⟨b1, 0, none⟩)), (4, I c1)] f2 w (spec_IsTriangulation.post w0 L r1) := by
      intro e1
      induction e1 using Nat.strongRecOn with
      | _ e1 g2 =>
       intro k2 c1 w H HS
       cases e1 with
       | zero => rw [spec_IsTriangulation.l28] at H; cases H
       | succ q1 =>
        rw [spec_IsTriangulation.l28] at H
        subst d2
        refine rN 2 Z ?_
        obtain ⟨t1453, h1454, H⟩ := bI H
        refine rG (mV Z (GO.ldBoxA (j := 0) ([.slice A_a a1.length c_a]) HS Z Z Z Z ag55 Z (fN Z func122 fok122.1 fok122.2 Z Z (spec_l07Tets.calls HS (rD 1 r_a) h1454) (fun _ wd1455 ⟨h1456, HS⟩ => ⟨_, h1456, (GO.lss Z Z Z Z (nL ?_))⟩))))
        rcases iE H with ⟨c1457, H⟩ | ⟨c1457, H⟩
        ·
         refine yB Z (tT c1457) (rN 7 Z ?_)
         refine G.name (fun e2 b2 => ?_)
         have c2 : ∀ f1, f1 ≤ q1 → ∀ (d1 : Int) (w : World), spec_IsTriangulation.l37 K f1 a1 c1 d1 = some r1 → St w0 w (Box b1 55 [.slice A_a a1.length c_a] :: L) → G prog 86 96 [(1, .pointer (some ⟨b1, 0, none⟩)), (4, I c1), (5, I d1)] e2 w (spec_IsTriangulation.post w0 L r1) := by
          intro f1
          induction f1 using Nat.strongRecOn with
          | _ f1 m1 =>
           intro h2 d1 w H HS
           cases f1 with
           | zero => rw [spec_IsTriangulation.l37] at H; cases H
           | succ h1 =>
            rw [spec_IsTriangulation.l37] at H
            subst b2
            refine rN 3 Z ?_
            rcases iE H with ⟨c1574, H⟩ | ⟨c1574, H⟩
            ·
             refine yB Z (tT c1574) (rN 4 Z ?_)
             obtain ⟨c1575, H⟩ := iN H
             obtain ⟨c1576, H⟩ := iN H
             obtain ⟨e1577, h1578, H⟩ := bnd_elim H
             refine rG (fL b1 0 fl55_0 Z (lB 0 HS Z na53 Z (mV Z (GO.ix Z Z Z underlying53 sz150 ((rD 1 r_a) _ HS).2.2.1 c1575.1 c1575.2 Z (GO.ldRd (T := (Ty.slice 157 T_GFace)) (n := c1.toNat) (o := 0) HS (rD 1 r_a) Z Z (getD_some (d := []) (ltN c1575)) Z Z na150 Z (mV Z (GO.ix Z Z Z underlying150 sz157 ((RdIn.elem (rD 1 r_a) c1575.1 c1575.2) _ HS).2.2.1 c1576.1 c1576.2 Z (GO.ldRdA (T := T_GFace) (n := d1.toNat) HS (RdIn.elem (rD 1 r_a) c1575.1 c1575.2) Z Z (getD_eq (ltN c1576) h1578) ag157 Z (GO.alloc HS Z zr157 Z Z fun b1579 wd1580 HS => GO.stBox (j := 0) (vs := [I e1577.Tet, I e1577.Perm]) ([I e1577.Tet, I e1577.Perm]) HS Z Z Z Z Z (htA ag157) Z Z Z fun wd1581 HS => nL (rN 2 Z ?_))))))))))
             refine G.nameT (fun v1 x1 => ?_)
             have p1 : ∀ i1, i1 ≤ h1 → ∀ (x1584 : Bool) (w : World), spec_IsTriangulation.j40 K i1 a1 c1 d1 e1577 x1584 = some r1 → St w0 w (Box b1 55 [.slice A_a a1.length c_a] :: Box b1579 157 [I e1577.Tet, I e1577.Perm] :: L) → G prog 86 96 [(1, .pointer (some ⟨b1, 0, none⟩)), (4, I c1), (5, I d1), (6, .pointer (some ⟨b1579, 0, none⟩)), (51, .bool x1584)] v1 w (spec_IsTriangulation.post w0 L r1) := by
              intro i1 i2 x1584 w H HS
              cases i1 with
              | zero => rw [spec_IsTriangulation.j40] at H; cases H
              | succ n1 =>
               rw [spec_IsTriangulation.j40] at H
               subst x1
               rcases iE H with ⟨c1585, H⟩ | ⟨c1585, H⟩
               ·
                refine yB Z c1585 (rN 3 Z (G.weak ?_ (m1 n1 (by omega) (by omega) _ _ H (HS.pk 2 [0] Z))))
                exact ⟨Z, Z, Z, tv⟩
               refine nB Z (bnot_of c1585) (rN 3 Z ?_)
               obtain ⟨t1599, h1600, H⟩ := bI H
               obtain ⟨t1603, h1604, H⟩ := bI H
               rcases iE H with ⟨c1607, H⟩ | ⟨c1607, H⟩
               ·
                obtain ⟨t1608, h1609, H⟩ := bI H
                refine G.lexS mixed (fun w => St w0 w (Box b1 55 [.slice A_a a1.length c_a] :: Box b1579 157 [I e1577.Tet, I e1577.Perm] :: L)) [1, 2, 9] [0, 1, 2, 3, 4, 5, 6, 7, 8, 9, 10, 11, 12] [] (by kernel_rfl) (by kernel_rfl) HS.drew ?_
                replace HS := HS.drew
                refine qL Z Z (fun _ _ g => fL b1579 0 fl157_0 Z g) Z (GX.ls Z Z Z HS (fun _ HS _ g => lB 1 HS Z na2 Z g) Z (GX.ls Z Z Z HS (fun _ HS _ g => GO.ldBoxA (j := 0) ([.slice A_a a1.length c_a]) HS Z Z Z Z ag55 Z g) Z (GX.l2 Z (fN Z func122 fok122.1 fok122.2 Z Z (spec_l07Tets.calls HS (rD 2 r_a) h1600) (fun _ wd1601 ⟨h1602, HS⟩ => ⟨_, h1602, (GX.fin HS (GX.ps 1 Z (GX.l2 Z (fN Z func123 fok123.1 fok123.2 Z Z (spec_l07In.calls HS  h1604) (fun _ wd1605 ⟨h1606, HS⟩ => ⟨_, h1606, (GX.fin HS (GX.ps 1 Z (qL Z Z (fun _ _ g => mV Z (kN 59 Z (congrArg Bool.not c1607) g)) Z (qL Z Z (fun _ _ g => oN Z (fL b1579 1 fl157_1 Z (bK g))) Z (GX.ls Z Z Z HS (fun _ HS _ g => oN Z (lB 1 HS Z na2 Z (bK g))) Z (GX.l2 Z ?_))))))⟩)))))⟩)))))
                refine oN Z (fN Z func124 fok124.1 fok124.2 Z Z (spec_l06Valid.calls HS  h1609) (fun _ wd1610 ⟨h1611, HS⟩ => ⟨_, h1611, (bK (GX.fin HS (qL Z Z (fun _ _ g => oN Z (GO.not Z Z Z (bK g))) Z (GX.ps 1 Z (GX.nil ?_)))))⟩))
                rcases iE H with ⟨c1612, H⟩ | ⟨c1612, H⟩
                ·
                 refine nB Z (congrArg Bool.not c1612) (rN 2 Z ?_)
                 obtain ⟨t1613, h1614, H⟩ := bI H
                 refine rG (fL b1579 1 fl157_1 Z (lB 1 HS Z na2 Z (mV Z (fN Z func125 fok125.1 fok125.2 Z Z (spec_l06At.calls HS  h1614) (fun _ wd1615 ⟨h1616, HS⟩ => ⟨_, h1616, (aS Z (nL (sQ ?_)))⟩)))))
                 obtain ⟨t1617, h1618, H⟩ := bI H
                 refine rG (mV Z (fL b1579 1 fl157_1 Z (lB 1 HS Z na2 Z (fN Z func126 fok126.1 fok126.2 Z Z (spec_l06Back.calls HS  h1618) (fun _ wd1619 ⟨h1620, HS⟩ => ⟨_, h1620, (GO.buildV (.agg [I c1, I t1617].toArray) Z Z (fun _ => by kernel_rfl) Z (GO.alloc HS Z zr157 Z Z fun b1621 wd1622 HS => GO.stBox (j := 0) (vs := [I c1, I t1617]) ([I c1, I t1617]) HS Z Z Z Z Z (htA ag157) Z Z Z fun wd1623 HS => nL (sQ ?_)))⟩)))))
                 obtain ⟨c1624, H⟩ := iN H
                 obtain ⟨c1625, H⟩ := iN H
                 obtain ⟨e1626, h1627, H⟩ := bnd_elim H
                 rcases iE H with ⟨c1628, H⟩ | ⟨c1628, H⟩
                 ·
                  rcases iE H with ⟨c1629, H⟩ | ⟨c1629, H⟩
                  ·
                   refine G.lex mixed [0, 2, 6, 1, 3, 4, 5, 7, 8, 9, 10, 11, 12, 14, 13, 15, 16, 17, 18, 19, 20, 21] (by kernel_rfl) ?_
                   replace HS := HS.drew
                   refine qL Z Z (fun _ _ g => fL b1 0 fl55_0 Z g) Z (qL Z Z (fun _ _ g => fL b1579 0 fl157_0 Z g) Z (GX.ps 1 Z (GX.l1 Z Z Z (fun _ g => lB 1 HS Z na53 Z g) Z (GX.l1 Z Z Z (fun _ g => lB 2 HS Z na2 Z g) Z (qL Z Z (fun _ _ g => GO.ix Z Z Z underlying53 sz150 ((rD 3 r_a) _ HS).2.2.1 c1624.1 c1624.2 Z g) Z (GX.l1 Z Z Z (fun _ g => GO.ldRd (T := (Ty.slice 157 T_GFace)) (n := e1577.Tet.toNat) (o := 0) HS (rD 3 r_a) Z Z (getD_some (d := []) (ltN c1624)) Z Z na150 Z g) Z (qL Z Z (fun _ _ g => GO.ix Z Z Z underlying150 sz157 ((RdIn.elem (rD 3 r_a) c1624.1 c1624.2) _ HS).2.2.1 c1625.1 c1625.2 Z g) Z (GX.l1 Z Z Z (fun _ g => GO.ldRdA (T := T_GFace) (n := t1613.toNat) HS (RdIn.elem (rD 3 r_a) c1624.1 c1624.2) Z Z (getD_eq (ltN c1625) h1627) ag157 Z g) Z (GX.l1 Z Z Z (fun _ g => GO.ldBoxA (j := 0) ([I c1, I t1617]) HS Z Z Z Z ag157 Z g) Z (qL Z Z (fun _ _ g => GO.neqA Z Z Z ng157 (fun _ => eq157) Z g) Z (qL Z Z (fun _ _ g => mV Z (kN 85 Z (nT c1628) g)) Z (qL Z Z (fun _ _ g => oN Z (fL b1579 0 fl157_0 Z (bK g))) Z (qL Z Z (fun _ _ g => oN Z (mV Z (bK g))) Z (GX.l1 Z Z Z (fun _ g => oN Z (lB 2 HS Z na2 Z (bK g))) Z ?_))))))))))))))
                   refine qL Z Z (fun _ _ g => oN Z (GO.eql Z Z Z Z (bK g))) Z (qL Z Z (fun _ _ g => oN Z (mV Z (bK (kN 90 Z (tT c1629) g)))) Z (qL Z Z (fun _ _ g => oN Z (mV Z (bK g))) Z (qL Z Z (fun _ _ g => oN Z (mV Z (bK g))) Z (qL Z Z (fun _ _ g => oN Z (GO.eql Z Z Z Z (bK g))) Z (qL Z Z (fun _ _ g => oN Z (GO.pickT Z Z Z Z Z (bK g))) Z (GX.ps 1 Z (GX.nil ?_)))))))
                   rcases iE H with ⟨c1630, H⟩ | ⟨c1630, H⟩
                   ·
                    refine yB Z (tT c1630) (rN 2 Z ?_)
                    obtain rfl := sI H
                    exact rT _ func86 Z Z ⟨Z, (HS.pk 3 [] Z)⟩
                   refine nB Z (tF c1630) (rN 4 Z (G.weak ?_ (m1 n1 (by omega) (by omega) _ _ H (HS.pk 3 [1] Z))))
                   exact ⟨Z, Z, Z, tv⟩
                  refine G.lex mixed [0, 2, 6, 1, 3, 4, 5, 7, 8, 9, 10, 11, 12, 14, 13, 15, 16, 17, 18, 19, 20, 21] (by kernel_rfl) ?_
                  replace HS := HS.drew
                  refine qL Z Z (fun _ _ g => fL b1 0 fl55_0 Z g) Z (qL Z Z (fun _ _ g => fL b1579 0 fl157_0 Z g) Z (GX.ps 1 Z (GX.l1 Z Z Z (fun _ g => lB 1 HS Z na53 Z g) Z (GX.l1 Z Z Z (fun _ g => lB 2 HS Z na2 Z g) Z (qL Z Z (fun _ _ g => GO.ix Z Z Z underlying53 sz150 ((rD 3 r_a) _ HS).2.2.1 c1624.1 c1624.2 Z g) Z (GX.l1 Z Z Z (fun _ g => GO.ldRd (T := (Ty.slice 157 T_GFace)) (n := e1577.Tet.toNat) (o := 0) HS (rD 3 r_a) Z Z (getD_some (d := []) (ltN c1624)) Z Z na150 Z g) Z (qL Z Z (fun _ _ g => GO.ix Z Z Z underlying150 sz157 ((RdIn.elem (rD 3 r_a) c1624.1 c1624.2) _ HS).2.2.1 c1625.1 c1625.2 Z g) Z (GX.l1 Z Z Z (fun _ g => GO.ldRdA (T := T_GFace) (n := t1613.toNat) HS (RdIn.elem (rD 3 r_a) c1624.1 c1624.2) Z Z (getD_eq (ltN c1625) h1627) ag157 Z g) Z (GX.l1 Z Z Z (fun _ g => GO.ldBoxA (j := 0) ([I c1, I t1617]) HS Z Z Z Z ag157 Z g) Z (qL Z Z (fun _ _ g => GO.neqA Z Z Z ng157 (fun _ => eq157) Z g) Z (qL Z Z (fun _ _ g => mV Z (kN 85 Z (nT c1628) g)) Z (qL Z Z (fun _ _ g => oN Z (fL b1579 0 fl157_0 Z (bK g))) Z (qL Z Z (fun _ _ g => oN Z (mV Z (bK g))) Z (GX.l1 Z Z Z (fun _ g => oN Z (lB 2 HS Z na2 Z (bK g))) Z ?_))))))))))))))
                  refine qL Z Z (fun _ _ g => oN Z (GO.eql Z Z Z Z (bK g))) Z (qL Z Z (fun _ _ g => oN Z (mV Z (bK (kN 90 Z (tF c1629) g)))) Z (qL Z Z (fun _ _ g => oF Z g) Z (qL Z Z (fun _ _ g => oF Z g) Z (qL Z Z (fun _ _ g => oF Z g) Z (qL Z Z (fun _ _ g => oN Z (GO.pickF Z Z Z Z Z (bK g))) Z (GX.ps 1 Z (GX.nil (rN 5 Z (G.weak ?_ (m1 n1 (by omega) (by omega) _ _ H (HS.pk 3 [1] Z)))))))))))
                  exact ⟨Z, Z, Z, tv⟩
                 refine G.lex mixed [0, 2, 6, 1, 3, 4, 5, 7, 8, 9, 10, 11, 12, 14, 13, 15, 16, 17, 18, 19, 20, 21] (by kernel_rfl) ?_
                 replace HS := HS.drew
                 refine qL Z Z (fun _ _ g => fL b1 0 fl55_0 Z g) Z (qL Z Z (fun _ _ g => fL b1579 0 fl157_0 Z g) Z (GX.ps 1 Z (GX.l1 Z Z Z (fun _ g => lB 1 HS Z na53 Z g) Z (GX.l1 Z Z Z (fun _ g => lB 2 HS Z na2 Z g) Z (qL Z Z (fun _ _ g => GO.ix Z Z Z underlying53 sz150 ((rD 3 r_a) _ HS).2.2.1 c1624.1 c1624.2 Z g) Z (GX.l1 Z Z Z (fun _ g => GO.ldRd (T := (Ty.slice 157 T_GFace)) (n := e1577.Tet.toNat) (o := 0) HS (rD 3 r_a) Z Z (getD_some (d := []) (ltN c1624)) Z Z na150 Z g) Z (qL Z Z (fun _ _ g => GO.ix Z Z Z underlying150 sz157 ((RdIn.elem (rD 3 r_a) c1624.1 c1624.2) _ HS).2.2.1 c1625.1 c1625.2 Z g) Z (GX.l1 Z Z Z (fun _ g => GO.ldRdA (T := T_GFace) (n := t1613.toNat) HS (RdIn.elem (rD 3 r_a) c1624.1 c1624.2) Z Z (getD_eq (ltN c1625) h1627) ag157 Z g) Z (GX.l1 Z Z Z (fun _ g => GO.ldBoxA (j := 0) ([I c1, I t1617]) HS Z Z Z Z ag157 Z g) Z (qL Z Z (fun _ _ g => GO.neqA Z Z Z ng157 (fun _ => eq157) Z g) Z (qL Z Z (fun _ _ g => mV Z (kN 85 Z (nF c1628) g)) Z (qL Z Z (fun _ _ g => oF Z g) Z (qL Z Z (fun _ _ g => oF Z g) Z (GX.l1 Z Z Z (fun _ g => oF Z g) Z ?_))))))))))))))
                 refine qL Z Z (fun _ _ g => oF Z g) Z (qL Z Z (fun _ _ g => oF Z g) Z (qL Z Z (fun _ _ g => GO.offU Z Z Z Z Z Z g) Z (qL Z Z (fun _ _ g => GO.offU Z Z Z Z Z Z g) Z (qL Z Z (fun _ _ g => GO.offU Z Z Z Z Z Z g) Z (qL Z Z (fun _ _ g => oF Z g) Z (GX.ps 1 Z (GX.nil (rN 3 Z ?_))))))))
                 obtain rfl := sI H
                 exact rT _ func86 Z Z ⟨Z, (HS.pk 3 [] Z)⟩
                refine yB Z (congrArg Bool.not (bnot_of c1612)) (rN 2 Z ?_)
                obtain rfl := sI H
                exact rT _ func86 Z Z ⟨Z, (HS.pk 2 [] Z)⟩
               refine G.lexS mixed (fun w => St w0 w (Box b1 55 [.slice A_a a1.length c_a] :: Box b1579 157 [I e1577.Tet, I e1577.Perm] :: L)) [1, 2, 9] [0, 1, 2, 3, 4, 5, 6, 7, 8, 9, 10, 11, 12] [] (by kernel_rfl) (by kernel_rfl) HS.drew ?_
               replace HS := HS.drew
               refine qL Z Z (fun _ _ g => fL b1579 0 fl157_0 Z g) Z (GX.ls Z Z Z HS (fun _ HS _ g => lB 1 HS Z na2 Z g) Z (GX.ls Z Z Z HS (fun _ HS _ g => GO.ldBoxA (j := 0) ([.slice A_a a1.length c_a]) HS Z Z Z Z ag55 Z g) Z (GX.l2 Z (fN Z func122 fok122.1 fok122.2 Z Z (spec_l07Tets.calls HS (rD 2 r_a) h1600) (fun _ wd1601 ⟨h1602, HS⟩ => ⟨_, h1602, (GX.fin HS (GX.ps 1 Z (GX.l2 Z (fN Z func123 fok123.1 fok123.2 Z Z (spec_l07In.calls HS  h1604) (fun _ wd1605 ⟨h1606, HS⟩ => ⟨_, h1606, (GX.fin HS (GX.ps 1 Z (qL Z Z (fun _ _ g => mV Z (kN 59 Z (congrArg Bool.not (bnot_of c1607)) g)) Z (qL Z Z (fun _ _ g => oF Z g) Z (GX.ls Z Z Z HS (fun _ HS _ g => oF Z g) Z (GX.l2 Z ?_))))))⟩)))))⟩)))))
               refine oF Z (GX.fin HS (qL Z Z (fun _ _ g => oF Z g) Z (GX.ps 1 Z (GX.nil (rN 3 Z ?_)))))
               obtain rfl := sI H
               exact rT _ func86 Z Z ⟨Z, (HS.pk 2 [] Z)⟩
             rcases iE H with ⟨c1631, H⟩ | ⟨c1631, H⟩
             ·
              refine rG (fL b1579 0 fl157_0 Z (lB 0 HS Z na2 Z (pS 2 Z (kN 47 Z (tT c1631) (oN Z (fL b1579 1 fl157_1 Z (bK (oN Z (lB 0 HS Z na2 Z (bK (oN Z (GO.eql Z Z Z Z (bK (GO.pickT Z Z Z Z Z ?_))))))))))))))
              refine nL (G.weak ?_ (p1 h1 (lR _) _ _ H (HS.pk 2 [1, 0] Z)))
              exact ⟨Z, Z, Z, Z, Z, tv⟩
             refine rG (fL b1579 0 fl157_0 Z (lB 0 HS Z na2 Z (pS 2 Z (kN 47 Z (tF c1631) (oF Z (oF Z (oF Z (GO.pickF Z Z Z Z Z (nL (G.weak ?_ (p1 h1 (lR _) _ _ H (HS.pk 2 [1, 0] Z))))))))))))
             exact ⟨Z, Z, Z, Z, Z, tv⟩
            refine nB Z (tF c1574) (rN 4 Z (G.weak ?_ (g2 h1 (by omega) (by omega) _ _ H HS)))
            exact ⟨Z, Z, tv⟩
         refine G.weak ?_ (c2 q1 (lR _) _ _ H HS)
         exact ⟨Z, Z, Z, tv⟩
        refine nB Z (tF c1457) (rN 3 Z ?_)
        obtain rfl := sI H
        exact rT _ func86 Z Z ⟨Z, (HS.pk 1 [] Z)⟩
     refine G.weak ?_ (s1 o1 (lR _) _ _ H HS)
     exact ⟨Z, Z, tv⟩
  refine G.weak ?_ (u1 K (lR _) _ _ H HS)
  exact ⟨Z, Z, tv⟩
theorem spec_l25End.calls {x_A x_B : Int} {x_C x_D : Int} {a1 p r1 : Int} (HS : St w0 w (L)) (H : spec_l25End.f x_A x_B x_C x_D a1 p = some r1) :
    Calls prog 162 #[.agg [I x_A, I x_B, I x_C, I x_D, I a1].toArray, I p] w (spec_l25End.post w0 L r1) := by
  unfold spec_l25End.f at H
  refine cG func162 Z ?_
  refine sQ (rG (GO.box (cs := [I x_A, I x_B, I x_C, I x_D, I a1]) HS Z Z Z Z fun b1 wd2 HS => aS Z (nL (sQ ?_))))
  obtain ⟨c5, H⟩ := iN H
  refine rG (fL b1 0 fl152_0 Z (lB 0 HS Z na2 Z (fL b1 1 fl152_1 Z (lB 0 HS Z na2 Z (fL b1 2 fl152_2 Z (lB 0 HS Z na2 Z (fL b1 3 fl152_3 Z (lB 0 HS Z na2 Z (GO.buildS (el := 2) ([I x_A, I x_B, I x_C, I x_D]) HS Z Z (fun _ => by kernel_rfl) Z fun b3 wd4 HS => mV Z ?_)))))))))
  replace HS := HS.boxRow (T := (TInt .i64)) (j := 0) Z flat_flat (fun _ => ()) ([x_A, x_B, x_C, x_D] : List Int) Z (bndL Z)
  refine GO.lenC (t := 13) (m := ([x_A, x_B, x_C, x_D] : List Int).length) (c' := ([x_A, x_B, x_C, x_D] : List Int).length) Z Z Z (GO.ix Z Z Z underlying43 sz2 (fun _ => ⟨_, _, Z⟩) c5.1 c5.2 Z (GO.ldRd (T := (TInt .i64)) (n := p.toNat) (o := 0) HS (RdIn.own (j := 0) Z) Z Z (getD_some (d := 0) (ltN c5)) Z Z na2 Z (aS Z (nL ?_))))
  obtain rfl := sI H
  exact rT _ func162 Z Z ⟨Z, (HS.pk 2 [] Z)⟩
theorem spec_l25Enters.calls {x_A x_B : Int} {x_C x_D : Int} {a1 p : Int} {r1 : Bool} (HS : St w0 w (L)) (H : spec_l25Enters.f x_A x_B x_C x_D a1 p = some r1) :
    Calls prog 163 #[.agg [I x_A, I x_B, I x_C, I x_D, I a1].toArray, I p] w (spec_l25Enters.post w0 L r1) := by
  unfold spec_l25Enters.f at H
  refine cG func163 Z ?_
  refine sQ (rG (GO.box (cs := [I x_A, I x_B, I x_C, I x_D, I a1]) HS Z Z Z Z fun b1 wd2 HS => aS Z (nL (sQ ?_))))
  rcases iE H with ⟨c3, H⟩ | ⟨c3, H⟩
  ·
   refine rG (pS 3 Z (kN 7 Z (tT c3) (oF Z (oF Z (oF Z (GO.offU Z Z Z Z Z Z (GO.offU Z Z Z Z Z Z (GO.offU Z Z Z Z Z Z (oF Z (pS 2 Z (oF Z (oF Z (oF Z (GO.offU Z Z Z Z Z Z ?_))))))))))))))
   refine GO.offU Z Z Z Z Z Z (GO.offU Z Z Z Z Z Z (oF Z (pS 2 Z (nL ?_))))
   obtain rfl := sI H
   exact rT _ func163 Z Z ⟨Z, (HS.pk 1 [] Z)⟩
  rcases iE H with ⟨c4, H⟩ | ⟨c4, H⟩
  ·
   rcases iE H with ⟨c5, H⟩ | ⟨c5, H⟩
   ·
    refine rG (pS 3 Z (kN 7 Z (tF c3) (oN Z (mV Z (bK (oN Z (GO.eql Z Z Z Z (bK (oN Z (mV Z (bK (kN 10 Z (tT c4) (oN Z (fL b1 4 fl152_4 Z ?_))))))))))))))
    refine bK (oN Z (lB 0 HS Z na2 Z (bK (oN Z (GO.eql Z Z Z Z (bK (oN Z (GO.pickT Z Z Z Z Z (bK (pS 2 Z (kN 16 Z (tT c5) (oF Z (oF Z (oF Z ?_))))))))))))))
    refine GO.offU Z Z Z Z Z Z (GO.offU Z Z Z Z Z Z (GO.offU Z Z Z Z Z Z (oF Z (pS 2 Z (nL ?_)))))
    obtain rfl := sI H
    exact rT _ func163 Z Z ⟨Z, (HS.pk 1 [] Z)⟩
   rcases iE H with ⟨c6, H⟩ | ⟨c6, H⟩
   ·
    refine rG (pS 3 Z (kN 7 Z (tF c3) (oN Z (mV Z (bK (oN Z (GO.eql Z Z Z Z (bK (oN Z (mV Z (bK (kN 10 Z (tT c4) (oN Z (fL b1 4 fl152_4 Z ?_))))))))))))))
    refine bK (oN Z (lB 0 HS Z na2 Z (bK (oN Z (GO.eql Z Z Z Z (bK (oN Z (GO.pickT Z Z Z Z Z (bK (pS 2 Z (kN 16 Z (tF c5) (oN Z (mV Z (bK ?_))))))))))))))
    refine oN Z (GO.eql Z Z Z Z (bK (oN Z (mV Z (bK (kN 19 Z (tT c6) (oN Z (fL b1 4 fl152_4 Z (bK (oN Z (lB 0 HS Z na2 Z (bK (oN Z (GO.eql Z Z Z Z ?_))))))))))))))
    refine bK (oN Z (GO.pickT Z Z Z Z Z (bK (pS 2 Z (nL ?_)))))
    obtain rfl := sI H
    exact rT _ func163 Z Z ⟨Z, (HS.pk 1 [] Z)⟩
   refine rG (pS 3 Z (kN 7 Z (tF c3) (oN Z (mV Z (bK (oN Z (GO.eql Z Z Z Z (bK (oN Z (mV Z (bK (kN 10 Z (tT c4) (oN Z (fL b1 4 fl152_4 Z ?_))))))))))))))
   refine bK (oN Z (lB 0 HS Z na2 Z (bK (oN Z (GO.eql Z Z Z Z (bK (oN Z (GO.pickT Z Z Z Z Z (bK (pS 2 Z (kN 16 Z (tF c5) (oN Z (mV Z (bK ?_))))))))))))))
   refine oN Z (GO.eql Z Z Z Z (bK (oN Z (mV Z (bK (kN 19 Z (tF c6) (oF Z (oF Z (oF Z (oN Z (GO.pickF Z Z Z Z Z (bK (pS 2 Z (nL ?_))))))))))))))
   obtain rfl := sI H
   exact rT _ func163 Z Z ⟨Z, (HS.pk 1 [] Z)⟩
  rcases iE H with ⟨c7, H⟩ | ⟨c7, H⟩
  ·
   refine rG (pS 3 Z (kN 7 Z (tF c3) (oN Z (mV Z (bK (oN Z (GO.eql Z Z Z Z (bK (oN Z (mV Z (bK (kN 10 Z (tF c4) (oF Z (oF Z ?_))))))))))))))
   refine oF Z (oN Z (GO.pickF Z Z Z Z Z (bK (pS 2 Z (oN Z (mV Z (bK (oN Z (GO.eql Z Z Z Z (bK (oN Z (mV Z (bK (kN 19 Z (tT c7) ?_))))))))))))))
   refine oN Z (fL b1 4 fl152_4 Z (bK (oN Z (lB 0 HS Z na2 Z (bK (oN Z (GO.eql Z Z Z Z (bK (oN Z (GO.pickT Z Z Z Z Z (bK (pS 2 Z (nL ?_)))))))))))))
   obtain rfl := sI H
   exact rT _ func163 Z Z ⟨Z, (HS.pk 1 [] Z)⟩
  refine rG (pS 3 Z (kN 7 Z (tF c3) (oN Z (mV Z (bK (oN Z (GO.eql Z Z Z Z (bK (oN Z (mV Z (bK (kN 10 Z (tF c4) (oF Z (oF Z ?_))))))))))))))
  refine oF Z (oN Z (GO.pickF Z Z Z Z Z (bK (pS 2 Z (oN Z (mV Z (bK (oN Z (GO.eql Z Z Z Z (bK (oN Z (mV Z (bK (kN 19 Z (tF c7) ?_))))))))))))))
  refine oF Z (oF Z (oF Z (oN Z (GO.pickF Z Z Z Z Z (bK (pS 2 Z (nL ?_)))))))
  obtain rfl := sI H
  exact rT _ func163 Z Z ⟨Z, (HS.pk 1 [] Z)⟩
theorem spec_l25Counts.calls {a1 : List GCrossing} {d1 : Int} {A_a : Option Addr} {c_a : Nat} {r1 : Bool} (HS : St w0 w (L)) (r_a : RdIn w0 L T_GCrossing A_a c_a (fun _ => ()) a1) (H : spec_l25Counts.f K a1 d1 = some r1) :
    Calls prog 127 #[.agg [.slice A_a a1.length c_a, I d1].toArray] w (spec_l25Counts.post w0 L r1) := by
  unfold spec_l25Counts.f at H
  refine cG func127 Z ?_
  refine sQ (rG (GO.box (cs := [.slice A_a a1.length c_a, I d1]) HS Z Z Z Z fun b1 wd2 HS => aS Z (nL (sQ (rG (fL b1 0 fl58_0 Z (lB 0 HS Z na56 Z (lS Z Z underlying56 Z (pS 2 Z (nL (sQ ?_)))))))))))
  obtain ⟨c3, H⟩ := iN H
  obtain ⟨c4, H⟩ := iN H
  refine G.regionAny mixed (by decide) (fun b a w => ∃ (k1 : Value) (t1 : Value) (n1 : Value) (s1 : Value) (q1 : Value) (p1 : Value) (b5 : Nat) (b7 : Nat) (x1 : HObj) (y1 : HObj), Sat 63 [(4, q1), (5, p1), (15, k1), (16, t1), (17, n1), (18, s1), (1, .pointer (some ⟨b1, 0, none⟩)), (3, I (w64 (2 * (a1.length : Int))))] a ∧ St w0 w (Box b1 58 [.slice A_a a1.length c_a, I d1] :: x1 :: y1 :: L) ∧ (b 4 = true → q1 = (.slice (some ⟨b5, 0, none⟩) (List.replicate (w64 (2 * (a1.length : Int))).toNat false).length ((w64 (2 * (a1.length : Int))).toNat))) ∧ (b 5 = true → p1 = (.slice (some ⟨b7, 0, none⟩) (List.replicate (w64 (2 * (a1.length : Int))).toNat false).length ((w64 (2 * (a1.length : Int))).toNat))) ∧ (b 0 = true → k1 = (I (w64 (2 * (a1.length : Int))))) ∧ (b 1 = true → t1 = (.slice (some ⟨b5, 0, none⟩) (List.replicate (w64 (2 * (a1.length : Int))).toNat false).length ((w64 (2 * (a1.length : Int))).toNat))) ∧ (b 2 = true → n1 = (I (w64 (2 * (a1.length : Int))))) ∧ (b 3 = true → s1 = (.slice (some ⟨b7, 0, none⟩) (List.replicate (w64 (2 * (a1.length : Int))).toNat false).length ((w64 (2 * (a1.length : Int))).toNat))) ∧ (b 1 = true → x1 = Own TBool 4 (some ⟨b5, 0, none⟩) ((w64 (2 * (a1.length : Int))).toNat) (fun _ => ()) (List.replicate (w64 (2 * (a1.length : Int))).toNat false)) ∧ (b 3 = true → y1 = Own TBool 4 (some ⟨b7, 0, none⟩) ((w64 (2 * (a1.length : Int))).toNat) (fun _ => ()) (List.replicate (w64 (2 * (a1.length : Int))).toNat false))) ?_ ?_ ?_
  ·
   intro a hs
   obtain ⟨q1, hs⟩ := hs.ext (d := 4) Z
   obtain ⟨p1, hs⟩ := hs.ext (d := 5) Z
   obtain ⟨k1, hs⟩ := hs.ext (d := 15) Z
   obtain ⟨t1, hs⟩ := hs.ext (d := 16) Z
   obtain ⟨n1, hs⟩ := hs.ext (d := 17) Z
   obtain ⟨s1, hs⟩ := hs.ext (d := 18) Z
   exact ⟨k1, t1, n1, s1, q1, p1, 0, 0, Emp, Emp, hs.weak ⟨Z, Z, Z, Z, Z, Z, Z, Z, tv⟩, (HS.drew.emp.emp.pk 3 [2, 1, 0] Z), fun h => Bool.noConfusion h, fun h => Bool.noConfusion h, fun h => Bool.noConfusion h, fun h => Bool.noConfusion h, fun h => Bool.noConfusion h, fun h => Bool.noConfusion h, fun h => Bool.noConfusion h, fun h => Bool.noConfusion h⟩
  ·
   intro j hj b a w
   refine exI fun k1 => exI fun t1 => exI fun n1 => exI fun s1 => exI fun q1 => exI fun p1 => exI fun b5 => exI fun b7 => exI fun x1 => exI fun y1 => anI fun hs => anI fun HS => anI fun f4 => anI fun f5 => anI fun f0 => anI fun f1 => anI fun f2 => anI fun f3 => anI fun g1 => fun e1 hb hd hcl => ?_
   match j, hj with
   | 0, _ =>
    refine GO.at hs (mV Z (GO.fin (fun a hs => ⟨(I (w64 (2 * (a1.length : Int)))), _, _, _, _, _, b5, b7, _, _, by exact hs.setAt 2 Z, HS, f4, f5, fun _ => Z, f1, f2, f3, g1, e1⟩)))
   | 1, _ =>
    have hb0 : b 0 = true := hd 0 (by decide)
    obtain rfl := f0 hb0
    refine GO.at hs (GO.make (T := TBool) false () HS flat_flat Z Z Z underlying191 inf4 Z Z Z c3 c4 Z fun b5 wd6 HS => GO.fin (fun a hs => ⟨_, (.slice (some ⟨b5, 0, none⟩) (List.replicate (w64 (2 * (a1.length : Int))).toNat false).length ((w64 (2 * (a1.length : Int))).toNat)), _, _, _, _, b5, b7, Own TBool 4 (some ⟨b5, 0, none⟩) ((w64 (2 * (a1.length : Int))).toNat) (fun _ => ()) (List.replicate (w64 (2 * (a1.length : Int))).toNat false), _, by exact hs.setAt 3 Z, HS.pk 4 [1, 0, 3] Z, fun hh => (Bool.noConfusion ((hcl 4 (by decide) hh 1 (by decide)).symm.trans hb)), f5, f0, fun _ => Z, f2, f3, fun _ => Z, e1⟩))
   | 2, _ =>
    refine GO.at hs (mV Z (GO.fin (fun a hs => ⟨_, _, (I (w64 (2 * (a1.length : Int)))), _, _, _, b5, b7, _, _, by exact hs.setAt 4 Z, HS, f4, f5, f0, f1, fun _ => Z, f3, g1, e1⟩)))
   | 3, _ =>
    have hb2 : b 2 = true := hd 2 (by decide)
    obtain rfl := f2 hb2
    refine GO.at hs (GO.make (T := TBool) false () HS flat_flat Z Z Z underlying191 inf4 Z Z Z c3 c4 Z fun b7 wd8 HS => GO.fin (fun a hs => ⟨_, _, _, (.slice (some ⟨b7, 0, none⟩) (List.replicate (w64 (2 * (a1.length : Int))).toNat false).length ((w64 (2 * (a1.length : Int))).toNat)), _, _, b5, b7, _, Own TBool 4 (some ⟨b7, 0, none⟩) ((w64 (2 * (a1.length : Int))).toNat) (fun _ => ()) (List.replicate (w64 (2 * (a1.length : Int))).toNat false), by exact hs.setAt 5 Z, HS.pk 4 [1, 2, 0] Z, f4, fun hh => (Bool.noConfusion ((hcl 5 (by decide) hh 3 (by decide)).symm.trans hb)), f0, f1, f2, fun _ => Z, g1, fun _ => Z⟩))
   | 4, _ =>
    have hb1 : b 1 = true := hd 1 (by decide)
    obtain rfl := f1 hb1
    refine GO.at hs (aS Z (GO.fin (fun a hs => ⟨_, _, _, _, (.slice (some ⟨b5, 0, none⟩) (List.replicate (w64 (2 * (a1.length : Int))).toNat false).length ((w64 (2 * (a1.length : Int))).toNat)), _, b5, b7, _, _, by exact hs.setAt 0 Z, HS, fun _ => Z, f5, f0, f1, f2, f3, g1, e1⟩)))
   | 5, _ =>
    have hb3 : b 3 = true := hd 3 (by decide)
    obtain rfl := f3 hb3
    refine GO.at hs (aS Z (GO.fin (fun a hs => ⟨_, _, _, _, _, (.slice (some ⟨b7, 0, none⟩) (List.replicate (w64 (2 * (a1.length : Int))).toNat false).length ((w64 (2 * (a1.length : Int))).toNat)), b5, b7, _, _, by exact hs.setAt 1 Z, HS, f4, fun _ => Z, f0, f1, f2, f3, g1, e1⟩)))
   | k + 6, hj => exact absurd hj (Nat.not_lt.2 (Nat.le_add_left 6 k))
  ·
   intro b a w hall
   refine exI fun k1 => exI fun t1 => exI fun n1 => exI fun s1 => exI fun q1 => exI fun p1 => exI fun b5 => exI fun b7 => exI fun x1 => exI fun y1 => anI fun hs => anI fun HS => anI fun f4 => anI fun f5 => anI fun f0 => anI fun f1 => anI fun f2 => anI fun f3 => anI fun g1 => fun e1 => ?_
   obtain rfl := f4 (hall 4 (by decide))
   obtain rfl := f5 (hall 5 (by decide))
   obtain rfl := f0 (hall 0 (by decide))
   obtain rfl := f1 (hall 1 (by decide))
   obtain rfl := f2 (hall 2 (by decide))
   obtain rfl := f3 (hall 3 (by decide))
   obtain rfl := g1 (hall 1 (by decide))
   obtain rfl := e1 (hall 3 (by decide))
   refine G.at hs (rN 5 Z ?_)
   refine G.name (fun q2 i2 => ?_)
   have k2 : ∀ o1, o1 ≤ K → ∀ (h1 i1 : List Bool) (c1 : Int) (w : World), spec_l25Counts.l1 K o1 a1 h1 i1 c1 = some r1 → St w0 w (Box b1 58 [.slice A_a a1.length c_a, I d1] :: Own TBool 4 (some ⟨b5, 0, none⟩) ((w64 (2 * (a1.length : Int))).toNat) (fun _ => ()) h1 :: Own TBool 4 (some ⟨b7, 0, none⟩) ((w64 (2 * (a1.length : Int))).toNat) (fun _ => ()) i1 :: L) → G prog 127 63 [(1, .pointer (some ⟨b1, 0, none⟩)), (3, I (w64 (2 * (a1.length : Int)))), (4, .slice (some ⟨b5, 0, none⟩) h1.length ((w64 (2 * (a1.length : Int))).toNat)), (5, .slice (some ⟨b7, 0, none⟩) i1.length ((w64 (2 * (a1.length : Int))).toNat)), (6, I c1)] q2 w (spec_l25Counts.post w0 L r1) := by
    intro o1
    induction o1 using Nat.strongRecOn with
    | _ o1 p2 =>
     intro u2 h1 i1 c1 w H HS
     cases o1 with
     | zero => rw [spec_l25Counts.l1] at H; cases H
     | succ a2 =>
      rw [spec_l25Counts.l1] at H
      subst i2
      refine rN 2 Z (rG (mV Z (fL b1 0 fl58_0 Z (lB 0 HS Z na56 Z (lS Z Z underlying56 Z (GO.lss Z Z Z Z (nL ?_)))))))
      rcases iE H with ⟨c183, H⟩ | ⟨c183, H⟩
      ·
       refine yB Z (tT c183) (rN 4 Z ?_)
       obtain ⟨c184, H⟩ := iN H
       obtain ⟨e185, h186, H⟩ := bnd_elim H
       refine rG (fL b1 0 fl58_0 Z (lB 0 HS Z na56 Z (mV Z (GO.ix Z Z Z underlying56 sz152 ((rD 3 r_a) _ HS).2.2.1 c184.1 c184.2 Z (GO.ldRdA (T := T_GCrossing) (n := c1.toNat) HS (rD 3 r_a) Z Z (getD_eq (ltN c184) h186) ag152 Z (GO.alloc HS Z zr152 Z Z fun b187 wd188 HS => GO.stBox (j := 0) (vs := [I e185.A, I e185.B, I e185.C, I e185.D, I e185.Sign]) ([I e185.A, I e185.B, I e185.C, I e185.D, I e185.Sign]) HS Z Z Z Z Z (htA ag152) Z Z Z fun wd189 HS => nL (rN 2 Z ?_)))))))
       refine G.nameT (fun m2 r2 => ?_)
       have e2 : ∀ z1, z1 ≤ a2 → ∀ (x192 : Bool) (w : World), spec_l25Counts.j12 K z1 a1 h1 i1 c1 e185 x192 = some r1 → St w0 w (Box b1 58 [.slice A_a a1.length c_a, I d1] :: Own TBool 4 (some ⟨b5, 0, none⟩) ((w64 (2 * (a1.length : Int))).toNat) (fun _ => ()) h1 :: Own TBool 4 (some ⟨b7, 0, none⟩) ((w64 (2 * (a1.length : Int))).toNat) (fun _ => ()) i1 :: Box b187 152 [I e185.A, I e185.B, I e185.C, I e185.D, I e185.Sign] :: L) → G prog 127 63 [(1, .pointer (some ⟨b1, 0, none⟩)), (3, I (w64 (2 * (a1.length : Int)))), (4, .slice (some ⟨b5, 0, none⟩) h1.length ((w64 (2 * (a1.length : Int))).toNat)), (5, .slice (some ⟨b7, 0, none⟩) i1.length ((w64 (2 * (a1.length : Int))).toNat)), (6, I c1), (7, .pointer (some ⟨b187, 0, none⟩)), (38, .bool x192)] m2 w (spec_l25Counts.post w0 L r1) := by
        intro z1 t2 x192 w H HS
        cases z1 with
        | zero => rw [spec_l25Counts.j12] at H; cases H
        | succ d2 =>
         rw [spec_l25Counts.j12] at H
         subst r2
         rcases iE H with ⟨c193, H⟩ | ⟨c193, H⟩
         ·
          refine yB Z c193 (rN 2 Z ?_)
          obtain rfl := sI H
          exact rT _ func127 Z Z ⟨Z, (HS.pk 4 [] Z)⟩
         refine nB Z (bnot_of c193) (rN 5 Z ?_)
         refine G.name (fun s2 n2 => ?_)
         have o2 : ∀ m1, m1 ≤ d2 → ∀ (u1 v1 : List Bool) (b2 : Int) (w : World), spec_l25Counts.l13 K m1 a1 c1 e185 u1 v1 b2 = some r1 → St w0 w (Box b1 58 [.slice A_a a1.length c_a, I d1] :: Own TBool 4 (some ⟨b5, 0, none⟩) ((w64 (2 * (a1.length : Int))).toNat) (fun _ => ()) u1 :: Own TBool 4 (some ⟨b7, 0, none⟩) ((w64 (2 * (a1.length : Int))).toNat) (fun _ => ()) v1 :: Box b187 152 [I e185.A, I e185.B, I e185.C, I e185.D, I e185.Sign] :: L) → G prog 127 63 [(1, .pointer (some ⟨b1, 0, none⟩)), (3, I (w64 (2 * (a1.length : Int)))), (4, .slice (some ⟨b5, 0, none⟩) u1.length ((w64 (2 * (a1.length : Int))).toNat)), (5, .slice (some ⟨b7, 0, none⟩) v1.length ((w64 (2 * (a1.length : Int))).toNat)), (6, I c1), (7, .pointer (some ⟨b187, 0, none⟩)), (8, I b2)] s2 w (spec_l25Counts.post w0 L r1) := by
          intro m1
          induction m1 using Nat.strongRecOn with
          | _ m1 h2 =>
           intro g2 u1 v1 b2 w H HS
           cases m1 with
           | zero => rw [spec_l25Counts.l13] at H; cases H
           | succ c2 =>
            rw [spec_l25Counts.l13] at H
            subst n2
            refine rN 3 Z ?_
            rcases iE H with ⟨c244, H⟩ | ⟨c244, H⟩
            ·
             refine yB Z (tT c244) (rN 4 Z ?_)
             obtain ⟨t245, h246, H⟩ := bI H
             refine rG (GO.ldBoxA (j := 3) ([I e185.A, I e185.B, I e185.C, I e185.D, I e185.Sign]) HS Z Z Z Z ag152 Z (mV Z (fN Z func162 fok162.1 fok162.2 Z Z (spec_l25End.calls HS  h246) (fun _ wd247 ⟨h248, HS⟩ => ⟨_, h248, (aS Z (nL (rN 2 Z ?_)))⟩))))
             obtain ⟨t249, h250, H⟩ := bI H
             refine rG (pS 3 Z (fN Z func84 fok84.1 fok84.2 Z Z (spec_l01In.calls HS  h250) (fun _ wd251 ⟨h252, HS⟩ => ⟨_, h252, (GO.not Z Z Z (nL ?_))⟩)))
             rcases iE H with ⟨c253, H⟩ | ⟨c253, H⟩
             ·
              refine nB Z (congrArg Bool.not c253) (rN 5 Z ?_)
              obtain ⟨t254, h255, H⟩ := bI H
              refine rG (GO.ldBoxA (j := 3) ([I e185.A, I e185.B, I e185.C, I e185.D, I e185.Sign]) HS Z Z Z Z ag152 Z (mV Z (fN Z func163 fok163.1 fok163.2 Z Z (spec_l25Enters.calls HS  h255) (fun _ wd256 ⟨h257, HS⟩ => ⟨_, h257, (nL ?_)⟩))))
              rcases iE H with ⟨c261, H⟩ | ⟨c261, H⟩
              ·
               refine yB Z c261 (rN 3 Z ?_)
               obtain ⟨c262, H⟩ := iN H
               refine rG (pS 2 Z (GO.ix Z Z Z underlying191 sz4 (fun _ => ⟨_, _, Z⟩) c262.1 c262.2 Z (GO.ldRd (T := TBool) (n := t245.toNat) (o := 0) HS (RdIn.own (j := 1) Z) Z Z (getD_some (d := false) (ltN c262)) Z Z na4 Z (nL ?_))))
               rcases iE H with ⟨c263, H⟩ | ⟨c263, H⟩
               ·
                refine yB Z c263 (rN 2 Z ?_)
                obtain rfl := sI H
                exact rT _ func127 Z Z ⟨Z, (HS.pk 4 [] Z)⟩
               refine nB Z (bnot_of c263) (G.skip (rG (pS 2 Z (GO.ix Z Z Z underlying191 sz4 (fun _ => ⟨_, _, Z⟩) c262.1 c262.2 Z (GO.stRow (T := TBool) (j := 1) (n := t245.toNat) (o := 0) (vs := [.bool true]) true HS Z flat_flat Z Z Z Z (htN na4 Z) Z (getD_some (d := false) (ltN c262)) Z Z fun wd264 HS => nL (G.len (t := 4) (m := (u1.set t245.toNat true).length) Z (by simp only [List.length_set] <;> rfl) (rN 3 Z (G.weak ?_ (h2 c2 (Nat.lt_succ_of_le (lR _)) (Nat.le_of_succ_le g2) _ _ _ _ H HS)))))))))
               exact ⟨Z, Z, Z, Z, Z, Z, Z, tv⟩
              refine nB Z (bnot_of c261) (rN 3 Z ?_)
              obtain ⟨c265, H⟩ := iN H
              refine rG (pS 2 Z (GO.ix Z Z Z underlying191 sz4 (fun _ => ⟨_, _, Z⟩) c265.1 c265.2 Z (GO.ldRd (T := TBool) (n := t245.toNat) (o := 0) HS (RdIn.own (j := 2) Z) Z Z (getD_some (d := false) (ltN c265)) Z Z na4 Z (nL ?_))))
              rcases iE H with ⟨c266, H⟩ | ⟨c266, H⟩
              ·
               refine yB Z c266 (rN 2 Z ?_)
               obtain rfl := sI H
               exact rT _ func127 Z Z ⟨Z, (HS.pk 4 [] Z)⟩
              refine nB Z (bnot_of c266) (G.skip (rG (pS 2 Z (GO.ix Z Z Z underlying191 sz4 (fun _ => ⟨_, _, Z⟩) c265.1 c265.2 Z (GO.stRow (T := TBool) (j := 2) (n := t245.toNat) (o := 0) (vs := [.bool true]) true HS Z flat_flat Z Z Z Z (htN na4 Z) Z (getD_some (d := false) (ltN c265)) Z Z fun wd267 HS => nL (G.len (t := 5) (m := (v1.set t245.toNat true).length) Z (by simp only [List.length_set] <;> rfl) (rN 3 Z (G.weak ?_ (h2 c2 (Nat.lt_succ_of_le (lR _)) (Nat.le_of_succ_le g2) _ _ _ _ H HS)))))))))
              exact ⟨Z, Z, Z, Z, Z, Z, Z, tv⟩
             refine yB Z (congrArg Bool.not (bnot_of c253)) (rN 2 Z ?_)
             obtain rfl := sI H
             exact rT _ func127 Z Z ⟨Z, (HS.pk 4 [] Z)⟩
            refine nB Z (tF c244) (rN 4 Z (G.weak ?_ (p2 c2 (by omega) (by omega) _ _ _ _ H (HS.pk 4 [0, 1, 2] Z))))
            exact ⟨Z, Z, Z, Z, Z, tv⟩
         refine G.weak ?_ (o2 d2 (lR _) _ _ _ _ H HS)
         exact ⟨Z, Z, Z, Z, Z, Z, Z, tv⟩
       rcases iE H with ⟨c268, H⟩ | ⟨c268, H⟩
       ·
        refine rG (fL b187 4 fl152_4 Z (lB 0 HS Z na2 Z (pS 2 Z (kN 34 Z (nT c268) (oF Z (oF Z (oF Z (GO.pickF Z Z Z Z Z (nL (G.weak ?_ (e2 a2 (lR _) _ _ H (HS.pk 4 [1, 2, 3, 0] Z))))))))))))
        exact ⟨Z, Z, Z, Z, Z, Z, Z, tv⟩
       refine rG (fL b187 4 fl152_4 Z (lB 0 HS Z na2 Z (pS 2 Z (kN 34 Z (nF c268) (oN Z (fL b187 4 fl152_4 Z (bK (oN Z (lB 0 HS Z na2 Z (bK (oN Z (GO.neq Z Z Z Z (bK (GO.pickT Z Z Z Z Z ?_))))))))))))))
       refine nL (G.weak ?_ (e2 a2 (lR _) _ _ H (HS.pk 4 [1, 2, 3, 0] Z)))
       exact ⟨Z, Z, Z, Z, Z, Z, Z, tv⟩
      refine nB Z (tF c183) (rN 3 Z ?_)
      obtain rfl := sI H
      exact rT _ func127 Z Z ⟨Z, (HS.pk 3 [] Z)⟩
   refine G.weak ?_ (k2 K (lR _) _ _ _ _ H HS)
   exact ⟨Z, Z, Z, Z, Z, tv⟩
theorem spec_l25Place.calls {a1 : List GCrossing} {f1 a_ : Int} {enters : Bool} {A_a : Option Addr} {c_a : Nat} {r1 r2 : Int} (HS : St w0 w (L)) (r_a : RdIn w0 L T_GCrossing A_a c_a (fun _ => ()) a1) (H : spec_l25Place.f K a1 f1 a_ enters = some (r1, r2)) :
    Calls prog 189 #[.agg [.slice A_a a1.length c_a, I f1].toArray, I a_, .bool enters] w (spec_l25Place.post w0 L r1 r2) := by
  unfold spec_l25Place.f at H
  refine cG func189 Z ?_
  refine sQ (rG (GO.box (cs := [.slice A_a a1.length c_a, I f1]) HS Z Z Z Z fun b1 wd2 HS => pS 2 Z (nL (rN 5 Z ?_))))
  refine G.name (fun s1 n1 => ?_)
  have t1 : ∀ d1, d1 ≤ K → ∀ (c1 : Int) (w : World), spec_l25Place.l1 K d1 a1 a_ enters c1 = some (r1, r2) → St w0 w (Box b1 58 [.slice A_a a1.length c_a, I f1] :: L) → G prog 189 43 [(1, I a_), (2, .bool enters), (3, .pointer (some ⟨b1, 0, none⟩)), (8, I c1)] s1 w (spec_l25Place.post w0 L r1 r2) := by
   intro d1
   induction d1 using Nat.strongRecOn with
   | _ d1 q1 =>
    intro v1 c1 w H HS
    cases d1 with
    | zero => rw [spec_l25Place.l1] at H; cases H
    | succ i1 =>
     rw [spec_l25Place.l1] at H
     subst n1
     refine rN 2 Z (rG (mV Z (fL b1 0 fl58_0 Z (lB 0 HS Z na56 Z (lS Z Z underlying56 Z (GO.lss Z Z Z Z (nL ?_)))))))
     rcases iE H with ⟨c162, H⟩ | ⟨c162, H⟩
     ·
      refine yB Z (tT c162) (rN 7 Z ?_)
      refine G.name (fun u1 o1 => ?_)
      have p1 : ∀ e1, e1 ≤ i1 → ∀ (g1 : Int) (w : World), spec_l25Place.l4 K e1 a1 a_ enters c1 g1 = some (r1, r2) → St w0 w (Box b1 58 [.slice A_a a1.length c_a, I f1] :: L) → G prog 189 43 [(1, I a_), (2, .bool enters), (3, .pointer (some ⟨b1, 0, none⟩)), (8, I c1), (9, I g1)] u1 w (spec_l25Place.post w0 L r1 r2) := by
       intro e1
       induction e1 using Nat.strongRecOn with
       | _ e1 k1 =>
        intro m1 g1 w H HS
        cases e1 with
        | zero => rw [spec_l25Place.l4] at H; cases H
        | succ h1 =>
         rw [spec_l25Place.l4] at H
         subst o1
         refine rN 3 Z ?_
         rcases iE H with ⟨c215, H⟩ | ⟨c215, H⟩
         ·
          refine yB Z (tT c215) (rN 4 Z ?_)
          obtain ⟨c228, H⟩ := iN H
          obtain ⟨e229, h230, H⟩ := bnd_elim H
          obtain ⟨t231, h232, H⟩ := bI H
          rcases iE H with ⟨c235, H⟩ | ⟨c235, H⟩
          ·
           obtain ⟨t236, h237, H⟩ := bI H
           refine rG (fL b1 0 fl58_0 Z (lB 0 HS Z na56 Z (mV Z (GO.ix Z Z Z underlying56 sz152 ((rD 1 r_a) _ HS).2.2.1 c228.1 c228.2 Z (GO.ldRdA (T := T_GCrossing) (n := c1.toNat) HS (rD 1 r_a) Z Z (getD_eq (ltN c228) h230) ag152 Z (mV Z (fN Z func162 fok162.1 fok162.2 Z Z (spec_l25End.calls HS  h232) (fun _ wd233 ⟨h234, HS⟩ => ⟨_, h234, (pS 3 Z (kN 30 Z (tT c235) (oN Z (fL b1 0 fl58_0 Z (bK (oN Z (lB 0 HS Z na56 Z ?_)))))))⟩))))))))
           refine bK (oN Z (mV Z (bK (oN Z (GO.ix Z Z Z underlying56 sz152 ((rD 1 r_a) _ HS).2.2.1 c228.1 c228.2 Z (bK (oN Z (GO.ldRdA (T := T_GCrossing) (n := c1.toNat) HS (rD 1 r_a) Z Z (getD_eq (ltN c228) h230) ag152 Z (bK (oN Z (mV Z (bK (oN Z (fN Z func163 fok163.1 fok163.2 Z Z (spec_l25Enters.calls HS  h237) (fun _ wd238 ⟨h239, HS⟩ => ⟨_, h239, ?_⟩)))))))))))))))
           refine bK (oN Z (mV Z (bK (oN Z (GO.eqlB Z Z Z underlying4 Z (bK (GO.pickT Z Z Z Z Z (nL ?_))))))))
           rcases iE H with ⟨c240, H⟩ | ⟨c240, H⟩
           ·
            refine yB Z c240 (rN 2 Z ?_)
            obtain ⟨rfl, rfl⟩ := some2 H
            exact G.ret2 _ _ func189 Z Z Z ⟨Z, (HS.pk 1 [] Z)⟩
           refine nB Z (bnot_of c240) (rN 4 Z (G.weak ?_ (k1 h1 (Nat.lt_succ_of_le (lR _)) (Nat.le_of_succ_le m1) _ _ H HS)))
           exact ⟨Z, Z, Z, Z, Z, tv⟩
          refine rG (fL b1 0 fl58_0 Z (lB 0 HS Z na56 Z (mV Z (GO.ix Z Z Z underlying56 sz152 ((rD 1 r_a) _ HS).2.2.1 c228.1 c228.2 Z (GO.ldRdA (T := T_GCrossing) (n := c1.toNat) HS (rD 1 r_a) Z Z (getD_eq (ltN c228) h230) ag152 Z (mV Z (fN Z func162 fok162.1 fok162.2 Z Z (spec_l25End.calls HS  h232) (fun _ wd233 ⟨h234, HS⟩ => ⟨_, h234, (pS 3 Z (kN 30 Z (tF c235) (oF Z (oF Z (oF Z (oF Z (oF Z ?_)))))))⟩))))))))
          refine oF Z (oF Z (oF Z (oF Z (GO.pickF Z Z Z Z Z (nL (rN 5 Z (G.weak ?_ (k1 h1 (Nat.lt_succ_of_le (lR _)) (Nat.le_of_succ_le m1) _ _ H HS))))))))
          exact ⟨Z, Z, Z, Z, Z, tv⟩
         refine nB Z (tF c215) (rN 4 Z (G.weak ?_ (q1 h1 (by omega) (by omega) _ _ H HS)))
         exact ⟨Z, Z, Z, Z, tv⟩
      refine G.weak ?_ (p1 i1 (lR _) _ _ H HS)
      exact ⟨Z, Z, Z, Z, Z, tv⟩
     refine nB Z (tF c162) (rN 3 Z ?_)
     obtain ⟨rfl, rfl⟩ := some2 H
     exact G.ret2 _ _ func189 Z Z Z ⟨Z, (HS.pk 1 [] Z)⟩
  refine G.weak ?_ (t1 K (lR _) _ _ H HS)
  exact ⟨Z, Z, Z, Z, tv⟩
theorem spec_l25Successor.calls {a1 : List GCrossing} {c1 corner : Int} {A_a : Option Addr} {c_a : Nat} {r1 : Int} (HS : St w0 w (L)) (r_a : RdIn w0 L T_GCrossing A_a c_a (fun _ => ()) a1) (H : spec_l25Successor.f K a1 c1 corner = some r1) :
    Calls prog 164 #[.agg [.slice A_a a1.length c_a, I c1].toArray, I corner] w (spec_l25Successor.post w0 L r1) := by
  unfold spec_l25Successor.f at H
  refine cG func164 Z ?_
  refine sQ (rG (GO.box (cs := [.slice A_a a1.length c_a, I c1]) HS Z Z Z Z fun b1 wd2 HS => aS Z (nL (sQ (rG (mV Z (GO.quo Z Z Z (by decide) Z (mV Z (GO.rem Z Z Z (by decide) Z (GO.add Z Z Z Z (GO.rem Z Z Z (by decide) Z (pS 2 Z (nL ?_)))))))))))))
  refine sQ ?_
  obtain ⟨c3, H⟩ := iN H
  obtain ⟨e4, h5, H⟩ := bnd_elim H
  refine rG (fL b1 0 fl58_0 Z (lB 0 HS Z na56 Z (mV Z (GO.ix Z Z Z underlying56 sz152 ((rD 1 r_a) _ HS).2.2.1 c3.1 c3.2 Z (GO.ldRdA (T := T_GCrossing) (n := (w64 (corner.tdiv 4)).toNat) HS (rD 1 r_a) Z Z (getD_eq (ltN c3) h5) ag152 Z (GO.alloc HS Z zr152 Z Z fun b6 wd7 HS => GO.stBox (j := 0) (vs := [I e4.A, I e4.B, I e4.C, I e4.D, I e4.Sign]) ([I e4.A, I e4.B, I e4.C, I e4.D, I e4.Sign]) HS Z Z Z Z Z (htA ag152) Z Z Z fun wd8 HS => nL (sQ ?_)))))))
  obtain ⟨t9, h10, H⟩ := bI H
  obtain ⟨t13, h14, H⟩ := bI H
  obtain ⟨t17, t18, h19, H⟩ := bind2_elim H
  refine G.lexS mixed (fun w => St w0 w (Box b6 152 [I e4.A, I e4.B, I e4.C, I e4.D, I e4.Sign] :: Box b1 58 [.slice A_a a1.length c_a, I c1] :: L)) [0, 1, 4] [2, 5, 0, 1, 4, 3, 6, 7, 8, 9, 10, 11, 12, 13] [] (by kernel_rfl) (by kernel_rfl) HS.drew ?_
  replace HS := HS.drew
  refine GX.ps 2 Z (GX.ls Z Z Z HS (fun _ HS _ g => GO.ldBoxA (j := 1) ([.slice A_a a1.length c_a, I c1]) HS Z Z Z Z ag58 Z g) Z (GX.ls Z Z Z HS (fun _ HS _ g => GO.ldBoxA (j := 0) ([I e4.A, I e4.B, I e4.C, I e4.D, I e4.Sign]) HS Z Z Z Z ag152 Z g) Z (GX.ls Z Z Z HS (fun _ HS _ g => GO.ldBoxA (j := 0) ([I e4.A, I e4.B, I e4.C, I e4.D, I e4.Sign]) HS Z Z Z Z ag152 Z g) Z (GX.l2 Z (fN Z func162 fok162.1 fok162.2 Z Z (spec_l25End.calls HS  h10) (fun _ wd11 ⟨h12, HS⟩ => ⟨_, h12, (GX.fin HS (GX.l2 Z (fN Z func163 fok163.1 fok163.2 Z Z (spec_l25Enters.calls HS  h14) (fun _ wd15 ⟨h16, HS⟩ => ⟨_, h16, (GX.fin HS (GX.ps 1 Z (GX.l2 Z (fN Z func189 fok189.1 fok189.2 Z Z (spec_l25Place.calls HS (rD 2 r_a) h19) (fun _ wd20 ⟨h21, HS⟩ => ⟨_, h21, (GX.fin HS (GX.ps 5 Z ?_))⟩)))))⟩))))⟩))))))
  refine GX.nil (rN 2 Z ?_)
  obtain rfl := sI H
  exact rT _ func164 Z Z ⟨Z, (HS.pk 2 [] Z)⟩
theorem spec_l25Regions.calls {a1 : List GCrossing} {c1 : Int} {A_a : Option Addr} {c_a : Nat} {r1 : List (List Int)} (HS : St w0 w (L)) (r_a : RdIn w0 L T_GCrossing A_a c_a (fun _ => ()) a1) (H : spec_l25Regions.f K a1 c1 = some r1) :
    Calls prog 128 #[.agg [.slice A_a a1.length c_a, I c1].toArray] w (spec_l25Regions.post w0 L r1) := by
  unfold spec_l25Regions.f at H
  refine cG func128 Z ?_
  refine sQ (rG (GO.box (cs := [.slice A_a a1.length c_a, I c1]) HS Z Z Z Z fun b1 wd2 HS => aS Z (nL (sQ (rG (GO.buildS (el := 43) ([]) HS Z Z (fun _ => by kernel_rfl) Z fun b3 wd4 HS => ?_))))))
  replace HS := HS.boxNil (T := (Ty.slice 2 (TInt .i64))) (j := 0) Z (fun _ => ⟨none, 0, (fun _ => ())⟩)
  refine GO.lenC (t := 8) (m := ([] : List (List Int)).length) (c' := 0) Z Z Z (aS Z (nL (sQ ?_)))
  obtain ⟨c5, H⟩ := iN H
  obtain ⟨c6, H⟩ := iN H
  refine rG (fL b1 0 fl58_0 Z (lB 1 HS Z na56 Z (lS Z Z underlying56 Z (GO.mul Z Z Z Z (GO.make (T := TBool) false () HS flat_flat Z Z Z underlying191 inf4 Z Z Z c5 c6 Z fun b7 wd8 HS => aS Z (nL (rN 5 Z ?_)))))))
  refine G.name (fun a2 q1 => ?_)
  have s1 : ∀ f1, f1 ≤ K → ∀ (A70 : Option Addr) (c71 : Nat) (e1 : List (List Int)) (y73 : Nat → (Ty.slice 2 (TInt .i64)).Lay) (m1 : List Bool) (g1 : Int) (w : World), spec_l25Regions.l1 K f1 a1 c1 e1 m1 g1 = some r1 → St w0 w (Box b1 58 [.slice A_a a1.length c_a, I c1] :: Own (Ty.slice 2 (TInt .i64)) 43 A70 c71 y73 e1 :: Own TBool 4 (some ⟨b7, 0, none⟩) ((w64 (4 * (a1.length : Int))).toNat) (fun _ => ()) m1 :: L) → G prog 128 46 [(1, .pointer (some ⟨b1, 0, none⟩)), (3, .slice A70 e1.length c71), (4, .slice (some ⟨b7, 0, none⟩) m1.length ((w64 (4 * (a1.length : Int))).toNat)), (5, I g1)] a2 w (spec_l25Regions.post w0 L r1) := by
   intro f1
   induction f1 using Nat.strongRecOn with
   | _ f1 p1 =>
    intro y1 A70 c71 e1 y73 m1 g1 w H HS
    cases f1 with
    | zero => rw [spec_l25Regions.l1] at H; cases H
    | succ n1 =>
     rw [spec_l25Regions.l1] at H
     subst q1
     refine rN 2 Z (rG (pS 2 Z (lS Z Z underlying191 Z (GO.lss Z Z Z Z (nL ?_)))))
     rcases iE H with ⟨c137, H⟩ | ⟨c137, H⟩
     ·
      refine yB Z (tT c137) (rN 5 Z ?_)
      obtain ⟨c138, H⟩ := iN H
      refine rG (pS 2 Z (GO.ix Z Z Z underlying191 sz4 (fun _ => ⟨_, _, Z⟩) c138.1 c138.2 Z (GO.ldRd (T := TBool) (n := g1.toNat) (o := 0) HS (RdIn.own (j := 2) Z) Z Z (getD_some (d := false) (ltN c138)) Z Z na4 Z (nL ?_))))
      rcases iE H with ⟨c139, H⟩ | ⟨c139, H⟩
      ·
       refine yB Z c139 (rN 3 Z (G.weak ?_ (p1 n1 (Nat.lt_succ_of_le (lR _)) (Nat.le_of_succ_le y1) _ _ _ _ _ _ _ H HS)))
       exact ⟨Z, Z, Z, Z, tv⟩
      refine nB Z (bnot_of c139) (rN 2 Z (rG (GO.buildS (el := 2) ([]) HS Z Z (fun _ => by kernel_rfl) Z fun b140 wd141 HS => ?_)))
      replace HS := HS.boxRow (T := (TInt .i64)) (j := 0) Z flat_flat (fun _ => ()) ([] : List Int) Z (bndL Z)
      refine GO.lenC (t := 24) (m := ([] : List Int).length) (c' := ([] : List Int).length) Z Z Z (aS Z (nL (rN 5 Z ?_)))
      refine G.name (fun v1 u1 => ?_)
      have z1 : ∀ h1, h1 ≤ n1 → ∀ (k1 : List Bool) (A154 : Option Addr) (c155 : Nat) (i1 : List Int) (d1 : Int) (w : World), spec_l25Regions.l4 K h1 a1 c1 e1 g1 k1 i1 d1 = some r1 → St w0 w (Box b1 58 [.slice A_a a1.length c_a, I c1] :: Own (Ty.slice 2 (TInt .i64)) 43 A70 c71 y73 e1 :: Own TBool 4 (some ⟨b7, 0, none⟩) ((w64 (4 * (a1.length : Int))).toNat) (fun _ => ()) k1 :: Own (TInt .i64) 2 A154 c155 (fun _ => ()) i1 :: L) → G prog 128 46 [(1, .pointer (some ⟨b1, 0, none⟩)), (3, .slice A70 e1.length c71), (4, .slice (some ⟨b7, 0, none⟩) k1.length ((w64 (4 * (a1.length : Int))).toNat)), (5, I g1), (6, .slice A154 i1.length c155), (7, I d1)] v1 w (spec_l25Regions.post w0 L r1) := by
       intro h1
       induction h1 using Nat.strongRecOn with
       | _ h1 t1 =>
        intro x1 k1 A154 c155 i1 d1 w H HS
        cases h1 with
        | zero => rw [spec_l25Regions.l4] at H; cases H
        | succ o1 =>
         rw [spec_l25Regions.l4] at H
         subst u1
         refine rN 2 Z ?_
         obtain ⟨c178, H⟩ := iN H
         refine rG (pS 2 Z (GO.ix Z Z Z underlying191 sz4 (fun _ => ⟨_, _, Z⟩) c178.1 c178.2 Z (GO.ldRd (T := TBool) (n := d1.toNat) (o := 0) HS (RdIn.own (j := 2) Z) Z Z (getD_some (d := false) (ltN c178)) Z Z na4 Z (GO.not Z Z Z (nL ?_)))))
         rcases iE H with ⟨c179, H⟩ | ⟨c179, H⟩
         ·
          refine nB Z (congrArg Bool.not c179) (G.exit Z ?_)
          obtain ⟨c185, H⟩ := iN H
          refine rG (pS 2 Z (GO.buildS (el := 43) ([.slice A154 i1.length c155]) HS Z Z (fun _ => by kernel_rfl) Z fun b180 wd181 HS => ?_))
          replace HS := HS.pk 5 [2, 0, 4, 1, 3] Z
          refine GO.appR (S := (TInt .i64)) (u := 2) HS Z Z Z underlying161 inf43 Z Z c185 Z fun A183 c184 y186 wd182 HS => aS Z (nL (rN 3 Z (G.weak ?_ (p1 o1 (by omega) (by omega) _ _ _ _ _ _ _ H (HS.pk 4 [2, 0, 3] Z)))))
          exact ⟨Z, Z, Z, Z, tv⟩
         refine yB Z (congrArg Bool.not (bnot_of c179)) (rN 4 Z (rG (pS 2 Z (GO.ix Z Z Z underlying191 sz4 (fun _ => ⟨_, _, Z⟩) c178.1 c178.2 Z (GO.stRow (T := TBool) (j := 2) (n := d1.toNat) (o := 0) (vs := [.bool true]) true HS Z flat_flat Z Z Z Z (htN na4 Z) Z (getD_some (d := false) (ltN c178)) Z Z fun wd187 HS => nL (G.len (t := 4) (m := (k1.set d1.toNat true).length) Z (by simp only [List.length_set] <;> rfl) ?_))))))
         obtain ⟨c193, H⟩ := iN H
         refine rG (pS 2 Z (GO.buildS (el := 2) ([I d1]) HS Z Z (fun _ => by kernel_rfl) Z fun b188 wd189 HS => GO.app1 (T := (TInt .i64)) (j := 4) (jb := 0) d1 HS Z Z flat_flat Z Z Z underlying43 inf2 Z Z Z c193 Z fun A191 c192 wd190 HS => aS Z (nL (G.blockEnd ?_))))
         obtain ⟨t194, h195, H⟩ := bI H
         refine rG (GO.ldBoxA (j := 1) ([.slice A_a a1.length c_a, I c1]) HS Z Z Z Z ag58 Z (mV Z (fN Z func164 fok164.1 fok164.2 Z Z (spec_l25Successor.calls HS (rD 5 r_a) h195) (fun _ wd196 ⟨h197, HS⟩ => ⟨_, h197, (aS Z (nL (G.again (G.weak ?_ (t1 o1 (Nat.lt_succ_of_le (lR _)) (Nat.le_of_succ_le x1) _ _ _ _ _ _ H (HS.pk 5 [1, 2, 3, 4] Z))))))⟩))))
         exact ⟨Z, Z, Z, Z, Z, Z, tv⟩
      refine G.weak ?_ (z1 n1 (lR _) _ _ _ _ _ _ H (HS.pk 4 [1, 2, 3, 0] Z))
      exact ⟨Z, Z, Z, Z, Z, Z, tv⟩
     refine nB Z (tF c137) (rN 3 Z ?_)
     obtain rfl := sI H
     exact rT _ func128 Z Z ⟨_, _, _, Z, (HS.pk 3 [1] Z)⟩
  refine G.weak ?_ (s1 K (lR _) _ _ _ _ _ _ _ H (HS.pk 3 [2, 1, 0] Z))
  exact ⟨Z, Z, Z, Z, tv⟩
end Go.Proofs.YtkmeepgpmppibaaGreatDoor
