/-
  The walks through the functions: a call comes to what its list function says.
-/
import Derived.Test.YtkmeepgpmppibaaGreatDoorAlF
import Derived.Test.YtkmeepgpmppibaaGreatDoorAlW2
set_option linter.unusedVariables false
set_option linter.unusedSimpArgs false
namespace Go.Proofs.YtkmeepgpmppibaaGreatDoor
open Go.RowKit
open Tryz
variable {w0 w : World} {L : List Cu} {K : Nat}
set_option maxRecDepth 20000
set_option maxHeartbeats 40000000
theorem Le.calls {o1 : ByteArray} {n1 : Int} {m1 : List (List Bt)} {g1 : List Al} {k1 h1 : Int} {i1 : List Int} {a1 c1 : Int} {d1 : List Ci} {e1 f1 : List Int} {A_a : Option Addr} {c_a : Nat} {y_a : Nat → (Ty.slice 157 Bc).Lay} {A_b : Option Addr} {c_b : Nat} {A_c : Option Addr} {c_c : Nat} {A_d : Option Addr} {c_d : Nat} {A_e : Option Addr} {c_e : Nat} {A_f : Option Addr} {c_f : Nat} {r1 r2 : Bool} {r3 r4 : Bool} (HS : St w0 w (L)) (r_a : Aq w0 L (Ty.slice 157 Bc) A_a c_a y_a m1) (r_b : Aq w0 L Bb A_b c_b (fun _ => ()) g1) (r_c : Aq w0 L (Bq .i64) A_c c_c (fun _ => ()) i1) (r_d : Aq w0 L Cq A_d c_d (fun _ => ()) d1) (r_e : Aq w0 L (Bq .i64) A_e c_e (fun _ => ()) e1) (r_f : Aq w0 L (Bq .i64) A_f c_f (fun _ => ()) f1) (H : Le.f o1 n1 m1 g1 k1 h1 i1 a1 c1 d1 e1 f1 = some (r1, r2, r3, r4)) :
    Calls prog 98 #[.agg [.string o1, I n1, .slice A_a m1.length c_a, .slice A_b g1.length c_b, I k1, I h1, .slice A_c i1.length c_c, I a1, I c1, .slice A_d d1.length c_d, .slice A_e e1.length c_e, .slice A_f f1.length c_f].toArray] w (Le.post w0 L r1 r2 r3 r4) := by
  unfold Le.f at H
  refine cG func98 Z ?_
  refine sQ (rG (GO.box (cs := [.string o1, I n1, .slice A_a m1.length c_a, .slice A_b g1.length c_b, I k1, I h1, .slice A_c i1.length c_c, I a1, I c1, .slice A_d d1.length c_d, .slice A_e e1.length c_e, .slice A_f f1.length c_f]) HS Z Z Z Z fun b1 wd2 HS => GO.alloc HS Z uH Z Z fun b3 wd4 HS => nL (sQ (rG (fL b1 7 K4 Z (GO.Bu (j := 1) ([I a1, I c1, .slice A_d d1.length c_d, .slice A_e e1.length c_e, .slice A_f f1.length c_f]) HS Z Z Z Z Qn Z (GO.alloc HS Z qV Z Z fun b5 wd6 HS => GO.C8 (j := 0) (vs := [I a1, I c1, .slice A_d d1.length c_d, .slice A_e e1.length c_e, .slice A_f f1.length c_f]) ([I a1, I c1, .slice A_d d1.length c_d, .slice A_e e1.length c_e, .slice A_f f1.length c_f]) HS Z Z Z Z Z (htA Qn) Z Z Z fun wd7 HS => nL (sQ (rG (fL b1 2 Nk Z ?_))))))))))
  refine fL b1 2 I8 Z (lB 2 HS Z Nt Z (lS Z Z underlying53 Z (GO.gtr Z Z Z Z (fL b1 3 L8 Z (fL b1 3 Iu Z (lB 2 HS Z Ni Z (lS Z Z underlying56 Z (pS 2 Z (GO.join 5 21 (.bool ((decide (0 < (g1.length : Int))) || (!(decide (k1 = 0))))) (fun Q g => ?_) ?_)))))))))
  ·
   rcases Decidable.em (0 < (g1.length : Int)) with c8 | c9
   ·
    refine kN 16 Z (tT c8) (oF Z (oF Z (oF Z (oF Z (GO.Ip Z Z Z Z Z (kN 21 Z (orT (tT c8)) (kN 16 Z (tT c8).symm (GO.weak (by repeat (first | exact tv | refine ⟨Z, ?_⟩)) g))))))))
   refine kN 16 Z (tF c9) (oN Z (fL b1 3 L8 Z (bK (oN Z (fL b1 4 O1 Z (bK (oN Z (lB 2 HS Z na2 Z (bK (oN Z (GO.neq Z Z Z Z (bK (GO.Js Z Z Z Z Z (kN 21 Z (orF (tF c9)) ?_))))))))))))))
   refine kN 16 Z (tF c9).symm (GO.weak (by repeat (first | exact tv | refine ⟨Z, ?_⟩)) g)
  refine fL b1 5 Ml Z (fL b1 5 Nl Z (lB 2 HS Z na2 Z (pS 2 Z (GO.join 6 32 (.bool ((!(decide (h1 = 0))) || (decide (0 < (i1.length : Int))))) (fun Q g => ?_) ?_))))
  ·
   rcases Decidable.em (h1 = 0) with c10 | c11
   ·
    refine kN 26 Z (nT c10) (oN Z (fL b1 5 Ml Z (bK (oN Z (fL b1 6 Nc Z (bK (oN Z (lB 2 HS Z H7 Z (bK (oN Z (lS Z Z underlying43 Z (bK (oN Z (GO.gtr Z Z Z Z ?_))))))))))))))
    refine bK (GO.Js Z Z Z Z Z (kN 32 Z (orF (nT c10)) (kN 26 Z (nT c10).symm (GO.weak (by repeat (first | exact tv | refine ⟨Z, ?_⟩)) g))))
   refine kN 26 Z (nF c11) (oF Z (oF Z (oF Z (oF Z (oF Z (GO.Ip Z Z Z Z Z (kN 32 Z (orT (nF c11)) (kN 26 Z (nF c11).symm (GO.weak (by repeat (first | exact tv | refine ⟨Z, ?_⟩)) g)))))))))
  refine fL b5 0 Mw Z (lB 0 HS Z na2 Z (pS 2 Z (GO.join 4 40 (.bool ((!(decide (a1 = 0))) || (!(decide (c1 = 0))))) (fun Q g => ?_) ?_)))
  ·
   rcases Decidable.em (a1 = 0) with c12 | c13
   ·
    refine kN 36 Z (nT c12) (oN Z (fL b5 1 M0 Z (bK (oN Z (lB 0 HS Z na2 Z (bK (oN Z (GO.neq Z Z Z Z (bK (GO.Js Z Z Z Z Z (kN 40 Z (orF (nT c12)) (kN 36 Z (nT c12).symm (GO.weak (by repeat (first | exact tv | refine ⟨Z, ?_⟩)) g)))))))))))))
   refine kN 36 Z (nF c13) (oF Z (oF Z (oF Z (GO.Ip Z Z Z Z Z (kN 40 Z (orT (nF c13)) (kN 36 Z (nF c13).symm (GO.weak (by repeat (first | exact tv | refine ⟨Z, ?_⟩)) g)))))))
  refine mV Z (GO.join 5 46 (.bool (((!(decide (a1 = 0))) || (!(decide (c1 = 0)))) || (decide (0 < (d1.length : Int))))) (fun Q g => ?_) ?_)
  ·
   rcases Decidable.em (((!(decide (a1 = 0))) || (!(decide (c1 = 0)))) = true) with c14 | c15
   ·
    refine kN 41 Z c14 (oF Z (oF Z (oF Z (oF Z (GO.Ip Z Z Z Z Z (kN 46 Z (orT c14) (kN 41 Z c14.symm (GO.weak (by repeat (first | exact tv | refine ⟨Z, ?_⟩)) g))))))))
   refine kN 41 Z (Ca c15) (oN Z (fL b5 2 Ir Z (bK (oN Z (lB 0 HS Z Nh Z (bK (oN Z (lS Z Z underlying60 Z (bK (oN Z (GO.gtr Z Z Z Z (bK (GO.Js Z Z Z Z Z (kN 46 Z (orF (Ca c15)) ?_))))))))))))))
   refine kN 41 Z (Ca c15).symm (GO.weak (by repeat (first | exact tv | refine ⟨Z, ?_⟩)) g)
  refine mV Z (GO.join 5 52 (.bool ((((!(decide (a1 = 0))) || (!(decide (c1 = 0)))) || (decide (0 < (d1.length : Int)))) || (decide (0 < (e1.length : Int))))) (fun Q g => ?_) ?_)
  ·
   rcases Decidable.em ((((!(decide (a1 = 0))) || (!(decide (c1 = 0)))) || (decide (0 < (d1.length : Int)))) = true) with c16 | c17
   ·
    refine kN 47 Z c16 (oF Z (oF Z (oF Z (oF Z (GO.Ip Z Z Z Z Z (kN 52 Z (orT c16) (kN 47 Z c16.symm (GO.weak (by repeat (first | exact tv | refine ⟨Z, ?_⟩)) g))))))))
   refine kN 47 Z (Ca c17) (oN Z (fL b5 3 Je Z (bK (oN Z (lB 0 HS Z H7 Z (bK (oN Z (lS Z Z underlying43 Z (bK (oN Z (GO.gtr Z Z Z Z (bK (GO.Js Z Z Z Z Z (kN 52 Z (orF (Ca c17)) ?_))))))))))))))
   refine kN 47 Z (Ca c17).symm (GO.weak (by repeat (first | exact tv | refine ⟨Z, ?_⟩)) g)
  refine mV Z (GO.join 5 58 (.bool (((((!(decide (a1 = 0))) || (!(decide (c1 = 0)))) || (decide (0 < (d1.length : Int)))) || (decide (0 < (e1.length : Int)))) || (decide (0 < (f1.length : Int))))) (fun Q g => ?_) ?_)
  ·
   rcases Decidable.em (((((!(decide (a1 = 0))) || (!(decide (c1 = 0)))) || (decide (0 < (d1.length : Int)))) || (decide (0 < (e1.length : Int)))) = true) with c18 | c19
   ·
    refine kN 53 Z c18 (oF Z (oF Z (oF Z (oF Z (GO.Ip Z Z Z Z Z (kN 58 Z (orT c18) (kN 53 Z c18.symm (GO.weak (by repeat (first | exact tv | refine ⟨Z, ?_⟩)) g))))))))
   refine kN 53 Z (Ca c19) (oN Z (fL b5 4 Lm Z (bK (oN Z (lB 0 HS Z H7 Z (bK (oN Z (lS Z Z underlying43 Z (bK (oN Z (GO.gtr Z Z Z Z (bK (GO.Js Z Z Z Z Z (kN 58 Z (orF (Ca c19)) ?_))))))))))))))
   refine kN 53 Z (Ca c19).symm (GO.weak (by repeat (first | exact tv | refine ⟨Z, ?_⟩)) g)
  refine GO.I9 (.agg [.bool (decide (0 < (m1.length : Int))), .bool ((decide (0 < (g1.length : Int))) || (!(decide (k1 = 0)))), .bool ((!(decide (h1 = 0))) || (decide (0 < (i1.length : Int)))), .bool (((((!(decide (a1 = 0))) || (!(decide (c1 = 0)))) || (decide (0 < (d1.length : Int)))) || (decide (0 < (e1.length : Int)))) || (decide (0 < (f1.length : Int))))].toArray) Z Z (fun _ => by kernel_rfl) Z (GO.C8 (j := 1) (vs := [.bool (decide (0 < (m1.length : Int))), .bool ((decide (0 < (g1.length : Int))) || (!(decide (k1 = 0)))), .bool ((!(decide (h1 = 0))) || (decide (0 < (i1.length : Int)))), .bool (((((!(decide (a1 = 0))) || (!(decide (c1 = 0)))) || (decide (0 < (d1.length : Int)))) || (decide (0 < (e1.length : Int)))) || (decide (0 < (f1.length : Int))))]) ([.bool (decide (0 < (m1.length : Int))), .bool ((decide (0 < (g1.length : Int))) || (!(decide (k1 = 0)))), .bool ((!(decide (h1 = 0))) || (decide (0 < (i1.length : Int)))), .bool (((((!(decide (a1 = 0))) || (!(decide (c1 = 0)))) || (decide (0 < (d1.length : Int)))) || (decide (0 < (e1.length : Int)))) || (decide (0 < (f1.length : Int))))]) HS Z Z Z Z Z (htA Vn) Z Z Z fun wd20 HS => nL ?_)
  obtain ⟨rfl, rfl, rfl, rfl⟩ := Qb H
  exact rT _ func98 Z (Ki.Lr (j := 1) (vs := [.bool (decide (0 < (m1.length : Int))), .bool ((decide (0 < (g1.length : Int))) || (!(decide (k1 = 0)))), .bool ((!(decide (h1 = 0))) || (decide (0 < (i1.length : Int)))), .bool (((((!(decide (a1 = 0))) || (!(decide (c1 = 0)))) || (decide (0 < (d1.length : Int)))) || (decide (0 < (e1.length : Int)))) || (decide (0 < (f1.length : Int))))]) HS Z Z Z Vn) ⟨Z, (HS.pk 3 [] Z)⟩
theorem Fp.calls {faces : List Bt} {A_a : Option Addr} {c_a : Nat} {r1 : Bool} (HS : St w0 w (L)) (r_a : Aq w0 L Bc A_a c_a (fun _ => ()) faces) (H : Fp.f faces = some r1) :
    Calls prog 139 #[.slice A_a faces.length c_a] w (Fp.post w0 L r1) := by
  unfold Fp.f at H
  refine cG func139 Z ?_
  refine rN 3 Z (rG (mV Z (lS Z Z underlying150 Z (pS 2 Z (nL ?_)))))
  obtain rfl := sI H
  exact rT _ func139 Z Z ⟨Z, HS⟩
theorem Aw.calls {s : List (List Bt)} {A_a : Option Addr} {c_a : Nat} {y_a : Nat → (Ty.slice 157 Bc).Lay} {r1 : Int} (HS : St w0 w (L)) (r_a : Aq w0 L (Ty.slice 157 Bc) A_a c_a y_a s) (H : Aw.f K s = some r1) :
    Calls prog 171 #[.slice A_a s.length c_a, .func (.func 139) #[] #[]] w (Aw.post w0 L r1) := by
  unfold Aw.f at H
  refine cG func171 Z ?_
  refine rN 4 Z (rG (mV Z (lS Z Z underlying53 Z (mV Z (nL (rN 2 Z ?_))))))
  refine G.name (fun b1 e1 => ?_)
  have f1 : ∀ a1, a1 ≤ K → ∀ (x8 : Int) (w : World), Aw.l1 K a1 s x8 = some r1 → St w0 w (L) → G prog 171 19 [(0, .slice A_a s.length c_a), (1, .func (.func 139) #[] #[]), (7, I (s.length : Int)), (8, I x8)] b1 w (Aw.post w0 L r1) := by
   intro a1
   induction a1 using Nat.strongRecOn with
   | _ a1 d1 =>
    intro g1 x8 w H HS
    cases a1 with
    | zero => rw [Aw.l1] at H; cases H
    | succ c1 =>
     rw [Aw.l1] at H
     subst e1
     refine rN 3 Z ?_
     rcases iE H with ⟨c16, H⟩ | ⟨c16, H⟩
     ·
      refine yB Z (tT c16) (rN 6 Z ?_)
      obtain ⟨c17, H⟩ := iN H
      obtain ⟨t18, h19, H⟩ := bI H
      refine rG (pS 3 Z (GO.ix Z Z Z underlying53 Ou (r_a _ HS).2.2.1 c17.1 c17.2 Z (GO.Fq (T := (Ty.slice 157 Bc)) (n := x8.toNat) (o := 0) HS r_a Z Z (getD_some (d := []) (ltN c17)) Z Z Ox Z (GO.clo Z Z func139 mG.1 mG.2 Z Z (Fp.calls HS (Aq.elem r_a c17.1 c17.2) h19) (fun _ wd20 ⟨h21, HS⟩ => ⟨_, h21, (nL ?_)⟩)))))
      rcases iE H with ⟨c22, H⟩ | ⟨c22, H⟩
      ·
       refine yB Z c22 (rN 2 Z ?_)
       obtain rfl := sI H
       exact rT _ func171 Z Z ⟨Z, HS⟩
      refine nB Z (Ca c22) (rN 4 Z (G.weak ?_ (d1 c1 (Nat.lt_succ_of_le (lR _)) (Nat.le_of_succ_le g1) _ _ H HS)))
      exact ⟨Z, Z, Z, Z, tv⟩
     refine nB Z (tF c16) (rN 3 Z ?_)
     obtain rfl := sI H
     exact rT _ func171 Z Z ⟨Z, HS⟩
  refine G.weak ?_ (f1 K (lR _) _ _ H HS)
  exact ⟨Z, Z, Z, Z, tv⟩
theorem Cf.calls {s : List (List Bt)} {A_a : Option Addr} {c_a : Nat} {y_a : Nat → (Ty.slice 157 Bc).Lay} {r1 : Bool} (HS : St w0 w (L)) (r_a : Aq w0 L (Ty.slice 157 Bc) A_a c_a y_a s) (H : Cf.f K s = some r1) :
    Calls prog 138 #[.slice A_a s.length c_a, .func (.func 139) #[] #[]] w (Cf.post w0 L r1) := by
  unfold Cf.f at H
  refine cG func138 Z ?_
  refine rN 3 Z ?_
  obtain ⟨t1, h2, H⟩ := bI H
  refine rG (pS 2 Z (fN Z func171 kD.1 kD.2 Z Z (Aw.calls HS r_a h2) (fun _ wd3 ⟨h4, HS⟩ => ⟨_, h4, (pS 2 Z (nL ?_))⟩)))
  obtain rfl := sI H
  exact rT _ func138 Z Z ⟨Z, HS⟩
theorem F5.calls {list : List (List Bt)} {A_a : Option Addr} {c_a : Nat} {y_a : Nat → (Ty.slice 157 Bc).Lay} {r1 : Int} (HS : St w0 w (L)) (r_a : Aq w0 L (Ty.slice 157 Bc) A_a c_a y_a list) (H : F5.f list = some r1) :
    Calls prog 140 #[.slice A_a list.length c_a] w (F5.post w0 L r1) := by
  unfold F5.f at H
  refine cG func140 Z ?_
  refine rN 3 Z (rG (mV Z (lS Z Z underlying53 Z (aS Z (nL ?_)))))
  obtain rfl := sI H
  exact rT _ func140 Z Z ⟨Z, HS⟩
theorem Ei.calls {list : List (List Bt)} {i : Int} {A_a : Option Addr} {c_a : Nat} {y_a : Nat → (Ty.slice 157 Bc).Lay} {r1 : Bool} (HS : St w0 w (L)) (r_a : Aq w0 L (Ty.slice 157 Bc) A_a c_a y_a list) (H : Ei.f list i = some r1) :
    Calls prog 172 #[.slice A_a list.length c_a, I i] w (Ei.post w0 L r1) := by
  unfold Ei.f at H
  refine cG func172 Z ?_
  refine rN 3 Z ?_
  obtain ⟨t1, h2, H⟩ := bI H
  obtain ⟨t5, h6, H⟩ := bI H
  refine rG (pS 2 Z (fN Z func140 aA.1 aA.2 Z Z (F5.calls HS r_a h2) (fun _ wd3 ⟨h4, HS⟩ => ⟨_, h4, (GO.sub Z Z Z Z (fN Z func97 Kw.1 Kw.2 Z Z (Ct.calls HS  h6) (fun _ wd7 ⟨h8, HS⟩ => ⟨_, h8, (aS Z (nL ?_))⟩)))⟩)))
  obtain rfl := sI H
  exact rT _ func172 Z Z ⟨Z, HS⟩
theorem I4.calls {p : Int} {r1 : Bool} (HS : St w0 w (L)) (H : I4.f p = some r1) :
    Calls prog 152 #[I p] w (I4.post w0 L r1) := by
  unfold I4.f at H
  refine cG func152 Z ?_
  refine rN 3 Z ?_
  obtain ⟨t1, h2, H⟩ := bI H
  refine rG (mV Z (fN Z func97 Kw.1 Kw.2 Z Z (Ct.calls HS  h2) (fun _ wd3 ⟨h4, HS⟩ => ⟨_, h4, (aS Z (nL ?_))⟩)))
  obtain rfl := sI H
  exact rT _ func152 Z Z ⟨Z, HS⟩
theorem Df.calls {s : List Int} {i j_ : Int} {A_a : Option Addr} {c_a : Nat} {r1 : List Int} (HS : St w0 w (Own (Bq .i64) 2 A_a c_a (fun _ => ()) s :: L)) (H : Df.f s i j_ = some r1) :
    Calls prog 204 #[.slice A_a s.length c_a, I i, I j_] w (Df.post w0 L r1) := by
  unfold Df.f at H
  refine cG func204 Z ?_
  refine rN 3 Z ?_
  obtain ⟨c1, H⟩ := iN H
  obtain ⟨c2, H⟩ := iN H
  refine rG (pS 4 Z (lS Z Z underlying43 Z (GO.slM Z Z Z Z Z underlying43 sz2 c1 c2 (Int.ofNat_le.2 ((Aq.own (j := 0) Z) _ HS).1) Z (nL (rN 3 Z ?_)))))
  rcases iE H with ⟨c3, H⟩ | ⟨c3, H⟩
  ·
   refine yB Z (tT c3) (rN 2 Z ?_)
   obtain rfl := sI H
   exact rT _ func204 Z Z ⟨_, _, Z, HS⟩
  refine nB Z (tF c3) (rN 2 Z (rG (mV Z (lS Z Z underlying43 Z (aS Z (nL (sQ ?_)))))))
  obtain ⟨c4, H⟩ := iN H
  obtain ⟨c5, H⟩ := iN H
  obtain ⟨c7, H⟩ := iN H
  have h8 := iR c7 (leN c5)
  refine G.lex mixed [0, 1, 3, 4, 2, 5, 6, 7] (by kernel_rfl) ?_
  replace HS := HS.drew
  refine GX.ps 4 Z (GX.l1 Z Z Z (fun _ g => GO.slH (T := (Bq .i64)) HS (Aq.own (j := 0) Z) Z Z Z underlying43 sz2 c4.1 c4.2 Z g) Z (GX.l1 Z Z Z (fun _ g => GO.slL (T := (Bq .i64)) HS (Aq.own (j := 0) Z) Z Z Z underlying43 sz2 c5.1 c5.2 Z g) Z (GX.l2 Z (GO.wN (T := (Bq .i64)) (j := 0) (i1 := i.toNat) (l1 := j_.toNat) HS Z Bv (fun _ _ => Z) Z Z Z (by rw [List.drop_zero, List.length_take]; exact Nat.min_eq_left (leN c4)) (by rw [List.length_drop, List.take_length]) underlying43 S9 c7 (leN c5) Z fun wd6 HS => GX.fin tv (GX.ps 1 Z (GX.nil (sQ ?_)))))))
  obtain ⟨c9, H⟩ := iN H
  obtain ⟨c10, H⟩ := iN H
  have h12 := iD (xs := (over s i.toNat (s.drop j_.toNat))) (z := 0) (rC (xX c9) (leN c10))
  refine rG (pS 2 Z (lS Z Z underlying43 Z (mV Z (GO.xC (T := (Bq .i64)) (xs := (over s i.toNat (s.drop j_.toNat))) ((Aq.own (j := 0) Z) _ HS).1 Z Z Z Z underlying43 sz2 c9 c10 Z (GO.vQ (T := (Bq .i64)) (j := 0) (l := ((((over s i.toNat (s.drop j_.toNat)).take (i.toNat + (s.length - j_.toNat))).drop 0).length : Int).toNat) 0 () HS Z Bv Z Z underlying43 zr2 Z Z (xO (leN c10) ((Aq.own (j := 0) Z) _ HS).1) (rC (xX c9) (leN c10)) (fun _ => Z) fun wd11 HS => nL ?_)))))
  obtain ⟨c13, H⟩ := iN H
  refine G.len (t := 0) (m := (((over (over s i.toNat (s.drop j_.toNat)) (((((over s i.toNat (s.drop j_.toNat)).take (i.toNat + (s.length - j_.toNat))).drop 0).length : Int).toNat) (List.replicate (((over s i.toNat (s.drop j_.toNat)).take ((s.length : Int).toNat)).drop (((((over s i.toNat (s.drop j_.toNat)).take (i.toNat + (s.length - j_.toNat))).drop 0).length : Int).toNat)).length 0)).take (i.toNat + (s.length - j_.toNat))).drop 0).length) Z (vV h12) (rN 2 Z ?_)
  replace HS := HS.dD (A' := (Jz A_a 0 c_a 1)) (c' := (c_a - 0)) (j := 0) (l := 0) (h := (i.toNat + (s.length - j_.toNat))) (m := c_a) Z (Nat.zero_le _) c13 (Nat.le_trans c13 ((Aq.own (j := 0) Z) _ HS).1) (lR _) Z Z
  obtain rfl := sI H
  exact rT _ func204 Z Z ⟨_, _, Z, HS⟩
theorem Iw.calls {p r1 : Int} {r2 r3 r4 : Int} (HS : St w0 w (L)) (H : Iw.f K p = some (r1, r2, r3, r4)) :
    Calls prog 191 #[I p] w (Iw.post w0 L r1 r2 r3 r4) := by
  unfold Iw.f at H
  refine cG func191 Z ?_
  refine sQ (rG (GO.alloc HS Z eX Z Z fun b1 wd2 HS => nL (sQ (rG (GO.alloc HS Z eX Z Z fun b3 wd4 HS => nL (sQ (rG (GO.F3 (el := 2) ([I 0, I 1, I 2, I 3]) HS Z Z (fun _ => by kernel_rfl) Z fun b5 wd6 HS => ?_))))))))
  replace HS := HS.J6 (T := (Bq .i64)) (j := 0) Z Bv (fun _ => ()) ([0, 1, 2, 3] : List Int) Z (O3 Z)
  refine GO.Nb (t := 8) (m := ([0, 1, 2, 3] : List Int).length) (c' := ([0, 1, 2, 3] : List Int).length) Z Z Z (aS Z (nL (rN 2 Z (rG (GO.F3 (el := 2) ([I 6, I 2, I 1, I 1]) HS Z Z (fun _ => by kernel_rfl) Z fun b7 wd8 HS => lS Z Z underlying43 Z (mV Z (nL (rN 2 Z ?_))))))))
  replace HS := HS.J6 (T := (Bq .i64)) (j := 0) Z Bv (fun _ => ()) ([6, 2, 1, 1] : List Int) Z (O3 Z)
  refine G.Nb (t := 9) (m := ([6, 2, 1, 1] : List Int).length) (c' := ([6, 2, 1, 1] : List Int).length) Z Z Z ?_
  refine G.name (fun n1 o1 => ?_)
  have p1 : ∀ h1, h1 ≤ K → ∀ (a1 d1 : Int) (A21 : Option Addr) (c22 : Nat) (c1 : List Int) (x24 e1 : Int) (g1 f1 : Int) (w : World), Iw.l1 K h1 a1 d1 c1 x24 e1 g1 f1 = some (r1, r2, r3, r4) → St w0 w (Box b1 218 [I 0, I 0, I 0, I 0] :: Box b3 218 [I d1, I e1, I g1, I f1] :: Own (Bq .i64) 2 A21 c22 (fun _ => ()) c1 :: Own (Bq .i64) 2 (some ⟨b7, 0, none⟩) (([6, 2, 1, 1] : List Int).length) (fun _ => ()) ([6, 2, 1, 1] : List Int) :: L) → G prog 191 35 [(0, I a1), (2, .pointer (some ⟨b1, 0, none⟩)), (3, .pointer (some ⟨b3, 0, none⟩)), (4, .slice A21 c1.length c22), (9, .slice (some ⟨b7, 0, none⟩) ([6, 2, 1, 1] : List Int).length (([6, 2, 1, 1] : List Int).length)), (10, I 4), (11, I x24)] n1 w (Iw.post w0 L r1 r2 r3 r4) := by
   intro h1
   induction h1 using Nat.strongRecOn with
   | _ h1 i1 =>
    intro m1 a1 d1 A21 c22 c1 x24 e1 g1 f1 w H HS
    cases h1 with
    | zero => rw [Iw.l1] at H; cases H
    | succ k1 =>
     rw [Iw.l1] at H
     subst o1
     refine rN 3 Z ?_
     rcases iE H with ⟨c102, H⟩ | ⟨c102, H⟩
     ·
      refine yB Z (tT c102) (rN 4 Z ?_)
      obtain ⟨c103, H⟩ := iN H
      refine rG (mV Z (GO.ix Z Z Z underlying43 sz2 (fun _ => ⟨_, _, Z⟩) c103.1 c103.2 Z (GO.Fq (T := (Bq .i64)) (n := x24.toNat) (o := 0) HS (Aq.own (j := 3) Z) Z Z (getD_some (d := 0) (ltN c103)) Z Z na2 Z (pS 2 Z (nL (sQ ?_))))))
      obtain ⟨c104, H⟩ := Sw H
      refine rG (pS 2 Z (GO.quo Z Z Z c104 Z (aS Z (nL (sQ (rG (pS 2 Z (GO.rem Z Z Z c104 Z (aS Z (nL (sQ ?_)))))))))))
      obtain ⟨c105, H⟩ := iN H
      rcases iE H with ⟨c106, H⟩ | ⟨c106, H⟩
      ·
       refine rG (pS 3 Z (GO.ix Z Z Z underlying43 sz2 ((Aq.own (j := 2) Z) _ HS).2.2.1 c105.1 c105.2 Z (GO.Fq (T := (Bq .i64)) (n := (w64 (a1.tdiv (([6, 2, 1, 1] : List Int).getD x24.toNat 0))).toNat) (o := 0) HS (Aq.own (j := 2) Z) Z Z (getD_some (d := 0) (ltN c105)) Z Z na2 Z (GO.ixP 0 Z Z Z c106 underlying218 sz2 Z Z (GO.C8 (j := 1) (vs := [I (c1.getD ((w64 (a1.tdiv (([6, 2, 1, 1] : List Int).getD x24.toNat 0))).toNat) 0)]) ([I (c1.getD ((w64 (a1.tdiv (([6, 2, 1, 1] : List Int).getD x24.toNat 0))).toNat) 0), I e1, I g1, I f1]) HS Z Z Z Z Z (htN na2 Z) Z Z Z fun wd107 HS => nL ?_)))))
       obtain ⟨t108, h109, H⟩ := bI H
       refine rG (pS 4 Z ?_)
       replace HS := HS.pk 4 [2, 0, 1, 3] Z
       refine fN Z func204 Rk.1 Rk.2 Z Z (Df.calls HS  h109) (fun _ wd112 ⟨A110, c111, h113, HS⟩ => ⟨_, h113, (aS Z (nL (rN 3 Z (G.weak ?_ (i1 k1 (Nat.lt_succ_of_le (lR _)) (Nat.le_of_succ_le m1) _ _ _ _ _ _ _ _ _ _ H (HS.pk 4 [1, 2, 0, 3] Z))))))⟩)
       exact ⟨Z, Z, Z, Z, Z, Z, Z, tv⟩
      rcases iE H with ⟨c114, H⟩ | ⟨c114, H⟩
      ·
       refine rG (pS 3 Z (GO.ix Z Z Z underlying43 sz2 ((Aq.own (j := 2) Z) _ HS).2.2.1 c105.1 c105.2 Z (GO.Fq (T := (Bq .i64)) (n := (w64 (a1.tdiv (([6, 2, 1, 1] : List Int).getD x24.toNat 0))).toNat) (o := 0) HS (Aq.own (j := 2) Z) Z Z (getD_some (d := 0) (ltN c105)) Z Z na2 Z (GO.ixP 1 Z Z Z c114 underlying218 sz2 Z Z (GO.C8 (j := 1) (vs := [I (c1.getD ((w64 (a1.tdiv (([6, 2, 1, 1] : List Int).getD x24.toNat 0))).toNat) 0)]) ([I d1, I (c1.getD ((w64 (a1.tdiv (([6, 2, 1, 1] : List Int).getD x24.toNat 0))).toNat) 0), I g1, I f1]) HS Z Z Z Z Z (htN na2 Z) Z Z Z fun wd115 HS => nL ?_)))))
       obtain ⟨t116, h117, H⟩ := bI H
       refine rG (pS 4 Z ?_)
       replace HS := HS.pk 4 [2, 0, 1, 3] Z
       refine fN Z func204 Rk.1 Rk.2 Z Z (Df.calls HS  h117) (fun _ wd120 ⟨A118, c119, h121, HS⟩ => ⟨_, h121, (aS Z (nL (rN 3 Z (G.weak ?_ (i1 k1 (Nat.lt_succ_of_le (lR _)) (Nat.le_of_succ_le m1) _ _ _ _ _ _ _ _ _ _ H (HS.pk 4 [1, 2, 0, 3] Z))))))⟩)
       exact ⟨Z, Z, Z, Z, Z, Z, Z, tv⟩
      rcases iE H with ⟨c122, H⟩ | ⟨c122, H⟩
      ·
       refine rG (pS 3 Z (GO.ix Z Z Z underlying43 sz2 ((Aq.own (j := 2) Z) _ HS).2.2.1 c105.1 c105.2 Z (GO.Fq (T := (Bq .i64)) (n := (w64 (a1.tdiv (([6, 2, 1, 1] : List Int).getD x24.toNat 0))).toNat) (o := 0) HS (Aq.own (j := 2) Z) Z Z (getD_some (d := 0) (ltN c105)) Z Z na2 Z (GO.ixP 2 Z Z Z c122 underlying218 sz2 Z Z (GO.C8 (j := 1) (vs := [I (c1.getD ((w64 (a1.tdiv (([6, 2, 1, 1] : List Int).getD x24.toNat 0))).toNat) 0)]) ([I d1, I e1, I (c1.getD ((w64 (a1.tdiv (([6, 2, 1, 1] : List Int).getD x24.toNat 0))).toNat) 0), I f1]) HS Z Z Z Z Z (htN na2 Z) Z Z Z fun wd123 HS => nL ?_)))))
       obtain ⟨t124, h125, H⟩ := bI H
       refine rG (pS 4 Z ?_)
       replace HS := HS.pk 4 [2, 0, 1, 3] Z
       refine fN Z func204 Rk.1 Rk.2 Z Z (Df.calls HS  h125) (fun _ wd128 ⟨A126, c127, h129, HS⟩ => ⟨_, h129, (aS Z (nL (rN 3 Z (G.weak ?_ (i1 k1 (Nat.lt_succ_of_le (lR _)) (Nat.le_of_succ_le m1) _ _ _ _ _ _ _ _ _ _ H (HS.pk 4 [1, 2, 0, 3] Z))))))⟩)
       exact ⟨Z, Z, Z, Z, Z, Z, Z, tv⟩
      rcases iE H with ⟨c130, H⟩ | ⟨c130, H⟩
      ·
       refine rG (pS 3 Z (GO.ix Z Z Z underlying43 sz2 ((Aq.own (j := 2) Z) _ HS).2.2.1 c105.1 c105.2 Z (GO.Fq (T := (Bq .i64)) (n := (w64 (a1.tdiv (([6, 2, 1, 1] : List Int).getD x24.toNat 0))).toNat) (o := 0) HS (Aq.own (j := 2) Z) Z Z (getD_some (d := 0) (ltN c105)) Z Z na2 Z (GO.ixP 3 Z Z Z c130 underlying218 sz2 Z Z (GO.C8 (j := 1) (vs := [I (c1.getD ((w64 (a1.tdiv (([6, 2, 1, 1] : List Int).getD x24.toNat 0))).toNat) 0)]) ([I d1, I e1, I g1, I (c1.getD ((w64 (a1.tdiv (([6, 2, 1, 1] : List Int).getD x24.toNat 0))).toNat) 0)]) HS Z Z Z Z Z (htN na2 Z) Z Z Z fun wd131 HS => nL ?_)))))
       obtain ⟨t132, h133, H⟩ := bI H
       refine rG (pS 4 Z ?_)
       replace HS := HS.pk 4 [2, 0, 1, 3] Z
       refine fN Z func204 Rk.1 Rk.2 Z Z (Df.calls HS  h133) (fun _ wd136 ⟨A134, c135, h137, HS⟩ => ⟨_, h137, (aS Z (nL (rN 3 Z (G.weak ?_ (i1 k1 (Nat.lt_succ_of_le (lR _)) (Nat.le_of_succ_le m1) _ _ _ _ _ _ _ _ _ _ H (HS.pk 4 [1, 2, 0, 3] Z))))))⟩)
       exact ⟨Z, Z, Z, Z, Z, Z, Z, tv⟩
      cases H
     refine nB Z (tF c102) (rN 2 Z (rG (GO.Bu (j := 1) ([I d1, I e1, I g1, I f1]) HS Z Z Z Z Yq Z (GO.C8 (j := 0) (vs := [I d1, I e1, I g1, I f1]) ([I d1, I e1, I g1, I f1]) HS Z Z Z Z Z (htA Yq) Z Z Z fun wd138 HS => nL ?_))))
     obtain ⟨rfl, rfl, rfl, rfl⟩ := Qb H
     exact rT _ func191 Z (Ki.Lr (j := 0) (vs := [I d1, I e1, I g1, I f1]) HS Z Z Z Yq) ⟨Z, (HS.pk 4 [] Z)⟩
  refine G.weak ?_ (p1 K (lR _) _ _ _ _ _ _ _ _ _ _ H (HS.pk 4 [3, 2, 1, 0] Z))
  exact ⟨Z, Z, Z, Z, Z, Z, Z, tv⟩
theorem Hy.calls {a1 c1 : Int} {face r1 : Int} (HS : St w0 w (L)) (H : Hy.f K a1 c1 face = some r1) :
    Calls prog 173 #[.agg [I a1, I c1].toArray, I face] w (Hy.post w0 L r1) := by
  unfold Hy.f at H
  refine cG func173 Z ?_
  refine sQ (rG (GO.box (cs := [I a1, I c1]) HS Z Z Z Z fun b1 wd2 HS => aS Z (nL (sQ ?_))))
  obtain ⟨t3, t4, t5, t6, h7, H⟩ := K6 H
  obtain ⟨c10, H⟩ := iN H
  refine rG (fL b1 1 Ng Z (lB 0 HS Z na2 Z (fN Z func191 Za.1 Za.2 Z Z (Iw.calls HS  h7) (fun _ wd8 ⟨h9, HS⟩ => ⟨_, h9, (mV Z (GO.fM ([t3, t4, t5, t6] : List Int) Z Z Z underlying218 underlying2 sz2 Z c10.1 c10.2 Z (aS Z (nL ?_))))⟩))))
  obtain rfl := sI H
  exact rT _ func173 Z Z ⟨Z, (HS.pk 1 [] Z)⟩
theorem Fa.calls {d1 a1 : Int} {e1 c1 r1 : Int} (HS : St w0 w (L)) (H : Fa.f K d1 a1 e1 c1 = some r1) :
    Calls prog 205 #[.agg [I d1, I a1, I e1, I c1].toArray] w (Fa.post w0 L r1) := by
  unfold Fa.f at H
  refine cG func205 Z ?_
  refine sQ (rG (GO.box (cs := [I d1, I a1, I e1, I c1]) HS Z Z Z Z fun b1 wd2 HS => aS Z (nL (rN 4 Z (rG (GO.F3 (el := 2) ([I 6, I 2, I 1, I 1]) HS Z Z (fun _ => by kernel_rfl) Z fun b3 wd4 HS => lS Z Z underlying43 Z (mV Z (nL (rN 2 Z ?_)))))))))
  replace HS := HS.J6 (T := (Bq .i64)) (j := 0) Z Bv (fun _ => ()) ([6, 2, 1, 1] : List Int) Z (O3 Z)
  refine G.Nb (t := 9) (m := ([6, 2, 1, 1] : List Int).length) (c' := ([6, 2, 1, 1] : List Int).length) Z Z Z ?_
  refine G.name (fun t1 p1 => ?_)
  have q1 : ∀ g1, g1 ≤ K → ∀ (h1 x19 : Int) (w : World), Fa.l1 K g1 d1 a1 e1 c1 h1 x19 = some r1 → St w0 w (Box b1 218 [I d1, I a1, I e1, I c1] :: Own (Bq .i64) 2 (some ⟨b3, 0, none⟩) (([6, 2, 1, 1] : List Int).length) (fun _ => ()) ([6, 2, 1, 1] : List Int) :: L) → G prog 205 41 [(1, .pointer (some ⟨b1, 0, none⟩)), (3, I h1), (9, .slice (some ⟨b3, 0, none⟩) ([6, 2, 1, 1] : List Int).length (([6, 2, 1, 1] : List Int).length)), (10, I 4), (11, I x19)] t1 w (Fa.post w0 L r1) := by
   intro g1
   induction g1 using Nat.strongRecOn with
   | _ g1 x1 =>
    intro y1 h1 x19 w H HS
    cases g1 with
    | zero => rw [Fa.l1] at H; cases H
    | succ n1 =>
     rw [Fa.l1] at H
     subst p1
     refine rN 3 Z ?_
     rcases iE H with ⟨c35, H⟩ | ⟨c35, H⟩
     ·
      refine yB Z (tT c35) (rN 4 Z ?_)
      obtain ⟨c36, H⟩ := iN H
      refine rG (mV Z (GO.ix Z Z Z underlying43 sz2 (fun _ => ⟨_, _, Z⟩) c36.1 c36.2 Z (GO.Fq (T := (Bq .i64)) (n := x19.toNat) (o := 0) HS (Aq.own (j := 1) Z) Z Z (getD_some (d := 0) (ltN c36)) Z Z na2 Z (pS 2 Z (nL (sQ ?_))))))
      obtain ⟨c37, H⟩ := iN H
      refine rG (mV Z (GO.ixV Z Z Z underlying218 sz2 c37.1 c37.2 Z (GO.oI (j := 0) (kd := .i64) ([d1, a1, e1, c1] : List Int) HS Z Z Z (ltN c37) na2 Z Z (aS Z (nL (rN 2 Z ?_))))))
      obtain ⟨c38, H⟩ := iN H
      refine rG (mV Z (GO.vR (m := (([d1, a1, e1, c1] : List Int).take x19.toNat).length) Z Z Z underlying218 sz2 c38 (rJ (leN c38)) Z (lS Z Z underlying43 Z (mV Z (nL (rN 2 Z ?_))))))
      refine G.name (fun u1 s1 => ?_)
      have v1 : ∀ f1, f1 ≤ n1 → ∀ (i1 x43 : Int) (w : World), Fa.l4 K f1 d1 a1 e1 c1 h1 x19 i1 x43 = some r1 → St w0 w (Box b1 218 [I d1, I a1, I e1, I c1] :: Own (Bq .i64) 2 (some ⟨b3, 0, none⟩) (([6, 2, 1, 1] : List Int).length) (fun _ => ()) ([6, 2, 1, 1] : List Int) :: L) → G prog 205 41 [(1, .pointer (some ⟨b1, 0, none⟩)), (3, I h1), (4, I x19), (5, I (([6, 2, 1, 1] : List Int).getD x19.toNat 0)), (6, I i1), (9, .slice (some ⟨b3, 0, none⟩) ([6, 2, 1, 1] : List Int).length (([6, 2, 1, 1] : List Int).length)), (10, I 4), (11, I x19), (20, .slice (some ⟨b1, 0, none⟩) (([d1, a1, e1, c1] : List Int).take x19.toNat).length 4), (21, I ((([d1, a1, e1, c1] : List Int).take x19.toNat).length : Int)), (22, I x43)] u1 w (Fa.post w0 L r1) := by
       intro f1
       induction f1 using Nat.strongRecOn with
       | _ f1 m1 =>
        intro o1 i1 x43 w H HS
        cases f1 with
        | zero => rw [Fa.l4] at H; cases H
        | succ k1 =>
         rw [Fa.l4] at H
         subst s1
         refine rN 3 Z ?_
         rcases iE H with ⟨c47, H⟩ | ⟨c47, H⟩
         ·
          refine yB Z (tT c47) (rN 4 Z ?_)
          obtain ⟨c48, H⟩ := iN H
          refine rG (GO.ix Z Z Z underlying43 sz2 (fun _ => ⟨_, _, Z⟩) c48.1 c48.2 Z (GO.Fq (T := (Bq .i64)) (n := x43.toNat) (o := 0) HS (Aq.take (Aq.box (j := 0) (fun _ => ()) ([d1, a1, e1, c1] : List Int) Z Z Z Z (fun _ _ _ _ _ => tv)) (leN c38)) Z Z (getD_some (d := 0) (ltN c48)) Z Z na2 Z (aS Z (nL (sQ (rG (pS 2 Z (GO.ixV Z Z Z underlying218 sz2 c37.1 c37.2 Z (GO.oI (j := 0) (kd := .i64) ([d1, a1, e1, c1] : List Int) HS Z Z Z (ltN c37) na2 Z Z (GO.lss Z Z Z Z (nL ?_)))))))))))
          rcases iE H with ⟨c49, H⟩ | ⟨c49, H⟩
          ·
           refine yB Z (tT c49) (rN 4 Z (G.weak ?_ (m1 k1 (Nat.lt_succ_of_le (lR _)) (Nat.le_of_succ_le o1) _ _ _ H HS)))
           exact ⟨Z, Z, Z, Z, Z, Z, Z, Z, Z, Z, Z, tv⟩
          refine nB Z (tF c49) (rN 4 Z (G.weak ?_ (m1 k1 (Nat.lt_succ_of_le (lR _)) (Nat.le_of_succ_le o1) _ _ _ H HS)))
          exact ⟨Z, Z, Z, Z, Z, Z, Z, Z, Z, Z, Z, tv⟩
         refine nB Z (tF c47) (rN 5 Z (G.weak ?_ (x1 k1 (by omega) (by omega) _ _ _ H HS)))
         exact ⟨Z, Z, Z, Z, Z, tv⟩
      refine G.weak ?_ (v1 n1 (lR _) _ _ _ H HS)
      exact ⟨Z, Z, Z, Z, Z, Z, Z, Z, Z, Z, Z, tv⟩
     refine nB Z (tF c35) (rN 3 Z ?_)
     obtain rfl := sI H
     exact rT _ func205 Z Z ⟨Z, (HS.pk 2 [] Z)⟩
  refine G.weak ?_ (q1 K (lR _) _ _ _ H (HS.pk 2 [1, 0] Z))
  exact ⟨Z, Z, Z, Z, Z, tv⟩
theorem Gx.calls {p r1 : Int} (HS : St w0 w (L)) (H : Gx.f K p = some r1) :
    Calls prog 192 #[I p] w (Gx.post w0 L r1) := by
  unfold Gx.f at H
  refine cG func192 Z ?_
  refine rN 3 Z (rG (GO.alloc HS Z eX Z Z fun b1 wd2 HS => nL (rN 2 Z ?_)))
  obtain ⟨t3, t4, t5, t6, h7, H⟩ := K6 H
  refine rG (mV Z (fN Z func191 Za.1 Za.2 Z Z (Iw.calls HS  h7) (fun _ wd8 ⟨h9, HS⟩ => ⟨_, h9, (mV Z (nL (rN 2 Z ?_)))⟩)))
  refine G.name (fun k1 m1 => ?_)
  have n1 : ∀ f1, f1 ≤ K → ∀ (x18 d1 : Int) (a1 c1 e1 : Int) (w : World), Gx.l1 K f1 t3 t4 t5 t6 x18 d1 a1 c1 e1 = some r1 → St w0 w (Box b1 218 [I d1, I a1, I c1, I e1] :: L) → G prog 192 18 [(3, .pointer (some ⟨b1, 0, none⟩)), (7, .agg [I t3, I t4, I t5, I t6].toArray), (8, I x18)] k1 w (Gx.post w0 L r1) := by
   intro f1
   induction f1 using Nat.strongRecOn with
   | _ f1 h1 =>
    intro i1 x18 d1 a1 c1 e1 w H HS
    cases f1 with
    | zero => rw [Gx.l1] at H; cases H
    | succ g1 =>
     rw [Gx.l1] at H
     subst m1
     refine rN 3 Z ?_
     rcases iE H with ⟨c51, H⟩ | ⟨c51, H⟩
     ·
      refine yB Z (tT c51) (rN 4 Z ?_)
      obtain ⟨c52, H⟩ := iN H
      refine rG (mV Z (GO.fM ([t3, t4, t5, t6] : List Int) Z Z Z underlying218 underlying2 sz2 Z c52.1 c52.2 Z (pS 2 Z (nL ?_))))
      rcases iE H with ⟨c53, H⟩ | ⟨c53, H⟩
      ·
       refine rG (pS 2 Z (GO.ixP 0 Z Z Z c53 underlying218 sz2 Z Z (GO.C8 (j := 0) (vs := [I x18]) ([I x18, I a1, I c1, I e1]) HS Z Z Z Z Z (htN na2 Z) Z Z Z fun wd54 HS => nL (rN 3 Z (G.weak ?_ (h1 g1 (Nat.lt_succ_of_le (lR _)) (Nat.le_of_succ_le i1) _ _ _ _ _ _ H HS))))))
       exact ⟨Z, Z, Z, tv⟩
      rcases iE H with ⟨c55, H⟩ | ⟨c55, H⟩
      ·
       refine rG (pS 2 Z (GO.ixP 1 Z Z Z c55 underlying218 sz2 Z Z (GO.C8 (j := 0) (vs := [I x18]) ([I d1, I x18, I c1, I e1]) HS Z Z Z Z Z (htN na2 Z) Z Z Z fun wd56 HS => nL (rN 3 Z (G.weak ?_ (h1 g1 (Nat.lt_succ_of_le (lR _)) (Nat.le_of_succ_le i1) _ _ _ _ _ _ H HS))))))
       exact ⟨Z, Z, Z, tv⟩
      rcases iE H with ⟨c57, H⟩ | ⟨c57, H⟩
      ·
       refine rG (pS 2 Z (GO.ixP 2 Z Z Z c57 underlying218 sz2 Z Z (GO.C8 (j := 0) (vs := [I x18]) ([I d1, I a1, I x18, I e1]) HS Z Z Z Z Z (htN na2 Z) Z Z Z fun wd58 HS => nL (rN 3 Z (G.weak ?_ (h1 g1 (Nat.lt_succ_of_le (lR _)) (Nat.le_of_succ_le i1) _ _ _ _ _ _ H HS))))))
       exact ⟨Z, Z, Z, tv⟩
      rcases iE H with ⟨c59, H⟩ | ⟨c59, H⟩
      ·
       refine rG (pS 2 Z (GO.ixP 3 Z Z Z c59 underlying218 sz2 Z Z (GO.C8 (j := 0) (vs := [I x18]) ([I d1, I a1, I c1, I x18]) HS Z Z Z Z Z (htN na2 Z) Z Z Z fun wd60 HS => nL (rN 3 Z (G.weak ?_ (h1 g1 (Nat.lt_succ_of_le (lR _)) (Nat.le_of_succ_le i1) _ _ _ _ _ _ H HS))))))
       exact ⟨Z, Z, Z, tv⟩
      cases H
     refine nB Z (tF c51) (rN 2 Z ?_)
     obtain ⟨t61, h62, H⟩ := bI H
     refine rG (GO.Bu (j := 0) ([I d1, I a1, I c1, I e1]) HS Z Z Z Z Yq Z (fN Z func205 lZ.1 lZ.2 Z Z (Fa.calls HS  h62) (fun _ wd63 ⟨h64, HS⟩ => ⟨_, h64, (aS Z (nL ?_))⟩)))
     obtain rfl := sI H
     exact rT _ func192 Z Z ⟨Z, (HS.pk 1 [] Z)⟩
  refine G.weak ?_ (n1 K (lR _) _ _ _ _ _ _ H HS)
  exact ⟨Z, Z, Z, tv⟩
theorem Gn.calls {a1 c1 : Int} {tet r1 r2 : Int} (HS : St w0 w (L)) (H : Gn.f K a1 c1 tet = some (r1, r2)) :
    Calls prog 174 #[.agg [I a1, I c1].toArray, I tet] w (Gn.post w0 L r1 r2) := by
  unfold Gn.f at H
  refine cG func174 Z ?_
  refine sQ (rG (GO.box (cs := [I a1, I c1]) HS Z Z Z Z fun b1 wd2 HS => GO.alloc HS Z Yt Z Z fun b3 wd4 HS => nL (sQ ?_)))
  obtain ⟨t5, h6, H⟩ := bI H
  refine rG (mV Z (fL b1 1 Ng Z (lB 1 HS Z na2 Z (fN Z func192 jY.1 jY.2 Z Z (Gx.calls HS  h6) (fun _ wd7 ⟨h8, HS⟩ => ⟨_, h8, (GO.I9 (.agg [I tet, I t5].toArray) Z Z (fun _ => by kernel_rfl) Z (GO.C8 (j := 0) (vs := [I tet, I t5]) ([I tet, I t5]) HS Z Z Z Z Z (htA Ma) Z Z Z fun wd9 HS => nL ?_))⟩)))))
  obtain ⟨rfl, rfl⟩ := Mf H
  exact rT _ func174 Z (Ki.Lr (j := 0) (vs := [I tet, I t5]) HS Z Z Z Ma) ⟨Z, (HS.pk 2 [] Z)⟩
theorem Dv.calls {a1 : List (List Bt)} {tet f : Int} {A_a : Option Addr} {c_a : Nat} {y_a : Nat → (Ty.slice 157 Bc).Lay} {r1 : Bool} (HS : St w0 w (L)) (r_a : Aq w0 L (Ty.slice 157 Bc) A_a c_a y_a a1) (H : Dv.f K a1 tet f = some r1) :
    Calls prog 141 #[.agg [.slice A_a a1.length c_a].toArray, I tet, I f] w (Dv.post w0 L r1) := by
  unfold Dv.f at H
  refine cG func141 Z ?_
  refine sQ (rG (GO.box (cs := [.slice A_a a1.length c_a]) HS Z Z Z Z fun b1 wd2 HS => aS Z (nL (sQ ?_))))
  obtain ⟨c3, H⟩ := iN H
  obtain ⟨c4, H⟩ := iN H
  obtain ⟨e5, h6, H⟩ := Cn H
  refine rG (fL b1 0 I8 Z (lB 0 HS Z Nt Z (mV Z (GO.ix Z Z Z underlying53 Ou ((rD 1 r_a) _ HS).2.2.1 c3.1 c3.2 Z (GO.Fq (T := (Ty.slice 157 Bc)) (n := tet.toNat) (o := 0) HS (rD 1 r_a) Z Z (getD_some (d := []) (ltN c3)) Z Z Ox Z (mV Z (GO.ix Z Z Z underlying150 Pm ((Aq.elem (rD 1 r_a) c3.1 c3.2) _ HS).2.2.1 c4.1 c4.2 Z (GO.Ja (T := Bc) (n := f.toNat) HS (Aq.elem (rD 1 r_a) c3.1 c3.2) Z Z (getD_eq (ltN c4) h6) Ma Z (GO.alloc HS Z Yt Z Z fun b7 wd8 HS => GO.C8 (j := 0) (vs := [I e5.Tet, I e5.Perm]) ([I e5.Tet, I e5.Perm]) HS Z Z Z Z Z (htA Ma) Z Z Z fun wd9 HS => nL (rN 2 Z (rG (fL b7 0 J2 Z ?_))))))))))))
  refine lB 0 HS Z na2 Z (GO.eql Z Z Z Z (nL ?_))
  rcases iE H with ⟨c10, H⟩ | ⟨c10, H⟩
  ·
   refine yB Z (tT c10) (sQ (rG (fL b7 1 Ng Z (lB 0 HS Z na2 Z (pS 2 Z (nL ?_))))))
   obtain rfl := sI H
   exact rT _ func141 Z Z ⟨Z, (HS.pk 2 [] Z)⟩
  refine nB Z (tF c10) (rN 3 Z ?_)
  obtain ⟨t20, h21, H⟩ := bI H
  rcases iE H with ⟨c24, H⟩ | ⟨c24, H⟩
  ·
   obtain ⟨t25, h26, H⟩ := bI H
   refine rG (fL b1 0 I8 Z (lB 1 HS Z Nt Z (fL b7 0 J2 Z (lB 0 HS Z na2 Z (fN Z func172 Zx.1 Zx.2 Z Z (Ei.calls HS (rD 2 r_a) h21) (fun _ wd22 ⟨h23, HS⟩ => ⟨_, h23, (pS 2 Z (kN 29 Z (congrArg Bool.not c24) (oN Z (fL b7 1 Ng Z (bK (oN Z (lB 0 HS Z na2 Z (bK (oN Z ?_)))))))))⟩))))))
   refine fN Z func152 Zh.1 Zh.2 Z Z (I4.calls HS  h26) (fun _ wd27 ⟨h28, HS⟩ => ⟨_, h28, (bK (oN Z (GO.not Z Z Z (bK (GO.Js Z Z Z Z Z (nL ?_))))))⟩)
   rcases iE H with ⟨c29, H⟩ | ⟨c29, H⟩
   ·
    refine nB Z (congrArg Bool.not c29) (rN 2 Z ?_)
    obtain ⟨t30, h31, H⟩ := bI H
    refine rG (GO.Bu (j := 0) ([I e5.Tet, I e5.Perm]) HS Z Z Z Z Ma Z (mV Z (fN Z func173 oO.1 oO.2 Z Z (Hy.calls HS  h31) (fun _ wd32 ⟨h33, HS⟩ => ⟨_, h33, (aS Z (nL (sQ ?_)))⟩))))
    obtain ⟨c34, H⟩ := iN H
    obtain ⟨c35, H⟩ := iN H
    obtain ⟨e36, h37, H⟩ := Cn H
    obtain ⟨t38, t39, h40, H⟩ := Dk H
    rcases iE H with ⟨c43, H⟩ | ⟨c43, H⟩
    ·
     rcases iE H with ⟨c44, H⟩ | ⟨c44, H⟩
     ·
      refine G.Oi mixed (fun w => St w0 w (Box b7 157 [I e5.Tet, I e5.Perm] :: Box b1 55 [.slice A_a a1.length c_a] :: L)) [1, 3, 5, 8, 9, 15] [0, 2, 6, 10, 1, 3, 4, 5, 7, 8, 9, 11, 12, 13, 14, 16, 15, 17, 18, 19, 20, 21, 22, 23, 24] [] (by kernel_rfl) (by kernel_rfl) HS.drew ?_
      replace HS := HS.drew
      refine qL Z Z (fun _ _ g => fL b1 0 I8 Z g) Z (qL Z Z (fun _ _ g => fL b7 0 J2 Z g) Z (GX.ps 2 Z (GX.ls Z Z Z HS (fun _ HS _ g => lB 1 HS Z Nt Z g) Z (GX.ls Z Z Z HS (fun _ HS _ g => lB 0 HS Z na2 Z g) Z (qL Z Z (fun _ _ g => GO.ix Z Z Z underlying53 Ou ((rD 2 r_a) _ HS).2.2.1 c34.1 c34.2 Z g) Z (GX.ls Z Z Z HS (fun _ HS _ g => GO.Fq (T := (Ty.slice 157 Bc)) (n := e5.Tet.toNat) (o := 0) HS (rD 2 r_a) Z Z (getD_some (d := []) (ltN c34)) Z Z Ox Z g) Z (qL Z Z (fun _ _ g => GO.ix Z Z Z underlying150 Pm ((Aq.elem (rD 2 r_a) c34.1 c34.2) _ HS).2.2.1 c35.1 c35.2 Z g) Z (GX.ls Z Z Z HS (fun _ HS _ g => GO.Ja (T := Bc) (n := t30.toNat) HS (Aq.elem (rD 2 r_a) c34.1 c34.2) Z Z (getD_eq (ltN c35) h37) Ma Z g) Z (GX.ls Z Z Z HS (fun _ HS _ g => GO.Bu (j := 0) ([I e5.Tet, I e5.Perm]) HS Z Z Z Z Ma Z g) Z (GX.l2 Z (fN Z func174 Ub.1 Ub.2 Z Z (Gn.calls HS  h40) (fun _ wd41 ⟨h42, HS⟩ => ⟨_, h42, (GX.fin HS (qL Z Z (fun _ _ g => GO.wM Z Z Z Yu (fun _ => Yg) Z g) Z (qL Z Z (fun _ _ g => mV Z (kN 51 Z (tT c43) g)) Z ?_)))⟩))))))))))))
      refine qL Z Z (fun _ _ g => oN Z (fL b7 0 J2 Z (bK g))) Z (qL Z Z (fun _ _ g => oN Z (mV Z (bK g))) Z (GX.ls Z Z Z HS (fun _ HS _ g => oN Z (lB 0 HS Z na2 Z (bK g))) Z (qL Z Z (fun _ _ g => oN Z (GO.neq Z Z Z Z (bK g))) Z (qL Z Z (fun _ _ g => oN Z (mV Z (bK (kN 56 Z (nT c44) g)))) Z (qL Z Z (fun _ _ g => oN Z (mV Z (bK g))) Z (qL Z Z (fun _ _ g => oN Z (mV Z (bK g))) Z (qL Z Z (fun _ _ g => oN Z (GO.neq Z Z Z Z (bK g))) Z (qL Z Z (fun _ _ g => oN Z (GO.Js Z Z Z Z Z (bK g))) Z (GX.ps 2 Z (GX.nil ?_))))))))))
      obtain rfl := sI H
      exact rT _ func141 Z Z ⟨Z, (HS.pk 2 [] Z)⟩
     refine G.Oi mixed (fun w => St w0 w (Box b7 157 [I e5.Tet, I e5.Perm] :: Box b1 55 [.slice A_a a1.length c_a] :: L)) [1, 3, 5, 8, 9, 15] [0, 2, 6, 10, 1, 3, 4, 5, 7, 8, 9, 11, 12, 13, 14, 16, 15, 17, 18, 19, 20, 21, 22, 23, 24] [] (by kernel_rfl) (by kernel_rfl) HS.drew ?_
     replace HS := HS.drew
     refine qL Z Z (fun _ _ g => fL b1 0 I8 Z g) Z (qL Z Z (fun _ _ g => fL b7 0 J2 Z g) Z (GX.ps 2 Z (GX.ls Z Z Z HS (fun _ HS _ g => lB 1 HS Z Nt Z g) Z (GX.ls Z Z Z HS (fun _ HS _ g => lB 0 HS Z na2 Z g) Z (qL Z Z (fun _ _ g => GO.ix Z Z Z underlying53 Ou ((rD 2 r_a) _ HS).2.2.1 c34.1 c34.2 Z g) Z (GX.ls Z Z Z HS (fun _ HS _ g => GO.Fq (T := (Ty.slice 157 Bc)) (n := e5.Tet.toNat) (o := 0) HS (rD 2 r_a) Z Z (getD_some (d := []) (ltN c34)) Z Z Ox Z g) Z (qL Z Z (fun _ _ g => GO.ix Z Z Z underlying150 Pm ((Aq.elem (rD 2 r_a) c34.1 c34.2) _ HS).2.2.1 c35.1 c35.2 Z g) Z (GX.ls Z Z Z HS (fun _ HS _ g => GO.Ja (T := Bc) (n := t30.toNat) HS (Aq.elem (rD 2 r_a) c34.1 c34.2) Z Z (getD_eq (ltN c35) h37) Ma Z g) Z (GX.ls Z Z Z HS (fun _ HS _ g => GO.Bu (j := 0) ([I e5.Tet, I e5.Perm]) HS Z Z Z Z Ma Z g) Z (GX.l2 Z (fN Z func174 Ub.1 Ub.2 Z Z (Gn.calls HS  h40) (fun _ wd41 ⟨h42, HS⟩ => ⟨_, h42, (GX.fin HS (qL Z Z (fun _ _ g => GO.wM Z Z Z Yu (fun _ => Yg) Z g) Z (qL Z Z (fun _ _ g => mV Z (kN 51 Z (tT c43) g)) Z ?_)))⟩))))))))))))
     refine qL Z Z (fun _ _ g => oN Z (fL b7 0 J2 Z (bK g))) Z (qL Z Z (fun _ _ g => oN Z (mV Z (bK g))) Z (GX.ls Z Z Z HS (fun _ HS _ g => oN Z (lB 0 HS Z na2 Z (bK g))) Z (qL Z Z (fun _ _ g => oN Z (GO.neq Z Z Z Z (bK g))) Z (qL Z Z (fun _ _ g => oN Z (mV Z (bK (kN 56 Z (nF c44) g)))) Z (qL Z Z (fun _ _ g => oF Z g) Z (qL Z Z (fun _ _ g => oF Z g) Z (qL Z Z (fun _ _ g => oF Z g) Z (qL Z Z (fun _ _ g => oN Z (GO.Ip Z Z Z Z Z (bK g))) Z (GX.ps 2 Z (GX.nil ?_))))))))))
     obtain rfl := sI H
     exact rT _ func141 Z Z ⟨Z, (HS.pk 2 [] Z)⟩
    refine G.Oi mixed (fun w => St w0 w (Box b7 157 [I e5.Tet, I e5.Perm] :: Box b1 55 [.slice A_a a1.length c_a] :: L)) [1, 3, 5, 8, 9, 15] [0, 2, 6, 10, 1, 3, 4, 5, 7, 8, 9, 11, 12, 13, 14, 16, 15, 17, 18, 19, 20, 21, 22, 23, 24] [] (by kernel_rfl) (by kernel_rfl) HS.drew ?_
    replace HS := HS.drew
    refine qL Z Z (fun _ _ g => fL b1 0 I8 Z g) Z (qL Z Z (fun _ _ g => fL b7 0 J2 Z g) Z (GX.ps 2 Z (GX.ls Z Z Z HS (fun _ HS _ g => lB 1 HS Z Nt Z g) Z (GX.ls Z Z Z HS (fun _ HS _ g => lB 0 HS Z na2 Z g) Z (qL Z Z (fun _ _ g => GO.ix Z Z Z underlying53 Ou ((rD 2 r_a) _ HS).2.2.1 c34.1 c34.2 Z g) Z (GX.ls Z Z Z HS (fun _ HS _ g => GO.Fq (T := (Ty.slice 157 Bc)) (n := e5.Tet.toNat) (o := 0) HS (rD 2 r_a) Z Z (getD_some (d := []) (ltN c34)) Z Z Ox Z g) Z (qL Z Z (fun _ _ g => GO.ix Z Z Z underlying150 Pm ((Aq.elem (rD 2 r_a) c34.1 c34.2) _ HS).2.2.1 c35.1 c35.2 Z g) Z (GX.ls Z Z Z HS (fun _ HS _ g => GO.Ja (T := Bc) (n := t30.toNat) HS (Aq.elem (rD 2 r_a) c34.1 c34.2) Z Z (getD_eq (ltN c35) h37) Ma Z g) Z (GX.ls Z Z Z HS (fun _ HS _ g => GO.Bu (j := 0) ([I e5.Tet, I e5.Perm]) HS Z Z Z Z Ma Z g) Z (GX.l2 Z (fN Z func174 Ub.1 Ub.2 Z Z (Gn.calls HS  h40) (fun _ wd41 ⟨h42, HS⟩ => ⟨_, h42, (GX.fin HS (qL Z Z (fun _ _ g => GO.wM Z Z Z Yu (fun _ => Yg) Z g) Z (qL Z Z (fun _ _ g => mV Z (kN 51 Z (tF c43) g)) Z ?_)))⟩))))))))))))
    refine qL Z Z (fun _ _ g => oF Z g) Z (qL Z Z (fun _ _ g => oF Z g) Z (GX.ls Z Z Z HS (fun _ HS _ g => oF Z g) Z (qL Z Z (fun _ _ g => oF Z g) Z (qL Z Z (fun _ _ g => oF Z g) Z (qL Z Z (fun _ _ g => GO.M7 Z Z Z Z Z Z g) Z (qL Z Z (fun _ _ g => GO.M7 Z Z Z Z Z Z g) Z (qL Z Z (fun _ _ g => GO.M7 Z Z Z Z Z Z g) Z (qL Z Z (fun _ _ g => oF Z g) Z (GX.ps 2 Z (GX.nil ?_))))))))))
    obtain rfl := sI H
    exact rT _ func141 Z Z ⟨Z, (HS.pk 2 [] Z)⟩
   refine yB Z (congrArg Bool.not (Ca c29)) (rN 2 Z ?_)
   obtain rfl := sI H
   exact rT _ func141 Z Z ⟨Z, (HS.pk 2 [] Z)⟩
  refine rG (fL b1 0 I8 Z (lB 1 HS Z Nt Z (fL b7 0 J2 Z (lB 0 HS Z na2 Z (fN Z func172 Zx.1 Zx.2 Z Z (Ei.calls HS (rD 2 r_a) h21) (fun _ wd22 ⟨h23, HS⟩ => ⟨_, h23, (pS 2 Z (kN 29 Z (congrArg Bool.not (Ca c24)) (oF Z (oF Z (oF Z (oF Z (GO.Ip Z Z Z Z Z (nL (rN 3 Z ?_)))))))))⟩))))))
  obtain rfl := sI H
  exact rT _ func141 Z Z ⟨Z, (HS.pk 2 [] Z)⟩
theorem Bp.calls {a1 : List (List Bt)} {A_a : Option Addr} {c_a : Nat} {y_a : Nat → (Ty.slice 157 Bc).Lay} {r1 : Bool} (HS : St w0 w (L)) (r_a : Aq w0 L (Ty.slice 157 Bc) A_a c_a y_a a1) (H : Bp.f K a1 = some r1) :
    Calls prog 99 #[.agg [.slice A_a a1.length c_a].toArray] w (Bp.post w0 L r1) := by
  unfold Bp.f at H
  refine cG func99 Z ?_
  refine sQ (rG (GO.box (cs := [.slice A_a a1.length c_a]) HS Z Z Z Z fun b1 wd2 HS => aS Z (nL (rN 2 Z ?_))))
  rcases iE H with ⟨c8, H⟩ | ⟨c8, H⟩
  ·
   refine rG (fL b1 0 I8 Z (lB 0 HS Z Nt Z (lS Z Z underlying53 Z (pS 2 Z (kN 9 Z (tT c8) (oF Z (oF Z (oF Z (GO.Ip Z Z Z Z Z (nL (rN 3 Z ?_)))))))))))
   obtain rfl := sI H
   exact rT _ func99 Z Z ⟨Z, (HS.pk 1 [] Z)⟩
  obtain ⟨t9, h10, H⟩ := bI H
  refine rG (fL b1 0 I8 Z (lB 0 HS Z Nt Z (lS Z Z underlying53 Z (pS 2 Z (kN 9 Z (tF c8) (oN Z (fL b1 0 I8 Z (bK (oN Z (lB 0 HS Z Nt Z (bK (oN Z (fN Z func138 lJ.1 lJ.2 Z Z (Cf.calls HS (rD 1 r_a) h10) (fun _ wd11 ⟨h12, HS⟩ => ⟨_, h12, (bK ?_)⟩))))))))))))))
  refine GO.Js Z Z Z Z Z (nL ?_)
  rcases iE H with ⟨c13, H⟩ | ⟨c13, H⟩
  ·
   refine yB Z c13 (rN 2 Z ?_)
   obtain rfl := sI H
   exact rT _ func99 Z Z ⟨Z, (HS.pk 1 [] Z)⟩
  refine nB Z (Ca c13) (rN 3 Z ?_)
  obtain ⟨t14, h15, H⟩ := bI H
  refine rG (fL b1 0 I8 Z (lB 0 HS Z Nt Z (fN Z func140 aA.1 aA.2 Z Z (F5.calls HS (rD 1 r_a) h15) (fun _ wd16 ⟨h17, HS⟩ => ⟨_, h17, (mV Z (nL (rN 2 Z ?_)))⟩))))
  refine G.name (fun k1 o1 => ?_)
  have q1 : ∀ d1, d1 ≤ K → ∀ (x37 : Int) (w : World), Bp.l1 K d1 a1 t14 x37 = some r1 → St w0 w (Box b1 55 [.slice A_a a1.length c_a] :: L) → G prog 99 30 [(1, .pointer (some ⟨b1, 0, none⟩)), (16, I t14), (17, I x37)] k1 w (Bp.post w0 L r1) := by
   intro d1
   induction d1 using Nat.strongRecOn with
   | _ d1 m1 =>
    intro s1 x37 w H HS
    cases d1 with
    | zero => rw [Bp.l1] at H; cases H
    | succ f1 =>
     rw [Bp.l1] at H
     subst o1
     refine rN 3 Z ?_
     rcases iE H with ⟨c57, H⟩ | ⟨c57, H⟩
     ·
      refine yB Z (tT c57) (rN 9 Z ?_)
      refine G.name (fun p1 g1 => ?_)
      have n1 : ∀ c1, c1 ≤ f1 → ∀ (x63 : Int) (w : World), Bp.l4 K c1 a1 t14 x37 x63 = some r1 → St w0 w (Box b1 55 [.slice A_a a1.length c_a] :: L) → G prog 99 30 [(1, .pointer (some ⟨b1, 0, none⟩)), (3, I x37), (16, I t14), (17, I x37), (20, I x63)] p1 w (Bp.post w0 L r1) := by
       intro c1
       induction c1 using Nat.strongRecOn with
       | _ c1 i1 =>
        intro h1 x63 w H HS
        cases c1 with
        | zero => rw [Bp.l4] at H; cases H
        | succ e1 =>
         rw [Bp.l4] at H
         subst g1
         refine rN 3 Z ?_
         rcases iE H with ⟨c70, H⟩ | ⟨c70, H⟩
         ·
          refine yB Z (tT c70) (rN 6 Z ?_)
          obtain ⟨t71, h72, H⟩ := bI H
          refine rG (GO.Bu (j := 0) ([.slice A_a a1.length c_a]) HS Z Z Z Z Oc Z (pS 2 Z (fN Z func141 jD.1 jD.2 Z Z (Dv.calls HS (rD 1 r_a) h72) (fun _ wd73 ⟨h74, HS⟩ => ⟨_, h74, (GO.not Z Z Z (nL ?_))⟩))))
          rcases iE H with ⟨c75, H⟩ | ⟨c75, H⟩
          ·
           refine nB Z (congrArg Bool.not c75) (rN 4 Z (G.weak ?_ (i1 e1 (Nat.lt_succ_of_le (lR _)) (Nat.le_of_succ_le h1) _ _ H HS)))
           exact ⟨Z, Z, Z, Z, Z, tv⟩
          refine yB Z (congrArg Bool.not (Ca c75)) (rN 2 Z ?_)
          obtain rfl := sI H
          exact rT _ func99 Z Z ⟨Z, (HS.pk 1 [] Z)⟩
         refine nB Z (tF c70) (rN 4 Z (G.weak ?_ (m1 e1 (by omega) (by omega) _ _ H HS)))
         exact ⟨Z, Z, Z, tv⟩
      refine G.weak ?_ (n1 f1 (lR _) _ _ H HS)
      exact ⟨Z, Z, Z, Z, Z, tv⟩
     refine nB Z (tF c57) (rN 3 Z ?_)
     obtain rfl := sI H
     exact rT _ func99 Z Z ⟨Z, (HS.pk 1 [] Z)⟩
  refine G.weak ?_ (q1 K (lR _) _ _ H HS)
  exact ⟨Z, Z, Z, tv⟩
theorem Em.calls {list : List Al} {A_a : Option Addr} {c_a : Nat} {r1 : Int} (HS : St w0 w (L)) (r_a : Aq w0 L Bb A_a c_a (fun _ => ()) list) (H : Em.f list = some r1) :
    Calls prog 175 #[.slice A_a list.length c_a] w (Em.post w0 L r1) := by
  unfold Em.f at H
  refine cG func175 Z ?_
  refine rN 3 Z (rG (mV Z (lS Z Z underlying56 Z (aS Z (nL ?_)))))
  obtain rfl := sI H
  exact rT _ func175 Z Z ⟨Z, HS⟩
theorem Fh.calls {c_A c_B : Int} {c_C c_D a1 : Int} {r1 : Bool} (HS : St w0 w (L)) (H : Fh.f c_A c_B c_C c_D a1 = some r1) :
    Calls prog 177 #[.agg [I c_A, I c_B, I c_C, I c_D, I a1].toArray] w (Fh.post w0 L r1) := by
  unfold Fh.f at H
  refine cG func177 Z ?_
  refine sQ (rG (GO.box (cs := [I c_A, I c_B, I c_C, I c_D, I a1]) HS Z Z Z Z fun b1 wd2 HS => aS Z (nL (sQ ?_))))
  rcases iE H with ⟨c3, H⟩ | ⟨c3, H⟩
  ·
   refine rG (fL b1 4 Lg Z (lB 0 HS Z na2 Z (pS 2 Z (kN 6 Z (nT c3) (oF Z (oF Z (oF Z (pS 2 Z (nL ?_)))))))))
   obtain rfl := sI H
   exact rT _ func177 Z Z ⟨Z, (HS.pk 1 [] Z)⟩
  refine rG (fL b1 4 Lg Z (lB 0 HS Z na2 Z (pS 2 Z (kN 6 Z (nF c3) (oN Z (fL b1 4 Lg Z (bK (oN Z (lB 0 HS Z na2 Z (bK (oN Z (GO.neq Z Z Z Z (bK (pS 2 Z ?_))))))))))))))
  refine nL ?_
  obtain rfl := sI H
  exact rT _ func177 Z Z ⟨Z, (HS.pk 1 [] Z)⟩
theorem Ba.calls {s : List Al} {A_a : Option Addr} {c_a : Nat} {r1 : Int} (HS : St w0 w (L)) (r_a : Aq w0 L Bb A_a c_a (fun _ => ()) s) (H : Ba.f K s = some r1) :
    Calls prog 193 #[.slice A_a s.length c_a, .func (.func 177) #[] #[]] w (Ba.post w0 L r1) := by
  unfold Ba.f at H
  refine cG func193 Z ?_
  refine rN 4 Z (rG (mV Z (lS Z Z underlying56 Z (mV Z (nL (rN 2 Z ?_))))))
  refine G.name (fun b1 e1 => ?_)
  have f1 : ∀ a1, a1 ≤ K → ∀ (x10 : Int) (w : World), Ba.l1 K a1 s x10 = some r1 → St w0 w (L) → G prog 193 19 [(0, .slice A_a s.length c_a), (1, .func (.func 177) #[] #[]), (7, I (s.length : Int)), (8, I x10)] b1 w (Ba.post w0 L r1) := by
   intro a1
   induction a1 using Nat.strongRecOn with
   | _ a1 d1 =>
    intro g1 x10 w H HS
    cases a1 with
    | zero => rw [Ba.l1] at H; cases H
    | succ c1 =>
     rw [Ba.l1] at H
     subst e1
     refine rN 3 Z ?_
     rcases iE H with ⟨c20, H⟩ | ⟨c20, H⟩
     ·
      refine yB Z (tT c20) (rN 6 Z ?_)
      obtain ⟨c21, H⟩ := iN H
      obtain ⟨e22, h23, H⟩ := Cn H
      obtain ⟨t24, h25, H⟩ := bI H
      refine rG (pS 3 Z (GO.ix Z Z Z underlying56 Nu (r_a _ HS).2.2.1 c21.1 c21.2 Z (GO.Ja (T := Bb) (n := x10.toNat) HS r_a Z Z (getD_eq (ltN c21) h23) Me Z (GO.clo Z Z func177 mW.1 mW.2 Z Z (Fh.calls HS  h25) (fun _ wd26 ⟨h27, HS⟩ => ⟨_, h27, (nL ?_)⟩)))))
      rcases iE H with ⟨c28, H⟩ | ⟨c28, H⟩
      ·
       refine yB Z c28 (rN 2 Z ?_)
       obtain rfl := sI H
       exact rT _ func193 Z Z ⟨Z, HS⟩
      refine nB Z (Ca c28) (rN 4 Z (G.weak ?_ (d1 c1 (Nat.lt_succ_of_le (lR _)) (Nat.le_of_succ_le g1) _ _ H HS)))
      exact ⟨Z, Z, Z, Z, tv⟩
     refine nB Z (tF c20) (rN 3 Z ?_)
     obtain rfl := sI H
     exact rT _ func193 Z Z ⟨Z, HS⟩
  refine G.weak ?_ (f1 K (lR _) _ _ H HS)
  exact ⟨Z, Z, Z, Z, tv⟩
theorem Cg.calls {s : List Al} {A_a : Option Addr} {c_a : Nat} {r1 : Bool} (HS : St w0 w (L)) (r_a : Aq w0 L Bb A_a c_a (fun _ => ()) s) (H : Cg.f K s = some r1) :
    Calls prog 176 #[.slice A_a s.length c_a, .func (.func 177) #[] #[]] w (Cg.post w0 L r1) := by
  unfold Cg.f at H
  refine cG func176 Z ?_
  refine rN 3 Z ?_
  obtain ⟨t1, h2, H⟩ := bI H
  refine rG (pS 2 Z (fN Z func193 nG.1 nG.2 Z Z (Ba.calls HS r_a h2) (fun _ wd3 ⟨h4, HS⟩ => ⟨_, h4, (pS 2 Z (nL ?_))⟩)))
  obtain rfl := sI H
  exact rT _ func176 Z Z ⟨Z, HS⟩
theorem Kl.calls {x y : Int} {r1 r2 : Int} (HS : St w0 w (L)) (H : Kl.f x y = some (r1, r2)) :
    Calls prog 210 #[.int .u64 x, .int .u64 y] w (Kl.post w0 L r1 r2) := by
  unfold Kl.f at H
  refine cG func210 Z ?_
  refine rN 3 Z (rG (mV Z (GO.bits (by simp) Z Z Z Z (aS Z (nL (sQ (rG (mV Z (GO.shr Z Z Z (by decide) (by decide) Z (aS Z (nL (sQ (rG (mV Z ?_))))))))))))))
  refine GO.bits (by simp) Z Z Z Z (aS Z (nL (sQ (rG (mV Z (GO.shr Z Z Z (by decide) (by decide) Z (aS Z (nL (rN 3 Z (rG (pS 4 Z (GO.shr Z Z Z (by decide) (by decide) Z (pS 2 Z (nL ?_))))))))))))))
  refine sQ (rG (mV Z (GO.bits (by simp) Z Z Z Z (aS Z (nL (sQ (rG (mV Z (GO.shr Z Z Z (by decide) (by decide) Z (aS Z (nL (rN 3 Z (rG (pS 6 Z ?_))))))))))))))
  refine GO.shr Z Z Z (by decide) (by decide) Z (pS 2 Z (nL (rN 2 Z ?_)))
  obtain ⟨rfl, rfl⟩ := Mf H
  exact G.Oy _ _ func210 Z Z Z ⟨Z, HS⟩
theorem J4.calls {x y : Int} {r1 r2 : Int} (HS : St w0 w (L)) (H : J4.f x y = some (r1, r2)) :
    Calls prog 206 #[.int .u64 x, .int .u64 y] w (J4.post w0 L r1 r2) := by
  unfold J4.f at H
  refine cG func206 Z ?_
  refine rN 6 Z ?_
  obtain ⟨t1, t2, h3, H⟩ := Dk H
  refine rG (pS 2 Z (fN Z func210 jO.1 jO.2 Z Z (Kl.calls HS  h3) (fun _ wd4 ⟨h5, HS⟩ => ⟨_, h5, (pS 5 Z (nL (rN 2 Z ?_)))⟩)))
  obtain ⟨rfl, rfl⟩ := Mf H
  exact G.Oy _ _ func206 Z Z Z ⟨Z, HS⟩
theorem Bd.calls {x : List Fv} {count : Int} {A_a : Option Addr} {c_a : Nat} {r1 : List Fv} (HS : St w0 w (L)) (r_a : Aq w0 L Gl A_a c_a (fun _ => ()) x) (H : Bd.f K x count = some r1) :
    Calls prog 194 #[.slice A_a x.length c_a, I count] w (Bd.post w0 L r1) := by
  unfold Bd.f at H
  refine cG func194 Z ?_
  refine rN 5 Z ?_
  rcases iE H with ⟨c2, H⟩ | ⟨c2, H⟩
  ·
   refine yB Z (tT c2) ?_
   cases H
  refine nB Z (tF c2) (rN 2 Z ?_)
  obtain ⟨t3, t4, h5, H⟩ := Dk H
  refine rG (mV Z (lS Z Z underlying176 Z (GO.conv Z Z underlying3 underlying146 Z (mV Z (GO.conv Z Z underlying3 underlying146 Z (fN Z func206 mY.1 mY.2 Z Z (J4.calls HS  h5) (fun _ wd6 ⟨h7, HS⟩ => ⟨_, h7, (pS 5 Z (nL (rN 2 Z ?_)))⟩)))))))
  refine G.Ps (fun p1 m1 => ?_)
  have f1 : ∀ d1, d1 ≤ K → ∀ (x10 : Bool) (w : World), Bd.j2 K d1 x t4 x10 = some r1 → St w0 w (L) → G prog 194 48 [(0, .slice A_a x.length c_a), (6, .int .u64 t4), (26, .bool x10)] p1 w (Bd.post w0 L r1) := by
   intro d1 q1 x10 w H HS
   cases d1 with
   | zero => rw [Bd.j2] at H; cases H
   | succ e1 =>
    rw [Bd.j2] at H
    subst m1
    rcases iE H with ⟨c12, H⟩ | ⟨c12, H⟩
    ·
     refine yB Z c12 ?_
     cases H
    refine nB Z (Ca c12) (rN 2 Z ?_)
    obtain ⟨c13, H⟩ := iN H
    obtain ⟨c14, H⟩ := iN H
    refine rG (mV Z (GO.conv Z Z underlying146 underlying3 Z (GO.make (T := Gl) Jf () HS Bv Z Z Z underlying176 vY Z Z Z c13 c14 Z fun b15 wd16 HS => aS Z (nL (sQ ?_)))))
    have h18 := aB (xs := (List.replicate (w64 (t4)).toNat Jf)) (ys := x) (Nat.le_of_eq (Nat.zero_add _))
    refine rG (pS 2 Z (GO.aO (T := Gl) (j := 0) (l := 0) HS Z (rD 1 r_a) Bv Z Z Z underlying176 Ql Z wQ (Nat.le_of_eq (Nat.zero_add _)) (fun _ _ => Z) (fun _ => Z) fun wd17 HS => aS Z (nL (G.len (t := 7) (m := (over (List.replicate (w64 (t4)).toNat Jf) 0 (x.take ((List.replicate (w64 (t4)).toNat Jf).length))).length) Z (by simp only [List.length_set, h18] <;> rfl) (rN 3 Z ?_)))))
    refine G.name (fun o1 g1 => ?_)
    have n1 : ∀ c1, c1 ≤ e1 → ∀ (a1 : List Fv) (b1 : Int) (w : World), Bd.l4 K c1 a1 b1 = some r1 → St w0 w (Own Gl 223 (some ⟨b15, 0, none⟩) ((w64 (t4)).toNat) (fun _ => ()) a1 :: L) → G prog 194 48 [(7, .slice (some ⟨b15, 0, none⟩) a1.length ((w64 (t4)).toNat)), (8, I b1)] o1 w (Bd.post w0 L r1) := by
     intro c1
     induction c1 using Nat.strongRecOn with
     | _ c1 k1 =>
      intro h1 a1 b1 w H HS
      cases c1 with
      | zero => rw [Bd.l4] at H; cases H
      | succ i1 =>
       rw [Bd.l4] at H
       subst g1
       refine rN 2 Z (rG (pS 2 Z (lS Z Z underlying176 Z (GO.lss Z Z Z Z (nL ?_)))))
       rcases iE H with ⟨c29, H⟩ | ⟨c29, H⟩
       ·
        refine yB Z (tT c29) (rN 2 Z ?_)
        obtain ⟨c30, H⟩ := iN H
        have h32 := aB (xs := a1) (ys := ((a1.take b1.toNat).drop 0)) (rC (leN c30) (lR _))
        refine G.lex mixed [0, 1, 2, 4, 5, 3, 6, 7, 8, 9] (by kernel_rfl) ?_
        replace HS := HS.drew
        refine GX.ps 5 Z (GX.l1 Z Z Z (fun _ g => GO.slL (T := Gl) HS (Aq.own (j := 0) Z) Z Z Z underlying176 Ql c30.1 c30.2 Z g) Z (GX.l1 Z Z Z (fun _ g => GO.slH (T := Gl) HS (Aq.own (j := 0) Z) Z Z Z underlying176 Ql c30.1 c30.2 Z g) Z (GX.l2 Z (GO.aO (T := Gl) (j := 0) (l := b1.toNat) HS Z (Aq.cut (Aq.own (j := 0) Z) (Nat.zero_le _) (leN c30)) Bv Z Z Z underlying176 Ql Z (xO (lR _) ((Aq.own (j := 0) Z) _ HS).1) (rC (leN c30) (lR _)) (fun _ _ => Z) (fun _ => Z) fun wd31 HS => GX.fin tv (GX.ps 2 Z (GX.nil (G.len (t := 7) (m := (over a1 b1.toNat (((a1.take b1.toNat).drop 0).take (((a1.take a1.length).drop b1.toNat).length))).length) Z (by simp only [List.length_set, h32] <;> rfl) (rN 2 Z (G.weak ?_ (k1 i1 (Nat.lt_succ_of_le (lR _)) (Nat.le_of_succ_le h1) _ _ _ H HS))))))))))
        exact ⟨Z, Z, tv⟩
       refine nB Z (tF c29) (rN 3 Z ?_)
       obtain rfl := sI H
       exact rT _ func194 Z Z ⟨_, _, Z, HS⟩
    refine G.weak ?_ (n1 e1 (lR _) _ _ _ H HS)
    exact ⟨Z, Z, tv⟩
  rcases iE H with ⟨c33, H⟩ | ⟨c33, H⟩
  ·
   refine rG (pS 3 Z (kN 23 Z (tT c33) (oF Z (oF Z (GO.Ip Z Z Z Z Z (nL (G.weak ?_ (f1 K (lR _) _ _ H HS))))))))
   exact ⟨Z, Z, Z, tv⟩
  refine rG (pS 3 Z (kN 23 Z (tF c33) (oN Z (mV Z (bK (oN Z (GO.gtr Z Z Z Z (bK (GO.Js Z Z Z Z Z (nL (G.weak ?_ (f1 K (lR _) _ _ H HS))))))))))))
  exact ⟨Z, Z, Z, tv⟩
theorem Gs.calls {c_A c_B : Int} {c_C c_D : Int} {a1 r1 : Int} {r2 r3 r4 : Int} (HS : St w0 w (L)) (H : Gs.f c_A c_B c_C c_D a1 = some (r1, r2, r3, r4)) :
    Calls prog 195 #[.agg [I c_A, I c_B, I c_C, I c_D, I a1].toArray] w (Gs.post w0 L r1 r2 r3 r4) := by
  unfold Gs.f at H
  refine cG func195 Z ?_
  refine sQ (rG (GO.box (cs := [I c_A, I c_B, I c_C, I c_D, I a1]) HS Z Z Z Z fun b1 wd2 HS => GO.alloc HS Z eX Z Z fun b3 wd4 HS => nL (sQ (rG (fL b1 0 Qf Z (lB 1 HS Z na2 Z (fL b1 1 Qj Z (lB 1 HS Z na2 Z (fL b1 2 Qg Z (lB 1 HS Z na2 Z (fL b1 3 Qd Z (lB 1 HS Z na2 Z ?_))))))))))))
  refine GO.I9 (.agg [I c_A, I c_B, I c_C, I c_D].toArray) Z Z (fun _ => by kernel_rfl) Z (GO.C8 (j := 0) (vs := [I c_A, I c_B, I c_C, I c_D]) ([I c_A, I c_B, I c_C, I c_D]) HS Z Z Z Z Z (htA Yq) Z Z Z fun wd5 HS => nL ?_)
  obtain ⟨rfl, rfl, rfl, rfl⟩ := Qb H
  exact rT _ func195 Z (Ki.Lr (j := 0) (vs := [I c_A, I c_B, I c_C, I c_D]) HS Z Z Z Yq) ⟨Z, (HS.pk 2 [] Z)⟩
theorem Fu.calls {c_A c_B : Int} {c_C c_D : Int} {a1 p : Int} {r1 : Bool} (HS : St w0 w (L)) (H : Fu.f c_A c_B c_C c_D a1 p = some r1) :
    Calls prog 196 #[.agg [I c_A, I c_B, I c_C, I c_D, I a1].toArray, I p] w (Fu.post w0 L r1) := by
  unfold Fu.f at H
  refine cG func196 Z ?_
  refine sQ (rG (GO.box (cs := [I c_A, I c_B, I c_C, I c_D, I a1]) HS Z Z Z Z fun b1 wd2 HS => aS Z (nL (sQ ?_))))
  rcases iE H with ⟨c3, H⟩ | ⟨c3, H⟩
  ·
   refine rG (pS 3 Z (kN 7 Z (tT c3) (oF Z (oF Z (oF Z (oF Z (oF Z (pS 2 Z (nL ?_)))))))))
   obtain rfl := sI H
   exact rT _ func196 Z Z ⟨Z, (HS.pk 1 [] Z)⟩
  refine rG (pS 3 Z (kN 7 Z (tF c3) (oN Z (mV Z (bK (oN Z (fL b1 4 Lg Z (bK (oN Z (lB 0 HS Z na2 Z (bK (oN Z (GO.add Z Z Z Z (bK ?_))))))))))))))
  refine oN Z (GO.eql Z Z Z Z (bK (pS 2 Z (nL ?_))))
  obtain rfl := sI H
  exact rT _ func196 Z Z ⟨Z, (HS.pk 1 [] Z)⟩
theorem Ih.calls {list : List Fv} {A_a : Option Addr} {c_a : Nat} {r1 : Int} (HS : St w0 w (L)) (r_a : Aq w0 L Gl A_a c_a (fun _ => ()) list) (H : Ih.f list = some r1) :
    Calls prog 207 #[.slice A_a list.length c_a] w (Ih.post w0 L r1) := by
  unfold Ih.f at H
  refine cG func207 Z ?_
  refine rN 3 Z (rG (mV Z (lS Z Z underlying176 Z (aS Z (nL ?_)))))
  obtain rfl := sI H
  exact rT _ func207 Z Z ⟨Z, HS⟩
theorem Du.calls {list : List Fv} {i : Int} {A_a : Option Addr} {c_a : Nat} {r1 : Bool} (HS : St w0 w (L)) (r_a : Aq w0 L Gl A_a c_a (fun _ => ()) list) (H : Du.f list i = some r1) :
    Calls prog 197 #[.slice A_a list.length c_a, I i] w (Du.post w0 L r1) := by
  unfold Du.f at H
  refine cG func197 Z ?_
  refine rN 3 Z ?_
  obtain ⟨t1, h2, H⟩ := bI H
  obtain ⟨t5, h6, H⟩ := bI H
  refine rG (pS 2 Z (fN Z func207 jS.1 jS.2 Z Z (Ih.calls HS r_a h2) (fun _ wd3 ⟨h4, HS⟩ => ⟨_, h4, (GO.sub Z Z Z Z (fN Z func97 Kw.1 Kw.2 Z Z (Ct.calls HS  h6) (fun _ wd7 ⟨h8, HS⟩ => ⟨_, h8, (aS Z (nL ?_))⟩)))⟩)))
  obtain rfl := sI H
  exact rT _ func197 Z Z ⟨Z, HS⟩
theorem Bg.calls {d1 : List Al} {i1 : Int} {A_a : Option Addr} {c_a : Nat} {r1 r2 : List Fv} {r3 : Bool} (HS : St w0 w (L)) (r_a : Aq w0 L Bb A_a c_a (fun _ => ()) d1) (H : Bg.f K d1 i1 = some (r1, r2, r3)) :
    Calls prog 178 #[.agg [.slice A_a d1.length c_a, I i1].toArray] w (Bg.post w0 L r1 r2 r3) := by
  unfold Bg.f at H
  refine cG func178 Z ?_
  refine sQ (rG (GO.box (cs := [.slice A_a d1.length c_a, I i1]) HS Z Z Z Z fun b1 wd2 HS => GO.alloc HS Z aC Z Z fun b3 wd4 HS => aS Z (nL (sQ (rG (fL b1 0 Iu Z (lB 1 HS Z Ni Z (lS Z Z underlying56 Z (pS 2 Z (nL (sQ ?_)))))))))))
  obtain ⟨t7, h8, H⟩ := bI H
  obtain ⟨t15, h16, H⟩ := bI H
  refine rG (GO.I9 (.agg [I (-1), I 0].toArray) Z Z (fun _ => by kernel_rfl) Z (GO.F3 (el := 223) ([I (-1), I 0]) HS Z Z (fun _ => by kernel_rfl) Z fun b5 wd6 HS => mV Z ?_))
  replace HS := HS.J6 (T := Gl) (j := 0) Z Bv (fun _ => ()) ([(⟨(-1), 0⟩ : Fv)] : List Fv) Z (O3 Z)
  refine GO.Nb (t := 16) (m := ([(⟨(-1), 0⟩ : Fv)] : List Fv).length) (c' := ([(⟨(-1), 0⟩ : Fv)] : List Fv).length) Z Z Z (fN Z func194 Yz.1 Yz.2 Z Z (Bd.calls HS (Aq.own (j := 0) Z) h8) (fun _ wd11 ⟨A9, c10, h12, HS⟩ => ⟨_, h12, (GO.I9 (.agg [I (-1), I 0].toArray) Z Z (fun _ => by kernel_rfl) Z (GO.F3 (el := 223) ([I (-1), I 0]) HS Z Z (fun _ => by kernel_rfl) Z fun b13 wd14 HS => mV Z ?_))⟩))
  replace HS := HS.J6 (T := Gl) (j := 0) Z Bv (fun _ => ()) ([(⟨(-1), 0⟩ : Fv)] : List Fv) Z (O3 Z)
  refine GO.Nb (t := 20) (m := ([(⟨(-1), 0⟩ : Fv)] : List Fv).length) (c' := ([(⟨(-1), 0⟩ : Fv)] : List Fv).length) Z Z Z (fN Z func194 Yz.1 Yz.2 Z Z (Bd.calls HS (Aq.own (j := 0) Z) h16) (fun _ wd19 ⟨A17, c18, h20, HS⟩ => ⟨_, h20, (GO.I9 (.agg [.slice A9 t7.length c10, .slice A17 t15.length c18].toArray) Z Z (fun _ => by kernel_rfl) Z (GO.alloc HS Z aC Z Z fun b21 wd22 HS => GO.C8 (j := 0) (vs := [.slice A9 t7.length c10, .slice A17 t15.length c18]) ([.slice A9 t7.length c10, .slice A17 t15.length c18]) HS Z Z Z Z Z (htA Kg) Z Z Z fun wd23 HS => nL (rN 2 Z (rG (fL b1 0 Iu Z (lB 6 HS Z Ni Z (lS Z Z underlying56 Z (mV Z (nL (rN 2 Z ?_))))))))))⟩))
  refine G.name (fun t1 q1 => ?_)
  have s1 : ∀ h1, h1 ≤ K → ∀ (f1 e1 : List Fv) (x195 : Int) (w : World), Bg.l1 K h1 d1 f1 e1 x195 = some (r1, r2, r3) → St w0 w (Box b3 178 [.slice none 0 0, .slice none 0 0] :: Box b21 178 [.slice A9 f1.length c10, .slice A17 e1.length c18] :: Own Gl 223 A9 c10 (fun _ => ()) f1 :: Own Gl 223 A17 c18 (fun _ => ()) e1 :: L) → G prog 178 67 [(2, .pointer (some ⟨b3, 0, none⟩)), (5, .pointer (some ⟨b21, 0, none⟩)), (25, .slice A_a d1.length c_a), (26, I (d1.length : Int)), (27, I x195)] t1 w (Bg.post w0 L r1 r2 r3) := by
   intro h1
   induction h1 using Nat.strongRecOn with
   | _ h1 x1 =>
    intro y1 f1 e1 x195 w H HS
    cases h1 with
    | zero => rw [Bg.l1] at H; cases H
    | succ m1 =>
     rw [Bg.l1] at H
     subst q1
     refine rN 3 Z ?_
     rcases iE H with ⟨c365, H⟩ | ⟨c365, H⟩
     ·
      refine yB Z (tT c365) (rN 4 Z ?_)
      obtain ⟨c366, H⟩ := iN H
      obtain ⟨e367, h368, H⟩ := Cn H
      refine rG (mV Z (GO.ix Z Z Z underlying56 Nu ((rD 4 r_a) _ HS).2.2.1 c366.1 c366.2 Z (GO.Ja (T := Bb) (n := x195.toNat) HS (rD 4 r_a) Z Z (getD_eq (ltN c366) h368) Me Z (GO.alloc HS Z X8 Z Z fun b369 wd370 HS => aS Z (GO.C8 (j := 0) (vs := [I e367.A, I e367.B, I e367.C, I e367.D, I e367.Sign]) ([I e367.A, I e367.B, I e367.C, I e367.D, I e367.Sign]) HS Z Z Z Z Z (htA Me) Z Z Z fun wd371 HS => nL (sQ ?_))))))
      obtain ⟨t372, t373, t374, t375, h376, H⟩ := K6 H
      refine rG (GO.Bu (j := 0) ([I e367.A, I e367.B, I e367.C, I e367.D, I e367.Sign]) HS Z Z Z Z Me Z (fN Z func195 Y4.1 Y4.2 Z Z (Gs.calls HS  h376) (fun _ wd377 ⟨h378, HS⟩ => ⟨_, h378, (mV Z (nL (rN 2 Z ?_)))⟩)))
      refine G.name (fun u1 p1 => ?_)
      have v1 : ∀ g1, g1 ≤ m1 → ∀ (a1 c1 : List Fv) (x430 : Int) (w : World), Bg.l10 K g1 d1 x195 e367 t372 t373 t374 t375 a1 c1 x430 = some (r1, r2, r3) → St w0 w (Box b3 178 [.slice none 0 0, .slice none 0 0] :: Box b21 178 [.slice A9 a1.length c10, .slice A17 c1.length c18] :: Own Gl 223 A9 c10 (fun _ => ()) a1 :: Own Gl 223 A17 c18 (fun _ => ()) c1 :: Box b369 152 [I e367.A, I e367.B, I e367.C, I e367.D, I e367.Sign] :: L) → G prog 178 67 [(2, .pointer (some ⟨b3, 0, none⟩)), (5, .pointer (some ⟨b21, 0, none⟩)), (6, I x195), (7, .pointer (some ⟨b369, 0, none⟩)), (25, .slice A_a d1.length c_a), (26, I (d1.length : Int)), (27, I x195), (33, .agg [I t372, I t373, I t374, I t375].toArray), (34, I x430)] u1 w (Bg.post w0 L r1 r2 r3) := by
       intro g1
       induction g1 using Nat.strongRecOn with
       | _ g1 o1 =>
        intro n1 a1 c1 x430 w H HS
        cases g1 with
        | zero => rw [Bg.l10] at H; cases H
        | succ k1 =>
         rw [Bg.l10] at H
         subst p1
         refine rN 3 Z ?_
         rcases iE H with ⟨c482, H⟩ | ⟨c482, H⟩
         ·
          refine yB Z (tT c482) (rN 4 Z ?_)
          obtain ⟨c483, H⟩ := iN H
          refine rG (mV Z (GO.fM ([t372, t373, t374, t375] : List Int) Z Z Z underlying218 underlying2 sz2 Z c483.1 c483.2 Z (pS 2 Z (nL (sQ (rG (fL b21 0 Zp Z (lB 1 HS Z X9 Z (aS Z (nL (rN 2 Z ?_)))))))))))
          obtain ⟨t484, h485, H⟩ := bI H
          refine rG (GO.Bu (j := 4) ([I e367.A, I e367.B, I e367.C, I e367.D, I e367.Sign]) HS Z Z Z Z Me Z (mV Z (fN Z func196 Z5.1 Z5.2 Z Z (Fu.calls HS  h485) (fun _ wd486 ⟨h487, HS⟩ => ⟨_, h487, (nL ?_)⟩))))
          rcases iE H with ⟨c492, H⟩ | ⟨c492, H⟩
          ·
           refine yB Z c492 (rG (fL b21 1 Zc Z (lB 1 HS Z X9 Z (aS Z (nL (rN 2 Z ?_))))))
           obtain ⟨t501, h502, H⟩ := bI H
           rcases iE H with ⟨c505, H⟩ | ⟨c505, H⟩
           ·
            obtain ⟨c506, H⟩ := iN H
            obtain ⟨e507, h508, H⟩ := Cn H
            refine rG (pS 2 Z (fN Z func197 Ri.1 Ri.2 Z Z (Du.calls HS (Aq.own (j := 3) Z) h502) (fun _ wd503 ⟨h504, HS⟩ => ⟨_, h504, (pS 2 Z (kN 49 Z (congrArg Bool.not c505) (oN Z (mV Z (bK (oN Z (mV Z (bK (oN Z (GO.ix Z Z Z underlying176 Ql ((Aq.own (j := 3) Z) _ HS).2.2.1 c506.1 c506.2 Z (bK (oN Z ?_))))))))))))⟩)))
            refine GO.fld (ea A17 (((([t372, t373, t374, t375] : List Int).getD x430.toNat 0).toNat) * 2)) Z Z Rv Z Z (bK (oN Z (GO.Fq (T := Gl) (n := (([t372, t373, t374, t375] : List Int).getD x430.toNat 0).toNat) (o := 0) HS (Aq.own (j := 3) Z) Z Z (getD_eq (ltN c506) h508) Z Z na2 Z (bK (oN Z (GO.geq Z Z Z Z (bK (GO.Js Z Z Z Z Z (nL ?_)))))))))
            rcases iE H with ⟨c509, H⟩ | ⟨c509, H⟩
            ·
             refine yB Z (tT c509) (sQ (rG (GO.Bu (j := 1) ([.slice A9 a1.length c10, .slice A17 c1.length c18]) HS Z Z Z Z Kg Z (GO.C8 (j := 0) (vs := [.slice A9 a1.length c10, .slice A17 c1.length c18]) ([.slice A9 a1.length c10, .slice A17 c1.length c18]) HS Z Z Z Z Z (htA Kg) Z Z Z fun wd510 HS => aS Z (nL ?_)))))
             obtain ⟨rfl, rfl, rfl⟩ := Pp H
             exact G.Oy _ _ func178 Z (Ki.Lr (j := 0) (vs := [.slice A9 a1.length c10, .slice A17 c1.length c18]) HS Z Z Z Kg) Z ⟨_, _, _, _, Z, (HS.pk 5 [2, 3] Z)⟩
            refine nB Z (tF c509) (G.skip (rG (pS 4 Z (GO.I9 (.agg [I x195, I x430].toArray) Z Z (fun _ => by kernel_rfl) Z (GO.ix Z Z Z underlying176 Ql ((Aq.own (j := 3) Z) _ HS).2.2.1 c506.1 c506.2 Z (GO.M5 (T := Gl) (j := 3) (n := (([t372, t373, t374, t375] : List Int).getD x430.toNat 0).toNat) (o := 0) (vs := [I x195, I x430]) (⟨x195, x430⟩ : Fv) HS Z Bv Z Z Z Z (htA Q5) Z (getD_some (d := Jf) (ltN c506)) Z Z fun wd511 HS => nL (G.len (t := 50) (m := (c1.set ((([t372, t373, t374, t375] : List Int).getD x430.toNat 0).toNat) (⟨x195, x430⟩ : Fv)).length) Z (by simp only [List.length_set] <;> rfl) ?_)))))))
            replace HS := HS.Lf (j := 1) (cs' := [.slice A9 a1.length c10, .slice A17 (c1.set ((([t372, t373, t374, t375] : List Int).getD x430.toNat 0).toNat) (⟨x195, x430⟩ : Fv)).length c18]) Z (by simp only [List.length_set] <;> rfl)
            refine rN 3 Z (G.weak ?_ (o1 k1 (Nat.lt_succ_of_le (lR _)) (Nat.le_of_succ_le n1) _ _ _ _ H HS))
            exact ⟨Z, Z, Z, Z, Z, Z, Z, Z, Z, tv⟩
           refine rG (pS 2 Z (fN Z func197 Ri.1 Ri.2 Z Z (Du.calls HS (Aq.own (j := 3) Z) h502) (fun _ wd503 ⟨h504, HS⟩ => ⟨_, h504, (pS 2 Z (kN 49 Z (congrArg Bool.not (Ca c505)) (oF Z (oF Z (oF Z (oF Z (oF Z (oF Z (GO.Ip Z Z Z Z Z (nL (rN 2 Z (rG ?_))))))))))))⟩)))
           refine GO.Bu (j := 1) ([.slice A9 a1.length c10, .slice A17 c1.length c18]) HS Z Z Z Z Kg Z (GO.C8 (j := 0) (vs := [.slice A9 a1.length c10, .slice A17 c1.length c18]) ([.slice A9 a1.length c10, .slice A17 c1.length c18]) HS Z Z Z Z Z (htA Kg) Z Z Z fun wd512 HS => aS Z (nL ?_))
           obtain ⟨rfl, rfl, rfl⟩ := Pp H
           exact G.Oy _ _ func178 Z (Ki.Lr (j := 0) (vs := [.slice A9 a1.length c10, .slice A17 c1.length c18]) HS Z Z Z Kg) Z ⟨_, _, _, _, Z, (HS.pk 5 [2, 3] Z)⟩
          refine nB Z (Ca c492) (rN 3 Z ?_)
          obtain ⟨t521, h522, H⟩ := bI H
          rcases iE H with ⟨c525, H⟩ | ⟨c525, H⟩
          ·
           obtain ⟨c526, H⟩ := iN H
           obtain ⟨e527, h528, H⟩ := Cn H
           refine rG (pS 2 Z (fN Z func197 Ri.1 Ri.2 Z Z (Du.calls HS (Aq.own (j := 2) Z) h522) (fun _ wd523 ⟨h524, HS⟩ => ⟨_, h524, (pS 2 Z (kN 49 Z (congrArg Bool.not c525) (oN Z (mV Z (bK (oN Z (mV Z (bK (oN Z (GO.ix Z Z Z underlying176 Ql ((Aq.own (j := 2) Z) _ HS).2.2.1 c526.1 c526.2 Z (bK (oN Z ?_))))))))))))⟩)))
           refine GO.fld (ea A9 (((([t372, t373, t374, t375] : List Int).getD x430.toNat 0).toNat) * 2)) Z Z Rv Z Z (bK (oN Z (GO.Fq (T := Gl) (n := (([t372, t373, t374, t375] : List Int).getD x430.toNat 0).toNat) (o := 0) HS (Aq.own (j := 2) Z) Z Z (getD_eq (ltN c526) h528) Z Z na2 Z (bK (oN Z (GO.geq Z Z Z Z (bK (GO.Js Z Z Z Z Z (nL ?_)))))))))
           rcases iE H with ⟨c529, H⟩ | ⟨c529, H⟩
           ·
            refine yB Z (tT c529) (sQ (rG (GO.Bu (j := 1) ([.slice A9 a1.length c10, .slice A17 c1.length c18]) HS Z Z Z Z Kg Z (GO.C8 (j := 0) (vs := [.slice A9 a1.length c10, .slice A17 c1.length c18]) ([.slice A9 a1.length c10, .slice A17 c1.length c18]) HS Z Z Z Z Z (htA Kg) Z Z Z fun wd530 HS => aS Z (nL ?_)))))
            obtain ⟨rfl, rfl, rfl⟩ := Pp H
            exact G.Oy _ _ func178 Z (Ki.Lr (j := 0) (vs := [.slice A9 a1.length c10, .slice A17 c1.length c18]) HS Z Z Z Kg) Z ⟨_, _, _, _, Z, (HS.pk 5 [2, 3] Z)⟩
           refine nB Z (tF c529) (G.skip (rG (pS 4 Z (GO.I9 (.agg [I x195, I x430].toArray) Z Z (fun _ => by kernel_rfl) Z (GO.ix Z Z Z underlying176 Ql ((Aq.own (j := 2) Z) _ HS).2.2.1 c526.1 c526.2 Z (GO.M5 (T := Gl) (j := 2) (n := (([t372, t373, t374, t375] : List Int).getD x430.toNat 0).toNat) (o := 0) (vs := [I x195, I x430]) (⟨x195, x430⟩ : Fv) HS Z Bv Z Z Z Z (htA Q5) Z (getD_some (d := Jf) (ltN c526)) Z Z fun wd531 HS => nL (G.len (t := 50) (m := (a1.set ((([t372, t373, t374, t375] : List Int).getD x430.toNat 0).toNat) (⟨x195, x430⟩ : Fv)).length) Z (by simp only [List.length_set] <;> rfl) ?_)))))))
           replace HS := HS.Lf (j := 1) (cs' := [.slice A9 (a1.set ((([t372, t373, t374, t375] : List Int).getD x430.toNat 0).toNat) (⟨x195, x430⟩ : Fv)).length c10, .slice A17 c1.length c18]) Z (by simp only [List.length_set] <;> rfl)
           refine rN 3 Z (G.weak ?_ (o1 k1 (Nat.lt_succ_of_le (lR _)) (Nat.le_of_succ_le n1) _ _ _ _ H HS))
           exact ⟨Z, Z, Z, Z, Z, Z, Z, Z, Z, tv⟩
          refine rG (pS 2 Z (fN Z func197 Ri.1 Ri.2 Z Z (Du.calls HS (Aq.own (j := 2) Z) h522) (fun _ wd523 ⟨h524, HS⟩ => ⟨_, h524, (pS 2 Z (kN 49 Z (congrArg Bool.not (Ca c525)) (oF Z (oF Z (oF Z (oF Z (oF Z (oF Z (GO.Ip Z Z Z Z Z (nL (rN 2 Z (rG ?_))))))))))))⟩)))
          refine GO.Bu (j := 1) ([.slice A9 a1.length c10, .slice A17 c1.length c18]) HS Z Z Z Z Kg Z (GO.C8 (j := 0) (vs := [.slice A9 a1.length c10, .slice A17 c1.length c18]) ([.slice A9 a1.length c10, .slice A17 c1.length c18]) HS Z Z Z Z Z (htA Kg) Z Z Z fun wd532 HS => aS Z (nL ?_))
          obtain ⟨rfl, rfl, rfl⟩ := Pp H
          exact G.Oy _ _ func178 Z (Ki.Lr (j := 0) (vs := [.slice A9 a1.length c10, .slice A17 c1.length c18]) HS Z Z Z Kg) Z ⟨_, _, _, _, Z, (HS.pk 5 [2, 3] Z)⟩
         refine nB Z (tF c482) (rN 4 Z (G.weak ?_ (x1 k1 (by omega) (by omega) _ _ _ _ H (HS.pk 5 [0, 1, 2, 3] Z))))
         exact ⟨Z, Z, Z, Z, Z, tv⟩
      refine G.weak ?_ (v1 m1 (lR _) _ _ _ _ H (HS.pk 5 [1, 2, 3, 4, 0] Z))
      exact ⟨Z, Z, Z, Z, Z, Z, Z, Z, Z, tv⟩
     refine nB Z (tF c365) (rN 2 Z (rG (GO.Bu (j := 1) ([.slice A9 f1.length c10, .slice A17 e1.length c18]) HS Z Z Z Z Kg Z (GO.C8 (j := 0) (vs := [.slice A9 f1.length c10, .slice A17 e1.length c18]) ([.slice A9 f1.length c10, .slice A17 e1.length c18]) HS Z Z Z Z Z (htA Kg) Z Z Z fun wd533 HS => aS Z (nL ?_)))))
     obtain ⟨rfl, rfl, rfl⟩ := Pp H
     exact G.Oy _ _ func178 Z (Ki.Lr (j := 0) (vs := [.slice A9 f1.length c10, .slice A17 e1.length c18]) HS Z Z Z Kg) Z ⟨_, _, _, _, Z, (HS.pk 4 [2, 3] Z)⟩
  refine G.weak ?_ (s1 K (lR _) _ _ _ _ H (HS.pk 7 [5, 0, 3, 1] Z))
  exact ⟨Z, Z, Z, Z, Z, tv⟩
theorem Hr.calls {d1 : List Al} {g1 : Int} {e1 f1 : List Fv} {c1 a1 : Int} {A_a : Option Addr} {c_a : Nat} {A_b : Option Addr} {c_b : Nat} {A_c : Option Addr} {c_c : Nat} {r1 r2 : Int} (HS : St w0 w (L)) (r_a : Aq w0 L Bb A_a c_a (fun _ => ()) d1) (r_b : Aq w0 L Gl A_b c_b (fun _ => ()) e1) (r_c : Aq w0 L Gl A_c c_c (fun _ => ()) f1) (H : Hr.f d1 g1 e1 f1 c1 a1 = some (r1, r2)) :
    Calls prog 198 #[.agg [.slice A_a d1.length c_a, I g1].toArray, .agg [.slice A_b e1.length c_b, .slice A_c f1.length c_c].toArray, .agg [I c1, I a1].toArray] w (Hr.post w0 L r1 r2) := by
  unfold Hr.f at H
  refine cG func198 Z ?_
  refine sQ (rG (GO.box (cs := [.slice A_a d1.length c_a, I g1]) HS Z Z Z Z fun b1 wd2 HS => GO.box (cs := [.slice A_b e1.length c_b, .slice A_c f1.length c_c]) HS Z Z Z Z fun b3 wd4 HS => GO.box (cs := [I c1, I a1]) HS Z Z Z Z fun b5 wd6 HS => GO.alloc HS Z lN Z Z fun b7 wd8 HS => nL (sQ ?_)))
  obtain ⟨c9, H⟩ := iN H
  obtain ⟨e10, h11, H⟩ := Cn H
  refine rG (fL b1 0 Iu Z (lB 3 HS Z Ni Z (fL b5 0 Rv Z (lB 1 HS Z na2 Z (GO.ix Z Z Z underlying56 Nu ((rD 4 r_a) _ HS).2.2.1 c9.1 c9.2 Z (GO.Ja (T := Bb) (n := c1.toNat) HS (rD 4 r_a) Z Z (getD_eq (ltN c9) h11) Me Z (GO.alloc HS Z X8 Z Z fun b12 wd13 HS => GO.C8 (j := 0) (vs := [I e10.A, I e10.B, I e10.C, I e10.D, I e10.Sign]) ([I e10.A, I e10.B, I e10.C, I e10.D, I e10.Sign]) HS Z Z Z Z Z (htA Me) Z Z Z fun wd14 HS => nL (sQ ?_))))))))
  obtain ⟨t15, t16, t17, t18, h19, H⟩ := K6 H
  obtain ⟨c22, H⟩ := iN H
  refine G.Oi mixed (fun w => St w0 w (Box b12 152 [I e10.A, I e10.B, I e10.C, I e10.D, I e10.Sign] :: Box b5 223 [I c1, I a1] :: L)) [0, 3] [2, 0, 3, 1, 4, 5] [] (by kernel_rfl) (by kernel_rfl) (HS.drew.pk 5 [0, 2] Z) ?_
  replace HS := HS.drew
  refine qL Z Z (fun _ _ g => fL b5 1 Y0 Z g) Z (GX.ls Z Z Z (HS.pk 5 [0, 2] Z) (fun _ HS _ g => GO.Bu (j := 0) ([I e10.A, I e10.B, I e10.C, I e10.D, I e10.Sign]) HS Z Z Z Z Me Z g) Z (GX.ls Z Z Z (HS.pk 5 [0, 2] Z) (fun _ HS _ g => lB 1 HS Z na2 Z g) Z (GX.l2 Z (fN Z func195 Y4.1 Y4.2 Z Z (Gs.calls HS  h19) (fun _ wd20 ⟨h21, HS⟩ => ⟨_, h21, (GX.fin (HS.pk 5 [0, 2] Z) (qL Z Z (fun _ _ g => GO.fM ([t15, t16, t17, t18] : List Int) Z Z Z underlying218 underlying2 sz2 Z c22.1 c22.2 Z g) Z (GX.ps 1 Z (GX.nil (rN 2 Z ?_)))))⟩)))))
  obtain ⟨t23, h24, H⟩ := bI H
  refine rG (GO.Bu (j := 0) ([I e10.A, I e10.B, I e10.C, I e10.D, I e10.Sign]) HS Z Z Z Z Me Z (fL b5 1 Y0 Z (lB 2 HS Z na2 Z (fN Z func196 Z5.1 Z5.2 Z Z (Fu.calls HS  h24) (fun _ wd25 ⟨h26, HS⟩ => ⟨_, h26, (nL ?_)⟩)))))
  rcases iE H with ⟨c27, H⟩ | ⟨c27, H⟩
  ·
   refine yB Z c27 (sQ ?_)
   obtain ⟨c28, H⟩ := iN H
   obtain ⟨e29, h30, H⟩ := Cn H
   refine rG (fL b3 0 Zp Z (lB 3 HS Z X9 Z (mV Z (GO.ix Z Z Z underlying176 Ql ((rD 5 r_b) _ HS).2.2.1 c28.1 c28.2 Z (GO.Ja (T := Gl) (n := (([t15, t16, t17, t18] : List Int).getD a1.toNat 0).toNat) HS (rD 5 r_b) Z Z (getD_eq (ltN c28) h30) Q5 Z (GO.C8 (j := 1) (vs := [I e29.crossing, I e29.position]) ([I e29.crossing, I e29.position]) HS Z Z Z Z Z (htA Q5) Z Z Z fun wd31 HS => nL ?_))))))
   obtain ⟨rfl, rfl⟩ := Mf H
   exact rT _ func198 Z (Ki.Lr (j := 1) (vs := [I e29.crossing, I e29.position]) HS Z Z Z Q5) ⟨Z, (HS.pk 5 [] Z)⟩
  refine nB Z (Ca c27) (rN 2 Z ?_)
  obtain ⟨c32, H⟩ := iN H
  obtain ⟨e33, h34, H⟩ := Cn H
  refine rG (fL b3 1 Zc Z (lB 3 HS Z X9 Z (mV Z (GO.ix Z Z Z underlying176 Ql ((rD 5 r_c) _ HS).2.2.1 c32.1 c32.2 Z (GO.Ja (T := Gl) (n := (([t15, t16, t17, t18] : List Int).getD a1.toNat 0).toNat) HS (rD 5 r_c) Z Z (getD_eq (ltN c32) h34) Q5 Z (GO.C8 (j := 1) (vs := [I e33.crossing, I e33.position]) ([I e33.crossing, I e33.position]) HS Z Z Z Z Z (htA Q5) Z Z Z fun wd35 HS => nL ?_))))))
  obtain ⟨rfl, rfl⟩ := Mf H
  exact rT _ func198 Z (Ki.Lr (j := 1) (vs := [I e33.crossing, I e33.position]) HS Z Z Z Q5) ⟨Z, (HS.pk 5 [] Z)⟩
theorem Bz.calls {a1 : List Al} {f1 : Int} {e1 d1 : List Fv} {A_a : Option Addr} {c_a : Nat} {A_b : Option Addr} {c_b : Nat} {A_c : Option Addr} {c_c : Nat} {r1 : List (List Int)} (HS : St w0 w (L)) (r_a : Aq w0 L Bb A_a c_a (fun _ => ()) a1) (r_b : Aq w0 L Gl A_b c_b (fun _ => ()) e1) (r_c : Aq w0 L Gl A_c c_c (fun _ => ()) d1) (H : Bz.f K a1 f1 e1 d1 = some r1) :
    Calls prog 180 #[.agg [.slice A_a a1.length c_a, I f1].toArray, .agg [.slice A_b e1.length c_b, .slice A_c d1.length c_c].toArray] w (Bz.post w0 L r1) := by
  unfold Bz.f at H
  refine cG func180 Z ?_
  refine sQ ?_
  refine rG ?_
  refine GO.box (cs := [.slice A_a a1.length c_a, I f1]) HS Z Z Z Z ?_; intro b1 wd2 HS
  refine GO.box (cs := [.slice A_b e1.length c_b, .slice A_c d1.length c_c]) HS Z Z Z Z ?_; intro b3 wd4 HS
  refine aS Z ?_
  refine nL ?_
  refine rN 3 Z ?_
  obtain ⟨c5, H⟩ := iN H
  obtain ⟨c6, H⟩ := iN H
  refine rG ?_
  refine fL b1 0 Iu Z ?_
  refine lB 1 HS Z Ni Z ?_
  refine lS Z Z underlying56 Z ?_
  refine GO.mul Z Z Z Z ?_
  refine GO.make (T := L6) false () HS Bv Z Z Z underlying191 rQ Z Z Z c5 c6 Z ?_; intro b7 wd8 HS
  refine aS Z ?_
  refine nL ?_
  refine rN 2 Z ?_
  refine rG ?_
  refine mV Z ?_
  refine lS Z Z underlying191 Z ?_
  refine mV Z ?_
  refine nL ?_
  refine rN 2 Z ?_
  refine G.name (fun x1 t1 => ?_)
  have u1 : ∀ i1, i1 ≤ K → ∀ (A82 : Option Addr) (c83 : Nat) (g1 : List (List Int)) (y85 : Nat → (Ty.slice 2 (Bq .i64)).Lay) (n1 : List Bool) (x87 : Int) (w : World), Bz.l1 K i1 a1 f1 e1 d1 g1 n1 x87 = some r1 → St w0 w (Box b1 58 [.slice A_a a1.length c_a, I f1] :: Box b3 178 [.slice A_b e1.length c_b, .slice A_c d1.length c_c] :: Own (Ty.slice 2 (Bq .i64)) 43 A82 c83 y85 g1 :: Own L6 4 (some ⟨b7, 0, none⟩) ((w64 (4 * (a1.length : Int))).toNat) (fun _ => ()) n1 :: L) → G prog 180 58 [(2, .pointer (some ⟨b1, 0, none⟩)), (3, .pointer (some ⟨b3, 0, none⟩)), (5, .slice A82 g1.length c83), (6, .slice (some ⟨b7, 0, none⟩) n1.length ((w64 (4 * (a1.length : Int))).toNat)), (17, I ((List.replicate (w64 (4 * (a1.length : Int))).toNat false).length : Int)), (18, I x87)] x1 w (Bz.post w0 L r1) := by
   intro i1
   induction i1 using Nat.strongRecOn with
   | _ i1 q1 =>
    intro b2 A82 c83 g1 y85 n1 x87 w H HS
    cases i1 with
    | zero => rw [Bz.l1] at H; cases H
    | succ p1 =>
     rw [Bz.l1] at H
     subst t1
     refine rN 3 Z ?_
     rcases iE H with ⟨c161, H⟩ | ⟨c161, H⟩
     ·
      refine yB Z (tT c161) ?_
      refine rN 12 Z ?_
      refine G.name (fun y1 v1 => ?_)
      have z1 : ∀ h1, h1 ≤ p1 → ∀ (m1 : List Bool) (A180 : Option Addr) (c181 : Nat) (k1 : List Int) (c1 : Int) (w : World), Bz.l4 K h1 a1 f1 e1 d1 g1 x87 m1 k1 c1 = some r1 → St w0 w (Box b1 58 [.slice A_a a1.length c_a, I f1] :: Box b3 178 [.slice A_b e1.length c_b, .slice A_c d1.length c_c] :: Own (Ty.slice 2 (Bq .i64)) 43 A82 c83 y85 g1 :: Own L6 4 (some ⟨b7, 0, none⟩) ((w64 (4 * (a1.length : Int))).toNat) (fun _ => ()) m1 :: Own (Bq .i64) 2 A180 c181 (fun _ => ()) k1 :: L) → G prog 180 58 [(2, .pointer (some ⟨b1, 0, none⟩)), (3, .pointer (some ⟨b3, 0, none⟩)), (5, .slice A82 g1.length c83), (6, .slice (some ⟨b7, 0, none⟩) m1.length ((w64 (4 * (a1.length : Int))).toNat)), (8, .slice A180 k1.length c181), (9, I c1), (17, I ((List.replicate (w64 (4 * (a1.length : Int))).toNat false).length : Int)), (18, I x87)] y1 w (Bz.post w0 L r1) := by
       intro h1
       induction h1 using Nat.strongRecOn with
       | _ h1 s1 =>
        intro a2 m1 A180 c181 k1 c1 w H HS
        cases h1 with
        | zero => rw [Bz.l4] at H; cases H
        | succ o1 =>
         rw [Bz.l4] at H
         subst v1
         refine rN 2 Z ?_
         obtain ⟨c209, H⟩ := iN H
         refine rG ?_
         refine pS 2 Z ?_
         refine GO.ix Z Z Z underlying191 sz4 (fun _ => ⟨_, _, Z⟩) c209.1 c209.2 Z ?_
         refine GO.Fq (T := L6) (n := c1.toNat) (o := 0) HS (Aq.own (j := 3) Z) Z Z (getD_some (d := false) (ltN c209)) Z Z na4 Z ?_
         refine GO.not Z Z Z ?_
         refine nL ?_
         rcases iE H with ⟨c210, H⟩ | ⟨c210, H⟩
         ·
          refine nB Z (congrArg Bool.not c210) ?_
          refine rN 2 Z ?_
          refine rG ?_
          refine mV Z ?_
          refine lS Z Z underlying43 Z ?_
          refine GO.gtr Z Z Z Z ?_
          refine nL ?_
          rcases iE H with ⟨c211, H⟩ | ⟨c211, H⟩
          ·
           refine yB Z (tT c211) ?_
           obtain ⟨c217, H⟩ := iN H
           refine rG ?_
           refine pS 2 Z ?_
           refine GO.F3 (el := 43) ([.slice A180 k1.length c181]) HS Z Z (fun _ => by kernel_rfl) Z ?_; intro b212 wd213 HS
           replace HS := HS.pk 6 [3, 0, 5, 1, 2, 4] Z
           refine GO.aT (S := (Bq .i64)) (u := 2) HS Z Z Z underlying161 tH Z Z c217 Z ?_; intro A215 c216 y218 wd214 HS
           refine aS Z ?_
           refine nL ?_
           refine rN 3 Z ?_
           refine G.weak ?_ (q1 o1 (by omega) (by omega) _ _ _ _ _ _ _ H (HS.pk 5 [2, 3, 0, 4] Z))
           exact ⟨Z, Z, Z, Z, Z, Z, tv⟩
          refine nB Z (tF c211) ?_
          refine rN 4 Z ?_
          refine G.weak ?_ (q1 o1 (by omega) (by omega) _ _ _ _ _ _ _ H (HS.pk 5 [0, 1, 2, 3] Z))
          exact ⟨Z, Z, Z, Z, Z, Z, tv⟩
         refine yB Z (congrArg Bool.not (Ca c210)) ?_
         refine rN 3 Z ?_
         refine rG ?_
         refine pS 2 Z ?_
         refine GO.ix Z Z Z underlying191 sz4 (fun _ => ⟨_, _, Z⟩) c209.1 c209.2 Z ?_
         refine GO.M5 (T := L6) (j := 3) (n := c1.toNat) (o := 0) (vs := [.bool true]) true HS Z Bv Z Z Z Z (htN na4 Z) Z (getD_some (d := false) (ltN c209)) Z Z ?_; intro wd219 HS
         refine nL ?_
         refine G.len (t := 6) (m := (m1.set c1.toNat true).length) Z (by simp only [List.length_set] <;> rfl) ?_
         refine sQ ?_
         obtain ⟨c225, H⟩ := iN H
         refine rG ?_
         refine pS 2 Z ?_
         refine GO.F3 (el := 2) ([I c1]) HS Z Z (fun _ => by kernel_rfl) Z ?_; intro b220 wd221 HS
         refine GO.app1 (T := (Bq .i64)) (j := 5) (jb := 0) c1 HS Z Z Bv Z Z Z underlying43 S9 Z Z Z c225 Z ?_; intro A223 c224 wd222 HS
         refine aS Z ?_
         refine nL ?_
         refine sQ ?_
         obtain ⟨t226, t227, h228, H⟩ := Dk H
         refine rG ?_
         refine GO.Bu (j := 1) ([.slice A_a a1.length c_a, I f1]) HS Z Z Z Z Np Z ?_
         refine GO.Bu (j := 2) ([.slice A_b e1.length c_b, .slice A_c d1.length c_c]) HS Z Z Z Z Kg Z ?_
         refine mV Z ?_
         refine GO.quo Z Z Z (by decide) Z ?_
         refine pS 2 Z ?_
         refine GO.rem Z Z Z (by decide) Z ?_
         refine GO.I9 (.agg [I (w64 (c1.tdiv 4)), I ((w64 (c1 + 1)).tmod 4)].toArray) Z Z (fun _ => by kernel_rfl) Z ?_
         refine fN Z func198 nE.1 nE.2 Z Z (Hr.calls HS (rD 6 r_a) (rD 6 r_b) (rD 6 r_c) h228) (fun _ wd229 ⟨h230, HS⟩ => ⟨_, h230, ?_⟩)
         refine GO.alloc HS Z lN Z Z ?_; intro b231 wd232 HS
         refine GO.C8 (j := 0) (vs := [I t226, I t227]) ([I t226, I t227]) HS Z Z Z Z Z (htA Q5) Z Z Z ?_; intro wd233 HS
         refine nL ?_
         refine rG ?_
         refine fL b231 0 Rv Z ?_
         refine lB 0 HS Z na2 Z ?_
         refine GO.mul Z Z Z Z ?_
         refine fL b231 1 Y0 Z ?_
         refine lB 0 HS Z na2 Z ?_
         refine pS 2 Z ?_
         refine nL ?_
         refine rN 2 Z ?_
         refine G.weak ?_ (s1 o1 (Nat.lt_succ_of_le (lR _)) (Nat.le_of_succ_le a2) _ _ _ _ _ _ H (HS.pk 7 [2, 3, 4, 5, 6] Z))
         exact ⟨Z, Z, Z, Z, Z, Z, Z, Z, tv⟩
      replace HS := HS.Gr (Bq .i64) 2 (fun _ => ())
      refine G.weak ?_ (z1 p1 (lR _) _ _ _ _ _ _ H (HS.pk 5 [1, 2, 3, 4, 0] Z))
      exact ⟨Z, Z, Z, Z, Z, Z, Z, Z, tv⟩
     refine nB Z (tF c161) ?_
     refine rN 3 Z ?_
     obtain rfl := sI H
     exact rT _ func180 Z Z ⟨_, _, _, Z, (HS.pk 4 [2] Z)⟩
  replace HS := HS.Gr (Ty.slice 2 (Bq .i64)) 43 (fun _ => ⟨none, 0, (fun _ => ())⟩)
  refine G.weak ?_ (u1 K (lR _) _ _ _ _ _ _ _ H (HS.pk 4 [3, 2, 0, 1] Z))
  exact ⟨Z, Z, Z, Z, Z, Z, tv⟩
theorem Kj.calls {list : List (List Int)} {A_a : Option Addr} {c_a : Nat} {y_a : Nat → (Ty.slice 2 (Bq .i64)).Lay} {r1 : Int} (HS : St w0 w (L)) (r_a : Aq w0 L (Ty.slice 2 (Bq .i64)) A_a c_a y_a list) (H : Kj.f list = some r1) :
    Calls prog 179 #[.slice A_a list.length c_a] w (Kj.post w0 L r1) := by
  unfold Kj.f at H
  refine cG func179 Z ?_
  refine rN 3 Z (rG (mV Z (lS Z Z underlying161 Z (aS Z (nL ?_)))))
  obtain rfl := sI H
  exact rT _ func179 Z Z ⟨Z, HS⟩
theorem Fz.calls {n_ : Int} {r1 : List Int} (HS : St w0 w (L)) (H : Fz.f K n_ = some r1) :
    Calls prog 200 #[I n_] w (Fz.post w0 L r1) := by
  unfold Fz.f at H
  refine cG func200 Z ?_
  refine rN 9 Z ?_
  refine G.name (fun c1 f1 => ?_)
  have g1 : ∀ a1, a1 ≤ K → ∀ (A8 : Option Addr) (c9 : Nat) (b1 : List Int) (x11 : Int) (w : World), Fz.l1 K a1 n_ b1 x11 = some r1 → St w0 w (Own (Bq .i64) 2 A8 c9 (fun _ => ()) b1 :: L) → G prog 200 15 [(3, .slice A8 b1.length c9), (5, I n_), (6, I x11)] c1 w (Fz.post w0 L r1) := by
   intro a1
   induction a1 using Nat.strongRecOn with
   | _ a1 e1 =>
    intro h1 A8 c9 b1 x11 w H HS
    cases a1 with
    | zero => rw [Fz.l1] at H; cases H
    | succ d1 =>
     rw [Fz.l1] at H
     subst f1
     refine rN 3 Z ?_
     rcases iE H with ⟨c19, H⟩ | ⟨c19, H⟩
     ·
      refine yB Z (tT c19) (rN 5 Z ?_)
      obtain ⟨c25, H⟩ := iN H
      refine rG (pS 2 Z (GO.F3 (el := 2) ([I x11]) HS Z Z (fun _ => by kernel_rfl) Z fun b20 wd21 HS => GO.app1 (T := (Bq .i64)) (j := 1) (jb := 0) x11 HS Z Z Bv Z Z Z underlying43 S9 Z Z Z c25 Z fun A23 c24 wd22 HS => aS Z (nL (rN 3 Z (G.weak ?_ (e1 d1 (Nat.lt_succ_of_le (lR _)) (Nat.le_of_succ_le h1) _ _ _ _ _ H (HS.pk 2 [1] Z)))))))
      exact ⟨Z, Z, Z, tv⟩
     refine nB Z (tF c19) (rN 3 Z ?_)
     obtain rfl := sI H
     exact rT _ func200 Z Z ⟨_, _, Z, HS⟩
  replace HS := HS.Gr (Bq .i64) 2 (fun _ => ())
  refine G.weak ?_ (g1 K (lR _) _ _ _ _ _ H HS)
  exact ⟨Z, Z, Z, tv⟩
theorem G8.calls {sets : List Int} {i k_ : Int} {A_a : Option Addr} {c_a : Nat} {r1 : List Int} (HS : St w0 w (Own (Bq .i64) 2 A_a c_a (fun _ => ()) sets :: L)) (H : G8.f K sets i k_ = some r1) :
    Calls prog 201 #[.slice A_a sets.length c_a, I i, I k_] w (G8.post w0 L A_a c_a r1) := by
  unfold G8.f at H
  refine cG func201 Z ?_
  refine sQ ?_
  obtain ⟨c1, H⟩ := iN H
  have h2 := ((Aq.own (j := 0) Z) _ HS).2.2.1
  obtain ⟨c3, H⟩ := iN H
  have h4 := ((Aq.own (j := 0) Z) _ HS).2.2.1
  refine G.lex mixed [0, 1, 2, 4, 5, 6, 3, 8, 7, 9] (by kernel_rfl) ?_
  replace HS := HS.drew
  refine GX.ps 2 Z (qL Z Z (fun _ _ g => GO.ix Z Z Z underlying43 sz2 h2 c1.1 c1.2 Z g) Z (GX.ps 2 Z (qL Z Z (fun _ _ g => GO.ix Z Z Z underlying43 sz2 h4 c3.1 c3.2 Z g) Z (GX.l1 Z Z Z (fun _ g => GO.Fq (T := (Bq .i64)) (n := k_.toNat) (o := 0) HS (Aq.own (j := 0) Z) Z Z (getD_some (d := 0) (ltN c1)) Z Z na2 Z g) Z (GX.ps 1 Z (GX.l1 Z Z Z (fun _ g => GO.Fq (T := (Bq .i64)) (n := i.toNat) (o := 0) HS (Aq.own (j := 0) Z) Z Z (getD_some (d := 0) (ltN c3)) Z Z na2 Z g) Z (GX.ps 1 Z (GX.nil (sQ (rG (mV Z (lS Z Z underlying43 Z (mV Z (nL ?_))))))))))))))
  refine rN 2 Z ?_
  refine G.name (fun f1 g1 => ?_)
  have h1 : ∀ a1, a1 ≤ K → ∀ (x9 : List Int) (x10 : Int) (w : World), G8.l1 K a1 sets i k_ x9 x10 = some r1 → St w0 w (Own (Bq .i64) 2 A_a c_a (fun _ => ()) x9 :: L) → G prog 201 33 [(0, .slice A_a x9.length c_a), (6, I (sets.getD k_.toNat 0)), (7, I (sets.getD i.toNat 0)), (18, .slice A_a x9.length c_a), (19, I (sets.length : Int)), (20, I x10)] f1 w (G8.post w0 L A_a c_a r1) := by
   intro a1
   induction a1 using Nat.strongRecOn with
   | _ a1 d1 =>
    intro e1 x9 x10 w H HS
    cases a1 with
    | zero => rw [G8.l1] at H; cases H
    | succ b1 =>
     rw [G8.l1] at H
     subst g1
     refine rN 3 Z ?_
     rcases iE H with ⟨c15, H⟩ | ⟨c15, H⟩
     ·
      refine yB Z (tT c15) (rN 4 Z ?_)
      obtain ⟨c16, H⟩ := iN H
      refine rG (mV Z (GO.ix Z Z Z underlying43 sz2 ((Aq.own (j := 0) Z) _ HS).2.2.1 c16.1 c16.2 Z (GO.Fq (T := (Bq .i64)) (n := x10.toNat) (o := 0) HS (Aq.own (j := 0) Z) Z Z (getD_some (d := 0) (ltN c16)) Z Z na2 Z (pS 2 Z (nL (rN 2 Z ?_))))))
      rcases iE H with ⟨c17, H⟩ | ⟨c17, H⟩
      ·
       refine yB Z (tT c17) (rG (pS 3 Z (GO.ix Z Z Z underlying43 sz2 ((Aq.own (j := 0) Z) _ HS).2.2.1 c16.1 c16.2 Z (GO.M5 (T := (Bq .i64)) (j := 0) (n := x10.toNat) (o := 0) (vs := [I (sets.getD i.toNat 0)]) (sets.getD i.toNat 0) HS Z Bv Z Z Z Z (htN na2 Z) Z (getD_some (d := 0) (ltN c16)) Z Z fun wd18 HS => nL (G.len (t := 0) (m := (x9.set x10.toNat (sets.getD i.toNat 0)).length) Z (by simp only [List.length_set] <;> rfl) (G.len (t := 18) (m := (x9.set x10.toNat (sets.getD i.toNat 0)).length) Z (by simp only [List.length_set] <;> rfl) (rN 3 Z (G.weak ?_ (d1 b1 (Nat.lt_succ_of_le (lR _)) (Nat.le_of_succ_le e1) _ _ _ H HS)))))))))
       exact ⟨Z, Z, Z, Z, Z, Z, tv⟩
      refine nB Z (tF c17) (rN 4 Z (G.weak ?_ (d1 b1 (Nat.lt_succ_of_le (lR _)) (Nat.le_of_succ_le e1) _ _ _ H HS)))
      exact ⟨Z, Z, Z, Z, Z, Z, tv⟩
     refine nB Z (tF c15) (G.exit Z ?_)
     obtain rfl := sI H
     exact G.yM func201 Z ⟨Z, HS⟩
  refine G.weak ?_ (h1 K (lR _) _ _ _ H HS)
  exact ⟨Z, Z, Z, Z, Z, Z, tv⟩
theorem Cz.calls {roots : List Int} {A_a : Option Addr} {c_a : Nat} {r1 : List Int} (HS : St w0 w (L)) (r_a : Aq w0 L (Bq .i64) A_a c_a (fun _ => ()) roots) (H : Cz.f K roots = some r1) :
    Calls prog 202 #[.slice A_a roots.length c_a] w (Cz.post w0 L r1) := by
  unfold Cz.f at H
  refine cG func202 Z ?_
  refine rN 3 Z (rG (GO.Zw .i64 .i64 HS Z Z fun b1 wd2 HS => aS Z (nL (rN 4 Z (rG (mV Z (lS Z Z underlying43 Z (mV Z (nL (rN 2 Z ?_))))))))))
  refine G.name (fun k1 p1 => ?_)
  have q1 : ∀ c1, c1 ≤ K → ∀ (f1 : List (Int × Int)) (A17 : Option Addr) (c18 : Nat) (a1 : List Int) (x20 : Int) (w : World), Cz.l1 K c1 roots f1 a1 x20 = some r1 → St w0 w (Tm b1 .i64 .i64 f1 :: Own (Bq .i64) 2 A17 c18 (fun _ => ()) a1 :: L) → G prog 202 36 [(3, .map (some b1)), (4, .slice A17 a1.length c18), (10, .slice A_a roots.length c_a), (11, I (roots.length : Int)), (12, I x20)] k1 w (Cz.post w0 L r1) := by
   intro c1
   induction c1 using Nat.strongRecOn with
   | _ c1 m1 =>
    intro t1 f1 A17 c18 a1 x20 w H HS
    cases c1 with
    | zero => rw [Cz.l1] at H; cases H
    | succ g1 =>
     rw [Cz.l1] at H
     subst p1
     refine rN 3 Z ?_
     rcases iE H with ⟨c34, H⟩ | ⟨c34, H⟩
     ·
      refine yB Z (tT c34) (rN 4 Z ?_)
      obtain ⟨c35, H⟩ := iN H
      refine rG (GO.ix Z Z Z underlying43 sz2 ((rD 2 r_a) _ HS).2.2.1 c35.1 c35.2 Z (GO.Fq (T := (Bq .i64)) (n := x20.toNat) (o := 0) HS (rD 2 r_a) Z Z (getD_some (d := 0) (ltN c35)) Z Z na2 Z (aS Z (nL (rN 2 Z (rG (pS 2 Z (GO.qF (j := 0) HS Z Z Z Z underlying234 underlying2 zr2 Z (pS 5 Z (nL (rN 2 Z ?_)))))))))))
      refine G.Ps (fun n1 o1 => ?_)
      have h1 : ∀ e1, e1 ≤ g1 → ∀ (d1 : List (Int × Int)) (w : World), Cz.j4 K e1 roots a1 x20 d1 = some r1 → St w0 w (Tm b1 .i64 .i64 d1 :: Own (Bq .i64) 2 A17 c18 (fun _ => ()) a1 :: L) → G prog 202 36 [(3, .map (some b1)), (4, .slice A17 a1.length c18), (6, I (roots.getD x20.toNat 0)), (10, .slice A_a roots.length c_a), (11, I (roots.length : Int)), (12, I x20)] n1 w (Cz.post w0 L r1) := by
       intro e1 s1 d1 w H HS
       cases e1 with
       | zero => rw [Cz.j4] at H; cases H
       | succ i1 =>
        rw [Cz.j4] at H
        subst o1
        obtain ⟨c44, H⟩ := iN H
        refine rG (pS 3 Z (GO.yC (j := 0) HS Z Z Z Z underlying234 underlying2 zr2 Z (GO.F3 (el := 2) ([I ((Mx d1 (roots.getD x20.toNat 0)).getD 0)]) HS Z Z (fun _ => by kernel_rfl) Z fun b39 wd40 HS => GO.app1 (T := (Bq .i64)) (j := 2) (jb := 0) ((Mx d1 (roots.getD x20.toNat 0)).getD 0) HS Z Z Bv Z Z Z underlying43 S9 Z Z Z c44 Z fun A42 c43 wd41 HS => aS Z (nL (rN 3 Z (G.weak ?_ (m1 i1 (by omega) (by omega) _ _ _ _ _ _ H (HS.pk 3 [1, 2] Z))))))))
        exact ⟨Z, Z, Z, Z, Z, tv⟩
      rcases iE H with ⟨c45, H⟩ | ⟨c45, H⟩
      ·
       refine nB Z (congrArg Bool.not c45) (G.skip (G.weak ?_ (h1 g1 (lR _) _ _ H HS)))
       exact ⟨Z, Z, Z, Z, Z, Z, tv⟩
      refine yB Z (congrArg Bool.not (Ca c45)) (rG (pS 3 Z (GO.xV (j := 0) HS Z Z Z underlying234 Z (GO.xK (j := 0) HS Z Z Z Z Z underlying234 underlying2 fun wd46 HS => nL (G.weak ?_ (h1 g1 (lR _) _ _ H HS))))))
      exact ⟨Z, Z, Z, Z, Z, Z, tv⟩
     refine nB Z (tF c34) (rN 3 Z ?_)
     obtain rfl := sI H
     exact rT _ func202 Z Z ⟨_, _, Z, (HS.pk 2 [1] Z)⟩
  replace HS := HS.Gr (Bq .i64) 2 (fun _ => ())
  refine G.weak ?_ (q1 K (lR _) _ _ _ _ _ _ H (HS.pk 2 [1, 0] Z))
  exact ⟨Z, Z, Z, Z, Z, tv⟩
theorem C9.calls {e1 : List Al} {g1 : Int} {a1 c1 : List Fv} {A_a : Option Addr} {c_a : Nat} {A_b : Option Addr} {c_b : Nat} {A_c : Option Addr} {c_c : Nat} {r1 : List Int} (HS : St w0 w (L)) (r_a : Aq w0 L Bb A_a c_a (fun _ => ()) e1) (r_b : Aq w0 L Gl A_b c_b (fun _ => ()) a1) (r_c : Aq w0 L Gl A_c c_c (fun _ => ()) c1) (H : C9.f K e1 g1 a1 c1 = some r1) :
    Calls prog 182 #[.agg [.slice A_a e1.length c_a, I g1].toArray, .agg [.slice A_b a1.length c_b, .slice A_c c1.length c_c].toArray] w (C9.post w0 L r1) := by
  unfold C9.f at H
  refine cG func182 Z ?_
  refine sQ (rG (GO.box (cs := [.slice A_a e1.length c_a, I g1]) HS Z Z Z Z fun b1 wd2 HS => GO.box (cs := [.slice A_b a1.length c_b, .slice A_c c1.length c_c]) HS Z Z Z Z fun b3 wd4 HS => aS Z (nL (sQ ?_))))
  obtain ⟨t5, h6, H⟩ := bI H
  obtain ⟨t9, h10, H⟩ := bI H
  refine rG (fL b1 0 Iu Z (lB 1 HS Z Ni Z (fN Z func175 Y8.1 Y8.2 Z Z (Em.calls HS (rD 2 r_a) h6) (fun _ wd7 ⟨h8, HS⟩ => ⟨_, h8, (fN Z func200 lU.1 lU.2 Z Z (Fz.calls HS  h10) (fun _ wd13 ⟨A11, c12, h14, HS⟩ => ⟨_, h14, (aS Z (nL (rN 2 Z (rG (fL b3 0 Zp Z (lB 1 HS Z X9 Z (lS Z Z underlying176 Z (mV Z (nL (rN 2 Z ?_))))))))))⟩))⟩))))
  refine G.name (fun h1 m1 => ?_)
  have n1 : ∀ d1, d1 ≤ K → ∀ (f1 : List Int) (x37 : Int) (w : World), C9.l1 K d1 a1 c1 f1 x37 = some r1 → St w0 w (Box b3 178 [.slice A_b a1.length c_b, .slice A_c c1.length c_c] :: Own (Bq .i64) 2 A11 c12 (fun _ => ()) f1 :: L) → G prog 182 33 [(3, .pointer (some ⟨b3, 0, none⟩)), (5, .slice A11 f1.length c12), (13, .slice A_b a1.length c_b), (14, I (a1.length : Int)), (15, I x37)] h1 w (C9.post w0 L r1) := by
   intro d1
   induction d1 using Nat.strongRecOn with
   | _ d1 k1 =>
    intro o1 f1 x37 w H HS
    cases d1 with
    | zero => rw [C9.l1] at H; cases H
    | succ i1 =>
     rw [C9.l1] at H
     subst m1
     refine rN 3 Z ?_
     rcases iE H with ⟨c59, H⟩ | ⟨c59, H⟩
     ·
      refine yB Z (tT c59) (rN 4 Z ?_)
      obtain ⟨c60, H⟩ := iN H
      obtain ⟨e61, h62, H⟩ := Cn H
      refine rG (mV Z (GO.ix Z Z Z underlying176 Ql ((rD 2 r_b) _ HS).2.2.1 c60.1 c60.2 Z (GO.Ja (T := Gl) (n := x37.toNat) HS (rD 2 r_b) Z Z (getD_eq (ltN c60) h62) Q5 Z (GO.alloc HS Z lN Z Z fun b63 wd64 HS => aS Z (GO.C8 (j := 0) (vs := [I e61.crossing, I e61.position]) ([I e61.crossing, I e61.position]) HS Z Z Z Z Z (htA Q5) Z Z Z fun wd65 HS => nL ?_)))))
      obtain ⟨c66, H⟩ := iN H
      obtain ⟨e67, h68, H⟩ := Cn H
      obtain ⟨t69, h70, H⟩ := bI H
      obtain ⟨c71, H⟩ := iN H
      refine G.lex mixed [0, 1, 3, 5, 2, 4, 6, 7, 8, 9] (by kernel_rfl) ?_
      replace HS := HS.drew
      refine GX.ps 1 Z (qL Z Z (fun _ _ g => fL b63 0 Rv Z g) Z (qL Z Z (fun _ _ g => fL b3 1 Zc Z g) Z (GX.ps 1 Z (GX.l1 Z Z Z (fun _ g => lB 0 HS Z na2 Z g) Z (GX.l1 Z Z Z (fun _ g => lB 1 HS Z X9 Z g) Z (qL Z Z (fun _ _ g => GO.ix Z Z Z underlying176 Ql ((rD 3 r_c) _ HS).2.2.1 c66.1 c66.2 Z g) Z (qL Z Z (fun _ _ g => GO.fld (ea A_c (x37.toNat * 2)) Z Z Rv Z Z g) Z (GX.l1 Z Z Z (fun _ g => GO.Fq (T := Gl) (n := x37.toNat) (o := 0) HS (rD 3 r_c) Z Z (getD_eq (ltN c66) h68) Z Z na2 Z g) Z (GX.l2 Z ?_)))))))))
      replace HS := HS.pk 3 [2, 0, 1] Z
      refine fN Z func201 mJ.1 mJ.2 Z Z (G8.calls HS  h70) (fun _ wd72 ⟨h73, HS⟩ => ⟨_, h73, (GX.fin tv (GX.nil (G.len (t := 5) (m := t69.length) Z (by simp only [List.length_set, c71] <;> rfl) (rN 3 Z (G.weak ?_ (k1 i1 (Nat.lt_succ_of_le (lR _)) (Nat.le_of_succ_le o1) _ _ _ H (HS.pk 3 [2, 0] Z)))))))⟩)
      exact ⟨Z, Z, Z, Z, Z, tv⟩
     refine nB Z (tF c59) (rN 2 Z ?_)
     obtain ⟨t74, h75, H⟩ := bI H
     refine rG (mV Z (fN Z func202 kV.1 kV.2 Z Z (Cz.calls HS (Aq.own (j := 1) Z) h75) (fun _ wd78 ⟨A76, c77, h79, HS⟩ => ⟨_, h79, (aS Z (nL ?_))⟩)))
     obtain rfl := sI H
     exact rT _ func182 Z Z ⟨_, _, Z, (HS.pk 3 [0] Z)⟩
  refine G.weak ?_ (n1 K (lR _) _ _ _ H (HS.pk 3 [1, 0] Z))
  exact ⟨Z, Z, Z, Z, Z, tv⟩
theorem Cm.calls {x : List Int} {A_a : Option Addr} {c_a : Nat} {r1 : Int} (HS : St w0 w (L)) (r_a : Aq w0 L (Bq .i64) A_a c_a (fun _ => ()) x) (H : Cm.f K x = some r1) :
    Calls prog 199 #[.slice A_a x.length c_a] w (Cm.post w0 L r1) := by
  unfold Cm.f at H
  refine cG func199 Z ?_
  refine rN 4 Z (rG (mV Z (lS Z Z underlying43 Z (GO.lss Z Z Z Z (nL ?_)))))
  rcases iE H with ⟨c2, H⟩ | ⟨c2, H⟩
  ·
   refine yB Z (tT c2) ?_
   cases H
  refine nB Z (tF c2) (rN 2 Z ?_)
  obtain ⟨c3, H⟩ := iN H
  refine rG (mV Z (GO.ix Z Z Z underlying43 sz2 (r_a _ HS).2.2.1 c3.1 c3.2 Z (GO.Fq (T := (Bq .i64)) (n := 0) (o := 0) HS r_a Z Z (getD_some (d := 0) (ltN c3)) Z Z na2 Z (aS Z (nL (rN 5 Z ?_))))))
  refine G.name (fun g1 f1 => ?_)
  have b1 : ∀ a1, a1 ≤ K → ∀ (m_6 i_7 : Int) (w : World), Cm.l2 K a1 x m_6 i_7 = some r1 → St w0 w (L) → G prog 199 25 [(0, .slice A_a x.length c_a), (3, I m_6), (4, I i_7)] g1 w (Cm.post w0 L r1) := by
   intro a1
   induction a1 using Nat.strongRecOn with
   | _ a1 c1 =>
    intro d1 m_6 i_7 w H HS
    cases a1 with
    | zero => rw [Cm.l2] at H; cases H
    | succ e1 =>
     rw [Cm.l2] at H
     subst f1
     refine rN 2 Z (rG (pS 2 Z (lS Z Z underlying43 Z (GO.lss Z Z Z Z (nL ?_)))))
     rcases iE H with ⟨c10, H⟩ | ⟨c10, H⟩
     ·
      refine yB Z (tT c10) (rN 3 Z ?_)
      obtain ⟨c11, H⟩ := iN H
      refine rG (pS 3 Z (GO.ix Z Z Z underlying43 sz2 (r_a _ HS).2.2.1 c11.1 c11.2 Z (GO.Fq (T := (Bq .i64)) (n := i_7.toNat) (o := 0) HS r_a Z Z (getD_some (d := 0) (ltN c11)) Z Z na2 Z (GO.max2 Z Z Z Z (aS Z (nL (rN 3 Z (G.weak ?_ (c1 e1 (Nat.lt_succ_of_le (lR _)) (Nat.le_of_succ_le d1) _ _ _ H HS)))))))))
      exact ⟨Z, Z, Z, tv⟩
     refine nB Z (tF c10) (rN 3 Z ?_)
     obtain rfl := sI H
     exact rT _ func199 Z Z ⟨Z, HS⟩
  refine G.weak ?_ (b1 K (lR _) _ _ _ H HS)
  exact ⟨Z, Z, Z, tv⟩
theorem Ik.calls {classes : List Int} {A_a : Option Addr} {c_a : Nat} {r1 : Int} (HS : St w0 w (L)) (r_a : Aq w0 L (Bq .i64) A_a c_a (fun _ => ()) classes) (H : Ik.f K classes = some r1) :
    Calls prog 181 #[.slice A_a classes.length c_a] w (Ik.post w0 L r1) := by
  unfold Ik.f at H
  refine cG func181 Z ?_
  refine rN 4 Z (rG (mV Z (lS Z Z underlying43 Z (GO.eql Z Z Z Z (nL ?_)))))
  rcases iE H with ⟨c1, H⟩ | ⟨c1, H⟩
  ·
   refine yB Z (tT c1) (rN 2 Z ?_)
   obtain rfl := sI H
   exact rT _ func181 Z Z ⟨Z, HS⟩
  refine nB Z (tF c1) (rN 2 Z ?_)
  obtain ⟨t2, h3, H⟩ := bI H
  refine rG (mV Z (fN Z func199 jJ.1 jJ.2 Z Z (Cm.calls HS r_a h3) (fun _ wd4 ⟨h5, HS⟩ => ⟨_, h5, (pS 2 Z (nL ?_))⟩)))
  obtain rfl := sI H
  exact rT _ func181 Z Z ⟨Z, HS⟩
theorem Gb.calls {a1 : List Al} {c1 : Int} {A_a : Option Addr} {c_a : Nat} {r1 r2 : List Fv} {r3 : Bool} (HS : St w0 w (L)) (r_a : Aq w0 L Bb A_a c_a (fun _ => ()) a1) (H : Gb.f K a1 c1 = some (r1, r2, r3)) :
    Calls prog 142 #[.agg [.slice A_a a1.length c_a, I c1].toArray] w (Gb.post w0 L r1 r2 r3) := by
  unfold Gb.f at H
  refine cG func142 Z ?_
  refine sQ (rG (GO.box (cs := [.slice A_a a1.length c_a, I c1]) HS Z Z Z Z fun b1 wd2 HS => GO.alloc HS Z aC Z Z fun b3 wd4 HS => aS Z (nL (sQ ?_))))
  obtain ⟨t5, h6, H⟩ := bI H
  refine rG (fL b1 0 Iu Z (lB 1 HS Z Ni Z (fN Z func175 Y8.1 Y8.2 Z Z (Em.calls HS (rD 2 r_a) h6) (fun _ wd7 ⟨h8, HS⟩ => ⟨_, h8, (aS Z (nL (rN 2 Z ?_)))⟩))))
  rcases iE H with ⟨c19, H⟩ | ⟨c19, H⟩
  ·
   refine rG (pS 3 Z (kN 12 Z (tT c19) (oF Z (oF Z (oF Z (oF Z (pS 2 Z (oF Z (oF Z (oF Z (GO.Ip Z Z Z Z Z (nL (rN 2 Z (rG ?_))))))))))))))
   refine GO.I9 (.agg [.slice none 0 0, .slice none 0 0].toArray) Z Z (fun _ => by kernel_rfl) Z (GO.C8 (j := 0) (vs := [.slice none 0 0, .slice none 0 0]) ([.slice none 0 0, .slice none 0 0]) HS Z Z Z Z Z (htA Kg) Z Z Z fun wd20 HS => aS Z (nL ?_))
   replace HS := HS.Gr Gl 223 (fun _ => ())
   replace HS := HS.Gr Gl 223 (fun _ => ())
   obtain ⟨rfl, rfl, rfl⟩ := Pp H
   exact G.Oy _ _ func142 Z (Ki.Lr (j := 2) (vs := [.slice none 0 0, .slice none 0 0]) HS Z Z Z Kg) Z ⟨_, _, _, _, Z, (HS.pk 4 [1, 0] Z)⟩
  obtain ⟨t21, h22, H⟩ := bI H
  rcases iE H with ⟨c25, H⟩ | ⟨c25, H⟩
  ·
   obtain ⟨t26, h27, H⟩ := bI H
   refine rG (pS 3 Z (kN 12 Z (tF c19) (oN Z (fL b1 1 O1 Z (bK (oN Z (lB 1 HS Z na2 Z (bK (oN Z (fN Z func97 Kw.1 Kw.2 Z Z (Ct.calls HS  h22) (fun _ wd23 ⟨h24, HS⟩ => ⟨_, h24, (bK (oN Z (GO.not Z Z Z (bK ?_))))⟩)))))))))))
   refine pS 2 Z (kN 18 Z (congrArg Bool.not c25) (oN Z (fL b1 0 Iu Z (bK (oN Z (lB 1 HS Z Ni Z (bK (oN Z (fN Z func176 lF.1 lF.2 Z Z (Cg.calls HS (rD 2 r_a) h27) (fun _ wd28 ⟨h29, HS⟩ => ⟨_, h29, (bK (GO.Js Z Z Z Z Z (nL ?_)))⟩))))))))))
   rcases iE H with ⟨c30, H⟩ | ⟨c30, H⟩
   ·
    refine yB Z c30 (sQ (rG (GO.I9 (.agg [.slice none 0 0, .slice none 0 0].toArray) Z Z (fun _ => by kernel_rfl) Z (GO.C8 (j := 0) (vs := [.slice none 0 0, .slice none 0 0]) ([.slice none 0 0, .slice none 0 0]) HS Z Z Z Z Z (htA Kg) Z Z Z fun wd31 HS => aS Z (nL ?_)))))
    replace HS := HS.Gr Gl 223 (fun _ => ())
    replace HS := HS.Gr Gl 223 (fun _ => ())
    obtain ⟨rfl, rfl, rfl⟩ := Pp H
    exact G.Oy _ _ func142 Z (Ki.Lr (j := 2) (vs := [.slice none 0 0, .slice none 0 0]) HS Z Z Z Kg) Z ⟨_, _, _, _, Z, (HS.pk 4 [1, 0] Z)⟩
   refine nB Z (Ca c30) (rN 2 Z ?_)
   obtain ⟨t32, t33, t34, h35, H⟩ := Na H
   refine rG (GO.Bu (j := 1) ([.slice A_a a1.length c_a, I c1]) HS Z Z Z Z Np Z (fN Z func178 jM.1 jM.2 Z Z (Bg.calls HS (rD 2 r_a) h35) (fun _ wd40 ⟨A36, c37, A38, c39, h41, HS⟩ => ⟨_, h41, (pS 3 Z (GO.alloc HS Z aC Z Z fun b42 wd43 HS => GO.C8 (j := 0) (vs := [.slice A36 t32.length c37, .slice A38 t33.length c39]) ([.slice A36 t32.length c37, .slice A38 t33.length c39]) HS Z Z Z Z Z (htA Kg) Z Z Z fun wd44 HS => aS Z (nL (rN 2 Z ?_))))⟩)))
   rcases iE H with ⟨c67, H⟩ | ⟨c67, H⟩
   ·
    obtain ⟨t68, h69, H⟩ := bI H
    obtain ⟨t75, h76, H⟩ := bI H
    obtain ⟨t79, h80, H⟩ := bI H
    obtain ⟨t85, h86, H⟩ := bI H
    refine G.Oi mixed (fun w => St w0 w (Box b42 178 [.slice A36 t32.length c37, .slice A38 t33.length c39] :: Box b1 58 [.slice A_a a1.length c_a, I c1] :: L)) [3, 4, 8, 9] [0, 1, 2, 7, 3, 4, 8, 9, 5, 6, 10, 11, 12, 13, 14, 15] [] (by kernel_rfl) (by kernel_rfl) (HS.drew.pk 5 [0, 4] Z) ?_
    replace HS := HS.drew
    refine GX.ps 2 Z (qL Z Z (fun _ _ g => mV Z (kN 31 Z (congrArg Bool.not c67) g)) Z (qL Z Z (fun _ _ g => oN Z (mV Z (bK g))) Z (GX.ls Z Z Z (HS.pk 5 [0, 4] Z) (fun _ HS _ g => oN Z (GO.Bu (j := 1) ([.slice A_a a1.length c_a, I c1]) HS Z Z Z Z Np Z (bK g))) Z (GX.ls Z Z Z (HS.pk 5 [0, 4] Z) (fun _ HS _ g => oN Z (GO.Bu (j := 0) ([.slice A36 t32.length c37, .slice A38 t33.length c39]) HS Z Z Z Z Kg Z (bK g))) Z (GX.ls Z Z Z (HS.pk 5 [0, 4] Z) (fun _ HS _ g => oN Z (GO.Bu (j := 1) ([.slice A_a a1.length c_a, I c1]) HS Z Z Z Z Np Z (bK g))) Z (GX.ls Z Z Z (HS.pk 5 [0, 4] Z) (fun _ HS _ g => oN Z (GO.Bu (j := 0) ([.slice A36 t32.length c37, .slice A38 t33.length c39]) HS Z Z Z Z Kg Z (bK g))) Z (GX.l2 Z (oN Z (fN Z func180 nI.1 nI.2 Z Z (Bz.calls HS (rD 5 r_a) (Aq.own (j := 1) Z) (Aq.own (j := 2) Z) h69) (fun _ wd73 ⟨A70, c71, y72, h74, HS⟩ => ⟨_, h74, (bK (GX.fin (HS.pk 6 [1, 5] Z) (GX.l2 Z (oN Z (fN Z func179 oQ.1 oQ.2 Z Z (Kj.calls HS (Aq.own (j := 0) Z) h76) (fun _ wd77 ⟨h78, HS⟩ => ⟨_, h78, ?_⟩))))))⟩))))))))))
    refine bK (GX.fin (HS.pk 6 [1, 5] Z) (GX.l2 Z (oN Z (fN Z func182 kT.1 kT.2 Z Z (C9.calls HS (rD 6 r_a) (Aq.own (j := 2) Z) (Aq.own (j := 3) Z) h80) (fun _ wd83 ⟨A81, c82, h84, HS⟩ => ⟨_, h84, (bK (GX.fin (HS.pk 7 [2, 6] Z) (GX.l2 Z (oN Z (fN Z func181 mH.1 mH.2 Z Z (Ik.calls HS (Aq.own (j := 0) Z) h86) (fun _ wd87 ⟨h88, HS⟩ => ⟨_, h88, (bK (GX.fin (HS.pk 7 [2, 6] Z) (qL Z Z (fun _ _ g => oN Z (GO.mul Z Z Z Z (bK g))) Z (qL Z Z (fun _ _ g => oN Z (GO.add Z Z Z Z (bK g))) Z (qL Z Z (fun _ _ g => oN Z (GO.neq Z Z Z Z (bK g))) Z ?_)))))⟩))))))⟩)))))
    refine GX.ps 1 Z (GX.nil ?_)
    rcases iE H with ⟨c89, H⟩ | ⟨c89, H⟩
    ·
     refine nB Z (nT c89) (rN 2 Z (rG (GO.Bu (j := 2) ([.slice A36 t32.length c37, .slice A38 t33.length c39]) HS Z Z Z Z Kg Z (GO.C8 (j := 5) (vs := [.slice A36 t32.length c37, .slice A38 t33.length c39]) ([.slice A36 t32.length c37, .slice A38 t33.length c39]) HS Z Z Z Z Z (htA Kg) Z Z Z fun wd90 HS => aS Z (nL ?_)))))
     obtain ⟨rfl, rfl, rfl⟩ := Pp H
     exact G.Oy _ _ func142 Z (Ki.Lr (j := 5) (vs := [.slice A36 t32.length c37, .slice A38 t33.length c39]) HS Z Z Z Kg) Z ⟨_, _, _, _, Z, (HS.pk 7 [3, 4] Z)⟩
    refine yB Z (nF c89) (sQ (rG (GO.I9 (.agg [.slice none 0 0, .slice none 0 0].toArray) Z Z (fun _ => by kernel_rfl) Z (GO.C8 (j := 5) (vs := [.slice none 0 0, .slice none 0 0]) ([.slice none 0 0, .slice none 0 0]) HS Z Z Z Z Z (htA Kg) Z Z Z fun wd91 HS => aS Z (nL ?_)))))
    replace HS := HS.Gr Gl 223 (fun _ => ())
    replace HS := HS.Gr Gl 223 (fun _ => ())
    obtain ⟨rfl, rfl, rfl⟩ := Pp H
    exact G.Oy _ _ func142 Z (Ki.Lr (j := 7) (vs := [.slice none 0 0, .slice none 0 0]) HS Z Z Z Kg) Z ⟨_, _, _, _, Z, (HS.pk 9 [1, 0] Z)⟩
   refine G.Oi mixed (fun w => St w0 w (L)) [3, 4, 8, 9] [0, 1, 2, 7, 3, 4, 8, 9, 5, 6, 10, 11, 12, 13, 14, 15] [] (by kernel_rfl) (by kernel_rfl) (HS.drew.pk 5 [] Z) ?_
   replace HS := HS.drew
   refine GX.ps 2 Z (qL Z Z (fun _ _ g => mV Z (kN 31 Z (congrArg Bool.not (Ca c67)) g)) Z (qL Z Z (fun _ _ g => oF Z g) Z (GX.ls Z Z Z (HS.pk 5 [] Z) (fun _ HS _ g => oF Z g) Z (GX.ls Z Z Z (HS.pk 5 [] Z) (fun _ HS _ g => oF Z g) Z (GX.ls Z Z Z (HS.pk 5 [] Z) (fun _ HS _ g => oF Z g) Z (GX.ls Z Z Z (HS.pk 5 [] Z) (fun _ HS _ g => oF Z g) Z (GX.l2 Z (oF Z (GX.fin (HS.pk 5 [] Z) (GX.l2 Z (oF Z (GX.fin (HS.pk 5 [] Z) (GX.l2 Z (oF Z ?_))))))))))))))
   refine GX.fin (HS.pk 5 [] Z) (GX.l2 Z (oF Z (GX.fin (HS.pk 5 [] Z) (qL Z Z (fun _ _ g => oF Z g) Z (qL Z Z (fun _ _ g => oF Z g) Z (qL Z Z (fun _ _ g => oF Z g) Z (GX.ps 1 Z (GX.nil (rN 2 Z (rG (GO.I9 (.agg [.slice none 0 0, .slice none 0 0].toArray) Z Z (fun _ => by kernel_rfl) Z (GO.C8 (j := 3) (vs := [.slice none 0 0, .slice none 0 0]) ([.slice none 0 0, .slice none 0 0]) HS Z Z Z Z Z (htA Kg) Z Z Z fun wd92 HS => aS Z (nL ?_)))))))))))))
   replace HS := HS.Gr Gl 223 (fun _ => ())
   replace HS := HS.Gr Gl 223 (fun _ => ())
   obtain ⟨rfl, rfl, rfl⟩ := Pp H
   exact G.Oy _ _ func142 Z (Ki.Lr (j := 5) (vs := [.slice none 0 0, .slice none 0 0]) HS Z Z Z Kg) Z ⟨_, _, _, _, Z, (HS.pk 7 [1, 0] Z)⟩
  refine rG (pS 3 Z (kN 12 Z (tF c19) (oN Z (fL b1 1 O1 Z (bK (oN Z (lB 1 HS Z na2 Z (bK (oN Z (fN Z func97 Kw.1 Kw.2 Z Z (Ct.calls HS  h22) (fun _ wd23 ⟨h24, HS⟩ => ⟨_, h24, (bK (oN Z (GO.not Z Z Z (bK ?_))))⟩)))))))))))
  refine pS 2 Z (kN 18 Z (congrArg Bool.not (Ca c25)) (oF Z (oF Z (oF Z (GO.Ip Z Z Z Z Z (nL (rN 2 Z (rG (GO.I9 (.agg [.slice none 0 0, .slice none 0 0].toArray) Z Z (fun _ => by kernel_rfl) Z (GO.C8 (j := 0) (vs := [.slice none 0 0, .slice none 0 0]) ([.slice none 0 0, .slice none 0 0]) HS Z Z Z Z Z (htA Kg) Z Z Z fun wd93 HS => aS Z (nL ?_)))))))))))
  replace HS := HS.Gr Gl 223 (fun _ => ())
  replace HS := HS.Gr Gl 223 (fun _ => ())
  obtain ⟨rfl, rfl, rfl⟩ := Pp H
  exact G.Oy _ _ func142 Z (Ki.Lr (j := 2) (vs := [.slice none 0 0, .slice none 0 0]) HS Z Z Z Kg) Z ⟨_, _, _, _, Z, (HS.pk 4 [1, 0] Z)⟩
theorem Gf.calls {a1 : List Al} {c1 : Int} {A_a : Option Addr} {c_a : Nat} {r1 : Bool} (HS : St w0 w (L)) (r_a : Aq w0 L Bb A_a c_a (fun _ => ()) a1) (H : Gf.f K a1 c1 = some r1) :
    Calls prog 100 #[.agg [.slice A_a a1.length c_a, I c1].toArray] w (Gf.post w0 L r1) := by
  unfold Gf.f at H
  refine cG func100 Z ?_
  refine sQ (rG (GO.box (cs := [.slice A_a a1.length c_a, I c1]) HS Z Z Z Z fun b1 wd2 HS => aS Z (nL (sQ ?_))))
  obtain ⟨t3, t4, t5, h6, H⟩ := Na H
  refine rG (GO.Bu (j := 0) ([.slice A_a a1.length c_a, I c1]) HS Z Z Z Z Np Z (fN Z func142 nA.1 nA.2 Z Z (Gb.calls HS (rD 1 r_a) h6) (fun _ wd11 ⟨A7, c8, A9, c10, h12, HS⟩ => ⟨_, h12, (pS 3 Z (GO.alloc HS Z aC Z Z fun b13 wd14 HS => GO.C8 (j := 0) (vs := [.slice A7 t3.length c8, .slice A9 t4.length c10]) ([.slice A7 t3.length c8, .slice A9 t4.length c10]) HS Z Z Z Z Z (htA Kg) Z Z Z fun wd15 HS => aS Z (nL (rN 2 Z ?_))))⟩)))
  obtain rfl := sI H
  exact rT _ func100 Z Z ⟨Z, (HS.pk 4 [] Z)⟩
theorem J5.calls {strands letter : Int} {r1 : Bool} (HS : St w0 w (L)) (H : J5.f strands letter = some r1) :
    Calls prog 145 #[I strands, I letter] w (J5.post w0 L r1) := by
  unfold J5.f at H
  refine cG func145 Z ?_
  refine rN 3 Z ?_
  rcases iE H with ⟨c1, H⟩ | ⟨c1, H⟩
  ·
   refine rG (pS 3 Z (kN 7 Z (nT c1) (oF Z (oF Z (oF Z (oF Z (oF Z (oF Z (pS 2 Z (nL ?_))))))))))
   obtain rfl := sI H
   exact rT _ func145 Z Z ⟨Z, HS⟩
  obtain ⟨t2, h3, H⟩ := bI H
  refine rG (pS 3 Z (kN 7 Z (nF c1) (oN Z (mV Z (bK (oN Z (mV Z (bK (oN Z (GO.sub Z Z Z Z (bK (oN Z (mV Z (bK ?_))))))))))))))
  refine oN Z (GO.sub Z Z Z Z (bK (oN Z (fN Z func97 Kw.1 Kw.2 Z Z (Ct.calls HS  h3) (fun _ wd4 ⟨h5, HS⟩ => ⟨_, h5, (bK (pS 2 Z (nL ?_)))⟩)))))
  obtain rfl := sI H
  exact rT _ func145 Z Z ⟨Z, HS⟩
theorem Gg.calls {x c1 : Int} {b1 : List Int} {a1 : Nat} {A_a : Option Addr} {c_a : Nat} {r1 : Bool} (HS : St w0 w (Box a1 59 [I c1, .slice A_a b1.length c_a] :: L)) (r_a : Aq w0 L (Bq .i64) A_a c_a (fun _ => ()) b1) (H : Gg.f x c1 b1 = some r1) :
    Calls prog 144 #[I x, .pointer (some ⟨a1, 0, none⟩)] w (Gg.post w0 L c1 b1 a1 A_a c_a r1) := by
  unfold Gg.f at H
  refine cG func144 Z ?_
  refine rN 3 Z ?_
  obtain ⟨t1, h2, H⟩ := bI H
  refine rG (fL a1 0 Nl Z (lB 0 HS Z na2 Z (mV Z (fN Z func145 kR.1 kR.2 Z Z (J5.calls HS  h2) (fun _ wd3 ⟨h4, HS⟩ => ⟨_, h4, (pS 2 Z (nL ?_))⟩)))))
  obtain rfl := sI H
  exact rT _ func144 Z Z ⟨Z, HS⟩
theorem Bh.calls {s : List Int} {c1 : Int} {a1 : List Int} {A_a : Option Addr} {c_a b1 : Nat} {A_b : Option Addr} {c_b : Nat} {r1 : Int} (HS : St w0 w (Box b1 59 [I c1, .slice A_b a1.length c_b] :: L)) (r_a : Aq w0 L (Bq .i64) A_a c_a (fun _ => ()) s) (r_b : Aq w0 L (Bq .i64) A_b c_b (fun _ => ()) a1) (H : Bh.f K s c1 a1 = some r1) :
    Calls prog 183 #[.slice A_a s.length c_a, .func (.func 144) #[] #[.pointer (some ⟨b1, 0, none⟩)]] w (Bh.post w0 L c1 a1 b1 A_b c_b r1) := by
  unfold Bh.f at H
  refine cG func183 Z ?_
  refine rN 4 Z (rG (mV Z (lS Z Z underlying43 Z (mV Z (nL (rN 2 Z ?_))))))
  refine G.name (fun e1 h1 => ?_)
  have i1 : ∀ d1, d1 ≤ K → ∀ (x8 : Int) (w : World), Bh.l1 K d1 s c1 a1 x8 = some r1 → St w0 w (Box b1 59 [I c1, .slice A_b a1.length c_b] :: L) → G prog 183 19 [(0, .slice A_a s.length c_a), (1, .func (.func 144) #[] #[.pointer (some ⟨b1, 0, none⟩)]), (7, I (s.length : Int)), (8, I x8)] e1 w (Bh.post w0 L c1 a1 b1 A_b c_b r1) := by
   intro d1
   induction d1 using Nat.strongRecOn with
   | _ d1 g1 =>
    intro k1 x8 w H HS
    cases d1 with
    | zero => rw [Bh.l1] at H; cases H
    | succ f1 =>
     rw [Bh.l1] at H
     subst h1
     refine rN 3 Z ?_
     rcases iE H with ⟨c16, H⟩ | ⟨c16, H⟩
     ·
      refine yB Z (tT c16) (rN 6 Z ?_)
      obtain ⟨c17, H⟩ := iN H
      obtain ⟨t18, h19, H⟩ := bI H
      refine rG (pS 3 Z (GO.ix Z Z Z underlying43 sz2 ((rD 1 r_a) _ HS).2.2.1 c17.1 c17.2 Z (GO.Fq (T := (Bq .i64)) (n := x8.toNat) (o := 0) HS (rD 1 r_a) Z Z (getD_some (d := 0) (ltN c17)) Z Z na2 Z ?_)))
      replace HS := HS.pk 1 [0] Z
      refine GO.clo Z Z func144 mQ.1 mQ.2 Z Z (Gg.calls HS r_b h19) (fun _ wd20 ⟨h21, HS⟩ => ⟨_, h21, (nL ?_)⟩)
      rcases iE H with ⟨c22, H⟩ | ⟨c22, H⟩
      ·
       refine yB Z c22 (rN 2 Z ?_)
       obtain rfl := sI H
       exact rT _ func183 Z Z ⟨Z, HS⟩
      refine nB Z (Ca c22) (rN 4 Z (G.weak ?_ (g1 f1 (Nat.lt_succ_of_le (lR _)) (Nat.le_of_succ_le k1) _ _ H HS)))
      exact ⟨Z, Z, Z, Z, tv⟩
     refine nB Z (tF c16) (rN 3 Z ?_)
     obtain rfl := sI H
     exact rT _ func183 Z Z ⟨Z, HS⟩
  refine G.weak ?_ (i1 K (lR _) _ _ H HS)
  exact ⟨Z, Z, Z, Z, tv⟩
theorem Cy.calls {s : List Int} {b1 : Int} {a1 : List Int} {A_a : Option Addr} {c_a c1 : Nat} {A_b : Option Addr} {c_b : Nat} {r1 : Bool} (HS : St w0 w (Box c1 59 [I b1, .slice A_b a1.length c_b] :: L)) (r_a : Aq w0 L (Bq .i64) A_a c_a (fun _ => ()) s) (r_b : Aq w0 L (Bq .i64) A_b c_b (fun _ => ()) a1) (H : Cy.f K s b1 a1 = some r1) :
    Calls prog 143 #[.slice A_a s.length c_a, .func (.func 144) #[] #[.pointer (some ⟨c1, 0, none⟩)]] w (Cy.post w0 L b1 a1 c1 A_b c_b r1) := by
  unfold Cy.f at H
  refine cG func143 Z ?_
  refine rN 3 Z ?_
  obtain ⟨t1, h2, H⟩ := bI H
  refine rG (pS 2 Z ?_)
  replace HS := HS.pk 1 [0] Z
  refine fN Z func183 Uj.1 Uj.2 Z Z (Bh.calls HS r_a r_b h2) (fun _ wd3 ⟨h4, HS⟩ => ⟨_, h4, (pS 2 Z (nL ?_))⟩)
  obtain rfl := sI H
  exact rT _ func143 Z Z ⟨Z, HS⟩
theorem G5.calls {c1 : Int} {a1 : List Int} {A_a : Option Addr} {c_a : Nat} {r1 : Bool} (HS : St w0 w (L)) (r_a : Aq w0 L (Bq .i64) A_a c_a (fun _ => ()) a1) (H : G5.f K c1 a1 = some r1) :
    Calls prog 101 #[.agg [I c1, .slice A_a a1.length c_a].toArray] w (G5.post w0 L r1) := by
  unfold G5.f at H
  refine cG func101 Z ?_
  refine sQ (rG (GO.box (cs := [I c1, .slice A_a a1.length c_a]) HS Z Z Z Z fun b1 wd2 HS => aS Z (nL (sQ ?_))))
  obtain ⟨t3, h4, H⟩ := bI H
  rcases iE H with ⟨c7, H⟩ | ⟨c7, H⟩
  ·
   rcases iE H with ⟨c8, H⟩ | ⟨c8, H⟩
   ·
    obtain ⟨t9, h10, H⟩ := bI H
    refine rG (fL b1 0 Nl Z (lB 0 HS Z na2 Z (fN Z func97 Kw.1 Kw.2 Z Z (Ct.calls HS  h4) (fun _ wd5 ⟨h6, HS⟩ => ⟨_, h6, (mV Z (kN 6 Z c7 (oN Z (fL b1 1 Nc Z (bK (oN Z (lB 0 HS Z H7 Z (bK (oN Z (lS Z Z underlying43 Z (bK ?_)))))))))))⟩))))
    refine oN Z (GO.leq Z Z Z Z (bK (pS 2 Z (kN 12 Z (tT c8) (oN Z (fL b1 1 Nc Z (bK (oN Z (lB 0 HS Z H7 Z (bK (oN Z (GO.vK Z Z Z Z (bK (oN Z ?_))))))))))))))
    replace HS := HS.pk 1 [0] Z
    refine fN Z func143 Q9.1 Q9.2 Z Z (Cy.calls HS r_a r_a h10) (fun _ wd11 ⟨h12, HS⟩ => ⟨_, h12, (bK (oN Z (GO.not Z Z Z (bK (pS 2 Z (nL ?_))))))⟩)
    obtain rfl := sI H
    exact rT _ func101 Z Z ⟨Z, (HS.pk 1 [] Z)⟩
   refine rG (fL b1 0 Nl Z (lB 0 HS Z na2 Z (fN Z func97 Kw.1 Kw.2 Z Z (Ct.calls HS  h4) (fun _ wd5 ⟨h6, HS⟩ => ⟨_, h6, (mV Z (kN 6 Z c7 (oN Z (fL b1 1 Nc Z (bK (oN Z (lB 0 HS Z H7 Z (bK (oN Z (lS Z Z underlying43 Z (bK ?_)))))))))))⟩))))
   refine oN Z (GO.leq Z Z Z Z (bK (pS 2 Z (kN 12 Z (tF c8) (oF Z (oF Z (oF Z (oF Z (oF Z (pS 2 Z (nL ?_)))))))))))
   obtain rfl := sI H
   exact rT _ func101 Z Z ⟨Z, (HS.pk 1 [] Z)⟩
  refine rG (fL b1 0 Nl Z (lB 0 HS Z na2 Z (fN Z func97 Kw.1 Kw.2 Z Z (Ct.calls HS  h4) (fun _ wd5 ⟨h6, HS⟩ => ⟨_, h6, (mV Z (kN 6 Z (Ca c7) (oF Z (oF Z (oF Z (oF Z (pS 2 Z (oF Z (oF Z (oF Z (oF Z ?_)))))))))))⟩))))
  refine oF Z (pS 2 Z (nL ?_))
  obtain rfl := sI H
  exact rT _ func101 Z Z ⟨Z, (HS.pk 1 [] Z)⟩
theorem La.calls {name : Int} {r1 : Bool} (HS : St w0 w (L)) (H : La.f name = some r1) :
    Calls prog 146 #[I name] w (La.post w0 L r1) := by
  unfold La.f at H
  refine cG func146 Z ?_
  refine rN 3 Z ?_
  obtain ⟨t1, h2, H⟩ := bI H
  refine rG (mV Z (fN Z func97 Kw.1 Kw.2 Z Z (Ct.calls HS  h2) (fun _ wd3 ⟨h4, HS⟩ => ⟨_, h4, (aS Z (nL ?_))⟩)))
  obtain rfl := sI H
  exact rT _ func146 Z Z ⟨Z, HS⟩
theorem Fy.calls {kind r1 : Int} (HS : St w0 w (L)) (H : Fy.f K kind = some r1) :
    Calls prog 185 #[I kind] w (Fy.post w0 L r1) := by
  unfold Fy.f at H
  refine cG func185 Z ?_
  refine rN 9 Z ?_
  refine G.Ps (fun c1 d1 => ?_)
  have b1 : ∀ a1, a1 ≤ K → ∀ (x2 : Bool) (w : World), Fy.j1 K a1 kind x2 = some r1 → St w0 w (L) → G prog 185 11 [(3, I kind), (4, .bool x2)] c1 w (Fy.post w0 L r1) := by
   intro a1 f1 x2 w H HS
   cases a1 with
   | zero => rw [Fy.j1] at H; cases H
   | succ e1 =>
    rw [Fy.j1] at H
    subst d1
    rcases iE H with ⟨c3, H⟩ | ⟨c3, H⟩
    ·
     refine yB Z c3 (rN 2 Z ?_)
     obtain rfl := sI H
     exact rT _ func185 Z Z ⟨Z, HS⟩
    refine nB Z (Ca c3) (rN 2 Z ?_)
    rcases iE H with ⟨c4, H⟩ | ⟨c4, H⟩
    ·
     refine yB Z (tT c4) (rN 2 Z ?_)
     obtain rfl := sI H
     exact rT _ func185 Z Z ⟨Z, HS⟩
    refine nB Z (tF c4) (rN 2 Z ?_)
    rcases iE H with ⟨c5, H⟩ | ⟨c5, H⟩
    ·
     refine yB Z (tT c5) (rN 2 Z ?_)
     obtain rfl := sI H
     exact rT _ func185 Z Z ⟨Z, HS⟩
    refine nB Z (tF c5) (rN 4 Z ?_)
    obtain rfl := sI H
    exact rT _ func185 Z Z ⟨Z, HS⟩
  rcases iE H with ⟨c6, H⟩ | ⟨c6, H⟩
  ·
   refine yB Z (tT c6) (G.skip (G.weak ?_ (b1 K (lR _) _ _ H HS)))
   exact ⟨Z, Z, tv⟩
  refine nB Z (tF c6) (rN 1 Z (G.weak ?_ (b1 K (lR _) _ _ H HS)))
  exact ⟨Z, Z, tv⟩
theorem internal_strconv_small.calls {i : Int} {r1 : ByteArray} (HS : St w0 w (L)) (H : internal_strconv_small.f i = some r1) :
    Calls prog 211 #[I i] w (internal_strconv_small.post w0 L r1) := by
  unfold internal_strconv_small.f at H
  refine cG func211 Z ?_
  refine rN 5 Z ?_
  rcases iE H with ⟨c1, H⟩ | ⟨c1, H⟩
  ·
   refine yB Z (tT c1) (sQ ?_)
   obtain ⟨c2, H⟩ := iN H
   obtain ⟨c3, H⟩ := iN H
   refine rG (pS 3 Z (GO.nX Z Z Z Z underlying9 c2 c3 Z (aS Z (nL ?_))))
   obtain rfl := sI H
   exact rT _ func211 Z Z ⟨Z, HS⟩
  refine nB Z (tF c1) (rN 2 Z ?_)
  obtain ⟨c4, H⟩ := iN H
  obtain ⟨c5, H⟩ := iN H
  refine rG (pS 5 Z (GO.nX Z Z Z Z underlying9 c4 c5 Z (aS Z (nL ?_))))
  obtain rfl := sI H
  exact rT _ func211 Z Z ⟨Z, HS⟩
theorem Ce.calls {i base : Int} {r1 : ByteArray} (HS : St w0 w (L)) (H : Ce.f K i base = some r1) :
    Calls prog 208 #[I i, I base] w (Ce.post w0 L r1) := by
  unfold Ce.f at H
  refine cG func208 Z ?_
  refine rN 5 Z ?_
  rcases iE H with ⟨c1, H⟩ | ⟨c1, H⟩
  ·
   refine yB Z (tT c1) (rN 2 Z ?_)
   refine G.Ps (fun i1 k1 => ?_)
   have f1 : ∀ a1, a1 ≤ K → ∀ (x4 : Bool) (w : World), Ce.j1 K a1 i x4 = some r1 → St w0 w (L) → G prog 208 54 [(0, I i), (17, .bool x4)] i1 w (Ce.post w0 L r1) := by
    intro a1 n1 x4 w H HS
    cases a1 with
    | zero => rw [Ce.j1] at H; cases H
    | succ e1 =>
     rw [Ce.j1] at H
     subst k1
     rcases iE H with ⟨c5, H⟩ | ⟨c5, H⟩
     ·
      refine yB Z c5 (sQ ?_)
      obtain ⟨t6, h7, H⟩ := bI H
      refine rG (mV Z (fN Z func211 nR.1 nR.2 Z Z (internal_strconv_small.calls HS  h7) (fun _ wd8 ⟨h9, HS⟩ => ⟨_, h9, (aS Z (nL ?_))⟩)))
      obtain rfl := sI H
      exact rT _ func208 Z Z ⟨Z, HS⟩
     refine nB Z (Ca c5) (rN 2 Z (rG (GO.alloc HS Z xA Z Z fun b10 wd11 HS => nL (sQ (rG (mV Z (GO.conv Z Z underlying2 underlying239 Z (aS Z (nL (rN 3 Z ?_))))))))))
     refine G.Ps (fun m1 h1 => ?_)
     have g1 : ∀ b1, b1 ≤ e1 → ∀ (d1 : Int) (w : World), Ce.j2 K b1 d1 = some r1 → St w0 w (Box b10 242 [.int .u8 0, .int .u8 0, .int .u8 0, .int .u8 0, .int .u8 0, .int .u8 0, .int .u8 0, .int .u8 0, .int .u8 0, .int .u8 0, .int .u8 0, .int .u8 0, .int .u8 0, .int .u8 0, .int .u8 0, .int .u8 0, .int .u8 0, .int .u8 0, .int .u8 0, .int .u8 0, .int .u8 0, .int .u8 0, .int .u8 0, .int .u8 0] :: L) → G prog 208 54 [(0, I i), (5, .pointer (some ⟨b10, 0, none⟩)), (6, .int .u64 d1)] m1 w (Ce.post w0 L r1) := by
      intro b1 o1 d1 w H HS
      cases b1 with
      | zero => rw [Ce.j2] at H; cases H
      | succ p1 =>
       rw [Ce.j2] at H
       subst h1
       refine sQ ?_
       cases H
     rcases iE H with ⟨c14, H⟩ | ⟨c14, H⟩
     ·
      refine yB Z (tT c14) (rG (mV Z (GO.neg Z Z Z (aS Z (nL (G.weak ?_ (g1 e1 (lR _) _ _ H HS)))))))
      exact ⟨Z, Z, Z, tv⟩
     refine nB Z (tF c14) (G.skip (G.weak ?_ (g1 e1 (lR _) _ _ H HS)))
     exact ⟨Z, Z, Z, tv⟩
   rcases iE H with ⟨c15, H⟩ | ⟨c15, H⟩
   ·
    refine rG (pS 3 Z (kN 14 Z (tT c15) (oN Z (mV Z (bK (oN Z (GO.lss Z Z Z Z (bK (GO.Ip Z Z Z Z Z (nL (G.weak ?_ (f1 K (lR _) _ _ H HS))))))))))))
    exact ⟨Z, Z, tv⟩
   refine rG (pS 3 Z (kN 14 Z (tF c15) (oF Z (oF Z (GO.Js Z Z Z Z Z (nL (G.weak ?_ (f1 K (lR _) _ _ H HS))))))))
   exact ⟨Z, Z, tv⟩
  refine nB Z (tF c1) (rN 2 Z ?_)
  cases H
theorem Jq.calls {i base : Int} {r1 : ByteArray} (HS : St w0 w (L)) (H : Jq.f K i base = some r1) :
    Calls prog 203 #[I i, I base] w (Jq.post w0 L r1) := by
  unfold Jq.f at H
  refine cG func203 Z ?_
  refine rN 3 Z ?_
  obtain ⟨t1, h2, H⟩ := bI H
  refine rG (pS 2 Z (fN Z func208 kH.1 kH.2 Z Z (Ce.calls HS  h2) (fun _ wd3 ⟨h4, HS⟩ => ⟨_, h4, (aS Z (nL ?_))⟩)))
  obtain rfl := sI H
  exact rT _ func203 Z Z ⟨Z, HS⟩
theorem Jp.calls {n_ : Int} {r1 : ByteArray} (HS : St w0 w (L)) (H : Jp.f K n_ = some r1) :
    Calls prog 186 #[I n_] w (Jp.post w0 L r1) := by
  unfold Jp.f at H
  refine cG func186 Z ?_
  refine rN 3 Z ?_
  obtain ⟨t1, h2, H⟩ := bI H
  refine rG (mV Z (fN Z func203 nJ.1 nJ.2 Z Z (Jq.calls HS  h2) (fun _ wd3 ⟨h4, HS⟩ => ⟨_, h4, (aS Z (nL ?_))⟩)))
  obtain rfl := sI H
  exact rT _ func186 Z Z ⟨Z, HS⟩
theorem Jm.calls {d1 c1 a1 : Int} {r1 : ByteArray} (HS : St w0 w (L)) (H : Jm.f K d1 c1 a1 = some r1) :
    Calls prog 149 #[.agg [I d1, I c1, I a1].toArray] w (Jm.post w0 L r1) := by
  unfold Jm.f at H
  refine cG func149 Z ?_
  refine sQ (rG (GO.box (cs := [I d1, I c1, I a1]) HS Z Z Z Z fun b1 wd2 HS => aS Z (nL (rN 2 Z ?_))))
  obtain ⟨t16, h17, H⟩ := bI H
  rcases iE H with ⟨c20, H⟩ | ⟨c20, H⟩
  ·
   obtain ⟨t21, h22, H⟩ := bI H
   obtain ⟨t25, h26, H⟩ := bI H
   refine G.Oi mixed (fun w => St w0 w (Box b1 140 [I d1, I c1, I a1] :: L)) [1, 6, 8] [0, 1, 2, 3, 4, 5, 7, 6, 8, 9, 10, 11, 12, 13] [] (by kernel_rfl) (by kernel_rfl) HS.drew ?_
   replace HS := HS.drew
   refine qL Z Z (fun _ _ g => fL b1 1 Nz Z g) Z (GX.ls Z Z Z HS (fun _ HS _ g => lB 0 HS Z na2 Z g) Z (GX.l2 Z (fN Z func97 Kw.1 Kw.2 Z Z (Ct.calls HS  h17) (fun _ wd18 ⟨h19, HS⟩ => ⟨_, h19, (GX.fin HS (GX.ps 1 Z (qL Z Z (fun _ _ g => mV Z (kN 7 Z (congrArg Bool.not c20) g)) Z (qL Z Z (fun _ _ g => oN Z (fL b1 2 O7 Z (bK g))) Z (qL Z Z (fun _ _ g => oN Z (fL b1 0 Nj Z (bK g))) Z (GX.ls Z Z Z HS (fun _ HS _ g => oN Z (lB 0 HS Z na2 Z (bK g))) Z (GX.ls Z Z Z HS (fun _ HS _ g => oN Z (lB 0 HS Z na2 Z (bK g))) Z (GX.l2 Z (oN Z (fN Z func185 lT.1 lT.2 Z Z (Fy.calls HS  h22) (fun _ wd23 ⟨h24, HS⟩ => ⟨_, h24, (bK ?_)⟩)))))))))))⟩))))
   refine GX.fin HS (qL Z Z (fun _ _ g => oN Z (GO.sub Z Z Z Z (bK g))) Z (GX.l2 Z (oN Z (fN Z func97 Kw.1 Kw.2 Z Z (Ct.calls HS  h26) (fun _ wd27 ⟨h28, HS⟩ => ⟨_, h28, (bK (GX.fin HS (qL Z Z (fun _ _ g => oN Z (GO.not Z Z Z (bK g))) Z (GX.ps 1 Z (GX.nil ?_)))))⟩)))))
   rcases iE H with ⟨c29, H⟩ | ⟨c29, H⟩
   ·
    refine nB Z (congrArg Bool.not c29) (rN 2 Z ?_)
    obtain ⟨c30, H⟩ := iN H
    obtain ⟨c31, H⟩ := iN H
    obtain ⟨c32, H⟩ := iN H
    obtain ⟨t33, h34, H⟩ := bI H
    obtain ⟨c37, H⟩ := iN H
    obtain ⟨c38, H⟩ := iN H
    obtain ⟨t39, h40, H⟩ := bI H
    obtain ⟨c43, H⟩ := iN H
    refine G.Oi mixed (fun w => St w0 w (Box b1 140 [I d1, I c1, I a1] :: L)) [1, 5, 7, 10, 15] [0, 4, 9, 14, 1, 2, 3, 5, 6, 7, 8, 10, 15, 11, 12, 13, 16, 17, 18] [] (by kernel_rfl) (by kernel_rfl) HS.drew ?_
    replace HS := HS.drew
    refine qL Z Z (fun _ _ g => fL b1 0 Nj Z g) Z (qL Z Z (fun _ _ g => fL b1 0 Nj Z g) Z (qL Z Z (fun _ _ g => fL b1 1 Nz Z g) Z (qL Z Z (fun _ _ g => fL b1 2 O7 Z g) Z (GX.ls Z Z Z HS (fun _ HS _ g => lB 0 HS Z na2 Z g) Z (GX.ps 2 Z (GX.ls Z Z Z HS (fun _ HS _ g => lB 0 HS Z na2 Z g) Z (GX.ps 1 Z (GX.ls Z Z Z HS (fun _ HS _ g => GO.nX Z Z Z Z underlying9 c30 c31 Z g) Z (qL Z Z (fun _ _ g => GO.Xm Z Z Z c32 Z g) Z (GX.ls Z Z Z HS (fun _ HS _ g => lB 0 HS Z na2 Z g) Z (GX.ls Z Z Z HS (fun _ HS _ g => lB 0 HS Z na2 Z g) Z (GX.l2 Z (fN Z func186 Y3.1 Y3.2 Z Z (Jp.calls HS  h34) (fun _ wd35 ⟨h36, HS⟩ => ⟨_, h36, (GX.fin HS ?_)⟩))))))))))))))
    refine qL Z Z (fun _ _ g => GO.Xm Z Z Z c37 Z g) Z (qL Z Z (fun _ _ g => GO.Xm Z Z Z c38 Z g) Z (GX.l2 Z (fN Z func186 Y3.1 Y3.2 Z Z (Jp.calls HS  h40) (fun _ wd41 ⟨h42, HS⟩ => ⟨_, h42, (GX.fin HS (qL Z Z (fun _ _ g => GO.Xm Z Z Z c43 Z g) Z (GX.ps 1 Z (GX.nil ?_))))⟩))))
    obtain rfl := sI H
    exact rT _ func149 Z Z ⟨Z, (HS.pk 1 [] Z)⟩
   refine yB Z (congrArg Bool.not (Ca c29)) (rN 2 Z ?_)
   obtain rfl := sI H
   exact rT _ func149 Z Z ⟨Z, (HS.pk 1 [] Z)⟩
  refine G.Oi mixed (fun w => St w0 w (Box b1 140 [I d1, I c1, I a1] :: L)) [1, 6, 8] [0, 1, 2, 3, 4, 5, 7, 6, 8, 9, 10, 11, 12, 13] [] (by kernel_rfl) (by kernel_rfl) HS.drew ?_
  replace HS := HS.drew
  refine qL Z Z (fun _ _ g => fL b1 1 Nz Z g) Z (GX.ls Z Z Z HS (fun _ HS _ g => lB 0 HS Z na2 Z g) Z (GX.l2 Z (fN Z func97 Kw.1 Kw.2 Z Z (Ct.calls HS  h17) (fun _ wd18 ⟨h19, HS⟩ => ⟨_, h19, (GX.fin HS (GX.ps 1 Z (qL Z Z (fun _ _ g => mV Z (kN 7 Z (congrArg Bool.not (Ca c20)) g)) Z (qL Z Z (fun _ _ g => oF Z g) Z (qL Z Z (fun _ _ g => oF Z g) Z (GX.ls Z Z Z HS (fun _ HS _ g => oF Z g) Z (GX.ls Z Z Z HS (fun _ HS _ g => oF Z g) Z (GX.l2 Z (oF Z (GX.fin HS (qL Z Z (fun _ _ g => oF Z g) Z ?_)))))))))))⟩))))
  refine GX.l2 Z (oF Z (GX.fin HS (qL Z Z (fun _ _ g => oF Z g) Z (GX.ps 1 Z (GX.nil (rN 3 Z ?_))))))
  obtain rfl := sI H
  exact rT _ func149 Z Z ⟨Z, (HS.pk 1 [] Z)⟩
theorem Iz.calls {d1 c1 a1 : Int} {r1 : Bool} (HS : St w0 w (L)) (H : Iz.f K d1 c1 a1 = some r1) :
    Calls prog 148 #[.agg [I d1, I c1, I a1].toArray] w (Iz.post w0 L r1) := by
  unfold Iz.f at H
  refine cG func148 Z ?_
  refine sQ (rG (GO.box (cs := [I d1, I c1, I a1]) HS Z Z Z Z fun b1 wd2 HS => aS Z (nL (sQ ?_))))
  obtain ⟨t3, h4, H⟩ := bI H
  refine rG (GO.Bu (j := 0) ([I d1, I c1, I a1]) HS Z Z Z Z Ta Z (fN Z func149 lY.1 lY.2 Z Z (Jm.calls HS  h4) (fun _ wd5 ⟨h6, HS⟩ => ⟨_, h6, (GO.vP Z Z Z Z (aS Z (nL ?_)))⟩)))
  obtain rfl := sI H
  exact rT _ func148 Z Z ⟨Z, (HS.pk 1 [] Z)⟩
theorem Ay.calls {s : List Ci} {A_a : Option Addr} {c_a : Nat} {r1 : Int} (HS : St w0 w (L)) (r_a : Aq w0 L Cq A_a c_a (fun _ => ()) s) (H : Ay.f K s = some r1) :
    Calls prog 184 #[.slice A_a s.length c_a, .func (.func 148) #[] #[]] w (Ay.post w0 L r1) := by
  unfold Ay.f at H
  refine cG func184 Z ?_
  refine rN 4 Z (rG (mV Z (lS Z Z underlying60 Z (mV Z (nL (rN 2 Z ?_))))))
  refine G.name (fun b1 e1 => ?_)
  have f1 : ∀ a1, a1 ≤ K → ∀ (x10 : Int) (w : World), Ay.l1 K a1 s x10 = some r1 → St w0 w (L) → G prog 184 19 [(0, .slice A_a s.length c_a), (1, .func (.func 148) #[] #[]), (7, I (s.length : Int)), (8, I x10)] b1 w (Ay.post w0 L r1) := by
   intro a1
   induction a1 using Nat.strongRecOn with
   | _ a1 d1 =>
    intro g1 x10 w H HS
    cases a1 with
    | zero => rw [Ay.l1] at H; cases H
    | succ c1 =>
     rw [Ay.l1] at H
     subst e1
     refine rN 3 Z ?_
     rcases iE H with ⟨c20, H⟩ | ⟨c20, H⟩
     ·
      refine yB Z (tT c20) (rN 6 Z ?_)
      obtain ⟨c21, H⟩ := iN H
      obtain ⟨e22, h23, H⟩ := Cn H
      obtain ⟨t24, h25, H⟩ := bI H
      refine rG (pS 3 Z (GO.ix Z Z Z underlying60 Q0 (r_a _ HS).2.2.1 c21.1 c21.2 Z (GO.Ja (T := Cq) (n := x10.toNat) HS r_a Z Z (getD_eq (ltN c21) h23) Ta Z (GO.clo Z Z func148 nV.1 nV.2 Z Z (Iz.calls HS  h25) (fun _ wd26 ⟨h27, HS⟩ => ⟨_, h27, (nL ?_)⟩)))))
      rcases iE H with ⟨c28, H⟩ | ⟨c28, H⟩
      ·
       refine yB Z c28 (rN 2 Z ?_)
       obtain rfl := sI H
       exact rT _ func184 Z Z ⟨Z, HS⟩
      refine nB Z (Ca c28) (rN 4 Z (G.weak ?_ (d1 c1 (Nat.lt_succ_of_le (lR _)) (Nat.le_of_succ_le g1) _ _ H HS)))
      exact ⟨Z, Z, Z, Z, tv⟩
     refine nB Z (tF c20) (rN 3 Z ?_)
     obtain rfl := sI H
     exact rT _ func184 Z Z ⟨Z, HS⟩
  refine G.weak ?_ (f1 K (lR _) _ _ H HS)
  exact ⟨Z, Z, Z, Z, tv⟩
theorem Bw.calls {s : List Ci} {A_a : Option Addr} {c_a : Nat} {r1 : Bool} (HS : St w0 w (L)) (r_a : Aq w0 L Cq A_a c_a (fun _ => ()) s) (H : Bw.f K s = some r1) :
    Calls prog 147 #[.slice A_a s.length c_a, .func (.func 148) #[] #[]] w (Bw.post w0 L r1) := by
  unfold Bw.f at H
  refine cG func147 Z ?_
  refine rN 3 Z ?_
  obtain ⟨t1, h2, H⟩ := bI H
  refine rG (pS 2 Z (fN Z func184 lW.1 lW.2 Z Z (Ay.calls HS r_a h2) (fun _ wd3 ⟨h4, HS⟩ => ⟨_, h4, (pS 2 Z (nL ?_))⟩)))
  obtain rfl := sI H
  exact rT _ func147 Z Z ⟨Z, HS⟩
theorem Iq.calls {k_ : Int} {r1 : Bool} (HS : St w0 w (L)) (H : Iq.f k_ = some r1) :
    Calls prog 150 #[I k_] w (Iq.post w0 L r1) := by
  unfold Iq.f at H
  refine cG func150 Z ?_
  refine rN 3 Z ?_
  obtain ⟨t1, h2, H⟩ := bI H
  refine rG (mV Z (fN Z func97 Kw.1 Kw.2 Z Z (Ct.calls HS  h2) (fun _ wd3 ⟨h4, HS⟩ => ⟨_, h4, (pS 2 Z (nL ?_))⟩)))
  obtain rfl := sI H
  exact rT _ func150 Z Z ⟨Z, HS⟩
theorem Bl.calls {s : List Int} {A_a : Option Addr} {c_a : Nat} {r1 : Int} (HS : St w0 w (L)) (r_a : Aq w0 L (Bq .i64) A_a c_a (fun _ => ()) s) (H : Bl.f K s = some r1) :
    Calls prog 183 #[.slice A_a s.length c_a, .func (.func 150) #[] #[]] w (Bl.post w0 L r1) := by
  unfold Bl.f at H
  refine cG func183 Z ?_
  refine rN 4 Z (rG (mV Z (lS Z Z underlying43 Z (mV Z (nL (rN 2 Z ?_))))))
  refine G.name (fun b1 e1 => ?_)
  have f1 : ∀ a1, a1 ≤ K → ∀ (x8 : Int) (w : World), Bl.l1 K a1 s x8 = some r1 → St w0 w (L) → G prog 183 19 [(0, .slice A_a s.length c_a), (1, .func (.func 150) #[] #[]), (7, I (s.length : Int)), (8, I x8)] b1 w (Bl.post w0 L r1) := by
   intro a1
   induction a1 using Nat.strongRecOn with
   | _ a1 d1 =>
    intro g1 x8 w H HS
    cases a1 with
    | zero => rw [Bl.l1] at H; cases H
    | succ c1 =>
     rw [Bl.l1] at H
     subst e1
     refine rN 3 Z ?_
     rcases iE H with ⟨c16, H⟩ | ⟨c16, H⟩
     ·
      refine yB Z (tT c16) (rN 6 Z ?_)
      obtain ⟨c17, H⟩ := iN H
      obtain ⟨t18, h19, H⟩ := bI H
      refine rG (pS 3 Z (GO.ix Z Z Z underlying43 sz2 (r_a _ HS).2.2.1 c17.1 c17.2 Z (GO.Fq (T := (Bq .i64)) (n := x8.toNat) (o := 0) HS r_a Z Z (getD_some (d := 0) (ltN c17)) Z Z na2 Z (GO.clo Z Z func150 jT.1 jT.2 Z Z (Iq.calls HS  h19) (fun _ wd20 ⟨h21, HS⟩ => ⟨_, h21, (nL ?_)⟩)))))
      rcases iE H with ⟨c22, H⟩ | ⟨c22, H⟩
      ·
       refine yB Z c22 (rN 2 Z ?_)
       obtain rfl := sI H
       exact rT _ func183 Z Z ⟨Z, HS⟩
      refine nB Z (Ca c22) (rN 4 Z (G.weak ?_ (d1 c1 (Nat.lt_succ_of_le (lR _)) (Nat.le_of_succ_le g1) _ _ H HS)))
      exact ⟨Z, Z, Z, Z, tv⟩
     refine nB Z (tF c16) (rN 3 Z ?_)
     obtain rfl := sI H
     exact rT _ func183 Z Z ⟨Z, HS⟩
  refine G.weak ?_ (f1 K (lR _) _ _ H HS)
  exact ⟨Z, Z, Z, Z, tv⟩
theorem Co.calls {s : List Int} {A_a : Option Addr} {c_a : Nat} {r1 : Bool} (HS : St w0 w (L)) (r_a : Aq w0 L (Bq .i64) A_a c_a (fun _ => ()) s) (H : Co.f K s = some r1) :
    Calls prog 143 #[.slice A_a s.length c_a, .func (.func 150) #[] #[]] w (Co.post w0 L r1) := by
  unfold Co.f at H
  refine cG func143 Z ?_
  refine rN 3 Z ?_
  obtain ⟨t1, h2, H⟩ := bI H
  refine rG (pS 2 Z (fN Z func183 Uj.1 Uj.2 Z Z (Bl.calls HS r_a h2) (fun _ wd3 ⟨h4, HS⟩ => ⟨_, h4, (pS 2 Z (nL ?_))⟩)))
  obtain rfl := sI H
  exact rT _ func143 Z Z ⟨Z, HS⟩
theorem Iy.calls {p : Int} {r1 : Bool} (HS : St w0 w (L)) (H : Iy.f p = some r1) :
    Calls prog 151 #[I p] w (Iy.post w0 L r1) := by
  unfold Iy.f at H
  refine cG func151 Z ?_
  refine rN 3 Z ?_
  obtain ⟨t1, h2, H⟩ := bI H
  refine rG (mV Z (fN Z func152 Zh.1 Zh.2 Z Z (I4.calls HS  h2) (fun _ wd3 ⟨h4, HS⟩ => ⟨_, h4, (pS 2 Z (nL ?_))⟩)))
  obtain rfl := sI H
  exact rT _ func151 Z Z ⟨Z, HS⟩
theorem Bj.calls {s : List Int} {A_a : Option Addr} {c_a : Nat} {r1 : Int} (HS : St w0 w (L)) (r_a : Aq w0 L (Bq .i64) A_a c_a (fun _ => ()) s) (H : Bj.f K s = some r1) :
    Calls prog 183 #[.slice A_a s.length c_a, .func (.func 151) #[] #[]] w (Bj.post w0 L r1) := by
  unfold Bj.f at H
  refine cG func183 Z ?_
  refine rN 4 Z (rG (mV Z (lS Z Z underlying43 Z (mV Z (nL (rN 2 Z ?_))))))
  refine G.name (fun b1 e1 => ?_)
  have f1 : ∀ a1, a1 ≤ K → ∀ (x8 : Int) (w : World), Bj.l1 K a1 s x8 = some r1 → St w0 w (L) → G prog 183 19 [(0, .slice A_a s.length c_a), (1, .func (.func 151) #[] #[]), (7, I (s.length : Int)), (8, I x8)] b1 w (Bj.post w0 L r1) := by
   intro a1
   induction a1 using Nat.strongRecOn with
   | _ a1 d1 =>
    intro g1 x8 w H HS
    cases a1 with
    | zero => rw [Bj.l1] at H; cases H
    | succ c1 =>
     rw [Bj.l1] at H
     subst e1
     refine rN 3 Z ?_
     rcases iE H with ⟨c16, H⟩ | ⟨c16, H⟩
     ·
      refine yB Z (tT c16) (rN 6 Z ?_)
      obtain ⟨c17, H⟩ := iN H
      obtain ⟨t18, h19, H⟩ := bI H
      refine rG (pS 3 Z (GO.ix Z Z Z underlying43 sz2 (r_a _ HS).2.2.1 c17.1 c17.2 Z (GO.Fq (T := (Bq .i64)) (n := x8.toNat) (o := 0) HS r_a Z Z (getD_some (d := 0) (ltN c17)) Z Z na2 Z (GO.clo Z Z func151 kY.1 kY.2 Z Z (Iy.calls HS  h19) (fun _ wd20 ⟨h21, HS⟩ => ⟨_, h21, (nL ?_)⟩)))))
      rcases iE H with ⟨c22, H⟩ | ⟨c22, H⟩
      ·
       refine yB Z c22 (rN 2 Z ?_)
       obtain rfl := sI H
       exact rT _ func183 Z Z ⟨Z, HS⟩
      refine nB Z (Ca c22) (rN 4 Z (G.weak ?_ (d1 c1 (Nat.lt_succ_of_le (lR _)) (Nat.le_of_succ_le g1) _ _ H HS)))
      exact ⟨Z, Z, Z, Z, tv⟩
     refine nB Z (tF c16) (rN 3 Z ?_)
     obtain rfl := sI H
     exact rT _ func183 Z Z ⟨Z, HS⟩
  refine G.weak ?_ (f1 K (lR _) _ _ H HS)
  exact ⟨Z, Z, Z, Z, tv⟩
theorem Cx.calls {s : List Int} {A_a : Option Addr} {c_a : Nat} {r1 : Bool} (HS : St w0 w (L)) (r_a : Aq w0 L (Bq .i64) A_a c_a (fun _ => ()) s) (H : Cx.f K s = some r1) :
    Calls prog 143 #[.slice A_a s.length c_a, .func (.func 151) #[] #[]] w (Cx.post w0 L r1) := by
  unfold Cx.f at H
  refine cG func143 Z ?_
  refine rN 3 Z ?_
  obtain ⟨t1, h2, H⟩ := bI H
  refine rG (pS 2 Z (fN Z func183 Uj.1 Uj.2 Z Z (Bj.calls HS r_a h2) (fun _ wd3 ⟨h4, HS⟩ => ⟨_, h4, (pS 2 Z (nL ?_))⟩)))
  obtain rfl := sI H
  exact rT _ func143 Z Z ⟨Z, HS⟩
end Go.Proofs.YtkmeepgpmppibaaGreatDoor
