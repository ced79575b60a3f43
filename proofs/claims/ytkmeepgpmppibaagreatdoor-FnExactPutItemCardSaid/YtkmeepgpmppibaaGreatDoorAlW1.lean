/-
  The walks through the functions: a call comes to what its list function says.
-/
import Derived.Test.YtkmeepgpmppibaaGreatDoorAlF
set_option linter.unusedVariables false
set_option linter.unusedSimpArgs false
namespace Go.Proofs.YtkmeepgpmppibaaGreatDoor
open Go.RowKit
open Tryz
variable {w0 w : World} {L : List Cu} {K : Nat}
set_option maxRecDepth 20000
set_option maxHeartbeats 40000000
theorem K9.calls {a_ : List Bt} {left : Int} {A_a : Option Addr} {c_a : Nat} {r1 : Int} (HS : St w0 w (L)) (r_a : Aq w0 L Bc A_a c_a (fun _ => ()) a_) (H : K9.f a_ left = some r1) :
    Calls prog 117 #[.slice A_a a_.length c_a, I left] w (K9.post w0 L r1) := by
  unfold K9.f at H
  refine cG func117 Z ?_
  refine rN 3 Z (rG (pS 2 Z (lS Z Z underlying154 Z (pS 2 Z (nL (rN 3 Z ?_))))))
  rcases iE H with ⟨c1, H⟩ | ⟨c1, H⟩
  ·
   refine yB Z (tT c1) (rN 2 Z ?_)
   obtain rfl := sI H
   exact rT _ func117 Z Z ⟨Z, HS⟩
  refine nB Z (tF c1) (rN 3 Z ?_)
  obtain rfl := sI H
  exact rT _ func117 Z Z ⟨Z, HS⟩
theorem Fj.calls {a_ : List (List Bt)} {left : Int} {A_a : Option Addr} {c_a : Nat} {y_a : Nat → (Ty.slice 200 Bc).Lay} {r1 : Int} (HS : St w0 w (L)) (r_a : Aq w0 L (Ty.slice 200 Bc) A_a c_a y_a a_) (H : Fj.f K a_ left = some r1) :
    Calls prog 79 #[.slice A_a a_.length c_a, I left] w (Fj.post w0 L r1) := by
  unfold Fj.f at H
  refine cG func79 Z ?_
  refine rN 3 Z (rG (pS 2 Z (lS Z Z underlying37 Z (pS 2 Z (nL (rN 3 Z ?_))))))
  rcases iE H with ⟨c1, H⟩ | ⟨c1, H⟩
  ·
   refine yB Z (tT c1) (rN 2 Z ?_)
   obtain rfl := sI H
   exact rT _ func79 Z Z ⟨Z, HS⟩
  refine nB Z (tF c1) (rN 6 Z ?_)
  refine G.name (fun e1 h1 => ?_)
  have i1 : ∀ a1, a1 ≤ K → ∀ (d1 b1 : Int) (w : World), Fj.l1 K a1 a_ d1 b1 = some r1 → St w0 w (L) → G prog 79 27 [(0, .slice A_a a_.length c_a), (1, I d1), (5, I b1)] e1 w (Fj.post w0 L r1) := by
   intro a1
   induction a1 using Nat.strongRecOn with
   | _ a1 g1 =>
    intro k1 d1 b1 w H HS
    cases a1 with
    | zero => rw [Fj.l1] at H; cases H
    | succ f1 =>
     rw [Fj.l1] at H
     subst h1
     refine rN 2 Z (rG (pS 2 Z (lS Z Z underlying37 Z (GO.lss Z Z Z Z (nL ?_)))))
     rcases iE H with ⟨c18, H⟩ | ⟨c18, H⟩
     ·
      refine yB Z (tT c18) (rN 4 Z ?_)
      obtain ⟨c19, H⟩ := iN H
      obtain ⟨t20, h21, H⟩ := bI H
      refine rG (pS 2 Z (GO.ix Z Z Z underlying37 uM (r_a _ HS).2.2.1 c19.1 c19.2 Z (GO.Fq (T := (Ty.slice 200 Bc)) (n := b1.toNat) (o := 0) HS r_a Z Z (getD_some (d := []) (ltN c19)) Z Z sH Z (mV Z (fN Z func117 lQ.1 lQ.2 Z Z (K9.calls HS (Aq.elem r_a c19.1 c19.2) h21) (fun _ wd22 ⟨h23, HS⟩ => ⟨_, h23, (aS Z (nL (rN 2 Z ?_)))⟩))))))
      rcases iE H with ⟨c24, H⟩ | ⟨c24, H⟩
      ·
       refine yB Z (tT c24) (rN 2 Z ?_)
       obtain rfl := sI H
       exact rT _ func79 Z Z ⟨Z, HS⟩
      refine nB Z (tF c24) (rN 4 Z (G.weak ?_ (g1 f1 (Nat.lt_succ_of_le (lR _)) (Nat.le_of_succ_le k1) _ _ _ H HS)))
      exact ⟨Z, Z, Z, tv⟩
     refine nB Z (tF c18) (rN 3 Z ?_)
     obtain rfl := sI H
     exact rT _ func79 Z Z ⟨Z, HS⟩
  refine G.weak ?_ (i1 K (lR _) _ _ _ H HS)
  exact ⟨Z, Z, Z, tv⟩
theorem Gd.calls {a1 : List (List Bt)} {left : Int} {A_a : Option Addr} {c_a : Nat} {y_a : Nat → (Ty.slice 200 Bc).Lay} {r1 : Int} (HS : St w0 w (L)) (r_a : Aq w0 L (Ty.slice 200 Bc) A_a c_a y_a a1) (H : Gd.f K a1 left = some r1) :
    Calls prog 38 #[.agg [.slice A_a a1.length c_a].toArray, I left] w (Gd.post w0 L r1) := by
  unfold Gd.f at H
  refine cG func38 Z ?_
  refine sQ (rG (GO.box (cs := [.slice A_a a1.length c_a]) HS Z Z Z Z fun b1 wd2 HS => aS Z (nL (sQ ?_))))
  obtain ⟨t3, h4, H⟩ := bI H
  refine rG (fL b1 0 nM Z (lB 0 HS Z xS Z (mV Z (fN Z func79 uZ.1 uZ.2 Z Z (Fj.calls HS (rD 1 r_a) h4) (fun _ wd5 ⟨h6, HS⟩ => ⟨_, h6, (aS Z (nL (rN 3 Z ?_)))⟩)))))
  rcases iE H with ⟨c7, H⟩ | ⟨c7, H⟩
  ·
   refine yB Z (tT c7) (rN 2 Z ?_)
   obtain rfl := sI H
   exact rT _ func38 Z Z ⟨Z, (HS.pk 1 [] Z)⟩
  refine nB Z (tF c7) (rN 3 Z ?_)
  obtain rfl := sI H
  exact rT _ func38 Z Z ⟨Z, (HS.pk 1 [] Z)⟩
theorem Jh.calls {a_ : List Al} {left : Int} {A_a : Option Addr} {c_a : Nat} {r1 : Int} (HS : St w0 w (L)) (r_a : Aq w0 L Bb A_a c_a (fun _ => ()) a_) (H : Jh.f a_ left = some r1) :
    Calls prog 80 #[.slice A_a a_.length c_a, I left] w (Jh.post w0 L r1) := by
  unfold Jh.f at H
  refine cG func80 Z ?_
  refine rN 3 Z (rG (pS 2 Z (lS Z Z underlying40 Z (pS 2 Z (nL (rN 3 Z ?_))))))
  rcases iE H with ⟨c1, H⟩ | ⟨c1, H⟩
  ·
   refine yB Z (tT c1) (rN 2 Z ?_)
   obtain rfl := sI H
   exact rT _ func80 Z Z ⟨Z, HS⟩
  refine nB Z (tF c1) (rN 3 Z ?_)
  obtain rfl := sI H
  exact rT _ func80 Z Z ⟨Z, HS⟩
theorem J9.calls {a1 : List Al} {c1 left : Int} {A_a : Option Addr} {c_a : Nat} {r1 : Int} (HS : St w0 w (L)) (r_a : Aq w0 L Bb A_a c_a (fun _ => ()) a1) (H : J9.f a1 c1 left = some r1) :
    Calls prog 39 #[.agg [.slice A_a a1.length c_a, I c1].toArray, I left] w (J9.post w0 L r1) := by
  unfold J9.f at H
  refine cG func39 Z ?_
  refine sQ (rG (GO.box (cs := [.slice A_a a1.length c_a, I c1]) HS Z Z Z Z fun b1 wd2 HS => aS Z (nL (sQ ?_))))
  obtain ⟨t3, h4, H⟩ := bI H
  refine rG (fL b1 0 jE Z (lB 0 HS Z xH Z (mV Z (fN Z func80 vJ.1 vJ.2 Z Z (Jh.calls HS (rD 1 r_a) h4) (fun _ wd5 ⟨h6, HS⟩ => ⟨_, h6, (aS Z (nL (rN 3 Z ?_)))⟩)))))
  rcases iE H with ⟨c7, H⟩ | ⟨c7, H⟩
  ·
   refine yB Z (tT c7) (rN 2 Z ?_)
   obtain rfl := sI H
   exact rT _ func39 Z Z ⟨Z, (HS.pk 1 [] Z)⟩
  refine nB Z (tF c7) (rN 3 Z ?_)
  obtain rfl := sI H
  exact rT _ func39 Z Z ⟨Z, (HS.pk 1 [] Z)⟩
theorem Hz.calls {a_ : List Int} {left : Int} {A_a : Option Addr} {c_a : Nat} {r1 : Int} (HS : St w0 w (L)) (r_a : Aq w0 L (Bq .i64) A_a c_a (fun _ => ()) a_) (H : Hz.f a_ left = some r1) :
    Calls prog 81 #[.slice A_a a_.length c_a, I left] w (Hz.post w0 L r1) := by
  unfold Hz.f at H
  refine cG func81 Z ?_
  refine rN 3 Z (rG (pS 2 Z (lS Z Z underlying43 Z (pS 2 Z (nL (rN 3 Z ?_))))))
  rcases iE H with ⟨c1, H⟩ | ⟨c1, H⟩
  ·
   refine yB Z (tT c1) (rN 2 Z ?_)
   obtain rfl := sI H
   exact rT _ func81 Z Z ⟨Z, HS⟩
  refine nB Z (tF c1) (rN 3 Z ?_)
  obtain rfl := sI H
  exact rT _ func81 Z Z ⟨Z, HS⟩
theorem Lb.calls {c1 : Int} {a1 : List Int} {left : Int} {A_a : Option Addr} {c_a : Nat} {r1 : Int} (HS : St w0 w (L)) (r_a : Aq w0 L (Bq .i64) A_a c_a (fun _ => ()) a1) (H : Lb.f c1 a1 left = some r1) :
    Calls prog 40 #[.agg [I c1, .slice A_a a1.length c_a].toArray, I left] w (Lb.post w0 L r1) := by
  unfold Lb.f at H
  refine cG func40 Z ?_
  refine sQ (rG (GO.box (cs := [I c1, .slice A_a a1.length c_a]) HS Z Z Z Z fun b1 wd2 HS => aS Z (nL (sQ ?_))))
  obtain ⟨t3, h4, H⟩ := bI H
  refine rG (fL b1 1 jI Z (lB 0 HS Z H7 Z (mV Z (fN Z func81 Xy.1 Xy.2 Z Z (Hz.calls HS (rD 1 r_a) h4) (fun _ wd5 ⟨h6, HS⟩ => ⟨_, h6, (aS Z (nL (rN 3 Z ?_)))⟩)))))
  rcases iE H with ⟨c7, H⟩ | ⟨c7, H⟩
  ·
   refine yB Z (tT c7) (rN 2 Z ?_)
   obtain rfl := sI H
   exact rT _ func40 Z Z ⟨Z, (HS.pk 1 [] Z)⟩
  refine nB Z (tF c7) (rN 3 Z ?_)
  obtain rfl := sI H
  exact rT _ func40 Z Z ⟨Z, (HS.pk 1 [] Z)⟩
theorem Ld.calls {a_ : List Ci} {left : Int} {A_a : Option Addr} {c_a : Nat} {r1 : Int} (HS : St w0 w (L)) (r_a : Aq w0 L Cq A_a c_a (fun _ => ()) a_) (H : Ld.f a_ left = some r1) :
    Calls prog 82 #[.slice A_a a_.length c_a, I left] w (Ld.post w0 L r1) := by
  unfold Ld.f at H
  refine cG func82 Z ?_
  refine rN 3 Z (rG (pS 2 Z (lS Z Z underlying46 Z (pS 2 Z (nL (rN 3 Z ?_))))))
  rcases iE H with ⟨c1, H⟩ | ⟨c1, H⟩
  ·
   refine yB Z (tT c1) (rN 2 Z ?_)
   obtain rfl := sI H
   exact rT _ func82 Z Z ⟨Z, HS⟩
  refine nB Z (tF c1) (rN 3 Z ?_)
  obtain rfl := sI H
  exact rT _ func82 Z Z ⟨Z, HS⟩
theorem Ij.calls {e1 f1 : Int} {d1 : List Ci} {a1 c1 : List Int} {left : Int} {A_a : Option Addr} {c_a : Nat} {A_b : Option Addr} {c_b : Nat} {A_c : Option Addr} {c_c : Nat} {r1 : Int} (HS : St w0 w (L)) (r_a : Aq w0 L Cq A_a c_a (fun _ => ()) d1) (r_b : Aq w0 L (Bq .i64) A_b c_b (fun _ => ()) a1) (r_c : Aq w0 L (Bq .i64) A_c c_c (fun _ => ()) c1) (H : Ij.f e1 f1 d1 a1 c1 left = some r1) :
    Calls prog 41 #[.agg [I e1, I f1, .slice A_a d1.length c_a, .slice A_b a1.length c_b, .slice A_c c1.length c_c].toArray, I left] w (Ij.post w0 L r1) := by
  unfold Ij.f at H
  refine cG func41 Z ?_
  refine sQ (rG (GO.box (cs := [I e1, I f1, .slice A_a d1.length c_a, .slice A_b a1.length c_b, .slice A_c c1.length c_c]) HS Z Z Z Z fun b1 wd2 HS => aS Z (nL (sQ ?_))))
  obtain ⟨t3, h4, H⟩ := bI H
  refine rG (fL b1 2 oM Z (lB 0 HS Z xG Z (mV Z (fN Z func82 sW.1 sW.2 Z Z (Ld.calls HS (rD 1 r_a) h4) (fun _ wd5 ⟨h6, HS⟩ => ⟨_, h6, (aS Z (nL (rN 3 Z ?_)))⟩)))))
  rcases iE H with ⟨c7, H⟩ | ⟨c7, H⟩
  ·
   refine yB Z (tT c7) (rN 2 Z ?_)
   obtain rfl := sI H
   exact rT _ func41 Z Z ⟨Z, (HS.pk 1 [] Z)⟩
  refine nB Z (tF c7) (rN 2 Z ?_)
  obtain ⟨t8, h9, H⟩ := bI H
  refine rG (fL b1 3 nD Z (lB 0 HS Z H7 Z (mV Z (fN Z func81 Xy.1 Xy.2 Z Z (Hz.calls HS (rD 1 r_b) h9) (fun _ wd10 ⟨h11, HS⟩ => ⟨_, h11, (aS Z (nL (rN 3 Z ?_)))⟩)))))
  rcases iE H with ⟨c12, H⟩ | ⟨c12, H⟩
  ·
   refine yB Z (tT c12) (rN 2 Z ?_)
   obtain rfl := sI H
   exact rT _ func41 Z Z ⟨Z, (HS.pk 1 [] Z)⟩
  refine nB Z (tF c12) (rN 2 Z ?_)
  obtain ⟨t13, h14, H⟩ := bI H
  refine rG (fL b1 4 mD Z (lB 0 HS Z H7 Z (mV Z (fN Z func81 Xy.1 Xy.2 Z Z (Hz.calls HS (rD 1 r_c) h14) (fun _ wd15 ⟨h16, HS⟩ => ⟨_, h16, (aS Z (nL (rN 3 Z ?_)))⟩)))))
  rcases iE H with ⟨c17, H⟩ | ⟨c17, H⟩
  ·
   refine yB Z (tT c17) (rN 2 Z ?_)
   obtain rfl := sI H
   exact rT _ func41 Z Z ⟨Z, (HS.pk 1 [] Z)⟩
  refine nB Z (tF c17) (rN 3 Z ?_)
  obtain rfl := sI H
  exact rT _ func41 Z Z ⟨Z, (HS.pk 1 [] Z)⟩
theorem Kb.calls {n1 : ByteArray} {o1 : Int} {f1 : List (List Bt)} {a1 : List Al} {m1 i1 : Int} {d1 : List Int} {h1 k1 : Int} {e1 : List Ci} {g1 c1 : List Int} {left : Int} {A_a : Option Addr} {c_a : Nat} {y_a : Nat → (Ty.slice 200 Bc).Lay} {A_b : Option Addr} {c_b : Nat} {A_c : Option Addr} {c_c : Nat} {A_d : Option Addr} {c_d : Nat} {A_e : Option Addr} {c_e : Nat} {A_f : Option Addr} {c_f : Nat} {r1 : Int} (HS : St w0 w (L)) (r_a : Aq w0 L (Ty.slice 200 Bc) A_a c_a y_a f1) (r_b : Aq w0 L Bb A_b c_b (fun _ => ()) a1) (r_c : Aq w0 L (Bq .i64) A_c c_c (fun _ => ()) d1) (r_d : Aq w0 L Cq A_d c_d (fun _ => ()) e1) (r_e : Aq w0 L (Bq .i64) A_e c_e (fun _ => ()) g1) (r_f : Aq w0 L (Bq .i64) A_f c_f (fun _ => ()) c1) (H : Kb.f K n1 o1 f1 a1 m1 i1 d1 h1 k1 e1 g1 c1 left = some r1) :
    Calls prog 12 #[.agg [.string n1, I o1, .slice A_a f1.length c_a, .slice A_b a1.length c_b, I m1, I i1, .slice A_c d1.length c_c, I h1, I k1, .slice A_d e1.length c_d, .slice A_e g1.length c_e, .slice A_f c1.length c_f].toArray, I left] w (Kb.post w0 L r1) := by
  unfold Kb.f at H
  refine cG func12 Z ?_
  refine sQ (rG (GO.box (cs := [.string n1, I o1, .slice A_a f1.length c_a, .slice A_b a1.length c_b, I m1, I i1, .slice A_c d1.length c_c, I h1, I k1, .slice A_d e1.length c_d, .slice A_e g1.length c_e, .slice A_f c1.length c_f]) HS Z Z Z Z fun b1 wd2 HS => aS Z (nL (sQ (rG (mV Z (fL b1 0 lD Z (lB 0 HS Z na9 Z (GO.P6 Z Z underlying9 Z (pS 2 Z (nL (rN 3 Z ?_))))))))))))
  rcases iE H with ⟨c3, H⟩ | ⟨c3, H⟩
  ·
   refine yB Z (tT c3) (rN 2 Z ?_)
   obtain rfl := sI H
   exact rT _ func12 Z Z ⟨Z, (HS.pk 1 [] Z)⟩
  refine nB Z (tF c3) (rN 2 Z ?_)
  obtain ⟨t4, h5, H⟩ := bI H
  refine rG (fL b1 2 mI Z (GO.Bu (j := 0) ([.slice A_a f1.length c_a]) HS Z Z Z Z xI Z (mV Z (fN Z func38 tZ.1 tZ.2 Z Z (Gd.calls HS (rD 1 r_a) h5) (fun _ wd6 ⟨h7, HS⟩ => ⟨_, h7, (aS Z (nL (rN 3 Z ?_)))⟩)))))
  rcases iE H with ⟨c8, H⟩ | ⟨c8, H⟩
  ·
   refine yB Z (tT c8) (rN 2 Z ?_)
   obtain rfl := sI H
   exact rT _ func12 Z Z ⟨Z, (HS.pk 1 [] Z)⟩
  refine nB Z (tF c8) (rN 2 Z ?_)
  obtain ⟨t9, h10, H⟩ := bI H
  refine rG (fL b1 3 kL Z (GO.Bu (j := 0) ([.slice A_b a1.length c_b, I m1]) HS Z Z Z Z wU Z (mV Z (fN Z func39 uR.1 uR.2 Z Z (J9.calls HS (rD 1 r_b) h10) (fun _ wd11 ⟨h12, HS⟩ => ⟨_, h12, (aS Z (nL (rN 3 Z ?_)))⟩)))))
  rcases iE H with ⟨c13, H⟩ | ⟨c13, H⟩
  ·
   refine yB Z (tT c13) (rN 2 Z ?_)
   obtain rfl := sI H
   exact rT _ func12 Z Z ⟨Z, (HS.pk 1 [] Z)⟩
  refine nB Z (tF c13) (rN 2 Z ?_)
  obtain ⟨t14, h15, H⟩ := bI H
  refine rG (fL b1 5 oW Z (GO.Bu (j := 0) ([I i1, .slice A_c d1.length c_c]) HS Z Z Z Z xJ Z (mV Z (fN Z func40 uP.1 uP.2 Z Z (Lb.calls HS (rD 1 r_c) h15) (fun _ wd16 ⟨h17, HS⟩ => ⟨_, h17, (aS Z (nL (rN 3 Z ?_)))⟩)))))
  rcases iE H with ⟨c18, H⟩ | ⟨c18, H⟩
  ·
   refine yB Z (tT c18) (rN 2 Z ?_)
   obtain rfl := sI H
   exact rT _ func12 Z Z ⟨Z, (HS.pk 1 [] Z)⟩
  refine nB Z (tF c18) (rN 2 Z ?_)
  obtain ⟨t19, h20, H⟩ := bI H
  refine rG (fL b1 7 jA Z (GO.Bu (j := 0) ([I h1, I k1, .slice A_d e1.length c_d, .slice A_e g1.length c_e, .slice A_f c1.length c_f]) HS Z Z Z Z xU Z (mV Z (fN Z func41 uX.1 uX.2 Z Z (Ij.calls HS (rD 1 r_d) (rD 1 r_e) (rD 1 r_f) h20) (fun _ wd21 ⟨h22, HS⟩ => ⟨_, h22, (aS Z (nL (rN 3 Z ?_)))⟩)))))
  rcases iE H with ⟨c23, H⟩ | ⟨c23, H⟩
  ·
   refine yB Z (tT c23) (rN 2 Z ?_)
   obtain rfl := sI H
   exact rT _ func12 Z Z ⟨Z, (HS.pk 1 [] Z)⟩
  refine nB Z (tF c23) (rN 3 Z ?_)
  obtain rfl := sI H
  exact rT _ func12 Z Z ⟨Z, (HS.pk 1 [] Z)⟩
theorem Ev.calls {a_ : List Am} {left : Int} {A_a : Option Addr} {c_a : Nat} {y_a : Nat → Ez.Lay} {r1 : Int} (HS : St w0 w (L)) (r_a : Aq w0 L Ez A_a c_a y_a a_) (H : Ev.f K a_ left = some r1) :
    Calls prog 18 #[.slice A_a a_.length c_a, I left] w (Ev.post w0 L r1) := by
  unfold Ev.f at H
  refine cG func18 Z ?_
  refine rN 3 Z (rG (pS 2 Z (lS Z Z underlying22 Z (pS 2 Z (nL (rN 3 Z ?_))))))
  rcases iE H with ⟨c1, H⟩ | ⟨c1, H⟩
  ·
   refine yB Z (tT c1) (rN 2 Z ?_)
   obtain rfl := sI H
   exact rT _ func18 Z Z ⟨Z, HS⟩
  refine nB Z (tF c1) (rN 6 Z ?_)
  refine G.name (fun e1 h1 => ?_)
  have i1 : ∀ a1, a1 ≤ K → ∀ (d1 b1 : Int) (w : World), Ev.l1 K a1 a_ d1 b1 = some r1 → St w0 w (L) → G prog 18 27 [(0, .slice A_a a_.length c_a), (1, I d1), (5, I b1)] e1 w (Ev.post w0 L r1) := by
   intro a1
   induction a1 using Nat.strongRecOn with
   | _ a1 g1 =>
    intro k1 d1 b1 w H HS
    cases a1 with
    | zero => rw [Ev.l1] at H; cases H
    | succ f1 =>
     rw [Ev.l1] at H
     subst h1
     refine rN 2 Z (rG (pS 2 Z (lS Z Z underlying22 Z (GO.lss Z Z Z Z (nL ?_)))))
     rcases iE H with ⟨c22, H⟩ | ⟨c22, H⟩
     ·
      refine yB Z (tT c22) (rN 4 Z ?_)
      obtain ⟨c23, H⟩ := iN H
      obtain ⟨e24, h25, H⟩ := Cn H
      obtain ⟨t26, h27, H⟩ := bI H
      refine rG (pS 2 Z (GO.ix Z Z Z underlying22 wR (r_a _ HS).2.2.1 c23.1 c23.2 Z (GO.Ja (T := Ez) (n := b1.toNat) HS r_a Z Z (getD_eq (ltN c23) h25) bZ Z (mV Z (fN Z func12 fU.1 fU.2 Z Z (Kb.calls HS (Aq.fld r_a (getD_eq (ltN c23) h25) (fun _ h => h.2.2.1)) (Aq.fld r_a (getD_eq (ltN c23) h25) (fun _ h => h.2.2.2.1)) (Aq.fld r_a (getD_eq (ltN c23) h25) (fun _ h => h.2.2.2.2.2.2.1)) (Aq.fld r_a (getD_eq (ltN c23) h25) (fun _ h => h.2.2.2.2.2.2.2.2.2.1)) (Aq.fld r_a (getD_eq (ltN c23) h25) (fun _ h => h.2.2.2.2.2.2.2.2.2.2.1)) (Aq.fld r_a (getD_eq (ltN c23) h25) (fun _ h => h.2.2.2.2.2.2.2.2.2.2.2)) h27) (fun _ wd28 ⟨h29, HS⟩ => ⟨_, h29, (aS Z (nL (rN 2 Z ?_)))⟩))))))
      rcases iE H with ⟨c30, H⟩ | ⟨c30, H⟩
      ·
       refine yB Z (tT c30) (rN 2 Z ?_)
       obtain rfl := sI H
       exact rT _ func18 Z Z ⟨Z, HS⟩
      refine nB Z (tF c30) (rN 4 Z (G.weak ?_ (g1 f1 (Nat.lt_succ_of_le (lR _)) (Nat.le_of_succ_le k1) _ _ _ H HS)))
      exact ⟨Z, Z, Z, tv⟩
     refine nB Z (tF c22) (rN 3 Z ?_)
     obtain rfl := sI H
     exact rT _ func18 Z Z ⟨Z, HS⟩
  refine G.weak ?_ (i1 K (lR _) _ _ _ H HS)
  exact ⟨Z, Z, Z, tv⟩
theorem Ef.calls {a_ : List (List Am)} {left : Int} {A_a : Option Addr} {c_a : Nat} {y_a : Nat → (Ty.slice 50 Ez).Lay} {r1 : Int} (HS : St w0 w (L)) (r_a : Aq w0 L (Ty.slice 50 Ez) A_a c_a y_a a_) (H : Ef.f K a_ left = some r1) :
    Calls prog 19 #[.slice A_a a_.length c_a, I left] w (Ef.post w0 L r1) := by
  unfold Ef.f at H
  refine cG func19 Z ?_
  refine rN 3 Z (rG (pS 2 Z (lS Z Z underlying23 Z (pS 2 Z (nL (rN 3 Z ?_))))))
  rcases iE H with ⟨c1, H⟩ | ⟨c1, H⟩
  ·
   refine yB Z (tT c1) (rN 2 Z ?_)
   obtain rfl := sI H
   exact rT _ func19 Z Z ⟨Z, HS⟩
  refine nB Z (tF c1) (rN 6 Z ?_)
  refine G.name (fun e1 h1 => ?_)
  have i1 : ∀ a1, a1 ≤ K → ∀ (d1 b1 : Int) (w : World), Ef.l1 K a1 a_ d1 b1 = some r1 → St w0 w (L) → G prog 19 27 [(0, .slice A_a a_.length c_a), (1, I d1), (5, I b1)] e1 w (Ef.post w0 L r1) := by
   intro a1
   induction a1 using Nat.strongRecOn with
   | _ a1 g1 =>
    intro k1 d1 b1 w H HS
    cases a1 with
    | zero => rw [Ef.l1] at H; cases H
    | succ f1 =>
     rw [Ef.l1] at H
     subst h1
     refine rN 2 Z (rG (pS 2 Z (lS Z Z underlying23 Z (GO.lss Z Z Z Z (nL ?_)))))
     rcases iE H with ⟨c18, H⟩ | ⟨c18, H⟩
     ·
      refine yB Z (tT c18) (rN 4 Z ?_)
      obtain ⟨c19, H⟩ := iN H
      obtain ⟨t20, h21, H⟩ := bI H
      refine rG (pS 2 Z (GO.ix Z Z Z underlying23 xW (r_a _ HS).2.2.1 c19.1 c19.2 Z (GO.Fq (T := (Ty.slice 50 Ez)) (n := b1.toNat) (o := 0) HS r_a Z Z (getD_some (d := []) (ltN c19)) Z Z qN Z (mV Z (fN Z func18 dX.1 dX.2 Z Z (Ev.calls HS (Aq.elem r_a c19.1 c19.2) h21) (fun _ wd22 ⟨h23, HS⟩ => ⟨_, h23, (aS Z (nL (rN 2 Z ?_)))⟩))))))
      rcases iE H with ⟨c24, H⟩ | ⟨c24, H⟩
      ·
       refine yB Z (tT c24) (rN 2 Z ?_)
       obtain rfl := sI H
       exact rT _ func19 Z Z ⟨Z, HS⟩
      refine nB Z (tF c24) (rN 4 Z (G.weak ?_ (g1 f1 (Nat.lt_succ_of_le (lR _)) (Nat.le_of_succ_le k1) _ _ _ H HS)))
      exact ⟨Z, Z, Z, tv⟩
     refine nB Z (tF c18) (rN 3 Z ?_)
     obtain rfl := sI H
     exact rT _ func19 Z Z ⟨Z, HS⟩
  refine G.weak ?_ (i1 K (lR _) _ _ _ H HS)
  exact ⟨Z, Z, Z, tv⟩
theorem Ku.calls {d1 : List Am} {c1 a1 : List (List Am)} {left : Int} {A_a : Option Addr} {c_a : Nat} {y_a : Nat → Ez.Lay} {A_b : Option Addr} {c_b : Nat} {y_b : Nat → (Ty.slice 50 Ez).Lay} {A_c : Option Addr} {c_c : Nat} {y_c : Nat → (Ty.slice 50 Ez).Lay} {r1 : Int} (HS : St w0 w (L)) (r_a : Aq w0 L Ez A_a c_a y_a d1) (r_b : Aq w0 L (Ty.slice 50 Ez) A_b c_b y_b c1) (r_c : Aq w0 L (Ty.slice 50 Ez) A_c c_c y_c a1) (H : Ku.f K d1 c1 a1 left = some r1) :
    Calls prog 5 #[.agg [.slice A_a d1.length c_a, .slice A_b c1.length c_b, .slice A_c a1.length c_c].toArray, I left] w (Ku.post w0 L r1) := by
  unfold Ku.f at H
  refine cG func5 Z ?_
  refine sQ (rG (GO.box (cs := [.slice A_a d1.length c_a, .slice A_b c1.length c_b, .slice A_c a1.length c_c]) HS Z Z Z Z fun b1 wd2 HS => aS Z (nL (sQ ?_))))
  obtain ⟨t3, h4, H⟩ := bI H
  refine rG (fL b1 0 jG Z (lB 0 HS Z qN Z (mV Z (fN Z func18 dX.1 dX.2 Z Z (Ev.calls HS (rD 1 r_a) h4) (fun _ wd5 ⟨h6, HS⟩ => ⟨_, h6, (aS Z (nL (rN 3 Z ?_)))⟩)))))
  rcases iE H with ⟨c7, H⟩ | ⟨c7, H⟩
  ·
   refine yB Z (tT c7) (rN 2 Z ?_)
   obtain rfl := sI H
   exact rT _ func5 Z Z ⟨Z, (HS.pk 1 [] Z)⟩
  refine nB Z (tF c7) (rN 2 Z ?_)
  obtain ⟨t8, h9, H⟩ := bI H
  refine rG (fL b1 1 kK Z (lB 0 HS Z qQ Z (mV Z (fN Z func19 fH.1 fH.2 Z Z (Ef.calls HS (rD 1 r_b) h9) (fun _ wd10 ⟨h11, HS⟩ => ⟨_, h11, (aS Z (nL (rN 3 Z ?_)))⟩)))))
  rcases iE H with ⟨c12, H⟩ | ⟨c12, H⟩
  ·
   refine yB Z (tT c12) (rN 2 Z ?_)
   obtain rfl := sI H
   exact rT _ func5 Z Z ⟨Z, (HS.pk 1 [] Z)⟩
  refine nB Z (tF c12) (rN 2 Z ?_)
  obtain ⟨t13, h14, H⟩ := bI H
  refine rG (fL b1 2 mF Z (lB 0 HS Z qQ Z (mV Z (fN Z func19 fH.1 fH.2 Z Z (Ef.calls HS (rD 1 r_c) h14) (fun _ wd15 ⟨h16, HS⟩ => ⟨_, h16, (aS Z (nL (rN 3 Z ?_)))⟩)))))
  rcases iE H with ⟨c17, H⟩ | ⟨c17, H⟩
  ·
   refine yB Z (tT c17) (rN 2 Z ?_)
   obtain rfl := sI H
   exact rT _ func5 Z Z ⟨Z, (HS.pk 1 [] Z)⟩
  refine nB Z (tF c17) (rN 3 Z ?_)
  obtain rfl := sI H
  exact rT _ func5 Z Z ⟨Z, (HS.pk 1 [] Z)⟩
theorem Mj.calls {a1 c1 : Int} {r1 r2 : Int} (HS : St w0 w (L)) (H : Mj.f a1 c1 = some (r1, r2)) :
    Calls prog 169 #[.agg [I a1, I c1].toArray] w (Mj.post w0 L r1 r2) := by
  unfold Mj.f at H
  refine cG func169 Z ?_
  refine sQ (rG (GO.box (cs := [I a1, I c1]) HS Z Z Z Z fun b1 wd2 HS => GO.alloc HS Z Yt Z Z fun b3 wd4 HS => nL (sQ (rG (GO.alloc HS Z Yt Z Z fun b5 wd6 HS => nL (sQ (rG (fL b1 0 pO Z (lB 2 HS Z na2 Z (fL b5 0 J2 Z (GO.C8 (j := 0) (vs := [I a1]) ([I a1, I 0]) HS Z Z Z Z Z (htN na2 Z) Z Z Z fun wd7 HS => ?_)))))))))))
  refine nL (sQ (rG (fL b1 1 qR Z (lB 2 HS Z na2 Z (fL b5 1 Ng Z (GO.C8 (j := 0) (vs := [I c1]) ([I a1, I c1]) HS Z Z Z Z Z (htN na2 Z) Z Z Z fun wd8 HS => nL (sQ (rG (GO.Bu (j := 0) ([I a1, I c1]) HS Z Z Z Z Ma Z (GO.C8 (j := 1) (vs := [I a1, I c1]) ([I a1, I c1]) HS Z Z Z Z Z (htA Ma) Z Z Z fun wd9 HS => nL ?_))))))))))
  obtain ⟨rfl, rfl⟩ := Mf H
  exact rT _ func169 Z (Ki.Lr (j := 1) (vs := [I a1, I c1]) HS Z Z Z Ma) ⟨Z, (HS.pk 3 [] Z)⟩
theorem Ga.calls {a_ : List Bt} {A_a : Option Addr} {c_a : Nat} {r1 : List Bt} (HS : St w0 w (L)) (r_a : Aq w0 L Bc A_a c_a (fun _ => ()) a_) (H : Ga.f K a_ = some r1) :
    Calls prog 133 #[.slice A_a a_.length c_a] w (Ga.post w0 L r1) := by
  unfold Ga.f at H
  refine cG func133 Z ?_
  refine rN 3 Z ?_
  obtain ⟨c1, H⟩ := iN H
  obtain ⟨c2, H⟩ := iN H
  refine rG (mV Z (lS Z Z underlying154 Z (GO.make (T := Bc) Ko () HS Bv Z Z Z underlying150 bY Z Z Z c1 c2 Z fun b3 wd4 HS => aS Z (nL (rN 5 Z ?_)))))
  refine G.name (fun e1 h1 => ?_)
  have i1 : ∀ b1, b1 ≤ K → ∀ (d1 : List Bt) (a1 : Int) (w : World), Ga.l1 K b1 a_ d1 a1 = some r1 → St w0 w (Own Bc 157 (some ⟨b3, 0, none⟩) ((a_.length : Int).toNat) (fun _ => ()) d1 :: L) → G prog 133 23 [(0, .slice A_a a_.length c_a), (3, .slice (some ⟨b3, 0, none⟩) d1.length ((a_.length : Int).toNat)), (4, I a1)] e1 w (Ga.post w0 L r1) := by
   intro b1
   induction b1 using Nat.strongRecOn with
   | _ b1 g1 =>
    intro k1 d1 a1 w H HS
    cases b1 with
    | zero => rw [Ga.l1] at H; cases H
    | succ f1 =>
     rw [Ga.l1] at H
     subst h1
     refine rN 2 Z (rG (pS 2 Z (lS Z Z underlying154 Z (GO.lss Z Z Z Z (nL ?_)))))
     rcases iE H with ⟨c29, H⟩ | ⟨c29, H⟩
     ·
      refine yB Z (tT c29) (rN 3 Z ?_)
      obtain ⟨c30, H⟩ := iN H
      obtain ⟨e31, h32, H⟩ := Cn H
      obtain ⟨t33, t34, h35, H⟩ := Dk H
      obtain ⟨c38, H⟩ := iN H
      refine rG (pS 4 Z (GO.ix Z Z Z underlying154 yD ((rD 1 r_a) _ HS).2.2.1 c30.1 c30.2 Z (GO.Ja (T := Bc) (n := a1.toNat) HS (rD 1 r_a) Z Z (getD_eq (ltN c30) h32) xZ Z (fN Z func169 kE.1 kE.2 Z Z (Mj.calls HS  h35) (fun _ wd36 ⟨h37, HS⟩ => ⟨_, h37, (GO.ix Z Z Z underlying150 Pm (fun _ => ⟨_, _, Z⟩) c38.1 c38.2 Z (GO.M5 (T := Bc) (j := 0) (n := a1.toNat) (o := 0) (vs := [I t33, I t34]) (⟨t33, t34⟩ : Bt) HS Z Bv Z Z Z Z (htA Ma) Z (getD_some (d := Ko) (ltN c38)) Z Z fun wd39 HS => nL (G.len (t := 3) (m := (d1.set a1.toNat (⟨t33, t34⟩ : Bt)).length) Z (by simp only [List.length_set] <;> rfl) (rN 3 Z (G.weak ?_ (g1 f1 (Nat.lt_succ_of_le (lR _)) (Nat.le_of_succ_le k1) _ _ _ H HS))))))⟩)))))
      exact ⟨Z, Z, Z, tv⟩
     refine nB Z (tF c29) (rN 3 Z ?_)
     obtain rfl := sI H
     exact rT _ func133 Z Z ⟨_, _, Z, HS⟩
  refine G.weak ?_ (i1 K (lR _) _ _ _ H HS)
  exact ⟨Z, Z, Z, tv⟩
theorem E5.calls {a_ : List (List Bt)} {A_a : Option Addr} {c_a : Nat} {y_a : Nat → (Ty.slice 200 Bc).Lay} {r1 : List (List Bt)} (HS : St w0 w (L)) (r_a : Aq w0 L (Ty.slice 200 Bc) A_a c_a y_a a_) (H : E5.f K a_ = some r1) :
    Calls prog 92 #[.slice A_a a_.length c_a] w (E5.post w0 L r1) := by
  unfold E5.f at H
  refine cG func92 Z ?_
  refine rN 3 Z ?_
  obtain ⟨c1, H⟩ := iN H
  obtain ⟨c2, H⟩ := iN H
  refine rG (mV Z (lS Z Z underlying37 Z (GO.sU (S := Bc) (u := 157) (fun _ => ()) HS Z Z Z underlying53 cZ Z c1 c2 Z fun b3 wd4 HS => aS Z (nL (rN 5 Z ?_)))))
  refine G.name (fun e1 h1 => ?_)
  have i1 : ∀ a1, a1 ≤ K → ∀ (b1 : List (List Bt)) (y17 : Nat → (Ty.slice 157 Bc).Lay) (d1 : Int) (w : World), E5.l1 K a1 a_ b1 d1 = some r1 → St w0 w (Own (Ty.slice 157 Bc) 150 (some ⟨b3, 0, none⟩) ((a_.length : Int).toNat) y17 b1 :: L) → G prog 92 23 [(0, .slice A_a a_.length c_a), (3, .slice (some ⟨b3, 0, none⟩) b1.length ((a_.length : Int).toNat)), (4, I d1)] e1 w (E5.post w0 L r1) := by
   intro a1
   induction a1 using Nat.strongRecOn with
   | _ a1 g1 =>
    intro k1 b1 y17 d1 w H HS
    cases a1 with
    | zero => rw [E5.l1] at H; cases H
    | succ f1 =>
     rw [E5.l1] at H
     subst h1
     refine rN 2 Z (rG (pS 2 Z (lS Z Z underlying37 Z (GO.lss Z Z Z Z (nL ?_)))))
     rcases iE H with ⟨c30, H⟩ | ⟨c30, H⟩
     ·
      refine yB Z (tT c30) (rN 3 Z ?_)
      obtain ⟨c31, H⟩ := iN H
      obtain ⟨t32, h33, H⟩ := bI H
      obtain ⟨c38, H⟩ := iN H
      refine rG (pS 4 Z (GO.ix Z Z Z underlying37 uM ((rD 1 r_a) _ HS).2.2.1 c31.1 c31.2 Z (GO.Fq (T := (Ty.slice 200 Bc)) (n := d1.toNat) (o := 0) HS (rD 1 r_a) Z Z (getD_some (d := []) (ltN c31)) Z Z sH Z (fN Z func133 oH.1 oH.2 Z Z (Ga.calls HS (Aq.elem (rD 1 r_a) c31.1 c31.2) h33) (fun _ wd36 ⟨A34, c35, h37, HS⟩ => ⟨_, h37, (GO.ix Z Z Z underlying53 Ou (fun _ => ⟨_, _, Z⟩) c38.1 c38.2 Z ?_)⟩)))))
      replace HS := HS.pk 2 [1, 0] Z
      refine GO.lI (S := Bc) (u := 157) HS Z Z Z Ox (ltN c38) fun y40 wd39 HS => nL (G.len (t := 3) (m := (b1.set d1.toNat t32).length) Z (by simp only [List.length_set] <;> rfl) (rN 3 Z (G.weak ?_ (g1 f1 (Nat.lt_succ_of_le (lR _)) (Nat.le_of_succ_le k1) _ _ _ _ H HS))))
      exact ⟨Z, Z, Z, tv⟩
     refine nB Z (tF c30) (rN 3 Z ?_)
     obtain rfl := sI H
     exact rT _ func92 Z Z ⟨_, _, _, Z, HS⟩
  refine G.weak ?_ (i1 K (lR _) _ _ _ _ H HS)
  exact ⟨Z, Z, Z, tv⟩
theorem Hg.calls {a1 : List (List Bt)} {A_a : Option Addr} {c_a : Nat} {y_a : Nat → (Ty.slice 200 Bc).Lay} {r1 : List (List Bt)} (HS : St w0 w (L)) (r_a : Aq w0 L (Ty.slice 200 Bc) A_a c_a y_a a1) (H : Hg.f K a1 = some r1) :
    Calls prog 44 #[.agg [.slice A_a a1.length c_a].toArray] w (Hg.post w0 L r1) := by
  unfold Hg.f at H
  refine cG func44 Z ?_
  refine sQ (rG (GO.box (cs := [.slice A_a a1.length c_a]) HS Z Z Z Z fun b1 wd2 HS => GO.alloc HS Z gP Z Z fun b3 wd4 HS => nL (sQ (rG (GO.alloc HS Z gP Z Z fun b5 wd6 HS => nL (sQ ?_))))))
  obtain ⟨t7, h8, H⟩ := bI H
  refine rG (fL b1 0 nM Z (lB 2 HS Z xS Z (fN Z func92 vE.1 vE.2 Z Z (E5.calls HS (rD 3 r_a) h8) (fun _ wd12 ⟨A9, c10, y11, h13, HS⟩ => ⟨_, h13, (fL b5 0 I8 Z (GO.C8 (j := 1) (vs := [.slice A9 t7.length c10]) ([.slice A9 t7.length c10]) HS Z Z Z Z Z (htN Nt Z) Z Z Z fun wd14 HS => nL (sQ (rG (GO.Bu (j := 1) ([.slice A9 t7.length c10]) HS Z Z Z Z Oc Z (GO.C8 (j := 2) (vs := [.slice A9 t7.length c10]) ([.slice A9 t7.length c10]) HS Z Z Z Z Z (htA Oc) Z Z Z fun wd15 HS => nL ?_))))))⟩))))
  obtain rfl := sI H
  exact rT _ func44 Z (Ki.Lr (j := 2) (vs := [.slice A9 t7.length c10]) HS Z Z Z Oc) ⟨_, _, _, Z, (HS.pk 4 [0] Z)⟩
theorem Ju.calls {a_A a_B : Int} {a_C a_D : Int} {a1 r1 : Int} {r2 r3 : Int} {r4 r5 : Int} (HS : St w0 w (L)) (H : Ju.f a_A a_B a_C a_D a1 = some (r1, r2, r3, r4, r5)) :
    Calls prog 134 #[.agg [I a_A, I a_B, I a_C, I a_D, I a1].toArray] w (Ju.post w0 L r1 r2 r3 r4 r5) := by
  unfold Ju.f at H
  refine cG func134 Z ?_
  refine sQ (rG (GO.box (cs := [I a_A, I a_B, I a_C, I a_D, I a1]) HS Z Z Z Z fun b1 wd2 HS => GO.alloc HS Z X8 Z Z fun b3 wd4 HS => nL (sQ (rG (GO.alloc HS Z X8 Z Z fun b5 wd6 HS => nL (sQ (rG (fL b1 0 qO Z (lB 2 HS Z na2 Z (fL b5 0 Qf Z (GO.C8 (j := 0) (vs := [I a_A]) ([I a_A, I 0, I 0, I 0, I 0]) HS Z Z Z Z Z (htN na2 Z) Z Z Z fun wd7 HS => ?_)))))))))))
  refine nL (sQ (rG (fL b1 1 rO Z (lB 2 HS Z na2 Z (fL b5 1 Qj Z (GO.C8 (j := 0) (vs := [I a_B]) ([I a_A, I a_B, I 0, I 0, I 0]) HS Z Z Z Z Z (htN na2 Z) Z Z Z fun wd8 HS => nL (sQ (rG (fL b1 2 pU Z (lB 2 HS Z na2 Z (fL b5 2 Qg Z (GO.C8 (j := 0) (vs := [I a_C]) ([I a_A, I a_B, I a_C, I 0, I 0]) HS Z Z Z Z Z (htN na2 Z) Z Z Z fun wd9 HS => nL ?_))))))))))))
  refine sQ (rG (fL b1 3 rY Z (lB 2 HS Z na2 Z (fL b5 3 Qd Z (GO.C8 (j := 0) (vs := [I a_D]) ([I a_A, I a_B, I a_C, I a_D, I 0]) HS Z Z Z Z Z (htN na2 Z) Z Z Z fun wd10 HS => nL (sQ (rG (fL b1 4 qZ Z (lB 2 HS Z na2 Z (fL b5 4 Lg Z (GO.C8 (j := 0) (vs := [I a1]) ([I a_A, I a_B, I a_C, I a_D, I a1]) HS Z Z Z Z Z (htN na2 Z) Z Z Z fun wd11 HS => nL (sQ ?_))))))))))))
  refine rG (GO.Bu (j := 0) ([I a_A, I a_B, I a_C, I a_D, I a1]) HS Z Z Z Z Me Z (GO.C8 (j := 1) (vs := [I a_A, I a_B, I a_C, I a_D, I a1]) ([I a_A, I a_B, I a_C, I a_D, I a1]) HS Z Z Z Z Z (htA Me) Z Z Z fun wd12 HS => nL ?_))
  obtain ⟨rfl, rfl, rfl, rfl, rfl⟩ := tJ H
  exact rT _ func134 Z (Ki.Lr (j := 1) (vs := [I a_A, I a_B, I a_C, I a_D, I a1]) HS Z Z Z Me) ⟨Z, (HS.pk 3 [] Z)⟩
theorem Dt.calls {a_ : List Al} {A_a : Option Addr} {c_a : Nat} {r1 : List Al} (HS : St w0 w (L)) (r_a : Aq w0 L Bb A_a c_a (fun _ => ()) a_) (H : Dt.f K a_ = some r1) :
    Calls prog 93 #[.slice A_a a_.length c_a] w (Dt.post w0 L r1) := by
  unfold Dt.f at H
  refine cG func93 Z ?_
  refine rN 3 Z ?_
  obtain ⟨c1, H⟩ := iN H
  obtain ⟨c2, H⟩ := iN H
  refine rG (mV Z (lS Z Z underlying40 Z (GO.make (T := Bb) Au () HS Bv Z Z Z underlying56 dI Z Z Z c1 c2 Z fun b3 wd4 HS => aS Z (nL (rN 5 Z ?_)))))
  refine G.name (fun e1 h1 => ?_)
  have i1 : ∀ b1, b1 ≤ K → ∀ (d1 : List Al) (a1 : Int) (w : World), Dt.l1 K b1 a_ d1 a1 = some r1 → St w0 w (Own Bb 152 (some ⟨b3, 0, none⟩) ((a_.length : Int).toNat) (fun _ => ()) d1 :: L) → G prog 93 23 [(0, .slice A_a a_.length c_a), (3, .slice (some ⟨b3, 0, none⟩) d1.length ((a_.length : Int).toNat)), (4, I a1)] e1 w (Dt.post w0 L r1) := by
   intro b1
   induction b1 using Nat.strongRecOn with
   | _ b1 g1 =>
    intro k1 d1 a1 w H HS
    cases b1 with
    | zero => rw [Dt.l1] at H; cases H
    | succ f1 =>
     rw [Dt.l1] at H
     subst h1
     refine rN 2 Z (rG (pS 2 Z (lS Z Z underlying40 Z (GO.lss Z Z Z Z (nL ?_)))))
     rcases iE H with ⟨c35, H⟩ | ⟨c35, H⟩
     ·
      refine yB Z (tT c35) (rN 3 Z ?_)
      obtain ⟨c36, H⟩ := iN H
      obtain ⟨e37, h38, H⟩ := Cn H
      obtain ⟨t39, t40, t41, t42, t43, h44, H⟩ := V4 H
      obtain ⟨c47, H⟩ := iN H
      refine rG (pS 4 Z (GO.ix Z Z Z underlying40 xP ((rD 1 r_a) _ HS).2.2.1 c36.1 c36.2 Z (GO.Ja (T := Bb) (n := a1.toNat) HS (rD 1 r_a) Z Z (getD_eq (ltN c36) h38) xB Z (fN Z func134 kJ.1 kJ.2 Z Z (Ju.calls HS  h44) (fun _ wd45 ⟨h46, HS⟩ => ⟨_, h46, (GO.ix Z Z Z underlying56 Nu (fun _ => ⟨_, _, Z⟩) c47.1 c47.2 Z (GO.M5 (T := Bb) (j := 0) (n := a1.toNat) (o := 0) (vs := [I t39, I t40, I t41, I t42, I t43]) (⟨t39, t40, t41, t42, t43⟩ : Al) HS Z Bv Z Z Z Z (htA Me) Z (getD_some (d := Au) (ltN c47)) Z Z fun wd48 HS => nL (G.len (t := 3) (m := (d1.set a1.toNat (⟨t39, t40, t41, t42, t43⟩ : Al)).length) Z (by simp only [List.length_set] <;> rfl) (rN 3 Z (G.weak ?_ (g1 f1 (Nat.lt_succ_of_le (lR _)) (Nat.le_of_succ_le k1) _ _ _ H HS))))))⟩)))))
      exact ⟨Z, Z, Z, tv⟩
     refine nB Z (tF c35) (rN 3 Z ?_)
     obtain rfl := sI H
     exact rT _ func93 Z Z ⟨_, _, Z, HS⟩
  refine G.weak ?_ (i1 K (lR _) _ _ _ H HS)
  exact ⟨Z, Z, Z, tv⟩
theorem Kc.calls {c1 : List Al} {a1 : Int} {A_a : Option Addr} {c_a : Nat} {r1 : List Al} {r2 : Int} (HS : St w0 w (L)) (r_a : Aq w0 L Bb A_a c_a (fun _ => ()) c1) (H : Kc.f K c1 a1 = some (r1, r2)) :
    Calls prog 45 #[.agg [.slice A_a c1.length c_a, I a1].toArray] w (Kc.post w0 L r1 r2) := by
  unfold Kc.f at H
  refine cG func45 Z ?_
  refine sQ (rG (GO.box (cs := [.slice A_a c1.length c_a, I a1]) HS Z Z Z Z fun b1 wd2 HS => GO.alloc HS Z qX Z Z fun b3 wd4 HS => nL (sQ (rG (GO.alloc HS Z qX Z Z fun b5 wd6 HS => nL (sQ ?_))))))
  obtain ⟨t7, h8, H⟩ := bI H
  refine rG (fL b1 0 jE Z (lB 2 HS Z xH Z (fN Z func93 sG.1 sG.2 Z Z (Dt.calls HS (rD 3 r_a) h8) (fun _ wd11 ⟨A9, c10, h12, HS⟩ => ⟨_, h12, (fL b5 0 Iu Z (GO.C8 (j := 1) (vs := [.slice A9 t7.length c10]) ([.slice A9 t7.length c10, I 0]) HS Z Z Z Z Z (htN Ni Z) Z Z Z fun wd13 HS => nL (sQ (rG (fL b1 1 vZ Z (lB 3 HS Z na2 Z (fL b5 1 O1 Z (GO.C8 (j := 1) (vs := [I a1]) ([.slice A9 t7.length c10, I a1]) HS Z Z Z Z Z (htN na2 Z) Z Z Z fun wd14 HS => nL (sQ ?_)))))))))⟩))))
  refine rG (GO.Bu (j := 1) ([.slice A9 t7.length c10, I a1]) HS Z Z Z Z Np Z (GO.C8 (j := 2) (vs := [.slice A9 t7.length c10, I a1]) ([.slice A9 t7.length c10, I a1]) HS Z Z Z Z Z (htA Np) Z Z Z fun wd15 HS => nL ?_))
  obtain ⟨rfl, rfl⟩ := Mf H
  exact rT _ func45 Z (Ki.Lr (j := 2) (vs := [.slice A9 t7.length c10, I a1]) HS Z Z Z Np) ⟨_, _, Z, (HS.pk 4 [0] Z)⟩
theorem D9.calls {a_ : List Int} {A_a : Option Addr} {c_a : Nat} {r1 : List Int} (HS : St w0 w (L)) (r_a : Aq w0 L (Bq .i64) A_a c_a (fun _ => ()) a_) (H : D9.f K a_ = some r1) :
    Calls prog 94 #[.slice A_a a_.length c_a] w (D9.post w0 L r1) := by
  unfold D9.f at H
  refine cG func94 Z ?_
  refine rN 3 Z ?_
  obtain ⟨c1, H⟩ := iN H
  obtain ⟨c2, H⟩ := iN H
  refine rG (mV Z (lS Z Z underlying43 Z (GO.make (T := (Bq .i64)) 0 () HS Bv Z Z Z underlying43 S9 Z Z Z c1 c2 Z fun b3 wd4 HS => aS Z (nL (rN 5 Z ?_)))))
  refine G.name (fun e1 h1 => ?_)
  have i1 : ∀ b1, b1 ≤ K → ∀ (d1 : List Int) (a1 : Int) (w : World), D9.l1 K b1 a_ d1 a1 = some r1 → St w0 w (Own (Bq .i64) 2 (some ⟨b3, 0, none⟩) ((a_.length : Int).toNat) (fun _ => ()) d1 :: L) → G prog 94 22 [(0, .slice A_a a_.length c_a), (3, .slice (some ⟨b3, 0, none⟩) d1.length ((a_.length : Int).toNat)), (4, I a1)] e1 w (D9.post w0 L r1) := by
   intro b1
   induction b1 using Nat.strongRecOn with
   | _ b1 g1 =>
    intro k1 d1 a1 w H HS
    cases b1 with
    | zero => rw [D9.l1] at H; cases H
    | succ f1 =>
     rw [D9.l1] at H
     subst h1
     refine rN 2 Z (rG (pS 2 Z (lS Z Z underlying43 Z (GO.lss Z Z Z Z (nL ?_)))))
     rcases iE H with ⟨c15, H⟩ | ⟨c15, H⟩
     ·
      refine yB Z (tT c15) (rN 3 Z ?_)
      obtain ⟨c16, H⟩ := iN H
      obtain ⟨c17, H⟩ := iN H
      refine rG (pS 4 Z (GO.ix Z Z Z underlying43 sz2 ((rD 1 r_a) _ HS).2.2.1 c16.1 c16.2 Z (GO.Fq (T := (Bq .i64)) (n := a1.toNat) (o := 0) HS (rD 1 r_a) Z Z (getD_some (d := 0) (ltN c16)) Z Z na2 Z (GO.ix Z Z Z underlying43 sz2 (fun _ => ⟨_, _, Z⟩) c17.1 c17.2 Z (GO.M5 (T := (Bq .i64)) (j := 0) (n := a1.toNat) (o := 0) (vs := [I (a_.getD a1.toNat 0)]) (a_.getD a1.toNat 0) HS Z Bv Z Z Z Z (htN na2 Z) Z (getD_some (d := 0) (ltN c17)) Z Z fun wd18 HS => nL (G.len (t := 3) (m := (d1.set a1.toNat (a_.getD a1.toNat 0)).length) Z (by simp only [List.length_set] <;> rfl) (rN 3 Z (G.weak ?_ (g1 f1 (Nat.lt_succ_of_le (lR _)) (Nat.le_of_succ_le k1) _ _ _ H HS)))))))))
      exact ⟨Z, Z, Z, tv⟩
     refine nB Z (tF c15) (rN 3 Z ?_)
     obtain rfl := sI H
     exact rT _ func94 Z Z ⟨_, _, Z, HS⟩
  refine G.weak ?_ (i1 K (lR _) _ _ _ H HS)
  exact ⟨Z, Z, Z, tv⟩
theorem Lj.calls {a1 : Int} {c1 : List Int} {A_a : Option Addr} {c_a : Nat} {r1 : Int} {r2 : List Int} (HS : St w0 w (L)) (r_a : Aq w0 L (Bq .i64) A_a c_a (fun _ => ()) c1) (H : Lj.f K a1 c1 = some (r1, r2)) :
    Calls prog 46 #[.agg [I a1, .slice A_a c1.length c_a].toArray] w (Lj.post w0 L r1 r2) := by
  unfold Lj.f at H
  refine cG func46 Z ?_
  refine sQ (rG (GO.box (cs := [I a1, .slice A_a c1.length c_a]) HS Z Z Z Z fun b1 wd2 HS => GO.alloc HS Z vO Z Z fun b3 wd4 HS => nL (sQ (rG (GO.alloc HS Z vO Z Z fun b5 wd6 HS => nL (sQ (rG (fL b1 0 vS Z (lB 2 HS Z na2 Z (fL b5 0 Nl Z (GO.C8 (j := 0) (vs := [I a1]) ([I a1, .slice none 0 0]) HS Z Z Z Z Z (htN na2 Z) Z Z Z fun wd7 HS => ?_)))))))))))
  refine nL (sQ ?_)
  obtain ⟨t8, h9, H⟩ := bI H
  refine rG (fL b1 1 jI Z (lB 2 HS Z H7 Z (fN Z func94 Yc.1 Yc.2 Z Z (D9.calls HS (rD 3 r_a) h9) (fun _ wd12 ⟨A10, c11, h13, HS⟩ => ⟨_, h13, (fL b5 1 Nc Z (GO.C8 (j := 1) (vs := [.slice A10 t8.length c11]) ([I a1, .slice A10 t8.length c11]) HS Z Z Z Z Z (htN H7 Z) Z Z Z fun wd14 HS => nL (sQ (rG (GO.Bu (j := 1) ([I a1, .slice A10 t8.length c11]) HS Z Z Z Z Rz Z (GO.C8 (j := 2) (vs := [I a1, .slice A10 t8.length c11]) ([I a1, .slice A10 t8.length c11]) HS Z Z Z Z Z (htA Rz) Z Z Z fun wd15 HS => nL ?_))))))⟩))))
  obtain ⟨rfl, rfl⟩ := Mf H
  exact rT _ func46 Z (Ki.Lr (j := 2) (vs := [I a1, .slice A10 t8.length c11]) HS Z Z Z Rz) ⟨_, _, Z, (HS.pk 4 [0] Z)⟩
theorem Md.calls {a1 c1 : Int} {d1 r1 : Int} {r2 r3 : Int} (HS : St w0 w (L)) (H : Md.f a1 c1 d1 = some (r1, r2, r3)) :
    Calls prog 135 #[.agg [I a1, I c1, I d1].toArray] w (Md.post w0 L r1 r2 r3) := by
  unfold Md.f at H
  refine cG func135 Z ?_
  refine sQ (rG (GO.box (cs := [I a1, I c1, I d1]) HS Z Z Z Z fun b1 wd2 HS => GO.alloc HS Z uL Z Z fun b3 wd4 HS => nL (sQ (rG (GO.alloc HS Z uL Z Z fun b5 wd6 HS => nL (sQ (rG (fL b1 0 qC Z (lB 2 HS Z na2 Z (fL b5 0 Nj Z (GO.C8 (j := 0) (vs := [I a1]) ([I a1, I 0, I 0]) HS Z Z Z Z Z (htN na2 Z) Z Z Z fun wd7 HS => ?_)))))))))))
  refine nL (sQ (rG (fL b1 1 pQ Z (lB 2 HS Z na2 Z (fL b5 1 Nz Z (GO.C8 (j := 0) (vs := [I c1]) ([I a1, I c1, I 0]) HS Z Z Z Z Z (htN na2 Z) Z Z Z fun wd8 HS => nL (sQ (rG (fL b1 2 qA Z (lB 2 HS Z na2 Z (fL b5 2 O7 Z (GO.C8 (j := 0) (vs := [I d1]) ([I a1, I c1, I d1]) HS Z Z Z Z Z (htN na2 Z) Z Z Z fun wd9 HS => nL ?_))))))))))))
  refine sQ (rG (GO.Bu (j := 0) ([I a1, I c1, I d1]) HS Z Z Z Z Ta Z (GO.C8 (j := 1) (vs := [I a1, I c1, I d1]) ([I a1, I c1, I d1]) HS Z Z Z Z Z (htA Ta) Z Z Z fun wd10 HS => nL ?_)))
  obtain ⟨rfl, rfl, rfl⟩ := Pp H
  exact rT _ func135 Z (Ki.Lr (j := 1) (vs := [I a1, I c1, I d1]) HS Z Z Z Ta) ⟨Z, (HS.pk 3 [] Z)⟩
theorem F6.calls {a_ : List Ci} {A_a : Option Addr} {c_a : Nat} {r1 : List Ci} (HS : St w0 w (L)) (r_a : Aq w0 L Cq A_a c_a (fun _ => ()) a_) (H : F6.f K a_ = some r1) :
    Calls prog 95 #[.slice A_a a_.length c_a] w (F6.post w0 L r1) := by
  unfold F6.f at H
  refine cG func95 Z ?_
  refine rN 3 Z ?_
  obtain ⟨c1, H⟩ := iN H
  obtain ⟨c2, H⟩ := iN H
  refine rG (mV Z (lS Z Z underlying46 Z (GO.make (T := Cq) He () HS Bv Z Z Z underlying60 bV Z Z Z c1 c2 Z fun b3 wd4 HS => aS Z (nL (rN 5 Z ?_)))))
  refine G.name (fun e1 h1 => ?_)
  have i1 : ∀ b1, b1 ≤ K → ∀ (d1 : List Ci) (a1 : Int) (w : World), F6.l1 K b1 a_ d1 a1 = some r1 → St w0 w (Own Cq 140 (some ⟨b3, 0, none⟩) ((a_.length : Int).toNat) (fun _ => ()) d1 :: L) → G prog 95 23 [(0, .slice A_a a_.length c_a), (3, .slice (some ⟨b3, 0, none⟩) d1.length ((a_.length : Int).toNat)), (4, I a1)] e1 w (F6.post w0 L r1) := by
   intro b1
   induction b1 using Nat.strongRecOn with
   | _ b1 g1 =>
    intro k1 d1 a1 w H HS
    cases b1 with
    | zero => rw [F6.l1] at H; cases H
    | succ f1 =>
     rw [F6.l1] at H
     subst h1
     refine rN 2 Z (rG (pS 2 Z (lS Z Z underlying46 Z (GO.lss Z Z Z Z (nL ?_)))))
     rcases iE H with ⟨c31, H⟩ | ⟨c31, H⟩
     ·
      refine yB Z (tT c31) (rN 3 Z ?_)
      obtain ⟨c32, H⟩ := iN H
      obtain ⟨e33, h34, H⟩ := Cn H
      obtain ⟨t35, t36, t37, h38, H⟩ := Na H
      obtain ⟨c41, H⟩ := iN H
      refine rG (pS 4 Z (GO.ix Z Z Z underlying46 xL ((rD 1 r_a) _ HS).2.2.1 c32.1 c32.2 Z (GO.Ja (T := Cq) (n := a1.toNat) HS (rD 1 r_a) Z Z (getD_eq (ltN c32) h34) xD Z (fN Z func135 nO.1 nO.2 Z Z (Md.calls HS  h38) (fun _ wd39 ⟨h40, HS⟩ => ⟨_, h40, (GO.ix Z Z Z underlying60 Q0 (fun _ => ⟨_, _, Z⟩) c41.1 c41.2 Z (GO.M5 (T := Cq) (j := 0) (n := a1.toNat) (o := 0) (vs := [I t35, I t36, I t37]) (⟨t35, t36, t37⟩ : Ci) HS Z Bv Z Z Z Z (htA Ta) Z (getD_some (d := He) (ltN c41)) Z Z fun wd42 HS => nL (G.len (t := 3) (m := (d1.set a1.toNat (⟨t35, t36, t37⟩ : Ci)).length) Z (by simp only [List.length_set] <;> rfl) (rN 3 Z (G.weak ?_ (g1 f1 (Nat.lt_succ_of_le (lR _)) (Nat.le_of_succ_le k1) _ _ _ H HS))))))⟩)))))
      exact ⟨Z, Z, Z, tv⟩
     refine nB Z (tF c31) (rN 3 Z ?_)
     obtain rfl := sI H
     exact rT _ func95 Z Z ⟨_, _, Z, HS⟩
  refine G.weak ?_ (i1 K (lR _) _ _ _ H HS)
  exact ⟨Z, Z, Z, tv⟩
theorem Hq.calls {a1 c1 : Int} {f1 : List Ci} {d1 e1 : List Int} {A_a : Option Addr} {c_a : Nat} {A_b : Option Addr} {c_b : Nat} {A_c : Option Addr} {c_c : Nat} {r1 r2 : Int} {r3 : List Ci} {r4 r5 : List Int} (HS : St w0 w (L)) (r_a : Aq w0 L Cq A_a c_a (fun _ => ()) f1) (r_b : Aq w0 L (Bq .i64) A_b c_b (fun _ => ()) d1) (r_c : Aq w0 L (Bq .i64) A_c c_c (fun _ => ()) e1) (H : Hq.f K a1 c1 f1 d1 e1 = some (r1, r2, r3, r4, r5)) :
    Calls prog 47 #[.agg [I a1, I c1, .slice A_a f1.length c_a, .slice A_b d1.length c_b, .slice A_c e1.length c_c].toArray] w (Hq.post w0 L r1 r2 r3 r4 r5) := by
  unfold Hq.f at H
  refine cG func47 Z ?_
  refine sQ (rG (GO.box (cs := [I a1, I c1, .slice A_a f1.length c_a, .slice A_b d1.length c_b, .slice A_c e1.length c_c]) HS Z Z Z Z fun b1 wd2 HS => GO.alloc HS Z qV Z Z fun b3 wd4 HS => nL (sQ (rG (GO.alloc HS Z qV Z Z fun b5 wd6 HS => nL (sQ (rG (fL b1 0 vM Z (lB 2 HS Z na2 Z (fL b5 0 Mw Z (GO.C8 (j := 0) (vs := [I a1]) ([I a1, I 0, .slice none 0 0, .slice none 0 0, .slice none 0 0]) HS Z Z Z Z Z (htN na2 Z) Z Z Z fun wd7 HS => ?_)))))))))))
  refine nL (sQ (rG (fL b1 1 wI Z (lB 2 HS Z na2 Z (fL b5 1 M0 Z (GO.C8 (j := 0) (vs := [I c1]) ([I a1, I c1, .slice none 0 0, .slice none 0 0, .slice none 0 0]) HS Z Z Z Z Z (htN na2 Z) Z Z Z fun wd8 HS => nL (sQ ?_)))))))
  obtain ⟨t9, h10, H⟩ := bI H
  refine rG (fL b1 2 oM Z (lB 2 HS Z xG Z (fN Z func95 vD.1 vD.2 Z Z (F6.calls HS (rD 3 r_a) h10) (fun _ wd13 ⟨A11, c12, h14, HS⟩ => ⟨_, h14, (fL b5 2 Ir Z (GO.C8 (j := 1) (vs := [.slice A11 t9.length c12]) ([I a1, I c1, .slice A11 t9.length c12, .slice none 0 0, .slice none 0 0]) HS Z Z Z Z Z (htN Nh Z) Z Z Z fun wd15 HS => nL (sQ ?_)))⟩))))
  obtain ⟨t16, h17, H⟩ := bI H
  refine rG (fL b1 3 nD Z (lB 3 HS Z H7 Z (fN Z func94 Yc.1 Yc.2 Z Z (D9.calls HS (rD 4 r_b) h17) (fun _ wd20 ⟨A18, c19, h21, HS⟩ => ⟨_, h21, (fL b5 3 Je Z (GO.C8 (j := 2) (vs := [.slice A18 t16.length c19]) ([I a1, I c1, .slice A11 t9.length c12, .slice A18 t16.length c19, .slice none 0 0]) HS Z Z Z Z Z (htN H7 Z) Z Z Z fun wd22 HS => nL (sQ ?_)))⟩))))
  obtain ⟨t23, h24, H⟩ := bI H
  refine rG (fL b1 4 mD Z (lB 4 HS Z H7 Z (fN Z func94 Yc.1 Yc.2 Z Z (D9.calls HS (rD 5 r_c) h24) (fun _ wd27 ⟨A25, c26, h28, HS⟩ => ⟨_, h28, (fL b5 4 Lm Z (GO.C8 (j := 3) (vs := [.slice A25 t23.length c26]) ([I a1, I c1, .slice A11 t9.length c12, .slice A18 t16.length c19, .slice A25 t23.length c26]) HS Z Z Z Z Z (htN H7 Z) Z Z Z fun wd29 HS => nL (sQ (rG (GO.Bu (j := 3) ([I a1, I c1, .slice A11 t9.length c12, .slice A18 t16.length c19, .slice A25 t23.length c26]) HS Z Z Z Z Qn Z (GO.C8 (j := 4) (vs := [I a1, I c1, .slice A11 t9.length c12, .slice A18 t16.length c19, .slice A25 t23.length c26]) ([I a1, I c1, .slice A11 t9.length c12, .slice A18 t16.length c19, .slice A25 t23.length c26]) HS Z Z Z Z Z (htA Qn) Z Z Z fun wd30 HS => nL ?_))))))⟩))))
  obtain ⟨rfl, rfl, rfl, rfl, rfl⟩ := tJ H
  exact rT _ func47 Z (Ki.Lr (j := 4) (vs := [I a1, I c1, .slice A11 t9.length c12, .slice A18 t16.length c19, .slice A25 t23.length c26]) HS Z Z Z Qn) ⟨_, _, _, _, _, _, Z, (HS.pk 6 [2, 1, 0] Z)⟩
theorem Gy.calls {a1 : ByteArray} {c1 : Int} {h1 : List (List Bt)} {d1 : List Al} {o1 m1 : Int} {f1 : List Int} {k1 n1 : Int} {g1 : List Ci} {i1 e1 : List Int} {A_a : Option Addr} {c_a : Nat} {y_a : Nat → (Ty.slice 200 Bc).Lay} {A_b : Option Addr} {c_b : Nat} {A_c : Option Addr} {c_c : Nat} {A_d : Option Addr} {c_d : Nat} {A_e : Option Addr} {c_e : Nat} {A_f : Option Addr} {c_f : Nat} {r1 : ByteArray} {r2 : Int} {r3 : List (List Bt)} {r4 : List Al} {r5 r6 : Int} {r7 : List Int} {r8 r9 : Int} {r10 : List Ci} {r11 r12 : List Int} (HS : St w0 w (L)) (r_a : Aq w0 L (Ty.slice 200 Bc) A_a c_a y_a h1) (r_b : Aq w0 L Bb A_b c_b (fun _ => ()) d1) (r_c : Aq w0 L (Bq .i64) A_c c_c (fun _ => ()) f1) (r_d : Aq w0 L Cq A_d c_d (fun _ => ()) g1) (r_e : Aq w0 L (Bq .i64) A_e c_e (fun _ => ()) i1) (r_f : Aq w0 L (Bq .i64) A_f c_f (fun _ => ()) e1) (H : Gy.f K a1 c1 h1 d1 o1 m1 f1 k1 n1 g1 i1 e1 = some (r1, r2, r3, r4, r5, r6, r7, r8, r9, r10, r11, r12)) :
    Calls prog 14 #[.agg [.string a1, I c1, .slice A_a h1.length c_a, .slice A_b d1.length c_b, I o1, I m1, .slice A_c f1.length c_c, I k1, I n1, .slice A_d g1.length c_d, .slice A_e i1.length c_e, .slice A_f e1.length c_f].toArray] w (Gy.post w0 L r1 r2 r3 r4 r5 r6 r7 r8 r9 r10 r11 r12) := by
  unfold Gy.f at H
  refine cG func14 Z ?_
  refine sQ (rG (GO.box (cs := [.string a1, I c1, .slice A_a h1.length c_a, .slice A_b d1.length c_b, I o1, I m1, .slice A_c f1.length c_c, I k1, I n1, .slice A_d g1.length c_d, .slice A_e i1.length c_e, .slice A_f e1.length c_f]) HS Z Z Z Z fun b1 wd2 HS => GO.alloc HS Z dJ Z Z fun b3 wd4 HS => nL (sQ (rG (GO.alloc HS Z dJ Z Z fun b5 wd6 HS => nL (sQ (rG (fL b1 0 lD Z (lB 2 HS Z na9 Z (fL b5 0 K7 Z (GO.C8 (j := 0) (vs := [.string a1]) ([.string a1, I 0, .slice none 0 0, .slice none 0 0, I 0, I 0, .slice none 0 0, I 0, I 0, .slice none 0 0, .slice none 0 0, .slice none 0 0]) HS Z Z Z Z Z (htN na9 Z) Z Z Z fun wd7 HS => ?_)))))))))))
  refine nL (sQ (rG (fL b1 1 wP Z (lB 2 HS Z na2 Z (fL b5 1 Mk Z (GO.C8 (j := 0) (vs := [I c1]) ([.string a1, I c1, .slice none 0 0, .slice none 0 0, I 0, I 0, .slice none 0 0, I 0, I 0, .slice none 0 0, .slice none 0 0, .slice none 0 0]) HS Z Z Z Z Z (htN na2 Z) Z Z Z fun wd8 HS => nL (sQ ?_)))))))
  obtain ⟨t9, h10, H⟩ := bI H
  refine rG (fL b1 2 mI Z (GO.Bu (j := 2) ([.slice A_a h1.length c_a]) HS Z Z Z Z xI Z (fN Z func44 uT.1 uT.2 Z Z (Hg.calls HS (rD 3 r_a) h10) (fun _ wd14 ⟨A11, c12, y13, h15, HS⟩ => ⟨_, h15, (fL b5 2 Nk Z (GO.C8 (j := 1) (vs := [.slice A11 t9.length c12]) ([.string a1, I c1, .slice A11 t9.length c12, .slice none 0 0, I 0, I 0, .slice none 0 0, I 0, I 0, .slice none 0 0, .slice none 0 0, .slice none 0 0]) HS Z Z Z Z Z (htA Oc) Z Z Z fun wd16 HS => nL (sQ ?_)))⟩))))
  obtain ⟨t17, t18, h19, H⟩ := Dk H
  refine rG (fL b1 3 kL Z (GO.Bu (j := 3) ([.slice A_b d1.length c_b, I o1]) HS Z Z Z Z wU Z (fN Z func45 vC.1 vC.2 Z Z (Kc.calls HS (rD 4 r_b) h19) (fun _ wd22 ⟨A20, c21, h23, HS⟩ => ⟨_, h23, (fL b5 3 L8 Z (GO.C8 (j := 2) (vs := [.slice A20 t17.length c21, I t18]) ([.string a1, I c1, .slice A11 t9.length c12, .slice A20 t17.length c21, I t18, I 0, .slice none 0 0, I 0, I 0, .slice none 0 0, .slice none 0 0, .slice none 0 0]) HS Z Z Z Z Z (htA Np) Z Z Z fun wd24 HS => nL (sQ ?_)))⟩))))
  obtain ⟨t25, t26, h27, H⟩ := Dk H
  refine rG (fL b1 5 oW Z (GO.Bu (j := 4) ([I m1, .slice A_c f1.length c_c]) HS Z Z Z Z xJ Z (fN Z func46 sF.1 sF.2 Z Z (Lj.calls HS (rD 5 r_c) h27) (fun _ wd30 ⟨A28, c29, h31, HS⟩ => ⟨_, h31, (fL b5 5 Ml Z (GO.C8 (j := 3) (vs := [I t25, .slice A28 t26.length c29]) ([.string a1, I c1, .slice A11 t9.length c12, .slice A20 t17.length c21, I t18, I t25, .slice A28 t26.length c29, I 0, I 0, .slice none 0 0, .slice none 0 0, .slice none 0 0]) HS Z Z Z Z Z (htA Rz) Z Z Z fun wd32 HS => nL (sQ ?_)))⟩))))
  obtain ⟨t33, t34, t35, t36, t37, h38, H⟩ := V4 H
  refine rG (fL b1 7 jA Z (GO.Bu (j := 5) ([I k1, I n1, .slice A_d g1.length c_d, .slice A_e i1.length c_e, .slice A_f e1.length c_f]) HS Z Z Z Z xU Z (fN Z func47 tY.1 tY.2 Z Z (Hq.calls HS (rD 6 r_d) (rD 6 r_e) (rD 6 r_f) h38) (fun _ wd45 ⟨A39, c40, A41, c42, A43, c44, h46, HS⟩ => ⟨_, h46, (fL b5 7 K4 Z (GO.C8 (j := 6) (vs := [I t33, I t34, .slice A39 t35.length c40, .slice A41 t36.length c42, .slice A43 t37.length c44]) ([.string a1, I c1, .slice A11 t9.length c12, .slice A20 t17.length c21, I t18, I t25, .slice A28 t26.length c29, I t33, I t34, .slice A39 t35.length c40, .slice A41 t36.length c42, .slice A43 t37.length c44]) HS Z Z Z Z Z (htA Qn) Z Z Z fun wd47 HS => nL (sQ (rG (GO.Bu (j := 6) ([.string a1, I c1, .slice A11 t9.length c12, .slice A20 t17.length c21, I t18, I t25, .slice A28 t26.length c29, I t33, I t34, .slice A39 t35.length c40, .slice A41 t36.length c42, .slice A43 t37.length c44]) HS Z Z Z Z Mq Z (GO.C8 (j := 7) (vs := [.string a1, I c1, .slice A11 t9.length c12, .slice A20 t17.length c21, I t18, I t25, .slice A28 t26.length c29, I t33, I t34, .slice A39 t35.length c40, .slice A41 t36.length c42, .slice A43 t37.length c44]) ([.string a1, I c1, .slice A11 t9.length c12, .slice A20 t17.length c21, I t18, I t25, .slice A28 t26.length c29, I t33, I t34, .slice A39 t35.length c40, .slice A41 t36.length c42, .slice A43 t37.length c44]) HS Z Z Z Z Z (htA Mq) Z Z Z fun wd48 HS => nL ?_))))))⟩))))
  obtain ⟨rfl, rfl, rfl, rfl, rfl, rfl, rfl, rfl, rfl, rfl, rfl, rfl⟩ := cK H
  exact rT _ func14 Z (Ki.Lr (j := 7) (vs := [.string a1, I c1, .slice A11 t9.length c12, .slice A20 t17.length c21, I t18, I t25, .slice A28 t26.length c29, I t33, I t34, .slice A39 t35.length c40, .slice A41 t36.length c42, .slice A43 t37.length c44]) HS Z Z Z Mq) ⟨_, _, _, _, _, _, _, _, _, _, _, _, _, Z, (HS.pk 9 [5, 4, 3, 0, 1, 2] Z)⟩
theorem Fb.calls {a_ : List Am} {A_a : Option Addr} {c_a : Nat} {y_a : Nat → Ez.Lay} {r1 : List Am} (HS : St w0 w (L)) (r_a : Aq w0 L Ez A_a c_a y_a a_) (H : Fb.f K a_ = some r1) :
    Calls prog 24 #[.slice A_a a_.length c_a] w (Fb.post w0 L r1) := by
  unfold Fb.f at H
  refine cG func24 Z ?_
  refine rN 3 Z ?_
  obtain ⟨c1, H⟩ := iN H
  obtain ⟨c2, H⟩ := iN H
  refine rG (mV Z (lS Z Z underlying22 Z (GO.xN (T := Aa) Br ((), (), ⟨none, 0, (fun _ => ⟨none, 0, (fun _ => ())⟩)⟩, ⟨none, 0, (fun _ => ())⟩, (), (), ⟨none, 0, (fun _ => ())⟩, (), (), ⟨none, 0, (fun _ => ())⟩, ⟨none, 0, (fun _ => ())⟩, ⟨none, 0, (fun _ => ())⟩) HS aP Z Z Z underlying27 Uu Z Z Z c1 c2 Z fun b3 wd4 HS => aS Z (nL (rN 5 Z ?_)))))
  refine G.name (fun e1 h1 => ?_)
  have i1 : ∀ b1, b1 ≤ K → ∀ (d1 : List Am) (y41 : Nat → Aa.Lay) (a1 : Int) (w : World), Fb.l1 K b1 a_ d1 a1 = some r1 → St w0 w (Own Aa 64 (some ⟨b3, 0, none⟩) ((a_.length : Int).toNat) y41 d1 :: L) → G prog 24 23 [(0, .slice A_a a_.length c_a), (3, .slice (some ⟨b3, 0, none⟩) d1.length ((a_.length : Int).toNat)), (4, I a1)] e1 w (Fb.post w0 L r1) := by
   intro b1
   induction b1 using Nat.strongRecOn with
   | _ b1 g1 =>
    intro k1 d1 y41 a1 w H HS
    cases b1 with
    | zero => rw [Fb.l1] at H; cases H
    | succ f1 =>
     rw [Fb.l1] at H
     subst h1
     refine rN 2 Z (rG (pS 2 Z (lS Z Z underlying22 Z (GO.lss Z Z Z Z (nL ?_)))))
     rcases iE H with ⟨c78, H⟩ | ⟨c78, H⟩
     ·
      refine yB Z (tT c78) (rN 3 Z ?_)
      obtain ⟨c79, H⟩ := iN H
      obtain ⟨e80, h81, H⟩ := Cn H
      obtain ⟨t82, t83, t84, t85, t86, t87, t88, t89, t90, t91, t92, t93, h94, H⟩ := Jw H
      obtain ⟨c110, H⟩ := iN H
      refine rG (pS 4 Z (GO.ix Z Z Z underlying22 wR ((rD 1 r_a) _ HS).2.2.1 c79.1 c79.2 Z (GO.Ja (T := Ez) (n := a1.toNat) HS (rD 1 r_a) Z Z (getD_eq (ltN c79) h81) bZ Z (fN Z func14 R9.1 R9.2 Z Z (Gy.calls HS (Aq.fld (rD 1 r_a) (getD_eq (ltN c79) h81) (fun _ h => h.2.2.1)) (Aq.fld (rD 1 r_a) (getD_eq (ltN c79) h81) (fun _ h => h.2.2.2.1)) (Aq.fld (rD 1 r_a) (getD_eq (ltN c79) h81) (fun _ h => h.2.2.2.2.2.2.1)) (Aq.fld (rD 1 r_a) (getD_eq (ltN c79) h81) (fun _ h => h.2.2.2.2.2.2.2.2.2.1)) (Aq.fld (rD 1 r_a) (getD_eq (ltN c79) h81) (fun _ h => h.2.2.2.2.2.2.2.2.2.2.1)) (Aq.fld (rD 1 r_a) (getD_eq (ltN c79) h81) (fun _ h => h.2.2.2.2.2.2.2.2.2.2.2)) h94) (fun _ wd108 ⟨A95, c96, y97, A98, c99, A100, c101, A102, c103, A104, c105, A106, c107, h109, HS⟩ => ⟨_, h109, (GO.ix Z Z Z underlying27 Jt (fun _ => ⟨_, _, Z⟩) c110.1 c110.2 Z ?_)⟩)))))
      replace HS := HS.pk 7 [5, 4, 3, 2, 1, 0, 6] Z
      replace HS := Mh (Name := t82) (Kind := t83) (Aj := t86) (Ao := t87) (Ak := t89) (Ah := t90) HS
      replace HS := HS.pk 2 [1, 0] Z
      refine GO.stE (T := Aa) (n := a1.toNat) ((), (), ⟨A95, c96, y97⟩, ⟨A98, c99, (fun _ => ())⟩, (), (), ⟨A100, c101, (fun _ => ())⟩, (), (), ⟨A102, c103, (fun _ => ())⟩, ⟨A104, c105, (fun _ => ())⟩, ⟨A106, c107, (fun _ => ())⟩) (⟨t82, t83, t84, t85, t86, t87, t88, t89, t90, t91, t92, t93⟩ : Am) HS Z Z Z Z (htA Mq) Z (ltN c110) fun y112 wd111 HS => nL (G.len (t := 3) (m := (d1.set a1.toNat (⟨t82, t83, t84, t85, t86, t87, t88, t89, t90, t91, t92, t93⟩ : Am)).length) Z (by simp only [List.length_set] <;> rfl) (rN 3 Z (G.weak ?_ (g1 f1 (Nat.lt_succ_of_le (lR _)) (Nat.le_of_succ_le k1) _ _ _ _ H HS))))
      exact ⟨Z, Z, Z, tv⟩
     refine nB Z (tF c78) (rN 3 Z ?_)
     obtain rfl := sI H
     exact rT _ func24 Z Z ⟨_, _, _, Z, HS⟩
  refine G.weak ?_ (i1 K (lR _) _ _ _ _ H HS)
  exact ⟨Z, Z, Z, tv⟩
theorem Eu.calls {a_ : List (List Am)} {A_a : Option Addr} {c_a : Nat} {y_a : Nat → (Ty.slice 50 Ez).Lay} {r1 : List (List Am)} (HS : St w0 w (L)) (r_a : Aq w0 L (Ty.slice 50 Ez) A_a c_a y_a a_) (H : Eu.f K a_ = some r1) :
    Calls prog 25 #[.slice A_a a_.length c_a] w (Eu.post w0 L r1) := by
  unfold Eu.f at H
  refine cG func25 Z ?_
  refine rN 3 Z ?_
  obtain ⟨c1, H⟩ := iN H
  obtain ⟨c2, H⟩ := iN H
  refine rG (mV Z (lS Z Z underlying23 Z (GO.sU (S := Aa) (u := 64) (fun _ => ((), (), ⟨none, 0, (fun _ => ⟨none, 0, (fun _ => ())⟩)⟩, ⟨none, 0, (fun _ => ())⟩, (), (), ⟨none, 0, (fun _ => ())⟩, (), (), ⟨none, 0, (fun _ => ())⟩, ⟨none, 0, (fun _ => ())⟩, ⟨none, 0, (fun _ => ())⟩)) HS Z Z Z underlying28 aI Z c1 c2 Z fun b3 wd4 HS => aS Z (nL (rN 5 Z ?_)))))
  refine G.name (fun e1 h1 => ?_)
  have i1 : ∀ a1, a1 ≤ K → ∀ (d1 : List (List Am)) (y18 : Nat → (Ty.slice 64 Aa).Lay) (b1 : Int) (w : World), Eu.l1 K a1 a_ d1 b1 = some r1 → St w0 w (Own (Ty.slice 64 Aa) 27 (some ⟨b3, 0, none⟩) ((a_.length : Int).toNat) y18 d1 :: L) → G prog 25 23 [(0, .slice A_a a_.length c_a), (3, .slice (some ⟨b3, 0, none⟩) d1.length ((a_.length : Int).toNat)), (4, I b1)] e1 w (Eu.post w0 L r1) := by
   intro a1
   induction a1 using Nat.strongRecOn with
   | _ a1 g1 =>
    intro k1 d1 y18 b1 w H HS
    cases a1 with
    | zero => rw [Eu.l1] at H; cases H
    | succ f1 =>
     rw [Eu.l1] at H
     subst h1
     refine rN 2 Z (rG (pS 2 Z (lS Z Z underlying23 Z (GO.lss Z Z Z Z (nL ?_)))))
     rcases iE H with ⟨c32, H⟩ | ⟨c32, H⟩
     ·
      refine yB Z (tT c32) (rN 3 Z ?_)
      obtain ⟨c33, H⟩ := iN H
      obtain ⟨t34, h35, H⟩ := bI H
      obtain ⟨c41, H⟩ := iN H
      refine rG (pS 4 Z (GO.ix Z Z Z underlying23 xW ((rD 1 r_a) _ HS).2.2.1 c33.1 c33.2 Z (GO.Fq (T := (Ty.slice 50 Ez)) (n := b1.toNat) (o := 0) HS (rD 1 r_a) Z Z (getD_some (d := []) (ltN c33)) Z Z qN Z (fN Z func24 fO.1 fO.2 Z Z (Fb.calls HS (Aq.elem (rD 1 r_a) c33.1 c33.2) h35) (fun _ wd39 ⟨A36, c37, y38, h40, HS⟩ => ⟨_, h40, (GO.ix Z Z Z underlying28 V5 (fun _ => ⟨_, _, Z⟩) c41.1 c41.2 Z ?_)⟩)))))
      replace HS := HS.pk 2 [1, 0] Z
      refine GO.lI (S := Aa) (u := 64) HS Z Z Z Nq (ltN c41) fun y43 wd42 HS => nL (G.len (t := 3) (m := (d1.set b1.toNat t34).length) Z (by simp only [List.length_set] <;> rfl) (rN 3 Z (G.weak ?_ (g1 f1 (Nat.lt_succ_of_le (lR _)) (Nat.le_of_succ_le k1) _ _ _ _ H HS))))
      exact ⟨Z, Z, Z, tv⟩
     refine nB Z (tF c32) (rN 3 Z ?_)
     obtain rfl := sI H
     exact rT _ func25 Z Z ⟨_, _, _, Z, HS⟩
  refine G.weak ?_ (i1 K (lR _) _ _ _ _ H HS)
  exact ⟨Z, Z, Z, tv⟩
theorem H9.calls {d1 : List Am} {c1 a1 : List (List Am)} {A_a : Option Addr} {c_a : Nat} {y_a : Nat → Ez.Lay} {A_b : Option Addr} {c_b : Nat} {y_b : Nat → (Ty.slice 50 Ez).Lay} {A_c : Option Addr} {c_c : Nat} {y_c : Nat → (Ty.slice 50 Ez).Lay} {r1 : List Am} {r2 r3 : List (List Am)} (HS : St w0 w (L)) (r_a : Aq w0 L Ez A_a c_a y_a d1) (r_b : Aq w0 L (Ty.slice 50 Ez) A_b c_b y_b c1) (r_c : Aq w0 L (Ty.slice 50 Ez) A_c c_c y_c a1) (H : H9.f K d1 c1 a1 = some (r1, r2, r3)) :
    Calls prog 7 #[.agg [.slice A_a d1.length c_a, .slice A_b c1.length c_b, .slice A_c a1.length c_c].toArray] w (H9.post w0 L r1 r2 r3) := by
  unfold H9.f at H
  refine cG func7 Z ?_
  refine sQ (rG (GO.box (cs := [.slice A_a d1.length c_a, .slice A_b c1.length c_b, .slice A_c a1.length c_c]) HS Z Z Z Z fun b1 wd2 HS => GO.alloc HS Z Xn Z Z fun b3 wd4 HS => nL (sQ (rG (GO.alloc HS Z Xn Z Z fun b5 wd6 HS => nL (sQ ?_))))))
  obtain ⟨t7, h8, H⟩ := bI H
  refine rG (fL b1 0 jG Z (lB 2 HS Z qN Z (fN Z func24 fO.1 fO.2 Z Z (Fb.calls HS (rD 3 r_a) h8) (fun _ wd12 ⟨A9, c10, y11, h13, HS⟩ => ⟨_, h13, (fL b5 0 K5 Z (GO.C8 (j := 1) (vs := [.slice A9 t7.length c10]) ([.slice A9 t7.length c10, .slice none 0 0, .slice none 0 0]) HS Z Z Z Z Z (htN Nq Z) Z Z Z fun wd14 HS => nL (sQ ?_)))⟩))))
  obtain ⟨t15, h16, H⟩ := bI H
  refine rG (fL b1 1 kK Z (lB 3 HS Z qQ Z (fN Z func25 dV.1 dV.2 Z Z (Eu.calls HS (rD 4 r_b) h16) (fun _ wd20 ⟨A17, c18, y19, h21, HS⟩ => ⟨_, h21, (fL b5 1 Po Z (GO.C8 (j := 2) (vs := [.slice A17 t15.length c18]) ([.slice A9 t7.length c10, .slice A17 t15.length c18, .slice none 0 0]) HS Z Z Z Z Z (htN Qa Z) Z Z Z fun wd22 HS => nL (sQ ?_)))⟩))))
  obtain ⟨t23, h24, H⟩ := bI H
  refine rG (fL b1 2 mF Z (lB 4 HS Z qQ Z (fN Z func25 dV.1 dV.2 Z Z (Eu.calls HS (rD 5 r_c) h24) (fun _ wd28 ⟨A25, c26, y27, h29, HS⟩ => ⟨_, h29, (fL b5 2 Rc Z (GO.C8 (j := 3) (vs := [.slice A25 t23.length c26]) ([.slice A9 t7.length c10, .slice A17 t15.length c18, .slice A25 t23.length c26]) HS Z Z Z Z Z (htN Qa Z) Z Z Z fun wd30 HS => nL (sQ (rG (GO.Bu (j := 3) ([.slice A9 t7.length c10, .slice A17 t15.length c18, .slice A25 t23.length c26]) HS Z Z Z Z Km Z (GO.C8 (j := 4) (vs := [.slice A9 t7.length c10, .slice A17 t15.length c18, .slice A25 t23.length c26]) ([.slice A9 t7.length c10, .slice A17 t15.length c18, .slice A25 t23.length c26]) HS Z Z Z Z Z (htA Km) Z Z Z fun wd31 HS => nL ?_))))))⟩))))
  obtain ⟨rfl, rfl, rfl⟩ := Pp H
  exact rT _ func7 Z (Ki.Lr (j := 4) (vs := [.slice A9 t7.length c10, .slice A17 t15.length c18, .slice A25 t23.length c26]) HS Z Z Z Km) ⟨_, _, _, _, _, _, _, _, _, Z, (HS.pk 6 [2, 1, 0] Z)⟩
theorem Fx.calls {s : ByteArray} {r1 : Bool} (HS : St w0 w (L)) (H : Fx.f K s = some r1) :
    Calls prog 83 #[.string s] w (Fx.post w0 L r1) := by
  unfold Fx.f at H
  refine cG func83 Z ?_
  refine rN 7 Z ?_
  refine G.name (fun b1 e1 => ?_)
  have f1 : ∀ a1, a1 ≤ K → ∀ (i_6 : Int) (w : World), Fx.l1 K a1 s i_6 = some r1 → St w0 w (L) → G prog 83 28 [(0, .string s), (3, I i_6)] b1 w (Fx.post w0 L r1) := by
   intro a1
   induction a1 using Nat.strongRecOn with
   | _ a1 d1 =>
    intro g1 i_6 w H HS
    cases a1 with
    | zero => rw [Fx.l1] at H; cases H
    | succ c1 =>
     rw [Fx.l1] at H
     subst e1
     refine rN 2 Z (rG (pS 2 Z (GO.P6 Z Z underlying9 Z (GO.lss Z Z Z Z (nL ?_)))))
     rcases iE H with ⟨c12, H⟩ | ⟨c12, H⟩
     ·
      refine yB Z (tT c12) (rN 4 Z ?_)
      obtain ⟨c13, H⟩ := iN H
      rcases iE H with ⟨c14, H⟩ | ⟨c14, H⟩
      ·
       refine rG (pS 2 Z (GO.ixS Z Z Z underlying9 c13.1 c13.2 Z (pS 2 Z (kN 14 Z (tT c14) (oF Z (oF Z (oF Z (oF Z (GO.Ip Z Z Z Z Z (nL (rN 3 Z ?_)))))))))))
       obtain rfl := sI H
       exact rT _ func83 Z Z ⟨Z, HS⟩
      refine rG (pS 2 Z (GO.ixS Z Z Z underlying9 c13.1 c13.2 Z (pS 2 Z (kN 14 Z (tF c14) (oN Z (mV Z (bK (oN Z (mV Z (bK (oN Z (GO.ixS Z Z Z underlying9 c13.1 c13.2 Z (bK (oN Z ?_))))))))))))))
      refine GO.gtr Z Z Z Z (bK (GO.Js Z Z Z Z Z (nL ?_)))
      rcases iE H with ⟨c15, H⟩ | ⟨c15, H⟩
      ·
       refine yB Z (tT c15) (rN 2 Z ?_)
       obtain rfl := sI H
       exact rT _ func83 Z Z ⟨Z, HS⟩
      refine nB Z (tF c15) (rN 4 Z (G.weak ?_ (d1 c1 (Nat.lt_succ_of_le (lR _)) (Nat.le_of_succ_le g1) _ _ H HS)))
      exact ⟨Z, Z, tv⟩
     refine nB Z (tF c12) (rN 2 Z ?_)
     rcases iE H with ⟨c16, H⟩ | ⟨c16, H⟩
     ·
      refine rG (mV Z (GO.P6 Z Z underlying9 Z (pS 2 Z (kN 23 Z (tT c16) (oN Z (mV Z (bK (oN Z (GO.P6 Z Z underlying9 Z (bK (oN Z (GO.leq Z Z Z Z (bK (pS 2 Z ?_))))))))))))))
      refine nL ?_
      obtain rfl := sI H
      exact rT _ func83 Z Z ⟨Z, HS⟩
     refine rG (mV Z (GO.P6 Z Z underlying9 Z (pS 2 Z (kN 23 Z (tF c16) (oF Z (oF Z (oF Z (pS 2 Z (nL ?_)))))))))
     obtain rfl := sI H
     exact rT _ func83 Z Z ⟨Z, HS⟩
  refine G.weak ?_ (f1 K (lR _) _ _ H HS)
  exact ⟨Z, Z, tv⟩
theorem Dx.calls {n_ low high : Int} {r1 : Bool} (HS : St w0 w (L)) (H : Dx.f n_ low high = some r1) :
    Calls prog 84 #[I n_, I low, I high] w (Dx.post w0 L r1) := by
  unfold Dx.f at H
  refine cG func84 Z ?_
  refine rN 3 Z ?_
  rcases iE H with ⟨c1, H⟩ | ⟨c1, H⟩
  ·
   refine rG (pS 4 Z (kN 10 Z (tT c1) (oN Z (mV Z (bK (oN Z (mV Z (bK (oN Z (GO.leq Z Z Z Z (bK (pS 2 Z (nL ?_)))))))))))))
   obtain rfl := sI H
   exact rT _ func84 Z Z ⟨Z, HS⟩
  refine rG (pS 4 Z (kN 10 Z (tF c1) (oF Z (oF Z (oF Z (pS 2 Z (nL ?_)))))))
  obtain rfl := sI H
  exact rT _ func84 Z Z ⟨Z, HS⟩
theorem Ky.calls {a1 : List (List Bt)} {A_a : Option Addr} {c_a : Nat} {y_a : Nat → (Ty.slice 157 Bc).Lay} {r1 : Bool} (HS : St w0 w (L)) (r_a : Aq w0 L (Ty.slice 157 Bc) A_a c_a y_a a1) (H : Ky.f a1 = some r1) :
    Calls prog 118 #[.agg [.slice A_a a1.length c_a].toArray] w (Ky.post w0 L r1) := by
  unfold Ky.f at H
  refine cG func118 Z ?_
  refine sQ (rG (GO.box (cs := [.slice A_a a1.length c_a]) HS Z Z Z Z fun b1 wd2 HS => aS Z (nL (sQ (rG (fL b1 0 I8 Z (lB 0 HS Z Nt Z (lS Z Z underlying53 Z (pS 2 Z (nL ?_))))))))))
  obtain rfl := sI H
  exact rT _ func118 Z Z ⟨Z, (HS.pk 1 [] Z)⟩
theorem I6.calls {a1 : List Al} {c1 : Int} {A_a : Option Addr} {c_a : Nat} {r1 : Bool} (HS : St w0 w (L)) (r_a : Aq w0 L Bb A_a c_a (fun _ => ()) a1) (H : I6.f a1 c1 = some r1) :
    Calls prog 119 #[.agg [.slice A_a a1.length c_a, I c1].toArray] w (I6.post w0 L r1) := by
  unfold I6.f at H
  refine cG func119 Z ?_
  refine sQ (rG (GO.box (cs := [.slice A_a a1.length c_a, I c1]) HS Z Z Z Z fun b1 wd2 HS => aS Z (nL (sQ ?_))))
  rcases iE H with ⟨c3, H⟩ | ⟨c3, H⟩
  ·
   refine rG (fL b1 0 Iu Z (lB 0 HS Z Ni Z (lS Z Z underlying56 Z (pS 2 Z (kN 7 Z (tT c3) (oN Z (fL b1 1 O1 Z (bK (oN Z (lB 0 HS Z na2 Z (bK (oN Z (GO.eql Z Z Z Z (bK ?_))))))))))))))
   refine pS 2 Z (nL ?_)
   obtain rfl := sI H
   exact rT _ func119 Z Z ⟨Z, (HS.pk 1 [] Z)⟩
  refine rG (fL b1 0 Iu Z (lB 0 HS Z Ni Z (lS Z Z underlying56 Z (pS 2 Z (kN 7 Z (tF c3) (oF Z (oF Z (oF Z (pS 2 Z (nL ?_))))))))))
  obtain rfl := sI H
  exact rT _ func119 Z Z ⟨Z, (HS.pk 1 [] Z)⟩
theorem Jy.calls {c1 : Int} {a1 : List Int} {A_a : Option Addr} {c_a : Nat} {r1 : Bool} (HS : St w0 w (L)) (r_a : Aq w0 L (Bq .i64) A_a c_a (fun _ => ()) a1) (H : Jy.f c1 a1 = some r1) :
    Calls prog 120 #[.agg [I c1, .slice A_a a1.length c_a].toArray] w (Jy.post w0 L r1) := by
  unfold Jy.f at H
  refine cG func120 Z ?_
  refine sQ (rG (GO.box (cs := [I c1, .slice A_a a1.length c_a]) HS Z Z Z Z fun b1 wd2 HS => aS Z (nL (sQ ?_))))
  rcases iE H with ⟨c3, H⟩ | ⟨c3, H⟩
  ·
   refine rG (fL b1 0 Nl Z (lB 0 HS Z na2 Z (pS 2 Z (kN 6 Z (tT c3) (oN Z (fL b1 1 Nc Z (bK (oN Z (lB 0 HS Z H7 Z (bK (oN Z (lS Z Z underlying43 Z (bK (oN Z ?_))))))))))))))
   refine GO.eql Z Z Z Z (bK (pS 2 Z (nL ?_)))
   obtain rfl := sI H
   exact rT _ func120 Z Z ⟨Z, (HS.pk 1 [] Z)⟩
  refine rG (fL b1 0 Nl Z (lB 0 HS Z na2 Z (pS 2 Z (kN 6 Z (tF c3) (oF Z (oF Z (oF Z (oF Z (pS 2 Z (nL ?_))))))))))
  obtain rfl := sI H
  exact rT _ func120 Z Z ⟨Z, (HS.pk 1 [] Z)⟩
theorem Gv.calls {e1 f1 : Int} {a1 : List Ci} {d1 c1 : List Int} {A_a : Option Addr} {c_a : Nat} {A_b : Option Addr} {c_b : Nat} {A_c : Option Addr} {c_c : Nat} {r1 : Bool} (HS : St w0 w (L)) (r_a : Aq w0 L Cq A_a c_a (fun _ => ()) a1) (r_b : Aq w0 L (Bq .i64) A_b c_b (fun _ => ()) d1) (r_c : Aq w0 L (Bq .i64) A_c c_c (fun _ => ()) c1) (H : Gv.f e1 f1 a1 d1 c1 = some r1) :
    Calls prog 121 #[.agg [I e1, I f1, .slice A_a a1.length c_a, .slice A_b d1.length c_b, .slice A_c c1.length c_c].toArray] w (Gv.post w0 L r1) := by
  unfold Gv.f at H
  refine cG func121 Z ?_
  refine sQ (rG (GO.box (cs := [I e1, I f1, .slice A_a a1.length c_a, .slice A_b d1.length c_b, .slice A_c c1.length c_c]) HS Z Z Z Z fun b1 wd2 HS => aS Z (nL (sQ ?_))))
  rcases iE H with ⟨c3, H⟩ | ⟨c3, H⟩
  ·
   rcases iE H with ⟨c4, H⟩ | ⟨c4, H⟩
   ·
    rcases iE H with ⟨c5, H⟩ | ⟨c5, H⟩
    ·
     rcases iE H with ⟨c6, H⟩ | ⟨c6, H⟩
     ·
      refine rG (fL b1 0 Mw Z (lB 0 HS Z na2 Z (pS 2 Z (kN 6 Z (tT c3) (oN Z (fL b1 1 M0 Z (bK (oN Z (lB 0 HS Z na2 Z (bK (oN Z (GO.eql Z Z Z Z (bK (pS 2 Z ?_))))))))))))))
      refine kN 11 Z (tT c4) (oN Z (fL b1 2 Ir Z (bK (oN Z (lB 0 HS Z Nh Z (bK (oN Z (lS Z Z underlying60 Z (bK (oN Z (GO.eql Z Z Z Z (bK (pS 2 Z (kN 17 Z (tT c5) ?_))))))))))))))
      refine oN Z (fL b1 3 Je Z (bK (oN Z (lB 0 HS Z H7 Z (bK (oN Z (lS Z Z underlying43 Z (bK (oN Z (GO.eql Z Z Z Z (bK (pS 2 Z (kN 23 Z (tT c6) (oN Z ?_))))))))))))))
      refine fL b1 4 Lm Z (bK (oN Z (lB 0 HS Z H7 Z (bK (oN Z (lS Z Z underlying43 Z (bK (oN Z (GO.eql Z Z Z Z (bK (pS 2 Z (nL ?_))))))))))))
      obtain rfl := sI H
      exact rT _ func121 Z Z ⟨Z, (HS.pk 1 [] Z)⟩
     refine rG (fL b1 0 Mw Z (lB 0 HS Z na2 Z (pS 2 Z (kN 6 Z (tT c3) (oN Z (fL b1 1 M0 Z (bK (oN Z (lB 0 HS Z na2 Z (bK (oN Z (GO.eql Z Z Z Z (bK (pS 2 Z ?_))))))))))))))
     refine kN 11 Z (tT c4) (oN Z (fL b1 2 Ir Z (bK (oN Z (lB 0 HS Z Nh Z (bK (oN Z (lS Z Z underlying60 Z (bK (oN Z (GO.eql Z Z Z Z (bK (pS 2 Z (kN 17 Z (tT c5) ?_))))))))))))))
     refine oN Z (fL b1 3 Je Z (bK (oN Z (lB 0 HS Z H7 Z (bK (oN Z (lS Z Z underlying43 Z (bK (oN Z (GO.eql Z Z Z Z (bK (pS 2 Z (kN 23 Z (tF c6) (oF Z ?_))))))))))))))
     refine oF Z (oF Z (oF Z (pS 2 Z (nL ?_))))
     obtain rfl := sI H
     exact rT _ func121 Z Z ⟨Z, (HS.pk 1 [] Z)⟩
    refine rG (fL b1 0 Mw Z (lB 0 HS Z na2 Z (pS 2 Z (kN 6 Z (tT c3) (oN Z (fL b1 1 M0 Z (bK (oN Z (lB 0 HS Z na2 Z (bK (oN Z (GO.eql Z Z Z Z (bK (pS 2 Z ?_))))))))))))))
    refine kN 11 Z (tT c4) (oN Z (fL b1 2 Ir Z (bK (oN Z (lB 0 HS Z Nh Z (bK (oN Z (lS Z Z underlying60 Z (bK (oN Z (GO.eql Z Z Z Z (bK (pS 2 Z (kN 17 Z (tF c5) ?_))))))))))))))
    refine oF Z (oF Z (oF Z (oF Z (pS 2 Z (oF Z (oF Z (oF Z (oF Z (pS 2 Z (nL ?_))))))))))
    obtain rfl := sI H
    exact rT _ func121 Z Z ⟨Z, (HS.pk 1 [] Z)⟩
   refine rG (fL b1 0 Mw Z (lB 0 HS Z na2 Z (pS 2 Z (kN 6 Z (tT c3) (oN Z (fL b1 1 M0 Z (bK (oN Z (lB 0 HS Z na2 Z (bK (oN Z (GO.eql Z Z Z Z (bK (pS 2 Z ?_))))))))))))))
   refine kN 11 Z (tF c4) (oF Z (oF Z (oF Z (oF Z (pS 2 Z (oF Z (oF Z (oF Z (oF Z (pS 2 Z (oF Z (oF Z (oF Z (oF Z ?_))))))))))))))
   refine pS 2 Z (nL ?_)
   obtain rfl := sI H
   exact rT _ func121 Z Z ⟨Z, (HS.pk 1 [] Z)⟩
  refine rG (fL b1 0 Mw Z (lB 0 HS Z na2 Z (pS 2 Z (kN 6 Z (tF c3) (oF Z (oF Z (oF Z (pS 2 Z (oF Z (oF Z (oF Z (oF Z (pS 2 Z (oF Z ?_))))))))))))))
  refine oF Z (oF Z (oF Z (pS 2 Z (oF Z (oF Z (oF Z (oF Z (pS 2 Z (nL ?_)))))))))
  obtain rfl := sI H
  exact rT _ func121 Z Z ⟨Z, (HS.pk 1 [] Z)⟩
theorem Kr.calls {o1 : ByteArray} {n1 : Int} {c1 : List (List Bt)} {g1 : List Al} {h1 k1 : Int} {d1 : List Int} {i1 m1 : Int} {e1 : List Ci} {f1 a1 : List Int} {kind : Int} {A_a : Option Addr} {c_a : Nat} {y_a : Nat → (Ty.slice 157 Bc).Lay} {A_b : Option Addr} {c_b : Nat} {A_c : Option Addr} {c_c : Nat} {A_d : Option Addr} {c_d : Nat} {A_e : Option Addr} {c_e : Nat} {A_f : Option Addr} {c_f : Nat} {r1 : Bool} (HS : St w0 w (L)) (r_a : Aq w0 L (Ty.slice 157 Bc) A_a c_a y_a c1) (r_b : Aq w0 L Bb A_b c_b (fun _ => ()) g1) (r_c : Aq w0 L (Bq .i64) A_c c_c (fun _ => ()) d1) (r_d : Aq w0 L Cq A_d c_d (fun _ => ()) e1) (r_e : Aq w0 L (Bq .i64) A_e c_e (fun _ => ()) f1) (r_f : Aq w0 L (Bq .i64) A_f c_f (fun _ => ()) a1) (H : Kr.f o1 n1 c1 g1 h1 k1 d1 i1 m1 e1 f1 a1 kind = some r1) :
    Calls prog 85 #[.agg [.string o1, I n1, .slice A_a c1.length c_a, .slice A_b g1.length c_b, I h1, I k1, .slice A_c d1.length c_c, I i1, I m1, .slice A_d e1.length c_d, .slice A_e f1.length c_e, .slice A_f a1.length c_f].toArray, I kind] w (Kr.post w0 L r1) := by
  unfold Kr.f at H
  refine cG func85 Z ?_
  refine sQ (rG (GO.box (cs := [.string o1, I n1, .slice A_a c1.length c_a, .slice A_b g1.length c_b, I h1, I k1, .slice A_c d1.length c_c, I i1, I m1, .slice A_d e1.length c_d, .slice A_e f1.length c_e, .slice A_f a1.length c_f]) HS Z Z Z Z fun b1 wd2 HS => aS Z (nL (rN 6 Z ?_))))
  rcases iE H with ⟨c3, H⟩ | ⟨c3, H⟩
  ·
   refine yB Z (tT c3) (sQ ?_)
   obtain ⟨t4, h5, H⟩ := bI H
   refine rG (fL b1 2 Nk Z (GO.Bu (j := 0) ([.slice A_a c1.length c_a]) HS Z Z Z Z Oc Z (fN Z func118 oL.1 oL.2 Z Z (Ky.calls HS (rD 1 r_a) h5) (fun _ wd6 ⟨h7, HS⟩ => ⟨_, h7, (aS Z (nL ?_))⟩))))
   obtain rfl := sI H
   exact rT _ func85 Z Z ⟨Z, (HS.pk 1 [] Z)⟩
  refine nB Z (tF c3) (rN 2 Z ?_)
  rcases iE H with ⟨c8, H⟩ | ⟨c8, H⟩
  ·
   refine yB Z (tT c8) (sQ ?_)
   obtain ⟨t9, h10, H⟩ := bI H
   refine rG (fL b1 3 L8 Z (GO.Bu (j := 0) ([.slice A_b g1.length c_b, I h1]) HS Z Z Z Z Np Z (fN Z func119 kP.1 kP.2 Z Z (I6.calls HS (rD 1 r_b) h10) (fun _ wd11 ⟨h12, HS⟩ => ⟨_, h12, (aS Z (nL ?_))⟩))))
   obtain rfl := sI H
   exact rT _ func85 Z Z ⟨Z, (HS.pk 1 [] Z)⟩
  refine nB Z (tF c8) (rN 2 Z ?_)
  rcases iE H with ⟨c13, H⟩ | ⟨c13, H⟩
  ·
   refine yB Z (tT c13) (sQ ?_)
   obtain ⟨t14, h15, H⟩ := bI H
   refine rG (fL b1 5 Ml Z (GO.Bu (j := 0) ([I k1, .slice A_c d1.length c_c]) HS Z Z Z Z Rz Z (fN Z func120 pE.1 pE.2 Z Z (Jy.calls HS (rD 1 r_c) h15) (fun _ wd16 ⟨h17, HS⟩ => ⟨_, h17, (aS Z (nL ?_))⟩))))
   obtain rfl := sI H
   exact rT _ func85 Z Z ⟨Z, (HS.pk 1 [] Z)⟩
  refine nB Z (tF c13) (rN 3 Z ?_)
  obtain ⟨t18, h19, H⟩ := bI H
  refine rG (fL b1 7 K4 Z (GO.Bu (j := 0) ([I i1, I m1, .slice A_d e1.length c_d, .slice A_e f1.length c_e, .slice A_f a1.length c_f]) HS Z Z Z Z Qn Z (fN Z func121 mM.1 mM.2 Z Z (Gv.calls HS (rD 1 r_d) (rD 1 r_e) (rD 1 r_f) h19) (fun _ wd20 ⟨h21, HS⟩ => ⟨_, h21, (aS Z (nL ?_))⟩))))
  obtain rfl := sI H
  exact rT _ func85 Z Z ⟨Z, (HS.pk 1 [] Z)⟩
theorem Gm.calls {a1 : List (List Bt)} {A_a : Option Addr} {c_a : Nat} {y_a : Nat → (Ty.slice 157 Bc).Lay} {r1 : Int} (HS : St w0 w (L)) (r_a : Aq w0 L (Ty.slice 157 Bc) A_a c_a y_a a1) (H : Gm.f a1 = some r1) :
    Calls prog 122 #[.agg [.slice A_a a1.length c_a].toArray] w (Gm.post w0 L r1) := by
  unfold Gm.f at H
  refine cG func122 Z ?_
  refine sQ (rG (GO.box (cs := [.slice A_a a1.length c_a]) HS Z Z Z Z fun b1 wd2 HS => aS Z (nL (sQ (rG (fL b1 0 I8 Z (lB 0 HS Z Nt Z (lS Z Z underlying53 Z (aS Z (nL ?_))))))))))
  obtain rfl := sI H
  exact rT _ func122 Z Z ⟨Z, (HS.pk 1 [] Z)⟩
theorem Jd.calls {n_ low high : Int} {r1 : Bool} (HS : St w0 w (L)) (H : Jd.f n_ low high = some r1) :
    Calls prog 123 #[I n_, I low, I high] w (Jd.post w0 L r1) := by
  unfold Jd.f at H
  refine cG func123 Z ?_
  refine rN 3 Z ?_
  rcases iE H with ⟨c1, H⟩ | ⟨c1, H⟩
  ·
   refine rG (pS 4 Z (kN 10 Z (tT c1) (oN Z (mV Z (bK (oN Z (mV Z (bK (oN Z (GO.leq Z Z Z Z (bK (pS 2 Z (nL ?_)))))))))))))
   obtain rfl := sI H
   exact rT _ func123 Z Z ⟨Z, HS⟩
  refine rG (pS 4 Z (kN 10 Z (tF c1) (oF Z (oF Z (oF Z (pS 2 Z (nL ?_)))))))
  obtain rfl := sI H
  exact rT _ func123 Z Z ⟨Z, HS⟩
theorem Hw.calls {p : Int} {r1 : Bool} (HS : St w0 w (L)) (H : Hw.f p = some r1) :
    Calls prog 124 #[I p] w (Hw.post w0 L r1) := by
  unfold Hw.f at H
  refine cG func124 Z ?_
  refine rN 3 Z ?_
  rcases iE H with ⟨c1, H⟩ | ⟨c1, H⟩
  ·
   refine rG (pS 3 Z (kN 5 Z (tT c1) (oN Z (mV Z (bK (oN Z (GO.lss Z Z Z Z (bK (pS 2 Z (nL ?_))))))))))
   obtain rfl := sI H
   exact rT _ func124 Z Z ⟨Z, HS⟩
  refine rG (pS 3 Z (kN 5 Z (tF c1) (oF Z (oF Z (pS 2 Z (nL ?_))))))
  obtain rfl := sI H
  exact rT _ func124 Z Z ⟨Z, HS⟩
theorem Fs.calls {p : Int} {r1 : List Int} (HS : St w0 w (L)) (H : Fs.f K p = some r1) :
    Calls prog 160 #[I p] w (Fs.post w0 L r1) := by
  unfold Fs.f at H
  refine cG func160 Z ?_
  refine rN 3 Z (rG (GO.F3 (el := 2) ([I 0, I 1, I 2, I 3]) HS Z Z (fun _ => by kernel_rfl) Z fun b1 wd2 HS => ?_))
  replace HS := HS.J6 (T := (Bq .i64)) (j := 0) Z Bv (fun _ => ()) ([0, 1, 2, 3] : List Int) Z (O3 Z)
  refine GO.Nb (t := 8) (m := ([0, 1, 2, 3] : List Int).length) (c' := ([0, 1, 2, 3] : List Int).length) Z Z Z (aS Z (nL (sQ (rG (GO.F3 (el := 2) ([]) HS Z Z (fun _ => by kernel_rfl) Z fun b3 wd4 HS => ?_)))))
  replace HS := HS.J6 (T := (Bq .i64)) (j := 0) Z Bv (fun _ => ()) ([] : List Int) Z (O3 Z)
  refine GO.Nb (t := 9) (m := ([] : List Int).length) (c' := ([] : List Int).length) Z Z Z (aS Z (nL (rN 7 Z ?_)))
  refine G.name (fun m1 n1 => ?_)
  have o1 : ∀ d1, d1 ≤ K → ∀ (e1 : Int) (A25 : Option Addr) (c26 : Nat) (a1 : List Int) (A28 : Option Addr) (c29 : Nat) (f1 : List Int) (c1 g1 : Int) (w : World), Fs.l1 K d1 e1 a1 f1 c1 g1 = some r1 → St w0 w (Own (Bq .i64) 2 A25 c26 (fun _ => ()) a1 :: Own (Bq .i64) 2 A28 c29 (fun _ => ()) f1 :: L) → G prog 160 43 [(0, I e1), (3, .slice A25 a1.length c26), (4, .slice A28 f1.length c29), (5, I c1), (6, I g1)] m1 w (Fs.post w0 L r1) := by
   intro d1
   induction d1 using Nat.strongRecOn with
   | _ d1 i1 =>
    intro k1 e1 A25 c26 a1 A28 c29 f1 c1 g1 w H HS
    cases d1 with
    | zero => rw [Fs.l1] at H; cases H
    | succ h1 =>
     rw [Fs.l1] at H
     subst n1
     refine rN 3 Z ?_
     rcases iE H with ⟨c56, H⟩ | ⟨c56, H⟩
     ·
      refine yB Z (tT c56) (rN 4 Z ?_)
      obtain ⟨c57, H⟩ := Sw H
      refine rG (pS 2 Z (GO.quo Z Z Z c57 Z (aS Z (nL (sQ (rG (pS 2 Z (GO.rem Z Z Z c57 Z (aS Z (nL (sQ ?_)))))))))))
      obtain ⟨c58, H⟩ := iN H
      obtain ⟨c64, H⟩ := iN H
      refine rG (pS 3 Z (GO.ix Z Z Z underlying43 sz2 ((Aq.own (j := 0) Z) _ HS).2.2.1 c58.1 c58.2 Z (GO.Fq (T := (Bq .i64)) (n := (w64 (e1.tdiv c1)).toNat) (o := 0) HS (Aq.own (j := 0) Z) Z Z (getD_some (d := 0) (ltN c58)) Z Z na2 Z (GO.F3 (el := 2) ([I (a1.getD ((w64 (e1.tdiv c1)).toNat) 0)]) HS Z Z (fun _ => by kernel_rfl) Z fun b59 wd60 HS => GO.app1 (T := (Bq .i64)) (j := 2) (jb := 0) (a1.getD ((w64 (e1.tdiv c1)).toNat) 0) HS Z Z Bv Z Z Z underlying43 S9 Z Z Z c64 Z fun A62 c63 wd61 HS => aS Z (nL (sQ ?_))))))
      obtain ⟨c67, H⟩ := iN H
      obtain ⟨c71, H⟩ := iN H
      obtain ⟨c72, H⟩ := iN H
      obtain ⟨c76, H⟩ := iN H
      refine G.Oi mixed (fun w => St w0 w (Own (Bq .i64) 2 A25 c26 (fun _ => ()) a1 :: L)) [3, 8] [1, 2, 5, 6, 7, 3, 8, 0, 4, 9, 10] [] (by kernel_rfl) (by kernel_rfl) (HS.drew.pk 3 [1] Z) ?_
      replace HS := HS.drew
      refine GX.ps 5 Z (GX.ls Z Z Z (HS.pk 3 [1] Z) (fun _ HS _ g => GO.slH (T := (Bq .i64)) HS (Aq.own (j := 0) Z) Z Z Z underlying43 sz2 c67.1 c67.2 Z g) Z (GX.ls Z Z Z (HS.pk 3 [1] Z) (fun _ HS _ g => GO.slL (T := (Bq .i64)) HS (Aq.own (j := 0) Z) Z Z Z underlying43 sz2 c72.1 c72.2 Z g) Z (GX.l2 Z (GO.F3 (el := 2) ([]) HS Z Z (fun _ => by kernel_rfl) Z fun b65 wd66 HS => GX.fin (HS.pk 4 [2] Z) (GX.l2 Z ?_)))))
      replace HS := HS.J6 (T := (Bq .i64)) (j := 0) Z Bv (fun _ => ()) ([] : List Int) Z (O3 Z)
      refine GO.Nb (t := 27) (m := ([] : List Int).length) (c' := ([] : List Int).length) Z Z Z (GO.Vb (T := (Bq .i64)) (j := 0) HS Z (Aq.cut (Aq.own (j := 2) Z) (Nat.zero_le _) (leN c67)) Bv Z Z Z underlying43 S9 Z Z Z c71 Z (fun _ => Z) fun A69 c70 wd68 HS => GX.fin (HS.pk 4 [2] Z) (GX.l2 Z (GO.Vb (T := (Bq .i64)) (j := 0) HS Z (Aq.cut (Aq.own (j := 2) Z) (leN c72) (lR _)) Bv Z Z Z underlying43 S9 Z Z Z c76 Z (fun _ => Z) fun A74 c75 wd73 HS => GX.fin (HS.pk 4 [2] Z) (GX.ps 1 Z (GX.nil (rN 2 Z ?_))))))
      rcases iE H with ⟨c77, H⟩ | ⟨c77, H⟩
      ·
       refine yB Z (tT c77) ?_
       obtain ⟨c78, H⟩ := Sw H
       refine rG (pS 2 Z (GO.quo Z Z Z c78 Z (aS Z (nL (rN 3 Z (G.weak ?_ (i1 h1 (Nat.lt_succ_of_le (lR _)) (Nat.le_of_succ_le k1) _ _ _ _ _ _ _ _ _ _ H (HS.pk 4 [0, 3] Z))))))))
       exact ⟨Z, Z, Z, Z, Z, tv⟩
      refine nB Z (tF c77) (rN 4 Z (G.weak ?_ (i1 h1 (Nat.lt_succ_of_le (lR _)) (Nat.le_of_succ_le k1) _ _ _ _ _ _ _ _ _ _ H (HS.pk 4 [0, 3] Z))))
      exact ⟨Z, Z, Z, Z, Z, tv⟩
     refine nB Z (tF c56) (rN 3 Z ?_)
     obtain rfl := sI H
     exact rT _ func160 Z Z ⟨_, _, Z, (HS.pk 2 [1] Z)⟩
  refine G.weak ?_ (o1 K (lR _) _ _ _ _ _ _ _ _ _ _ H (HS.pk 2 [1, 0] Z))
  exact ⟨Z, Z, Z, Z, Z, tv⟩
theorem K3.calls {p k_ r1 : Int} (HS : St w0 w (L)) (H : K3.f K p k_ = some r1) :
    Calls prog 125 #[I p, I k_] w (K3.post w0 L r1) := by
  unfold K3.f at H
  refine cG func125 Z ?_
  refine rN 3 Z ?_
  obtain ⟨t1, h2, H⟩ := bI H
  obtain ⟨c7, H⟩ := iN H
  refine rG (mV Z (fN Z func160 Y9.1 Y9.2 Z Z (Fs.calls HS  h2) (fun _ wd5 ⟨A3, c4, h6, HS⟩ => ⟨_, h6, (mV Z (GO.ix Z Z Z underlying43 sz2 ((Aq.own (j := 0) Z) _ HS).2.2.1 c7.1 c7.2 Z (GO.Fq (T := (Bq .i64)) (n := k_.toNat) (o := 0) HS (Aq.own (j := 0) Z) Z Z (getD_some (d := 0) (ltN c7)) Z Z na2 Z (aS Z (nL ?_)))))⟩)))
  obtain rfl := sI H
  exact rT _ func125 Z Z ⟨Z, (HS.pk 1 [] Z)⟩
theorem Eh.calls {a_ : List Int} {A_a : Option Addr} {c_a : Nat} {r1 : Int} (HS : St w0 w (L)) (r_a : Aq w0 L (Bq .i64) A_a c_a (fun _ => ()) a_) (H : Eh.f K a_ = some r1) :
    Calls prog 161 #[.slice A_a a_.length c_a] w (Eh.post w0 L r1) := by
  unfold Eh.f at H
  refine cG func161 Z ?_
  refine rN 11 Z ?_
  refine G.name (fun m1 p1 => ?_)
  have s1 : ∀ b1, b1 ≤ K → ∀ (p_4 c1 i_6 : Int) (w : World), Eh.l1 K b1 a_ p_4 c1 i_6 = some r1 → St w0 w (L) → G prog 161 42 [(0, .slice A_a a_.length c_a), (3, I p_4), (4, I c1), (5, I i_6)] m1 w (Eh.post w0 L r1) := by
   intro b1
   induction b1 using Nat.strongRecOn with
   | _ b1 n1 =>
    intro t1 p_4 c1 i_6 w H HS
    cases b1 with
    | zero => rw [Eh.l1] at H; cases H
    | succ i1 =>
     rw [Eh.l1] at H
     subst p1
     refine rN 3 Z ?_
     rcases iE H with ⟨c23, H⟩ | ⟨c23, H⟩
     ·
      refine yB Z (tT c23) (rN 4 Z ?_)
      obtain ⟨c24, H⟩ := iN H
      refine rG (pS 2 Z (GO.ix Z Z Z underlying43 sz2 (r_a _ HS).2.2.1 c24.1 c24.2 Z (GO.Fq (T := (Bq .i64)) (n := i_6.toNat) (o := 0) HS r_a Z Z (getD_some (d := 0) (ltN c24)) Z Z na2 Z (aS Z (nL (rN 5 Z ?_))))))
      refine G.name (fun q1 k1 => ?_)
      have o1 : ∀ a1, a1 ≤ i1 → ∀ (f1 d1 : Int) (w : World), Eh.l4 K a1 a_ p_4 c1 i_6 f1 d1 = some r1 → St w0 w (L) → G prog 161 42 [(0, .slice A_a a_.length c_a), (3, I p_4), (4, I c1), (5, I i_6), (6, I f1), (7, I d1)] q1 w (Eh.post w0 L r1) := by
       intro a1
       induction a1 using Nat.strongRecOn with
       | _ a1 h1 =>
        intro g1 f1 d1 w H HS
        cases a1 with
        | zero => rw [Eh.l4] at H; cases H
        | succ e1 =>
         rw [Eh.l4] at H
         subst k1
         refine rN 3 Z ?_
         rcases iE H with ⟨c35, H⟩ | ⟨c35, H⟩
         ·
          refine yB Z (tT c35) (rN 4 Z ?_)
          obtain ⟨c36, H⟩ := iN H
          refine G.lex mixed [0, 1, 2, 4, 5, 6, 3, 7, 8] (by kernel_rfl) ?_
          replace HS := HS.drew
          refine GX.ps 2 Z (qL Z Z (fun _ _ g => GO.ix Z Z Z underlying43 sz2 (r_a _ HS).2.2.1 c36.1 c36.2 Z g) Z (GX.ps 2 Z (qL Z Z (fun _ _ g => GO.ix Z Z Z underlying43 sz2 (r_a _ HS).2.2.1 c24.1 c24.2 Z g) Z (GX.l1 Z Z Z (fun _ g => GO.Fq (T := (Bq .i64)) (n := d1.toNat) (o := 0) HS r_a Z Z (getD_some (d := 0) (ltN c36)) Z Z na2 Z g) Z (GX.l1 Z Z Z (fun _ g => GO.Fq (T := (Bq .i64)) (n := i_6.toNat) (o := 0) HS r_a Z Z (getD_some (d := 0) (ltN c24)) Z Z na2 Z g) Z (GX.ps 1 Z (GX.nil ?_)))))))
          rcases iE H with ⟨c37, H⟩ | ⟨c37, H⟩
          ·
           refine yB Z (tT c37) (rN 4 Z (G.weak ?_ (h1 e1 (Nat.lt_succ_of_le (lR _)) (Nat.le_of_succ_le g1) _ _ _ H HS)))
           exact ⟨Z, Z, Z, Z, Z, Z, tv⟩
          refine nB Z (tF c37) (rN 4 Z (G.weak ?_ (h1 e1 (Nat.lt_succ_of_le (lR _)) (Nat.le_of_succ_le g1) _ _ _ H HS)))
          exact ⟨Z, Z, Z, Z, Z, Z, tv⟩
         refine nB Z (tF c35) (rN 3 Z ?_)
         obtain ⟨c38, H⟩ := Sw H
         refine rG (pS 3 Z (GO.quo Z Z Z c38 Z (aS Z (nL (rN 3 Z (G.weak ?_ (n1 e1 (by omega) (by omega) _ _ _ _ H HS)))))))
         exact ⟨Z, Z, Z, Z, tv⟩
      refine G.weak ?_ (o1 i1 (lR _) _ _ _ H HS)
      exact ⟨Z, Z, Z, Z, Z, Z, tv⟩
     refine nB Z (tF c23) (rN 3 Z ?_)
     obtain rfl := sI H
     exact rT _ func161 Z Z ⟨Z, HS⟩
  refine G.weak ?_ (s1 K (lR _) _ _ _ _ H HS)
  exact ⟨Z, Z, Z, Z, tv⟩
theorem Gh.calls {p r1 : Int} (HS : St w0 w (L)) (H : Gh.f K p = some r1) :
    Calls prog 126 #[I p] w (Gh.post w0 L r1) := by
  unfold Gh.f at H
  refine cG func126 Z ?_
  refine rN 3 Z ?_
  obtain ⟨t1, h2, H⟩ := bI H
  refine rG (mV Z (fN Z func160 Y9.1 Y9.2 Z Z (Fs.calls HS  h2) (fun _ wd5 ⟨A3, c4, h6, HS⟩ => ⟨_, h6, (aS Z (nL (sQ (rG (GO.F3 (el := 2) ([I 0, I 0, I 0, I 0]) HS Z Z (fun _ => by kernel_rfl) Z fun b7 wd8 HS => ?_)))))⟩)))
  replace HS := HS.J6 (T := (Bq .i64)) (j := 0) Z Bv (fun _ => ()) ([0, 0, 0, 0] : List Int) Z (O3 Z)
  refine GO.Nb (t := 8) (m := ([0, 0, 0, 0] : List Int).length) (c' := ([0, 0, 0, 0] : List Int).length) Z Z Z (aS Z (nL (rN 5 Z ?_)))
  refine G.name (fun d1 g1 => ?_)
  have h1 : ∀ b1, b1 ≤ K → ∀ (c1 : List Int) (a1 : Int) (w : World), Gh.l1 K b1 t1 c1 a1 = some r1 → St w0 w (Own (Bq .i64) 2 A3 c4 (fun _ => ()) t1 :: Own (Bq .i64) 2 (some ⟨b7, 0, none⟩) (([0, 0, 0, 0] : List Int).length) (fun _ => ()) c1 :: L) → G prog 126 22 [(3, .slice A3 t1.length c4), (4, .slice (some ⟨b7, 0, none⟩) c1.length (([0, 0, 0, 0] : List Int).length)), (5, I a1)] d1 w (Gh.post w0 L r1) := by
   intro b1
   induction b1 using Nat.strongRecOn with
   | _ b1 e1 =>
    intro i1 c1 a1 w H HS
    cases b1 with
    | zero => rw [Gh.l1] at H; cases H
    | succ f1 =>
     rw [Gh.l1] at H
     subst g1
     refine rN 3 Z ?_
     rcases iE H with ⟨c22, H⟩ | ⟨c22, H⟩
     ·
      refine yB Z (tT c22) (rN 3 Z ?_)
      obtain ⟨c23, H⟩ := iN H
      obtain ⟨c24, H⟩ := iN H
      refine rG (pS 3 Z (GO.ix Z Z Z underlying43 sz2 ((Aq.own (j := 0) Z) _ HS).2.2.1 c23.1 c23.2 Z (GO.Fq (T := (Bq .i64)) (n := a1.toNat) (o := 0) HS (Aq.own (j := 0) Z) Z Z (getD_some (d := 0) (ltN c23)) Z Z na2 Z (mV Z (GO.ix Z Z Z underlying43 sz2 (fun _ => ⟨_, _, Z⟩) c24.1 c24.2 Z (GO.M5 (T := (Bq .i64)) (j := 1) (n := (t1.getD a1.toNat 0).toNat) (o := 0) (vs := [I a1]) a1 HS Z Bv Z Z Z Z (htN na2 Z) Z (getD_some (d := 0) (ltN c24)) Z Z fun wd25 HS => nL (G.len (t := 4) (m := (c1.set ((t1.getD a1.toNat 0).toNat) a1).length) Z (by simp only [List.length_set] <;> rfl) (rN 3 Z (G.weak ?_ (e1 f1 (Nat.lt_succ_of_le (lR _)) (Nat.le_of_succ_le i1) _ _ _ H HS))))))))))
      exact ⟨Z, Z, Z, tv⟩
     refine nB Z (tF c22) (rN 2 Z ?_)
     obtain ⟨t26, h27, H⟩ := bI H
     refine rG (mV Z (fN Z func161 kC.1 kC.2 Z Z (Eh.calls HS (Aq.own (j := 1) Z) h27) (fun _ wd28 ⟨h29, HS⟩ => ⟨_, h29, (aS Z (nL ?_))⟩)))
     obtain rfl := sI H
     exact rT _ func126 Z Z ⟨Z, (HS.pk 2 [] Z)⟩
  refine G.weak ?_ (h1 K (lR _) _ _ _ H (HS.pk 2 [1, 0] Z))
  exact ⟨Z, Z, Z, tv⟩
theorem Ar.calls {a1 : List (List Bt)} {A_a : Option Addr} {c_a : Nat} {y_a : Nat → (Ty.slice 157 Bc).Lay} {r1 : Bool} (HS : St w0 w (L)) (r_a : Aq w0 L (Ty.slice 157 Bc) A_a c_a y_a a1) (H : Ar.f K a1 = some r1) :
    Calls prog 86 #[.agg [.slice A_a a1.length c_a].toArray] w (Ar.post w0 L r1) := by
  unfold Ar.f at H
  refine cG func86 Z ?_
  refine sQ (rG (GO.box (cs := [.slice A_a a1.length c_a]) HS Z Z Z Z fun b1 wd2 HS => aS Z (nL (rN 2 Z ?_))))
  obtain ⟨t3, h4, H⟩ := bI H
  refine rG (GO.Bu (j := 0) ([.slice A_a a1.length c_a]) HS Z Z Z Z Oc Z (fN Z func122 Qs.1 Qs.2 Z Z (Gm.calls HS (rD 1 r_a) h4) (fun _ wd5 ⟨h6, HS⟩ => ⟨_, h6, (GO.gtr Z Z Z Z (nL ?_))⟩)))
  rcases iE H with ⟨c7, H⟩ | ⟨c7, H⟩
  ·
   refine yB Z (tT c7) (rN 2 Z ?_)
   obtain rfl := sI H
   exact rT _ func86 Z Z ⟨Z, (HS.pk 1 [] Z)⟩
  refine nB Z (tF c7) (rN 6 Z ?_)
  refine G.name (fun z1 u1 => ?_)
  have x1 : ∀ g1, g1 ≤ K → ∀ (h1 : Int) (w : World), Ar.l1 K g1 a1 h1 = some r1 → St w0 w (Box b1 55 [.slice A_a a1.length c_a] :: L) → G prog 86 96 [(1, .pointer (some ⟨b1, 0, none⟩)), (3, I h1)] z1 w (Ar.post w0 L r1) := by
   intro g1
   induction g1 using Nat.strongRecOn with
   | _ g1 f2 =>
    intro b2 h1 w H HS
    cases g1 with
    | zero => rw [Ar.l1] at H; cases H
    | succ m1 =>
     rw [Ar.l1] at H
     subst u1
     refine rN 2 Z (rG (mV Z (fL b1 0 I8 Z (lB 0 HS Z Nt Z (lS Z Z underlying53 Z (GO.lss Z Z Z Z (nL ?_)))))))
     rcases iE H with ⟨c1091, H⟩ | ⟨c1091, H⟩
     ·
      refine yB Z (tT c1091) (rN 4 Z ?_)
      obtain ⟨c1092, H⟩ := iN H
      refine rG (fL b1 0 I8 Z (lB 0 HS Z Nt Z (mV Z (GO.ix Z Z Z underlying53 Ou ((rD 1 r_a) _ HS).2.2.1 c1092.1 c1092.2 Z (GO.Fq (T := (Ty.slice 157 Bc)) (n := h1.toNat) (o := 0) HS (rD 1 r_a) Z Z (getD_some (d := []) (ltN c1092)) Z Z Ox Z (lS Z Z underlying150 Z (GO.neq Z Z Z Z (nL ?_))))))))
      rcases iE H with ⟨c1093, H⟩ | ⟨c1093, H⟩
      ·
       refine nB Z (nT c1093) (rN 4 Z (G.weak ?_ (f2 m1 (Nat.lt_succ_of_le (lR _)) (Nat.le_of_succ_le b2) _ _ H HS)))
       exact ⟨Z, Z, tv⟩
      refine yB Z (nF c1093) (rN 2 Z ?_)
      obtain rfl := sI H
      exact rT _ func86 Z Z ⟨Z, (HS.pk 1 [] Z)⟩
     refine nB Z (tF c1091) (rN 6 Z ?_)
     refine G.name (fun s1 a2 => ?_)
     have t1 : ∀ f1, f1 ≤ m1 → ∀ (c1 : Int) (w : World), Ar.l28 K f1 a1 c1 = some r1 → St w0 w (Box b1 55 [.slice A_a a1.length c_a] :: L) → G prog 86 96 [(1, .pointer (some ⟨b1, 0, none⟩)), (4, I c1)] s1 w (Ar.post w0 L r1) := by
      intro f1
      induction f1 using Nat.strongRecOn with
      | _ f1 g2 =>
       intro h2 c1 w H HS
       cases f1 with
       | zero => rw [Ar.l28] at H; cases H
       | succ q1 =>
        rw [Ar.l28] at H
        subst a2
        refine rN 2 Z ?_
        obtain ⟨t1453, h1454, H⟩ := bI H
        refine rG (mV Z (GO.Bu (j := 0) ([.slice A_a a1.length c_a]) HS Z Z Z Z Oc Z (fN Z func122 Qs.1 Qs.2 Z Z (Gm.calls HS (rD 1 r_a) h1454) (fun _ wd1455 ⟨h1456, HS⟩ => ⟨_, h1456, (GO.lss Z Z Z Z (nL ?_))⟩))))
        rcases iE H with ⟨c1457, H⟩ | ⟨c1457, H⟩
        ·
         refine yB Z (tT c1457) (rN 7 Z ?_)
         refine G.name (fun v1 y1 => ?_)
         have e2 : ∀ e1, e1 ≤ q1 → ∀ (d1 : Int) (w : World), Ar.l37 K e1 a1 c1 d1 = some r1 → St w0 w (Box b1 55 [.slice A_a a1.length c_a] :: L) → G prog 86 96 [(1, .pointer (some ⟨b1, 0, none⟩)), (4, I c1), (5, I d1)] v1 w (Ar.post w0 L r1) := by
          intro e1
          induction e1 using Nat.strongRecOn with
          | _ e1 o1 =>
           intro k2 d1 w H HS
           cases e1 with
           | zero => rw [Ar.l37] at H; cases H
           | succ k1 =>
            rw [Ar.l37] at H
            subst y1
            refine rN 3 Z ?_
            rcases iE H with ⟨c1574, H⟩ | ⟨c1574, H⟩
            ·
             refine yB Z (tT c1574) (rN 4 Z ?_)
             obtain ⟨c1575, H⟩ := iN H
             obtain ⟨c1576, H⟩ := iN H
             obtain ⟨e1577, h1578, H⟩ := Cn H
             refine rG (fL b1 0 I8 Z (lB 0 HS Z Nt Z (mV Z (GO.ix Z Z Z underlying53 Ou ((rD 1 r_a) _ HS).2.2.1 c1575.1 c1575.2 Z (GO.Fq (T := (Ty.slice 157 Bc)) (n := c1.toNat) (o := 0) HS (rD 1 r_a) Z Z (getD_some (d := []) (ltN c1575)) Z Z Ox Z (mV Z (GO.ix Z Z Z underlying150 Pm ((Aq.elem (rD 1 r_a) c1575.1 c1575.2) _ HS).2.2.1 c1576.1 c1576.2 Z (GO.Ja (T := Bc) (n := d1.toNat) HS (Aq.elem (rD 1 r_a) c1575.1 c1575.2) Z Z (getD_eq (ltN c1576) h1578) Ma Z (GO.alloc HS Z Yt Z Z fun b1579 wd1580 HS => GO.C8 (j := 0) (vs := [I e1577.Tet, I e1577.Perm]) ([I e1577.Tet, I e1577.Perm]) HS Z Z Z Z Z (htA Ma) Z Z Z fun wd1581 HS => nL (rN 2 Z ?_))))))))))
             refine G.Ps (fun d2 c2 => ?_)
             have p1 : ∀ i1, i1 ≤ k1 → ∀ (x1584 : Bool) (w : World), Ar.j40 K i1 a1 c1 d1 e1577 x1584 = some r1 → St w0 w (Box b1 55 [.slice A_a a1.length c_a] :: Box b1579 157 [I e1577.Tet, I e1577.Perm] :: L) → G prog 86 96 [(1, .pointer (some ⟨b1, 0, none⟩)), (4, I c1), (5, I d1), (6, .pointer (some ⟨b1579, 0, none⟩)), (51, .bool x1584)] d2 w (Ar.post w0 L r1) := by
              intro i1 i2 x1584 w H HS
              cases i1 with
              | zero => rw [Ar.j40] at H; cases H
              | succ n1 =>
               rw [Ar.j40] at H
               subst c2
               rcases iE H with ⟨c1585, H⟩ | ⟨c1585, H⟩
               ·
                refine yB Z c1585 (rN 3 Z (G.weak ?_ (o1 n1 (by omega) (by omega) _ _ H (HS.pk 2 [0] Z))))
                exact ⟨Z, Z, Z, tv⟩
               refine nB Z (Ca c1585) (rN 3 Z ?_)
               obtain ⟨t1599, h1600, H⟩ := bI H
               obtain ⟨t1603, h1604, H⟩ := bI H
               rcases iE H with ⟨c1607, H⟩ | ⟨c1607, H⟩
               ·
                obtain ⟨t1608, h1609, H⟩ := bI H
                refine G.Oi mixed (fun w => St w0 w (Box b1 55 [.slice A_a a1.length c_a] :: Box b1579 157 [I e1577.Tet, I e1577.Perm] :: L)) [1, 2, 9] [0, 1, 2, 3, 4, 5, 6, 7, 8, 9, 10, 11, 12] [] (by kernel_rfl) (by kernel_rfl) HS.drew ?_
                replace HS := HS.drew
                refine qL Z Z (fun _ _ g => fL b1579 0 J2 Z g) Z (GX.ls Z Z Z HS (fun _ HS _ g => lB 1 HS Z na2 Z g) Z (GX.ls Z Z Z HS (fun _ HS _ g => GO.Bu (j := 0) ([.slice A_a a1.length c_a]) HS Z Z Z Z Oc Z g) Z (GX.l2 Z (fN Z func122 Qs.1 Qs.2 Z Z (Gm.calls HS (rD 2 r_a) h1600) (fun _ wd1601 ⟨h1602, HS⟩ => ⟨_, h1602, (GX.fin HS (GX.ps 1 Z (GX.l2 Z (fN Z func123 Py.1 Py.2 Z Z (Jd.calls HS  h1604) (fun _ wd1605 ⟨h1606, HS⟩ => ⟨_, h1606, (GX.fin HS (GX.ps 1 Z (qL Z Z (fun _ _ g => mV Z (kN 59 Z (congrArg Bool.not c1607) g)) Z (qL Z Z (fun _ _ g => oN Z (fL b1579 1 Ng Z (bK g))) Z (GX.ls Z Z Z HS (fun _ HS _ g => oN Z (lB 1 HS Z na2 Z (bK g))) Z (GX.l2 Z ?_))))))⟩)))))⟩)))))
                refine oN Z (fN Z func124 Z7.1 Z7.2 Z Z (Hw.calls HS  h1609) (fun _ wd1610 ⟨h1611, HS⟩ => ⟨_, h1611, (bK (GX.fin HS (qL Z Z (fun _ _ g => oN Z (GO.not Z Z Z (bK g))) Z (GX.ps 1 Z (GX.nil ?_)))))⟩))
                rcases iE H with ⟨c1612, H⟩ | ⟨c1612, H⟩
                ·
                 refine nB Z (congrArg Bool.not c1612) (rN 2 Z ?_)
                 obtain ⟨t1613, h1614, H⟩ := bI H
                 refine rG (fL b1579 1 Ng Z (lB 1 HS Z na2 Z (mV Z (fN Z func125 jW.1 jW.2 Z Z (K3.calls HS  h1614) (fun _ wd1615 ⟨h1616, HS⟩ => ⟨_, h1616, (aS Z (nL (sQ ?_)))⟩)))))
                 obtain ⟨t1617, h1618, H⟩ := bI H
                 refine rG (mV Z (fL b1579 1 Ng Z (lB 1 HS Z na2 Z (fN Z func126 kS.1 kS.2 Z Z (Gh.calls HS  h1618) (fun _ wd1619 ⟨h1620, HS⟩ => ⟨_, h1620, (GO.I9 (.agg [I c1, I t1617].toArray) Z Z (fun _ => by kernel_rfl) Z (GO.alloc HS Z Yt Z Z fun b1621 wd1622 HS => GO.C8 (j := 0) (vs := [I c1, I t1617]) ([I c1, I t1617]) HS Z Z Z Z Z (htA Ma) Z Z Z fun wd1623 HS => nL (sQ ?_)))⟩)))))
                 obtain ⟨c1624, H⟩ := iN H
                 obtain ⟨c1625, H⟩ := iN H
                 obtain ⟨e1626, h1627, H⟩ := Cn H
                 rcases iE H with ⟨c1628, H⟩ | ⟨c1628, H⟩
                 ·
                  rcases iE H with ⟨c1629, H⟩ | ⟨c1629, H⟩
                  ·
                   refine G.lex mixed [0, 2, 6, 1, 3, 4, 5, 7, 8, 9, 10, 11, 12, 14, 13, 15, 16, 17, 18, 19, 20, 21] (by kernel_rfl) ?_
                   replace HS := HS.drew
                   refine qL Z Z (fun _ _ g => fL b1 0 I8 Z g) Z (qL Z Z (fun _ _ g => fL b1579 0 J2 Z g) Z (GX.ps 1 Z (GX.l1 Z Z Z (fun _ g => lB 1 HS Z Nt Z g) Z (GX.l1 Z Z Z (fun _ g => lB 2 HS Z na2 Z g) Z (qL Z Z (fun _ _ g => GO.ix Z Z Z underlying53 Ou ((rD 3 r_a) _ HS).2.2.1 c1624.1 c1624.2 Z g) Z (GX.l1 Z Z Z (fun _ g => GO.Fq (T := (Ty.slice 157 Bc)) (n := e1577.Tet.toNat) (o := 0) HS (rD 3 r_a) Z Z (getD_some (d := []) (ltN c1624)) Z Z Ox Z g) Z (qL Z Z (fun _ _ g => GO.ix Z Z Z underlying150 Pm ((Aq.elem (rD 3 r_a) c1624.1 c1624.2) _ HS).2.2.1 c1625.1 c1625.2 Z g) Z (GX.l1 Z Z Z (fun _ g => GO.Ja (T := Bc) (n := t1613.toNat) HS (Aq.elem (rD 3 r_a) c1624.1 c1624.2) Z Z (getD_eq (ltN c1625) h1627) Ma Z g) Z (GX.l1 Z Z Z (fun _ g => GO.Bu (j := 0) ([I c1, I t1617]) HS Z Z Z Z Ma Z g) Z (qL Z Z (fun _ _ g => GO.bT Z Z Z Yu (fun _ => Yg) Z g) Z (qL Z Z (fun _ _ g => mV Z (kN 85 Z (nT c1628) g)) Z (qL Z Z (fun _ _ g => oN Z (fL b1579 0 J2 Z (bK g))) Z (qL Z Z (fun _ _ g => oN Z (mV Z (bK g))) Z (GX.l1 Z Z Z (fun _ g => oN Z (lB 2 HS Z na2 Z (bK g))) Z ?_))))))))))))))
                   refine qL Z Z (fun _ _ g => oN Z (GO.eql Z Z Z Z (bK g))) Z (qL Z Z (fun _ _ g => oN Z (mV Z (bK (kN 90 Z (tT c1629) g)))) Z (qL Z Z (fun _ _ g => oN Z (mV Z (bK g))) Z (qL Z Z (fun _ _ g => oN Z (mV Z (bK g))) Z (qL Z Z (fun _ _ g => oN Z (GO.eql Z Z Z Z (bK g))) Z (qL Z Z (fun _ _ g => oN Z (GO.Ip Z Z Z Z Z (bK g))) Z (GX.ps 1 Z (GX.nil ?_)))))))
                   rcases iE H with ⟨c1630, H⟩ | ⟨c1630, H⟩
                   ·
                    refine yB Z (tT c1630) (rN 2 Z ?_)
                    obtain rfl := sI H
                    exact rT _ func86 Z Z ⟨Z, (HS.pk 3 [] Z)⟩
                   refine nB Z (tF c1630) (rN 4 Z (G.weak ?_ (o1 n1 (by omega) (by omega) _ _ H (HS.pk 3 [1] Z))))
                   exact ⟨Z, Z, Z, tv⟩
                  refine G.lex mixed [0, 2, 6, 1, 3, 4, 5, 7, 8, 9, 10, 11, 12, 14, 13, 15, 16, 17, 18, 19, 20, 21] (by kernel_rfl) ?_
                  replace HS := HS.drew
                  refine qL Z Z (fun _ _ g => fL b1 0 I8 Z g) Z (qL Z Z (fun _ _ g => fL b1579 0 J2 Z g) Z (GX.ps 1 Z (GX.l1 Z Z Z (fun _ g => lB 1 HS Z Nt Z g) Z (GX.l1 Z Z Z (fun _ g => lB 2 HS Z na2 Z g) Z (qL Z Z (fun _ _ g => GO.ix Z Z Z underlying53 Ou ((rD 3 r_a) _ HS).2.2.1 c1624.1 c1624.2 Z g) Z (GX.l1 Z Z Z (fun _ g => GO.Fq (T := (Ty.slice 157 Bc)) (n := e1577.Tet.toNat) (o := 0) HS (rD 3 r_a) Z Z (getD_some (d := []) (ltN c1624)) Z Z Ox Z g) Z (qL Z Z (fun _ _ g => GO.ix Z Z Z underlying150 Pm ((Aq.elem (rD 3 r_a) c1624.1 c1624.2) _ HS).2.2.1 c1625.1 c1625.2 Z g) Z (GX.l1 Z Z Z (fun _ g => GO.Ja (T := Bc) (n := t1613.toNat) HS (Aq.elem (rD 3 r_a) c1624.1 c1624.2) Z Z (getD_eq (ltN c1625) h1627) Ma Z g) Z (GX.l1 Z Z Z (fun _ g => GO.Bu (j := 0) ([I c1, I t1617]) HS Z Z Z Z Ma Z g) Z (qL Z Z (fun _ _ g => GO.bT Z Z Z Yu (fun _ => Yg) Z g) Z (qL Z Z (fun _ _ g => mV Z (kN 85 Z (nT c1628) g)) Z (qL Z Z (fun _ _ g => oN Z (fL b1579 0 J2 Z (bK g))) Z (qL Z Z (fun _ _ g => oN Z (mV Z (bK g))) Z (GX.l1 Z Z Z (fun _ g => oN Z (lB 2 HS Z na2 Z (bK g))) Z ?_))))))))))))))
                  refine qL Z Z (fun _ _ g => oN Z (GO.eql Z Z Z Z (bK g))) Z (qL Z Z (fun _ _ g => oN Z (mV Z (bK (kN 90 Z (tF c1629) g)))) Z (qL Z Z (fun _ _ g => oF Z g) Z (qL Z Z (fun _ _ g => oF Z g) Z (qL Z Z (fun _ _ g => oF Z g) Z (qL Z Z (fun _ _ g => oN Z (GO.Js Z Z Z Z Z (bK g))) Z (GX.ps 1 Z (GX.nil (rN 5 Z (G.weak ?_ (o1 n1 (by omega) (by omega) _ _ H (HS.pk 3 [1] Z)))))))))))
                  exact ⟨Z, Z, Z, tv⟩
                 refine G.lex mixed [0, 2, 6, 1, 3, 4, 5, 7, 8, 9, 10, 11, 12, 14, 13, 15, 16, 17, 18, 19, 20, 21] (by kernel_rfl) ?_
                 replace HS := HS.drew
                 refine qL Z Z (fun _ _ g => fL b1 0 I8 Z g) Z (qL Z Z (fun _ _ g => fL b1579 0 J2 Z g) Z (GX.ps 1 Z (GX.l1 Z Z Z (fun _ g => lB 1 HS Z Nt Z g) Z (GX.l1 Z Z Z (fun _ g => lB 2 HS Z na2 Z g) Z (qL Z Z (fun _ _ g => GO.ix Z Z Z underlying53 Ou ((rD 3 r_a) _ HS).2.2.1 c1624.1 c1624.2 Z g) Z (GX.l1 Z Z Z (fun _ g => GO.Fq (T := (Ty.slice 157 Bc)) (n := e1577.Tet.toNat) (o := 0) HS (rD 3 r_a) Z Z (getD_some (d := []) (ltN c1624)) Z Z Ox Z g) Z (qL Z Z (fun _ _ g => GO.ix Z Z Z underlying150 Pm ((Aq.elem (rD 3 r_a) c1624.1 c1624.2) _ HS).2.2.1 c1625.1 c1625.2 Z g) Z (GX.l1 Z Z Z (fun _ g => GO.Ja (T := Bc) (n := t1613.toNat) HS (Aq.elem (rD 3 r_a) c1624.1 c1624.2) Z Z (getD_eq (ltN c1625) h1627) Ma Z g) Z (GX.l1 Z Z Z (fun _ g => GO.Bu (j := 0) ([I c1, I t1617]) HS Z Z Z Z Ma Z g) Z (qL Z Z (fun _ _ g => GO.bT Z Z Z Yu (fun _ => Yg) Z g) Z (qL Z Z (fun _ _ g => mV Z (kN 85 Z (nF c1628) g)) Z (qL Z Z (fun _ _ g => oF Z g) Z (qL Z Z (fun _ _ g => oF Z g) Z (GX.l1 Z Z Z (fun _ g => oF Z g) Z ?_))))))))))))))
                 refine qL Z Z (fun _ _ g => oF Z g) Z (qL Z Z (fun _ _ g => oF Z g) Z (qL Z Z (fun _ _ g => GO.M7 Z Z Z Z Z Z g) Z (qL Z Z (fun _ _ g => GO.M7 Z Z Z Z Z Z g) Z (qL Z Z (fun _ _ g => GO.M7 Z Z Z Z Z Z g) Z (qL Z Z (fun _ _ g => oF Z g) Z (GX.ps 1 Z (GX.nil (rN 3 Z ?_))))))))
                 obtain rfl := sI H
                 exact rT _ func86 Z Z ⟨Z, (HS.pk 3 [] Z)⟩
                refine yB Z (congrArg Bool.not (Ca c1612)) (rN 2 Z ?_)
                obtain rfl := sI H
                exact rT _ func86 Z Z ⟨Z, (HS.pk 2 [] Z)⟩
               refine G.Oi mixed (fun w => St w0 w (Box b1 55 [.slice A_a a1.length c_a] :: Box b1579 157 [I e1577.Tet, I e1577.Perm] :: L)) [1, 2, 9] [0, 1, 2, 3, 4, 5, 6, 7, 8, 9, 10, 11, 12] [] (by kernel_rfl) (by kernel_rfl) HS.drew ?_
               replace HS := HS.drew
               refine qL Z Z (fun _ _ g => fL b1579 0 J2 Z g) Z (GX.ls Z Z Z HS (fun _ HS _ g => lB 1 HS Z na2 Z g) Z (GX.ls Z Z Z HS (fun _ HS _ g => GO.Bu (j := 0) ([.slice A_a a1.length c_a]) HS Z Z Z Z Oc Z g) Z (GX.l2 Z (fN Z func122 Qs.1 Qs.2 Z Z (Gm.calls HS (rD 2 r_a) h1600) (fun _ wd1601 ⟨h1602, HS⟩ => ⟨_, h1602, (GX.fin HS (GX.ps 1 Z (GX.l2 Z (fN Z func123 Py.1 Py.2 Z Z (Jd.calls HS  h1604) (fun _ wd1605 ⟨h1606, HS⟩ => ⟨_, h1606, (GX.fin HS (GX.ps 1 Z (qL Z Z (fun _ _ g => mV Z (kN 59 Z (congrArg Bool.not (Ca c1607)) g)) Z (qL Z Z (fun _ _ g => oF Z g) Z (GX.ls Z Z Z HS (fun _ HS _ g => oF Z g) Z (GX.l2 Z ?_))))))⟩)))))⟩)))))
               refine oF Z (GX.fin HS (qL Z Z (fun _ _ g => oF Z g) Z (GX.ps 1 Z (GX.nil (rN 3 Z ?_)))))
               obtain rfl := sI H
               exact rT _ func86 Z Z ⟨Z, (HS.pk 2 [] Z)⟩
             rcases iE H with ⟨c1631, H⟩ | ⟨c1631, H⟩
             ·
              refine rG (fL b1579 0 J2 Z (lB 0 HS Z na2 Z (pS 2 Z (kN 47 Z (tT c1631) (oN Z (fL b1579 1 Ng Z (bK (oN Z (lB 0 HS Z na2 Z (bK (oN Z (GO.eql Z Z Z Z (bK (GO.Ip Z Z Z Z Z ?_))))))))))))))
              refine nL (G.weak ?_ (p1 k1 (lR _) _ _ H (HS.pk 2 [1, 0] Z)))
              exact ⟨Z, Z, Z, Z, Z, tv⟩
             refine rG (fL b1579 0 J2 Z (lB 0 HS Z na2 Z (pS 2 Z (kN 47 Z (tF c1631) (oF Z (oF Z (oF Z (GO.Js Z Z Z Z Z (nL (G.weak ?_ (p1 k1 (lR _) _ _ H (HS.pk 2 [1, 0] Z))))))))))))
             exact ⟨Z, Z, Z, Z, Z, tv⟩
            refine nB Z (tF c1574) (rN 4 Z (G.weak ?_ (g2 k1 (by omega) (by omega) _ _ H HS)))
            exact ⟨Z, Z, tv⟩
         refine G.weak ?_ (e2 q1 (lR _) _ _ H HS)
         exact ⟨Z, Z, Z, tv⟩
        refine nB Z (tF c1457) (rN 3 Z ?_)
        obtain rfl := sI H
        exact rT _ func86 Z Z ⟨Z, (HS.pk 1 [] Z)⟩
     refine G.weak ?_ (t1 m1 (lR _) _ _ H HS)
     exact ⟨Z, Z, tv⟩
  refine G.weak ?_ (x1 K (lR _) _ _ H HS)
  exact ⟨Z, Z, tv⟩
theorem I5.calls {x_A x_B : Int} {x_C x_D : Int} {a1 p r1 : Int} (HS : St w0 w (L)) (H : I5.f x_A x_B x_C x_D a1 p = some r1) :
    Calls prog 162 #[.agg [I x_A, I x_B, I x_C, I x_D, I a1].toArray, I p] w (I5.post w0 L r1) := by
  unfold I5.f at H
  refine cG func162 Z ?_
  refine sQ (rG (GO.box (cs := [I x_A, I x_B, I x_C, I x_D, I a1]) HS Z Z Z Z fun b1 wd2 HS => aS Z (nL (sQ ?_))))
  obtain ⟨c5, H⟩ := iN H
  refine rG (fL b1 0 Qf Z (lB 0 HS Z na2 Z (fL b1 1 Qj Z (lB 0 HS Z na2 Z (fL b1 2 Qg Z (lB 0 HS Z na2 Z (fL b1 3 Qd Z (lB 0 HS Z na2 Z (GO.F3 (el := 2) ([I x_A, I x_B, I x_C, I x_D]) HS Z Z (fun _ => by kernel_rfl) Z fun b3 wd4 HS => mV Z ?_)))))))))
  replace HS := HS.J6 (T := (Bq .i64)) (j := 0) Z Bv (fun _ => ()) ([x_A, x_B, x_C, x_D] : List Int) Z (O3 Z)
  refine GO.Nb (t := 13) (m := ([x_A, x_B, x_C, x_D] : List Int).length) (c' := ([x_A, x_B, x_C, x_D] : List Int).length) Z Z Z (GO.ix Z Z Z underlying43 sz2 (fun _ => ⟨_, _, Z⟩) c5.1 c5.2 Z (GO.Fq (T := (Bq .i64)) (n := p.toNat) (o := 0) HS (Aq.own (j := 0) Z) Z Z (getD_some (d := 0) (ltN c5)) Z Z na2 Z (aS Z (nL ?_))))
  obtain rfl := sI H
  exact rT _ func162 Z Z ⟨Z, (HS.pk 2 [] Z)⟩
theorem G6.calls {x_A x_B : Int} {x_C x_D : Int} {a1 p : Int} {r1 : Bool} (HS : St w0 w (L)) (H : G6.f x_A x_B x_C x_D a1 p = some r1) :
    Calls prog 163 #[.agg [I x_A, I x_B, I x_C, I x_D, I a1].toArray, I p] w (G6.post w0 L r1) := by
  unfold G6.f at H
  refine cG func163 Z ?_
  refine sQ (rG (GO.box (cs := [I x_A, I x_B, I x_C, I x_D, I a1]) HS Z Z Z Z fun b1 wd2 HS => aS Z (nL (sQ ?_))))
  rcases iE H with ⟨c3, H⟩ | ⟨c3, H⟩
  ·
   refine rG (pS 3 Z (kN 7 Z (tT c3) (oF Z (oF Z (oF Z (GO.M7 Z Z Z Z Z Z (GO.M7 Z Z Z Z Z Z (GO.M7 Z Z Z Z Z Z (oF Z (pS 2 Z (oF Z (oF Z (oF Z (GO.M7 Z Z Z Z Z Z ?_))))))))))))))
   refine GO.M7 Z Z Z Z Z Z (GO.M7 Z Z Z Z Z Z (oF Z (pS 2 Z (nL ?_))))
   obtain rfl := sI H
   exact rT _ func163 Z Z ⟨Z, (HS.pk 1 [] Z)⟩
  rcases iE H with ⟨c4, H⟩ | ⟨c4, H⟩
  ·
   rcases iE H with ⟨c5, H⟩ | ⟨c5, H⟩
   ·
    refine rG (pS 3 Z (kN 7 Z (tF c3) (oN Z (mV Z (bK (oN Z (GO.eql Z Z Z Z (bK (oN Z (mV Z (bK (kN 10 Z (tT c4) (oN Z (fL b1 4 Lg Z ?_))))))))))))))
    refine bK (oN Z (lB 0 HS Z na2 Z (bK (oN Z (GO.eql Z Z Z Z (bK (oN Z (GO.Ip Z Z Z Z Z (bK (pS 2 Z (kN 16 Z (tT c5) (oF Z (oF Z (oF Z ?_))))))))))))))
    refine GO.M7 Z Z Z Z Z Z (GO.M7 Z Z Z Z Z Z (GO.M7 Z Z Z Z Z Z (oF Z (pS 2 Z (nL ?_)))))
    obtain rfl := sI H
    exact rT _ func163 Z Z ⟨Z, (HS.pk 1 [] Z)⟩
   rcases iE H with ⟨c6, H⟩ | ⟨c6, H⟩
   ·
    refine rG (pS 3 Z (kN 7 Z (tF c3) (oN Z (mV Z (bK (oN Z (GO.eql Z Z Z Z (bK (oN Z (mV Z (bK (kN 10 Z (tT c4) (oN Z (fL b1 4 Lg Z ?_))))))))))))))
    refine bK (oN Z (lB 0 HS Z na2 Z (bK (oN Z (GO.eql Z Z Z Z (bK (oN Z (GO.Ip Z Z Z Z Z (bK (pS 2 Z (kN 16 Z (tF c5) (oN Z (mV Z (bK ?_))))))))))))))
    refine oN Z (GO.eql Z Z Z Z (bK (oN Z (mV Z (bK (kN 19 Z (tT c6) (oN Z (fL b1 4 Lg Z (bK (oN Z (lB 0 HS Z na2 Z (bK (oN Z (GO.eql Z Z Z Z ?_))))))))))))))
    refine bK (oN Z (GO.Ip Z Z Z Z Z (bK (pS 2 Z (nL ?_)))))
    obtain rfl := sI H
    exact rT _ func163 Z Z ⟨Z, (HS.pk 1 [] Z)⟩
   refine rG (pS 3 Z (kN 7 Z (tF c3) (oN Z (mV Z (bK (oN Z (GO.eql Z Z Z Z (bK (oN Z (mV Z (bK (kN 10 Z (tT c4) (oN Z (fL b1 4 Lg Z ?_))))))))))))))
   refine bK (oN Z (lB 0 HS Z na2 Z (bK (oN Z (GO.eql Z Z Z Z (bK (oN Z (GO.Ip Z Z Z Z Z (bK (pS 2 Z (kN 16 Z (tF c5) (oN Z (mV Z (bK ?_))))))))))))))
   refine oN Z (GO.eql Z Z Z Z (bK (oN Z (mV Z (bK (kN 19 Z (tF c6) (oF Z (oF Z (oF Z (oN Z (GO.Js Z Z Z Z Z (bK (pS 2 Z (nL ?_))))))))))))))
   obtain rfl := sI H
   exact rT _ func163 Z Z ⟨Z, (HS.pk 1 [] Z)⟩
  rcases iE H with ⟨c7, H⟩ | ⟨c7, H⟩
  ·
   refine rG (pS 3 Z (kN 7 Z (tF c3) (oN Z (mV Z (bK (oN Z (GO.eql Z Z Z Z (bK (oN Z (mV Z (bK (kN 10 Z (tF c4) (oF Z (oF Z ?_))))))))))))))
   refine oF Z (oN Z (GO.Js Z Z Z Z Z (bK (pS 2 Z (oN Z (mV Z (bK (oN Z (GO.eql Z Z Z Z (bK (oN Z (mV Z (bK (kN 19 Z (tT c7) ?_))))))))))))))
   refine oN Z (fL b1 4 Lg Z (bK (oN Z (lB 0 HS Z na2 Z (bK (oN Z (GO.eql Z Z Z Z (bK (oN Z (GO.Ip Z Z Z Z Z (bK (pS 2 Z (nL ?_)))))))))))))
   obtain rfl := sI H
   exact rT _ func163 Z Z ⟨Z, (HS.pk 1 [] Z)⟩
  refine rG (pS 3 Z (kN 7 Z (tF c3) (oN Z (mV Z (bK (oN Z (GO.eql Z Z Z Z (bK (oN Z (mV Z (bK (kN 10 Z (tF c4) (oF Z (oF Z ?_))))))))))))))
  refine oF Z (oN Z (GO.Js Z Z Z Z Z (bK (pS 2 Z (oN Z (mV Z (bK (oN Z (GO.eql Z Z Z Z (bK (oN Z (mV Z (bK (kN 19 Z (tF c7) ?_))))))))))))))
  refine oF Z (oF Z (oF Z (oN Z (GO.Js Z Z Z Z Z (bK (pS 2 Z (nL ?_)))))))
  obtain rfl := sI H
  exact rT _ func163 Z Z ⟨Z, (HS.pk 1 [] Z)⟩
theorem Bf.calls {a1 : List Al} {i1 : Int} {A_a : Option Addr} {c_a : Nat} {r1 : Bool} (HS : St w0 w (L)) (r_a : Aq w0 L Bb A_a c_a (fun _ => ()) a1) (H : Bf.f K a1 i1 = some r1) :
    Calls prog 127 #[.agg [.slice A_a a1.length c_a, I i1].toArray] w (Bf.post w0 L r1) := by
  unfold Bf.f at H
  refine cG func127 Z ?_
  refine sQ (rG (GO.box (cs := [.slice A_a a1.length c_a, I i1]) HS Z Z Z Z fun b1 wd2 HS => aS Z (nL (sQ (rG (fL b1 0 Iu Z (lB 0 HS Z Ni Z (lS Z Z underlying56 Z (pS 2 Z (nL (sQ ?_)))))))))))
  obtain ⟨c3, H⟩ := iN H
  obtain ⟨c4, H⟩ := iN H
  refine G.Pb mixed (by decide) (fun b a w => ∃ (p1 : Value) (m1 : Value) (k1 : Value) (s1 : Value) (o1 : Value) (n1 : Value) (b5 : Nat) (b7 : Nat) (x1 : Cu) (y1 : Cu), Sat 63 [(4, o1), (5, n1), (15, p1), (16, m1), (17, k1), (18, s1), (1, .pointer (some ⟨b1, 0, none⟩)), (3, I (w64 (2 * (a1.length : Int))))] a ∧ St w0 w (Box b1 58 [.slice A_a a1.length c_a, I i1] :: x1 :: y1 :: L) ∧ (b 4 = true → o1 = (.slice (some ⟨b5, 0, none⟩) (List.replicate (w64 (2 * (a1.length : Int))).toNat false).length ((w64 (2 * (a1.length : Int))).toNat))) ∧ (b 5 = true → n1 = (.slice (some ⟨b7, 0, none⟩) (List.replicate (w64 (2 * (a1.length : Int))).toNat false).length ((w64 (2 * (a1.length : Int))).toNat))) ∧ (b 0 = true → p1 = (I (w64 (2 * (a1.length : Int))))) ∧ (b 1 = true → m1 = (.slice (some ⟨b5, 0, none⟩) (List.replicate (w64 (2 * (a1.length : Int))).toNat false).length ((w64 (2 * (a1.length : Int))).toNat))) ∧ (b 2 = true → k1 = (I (w64 (2 * (a1.length : Int))))) ∧ (b 3 = true → s1 = (.slice (some ⟨b7, 0, none⟩) (List.replicate (w64 (2 * (a1.length : Int))).toNat false).length ((w64 (2 * (a1.length : Int))).toNat))) ∧ (b 1 = true → x1 = Own L6 4 (some ⟨b5, 0, none⟩) ((w64 (2 * (a1.length : Int))).toNat) (fun _ => ()) (List.replicate (w64 (2 * (a1.length : Int))).toNat false)) ∧ (b 3 = true → y1 = Own L6 4 (some ⟨b7, 0, none⟩) ((w64 (2 * (a1.length : Int))).toNat) (fun _ => ()) (List.replicate (w64 (2 * (a1.length : Int))).toNat false))) ?_ ?_ ?_
  ·
   intro a hs
   obtain ⟨o1, hs⟩ := hs.ext (d := 4) Z
   obtain ⟨n1, hs⟩ := hs.ext (d := 5) Z
   obtain ⟨p1, hs⟩ := hs.ext (d := 15) Z
   obtain ⟨m1, hs⟩ := hs.ext (d := 16) Z
   obtain ⟨k1, hs⟩ := hs.ext (d := 17) Z
   obtain ⟨s1, hs⟩ := hs.ext (d := 18) Z
   exact ⟨p1, m1, k1, s1, o1, n1, 0, 0, Emp, Emp, hs.weak ⟨Z, Z, Z, Z, Z, Z, Z, Z, tv⟩, (HS.drew.emp.emp.pk 3 [2, 1, 0] Z), fun h => Bool.noConfusion h, fun h => Bool.noConfusion h, fun h => Bool.noConfusion h, fun h => Bool.noConfusion h, fun h => Bool.noConfusion h, fun h => Bool.noConfusion h, fun h => Bool.noConfusion h, fun h => Bool.noConfusion h⟩
  ·
   intro j hj b a w
   refine exI fun p1 => exI fun m1 => exI fun k1 => exI fun s1 => exI fun o1 => exI fun n1 => exI fun b5 => exI fun b7 => exI fun x1 => exI fun y1 => anI fun hs => anI fun HS => anI fun f4 => anI fun f5 => anI fun f0 => anI fun f1 => anI fun f2 => anI fun f3 => anI fun d1 => fun e1 hb hd hcl => ?_
   match j, hj with
   | 0, _ =>
    refine GO.at hs (mV Z (GO.fin (fun a hs => ⟨(I (w64 (2 * (a1.length : Int)))), _, _, _, _, _, b5, b7, _, _, by exact hs.setAt 2 Z, HS, f4, f5, fun _ => Z, f1, f2, f3, d1, e1⟩)))
   | 1, _ =>
    have hb0 : b 0 = true := hd 0 (by decide)
    obtain rfl := f0 hb0
    refine GO.at hs (GO.make (T := L6) false () HS Bv Z Z Z underlying191 rQ Z Z Z c3 c4 Z fun b5 wd6 HS => GO.fin (fun a hs => ⟨_, (.slice (some ⟨b5, 0, none⟩) (List.replicate (w64 (2 * (a1.length : Int))).toNat false).length ((w64 (2 * (a1.length : Int))).toNat)), _, _, _, _, b5, b7, Own L6 4 (some ⟨b5, 0, none⟩) ((w64 (2 * (a1.length : Int))).toNat) (fun _ => ()) (List.replicate (w64 (2 * (a1.length : Int))).toNat false), _, by exact hs.setAt 3 Z, HS.pk 4 [1, 0, 3] Z, fun hh => (Bool.noConfusion ((hcl 4 (by decide) hh 1 (by decide)).symm.trans hb)), f5, f0, fun _ => Z, f2, f3, fun _ => Z, e1⟩))
   | 2, _ =>
    refine GO.at hs (mV Z (GO.fin (fun a hs => ⟨_, _, (I (w64 (2 * (a1.length : Int)))), _, _, _, b5, b7, _, _, by exact hs.setAt 4 Z, HS, f4, f5, f0, f1, fun _ => Z, f3, d1, e1⟩)))
   | 3, _ =>
    have hb2 : b 2 = true := hd 2 (by decide)
    obtain rfl := f2 hb2
    refine GO.at hs (GO.make (T := L6) false () HS Bv Z Z Z underlying191 rQ Z Z Z c3 c4 Z fun b7 wd8 HS => GO.fin (fun a hs => ⟨_, _, _, (.slice (some ⟨b7, 0, none⟩) (List.replicate (w64 (2 * (a1.length : Int))).toNat false).length ((w64 (2 * (a1.length : Int))).toNat)), _, _, b5, b7, _, Own L6 4 (some ⟨b7, 0, none⟩) ((w64 (2 * (a1.length : Int))).toNat) (fun _ => ()) (List.replicate (w64 (2 * (a1.length : Int))).toNat false), by exact hs.setAt 5 Z, HS.pk 4 [1, 2, 0] Z, f4, fun hh => (Bool.noConfusion ((hcl 5 (by decide) hh 3 (by decide)).symm.trans hb)), f0, f1, f2, fun _ => Z, d1, fun _ => Z⟩))
   | 4, _ =>
    have hb1 : b 1 = true := hd 1 (by decide)
    obtain rfl := f1 hb1
    refine GO.at hs (aS Z (GO.fin (fun a hs => ⟨_, _, _, _, (.slice (some ⟨b5, 0, none⟩) (List.replicate (w64 (2 * (a1.length : Int))).toNat false).length ((w64 (2 * (a1.length : Int))).toNat)), _, b5, b7, _, _, by exact hs.setAt 0 Z, HS, fun _ => Z, f5, f0, f1, f2, f3, d1, e1⟩)))
   | 5, _ =>
    have hb3 : b 3 = true := hd 3 (by decide)
    obtain rfl := f3 hb3
    refine GO.at hs (aS Z (GO.fin (fun a hs => ⟨_, _, _, _, _, (.slice (some ⟨b7, 0, none⟩) (List.replicate (w64 (2 * (a1.length : Int))).toNat false).length ((w64 (2 * (a1.length : Int))).toNat)), b5, b7, _, _, by exact hs.setAt 1 Z, HS, f4, fun _ => Z, f0, f1, f2, f3, d1, e1⟩)))
   | k + 6, hj => exact absurd hj (Nat.not_lt.2 (Nat.le_add_left 6 k))
  ·
   intro b a w hall
   refine exI fun p1 => exI fun m1 => exI fun k1 => exI fun s1 => exI fun o1 => exI fun n1 => exI fun b5 => exI fun b7 => exI fun x1 => exI fun y1 => anI fun hs => anI fun HS => anI fun f4 => anI fun f5 => anI fun f0 => anI fun f1 => anI fun f2 => anI fun f3 => anI fun d1 => fun e1 => ?_
   obtain rfl := f4 (hall 4 (by decide))
   obtain rfl := f5 (hall 5 (by decide))
   obtain rfl := f0 (hall 0 (by decide))
   obtain rfl := f1 (hall 1 (by decide))
   obtain rfl := f2 (hall 2 (by decide))
   obtain rfl := f3 (hall 3 (by decide))
   obtain rfl := d1 (hall 1 (by decide))
   obtain rfl := e1 (hall 3 (by decide))
   refine G.at hs (rN 5 Z ?_)
   refine G.name (fun o2 m2 => ?_)
   have n2 : ∀ t1, t1 ≤ K → ∀ (g1 h1 : List Bool) (c1 : Int) (w : World), Bf.l1 K t1 a1 g1 h1 c1 = some r1 → St w0 w (Box b1 58 [.slice A_a a1.length c_a, I i1] :: Own L6 4 (some ⟨b5, 0, none⟩) ((w64 (2 * (a1.length : Int))).toNat) (fun _ => ()) g1 :: Own L6 4 (some ⟨b7, 0, none⟩) ((w64 (2 * (a1.length : Int))).toNat) (fun _ => ()) h1 :: L) → G prog 127 63 [(1, .pointer (some ⟨b1, 0, none⟩)), (3, I (w64 (2 * (a1.length : Int)))), (4, .slice (some ⟨b5, 0, none⟩) g1.length ((w64 (2 * (a1.length : Int))).toNat)), (5, .slice (some ⟨b7, 0, none⟩) h1.length ((w64 (2 * (a1.length : Int))).toNat)), (6, I c1)] o2 w (Bf.post w0 L r1) := by
    intro t1
    induction t1 using Nat.strongRecOn with
    | _ t1 s2 =>
     intro t2 g1 h1 c1 w H HS
     cases t1 with
     | zero => rw [Bf.l1] at H; cases H
     | succ b2 =>
      rw [Bf.l1] at H
      subst m2
      refine rN 2 Z (rG (mV Z (fL b1 0 Iu Z (lB 0 HS Z Ni Z (lS Z Z underlying56 Z (GO.lss Z Z Z Z (nL ?_)))))))
      rcases iE H with ⟨c183, H⟩ | ⟨c183, H⟩
      ·
       refine yB Z (tT c183) (rN 4 Z ?_)
       obtain ⟨c184, H⟩ := iN H
       obtain ⟨e185, h186, H⟩ := Cn H
       refine rG (fL b1 0 Iu Z (lB 0 HS Z Ni Z (mV Z (GO.ix Z Z Z underlying56 Nu ((rD 3 r_a) _ HS).2.2.1 c184.1 c184.2 Z (GO.Ja (T := Bb) (n := c1.toNat) HS (rD 3 r_a) Z Z (getD_eq (ltN c184) h186) Me Z (GO.alloc HS Z X8 Z Z fun b187 wd188 HS => GO.C8 (j := 0) (vs := [I e185.A, I e185.B, I e185.C, I e185.D, I e185.Sign]) ([I e185.A, I e185.B, I e185.C, I e185.D, I e185.Sign]) HS Z Z Z Z Z (htA Me) Z Z Z fun wd189 HS => nL (rN 2 Z ?_)))))))
       refine G.Ps (fun k2 q2 => ?_)
       have e2 : ∀ z1, z1 ≤ b2 → ∀ (x192 : Bool) (w : World), Bf.j12 K z1 a1 g1 h1 c1 e185 x192 = some r1 → St w0 w (Box b1 58 [.slice A_a a1.length c_a, I i1] :: Own L6 4 (some ⟨b5, 0, none⟩) ((w64 (2 * (a1.length : Int))).toNat) (fun _ => ()) g1 :: Own L6 4 (some ⟨b7, 0, none⟩) ((w64 (2 * (a1.length : Int))).toNat) (fun _ => ()) h1 :: Box b187 152 [I e185.A, I e185.B, I e185.C, I e185.D, I e185.Sign] :: L) → G prog 127 63 [(1, .pointer (some ⟨b1, 0, none⟩)), (3, I (w64 (2 * (a1.length : Int)))), (4, .slice (some ⟨b5, 0, none⟩) g1.length ((w64 (2 * (a1.length : Int))).toNat)), (5, .slice (some ⟨b7, 0, none⟩) h1.length ((w64 (2 * (a1.length : Int))).toNat)), (6, I c1), (7, .pointer (some ⟨b187, 0, none⟩)), (38, .bool x192)] k2 w (Bf.post w0 L r1) := by
        intro z1 u2 x192 w H HS
        cases z1 with
        | zero => rw [Bf.j12] at H; cases H
        | succ h2 =>
         rw [Bf.j12] at H
         subst q2
         rcases iE H with ⟨c193, H⟩ | ⟨c193, H⟩
         ·
          refine yB Z c193 (rN 2 Z ?_)
          obtain rfl := sI H
          exact rT _ func127 Z Z ⟨Z, (HS.pk 4 [] Z)⟩
         refine nB Z (Ca c193) (rN 5 Z ?_)
         refine G.name (fun r2 p2 => ?_)
         have i2 : ∀ q1, q1 ≤ h2 → ∀ (u1 v1 : List Bool) (a2 : Int) (w : World), Bf.l13 K q1 a1 c1 e185 u1 v1 a2 = some r1 → St w0 w (Box b1 58 [.slice A_a a1.length c_a, I i1] :: Own L6 4 (some ⟨b5, 0, none⟩) ((w64 (2 * (a1.length : Int))).toNat) (fun _ => ()) u1 :: Own L6 4 (some ⟨b7, 0, none⟩) ((w64 (2 * (a1.length : Int))).toNat) (fun _ => ()) v1 :: Box b187 152 [I e185.A, I e185.B, I e185.C, I e185.D, I e185.Sign] :: L) → G prog 127 63 [(1, .pointer (some ⟨b1, 0, none⟩)), (3, I (w64 (2 * (a1.length : Int)))), (4, .slice (some ⟨b5, 0, none⟩) u1.length ((w64 (2 * (a1.length : Int))).toNat)), (5, .slice (some ⟨b7, 0, none⟩) v1.length ((w64 (2 * (a1.length : Int))).toNat)), (6, I c1), (7, .pointer (some ⟨b187, 0, none⟩)), (8, I a2)] r2 w (Bf.post w0 L r1) := by
          intro q1
          induction q1 using Nat.strongRecOn with
          | _ q1 d2 =>
           intro g2 u1 v1 a2 w H HS
           cases q1 with
           | zero => rw [Bf.l13] at H; cases H
           | succ c2 =>
            rw [Bf.l13] at H
            subst p2
            refine rN 3 Z ?_
            rcases iE H with ⟨c244, H⟩ | ⟨c244, H⟩
            ·
             refine yB Z (tT c244) (rN 4 Z ?_)
             obtain ⟨t245, h246, H⟩ := bI H
             refine rG (GO.Bu (j := 3) ([I e185.A, I e185.B, I e185.C, I e185.D, I e185.Sign]) HS Z Z Z Z Me Z (mV Z (fN Z func162 Rj.1 Rj.2 Z Z (I5.calls HS  h246) (fun _ wd247 ⟨h248, HS⟩ => ⟨_, h248, (aS Z (nL (rN 2 Z ?_)))⟩))))
             obtain ⟨t249, h250, H⟩ := bI H
             refine rG (pS 3 Z (fN Z func84 Lp.1 Lp.2 Z Z (Dx.calls HS  h250) (fun _ wd251 ⟨h252, HS⟩ => ⟨_, h252, (GO.not Z Z Z (nL ?_))⟩)))
             rcases iE H with ⟨c253, H⟩ | ⟨c253, H⟩
             ·
              refine nB Z (congrArg Bool.not c253) (rN 5 Z ?_)
              obtain ⟨t254, h255, H⟩ := bI H
              refine rG (GO.Bu (j := 3) ([I e185.A, I e185.B, I e185.C, I e185.D, I e185.Sign]) HS Z Z Z Z Me Z (mV Z (fN Z func163 Ue.1 Ue.2 Z Z (G6.calls HS  h255) (fun _ wd256 ⟨h257, HS⟩ => ⟨_, h257, (nL ?_)⟩))))
              rcases iE H with ⟨c261, H⟩ | ⟨c261, H⟩
              ·
               refine yB Z c261 (rN 3 Z ?_)
               obtain ⟨c262, H⟩ := iN H
               refine rG (pS 2 Z (GO.ix Z Z Z underlying191 sz4 (fun _ => ⟨_, _, Z⟩) c262.1 c262.2 Z (GO.Fq (T := L6) (n := t245.toNat) (o := 0) HS (Aq.own (j := 1) Z) Z Z (getD_some (d := false) (ltN c262)) Z Z na4 Z (nL ?_))))
               rcases iE H with ⟨c263, H⟩ | ⟨c263, H⟩
               ·
                refine yB Z c263 (rN 2 Z ?_)
                obtain rfl := sI H
                exact rT _ func127 Z Z ⟨Z, (HS.pk 4 [] Z)⟩
               refine nB Z (Ca c263) (G.skip (rG (pS 2 Z (GO.ix Z Z Z underlying191 sz4 (fun _ => ⟨_, _, Z⟩) c262.1 c262.2 Z (GO.M5 (T := L6) (j := 1) (n := t245.toNat) (o := 0) (vs := [.bool true]) true HS Z Bv Z Z Z Z (htN na4 Z) Z (getD_some (d := false) (ltN c262)) Z Z fun wd264 HS => nL (G.len (t := 4) (m := (u1.set t245.toNat true).length) Z (by simp only [List.length_set] <;> rfl) (rN 3 Z (G.weak ?_ (d2 c2 (Nat.lt_succ_of_le (lR _)) (Nat.le_of_succ_le g2) _ _ _ _ H HS)))))))))
               exact ⟨Z, Z, Z, Z, Z, Z, Z, tv⟩
              refine nB Z (Ca c261) (rN 3 Z ?_)
              obtain ⟨c265, H⟩ := iN H
              refine rG (pS 2 Z (GO.ix Z Z Z underlying191 sz4 (fun _ => ⟨_, _, Z⟩) c265.1 c265.2 Z (GO.Fq (T := L6) (n := t245.toNat) (o := 0) HS (Aq.own (j := 2) Z) Z Z (getD_some (d := false) (ltN c265)) Z Z na4 Z (nL ?_))))
              rcases iE H with ⟨c266, H⟩ | ⟨c266, H⟩
              ·
               refine yB Z c266 (rN 2 Z ?_)
               obtain rfl := sI H
               exact rT _ func127 Z Z ⟨Z, (HS.pk 4 [] Z)⟩
              refine nB Z (Ca c266) (G.skip (rG (pS 2 Z (GO.ix Z Z Z underlying191 sz4 (fun _ => ⟨_, _, Z⟩) c265.1 c265.2 Z (GO.M5 (T := L6) (j := 2) (n := t245.toNat) (o := 0) (vs := [.bool true]) true HS Z Bv Z Z Z Z (htN na4 Z) Z (getD_some (d := false) (ltN c265)) Z Z fun wd267 HS => nL (G.len (t := 5) (m := (v1.set t245.toNat true).length) Z (by simp only [List.length_set] <;> rfl) (rN 3 Z (G.weak ?_ (d2 c2 (Nat.lt_succ_of_le (lR _)) (Nat.le_of_succ_le g2) _ _ _ _ H HS)))))))))
              exact ⟨Z, Z, Z, Z, Z, Z, Z, tv⟩
             refine yB Z (congrArg Bool.not (Ca c253)) (rN 2 Z ?_)
             obtain rfl := sI H
             exact rT _ func127 Z Z ⟨Z, (HS.pk 4 [] Z)⟩
            refine nB Z (tF c244) (rN 4 Z (G.weak ?_ (s2 c2 (by omega) (by omega) _ _ _ _ H (HS.pk 4 [0, 1, 2] Z))))
            exact ⟨Z, Z, Z, Z, Z, tv⟩
         refine G.weak ?_ (i2 h2 (lR _) _ _ _ _ H HS)
         exact ⟨Z, Z, Z, Z, Z, Z, Z, tv⟩
       rcases iE H with ⟨c268, H⟩ | ⟨c268, H⟩
       ·
        refine rG (fL b187 4 Lg Z (lB 0 HS Z na2 Z (pS 2 Z (kN 34 Z (nT c268) (oF Z (oF Z (oF Z (GO.Js Z Z Z Z Z (nL (G.weak ?_ (e2 b2 (lR _) _ _ H (HS.pk 4 [1, 2, 3, 0] Z))))))))))))
        exact ⟨Z, Z, Z, Z, Z, Z, Z, tv⟩
       refine rG (fL b187 4 Lg Z (lB 0 HS Z na2 Z (pS 2 Z (kN 34 Z (nF c268) (oN Z (fL b187 4 Lg Z (bK (oN Z (lB 0 HS Z na2 Z (bK (oN Z (GO.neq Z Z Z Z (bK (GO.Ip Z Z Z Z Z ?_))))))))))))))
       refine nL (G.weak ?_ (e2 b2 (lR _) _ _ H (HS.pk 4 [1, 2, 3, 0] Z)))
       exact ⟨Z, Z, Z, Z, Z, Z, Z, tv⟩
      refine nB Z (tF c183) (rN 3 Z ?_)
      obtain rfl := sI H
      exact rT _ func127 Z Z ⟨Z, (HS.pk 3 [] Z)⟩
   refine G.weak ?_ (n2 K (lR _) _ _ _ _ H HS)
   exact ⟨Z, Z, Z, Z, Z, tv⟩
theorem Ck.calls {c1 : List Al} {f1 a_ : Int} {enters : Bool} {A_a : Option Addr} {c_a : Nat} {r1 r2 : Int} (HS : St w0 w (L)) (r_a : Aq w0 L Bb A_a c_a (fun _ => ()) c1) (H : Ck.f K c1 f1 a_ enters = some (r1, r2)) :
    Calls prog 189 #[.agg [.slice A_a c1.length c_a, I f1].toArray, I a_, .bool enters] w (Ck.post w0 L r1 r2) := by
  unfold Ck.f at H
  refine cG func189 Z ?_
  refine sQ (rG (GO.box (cs := [.slice A_a c1.length c_a, I f1]) HS Z Z Z Z fun b1 wd2 HS => pS 2 Z (nL (rN 5 Z ?_))))
  refine G.name (fun o1 s1 => ?_)
  have u1 : ∀ e1, e1 ≤ K → ∀ (a1 : Int) (w : World), Ck.l1 K e1 c1 a_ enters a1 = some (r1, r2) → St w0 w (Box b1 58 [.slice A_a c1.length c_a, I f1] :: L) → G prog 189 43 [(1, I a_), (2, .bool enters), (3, .pointer (some ⟨b1, 0, none⟩)), (8, I a1)] o1 w (Ck.post w0 L r1 r2) := by
   intro e1
   induction e1 using Nat.strongRecOn with
   | _ e1 p1 =>
    intro v1 a1 w H HS
    cases e1 with
    | zero => rw [Ck.l1] at H; cases H
    | succ m1 =>
     rw [Ck.l1] at H
     subst s1
     refine rN 2 Z (rG (mV Z (fL b1 0 Iu Z (lB 0 HS Z Ni Z (lS Z Z underlying56 Z (GO.lss Z Z Z Z (nL ?_)))))))
     rcases iE H with ⟨c162, H⟩ | ⟨c162, H⟩
     ·
      refine yB Z (tT c162) (rN 7 Z ?_)
      refine G.name (fun t1 n1 => ?_)
      have q1 : ∀ d1, d1 ≤ m1 → ∀ (g1 : Int) (w : World), Ck.l4 K d1 c1 a_ enters a1 g1 = some (r1, r2) → St w0 w (Box b1 58 [.slice A_a c1.length c_a, I f1] :: L) → G prog 189 43 [(1, I a_), (2, .bool enters), (3, .pointer (some ⟨b1, 0, none⟩)), (8, I a1), (9, I g1)] t1 w (Ck.post w0 L r1 r2) := by
       intro d1
       induction d1 using Nat.strongRecOn with
       | _ d1 k1 =>
        intro i1 g1 w H HS
        cases d1 with
        | zero => rw [Ck.l4] at H; cases H
        | succ h1 =>
         rw [Ck.l4] at H
         subst n1
         refine rN 3 Z ?_
         rcases iE H with ⟨c215, H⟩ | ⟨c215, H⟩
         ·
          refine yB Z (tT c215) (rN 4 Z ?_)
          obtain ⟨c228, H⟩ := iN H
          obtain ⟨e229, h230, H⟩ := Cn H
          obtain ⟨t231, h232, H⟩ := bI H
          rcases iE H with ⟨c235, H⟩ | ⟨c235, H⟩
          ·
           obtain ⟨t236, h237, H⟩ := bI H
           refine rG (fL b1 0 Iu Z (lB 0 HS Z Ni Z (mV Z (GO.ix Z Z Z underlying56 Nu ((rD 1 r_a) _ HS).2.2.1 c228.1 c228.2 Z (GO.Ja (T := Bb) (n := a1.toNat) HS (rD 1 r_a) Z Z (getD_eq (ltN c228) h230) Me Z (mV Z (fN Z func162 Rj.1 Rj.2 Z Z (I5.calls HS  h232) (fun _ wd233 ⟨h234, HS⟩ => ⟨_, h234, (pS 3 Z (kN 30 Z (tT c235) (oN Z (fL b1 0 Iu Z (bK (oN Z (lB 0 HS Z Ni Z ?_)))))))⟩))))))))
           refine bK (oN Z (mV Z (bK (oN Z (GO.ix Z Z Z underlying56 Nu ((rD 1 r_a) _ HS).2.2.1 c228.1 c228.2 Z (bK (oN Z (GO.Ja (T := Bb) (n := a1.toNat) HS (rD 1 r_a) Z Z (getD_eq (ltN c228) h230) Me Z (bK (oN Z (mV Z (bK (oN Z (fN Z func163 Ue.1 Ue.2 Z Z (G6.calls HS  h237) (fun _ wd238 ⟨h239, HS⟩ => ⟨_, h239, ?_⟩)))))))))))))))
           refine bK (oN Z (mV Z (bK (oN Z (GO.xY Z Z Z underlying4 Z (bK (GO.Ip Z Z Z Z Z (nL ?_))))))))
           rcases iE H with ⟨c240, H⟩ | ⟨c240, H⟩
           ·
            refine yB Z c240 (rN 2 Z ?_)
            obtain ⟨rfl, rfl⟩ := Mf H
            exact G.Oy _ _ func189 Z Z Z ⟨Z, (HS.pk 1 [] Z)⟩
           refine nB Z (Ca c240) (rN 4 Z (G.weak ?_ (k1 h1 (Nat.lt_succ_of_le (lR _)) (Nat.le_of_succ_le i1) _ _ H HS)))
           exact ⟨Z, Z, Z, Z, Z, tv⟩
          refine rG (fL b1 0 Iu Z (lB 0 HS Z Ni Z (mV Z (GO.ix Z Z Z underlying56 Nu ((rD 1 r_a) _ HS).2.2.1 c228.1 c228.2 Z (GO.Ja (T := Bb) (n := a1.toNat) HS (rD 1 r_a) Z Z (getD_eq (ltN c228) h230) Me Z (mV Z (fN Z func162 Rj.1 Rj.2 Z Z (I5.calls HS  h232) (fun _ wd233 ⟨h234, HS⟩ => ⟨_, h234, (pS 3 Z (kN 30 Z (tF c235) (oF Z (oF Z (oF Z (oF Z (oF Z ?_)))))))⟩))))))))
          refine oF Z (oF Z (oF Z (oF Z (GO.Js Z Z Z Z Z (nL (rN 5 Z (G.weak ?_ (k1 h1 (Nat.lt_succ_of_le (lR _)) (Nat.le_of_succ_le i1) _ _ H HS))))))))
          exact ⟨Z, Z, Z, Z, Z, tv⟩
         refine nB Z (tF c215) (rN 4 Z (G.weak ?_ (p1 h1 (by omega) (by omega) _ _ H HS)))
         exact ⟨Z, Z, Z, Z, tv⟩
      refine G.weak ?_ (q1 m1 (lR _) _ _ H HS)
      exact ⟨Z, Z, Z, Z, Z, tv⟩
     refine nB Z (tF c162) (rN 3 Z ?_)
     obtain ⟨rfl, rfl⟩ := Mf H
     exact G.Oy _ _ func189 Z Z Z ⟨Z, (HS.pk 1 [] Z)⟩
  refine G.weak ?_ (u1 K (lR _) _ _ H HS)
  exact ⟨Z, Z, Z, Z, tv⟩
theorem Ia.calls {a1 : List Al} {c1 corner : Int} {A_a : Option Addr} {c_a : Nat} {r1 : Int} (HS : St w0 w (L)) (r_a : Aq w0 L Bb A_a c_a (fun _ => ()) a1) (H : Ia.f K a1 c1 corner = some r1) :
    Calls prog 164 #[.agg [.slice A_a a1.length c_a, I c1].toArray, I corner] w (Ia.post w0 L r1) := by
  unfold Ia.f at H
  refine cG func164 Z ?_
  refine sQ (rG (GO.box (cs := [.slice A_a a1.length c_a, I c1]) HS Z Z Z Z fun b1 wd2 HS => aS Z (nL (sQ (rG (mV Z (GO.quo Z Z Z (by decide) Z (mV Z (GO.rem Z Z Z (by decide) Z (GO.add Z Z Z Z (GO.rem Z Z Z (by decide) Z (pS 2 Z (nL ?_)))))))))))))
  refine sQ ?_
  obtain ⟨c3, H⟩ := iN H
  obtain ⟨e4, h5, H⟩ := Cn H
  refine rG (fL b1 0 Iu Z (lB 0 HS Z Ni Z (mV Z (GO.ix Z Z Z underlying56 Nu ((rD 1 r_a) _ HS).2.2.1 c3.1 c3.2 Z (GO.Ja (T := Bb) (n := (w64 (corner.tdiv 4)).toNat) HS (rD 1 r_a) Z Z (getD_eq (ltN c3) h5) Me Z (GO.alloc HS Z X8 Z Z fun b6 wd7 HS => GO.C8 (j := 0) (vs := [I e4.A, I e4.B, I e4.C, I e4.D, I e4.Sign]) ([I e4.A, I e4.B, I e4.C, I e4.D, I e4.Sign]) HS Z Z Z Z Z (htA Me) Z Z Z fun wd8 HS => nL (sQ ?_)))))))
  obtain ⟨t9, h10, H⟩ := bI H
  obtain ⟨t13, h14, H⟩ := bI H
  obtain ⟨t17, t18, h19, H⟩ := Dk H
  refine G.Oi mixed (fun w => St w0 w (Box b6 152 [I e4.A, I e4.B, I e4.C, I e4.D, I e4.Sign] :: Box b1 58 [.slice A_a a1.length c_a, I c1] :: L)) [0, 1, 4] [2, 5, 0, 1, 4, 3, 6, 7, 8, 9, 10, 11, 12, 13] [] (by kernel_rfl) (by kernel_rfl) HS.drew ?_
  replace HS := HS.drew
  refine GX.ps 2 Z (GX.ls Z Z Z HS (fun _ HS _ g => GO.Bu (j := 1) ([.slice A_a a1.length c_a, I c1]) HS Z Z Z Z Np Z g) Z (GX.ls Z Z Z HS (fun _ HS _ g => GO.Bu (j := 0) ([I e4.A, I e4.B, I e4.C, I e4.D, I e4.Sign]) HS Z Z Z Z Me Z g) Z (GX.ls Z Z Z HS (fun _ HS _ g => GO.Bu (j := 0) ([I e4.A, I e4.B, I e4.C, I e4.D, I e4.Sign]) HS Z Z Z Z Me Z g) Z (GX.l2 Z (fN Z func162 Rj.1 Rj.2 Z Z (I5.calls HS  h10) (fun _ wd11 ⟨h12, HS⟩ => ⟨_, h12, (GX.fin HS (GX.l2 Z (fN Z func163 Ue.1 Ue.2 Z Z (G6.calls HS  h14) (fun _ wd15 ⟨h16, HS⟩ => ⟨_, h16, (GX.fin HS (GX.ps 1 Z (GX.l2 Z (fN Z func189 Uc.1 Uc.2 Z Z (Ck.calls HS (rD 2 r_a) h19) (fun _ wd20 ⟨h21, HS⟩ => ⟨_, h21, (GX.fin HS (GX.ps 5 Z ?_))⟩)))))⟩))))⟩))))))
  refine GX.nil (rN 2 Z ?_)
  obtain rfl := sI H
  exact rT _ func164 Z Z ⟨Z, (HS.pk 2 [] Z)⟩
theorem Cj.calls {a1 : List Al} {d1 : Int} {A_a : Option Addr} {c_a : Nat} {r1 : List (List Int)} (HS : St w0 w (L)) (r_a : Aq w0 L Bb A_a c_a (fun _ => ()) a1) (H : Cj.f K a1 d1 = some r1) :
    Calls prog 128 #[.agg [.slice A_a a1.length c_a, I d1].toArray] w (Cj.post w0 L r1) := by
  unfold Cj.f at H
  refine cG func128 Z ?_
  refine sQ (rG (GO.box (cs := [.slice A_a a1.length c_a, I d1]) HS Z Z Z Z fun b1 wd2 HS => aS Z (nL (sQ (rG (GO.F3 (el := 43) ([]) HS Z Z (fun _ => by kernel_rfl) Z fun b3 wd4 HS => ?_))))))
  replace HS := HS.Zf (T := (Ty.slice 2 (Bq .i64))) (j := 0) Z (fun _ => ⟨none, 0, (fun _ => ())⟩)
  refine GO.Nb (t := 8) (m := ([] : List (List Int)).length) (c' := 0) Z Z Z (aS Z (nL (sQ ?_)))
  obtain ⟨c5, H⟩ := iN H
  obtain ⟨c6, H⟩ := iN H
  refine rG (fL b1 0 Iu Z (lB 1 HS Z Ni Z (lS Z Z underlying56 Z (GO.mul Z Z Z Z (GO.make (T := L6) false () HS Bv Z Z Z underlying191 rQ Z Z Z c5 c6 Z fun b7 wd8 HS => aS Z (nL (rN 5 Z ?_)))))))
  refine G.name (fun v1 s1 => ?_)
  have t1 : ∀ h1, h1 ≤ K → ∀ (A70 : Option Addr) (c71 : Nat) (e1 : List (List Int)) (y73 : Nat → (Ty.slice 2 (Bq .i64)).Lay) (m1 : List Bool) (f1 : Int) (w : World), Cj.l1 K h1 a1 d1 e1 m1 f1 = some r1 → St w0 w (Box b1 58 [.slice A_a a1.length c_a, I d1] :: Own (Ty.slice 2 (Bq .i64)) 43 A70 c71 y73 e1 :: Own L6 4 (some ⟨b7, 0, none⟩) ((w64 (4 * (a1.length : Int))).toNat) (fun _ => ()) m1 :: L) → G prog 128 46 [(1, .pointer (some ⟨b1, 0, none⟩)), (3, .slice A70 e1.length c71), (4, .slice (some ⟨b7, 0, none⟩) m1.length ((w64 (4 * (a1.length : Int))).toNat)), (5, I f1)] v1 w (Cj.post w0 L r1) := by
   intro h1
   induction h1 using Nat.strongRecOn with
   | _ h1 p1 =>
    intro y1 A70 c71 e1 y73 m1 f1 w H HS
    cases h1 with
    | zero => rw [Cj.l1] at H; cases H
    | succ n1 =>
     rw [Cj.l1] at H
     subst s1
     refine rN 2 Z (rG (pS 2 Z (lS Z Z underlying191 Z (GO.lss Z Z Z Z (nL ?_)))))
     rcases iE H with ⟨c137, H⟩ | ⟨c137, H⟩
     ·
      refine yB Z (tT c137) (rN 5 Z ?_)
      obtain ⟨c138, H⟩ := iN H
      refine rG (pS 2 Z (GO.ix Z Z Z underlying191 sz4 (fun _ => ⟨_, _, Z⟩) c138.1 c138.2 Z (GO.Fq (T := L6) (n := f1.toNat) (o := 0) HS (Aq.own (j := 2) Z) Z Z (getD_some (d := false) (ltN c138)) Z Z na4 Z (nL ?_))))
      rcases iE H with ⟨c139, H⟩ | ⟨c139, H⟩
      ·
       refine yB Z c139 (rN 3 Z (G.weak ?_ (p1 n1 (Nat.lt_succ_of_le (lR _)) (Nat.le_of_succ_le y1) _ _ _ _ _ _ _ H HS)))
       exact ⟨Z, Z, Z, Z, tv⟩
      refine nB Z (Ca c139) (rN 2 Z (rG (GO.F3 (el := 2) ([]) HS Z Z (fun _ => by kernel_rfl) Z fun b140 wd141 HS => ?_)))
      replace HS := HS.J6 (T := (Bq .i64)) (j := 0) Z Bv (fun _ => ()) ([] : List Int) Z (O3 Z)
      refine GO.Nb (t := 24) (m := ([] : List Int).length) (c' := ([] : List Int).length) Z Z Z (aS Z (nL (rN 5 Z ?_)))
      refine G.name (fun x1 u1 => ?_)
      have z1 : ∀ g1, g1 ≤ n1 → ∀ (i1 : List Bool) (A154 : Option Addr) (c155 : Nat) (k1 : List Int) (c1 : Int) (w : World), Cj.l4 K g1 a1 d1 e1 f1 i1 k1 c1 = some r1 → St w0 w (Box b1 58 [.slice A_a a1.length c_a, I d1] :: Own (Ty.slice 2 (Bq .i64)) 43 A70 c71 y73 e1 :: Own L6 4 (some ⟨b7, 0, none⟩) ((w64 (4 * (a1.length : Int))).toNat) (fun _ => ()) i1 :: Own (Bq .i64) 2 A154 c155 (fun _ => ()) k1 :: L) → G prog 128 46 [(1, .pointer (some ⟨b1, 0, none⟩)), (3, .slice A70 e1.length c71), (4, .slice (some ⟨b7, 0, none⟩) i1.length ((w64 (4 * (a1.length : Int))).toNat)), (5, I f1), (6, .slice A154 k1.length c155), (7, I c1)] x1 w (Cj.post w0 L r1) := by
       intro g1
       induction g1 using Nat.strongRecOn with
       | _ g1 q1 =>
        intro a2 i1 A154 c155 k1 c1 w H HS
        cases g1 with
        | zero => rw [Cj.l4] at H; cases H
        | succ o1 =>
         rw [Cj.l4] at H
         subst u1
         refine rN 2 Z ?_
         obtain ⟨c178, H⟩ := iN H
         refine rG (pS 2 Z (GO.ix Z Z Z underlying191 sz4 (fun _ => ⟨_, _, Z⟩) c178.1 c178.2 Z (GO.Fq (T := L6) (n := c1.toNat) (o := 0) HS (Aq.own (j := 2) Z) Z Z (getD_some (d := false) (ltN c178)) Z Z na4 Z (GO.not Z Z Z (nL ?_)))))
         rcases iE H with ⟨c179, H⟩ | ⟨c179, H⟩
         ·
          refine nB Z (congrArg Bool.not c179) (G.exit Z ?_)
          obtain ⟨c185, H⟩ := iN H
          refine rG (pS 2 Z (GO.F3 (el := 43) ([.slice A154 k1.length c155]) HS Z Z (fun _ => by kernel_rfl) Z fun b180 wd181 HS => ?_))
          replace HS := HS.pk 5 [2, 0, 4, 1, 3] Z
          refine GO.aT (S := (Bq .i64)) (u := 2) HS Z Z Z underlying161 tH Z Z c185 Z fun A183 c184 y186 wd182 HS => aS Z (nL (rN 3 Z (G.weak ?_ (p1 o1 (by omega) (by omega) _ _ _ _ _ _ _ H (HS.pk 4 [2, 0, 3] Z)))))
          exact ⟨Z, Z, Z, Z, tv⟩
         refine yB Z (congrArg Bool.not (Ca c179)) (rN 4 Z (rG (pS 2 Z (GO.ix Z Z Z underlying191 sz4 (fun _ => ⟨_, _, Z⟩) c178.1 c178.2 Z (GO.M5 (T := L6) (j := 2) (n := c1.toNat) (o := 0) (vs := [.bool true]) true HS Z Bv Z Z Z Z (htN na4 Z) Z (getD_some (d := false) (ltN c178)) Z Z fun wd187 HS => nL (G.len (t := 4) (m := (i1.set c1.toNat true).length) Z (by simp only [List.length_set] <;> rfl) ?_))))))
         obtain ⟨c193, H⟩ := iN H
         refine rG (pS 2 Z (GO.F3 (el := 2) ([I c1]) HS Z Z (fun _ => by kernel_rfl) Z fun b188 wd189 HS => GO.app1 (T := (Bq .i64)) (j := 4) (jb := 0) c1 HS Z Z Bv Z Z Z underlying43 S9 Z Z Z c193 Z fun A191 c192 wd190 HS => aS Z (nL (G.bF ?_))))
         obtain ⟨t194, h195, H⟩ := bI H
         refine rG (GO.Bu (j := 1) ([.slice A_a a1.length c_a, I d1]) HS Z Z Z Z Np Z (mV Z (fN Z func164 nS.1 nS.2 Z Z (Ia.calls HS (rD 5 r_a) h195) (fun _ wd196 ⟨h197, HS⟩ => ⟨_, h197, (aS Z (nL (G.again (G.weak ?_ (q1 o1 (Nat.lt_succ_of_le (lR _)) (Nat.le_of_succ_le a2) _ _ _ _ _ _ H (HS.pk 5 [1, 2, 3, 4] Z))))))⟩))))
         exact ⟨Z, Z, Z, Z, Z, Z, tv⟩
      refine G.weak ?_ (z1 n1 (lR _) _ _ _ _ _ _ H (HS.pk 4 [1, 2, 3, 0] Z))
      exact ⟨Z, Z, Z, Z, Z, Z, tv⟩
     refine nB Z (tF c137) (rN 3 Z ?_)
     obtain rfl := sI H
     exact rT _ func128 Z Z ⟨_, _, _, Z, (HS.pk 3 [1] Z)⟩
  refine G.weak ?_ (t1 K (lR _) _ _ _ _ _ _ _ H (HS.pk 3 [2, 1, 0] Z))
  exact ⟨Z, Z, Z, Z, tv⟩
end Go.Proofs.YtkmeepgpmppibaaGreatDoor
