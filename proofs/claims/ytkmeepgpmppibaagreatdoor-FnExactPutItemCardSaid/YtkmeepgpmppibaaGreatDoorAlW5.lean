/-
  The walks through the functions: a call comes to what its list function says.
-/
import Derived.Test.YtkmeepgpmppibaaGreatDoorAlF
import Derived.Test.YtkmeepgpmppibaaGreatDoorAlW1
import Derived.Test.YtkmeepgpmppibaaGreatDoorAlW2
import Derived.Test.YtkmeepgpmppibaaGreatDoorAlW4
set_option linter.unusedVariables false
set_option linter.unusedSimpArgs false
namespace Go.Proofs.YtkmeepgpmppibaaGreatDoor
open Go.RowKit
open Tryz
variable {w0 w : World} {L : List Cu} {K : Nat}
set_option maxRecDepth 20000
set_option maxHeartbeats 40000000
theorem Gq.calls {g1 : List Am} {f1 d1 : List (List Am)} {a1 : List Am} {c1 e1 : List (List Am)} {A_a : Option Addr} {c_a : Nat} {y_a : Nat → Aa.Lay} {A_b : Option Addr} {c_b : Nat} {y_b : Nat → (Ty.slice 64 Aa).Lay} {A_c : Option Addr} {c_c : Nat} {y_c : Nat → (Ty.slice 64 Aa).Lay} {A_d : Option Addr} {c_d : Nat} {y_d : Nat → Aa.Lay} {A_e : Option Addr} {c_e : Nat} {y_e : Nat → (Ty.slice 64 Aa).Lay} {A_f : Option Addr} {c_f : Nat} {y_f : Nat → (Ty.slice 64 Aa).Lay} {r1 : Bool} (HS : St w0 w (L)) (r_a : Aq w0 L Aa A_a c_a y_a g1) (r_b : Aq w0 L (Ty.slice 64 Aa) A_b c_b y_b f1) (r_c : Aq w0 L (Ty.slice 64 Aa) A_c c_c y_c d1) (r_d : Aq w0 L Aa A_d c_d y_d a1) (r_e : Aq w0 L (Ty.slice 64 Aa) A_e c_e y_e c1) (r_f : Aq w0 L (Ty.slice 64 Aa) A_f c_f y_f e1) (H : Gq.f K g1 f1 d1 a1 c1 e1 = some r1) :
    Calls prog 9 #[.agg [.slice A_a g1.length c_a, .slice A_b f1.length c_b, .slice A_c d1.length c_c].toArray, .agg [.slice A_d a1.length c_d, .slice A_e c1.length c_e, .slice A_f e1.length c_f].toArray] w (Gq.post w0 L r1) := by
  unfold Gq.f at H
  refine cG func9 Z ?_
  refine sQ (rG (GO.box (cs := [.slice A_a g1.length c_a, .slice A_b f1.length c_b, .slice A_c d1.length c_c]) HS Z Z Z Z fun b1 wd2 HS => GO.box (cs := [.slice A_d a1.length c_d, .slice A_e c1.length c_e, .slice A_f e1.length c_f]) HS Z Z Z Z fun b3 wd4 HS => aS Z (nL (rN 2 Z ?_))))
  obtain ⟨t5, h6, H⟩ := bI H
  refine rG (fL b1 0 K5 Z (lB 1 HS Z Nq Z (fL b3 0 K5 Z (lB 0 HS Z Nq Z (fN Z func32 fD.1 fD.2 Z Z (Fw.calls HS (rD 2 r_a) (rD 2 r_d) h6) (fun _ wd7 ⟨h8, HS⟩ => ⟨_, h8, (GO.not Z Z Z (nL ?_))⟩))))))
  rcases iE H with ⟨c9, H⟩ | ⟨c9, H⟩
  ·
   refine nB Z (congrArg Bool.not c9) (rN 3 Z ?_)
   obtain ⟨t10, h11, H⟩ := bI H
   refine rG (fL b1 1 Po Z (lB 1 HS Z Qa Z (fL b3 1 Po Z (lB 0 HS Z Qa Z (fN Z func33 dU.1 dU.2 Z Z (E8.calls HS (rD 2 r_b) (rD 2 r_e) h11) (fun _ wd12 ⟨h13, HS⟩ => ⟨_, h13, (GO.not Z Z Z (nL ?_))⟩))))))
   rcases iE H with ⟨c14, H⟩ | ⟨c14, H⟩
   ·
    refine nB Z (congrArg Bool.not c14) (rN 3 Z ?_)
    obtain ⟨t15, h16, H⟩ := bI H
    refine rG (fL b1 2 Rc Z (lB 1 HS Z Qa Z (fL b3 2 Rc Z (lB 0 HS Z Qa Z (fN Z func33 dU.1 dU.2 Z Z (E8.calls HS (rD 2 r_c) (rD 2 r_f) h16) (fun _ wd17 ⟨h18, HS⟩ => ⟨_, h18, (GO.not Z Z Z (nL ?_))⟩))))))
    rcases iE H with ⟨c19, H⟩ | ⟨c19, H⟩
    ·
     refine nB Z (congrArg Bool.not c19) (rN 3 Z ?_)
     obtain rfl := sI H
     exact rT _ func9 Z Z ⟨Z, (HS.pk 2 [] Z)⟩
    refine yB Z (congrArg Bool.not (Ca c19)) (rN 2 Z ?_)
    obtain rfl := sI H
    exact rT _ func9 Z Z ⟨Z, (HS.pk 2 [] Z)⟩
   refine yB Z (congrArg Bool.not (Ca c14)) (rN 2 Z ?_)
   obtain rfl := sI H
   exact rT _ func9 Z Z ⟨Z, (HS.pk 2 [] Z)⟩
  refine yB Z (congrArg Bool.not (Ca c9)) (rN 2 Z ?_)
  obtain rfl := sI H
  exact rT _ func9 Z Z ⟨Z, (HS.pk 2 [] Z)⟩
theorem Eg.calls {k_ : Int} {r1 : ByteArray} (HS : St w0 w (L)) (H : Eg.f K k_ = some r1) :
    Calls prog 70 #[I k_] w (Eg.post w0 L r1) := by
  unfold Eg.f at H
  refine cG func70 Z ?_
  refine rN 5 Z ?_
  rcases iE H with ⟨c1, H⟩ | ⟨c1, H⟩
  ·
   refine yB Z (tT c1) (rN 2 Z ?_)
   obtain rfl := sI H
   exact rT _ func70 Z Z ⟨Z, HS⟩
  refine nB Z (tF c1) (rN 6 Z ?_)
  refine G.name (fun d1 g1 => ?_)
  have h1 : ∀ a1, a1 ≤ K → ∀ (k_7 : Int) (b1 : ByteArray) (w : World), Eg.l1 K a1 k_7 b1 = some r1 → St w0 w (L) → G prog 70 20 [(0, I k_7), (3, .string b1)] d1 w (Eg.post w0 L r1) := by
   intro a1
   induction a1 using Nat.strongRecOn with
   | _ a1 f1 =>
    intro i1 k_7 b1 w H HS
    cases a1 with
    | zero => rw [Eg.l1] at H; cases H
    | succ e1 =>
     rw [Eg.l1] at H
     subst g1
     refine rN 3 Z ?_
     rcases iE H with ⟨c14, H⟩ | ⟨c14, H⟩
     ·
      refine yB Z (tT c14) (rN 3 Z ?_)
      obtain ⟨c17, H⟩ := iN H
      refine rG (mV Z (GO.rem Z Z Z (by decide) Z (GO.add Z Z Z Z (GO.conv Z Z underlying3 underlying5 Z (GO.F3 (el := 5) ([.int .u8 (IntKind.wrap .u8 (w64 (48 + (k_7.tmod 10))))]) HS Z Z (fun _ => by kernel_rfl) Z fun b15 wd16 HS => ?_)))))
      replace HS := HS.J6 (T := (Bq .u8)) (j := 0) Z Bv (fun _ => ()) ([IntKind.wrap .u8 (w64 (48 + (k_7.tmod 10)))] : List Int) Z (O3 Z)
      refine GO.Nb (t := 12) (m := ([IntKind.wrap .u8 (w64 (48 + (k_7.tmod 10)))] : List Int).length) (c' := ([IntKind.wrap .u8 (w64 (48 + (k_7.tmod 10)))] : List Int).length) Z Z Z (GO.aZ HS (Aq.own (j := 0) Z) Z Z underlying148 underlying5 underlying9 Z (mV Z (GO.Xm Z Z Z c17 Z (aS Z (nL (rG (mV Z (GO.quo Z Z Z (by decide) Z (aS Z (nL (rN 2 Z (G.weak ?_ (f1 e1 (Nat.lt_succ_of_le (lR _)) (Nat.le_of_succ_le i1) _ _ _ H (HS.pk 1 [] Z))))))))))))))
      exact ⟨Z, Z, tv⟩
     refine nB Z (tF c14) (rN 2 Z ?_)
     obtain ⟨c18, H⟩ := iN H
     refine rG (mV Z (GO.Xm Z Z Z c18 Z (aS Z (nL ?_))))
     obtain rfl := sI H
     exact rT _ func70 Z Z ⟨Z, HS⟩
  refine G.weak ?_ (h1 K (lR _) _ _ _ H HS)
  exact ⟨Z, Z, tv⟩
theorem El.calls {a_ : List Bt} {k_ : Int} {A_a : Option Addr} {c_a : Nat} {r1 : Int} {r2 : List Bt} (HS : St w0 w (Own Bc 157 A_a c_a (fun _ => ()) a_ :: L)) (H : El.f K a_ k_ = some (r1, r2)) :
    Calls prog 115 #[.slice A_a a_.length c_a, I k_] w (El.post w0 L A_a c_a r1 r2) := by
  unfold El.f at H
  refine cG func115 Z ?_
  refine rN 7 Z ?_
  refine G.name (fun d1 g1 => ?_)
  have h1 : ∀ c1, c1 ≤ K → ∀ (x10 : List Bt) (b1 a1 : Int) (w : World), El.l1 K c1 x10 b1 a1 = some (r1, r2) → St w0 w (Own Bc 157 A_a c_a (fun _ => ()) x10 :: L) → G prog 115 27 [(0, .slice A_a x10.length c_a), (1, I b1), (5, I a1)] d1 w (El.post w0 L A_a c_a r1 r2) := by
   intro c1
   induction c1 using Nat.strongRecOn with
   | _ c1 f1 =>
    intro i1 x10 b1 a1 w H HS
    cases c1 with
    | zero => rw [El.l1] at H; cases H
    | succ e1 =>
     rw [El.l1] at H
     subst g1
     refine rN 2 Z (rG (pS 2 Z (lS Z Z underlying150 Z (GO.lss Z Z Z Z (nL ?_)))))
     rcases iE H with ⟨c22, H⟩ | ⟨c22, H⟩
     ·
      refine yB Z (tT c22) (rN 4 Z ?_)
      obtain ⟨c23, H⟩ := iN H
      obtain ⟨e25, h26, H⟩ := Cn H
      refine rG (pS 3 Z (GO.ix Z Z Z underlying150 Pm ((Aq.own (j := 0) Z) _ HS).2.2.1 c23.1 c23.2 Z (GO.fld (ea A_a (a1.toNat * 2)) Z Z J2 Z Z (GO.M5 (T := Bc) (j := 0) (n := a1.toNat) (o := 0) (vs := [I b1]) ({ e25 with Tet := b1 }) HS Z Bv Z Z Z Z (htN na2 Z) Z (getD_eq (ltN c23) h26) Z Z fun wd24 HS => nL (G.len (t := 0) (m := (x10.set a1.toNat ({ e25 with Tet := b1 })).length) Z (by simp only [List.length_set] <;> rfl) (rN 3 Z ?_))))))
      obtain ⟨c27, H⟩ := iN H
      obtain ⟨e29, h30, H⟩ := Cn H
      refine rG (pS 3 Z (GO.ix Z Z Z underlying150 Pm ((Aq.own (j := 0) Z) _ HS).2.2.1 c27.1 c27.2 Z (GO.fld (ea A_a (a1.toNat * 2 + 1)) Z Z Ng (F8 _ _ _) Z (GO.M5 (T := Bc) (j := 0) (n := a1.toNat) (o := 1) (vs := [I (w64 (b1 + 1))]) ({ e29 with Perm := w64 (b1 + 1) }) HS Z Bv Z Z Z Z (htN na2 Z) Z (getD_eq (ltN c27) h30) Z Z fun wd28 HS => nL (G.len (t := 0) (m := ((x10.set a1.toNat ({ e25 with Tet := b1 })).set a1.toNat ({ e29 with Perm := w64 (b1 + 1) })).length) Z (by simp only [List.length_set] <;> rfl) (rN 4 Z (G.weak ?_ (f1 e1 (Nat.lt_succ_of_le (lR _)) (Nat.le_of_succ_le i1) _ _ _ _ H HS))))))))
      exact ⟨Z, Z, Z, tv⟩
     refine nB Z (tF c22) (rN 3 Z ?_)
     obtain ⟨rfl, rfl⟩ := Mf H
     exact rT _ func115 Z Z ⟨Z, HS⟩
  refine G.weak ?_ (h1 K (lR _) _ _ _ _ H HS)
  exact ⟨Z, Z, Z, tv⟩
theorem Es.calls {a_ : List (List Bt)} {k_ : Int} {A_a : Option Addr} {c_a : Nat} {y_a : Nat → (Ty.slice 157 Bc).Lay} {r1 : Int} {r2 : List (List Bt)} (HS : St w0 w (Own (Ty.slice 157 Bc) 150 A_a c_a y_a a_ :: L)) (H : Es.f K a_ k_ = some (r1, r2)) :
    Calls prog 71 #[.slice A_a a_.length c_a, I k_] w (Es.post w0 L A_a c_a y_a r1 r2) := by
  unfold Es.f at H
  refine cG func71 Z ?_
  refine rN 7 Z ?_
  refine G.name (fun d1 g1 => ?_)
  have i1 : ∀ b1, b1 ≤ K → ∀ (x9 : List (List Bt)) (c1 a1 : Int) (w : World), Es.l1 K b1 x9 c1 a1 = some (r1, r2) → St w0 w (Own (Ty.slice 157 Bc) 150 A_a c_a y_a x9 :: L) → G prog 71 19 [(0, .slice A_a x9.length c_a), (1, I c1), (5, I a1)] d1 w (Es.post w0 L A_a c_a y_a r1 r2) := by
   intro b1
   induction b1 using Nat.strongRecOn with
   | _ b1 f1 =>
    intro h1 x9 c1 a1 w H HS
    cases b1 with
    | zero => rw [Es.l1] at H; cases H
    | succ e1 =>
     rw [Es.l1] at H
     subst g1
     refine rN 2 Z (rG (pS 2 Z (lS Z Z underlying53 Z (GO.lss Z Z Z Z (nL ?_)))))
     rcases iE H with ⟨c20, H⟩ | ⟨c20, H⟩
     ·
      refine yB Z (tT c20) (rN 3 Z ?_)
      obtain ⟨c21, H⟩ := iN H
      obtain ⟨t22, t23, h24, H⟩ := Dk H
      obtain ⟨c25, H⟩ := iN H
      refine rG (pS 2 Z (GO.ix Z Z Z underlying53 Ou ((Aq.own (j := 0) Z) _ HS).2.2.1 c21.1 c21.2 Z (GO.Fq (T := (Ty.slice 157 Bc)) (n := a1.toNat) (o := 0) HS (Aq.own (j := 0) Z) Z Z (getD_some (d := []) (ltN c21)) Z Z Ox Z (mV Z ?_))))
      replace HS := HS.Rh Fld.id (getD_some (d := []) (ltN c21))
      refine fN Z func115 nH.1 nH.2 Z Z (El.calls HS  h24) (fun _ wd26 ⟨h27, HS⟩ => ⟨_, h27, ?_⟩)
      replace HS := St.Oq (y := t23) Fld.id (getD_some (d := []) (ltN c21)) (congrArg (fun m => ([.slice ((y_a a1.toNat).A) m ((y_a a1.toNat).c)] : List Value)) c25) HS
      refine aS Z (nL (G.len (t := 0) (m := (x9.set a1.toNat t23).length) Z (by simp only [List.length_set, List.length_set] <;> rfl) (rN 3 Z (G.weak ?_ (f1 e1 (Nat.lt_succ_of_le (lR _)) (Nat.le_of_succ_le h1) _ _ _ _ H HS)))))
      exact ⟨Z, Z, Z, tv⟩
     refine nB Z (tF c20) (rN 3 Z ?_)
     obtain ⟨rfl, rfl⟩ := Mf H
     exact rT _ func71 Z Z ⟨Z, HS⟩
  refine G.weak ?_ (i1 K (lR _) _ _ _ _ H HS)
  exact ⟨Z, Z, Z, tv⟩
theorem Da.calls {a_ : List Al} {k_ : Int} {A_a : Option Addr} {c_a : Nat} {r1 : Int} {r2 : List Al} (HS : St w0 w (Own Bb 152 A_a c_a (fun _ => ()) a_ :: L)) (H : Da.f K a_ k_ = some (r1, r2)) :
    Calls prog 72 #[.slice A_a a_.length c_a, I k_] w (Da.post w0 L A_a c_a r1 r2) := by
  unfold Da.f at H
  refine cG func72 Z ?_
  refine rN 7 Z ?_
  refine G.name (fun d1 g1 => ?_)
  have h1 : ∀ c1, c1 ≤ K → ∀ (x22 : List Al) (b1 a1 : Int) (w : World), Da.l1 K c1 x22 b1 a1 = some (r1, r2) → St w0 w (Own Bb 152 A_a c_a (fun _ => ()) x22 :: L) → G prog 72 48 [(0, .slice A_a x22.length c_a), (1, I b1), (5, I a1)] d1 w (Da.post w0 L A_a c_a r1 r2) := by
   intro c1
   induction c1 using Nat.strongRecOn with
   | _ c1 f1 =>
    intro i1 x22 b1 a1 w H HS
    cases c1 with
    | zero => rw [Da.l1] at H; cases H
    | succ e1 =>
     rw [Da.l1] at H
     subst g1
     refine rN 2 Z (rG (pS 2 Z (lS Z Z underlying56 Z (GO.lss Z Z Z Z (nL ?_)))))
     rcases iE H with ⟨c46, H⟩ | ⟨c46, H⟩
     ·
      refine yB Z (tT c46) (rN 4 Z ?_)
      obtain ⟨c47, H⟩ := iN H
      obtain ⟨e49, h50, H⟩ := Cn H
      refine rG (pS 3 Z (GO.ix Z Z Z underlying56 Nu ((Aq.own (j := 0) Z) _ HS).2.2.1 c47.1 c47.2 Z (GO.fld (ea A_a (a1.toNat * 5)) Z Z Qf Z Z (GO.M5 (T := Bb) (j := 0) (n := a1.toNat) (o := 0) (vs := [I b1]) ({ e49 with A := b1 }) HS Z Bv Z Z Z Z (htN na2 Z) Z (getD_eq (ltN c47) h50) Z Z fun wd48 HS => nL (G.len (t := 0) (m := (x22.set a1.toNat ({ e49 with A := b1 })).length) Z (by simp only [List.length_set] <;> rfl) (rN 3 Z ?_))))))
      obtain ⟨c51, H⟩ := iN H
      obtain ⟨e53, h54, H⟩ := Cn H
      refine rG (pS 3 Z (GO.ix Z Z Z underlying56 Nu ((Aq.own (j := 0) Z) _ HS).2.2.1 c51.1 c51.2 Z (GO.fld (ea A_a (a1.toNat * 5 + 1)) Z Z Qj (F8 _ _ _) Z (GO.M5 (T := Bb) (j := 0) (n := a1.toNat) (o := 1) (vs := [I (w64 (b1 + 1))]) ({ e53 with B := w64 (b1 + 1) }) HS Z Bv Z Z Z Z (htN na2 Z) Z (getD_eq (ltN c51) h54) Z Z fun wd52 HS => nL (G.len (t := 0) (m := ((x22.set a1.toNat ({ e49 with A := b1 })).set a1.toNat ({ e53 with B := w64 (b1 + 1) })).length) Z (by simp only [List.length_set] <;> rfl) (rN 3 Z ?_))))))
      obtain ⟨c55, H⟩ := iN H
      obtain ⟨e57, h58, H⟩ := Cn H
      refine rG (pS 3 Z (GO.ix Z Z Z underlying56 Nu ((Aq.own (j := 0) Z) _ HS).2.2.1 c55.1 c55.2 Z (GO.fld (ea A_a (a1.toNat * 5 + 2)) Z Z Qg (F8 _ _ _) Z (GO.M5 (T := Bb) (j := 0) (n := a1.toNat) (o := 2) (vs := [I (w64 ((w64 (b1 + 1)) + 1))]) ({ e57 with C := w64 ((w64 (b1 + 1)) + 1) }) HS Z Bv Z Z Z Z (htN na2 Z) Z (getD_eq (ltN c55) h58) Z Z fun wd56 HS => nL (G.len (t := 0) (m := (((x22.set a1.toNat ({ e49 with A := b1 })).set a1.toNat ({ e53 with B := w64 (b1 + 1) })).set a1.toNat ({ e57 with C := w64 ((w64 (b1 + 1)) + 1) })).length) Z (by simp only [List.length_set] <;> rfl) (rN 3 Z ?_))))))
      obtain ⟨c59, H⟩ := iN H
      obtain ⟨e61, h62, H⟩ := Cn H
      refine rG (pS 3 Z (GO.ix Z Z Z underlying56 Nu ((Aq.own (j := 0) Z) _ HS).2.2.1 c59.1 c59.2 Z (GO.fld (ea A_a (a1.toNat * 5 + 3)) Z Z Qd (F8 _ _ _) Z (GO.M5 (T := Bb) (j := 0) (n := a1.toNat) (o := 3) (vs := [I (w64 ((w64 ((w64 (b1 + 1)) + 1)) + 1))]) ({ e61 with D := w64 ((w64 ((w64 (b1 + 1)) + 1)) + 1) }) HS Z Bv Z Z Z Z (htN na2 Z) Z (getD_eq (ltN c59) h62) Z Z fun wd60 HS => nL (G.len (t := 0) (m := ((((x22.set a1.toNat ({ e49 with A := b1 })).set a1.toNat ({ e53 with B := w64 (b1 + 1) })).set a1.toNat ({ e57 with C := w64 ((w64 (b1 + 1)) + 1) })).set a1.toNat ({ e61 with D := w64 ((w64 ((w64 (b1 + 1)) + 1)) + 1) })).length) Z (by simp only [List.length_set] <;> rfl) (rN 3 Z ?_))))))
      obtain ⟨c63, H⟩ := iN H
      obtain ⟨e65, h66, H⟩ := Cn H
      refine rG (pS 3 Z (GO.ix Z Z Z underlying56 Nu ((Aq.own (j := 0) Z) _ HS).2.2.1 c63.1 c63.2 Z (GO.fld (ea A_a (a1.toNat * 5 + 4)) Z Z Lg (F8 _ _ _) Z (GO.M5 (T := Bb) (j := 0) (n := a1.toNat) (o := 4) (vs := [I (w64 ((w64 ((w64 ((w64 (b1 + 1)) + 1)) + 1)) + 1))]) ({ e65 with Sign := w64 ((w64 ((w64 ((w64 (b1 + 1)) + 1)) + 1)) + 1) }) HS Z Bv Z Z Z Z (htN na2 Z) Z (getD_eq (ltN c63) h66) Z Z fun wd64 HS => nL (G.len (t := 0) (m := (((((x22.set a1.toNat ({ e49 with A := b1 })).set a1.toNat ({ e53 with B := w64 (b1 + 1) })).set a1.toNat ({ e57 with C := w64 ((w64 (b1 + 1)) + 1) })).set a1.toNat ({ e61 with D := w64 ((w64 ((w64 (b1 + 1)) + 1)) + 1) })).set a1.toNat ({ e65 with Sign := w64 ((w64 ((w64 ((w64 (b1 + 1)) + 1)) + 1)) + 1) })).length) Z (by simp only [List.length_set] <;> rfl) (rN 4 Z (G.weak ?_ (f1 e1 (Nat.lt_succ_of_le (lR _)) (Nat.le_of_succ_le i1) _ _ _ _ H HS))))))))
      exact ⟨Z, Z, Z, tv⟩
     refine nB Z (tF c46) (rN 3 Z ?_)
     obtain ⟨rfl, rfl⟩ := Mf H
     exact rT _ func72 Z Z ⟨Z, HS⟩
  refine G.weak ?_ (h1 K (lR _) _ _ _ _ H HS)
  exact ⟨Z, Z, Z, tv⟩
theorem Cs.calls {a_ : List Int} {k_ : Int} {A_a : Option Addr} {c_a : Nat} {r1 : Int} {r2 : List Int} (HS : St w0 w (Own (Bq .i64) 2 A_a c_a (fun _ => ()) a_ :: L)) (H : Cs.f K a_ k_ = some (r1, r2)) :
    Calls prog 73 #[.slice A_a a_.length c_a, I k_] w (Cs.post w0 L A_a c_a r1 r2) := by
  unfold Cs.f at H
  refine cG func73 Z ?_
  refine rN 7 Z ?_
  refine G.name (fun b1 e1 => ?_)
  have f1 : ∀ a1, a1 ≤ K → ∀ (x4 : List Int) (k_5 i_6 : Int) (w : World), Cs.l1 K a1 x4 k_5 i_6 = some (r1, r2) → St w0 w (Own (Bq .i64) 2 A_a c_a (fun _ => ()) x4 :: L) → G prog 73 19 [(0, .slice A_a x4.length c_a), (1, I k_5), (5, I i_6)] b1 w (Cs.post w0 L A_a c_a r1 r2) := by
   intro a1
   induction a1 using Nat.strongRecOn with
   | _ a1 d1 =>
    intro g1 x4 k_5 i_6 w H HS
    cases a1 with
    | zero => rw [Cs.l1] at H; cases H
    | succ c1 =>
     rw [Cs.l1] at H
     subst e1
     refine rN 2 Z (rG (pS 2 Z (lS Z Z underlying43 Z (GO.lss Z Z Z Z (nL ?_)))))
     rcases iE H with ⟨c10, H⟩ | ⟨c10, H⟩
     ·
      refine yB Z (tT c10) (rN 4 Z ?_)
      obtain ⟨c11, H⟩ := iN H
      refine rG (pS 3 Z (GO.ix Z Z Z underlying43 sz2 ((Aq.own (j := 0) Z) _ HS).2.2.1 c11.1 c11.2 Z (GO.M5 (T := (Bq .i64)) (j := 0) (n := i_6.toNat) (o := 0) (vs := [I k_5]) k_5 HS Z Bv Z Z Z Z (htN na2 Z) Z (getD_some (d := 0) (ltN c11)) Z Z fun wd12 HS => nL (G.len (t := 0) (m := (x4.set i_6.toNat k_5).length) Z (by simp only [List.length_set] <;> rfl) (rN 4 Z (G.weak ?_ (d1 c1 (Nat.lt_succ_of_le (lR _)) (Nat.le_of_succ_le g1) _ _ _ _ H HS)))))))
      exact ⟨Z, Z, Z, tv⟩
     refine nB Z (tF c10) (rN 3 Z ?_)
     obtain ⟨rfl, rfl⟩ := Mf H
     exact rT _ func73 Z Z ⟨Z, HS⟩
  refine G.weak ?_ (f1 K (lR _) _ _ _ _ H HS)
  exact ⟨Z, Z, Z, tv⟩
theorem Eb.calls {a_ : List Ci} {k_ : Int} {A_a : Option Addr} {c_a : Nat} {r1 : Int} {r2 : List Ci} (HS : St w0 w (Own Cq 140 A_a c_a (fun _ => ()) a_ :: L)) (H : Eb.f K a_ k_ = some (r1, r2)) :
    Calls prog 74 #[.slice A_a a_.length c_a, I k_] w (Eb.post w0 L A_a c_a r1 r2) := by
  unfold Eb.f at H
  refine cG func74 Z ?_
  refine rN 7 Z ?_
  refine G.name (fun e1 h1 => ?_)
  have d1 : ∀ c1, c1 ≤ K → ∀ (x14 : List Ci) (b1 a1 : Int) (w : World), Eb.l1 K c1 x14 b1 a1 = some (r1, r2) → St w0 w (Own Cq 140 A_a c_a (fun _ => ()) x14 :: L) → G prog 74 34 [(0, .slice A_a x14.length c_a), (1, I b1), (5, I a1)] e1 w (Eb.post w0 L A_a c_a r1 r2) := by
   intro c1
   induction c1 using Nat.strongRecOn with
   | _ c1 g1 =>
    intro i1 x14 b1 a1 w H HS
    cases c1 with
    | zero => rw [Eb.l1] at H; cases H
    | succ f1 =>
     rw [Eb.l1] at H
     subst h1
     refine rN 2 Z (rG (pS 2 Z (lS Z Z underlying60 Z (GO.lss Z Z Z Z (nL ?_)))))
     rcases iE H with ⟨c30, H⟩ | ⟨c30, H⟩
     ·
      refine yB Z (tT c30) (rN 4 Z ?_)
      obtain ⟨c31, H⟩ := iN H
      obtain ⟨e33, h34, H⟩ := Cn H
      refine rG (pS 3 Z (GO.ix Z Z Z underlying60 Q0 ((Aq.own (j := 0) Z) _ HS).2.2.1 c31.1 c31.2 Z (GO.fld (ea A_a (a1.toNat * 3)) Z Z Nj Z Z (GO.M5 (T := Cq) (j := 0) (n := a1.toNat) (o := 0) (vs := [I b1]) ({ e33 with Kind := b1 }) HS Z Bv Z Z Z Z (htN na2 Z) Z (getD_eq (ltN c31) h34) Z Z fun wd32 HS => nL (G.len (t := 0) (m := (x14.set a1.toNat ({ e33 with Kind := b1 })).length) Z (by simp only [List.length_set] <;> rfl) (rN 3 Z ?_))))))
      obtain ⟨c35, H⟩ := iN H
      obtain ⟨e37, h38, H⟩ := Cn H
      refine rG (pS 3 Z (GO.ix Z Z Z underlying60 Q0 ((Aq.own (j := 0) Z) _ HS).2.2.1 c35.1 c35.2 Z (GO.fld (ea A_a (a1.toNat * 3 + 1)) Z Z Nz (F8 _ _ _) Z (GO.M5 (T := Cq) (j := 0) (n := a1.toNat) (o := 1) (vs := [I (w64 (b1 + 1))]) ({ e37 with Tet := w64 (b1 + 1) }) HS Z Bv Z Z Z Z (htN na2 Z) Z (getD_eq (ltN c35) h38) Z Z fun wd36 HS => nL (G.len (t := 0) (m := ((x14.set a1.toNat ({ e33 with Kind := b1 })).set a1.toNat ({ e37 with Tet := w64 (b1 + 1) })).length) Z (by simp only [List.length_set] <;> rfl) (rN 3 Z ?_))))))
      obtain ⟨c39, H⟩ := iN H
      obtain ⟨e41, h42, H⟩ := Cn H
      refine rG (pS 3 Z (GO.ix Z Z Z underlying60 Q0 ((Aq.own (j := 0) Z) _ HS).2.2.1 c39.1 c39.2 Z (GO.fld (ea A_a (a1.toNat * 3 + 2)) Z Z O7 (F8 _ _ _) Z (GO.M5 (T := Cq) (j := 0) (n := a1.toNat) (o := 2) (vs := [I (w64 ((w64 (b1 + 1)) + 1))]) ({ e41 with Index := w64 ((w64 (b1 + 1)) + 1) }) HS Z Bv Z Z Z Z (htN na2 Z) Z (getD_eq (ltN c39) h42) Z Z fun wd40 HS => nL (G.len (t := 0) (m := (((x14.set a1.toNat ({ e33 with Kind := b1 })).set a1.toNat ({ e37 with Tet := w64 (b1 + 1) })).set a1.toNat ({ e41 with Index := w64 ((w64 (b1 + 1)) + 1) })).length) Z (by simp only [List.length_set] <;> rfl) (rN 4 Z (G.weak ?_ (g1 f1 (Nat.lt_succ_of_le (lR _)) (Nat.le_of_succ_le i1) _ _ _ _ H HS))))))))
      exact ⟨Z, Z, Z, tv⟩
     refine nB Z (tF c30) (rN 3 Z ?_)
     obtain ⟨rfl, rfl⟩ := Mf H
     exact rT _ func74 Z Z ⟨Z, HS⟩
  refine G.weak ?_ (d1 K (lR _) _ _ _ _ H HS)
  exact ⟨Z, Z, Z, tv⟩
theorem Dl.calls {a_ : List Am} {k_ : Int} {A_a : Option Addr} {c_a : Nat} {y_a : Nat → Aa.Lay} {r1 : Int} {r2 : List Am} (HS : St w0 w (Own Aa 64 A_a c_a y_a a_ :: L)) (H : Dl.f K a_ k_ = some (r1, r2)) :
    Calls prog 34 #[.slice A_a a_.length c_a, I k_] w (Dl.post w0 L A_a c_a y_a r1 r2) := by
  unfold Dl.f at H
  refine cG func34 Z ?_
  refine rN 7 Z ?_
  refine G.name (fun d1 g1 => ?_)
  have h1 : ∀ c1, c1 ≤ K → ∀ (x84 : List Am) (b1 a1 : Int) (w : World), Dl.l1 K c1 x84 b1 a1 = some (r1, r2) → St w0 w (Own Aa 64 A_a c_a y_a x84 :: L) → G prog 34 108 [(0, .slice A_a x84.length c_a), (1, I b1), (5, I a1)] d1 w (Dl.post w0 L A_a c_a y_a r1 r2) := by
   intro c1
   induction c1 using Nat.strongRecOn with
   | _ c1 f1 =>
    intro i1 x84 b1 a1 w H HS
    cases c1 with
    | zero => rw [Dl.l1] at H; cases H
    | succ e1 =>
     rw [Dl.l1] at H
     subst g1
     refine rN 2 Z (rG (pS 2 Z (lS Z Z underlying27 Z (GO.lss Z Z Z Z (nL ?_)))))
     rcases iE H with ⟨c170, H⟩ | ⟨c170, H⟩
     ·
      refine yB Z (tT c170) (rN 4 Z ?_)
      obtain ⟨t171, h172, H⟩ := bI H
      obtain ⟨c175, H⟩ := iN H
      obtain ⟨e177, h178, H⟩ := Cn H
      refine rG (pS 3 Z (fN Z func70 fP.1 fP.2 Z Z (Eg.calls HS  h172) (fun _ wd173 ⟨h174, HS⟩ => ⟨_, h174, (GO.ix Z Z Z underlying27 Jt ((Aq.own (j := 0) Z) _ HS).2.2.1 c175.1 c175.2 Z (GO.fld (ea A_a (a1.toNat * 12)) Z Z K7 Z Z (GO.stK (T := Aa) (j := 0) (n := a1.toNat) (o := 0) (x0 := e177) (vs := [.string t171]) ({ e177 with Name := t171 }) HS Z (fun _ _ h => h) Z Z Z Z (htN na9 Z) Z (getD_eq (ltN c175) h178) Z Z fun wd176 HS => nL (G.len (t := 0) (m := (x84.set a1.toNat ({ e177 with Name := t171 })).length) Z (by simp only [List.length_set] <;> rfl) (rN 3 Z ?_)))))⟩)))
      obtain ⟨c179, H⟩ := iN H
      obtain ⟨e181, h182, H⟩ := Cn H
      refine rG (pS 3 Z (GO.ix Z Z Z underlying27 Jt ((Aq.own (j := 0) Z) _ HS).2.2.1 c179.1 c179.2 Z (GO.fld (ea A_a (a1.toNat * 12 + 1)) Z Z Mk (F8 _ _ _) Z (GO.stK (T := Aa) (j := 0) (n := a1.toNat) (o := 1) (x0 := e181) (vs := [I (w64 (b1 + 1))]) ({ e181 with Kind := w64 (b1 + 1) }) HS Z (fun _ _ h => h) Z Z Z Z (htN na2 Z) Z (getD_eq (ltN c179) h182) Z Z fun wd180 HS => nL (G.len (t := 0) (m := ((x84.set a1.toNat ({ e177 with Name := t171 })).set a1.toNat ({ e181 with Kind := w64 (b1 + 1) })).length) Z (by simp only [List.length_set] <;> rfl) (rN 3 Z ?_))))))
      obtain ⟨c183, H⟩ := iN H
      obtain ⟨e184, h185, H⟩ := Cn H
      obtain ⟨t186, t187, h188, H⟩ := Dk H
      obtain ⟨c189, H⟩ := iN H
      refine rG (pS 2 Z (GO.ix Z Z Z underlying27 Jt ((Aq.own (j := 0) Z) _ HS).2.2.1 c183.1 c183.2 Z (GO.fld (ea A_a (a1.toNat * 12 + 2)) Z Z Nk (F8 _ _ _) Z (GO.fld (ea A_a (a1.toNat * 12 + 2)) Z Z I8 Z Z (GO.Fq (T := Aa) (n := a1.toNat) (o := 2) HS (Aq.own (j := 0) Z) Z Z (getD_eq (ltN c183) h185) Z Z Nt Z (mV Z ?_))))))
      replace HS := HS.Rh L9 (getD_eq (ltN c183) h185)
      refine fN Z func71 gL.1 gL.2 Z Z (Es.calls HS  h188) (fun _ wd190 ⟨h191, HS⟩ => ⟨_, h191, ?_⟩)
      replace HS := St.Oq (y := t187) L9 (getD_eq (ltN c183) h185) (congrArg (fun m => ([.string e184.Name, I e184.Kind, .slice (y_a a1.toNat).2.2.1.A m (y_a a1.toNat).2.2.1.c, .slice (y_a a1.toNat).2.2.2.1.A e184.Ae.length (y_a a1.toNat).2.2.2.1.c, I e184.Aj, I e184.Ao, .slice (y_a a1.toNat).2.2.2.2.2.2.1.A e184.Av.length (y_a a1.toNat).2.2.2.2.2.2.1.c, I e184.Ak, I e184.Ah, .slice (y_a a1.toNat).2.2.2.2.2.2.2.2.2.1.A e184.Af.length (y_a a1.toNat).2.2.2.2.2.2.2.2.2.1.c, .slice (y_a a1.toNat).2.2.2.2.2.2.2.2.2.2.1.A e184.Ai.length (y_a a1.toNat).2.2.2.2.2.2.2.2.2.2.1.c, .slice (y_a a1.toNat).2.2.2.2.2.2.2.2.2.2.2.A e184.Ag.length (y_a a1.toNat).2.2.2.2.2.2.2.2.2.2.2.c] : List Value)) c189) HS
      refine aS Z (nL (G.len (t := 0) (m := (((x84.set a1.toNat ({ e177 with Name := t171 })).set a1.toNat ({ e181 with Kind := w64 (b1 + 1) })).set a1.toNat { e184 with Ad := t187 }).length) Z (by simp only [List.length_set, List.length_set] <;> rfl) (sQ ?_)))
      obtain ⟨c192, H⟩ := iN H
      obtain ⟨e193, h194, H⟩ := Cn H
      obtain ⟨t195, t196, h197, H⟩ := Dk H
      obtain ⟨c198, H⟩ := iN H
      refine rG (pS 2 Z (GO.ix Z Z Z underlying27 Jt ((Aq.own (j := 0) Z) _ HS).2.2.1 c192.1 c192.2 Z (GO.fld (ea A_a (a1.toNat * 12 + 3)) Z Z L8 (F8 _ _ _) Z (GO.fld (ea A_a (a1.toNat * 12 + 3)) Z Z Iu Z Z (GO.Fq (T := Aa) (n := a1.toNat) (o := 3) HS (Aq.own (j := 0) Z) Z Z (getD_eq (ltN c192) h194) Z Z Ni Z (mV Z ?_))))))
      replace HS := HS.Rh Ms (getD_eq (ltN c192) h194)
      refine fN Z func72 dR.1 dR.2 Z Z (Da.calls HS  h197) (fun _ wd199 ⟨h200, HS⟩ => ⟨_, h200, ?_⟩)
      replace HS := St.Oq (y := t196) Ms (getD_eq (ltN c192) h194) (congrArg (fun m => ([.string e193.Name, I e193.Kind, .slice (y_a a1.toNat).2.2.1.A e193.Ad.length (y_a a1.toNat).2.2.1.c, .slice (y_a a1.toNat).2.2.2.1.A m (y_a a1.toNat).2.2.2.1.c, I e193.Aj, I e193.Ao, .slice (y_a a1.toNat).2.2.2.2.2.2.1.A e193.Av.length (y_a a1.toNat).2.2.2.2.2.2.1.c, I e193.Ak, I e193.Ah, .slice (y_a a1.toNat).2.2.2.2.2.2.2.2.2.1.A e193.Af.length (y_a a1.toNat).2.2.2.2.2.2.2.2.2.1.c, .slice (y_a a1.toNat).2.2.2.2.2.2.2.2.2.2.1.A e193.Ai.length (y_a a1.toNat).2.2.2.2.2.2.2.2.2.2.1.c, .slice (y_a a1.toNat).2.2.2.2.2.2.2.2.2.2.2.A e193.Ag.length (y_a a1.toNat).2.2.2.2.2.2.2.2.2.2.2.c] : List Value)) c198) HS
      refine aS Z (nL (G.len (t := 0) (m := ((((x84.set a1.toNat ({ e177 with Name := t171 })).set a1.toNat ({ e181 with Kind := w64 (b1 + 1) })).set a1.toNat { e184 with Ad := t187 }).set a1.toNat { e193 with Ae := t196 }).length) Z (by simp only [List.length_set, List.length_set] <;> rfl) (sQ ?_)))
      obtain ⟨c201, H⟩ := iN H
      obtain ⟨e203, h204, H⟩ := Cn H
      refine rG (pS 3 Z (GO.ix Z Z Z underlying27 Jt ((Aq.own (j := 0) Z) _ HS).2.2.1 c201.1 c201.2 Z (GO.fld (ea A_a (a1.toNat * 12 + 3)) Z Z L8 (F8 _ _ _) Z (GO.fld (ea A_a (a1.toNat * 12 + 4)) Z Z O1 (by rw [F8, Nat.add_assoc]) Z (GO.stK (T := Aa) (j := 0) (n := a1.toNat) (o := 4) (x0 := e203) (vs := [I t195]) ({ e203 with Aj := t195 }) HS Z (fun _ _ h => h) Z Z Z Z (htN na2 Z) Z (getD_eq (ltN c201) h204) Z Z fun wd202 HS => nL (G.len (t := 0) (m := (((((x84.set a1.toNat ({ e177 with Name := t171 })).set a1.toNat ({ e181 with Kind := w64 (b1 + 1) })).set a1.toNat { e184 with Ad := t187 }).set a1.toNat { e193 with Ae := t196 }).set a1.toNat ({ e203 with Aj := t195 })).length) Z (by simp only [List.length_set] <;> rfl) (rN 3 Z ?_)))))))
      obtain ⟨c205, H⟩ := iN H
      obtain ⟨e207, h208, H⟩ := Cn H
      refine rG (pS 3 Z (GO.ix Z Z Z underlying27 Jt ((Aq.own (j := 0) Z) _ HS).2.2.1 c205.1 c205.2 Z (GO.fld (ea A_a (a1.toNat * 12 + 5)) Z Z Ml (F8 _ _ _) Z (GO.fld (ea A_a (a1.toNat * 12 + 5)) Z Z Nl Z Z (GO.stK (T := Aa) (j := 0) (n := a1.toNat) (o := 5) (x0 := e207) (vs := [I (w64 (t195 + 1))]) ({ e207 with Ao := w64 (t195 + 1) }) HS Z (fun _ _ h => h) Z Z Z Z (htN na2 Z) Z (getD_eq (ltN c205) h208) Z Z fun wd206 HS => nL (G.len (t := 0) (m := ((((((x84.set a1.toNat ({ e177 with Name := t171 })).set a1.toNat ({ e181 with Kind := w64 (b1 + 1) })).set a1.toNat { e184 with Ad := t187 }).set a1.toNat { e193 with Ae := t196 }).set a1.toNat ({ e203 with Aj := t195 })).set a1.toNat ({ e207 with Ao := w64 (t195 + 1) })).length) Z (by simp only [List.length_set] <;> rfl) (rN 3 Z ?_)))))))
      obtain ⟨c209, H⟩ := iN H
      obtain ⟨e210, h211, H⟩ := Cn H
      obtain ⟨t212, t213, h214, H⟩ := Dk H
      obtain ⟨c215, H⟩ := iN H
      refine rG (pS 2 Z (GO.ix Z Z Z underlying27 Jt ((Aq.own (j := 0) Z) _ HS).2.2.1 c209.1 c209.2 Z (GO.fld (ea A_a (a1.toNat * 12 + 5)) Z Z Ml (F8 _ _ _) Z (GO.fld (ea A_a (a1.toNat * 12 + 6)) Z Z Nc (by rw [F8, Nat.add_assoc]) Z (GO.Fq (T := Aa) (n := a1.toNat) (o := 6) HS (Aq.own (j := 0) Z) Z Z (getD_eq (ltN c209) h211) Z Z H7 Z (mV Z ?_))))))
      replace HS := HS.Rh Od (getD_eq (ltN c209) h211)
      refine fN Z func73 Qk.1 Qk.2 Z Z (Cs.calls HS  h214) (fun _ wd216 ⟨h217, HS⟩ => ⟨_, h217, ?_⟩)
      replace HS := St.Oq (y := t213) Od (getD_eq (ltN c209) h211) (congrArg (fun m => ([.string e210.Name, I e210.Kind, .slice (y_a a1.toNat).2.2.1.A e210.Ad.length (y_a a1.toNat).2.2.1.c, .slice (y_a a1.toNat).2.2.2.1.A e210.Ae.length (y_a a1.toNat).2.2.2.1.c, I e210.Aj, I e210.Ao, .slice (y_a a1.toNat).2.2.2.2.2.2.1.A m (y_a a1.toNat).2.2.2.2.2.2.1.c, I e210.Ak, I e210.Ah, .slice (y_a a1.toNat).2.2.2.2.2.2.2.2.2.1.A e210.Af.length (y_a a1.toNat).2.2.2.2.2.2.2.2.2.1.c, .slice (y_a a1.toNat).2.2.2.2.2.2.2.2.2.2.1.A e210.Ai.length (y_a a1.toNat).2.2.2.2.2.2.2.2.2.2.1.c, .slice (y_a a1.toNat).2.2.2.2.2.2.2.2.2.2.2.A e210.Ag.length (y_a a1.toNat).2.2.2.2.2.2.2.2.2.2.2.c] : List Value)) c215) HS
      refine aS Z (nL (G.len (t := 0) (m := (((((((x84.set a1.toNat ({ e177 with Name := t171 })).set a1.toNat ({ e181 with Kind := w64 (b1 + 1) })).set a1.toNat { e184 with Ad := t187 }).set a1.toNat { e193 with Ae := t196 }).set a1.toNat ({ e203 with Aj := t195 })).set a1.toNat ({ e207 with Ao := w64 (t195 + 1) })).set a1.toNat { e210 with Av := t213 }).length) Z (by simp only [List.length_set, List.length_set] <;> rfl) (sQ ?_)))
      obtain ⟨c218, H⟩ := iN H
      obtain ⟨e220, h221, H⟩ := Cn H
      refine rG (pS 3 Z (GO.ix Z Z Z underlying27 Jt ((Aq.own (j := 0) Z) _ HS).2.2.1 c218.1 c218.2 Z (GO.fld (ea A_a (a1.toNat * 12 + 7)) Z Z K4 (F8 _ _ _) Z (GO.fld (ea A_a (a1.toNat * 12 + 7)) Z Z Mw Z Z (GO.stK (T := Aa) (j := 0) (n := a1.toNat) (o := 7) (x0 := e220) (vs := [I t212]) ({ e220 with Ak := t212 }) HS Z (fun _ _ h => h) Z Z Z Z (htN na2 Z) Z (getD_eq (ltN c218) h221) Z Z fun wd219 HS => nL (G.len (t := 0) (m := ((((((((x84.set a1.toNat ({ e177 with Name := t171 })).set a1.toNat ({ e181 with Kind := w64 (b1 + 1) })).set a1.toNat { e184 with Ad := t187 }).set a1.toNat { e193 with Ae := t196 }).set a1.toNat ({ e203 with Aj := t195 })).set a1.toNat ({ e207 with Ao := w64 (t195 + 1) })).set a1.toNat { e210 with Av := t213 }).set a1.toNat ({ e220 with Ak := t212 })).length) Z (by simp only [List.length_set] <;> rfl) (rN 3 Z ?_)))))))
      obtain ⟨c222, H⟩ := iN H
      obtain ⟨e224, h225, H⟩ := Cn H
      refine rG (pS 3 Z (GO.ix Z Z Z underlying27 Jt ((Aq.own (j := 0) Z) _ HS).2.2.1 c222.1 c222.2 Z (GO.fld (ea A_a (a1.toNat * 12 + 7)) Z Z K4 (F8 _ _ _) Z (GO.fld (ea A_a (a1.toNat * 12 + 8)) Z Z M0 (by rw [F8, Nat.add_assoc]) Z (GO.stK (T := Aa) (j := 0) (n := a1.toNat) (o := 8) (x0 := e224) (vs := [I (w64 (t212 + 1))]) ({ e224 with Ah := w64 (t212 + 1) }) HS Z (fun _ _ h => h) Z Z Z Z (htN na2 Z) Z (getD_eq (ltN c222) h225) Z Z fun wd223 HS => nL (G.len (t := 0) (m := (((((((((x84.set a1.toNat ({ e177 with Name := t171 })).set a1.toNat ({ e181 with Kind := w64 (b1 + 1) })).set a1.toNat { e184 with Ad := t187 }).set a1.toNat { e193 with Ae := t196 }).set a1.toNat ({ e203 with Aj := t195 })).set a1.toNat ({ e207 with Ao := w64 (t195 + 1) })).set a1.toNat { e210 with Av := t213 }).set a1.toNat ({ e220 with Ak := t212 })).set a1.toNat ({ e224 with Ah := w64 (t212 + 1) })).length) Z (by simp only [List.length_set] <;> rfl) (rN 3 Z ?_)))))))
      obtain ⟨c226, H⟩ := iN H
      obtain ⟨e227, h228, H⟩ := Cn H
      obtain ⟨t229, t230, h231, H⟩ := Dk H
      obtain ⟨c232, H⟩ := iN H
      refine rG (pS 2 Z (GO.ix Z Z Z underlying27 Jt ((Aq.own (j := 0) Z) _ HS).2.2.1 c226.1 c226.2 Z (GO.fld (ea A_a (a1.toNat * 12 + 7)) Z Z K4 (F8 _ _ _) Z (GO.fld (ea A_a (a1.toNat * 12 + 9)) Z Z Ir (by rw [F8, Nat.add_assoc]) Z (GO.Fq (T := Aa) (n := a1.toNat) (o := 9) HS (Aq.own (j := 0) Z) Z Z (getD_eq (ltN c226) h228) Z Z Nh Z (mV Z ?_))))))
      replace HS := HS.Rh Mt (getD_eq (ltN c226) h228)
      refine fN Z func74 gD.1 gD.2 Z Z (Eb.calls HS  h231) (fun _ wd233 ⟨h234, HS⟩ => ⟨_, h234, ?_⟩)
      replace HS := St.Oq (y := t230) Mt (getD_eq (ltN c226) h228) (congrArg (fun m => ([.string e227.Name, I e227.Kind, .slice (y_a a1.toNat).2.2.1.A e227.Ad.length (y_a a1.toNat).2.2.1.c, .slice (y_a a1.toNat).2.2.2.1.A e227.Ae.length (y_a a1.toNat).2.2.2.1.c, I e227.Aj, I e227.Ao, .slice (y_a a1.toNat).2.2.2.2.2.2.1.A e227.Av.length (y_a a1.toNat).2.2.2.2.2.2.1.c, I e227.Ak, I e227.Ah, .slice (y_a a1.toNat).2.2.2.2.2.2.2.2.2.1.A m (y_a a1.toNat).2.2.2.2.2.2.2.2.2.1.c, .slice (y_a a1.toNat).2.2.2.2.2.2.2.2.2.2.1.A e227.Ai.length (y_a a1.toNat).2.2.2.2.2.2.2.2.2.2.1.c, .slice (y_a a1.toNat).2.2.2.2.2.2.2.2.2.2.2.A e227.Ag.length (y_a a1.toNat).2.2.2.2.2.2.2.2.2.2.2.c] : List Value)) c232) HS
      refine aS Z (nL (G.len (t := 0) (m := ((((((((((x84.set a1.toNat ({ e177 with Name := t171 })).set a1.toNat ({ e181 with Kind := w64 (b1 + 1) })).set a1.toNat { e184 with Ad := t187 }).set a1.toNat { e193 with Ae := t196 }).set a1.toNat ({ e203 with Aj := t195 })).set a1.toNat ({ e207 with Ao := w64 (t195 + 1) })).set a1.toNat { e210 with Av := t213 }).set a1.toNat ({ e220 with Ak := t212 })).set a1.toNat ({ e224 with Ah := w64 (t212 + 1) })).set a1.toNat { e227 with Af := t230 }).length) Z (by simp only [List.length_set, List.length_set] <;> rfl) (sQ ?_)))
      obtain ⟨c235, H⟩ := iN H
      obtain ⟨e236, h237, H⟩ := Cn H
      obtain ⟨t238, t239, h240, H⟩ := Dk H
      obtain ⟨c241, H⟩ := iN H
      refine rG (pS 2 Z (GO.ix Z Z Z underlying27 Jt ((Aq.own (j := 0) Z) _ HS).2.2.1 c235.1 c235.2 Z (GO.fld (ea A_a (a1.toNat * 12 + 7)) Z Z K4 (F8 _ _ _) Z (GO.fld (ea A_a (a1.toNat * 12 + 10)) Z Z Je (by rw [F8, Nat.add_assoc]) Z (GO.Fq (T := Aa) (n := a1.toNat) (o := 10) HS (Aq.own (j := 0) Z) Z Z (getD_eq (ltN c235) h237) Z Z H7 Z (mV Z ?_))))))
      replace HS := HS.Rh M6 (getD_eq (ltN c235) h237)
      refine fN Z func73 Qk.1 Qk.2 Z Z (Cs.calls HS  h240) (fun _ wd242 ⟨h243, HS⟩ => ⟨_, h243, ?_⟩)
      replace HS := St.Oq (y := t239) M6 (getD_eq (ltN c235) h237) (congrArg (fun m => ([.string e236.Name, I e236.Kind, .slice (y_a a1.toNat).2.2.1.A e236.Ad.length (y_a a1.toNat).2.2.1.c, .slice (y_a a1.toNat).2.2.2.1.A e236.Ae.length (y_a a1.toNat).2.2.2.1.c, I e236.Aj, I e236.Ao, .slice (y_a a1.toNat).2.2.2.2.2.2.1.A e236.Av.length (y_a a1.toNat).2.2.2.2.2.2.1.c, I e236.Ak, I e236.Ah, .slice (y_a a1.toNat).2.2.2.2.2.2.2.2.2.1.A e236.Af.length (y_a a1.toNat).2.2.2.2.2.2.2.2.2.1.c, .slice (y_a a1.toNat).2.2.2.2.2.2.2.2.2.2.1.A m (y_a a1.toNat).2.2.2.2.2.2.2.2.2.2.1.c, .slice (y_a a1.toNat).2.2.2.2.2.2.2.2.2.2.2.A e236.Ag.length (y_a a1.toNat).2.2.2.2.2.2.2.2.2.2.2.c] : List Value)) c241) HS
      refine aS Z (nL (G.len (t := 0) (m := (((((((((((x84.set a1.toNat ({ e177 with Name := t171 })).set a1.toNat ({ e181 with Kind := w64 (b1 + 1) })).set a1.toNat { e184 with Ad := t187 }).set a1.toNat { e193 with Ae := t196 }).set a1.toNat ({ e203 with Aj := t195 })).set a1.toNat ({ e207 with Ao := w64 (t195 + 1) })).set a1.toNat { e210 with Av := t213 }).set a1.toNat ({ e220 with Ak := t212 })).set a1.toNat ({ e224 with Ah := w64 (t212 + 1) })).set a1.toNat { e227 with Af := t230 }).set a1.toNat { e236 with Ai := t239 }).length) Z (by simp only [List.length_set, List.length_set] <;> rfl) ?_))
      obtain ⟨c244, H⟩ := iN H
      obtain ⟨e245, h246, H⟩ := Cn H
      obtain ⟨t247, t248, h249, H⟩ := Dk H
      obtain ⟨c250, H⟩ := iN H
      refine rG (pS 2 Z (GO.ix Z Z Z underlying27 Jt ((Aq.own (j := 0) Z) _ HS).2.2.1 c244.1 c244.2 Z (GO.fld (ea A_a (a1.toNat * 12 + 7)) Z Z K4 (F8 _ _ _) Z (GO.fld (ea A_a (a1.toNat * 12 + 11)) Z Z Lm (by rw [F8, Nat.add_assoc]) Z (GO.Fq (T := Aa) (n := a1.toNat) (o := 11) HS (Aq.own (j := 0) Z) Z Z (getD_eq (ltN c244) h246) Z Z H7 Z (mV Z ?_))))))
      replace HS := HS.Rh Mr (getD_eq (ltN c244) h246)
      refine fN Z func73 Qk.1 Qk.2 Z Z (Cs.calls HS  h249) (fun _ wd251 ⟨h252, HS⟩ => ⟨_, h252, ?_⟩)
      replace HS := St.Oq (y := t248) Mr (getD_eq (ltN c244) h246) (congrArg (fun m => ([.string e245.Name, I e245.Kind, .slice (y_a a1.toNat).2.2.1.A e245.Ad.length (y_a a1.toNat).2.2.1.c, .slice (y_a a1.toNat).2.2.2.1.A e245.Ae.length (y_a a1.toNat).2.2.2.1.c, I e245.Aj, I e245.Ao, .slice (y_a a1.toNat).2.2.2.2.2.2.1.A e245.Av.length (y_a a1.toNat).2.2.2.2.2.2.1.c, I e245.Ak, I e245.Ah, .slice (y_a a1.toNat).2.2.2.2.2.2.2.2.2.1.A e245.Af.length (y_a a1.toNat).2.2.2.2.2.2.2.2.2.1.c, .slice (y_a a1.toNat).2.2.2.2.2.2.2.2.2.2.1.A e245.Ai.length (y_a a1.toNat).2.2.2.2.2.2.2.2.2.2.1.c, .slice (y_a a1.toNat).2.2.2.2.2.2.2.2.2.2.2.A m (y_a a1.toNat).2.2.2.2.2.2.2.2.2.2.2.c] : List Value)) c250) HS
      refine aS Z (nL (G.len (t := 0) (m := ((((((((((((x84.set a1.toNat ({ e177 with Name := t171 })).set a1.toNat ({ e181 with Kind := w64 (b1 + 1) })).set a1.toNat { e184 with Ad := t187 }).set a1.toNat { e193 with Ae := t196 }).set a1.toNat ({ e203 with Aj := t195 })).set a1.toNat ({ e207 with Ao := w64 (t195 + 1) })).set a1.toNat { e210 with Av := t213 }).set a1.toNat ({ e220 with Ak := t212 })).set a1.toNat ({ e224 with Ah := w64 (t212 + 1) })).set a1.toNat { e227 with Af := t230 }).set a1.toNat { e236 with Ai := t239 }).set a1.toNat { e245 with Ag := t248 }).length) Z (by simp only [List.length_set, List.length_set] <;> rfl) (rN 3 Z (G.weak ?_ (f1 e1 (Nat.lt_succ_of_le (lR _)) (Nat.le_of_succ_le i1) _ _ _ _ H HS)))))
      exact ⟨Z, Z, Z, tv⟩
     refine nB Z (tF c170) (rN 3 Z ?_)
     obtain ⟨rfl, rfl⟩ := Mf H
     exact rT _ func34 Z Z ⟨Z, HS⟩
  refine G.weak ?_ (h1 K (lR _) _ _ _ _ H HS)
  exact ⟨Z, Z, Z, tv⟩
theorem Er.calls {a_ : List (List Am)} {k_ : Int} {A_a : Option Addr} {c_a : Nat} {y_a : Nat → (Ty.slice 64 Aa).Lay} {r1 : Int} {r2 : List (List Am)} (HS : St w0 w (Own (Ty.slice 64 Aa) 27 A_a c_a y_a a_ :: L)) (H : Er.f K a_ k_ = some (r1, r2)) :
    Calls prog 35 #[.slice A_a a_.length c_a, I k_] w (Er.post w0 L A_a c_a y_a r1 r2) := by
  unfold Er.f at H
  refine cG func35 Z ?_
  refine rN 7 Z ?_
  refine G.name (fun d1 g1 => ?_)
  have i1 : ∀ b1, b1 ≤ K → ∀ (x9 : List (List Am)) (c1 a1 : Int) (w : World), Er.l1 K b1 x9 c1 a1 = some (r1, r2) → St w0 w (Own (Ty.slice 64 Aa) 27 A_a c_a y_a x9 :: L) → G prog 35 19 [(0, .slice A_a x9.length c_a), (1, I c1), (5, I a1)] d1 w (Er.post w0 L A_a c_a y_a r1 r2) := by
   intro b1
   induction b1 using Nat.strongRecOn with
   | _ b1 f1 =>
    intro h1 x9 c1 a1 w H HS
    cases b1 with
    | zero => rw [Er.l1] at H; cases H
    | succ e1 =>
     rw [Er.l1] at H
     subst g1
     refine rN 2 Z (rG (pS 2 Z (lS Z Z underlying28 Z (GO.lss Z Z Z Z (nL ?_)))))
     rcases iE H with ⟨c20, H⟩ | ⟨c20, H⟩
     ·
      refine yB Z (tT c20) (rN 3 Z ?_)
      obtain ⟨c21, H⟩ := iN H
      obtain ⟨t22, t23, h24, H⟩ := Dk H
      obtain ⟨c25, H⟩ := iN H
      refine rG (pS 2 Z (GO.ix Z Z Z underlying28 V5 ((Aq.own (j := 0) Z) _ HS).2.2.1 c21.1 c21.2 Z (GO.Fq (T := (Ty.slice 64 Aa)) (n := a1.toNat) (o := 0) HS (Aq.own (j := 0) Z) Z Z (getD_some (d := []) (ltN c21)) Z Z Nq Z (mV Z ?_))))
      replace HS := HS.Rh Fld.id (getD_some (d := []) (ltN c21))
      refine fN Z func34 fC.1 fC.2 Z Z (Dl.calls HS  h24) (fun _ wd26 ⟨h27, HS⟩ => ⟨_, h27, ?_⟩)
      replace HS := St.Oq (y := t23) Fld.id (getD_some (d := []) (ltN c21)) (congrArg (fun m => ([.slice ((y_a a1.toNat).A) m ((y_a a1.toNat).c)] : List Value)) c25) HS
      refine aS Z (nL (G.len (t := 0) (m := (x9.set a1.toNat t23).length) Z (by simp only [List.length_set, List.length_set] <;> rfl) (rN 3 Z (G.weak ?_ (f1 e1 (Nat.lt_succ_of_le (lR _)) (Nat.le_of_succ_le h1) _ _ _ _ H HS)))))
      exact ⟨Z, Z, Z, tv⟩
     refine nB Z (tF c20) (rN 3 Z ?_)
     obtain ⟨rfl, rfl⟩ := Mf H
     exact rT _ func35 Z Z ⟨Z, HS⟩
  refine G.weak ?_ (i1 K (lR _) _ _ _ _ H HS)
  exact ⟨Z, Z, Z, tv⟩
theorem Jc.calls {d1 : List Am} {c1 a1 : List (List Am)} {k_ : Int} {A_a : Option Addr} {c_a : Nat} {y_a : Nat → Aa.Lay} {A_b : Option Addr} {c_b : Nat} {y_b : Nat → (Ty.slice 64 Aa).Lay} {A_c : Option Addr} {c_c : Nat} {y_c : Nat → (Ty.slice 64 Aa).Lay} {r1 : Int} {r2 : List Am} {r3 r4 : List (List Am)} (HS : St w0 w (Own Aa 64 A_a c_a y_a d1 :: Own (Ty.slice 64 Aa) 27 A_b c_b y_b c1 :: Own (Ty.slice 64 Aa) 27 A_c c_c y_c a1 :: L)) (H : Jc.f K d1 c1 a1 k_ = some (r1, r2, r3, r4)) :
    Calls prog 10 #[.agg [.slice A_a d1.length c_a, .slice A_b c1.length c_b, .slice A_c a1.length c_c].toArray, I k_] w (Jc.post w0 L A_a c_a y_a A_b c_b y_b A_c c_c y_c r1 r2 r3 r4) := by
  unfold Jc.f at H
  refine cG func10 Z ?_
  refine sQ (rG (GO.box (cs := [.slice A_a d1.length c_a, .slice A_b c1.length c_b, .slice A_c a1.length c_c]) HS Z Z Z Z fun b1 wd2 HS => aS Z (nL (sQ ?_))))
  obtain ⟨t3, t4, h5, H⟩ := Dk H
  obtain ⟨c6, H⟩ := iN H
  refine rG (fL b1 0 K5 Z (lB 0 HS Z Nq Z (mV Z ?_)))
  replace HS := HS.pk 4 [1, 0, 2, 3] Z
  refine fN Z func34 fC.1 fC.2 Z Z (Dl.calls HS  h5) (fun _ wd7 ⟨h8, HS⟩ => ⟨_, h8, (aS Z (nL ?_))⟩)
  replace HS := HS.Lf (j := 1) (cs' := [.slice A_a t4.length c_a, .slice A_b c1.length c_b, .slice A_c a1.length c_c]) Z (by simp only [List.length_set, c6] <;> rfl)
  refine sQ ?_
  obtain ⟨t9, t10, h11, H⟩ := Dk H
  obtain ⟨c12, H⟩ := iN H
  refine rG (fL b1 1 Po Z (lB 1 HS Z Qa Z (mV Z ?_)))
  replace HS := HS.pk 4 [2, 0, 1, 3] Z
  refine fN Z func35 gB.1 gB.2 Z Z (Er.calls HS  h11) (fun _ wd13 ⟨h14, HS⟩ => ⟨_, h14, (aS Z (nL ?_))⟩)
  replace HS := HS.Lf (j := 2) (cs' := [.slice A_a t4.length c_a, .slice A_b t10.length c_b, .slice A_c a1.length c_c]) Z (by simp only [List.length_set, c12] <;> rfl)
  refine sQ ?_
  obtain ⟨t15, t16, h17, H⟩ := Dk H
  obtain ⟨c18, H⟩ := iN H
  refine rG (fL b1 2 Rc Z (lB 2 HS Z Qa Z (mV Z ?_)))
  replace HS := HS.pk 4 [3, 0, 1, 2] Z
  refine fN Z func35 gB.1 gB.2 Z Z (Er.calls HS  h17) (fun _ wd19 ⟨h20, HS⟩ => ⟨_, h20, (aS Z (nL ?_))⟩)
  replace HS := HS.Lf (j := 3) (cs' := [.slice A_a t4.length c_a, .slice A_b t10.length c_b, .slice A_c t16.length c_c]) Z (by simp only [List.length_set, c18] <;> rfl)
  refine rN 2 Z ?_
  obtain ⟨rfl, rfl, rfl, rfl⟩ := Qb H
  exact rT _ func10 Z Z ⟨Z, (HS.pk 4 [2, 1, 0] Z)⟩
theorem Gp.calls {a1 : List (List Bt)} {k_ : Int} {A_a : Option Addr} {c_a : Nat} {y_a : Nat → (Ty.slice 157 Bc).Lay} {r1 : Int} {r2 : List (List Bt)} (HS : St w0 w (Own (Ty.slice 157 Bc) 150 A_a c_a y_a a1 :: L)) (H : Gp.f K a1 k_ = some (r1, r2)) :
    Calls prog 55 #[.agg [.slice A_a a1.length c_a].toArray, I k_] w (Gp.post w0 L A_a c_a y_a r1 r2) := by
  unfold Gp.f at H
  refine cG func55 Z ?_
  refine sQ (rG (GO.box (cs := [.slice A_a a1.length c_a]) HS Z Z Z Z fun b1 wd2 HS => aS Z (nL (sQ ?_))))
  obtain ⟨t3, t4, h5, H⟩ := Dk H
  obtain ⟨c6, H⟩ := iN H
  refine rG (fL b1 0 I8 Z (lB 0 HS Z Nt Z (mV Z ?_)))
  replace HS := HS.pk 2 [1, 0] Z
  refine fN Z func71 gL.1 gL.2 Z Z (Es.calls HS  h5) (fun _ wd7 ⟨h8, HS⟩ => ⟨_, h8, (aS Z (nL ?_))⟩)
  replace HS := HS.Lf (j := 1) (cs' := [.slice A_a t4.length c_a]) Z (by simp only [List.length_set, c6] <;> rfl)
  refine rN 2 Z ?_
  obtain ⟨rfl, rfl⟩ := Mf H
  exact rT _ func55 Z Z ⟨Z, (HS.pk 2 [0] Z)⟩
theorem Jj.calls {a1 : List Al} {c1 k_ : Int} {A_a : Option Addr} {c_a : Nat} {r1 : Int} {r2 : List Al} (HS : St w0 w (Own Bb 152 A_a c_a (fun _ => ()) a1 :: L)) (H : Jj.f K a1 c1 k_ = some (r1, r2)) :
    Calls prog 56 #[.agg [.slice A_a a1.length c_a, I c1].toArray, I k_] w (Jj.post w0 L A_a c_a r1 r2) := by
  unfold Jj.f at H
  refine cG func56 Z ?_
  refine sQ (rG (GO.box (cs := [.slice A_a a1.length c_a, I c1]) HS Z Z Z Z fun b1 wd2 HS => aS Z (nL (sQ ?_))))
  obtain ⟨t3, t4, h5, H⟩ := Dk H
  obtain ⟨c6, H⟩ := iN H
  refine rG (fL b1 0 Iu Z (lB 0 HS Z Ni Z (mV Z ?_)))
  replace HS := HS.pk 2 [1, 0] Z
  refine fN Z func72 dR.1 dR.2 Z Z (Da.calls HS  h5) (fun _ wd7 ⟨h8, HS⟩ => ⟨_, h8, (aS Z (nL ?_))⟩)
  replace HS := HS.Lf (j := 1) (cs' := [.slice A_a t4.length c_a, I c1]) Z (by simp only [List.length_set, c6] <;> rfl)
  refine rN 2 Z ?_
  obtain ⟨rfl, rfl⟩ := Mf H
  exact rT _ func56 Z Z ⟨Z, (HS.pk 2 [0] Z)⟩
theorem J8.calls {c1 : Int} {a1 : List Int} {k_ : Int} {A_a : Option Addr} {c_a : Nat} {r1 : Int} {r2 : List Int} (HS : St w0 w (Own (Bq .i64) 2 A_a c_a (fun _ => ()) a1 :: L)) (H : J8.f K c1 a1 k_ = some (r1, r2)) :
    Calls prog 57 #[.agg [I c1, .slice A_a a1.length c_a].toArray, I k_] w (J8.post w0 L A_a c_a r1 r2) := by
  unfold J8.f at H
  refine cG func57 Z ?_
  refine sQ (rG (GO.box (cs := [I c1, .slice A_a a1.length c_a]) HS Z Z Z Z fun b1 wd2 HS => aS Z (nL (sQ ?_))))
  obtain ⟨t3, t4, h5, H⟩ := Dk H
  obtain ⟨c6, H⟩ := iN H
  refine rG (fL b1 1 Nc Z (lB 0 HS Z H7 Z (mV Z ?_)))
  replace HS := HS.pk 2 [1, 0] Z
  refine fN Z func73 Qk.1 Qk.2 Z Z (Cs.calls HS  h5) (fun _ wd7 ⟨h8, HS⟩ => ⟨_, h8, (aS Z (nL ?_))⟩)
  replace HS := HS.Lf (j := 1) (cs' := [I c1, .slice A_a t4.length c_a]) Z (by simp only [List.length_set, c6] <;> rfl)
  refine rN 2 Z ?_
  obtain ⟨rfl, rfl⟩ := Mf H
  exact rT _ func57 Z Z ⟨Z, (HS.pk 2 [0] Z)⟩
theorem Ho.calls {a1 d1 : Int} {f1 : List Ci} {e1 c1 : List Int} {k_ : Int} {A_a : Option Addr} {c_a : Nat} {A_b : Option Addr} {c_b : Nat} {A_c : Option Addr} {c_c : Nat} {r1 : Int} {r2 : List Ci} {r3 r4 : List Int} (HS : St w0 w (Own Cq 140 A_a c_a (fun _ => ()) f1 :: Own (Bq .i64) 2 A_b c_b (fun _ => ()) e1 :: Own (Bq .i64) 2 A_c c_c (fun _ => ()) c1 :: L)) (H : Ho.f K a1 d1 f1 e1 c1 k_ = some (r1, r2, r3, r4)) :
    Calls prog 58 #[.agg [I a1, I d1, .slice A_a f1.length c_a, .slice A_b e1.length c_b, .slice A_c c1.length c_c].toArray, I k_] w (Ho.post w0 L A_a c_a A_b c_b A_c c_c r1 r2 r3 r4) := by
  unfold Ho.f at H
  refine cG func58 Z ?_
  refine sQ (rG (GO.box (cs := [I a1, I d1, .slice A_a f1.length c_a, .slice A_b e1.length c_b, .slice A_c c1.length c_c]) HS Z Z Z Z fun b1 wd2 HS => aS Z (nL (sQ ?_))))
  obtain ⟨t3, t4, h5, H⟩ := Dk H
  obtain ⟨c6, H⟩ := iN H
  refine rG (fL b1 2 Ir Z (lB 0 HS Z Nh Z (mV Z ?_)))
  replace HS := HS.pk 4 [1, 0, 2, 3] Z
  refine fN Z func74 gD.1 gD.2 Z Z (Eb.calls HS  h5) (fun _ wd7 ⟨h8, HS⟩ => ⟨_, h8, (aS Z (nL ?_))⟩)
  replace HS := HS.Lf (j := 1) (cs' := [I a1, I d1, .slice A_a t4.length c_a, .slice A_b e1.length c_b, .slice A_c c1.length c_c]) Z (by simp only [List.length_set, c6] <;> rfl)
  refine sQ ?_
  obtain ⟨t9, t10, h11, H⟩ := Dk H
  obtain ⟨c12, H⟩ := iN H
  refine rG (fL b1 3 Je Z (lB 1 HS Z H7 Z (mV Z ?_)))
  replace HS := HS.pk 4 [2, 0, 1, 3] Z
  refine fN Z func73 Qk.1 Qk.2 Z Z (Cs.calls HS  h11) (fun _ wd13 ⟨h14, HS⟩ => ⟨_, h14, (aS Z (nL ?_))⟩)
  replace HS := HS.Lf (j := 2) (cs' := [I a1, I d1, .slice A_a t4.length c_a, .slice A_b t10.length c_b, .slice A_c c1.length c_c]) Z (by simp only [List.length_set, c12] <;> rfl)
  refine sQ ?_
  obtain ⟨t15, t16, h17, H⟩ := Dk H
  obtain ⟨c18, H⟩ := iN H
  refine rG (fL b1 4 Lm Z (lB 2 HS Z H7 Z (mV Z ?_)))
  replace HS := HS.pk 4 [3, 0, 1, 2] Z
  refine fN Z func73 Qk.1 Qk.2 Z Z (Cs.calls HS  h17) (fun _ wd19 ⟨h20, HS⟩ => ⟨_, h20, (aS Z (nL ?_))⟩)
  replace HS := HS.Lf (j := 3) (cs' := [I a1, I d1, .slice A_a t4.length c_a, .slice A_b t10.length c_b, .slice A_c t16.length c_c]) Z (by simp only [List.length_set, c18] <;> rfl)
  refine rN 2 Z ?_
  obtain ⟨rfl, rfl, rfl, rfl⟩ := Qb H
  exact rT _ func58 Z Z ⟨Z, (HS.pk 4 [2, 1, 0] Z)⟩
theorem J3.calls {g1 : ByteArray} {i1 : Int} {o1 : List (List Bt)} {n1 : List Al} {f1 c1 : Int} {m1 : List Int} {a1 e1 : Int} {k1 : List Ci} {h1 d1 : List Int} {k_ : Int} {A_a : Option Addr} {c_a : Nat} {y_a : Nat → (Ty.slice 157 Bc).Lay} {A_b : Option Addr} {c_b : Nat} {A_c : Option Addr} {c_c : Nat} {A_d : Option Addr} {c_d : Nat} {A_e : Option Addr} {c_e : Nat} {A_f : Option Addr} {c_f : Nat} {r1 : Int} {r2 : List (List Bt)} {r3 : List Al} {r4 : List Int} {r5 : List Ci} {r6 r7 : List Int} (HS : St w0 w (Own (Ty.slice 157 Bc) 150 A_a c_a y_a o1 :: Own Bb 152 A_b c_b (fun _ => ()) n1 :: Own (Bq .i64) 2 A_c c_c (fun _ => ()) m1 :: Own Cq 140 A_d c_d (fun _ => ()) k1 :: Own (Bq .i64) 2 A_e c_e (fun _ => ()) h1 :: Own (Bq .i64) 2 A_f c_f (fun _ => ()) d1 :: L)) (H : J3.f K g1 i1 o1 n1 f1 c1 m1 a1 e1 k1 h1 d1 k_ = some (r1, r2, r3, r4, r5, r6, r7)) :
    Calls prog 17 #[.agg [.string g1, I i1, .slice A_a o1.length c_a, .slice A_b n1.length c_b, I f1, I c1, .slice A_c m1.length c_c, I a1, I e1, .slice A_d k1.length c_d, .slice A_e h1.length c_e, .slice A_f d1.length c_f].toArray, I k_] w (J3.post w0 L A_a c_a y_a A_b c_b A_c c_c A_d c_d A_e c_e A_f c_f r1 r2 r3 r4 r5 r6 r7) := by
  unfold J3.f at H
  refine cG func17 Z ?_
  refine sQ (rG (GO.box (cs := [.string g1, I i1, .slice A_a o1.length c_a, .slice A_b n1.length c_b, I f1, I c1, .slice A_c m1.length c_c, I a1, I e1, .slice A_d k1.length c_d, .slice A_e h1.length c_e, .slice A_f d1.length c_f]) HS Z Z Z Z fun b1 wd2 HS => aS Z (nL (sQ ?_))))
  obtain ⟨t3, t4, h5, H⟩ := Dk H
  obtain ⟨c6, H⟩ := iN H
  refine rG (fL b1 2 Nk Z (GO.Bu (j := 0) ([.slice A_a o1.length c_a]) HS Z Z Z Z Oc Z (mV Z ?_)))
  replace HS := HS.pk 7 [1, 0, 2, 3, 4, 5, 6] Z
  refine fN Z func55 tO.1 tO.2 Z Z (Gp.calls HS  h5) (fun _ wd7 ⟨h8, HS⟩ => ⟨_, h8, (aS Z (nL ?_))⟩)
  replace HS := HS.Lf (j := 1) (cs' := [.string g1, I i1, .slice A_a t4.length c_a, .slice A_b n1.length c_b, I f1, I c1, .slice A_c m1.length c_c, I a1, I e1, .slice A_d k1.length c_d, .slice A_e h1.length c_e, .slice A_f d1.length c_f]) Z (by simp only [List.length_set, c6] <;> rfl)
  refine sQ ?_
  obtain ⟨t9, t10, h11, H⟩ := Dk H
  obtain ⟨c12, H⟩ := iN H
  refine rG (fL b1 3 L8 Z (GO.Bu (j := 1) ([.slice A_b n1.length c_b, I f1]) HS Z Z Z Z Np Z (mV Z ?_)))
  replace HS := HS.pk 7 [2, 0, 1, 3, 4, 5, 6] Z
  refine fN Z func56 sV.1 sV.2 Z Z (Jj.calls HS  h11) (fun _ wd13 ⟨h14, HS⟩ => ⟨_, h14, (aS Z (nL ?_))⟩)
  replace HS := HS.Lf (j := 2) (cs' := [.string g1, I i1, .slice A_a t4.length c_a, .slice A_b t10.length c_b, I f1, I c1, .slice A_c m1.length c_c, I a1, I e1, .slice A_d k1.length c_d, .slice A_e h1.length c_e, .slice A_f d1.length c_f]) Z (by simp only [List.length_set, c12] <;> rfl)
  refine sQ ?_
  obtain ⟨t15, t16, h17, H⟩ := Dk H
  obtain ⟨c18, H⟩ := iN H
  refine rG (fL b1 5 Ml Z (GO.Bu (j := 2) ([I c1, .slice A_c m1.length c_c]) HS Z Z Z Z Rz Z (mV Z ?_)))
  replace HS := HS.pk 7 [3, 0, 1, 2, 4, 5, 6] Z
  refine fN Z func57 uO.1 uO.2 Z Z (J8.calls HS  h17) (fun _ wd19 ⟨h20, HS⟩ => ⟨_, h20, (aS Z (nL ?_))⟩)
  replace HS := HS.Lf (j := 3) (cs' := [.string g1, I i1, .slice A_a t4.length c_a, .slice A_b t10.length c_b, I f1, I c1, .slice A_c t16.length c_c, I a1, I e1, .slice A_d k1.length c_d, .slice A_e h1.length c_e, .slice A_f d1.length c_f]) Z (by simp only [List.length_set, c18] <;> rfl)
  refine sQ ?_
  obtain ⟨t21, t22, t23, t24, h25, H⟩ := K6 H
  obtain ⟨c26, H⟩ := iN H
  obtain ⟨c27, H⟩ := iN H
  obtain ⟨c28, H⟩ := iN H
  refine rG (fL b1 7 K4 Z (GO.Bu (j := 3) ([I a1, I e1, .slice A_d k1.length c_d, .slice A_e h1.length c_e, .slice A_f d1.length c_f]) HS Z Z Z Z Qn Z (mV Z ?_)))
  replace HS := HS.pk 7 [4, 5, 6, 0, 1, 2, 3] Z
  refine fN Z func58 sM.1 sM.2 Z Z (Ho.calls HS  h25) (fun _ wd29 ⟨h30, HS⟩ => ⟨_, h30, (aS Z (nL ?_))⟩)
  replace HS := HS.Lf (j := 6) (cs' := [.string g1, I i1, .slice A_a t4.length c_a, .slice A_b t10.length c_b, I f1, I c1, .slice A_c t16.length c_c, I a1, I e1, .slice A_d t22.length c_d, .slice A_e h1.length c_e, .slice A_f d1.length c_f]) Z (by simp only [List.length_set, c26, c27, c28] <;> rfl)
  replace HS := HS.Lf (j := 6) (cs' := [.string g1, I i1, .slice A_a t4.length c_a, .slice A_b t10.length c_b, I f1, I c1, .slice A_c t16.length c_c, I a1, I e1, .slice A_d t22.length c_d, .slice A_e t23.length c_e, .slice A_f d1.length c_f]) Z (by simp only [List.length_set, c26, c27, c28] <;> rfl)
  replace HS := HS.Lf (j := 6) (cs' := [.string g1, I i1, .slice A_a t4.length c_a, .slice A_b t10.length c_b, I f1, I c1, .slice A_c t16.length c_c, I a1, I e1, .slice A_d t22.length c_d, .slice A_e t23.length c_e, .slice A_f t24.length c_f]) Z (by simp only [List.length_set, c26, c27, c28] <;> rfl)
  refine rN 2 Z ?_
  obtain ⟨rfl, rfl, rfl, rfl, rfl, rfl, rfl⟩ := xE H
  exact rT _ func17 Z Z ⟨Z, (HS.pk 7 [5, 4, 3, 0, 1, 2] Z)⟩
theorem Ej.calls {a_ : List Bt} {k_ : Int} {A_a : Option Addr} {c_a : Nat} {r1 : Int} (HS : St w0 w (L)) (r_a : Aq w0 L Bc A_a c_a (fun _ => ()) a_) (H : Ej.f K a_ k_ = some r1) :
    Calls prog 116 #[.slice A_a a_.length c_a, I k_] w (Ej.post w0 L r1) := by
  unfold Ej.f at H
  refine cG func116 Z ?_
  refine rN 7 Z ?_
  refine G.name (fun b1 e1 => ?_)
  have f1 : ∀ a1, a1 ≤ K → ∀ (k_7 i_8 : Int) (w : World), Ej.l1 K a1 a_ k_7 i_8 = some r1 → St w0 w (L) → G prog 116 31 [(0, .slice A_a a_.length c_a), (1, I k_7), (5, I i_8)] b1 w (Ej.post w0 L r1) := by
   intro a1
   induction a1 using Nat.strongRecOn with
   | _ a1 d1 =>
    intro g1 k_7 i_8 w H HS
    cases a1 with
    | zero => rw [Ej.l1] at H; cases H
    | succ c1 =>
     rw [Ej.l1] at H
     subst e1
     refine rN 2 Z (rG (pS 2 Z (lS Z Z underlying150 Z (GO.lss Z Z Z Z (nL ?_)))))
     rcases iE H with ⟨c15, H⟩ | ⟨c15, H⟩
     ·
      refine yB Z (tT c15) (rN 5 Z ?_)
      obtain ⟨c16, H⟩ := iN H
      obtain ⟨e17, h18, H⟩ := Cn H
      refine rG (pS 2 Z (GO.ix Z Z Z underlying150 Pm (r_a _ HS).2.2.1 c16.1 c16.2 Z (GO.fld (ea A_a (i_8.toNat * 2)) Z Z J2 Z Z (GO.Fq (T := Bc) (n := i_8.toNat) (o := 0) HS r_a Z Z (getD_eq (ltN c16) h18) Z Z na2 Z (pS 2 Z (nL ?_))))))
      rcases iE H with ⟨c19, H⟩ | ⟨c19, H⟩
      ·
       refine nB Z (nT c19) (rN 5 Z (rG (pS 2 Z (GO.ix Z Z Z underlying150 Pm (r_a _ HS).2.2.1 c16.1 c16.2 Z (GO.fld (ea A_a (i_8.toNat * 2 + 1)) Z Z Ng (F8 _ _ _) Z (GO.Fq (T := Bc) (n := i_8.toNat) (o := 1) HS r_a Z Z (getD_eq (ltN c16) h18) Z Z na2 Z (pS 2 Z (nL ?_))))))))
       rcases iE H with ⟨c20, H⟩ | ⟨c20, H⟩
       ·
        refine nB Z (nT c20) (rN 5 Z (G.weak ?_ (d1 c1 (Nat.lt_succ_of_le (lR _)) (Nat.le_of_succ_le g1) _ _ _ H HS)))
        exact ⟨Z, Z, Z, tv⟩
       refine yB Z (nF c20) (rN 2 Z ?_)
       obtain rfl := sI H
       exact rT _ func116 Z Z ⟨Z, HS⟩
      refine yB Z (nF c19) (rN 2 Z ?_)
      obtain rfl := sI H
      exact rT _ func116 Z Z ⟨Z, HS⟩
     refine nB Z (tF c15) (rN 3 Z ?_)
     obtain rfl := sI H
     exact rT _ func116 Z Z ⟨Z, HS⟩
  refine G.weak ?_ (f1 K (lR _) _ _ _ H HS)
  exact ⟨Z, Z, Z, tv⟩
theorem Fg.calls {a_ : List (List Bt)} {k_ : Int} {A_a : Option Addr} {c_a : Nat} {y_a : Nat → (Ty.slice 157 Bc).Lay} {r1 : Int} (HS : St w0 w (L)) (r_a : Aq w0 L (Ty.slice 157 Bc) A_a c_a y_a a_) (H : Fg.f K a_ k_ = some r1) :
    Calls prog 75 #[.slice A_a a_.length c_a, I k_] w (Fg.post w0 L r1) := by
  unfold Fg.f at H
  refine cG func75 Z ?_
  refine rN 7 Z ?_
  refine G.name (fun b1 e1 => ?_)
  have f1 : ∀ a1, a1 ≤ K → ∀ (k_8 i_9 : Int) (w : World), Fg.l1 K a1 a_ k_8 i_9 = some r1 → St w0 w (L) → G prog 75 21 [(0, .slice A_a a_.length c_a), (1, I k_8), (5, I i_9)] b1 w (Fg.post w0 L r1) := by
   intro a1
   induction a1 using Nat.strongRecOn with
   | _ a1 d1 =>
    intro g1 k_8 i_9 w H HS
    cases a1 with
    | zero => rw [Fg.l1] at H; cases H
    | succ c1 =>
     rw [Fg.l1] at H
     subst e1
     refine rN 2 Z (rG (pS 2 Z (lS Z Z underlying53 Z (GO.lss Z Z Z Z (nL ?_)))))
     rcases iE H with ⟨c17, H⟩ | ⟨c17, H⟩
     ·
      refine yB Z (tT c17) (rN 4 Z ?_)
      obtain ⟨c18, H⟩ := iN H
      obtain ⟨t19, h20, H⟩ := bI H
      refine rG (pS 2 Z (GO.ix Z Z Z underlying53 Ou (r_a _ HS).2.2.1 c18.1 c18.2 Z (GO.Fq (T := (Ty.slice 157 Bc)) (n := i_9.toNat) (o := 0) HS r_a Z Z (getD_some (d := []) (ltN c18)) Z Z Ox Z (mV Z (fN Z func116 kQ.1 kQ.2 Z Z (Ej.calls HS (Aq.elem r_a c18.1 c18.2) h20) (fun _ wd21 ⟨h22, HS⟩ => ⟨_, h22, (aS Z (nL (rN 2 Z ?_)))⟩))))))
      rcases iE H with ⟨c23, H⟩ | ⟨c23, H⟩
      ·
       refine yB Z (tT c23) (rN 2 Z ?_)
       obtain rfl := sI H
       exact rT _ func75 Z Z ⟨Z, HS⟩
      refine nB Z (tF c23) (rN 4 Z (G.weak ?_ (d1 c1 (Nat.lt_succ_of_le (lR _)) (Nat.le_of_succ_le g1) _ _ _ H HS)))
      exact ⟨Z, Z, Z, tv⟩
     refine nB Z (tF c17) (rN 3 Z ?_)
     obtain rfl := sI H
     exact rT _ func75 Z Z ⟨Z, HS⟩
  refine G.weak ?_ (f1 K (lR _) _ _ _ H HS)
  exact ⟨Z, Z, Z, tv⟩
theorem Dg.calls {a_ : List Al} {k_ : Int} {A_a : Option Addr} {c_a : Nat} {r1 : Int} (HS : St w0 w (L)) (r_a : Aq w0 L Bb A_a c_a (fun _ => ()) a_) (H : Dg.f K a_ k_ = some r1) :
    Calls prog 76 #[.slice A_a a_.length c_a, I k_] w (Dg.post w0 L r1) := by
  unfold Dg.f at H
  refine cG func76 Z ?_
  refine rN 7 Z ?_
  refine G.name (fun d1 g1 => ?_)
  have i1 : ∀ b1, b1 ≤ K → ∀ (c1 a1 : Int) (w : World), Dg.l1 K b1 a_ c1 a1 = some r1 → St w0 w (L) → G prog 76 58 [(0, .slice A_a a_.length c_a), (1, I c1), (5, I a1)] d1 w (Dg.post w0 L r1) := by
   intro b1
   induction b1 using Nat.strongRecOn with
   | _ b1 f1 =>
    intro h1 c1 a1 w H HS
    cases b1 with
    | zero => rw [Dg.l1] at H; cases H
    | succ e1 =>
     rw [Dg.l1] at H
     subst g1
     refine rN 2 Z (rG (pS 2 Z (lS Z Z underlying56 Z (GO.lss Z Z Z Z (nL ?_)))))
     rcases iE H with ⟨c21, H⟩ | ⟨c21, H⟩
     ·
      refine yB Z (tT c21) (rN 5 Z ?_)
      obtain ⟨c22, H⟩ := iN H
      obtain ⟨e23, h24, H⟩ := Cn H
      refine rG (pS 2 Z (GO.ix Z Z Z underlying56 Nu (r_a _ HS).2.2.1 c22.1 c22.2 Z (GO.fld (ea A_a (a1.toNat * 5)) Z Z Qf Z Z (GO.Fq (T := Bb) (n := a1.toNat) (o := 0) HS r_a Z Z (getD_eq (ltN c22) h24) Z Z na2 Z (pS 2 Z (nL ?_))))))
      rcases iE H with ⟨c25, H⟩ | ⟨c25, H⟩
      ·
       refine nB Z (nT c25) (rN 5 Z (rG (pS 2 Z (GO.ix Z Z Z underlying56 Nu (r_a _ HS).2.2.1 c22.1 c22.2 Z (GO.fld (ea A_a (a1.toNat * 5 + 1)) Z Z Qj (F8 _ _ _) Z (GO.Fq (T := Bb) (n := a1.toNat) (o := 1) HS r_a Z Z (getD_eq (ltN c22) h24) Z Z na2 Z (pS 2 Z (nL ?_))))))))
       rcases iE H with ⟨c26, H⟩ | ⟨c26, H⟩
       ·
        refine nB Z (nT c26) (rN 5 Z (rG (pS 2 Z (GO.ix Z Z Z underlying56 Nu (r_a _ HS).2.2.1 c22.1 c22.2 Z (GO.fld (ea A_a (a1.toNat * 5 + 2)) Z Z Qg (F8 _ _ _) Z (GO.Fq (T := Bb) (n := a1.toNat) (o := 2) HS r_a Z Z (getD_eq (ltN c22) h24) Z Z na2 Z (pS 2 Z (nL ?_))))))))
        rcases iE H with ⟨c27, H⟩ | ⟨c27, H⟩
        ·
         refine nB Z (nT c27) (rN 5 Z (rG (pS 2 Z (GO.ix Z Z Z underlying56 Nu (r_a _ HS).2.2.1 c22.1 c22.2 Z (GO.fld (ea A_a (a1.toNat * 5 + 3)) Z Z Qd (F8 _ _ _) Z (GO.Fq (T := Bb) (n := a1.toNat) (o := 3) HS r_a Z Z (getD_eq (ltN c22) h24) Z Z na2 Z (pS 2 Z (nL ?_))))))))
         rcases iE H with ⟨c28, H⟩ | ⟨c28, H⟩
         ·
          refine nB Z (nT c28) (rN 5 Z (rG (pS 2 Z (GO.ix Z Z Z underlying56 Nu (r_a _ HS).2.2.1 c22.1 c22.2 Z (GO.fld (ea A_a (a1.toNat * 5 + 4)) Z Z Lg (F8 _ _ _) Z (GO.Fq (T := Bb) (n := a1.toNat) (o := 4) HS r_a Z Z (getD_eq (ltN c22) h24) Z Z na2 Z (pS 2 Z (nL ?_))))))))
          rcases iE H with ⟨c29, H⟩ | ⟨c29, H⟩
          ·
           refine nB Z (nT c29) (rN 5 Z (G.weak ?_ (f1 e1 (Nat.lt_succ_of_le (lR _)) (Nat.le_of_succ_le h1) _ _ _ H HS)))
           exact ⟨Z, Z, Z, tv⟩
          refine yB Z (nF c29) (rN 2 Z ?_)
          obtain rfl := sI H
          exact rT _ func76 Z Z ⟨Z, HS⟩
         refine yB Z (nF c28) (rN 2 Z ?_)
         obtain rfl := sI H
         exact rT _ func76 Z Z ⟨Z, HS⟩
        refine yB Z (nF c27) (rN 2 Z ?_)
        obtain rfl := sI H
        exact rT _ func76 Z Z ⟨Z, HS⟩
       refine yB Z (nF c26) (rN 2 Z ?_)
       obtain rfl := sI H
       exact rT _ func76 Z Z ⟨Z, HS⟩
      refine yB Z (nF c25) (rN 2 Z ?_)
      obtain rfl := sI H
      exact rT _ func76 Z Z ⟨Z, HS⟩
     refine nB Z (tF c21) (rN 3 Z ?_)
     obtain rfl := sI H
     exact rT _ func76 Z Z ⟨Z, HS⟩
  refine G.weak ?_ (i1 K (lR _) _ _ _ H HS)
  exact ⟨Z, Z, Z, tv⟩
theorem Dh.calls {a_ : List Int} {k_ : Int} {A_a : Option Addr} {c_a : Nat} {r1 : Int} (HS : St w0 w (L)) (r_a : Aq w0 L (Bq .i64) A_a c_a (fun _ => ()) a_) (H : Dh.f K a_ k_ = some r1) :
    Calls prog 77 #[.slice A_a a_.length c_a, I k_] w (Dh.post w0 L r1) := by
  unfold Dh.f at H
  refine cG func77 Z ?_
  refine rN 7 Z ?_
  refine G.name (fun b1 e1 => ?_)
  have f1 : ∀ a1, a1 ≤ K → ∀ (k_4 i_5 : Int) (w : World), Dh.l1 K a1 a_ k_4 i_5 = some r1 → St w0 w (L) → G prog 77 21 [(0, .slice A_a a_.length c_a), (1, I k_4), (5, I i_5)] b1 w (Dh.post w0 L r1) := by
   intro a1
   induction a1 using Nat.strongRecOn with
   | _ a1 d1 =>
    intro g1 k_4 i_5 w H HS
    cases a1 with
    | zero => rw [Dh.l1] at H; cases H
    | succ c1 =>
     rw [Dh.l1] at H
     subst e1
     refine rN 2 Z (rG (pS 2 Z (lS Z Z underlying43 Z (GO.lss Z Z Z Z (nL ?_)))))
     rcases iE H with ⟨c9, H⟩ | ⟨c9, H⟩
     ·
      refine yB Z (tT c9) (rN 5 Z ?_)
      obtain ⟨c10, H⟩ := iN H
      refine rG (pS 2 Z (GO.ix Z Z Z underlying43 sz2 (r_a _ HS).2.2.1 c10.1 c10.2 Z (GO.Fq (T := (Bq .i64)) (n := i_5.toNat) (o := 0) HS r_a Z Z (getD_some (d := 0) (ltN c10)) Z Z na2 Z (pS 2 Z (nL ?_)))))
      rcases iE H with ⟨c11, H⟩ | ⟨c11, H⟩
      ·
       refine nB Z (nT c11) (rN 5 Z (G.weak ?_ (d1 c1 (Nat.lt_succ_of_le (lR _)) (Nat.le_of_succ_le g1) _ _ _ H HS)))
       exact ⟨Z, Z, Z, tv⟩
      refine yB Z (nF c11) (rN 2 Z ?_)
      obtain rfl := sI H
      exact rT _ func77 Z Z ⟨Z, HS⟩
     refine nB Z (tF c9) (rN 3 Z ?_)
     obtain rfl := sI H
     exact rT _ func77 Z Z ⟨Z, HS⟩
  refine G.weak ?_ (f1 K (lR _) _ _ _ H HS)
  exact ⟨Z, Z, Z, tv⟩
theorem Ey.calls {a_ : List Ci} {k_ : Int} {A_a : Option Addr} {c_a : Nat} {r1 : Int} (HS : St w0 w (L)) (r_a : Aq w0 L Cq A_a c_a (fun _ => ()) a_) (H : Ey.f K a_ k_ = some r1) :
    Calls prog 78 #[.slice A_a a_.length c_a, I k_] w (Ey.post w0 L r1) := by
  unfold Ey.f at H
  refine cG func78 Z ?_
  refine rN 7 Z ?_
  refine G.name (fun b1 e1 => ?_)
  have f1 : ∀ a1, a1 ≤ K → ∀ (k_8 i_9 : Int) (w : World), Ey.l1 K a1 a_ k_8 i_9 = some r1 → St w0 w (L) → G prog 78 40 [(0, .slice A_a a_.length c_a), (1, I k_8), (5, I i_9)] b1 w (Ey.post w0 L r1) := by
   intro a1
   induction a1 using Nat.strongRecOn with
   | _ a1 d1 =>
    intro g1 k_8 i_9 w H HS
    cases a1 with
    | zero => rw [Ey.l1] at H; cases H
    | succ c1 =>
     rw [Ey.l1] at H
     subst e1
     refine rN 2 Z (rG (pS 2 Z (lS Z Z underlying60 Z (GO.lss Z Z Z Z (nL ?_)))))
     rcases iE H with ⟨c17, H⟩ | ⟨c17, H⟩
     ·
      refine yB Z (tT c17) (rN 5 Z ?_)
      obtain ⟨c18, H⟩ := iN H
      obtain ⟨e19, h20, H⟩ := Cn H
      refine rG (pS 2 Z (GO.ix Z Z Z underlying60 Q0 (r_a _ HS).2.2.1 c18.1 c18.2 Z (GO.fld (ea A_a (i_9.toNat * 3)) Z Z Nj Z Z (GO.Fq (T := Cq) (n := i_9.toNat) (o := 0) HS r_a Z Z (getD_eq (ltN c18) h20) Z Z na2 Z (pS 2 Z (nL ?_))))))
      rcases iE H with ⟨c21, H⟩ | ⟨c21, H⟩
      ·
       refine nB Z (nT c21) (rN 5 Z (rG (pS 2 Z (GO.ix Z Z Z underlying60 Q0 (r_a _ HS).2.2.1 c18.1 c18.2 Z (GO.fld (ea A_a (i_9.toNat * 3 + 1)) Z Z Nz (F8 _ _ _) Z (GO.Fq (T := Cq) (n := i_9.toNat) (o := 1) HS r_a Z Z (getD_eq (ltN c18) h20) Z Z na2 Z (pS 2 Z (nL ?_))))))))
       rcases iE H with ⟨c22, H⟩ | ⟨c22, H⟩
       ·
        refine nB Z (nT c22) (rN 5 Z (rG (pS 2 Z (GO.ix Z Z Z underlying60 Q0 (r_a _ HS).2.2.1 c18.1 c18.2 Z (GO.fld (ea A_a (i_9.toNat * 3 + 2)) Z Z O7 (F8 _ _ _) Z (GO.Fq (T := Cq) (n := i_9.toNat) (o := 2) HS r_a Z Z (getD_eq (ltN c18) h20) Z Z na2 Z (pS 2 Z (nL ?_))))))))
        rcases iE H with ⟨c23, H⟩ | ⟨c23, H⟩
        ·
         refine nB Z (nT c23) (rN 5 Z (G.weak ?_ (d1 c1 (Nat.lt_succ_of_le (lR _)) (Nat.le_of_succ_le g1) _ _ _ H HS)))
         exact ⟨Z, Z, Z, tv⟩
        refine yB Z (nF c23) (rN 2 Z ?_)
        obtain rfl := sI H
        exact rT _ func78 Z Z ⟨Z, HS⟩
       refine yB Z (nF c22) (rN 2 Z ?_)
       obtain rfl := sI H
       exact rT _ func78 Z Z ⟨Z, HS⟩
      refine yB Z (nF c21) (rN 2 Z ?_)
      obtain rfl := sI H
      exact rT _ func78 Z Z ⟨Z, HS⟩
     refine nB Z (tF c17) (rN 3 Z ?_)
     obtain rfl := sI H
     exact rT _ func78 Z Z ⟨Z, HS⟩
  refine G.weak ?_ (f1 K (lR _) _ _ _ H HS)
  exact ⟨Z, Z, Z, tv⟩
theorem Dm.calls {t : List Am} {o : Int} {A_a : Option Addr} {c_a : Nat} {y_a : Nat → Aa.Lay} {r1 : Int} (HS : St w0 w (L)) (r_a : Aq w0 L Aa A_a c_a y_a t) (H : Dm.f K t o = some r1) :
    Calls prog 36 #[.slice A_a t.length c_a, I o] w (Dm.post w0 L r1) := by
  unfold Dm.f at H
  refine cG func36 Z ?_
  refine rN 7 Z ?_
  refine G.name (fun d1 g1 => ?_)
  have h1 : ∀ b1, b1 ≤ K → ∀ (c1 a1 : Int) (w : World), Dm.l1 K b1 t c1 a1 = some r1 → St w0 w (L) → G prog 36 132 [(0, .slice A_a t.length c_a), (1, I c1), (5, I a1)] d1 w (Dm.post w0 L r1) := by
   intro b1
   induction b1 using Nat.strongRecOn with
   | _ b1 e1 =>
    intro i1 c1 a1 w H HS
    cases b1 with
    | zero => rw [Dm.l1] at H; cases H
    | succ f1 =>
     rw [Dm.l1] at H
     subst g1
     refine rN 2 Z (rG (pS 2 Z (lS Z Z underlying27 Z (GO.lss Z Z Z Z (nL ?_)))))
     rcases iE H with ⟨c91, H⟩ | ⟨c91, H⟩
     ·
      refine yB Z (tT c91) (rN 5 Z ?_)
      obtain ⟨c92, H⟩ := iN H
      obtain ⟨e93, h94, H⟩ := Cn H
      obtain ⟨t95, h96, H⟩ := bI H
      refine G.Oi mixed (fun w => St w0 w (L)) [4] [0, 1, 2, 3, 5, 4, 6, 7] [] (by kernel_rfl) (by kernel_rfl) HS.drew ?_
      replace HS := HS.drew
      refine GX.ps 2 Z (qL Z Z (fun _ _ g => GO.ix Z Z Z underlying27 Jt (r_a _ HS).2.2.1 c92.1 c92.2 Z g) Z (qL Z Z (fun _ _ g => GO.fld (ea A_a (a1.toNat * 12)) Z Z K7 Z Z g) Z (GX.ps 1 Z (GX.ls Z Z Z HS (fun _ HS _ g => GO.Fq (T := Aa) (n := a1.toNat) (o := 0) HS r_a Z Z (getD_eq (ltN c92) h94) Z Z na9 Z g) Z (GX.l2 Z (fN Z func70 fP.1 fP.2 Z Z (Eg.calls HS  h96) (fun _ wd97 ⟨h98, HS⟩ => ⟨_, h98, (GX.fin HS (qL Z Z (fun _ _ g => GO.wF Z Z Z Z g) Z (GX.nil ?_)))⟩)))))))
      rcases iE H with ⟨c99, H⟩ | ⟨c99, H⟩
      ·
       refine nB Z (congrArg Bool.not c99) (rN 5 Z (rG (pS 2 Z (GO.ix Z Z Z underlying27 Jt (r_a _ HS).2.2.1 c92.1 c92.2 Z (GO.fld (ea A_a (a1.toNat * 12 + 1)) Z Z Mk (F8 _ _ _) Z (GO.Fq (T := Aa) (n := a1.toNat) (o := 1) HS r_a Z Z (getD_eq (ltN c92) h94) Z Z na2 Z (pS 2 Z (nL ?_))))))))
       rcases iE H with ⟨c100, H⟩ | ⟨c100, H⟩
       ·
        refine nB Z (nT c100) (rN 4 Z ?_)
        obtain ⟨t101, h102, H⟩ := bI H
        refine rG (pS 2 Z (GO.ix Z Z Z underlying27 Jt (r_a _ HS).2.2.1 c92.1 c92.2 Z (GO.fld (ea A_a (a1.toNat * 12 + 2)) Z Z Nk (F8 _ _ _) Z (GO.fld (ea A_a (a1.toNat * 12 + 2)) Z Z I8 Z Z (GO.Fq (T := Aa) (n := a1.toNat) (o := 2) HS r_a Z Z (getD_eq (ltN c92) h94) Z Z Nt Z (mV Z (fN Z func75 tL.1 tL.2 Z Z (Fg.calls HS (Aq.fld r_a (getD_eq (ltN c92) h94) (fun _ h => h.2.2.1)) h102) (fun _ wd103 ⟨h104, HS⟩ => ⟨_, h104, (aS Z (nL (rN 3 Z ?_)))⟩))))))))
        rcases iE H with ⟨c105, H⟩ | ⟨c105, H⟩
        ·
         refine yB Z (tT c105) (rN 2 Z ?_)
         obtain rfl := sI H
         exact rT _ func36 Z Z ⟨Z, HS⟩
        refine nB Z (tF c105) (rN 2 Z ?_)
        obtain ⟨t106, h107, H⟩ := bI H
        refine rG (pS 2 Z (GO.ix Z Z Z underlying27 Jt (r_a _ HS).2.2.1 c92.1 c92.2 Z (GO.fld (ea A_a (a1.toNat * 12 + 3)) Z Z L8 (F8 _ _ _) Z (GO.fld (ea A_a (a1.toNat * 12 + 3)) Z Z Iu Z Z (GO.Fq (T := Aa) (n := a1.toNat) (o := 3) HS r_a Z Z (getD_eq (ltN c92) h94) Z Z Ni Z (mV Z (fN Z func76 uJ.1 uJ.2 Z Z (Dg.calls HS (Aq.fld r_a (getD_eq (ltN c92) h94) (fun _ h => h.2.2.2.1)) h107) (fun _ wd108 ⟨h109, HS⟩ => ⟨_, h109, (aS Z (nL (rN 3 Z ?_)))⟩))))))))
        rcases iE H with ⟨c110, H⟩ | ⟨c110, H⟩
        ·
         refine yB Z (tT c110) (rN 2 Z ?_)
         obtain rfl := sI H
         exact rT _ func36 Z Z ⟨Z, HS⟩
        refine nB Z (tF c110) (rN 3 Z (rG (pS 2 Z (GO.ix Z Z Z underlying27 Jt (r_a _ HS).2.2.1 c92.1 c92.2 Z (GO.fld (ea A_a (a1.toNat * 12 + 3)) Z Z L8 (F8 _ _ _) Z (GO.fld (ea A_a (a1.toNat * 12 + 4)) Z Z O1 (by rw [F8, Nat.add_assoc]) Z (GO.Fq (T := Aa) (n := a1.toNat) (o := 4) HS r_a Z Z (getD_eq (ltN c92) h94) Z Z na2 Z (pS 2 Z (nL ?_)))))))))
        rcases iE H with ⟨c111, H⟩ | ⟨c111, H⟩
        ·
         refine nB Z (nT c111) (rN 5 Z (rG (pS 2 Z (GO.ix Z Z Z underlying27 Jt (r_a _ HS).2.2.1 c92.1 c92.2 Z (GO.fld (ea A_a (a1.toNat * 12 + 5)) Z Z Ml (F8 _ _ _) Z (GO.fld (ea A_a (a1.toNat * 12 + 5)) Z Z Nl Z Z (GO.Fq (T := Aa) (n := a1.toNat) (o := 5) HS r_a Z Z (getD_eq (ltN c92) h94) Z Z na2 Z (pS 2 Z (nL ?_)))))))))
         rcases iE H with ⟨c112, H⟩ | ⟨c112, H⟩
         ·
          refine nB Z (nT c112) (rN 4 Z ?_)
          obtain ⟨t113, h114, H⟩ := bI H
          refine rG (pS 2 Z (GO.ix Z Z Z underlying27 Jt (r_a _ HS).2.2.1 c92.1 c92.2 Z (GO.fld (ea A_a (a1.toNat * 12 + 5)) Z Z Ml (F8 _ _ _) Z (GO.fld (ea A_a (a1.toNat * 12 + 6)) Z Z Nc (by rw [F8, Nat.add_assoc]) Z (GO.Fq (T := Aa) (n := a1.toNat) (o := 6) HS r_a Z Z (getD_eq (ltN c92) h94) Z Z H7 Z (mV Z (fN Z func77 Yr.1 Yr.2 Z Z (Dh.calls HS (Aq.fld r_a (getD_eq (ltN c92) h94) (fun _ h => h.2.2.2.2.2.2.1)) h114) (fun _ wd115 ⟨h116, HS⟩ => ⟨_, h116, (aS Z (nL (rN 3 Z ?_)))⟩))))))))
          rcases iE H with ⟨c117, H⟩ | ⟨c117, H⟩
          ·
           refine yB Z (tT c117) (rN 2 Z ?_)
           obtain rfl := sI H
           exact rT _ func36 Z Z ⟨Z, HS⟩
          refine nB Z (tF c117) (rN 3 Z (rG (pS 2 Z (GO.ix Z Z Z underlying27 Jt (r_a _ HS).2.2.1 c92.1 c92.2 Z (GO.fld (ea A_a (a1.toNat * 12 + 7)) Z Z K4 (F8 _ _ _) Z (GO.fld (ea A_a (a1.toNat * 12 + 7)) Z Z Mw Z Z (GO.Fq (T := Aa) (n := a1.toNat) (o := 7) HS r_a Z Z (getD_eq (ltN c92) h94) Z Z na2 Z (pS 2 Z (nL ?_)))))))))
          rcases iE H with ⟨c118, H⟩ | ⟨c118, H⟩
          ·
           refine nB Z (nT c118) (rN 5 Z (rG (pS 2 Z (GO.ix Z Z Z underlying27 Jt (r_a _ HS).2.2.1 c92.1 c92.2 Z (GO.fld (ea A_a (a1.toNat * 12 + 7)) Z Z K4 (F8 _ _ _) Z (GO.fld (ea A_a (a1.toNat * 12 + 8)) Z Z M0 (by rw [F8, Nat.add_assoc]) Z (GO.Fq (T := Aa) (n := a1.toNat) (o := 8) HS r_a Z Z (getD_eq (ltN c92) h94) Z Z na2 Z (pS 2 Z (nL ?_)))))))))
           rcases iE H with ⟨c119, H⟩ | ⟨c119, H⟩
           ·
            refine nB Z (nT c119) (rN 4 Z ?_)
            obtain ⟨t120, h121, H⟩ := bI H
            refine rG (pS 2 Z (GO.ix Z Z Z underlying27 Jt (r_a _ HS).2.2.1 c92.1 c92.2 Z (GO.fld (ea A_a (a1.toNat * 12 + 7)) Z Z K4 (F8 _ _ _) Z (GO.fld (ea A_a (a1.toNat * 12 + 9)) Z Z Ir (by rw [F8, Nat.add_assoc]) Z (GO.Fq (T := Aa) (n := a1.toNat) (o := 9) HS r_a Z Z (getD_eq (ltN c92) h94) Z Z Nh Z (mV Z (fN Z func78 uI.1 uI.2 Z Z (Ey.calls HS (Aq.fld r_a (getD_eq (ltN c92) h94) (fun _ h => h.2.2.2.2.2.2.2.2.2.1)) h121) (fun _ wd122 ⟨h123, HS⟩ => ⟨_, h123, (aS Z (nL (rN 3 Z ?_)))⟩))))))))
            rcases iE H with ⟨c124, H⟩ | ⟨c124, H⟩
            ·
             refine yB Z (tT c124) (rN 2 Z ?_)
             obtain rfl := sI H
             exact rT _ func36 Z Z ⟨Z, HS⟩
            refine nB Z (tF c124) (rN 2 Z ?_)
            obtain ⟨t125, h126, H⟩ := bI H
            refine rG (pS 2 Z (GO.ix Z Z Z underlying27 Jt (r_a _ HS).2.2.1 c92.1 c92.2 Z (GO.fld (ea A_a (a1.toNat * 12 + 7)) Z Z K4 (F8 _ _ _) Z (GO.fld (ea A_a (a1.toNat * 12 + 10)) Z Z Je (by rw [F8, Nat.add_assoc]) Z (GO.Fq (T := Aa) (n := a1.toNat) (o := 10) HS r_a Z Z (getD_eq (ltN c92) h94) Z Z H7 Z (mV Z (fN Z func77 Yr.1 Yr.2 Z Z (Dh.calls HS (Aq.fld r_a (getD_eq (ltN c92) h94) (fun _ h => h.2.2.2.2.2.2.2.2.2.2.1)) h126) (fun _ wd127 ⟨h128, HS⟩ => ⟨_, h128, (aS Z (nL (rN 3 Z ?_)))⟩))))))))
            rcases iE H with ⟨c129, H⟩ | ⟨c129, H⟩
            ·
             refine yB Z (tT c129) (rN 2 Z ?_)
             obtain rfl := sI H
             exact rT _ func36 Z Z ⟨Z, HS⟩
            refine nB Z (tF c129) (rN 2 Z ?_)
            obtain ⟨t130, h131, H⟩ := bI H
            refine rG (pS 2 Z (GO.ix Z Z Z underlying27 Jt (r_a _ HS).2.2.1 c92.1 c92.2 Z (GO.fld (ea A_a (a1.toNat * 12 + 7)) Z Z K4 (F8 _ _ _) Z (GO.fld (ea A_a (a1.toNat * 12 + 11)) Z Z Lm (by rw [F8, Nat.add_assoc]) Z (GO.Fq (T := Aa) (n := a1.toNat) (o := 11) HS r_a Z Z (getD_eq (ltN c92) h94) Z Z H7 Z (mV Z (fN Z func77 Yr.1 Yr.2 Z Z (Dh.calls HS (Aq.fld r_a (getD_eq (ltN c92) h94) (fun _ h => h.2.2.2.2.2.2.2.2.2.2.2)) h131) (fun _ wd132 ⟨h133, HS⟩ => ⟨_, h133, (aS Z (nL (rN 2 Z ?_)))⟩))))))))
            rcases iE H with ⟨c134, H⟩ | ⟨c134, H⟩
            ·
             refine yB Z (tT c134) (rN 2 Z ?_)
             obtain rfl := sI H
             exact rT _ func36 Z Z ⟨Z, HS⟩
            refine nB Z (tF c134) (rN 4 Z (G.weak ?_ (e1 f1 (Nat.lt_succ_of_le (lR _)) (Nat.le_of_succ_le i1) _ _ _ H HS)))
            exact ⟨Z, Z, Z, tv⟩
           refine yB Z (nF c119) (rN 2 Z ?_)
           obtain rfl := sI H
           exact rT _ func36 Z Z ⟨Z, HS⟩
          refine yB Z (nF c118) (rN 2 Z ?_)
          obtain rfl := sI H
          exact rT _ func36 Z Z ⟨Z, HS⟩
         refine yB Z (nF c112) (rN 2 Z ?_)
         obtain rfl := sI H
         exact rT _ func36 Z Z ⟨Z, HS⟩
        refine yB Z (nF c111) (rN 2 Z ?_)
        obtain rfl := sI H
        exact rT _ func36 Z Z ⟨Z, HS⟩
       refine yB Z (nF c100) (rN 2 Z ?_)
       obtain rfl := sI H
       exact rT _ func36 Z Z ⟨Z, HS⟩
      refine yB Z (congrArg Bool.not (Ca c99)) (rN 2 Z ?_)
      obtain rfl := sI H
      exact rT _ func36 Z Z ⟨Z, HS⟩
     refine nB Z (tF c91) (rN 3 Z ?_)
     obtain rfl := sI H
     exact rT _ func36 Z Z ⟨Z, HS⟩
  refine G.weak ?_ (h1 K (lR _) _ _ _ H HS)
  exact ⟨Z, Z, Z, tv⟩
theorem Et.calls {a_ : List (List Am)} {k_ : Int} {A_a : Option Addr} {c_a : Nat} {y_a : Nat → (Ty.slice 64 Aa).Lay} {r1 : Int} (HS : St w0 w (L)) (r_a : Aq w0 L (Ty.slice 64 Aa) A_a c_a y_a a_) (H : Et.f K a_ k_ = some r1) :
    Calls prog 37 #[.slice A_a a_.length c_a, I k_] w (Et.post w0 L r1) := by
  unfold Et.f at H
  refine cG func37 Z ?_
  refine rN 7 Z ?_
  refine G.name (fun b1 e1 => ?_)
  have f1 : ∀ a1, a1 ≤ K → ∀ (k_8 i_9 : Int) (w : World), Et.l1 K a1 a_ k_8 i_9 = some r1 → St w0 w (L) → G prog 37 21 [(0, .slice A_a a_.length c_a), (1, I k_8), (5, I i_9)] b1 w (Et.post w0 L r1) := by
   intro a1
   induction a1 using Nat.strongRecOn with
   | _ a1 d1 =>
    intro g1 k_8 i_9 w H HS
    cases a1 with
    | zero => rw [Et.l1] at H; cases H
    | succ c1 =>
     rw [Et.l1] at H
     subst e1
     refine rN 2 Z (rG (pS 2 Z (lS Z Z underlying28 Z (GO.lss Z Z Z Z (nL ?_)))))
     rcases iE H with ⟨c17, H⟩ | ⟨c17, H⟩
     ·
      refine yB Z (tT c17) (rN 4 Z ?_)
      obtain ⟨c18, H⟩ := iN H
      obtain ⟨t19, h20, H⟩ := bI H
      refine rG (pS 2 Z (GO.ix Z Z Z underlying28 V5 (r_a _ HS).2.2.1 c18.1 c18.2 Z (GO.Fq (T := (Ty.slice 64 Aa)) (n := i_9.toNat) (o := 0) HS r_a Z Z (getD_some (d := []) (ltN c18)) Z Z Nq Z (mV Z (fN Z func36 fZ.1 fZ.2 Z Z (Dm.calls HS (Aq.elem r_a c18.1 c18.2) h20) (fun _ wd21 ⟨h22, HS⟩ => ⟨_, h22, (aS Z (nL (rN 2 Z ?_)))⟩))))))
      rcases iE H with ⟨c23, H⟩ | ⟨c23, H⟩
      ·
       refine yB Z (tT c23) (rN 2 Z ?_)
       obtain rfl := sI H
       exact rT _ func37 Z Z ⟨Z, HS⟩
      refine nB Z (tF c23) (rN 4 Z (G.weak ?_ (d1 c1 (Nat.lt_succ_of_le (lR _)) (Nat.le_of_succ_le g1) _ _ _ H HS)))
      exact ⟨Z, Z, Z, tv⟩
     refine nB Z (tF c17) (rN 3 Z ?_)
     obtain rfl := sI H
     exact rT _ func37 Z Z ⟨Z, HS⟩
  refine G.weak ?_ (f1 K (lR _) _ _ _ H HS)
  exact ⟨Z, Z, Z, tv⟩
theorem I7.calls {d1 : List Am} {c1 a1 : List (List Am)} {k_ : Int} {A_a : Option Addr} {c_a : Nat} {y_a : Nat → Aa.Lay} {A_b : Option Addr} {c_b : Nat} {y_b : Nat → (Ty.slice 64 Aa).Lay} {A_c : Option Addr} {c_c : Nat} {y_c : Nat → (Ty.slice 64 Aa).Lay} {r1 : Int} (HS : St w0 w (L)) (r_a : Aq w0 L Aa A_a c_a y_a d1) (r_b : Aq w0 L (Ty.slice 64 Aa) A_b c_b y_b c1) (r_c : Aq w0 L (Ty.slice 64 Aa) A_c c_c y_c a1) (H : I7.f K d1 c1 a1 k_ = some r1) :
    Calls prog 11 #[.agg [.slice A_a d1.length c_a, .slice A_b c1.length c_b, .slice A_c a1.length c_c].toArray, I k_] w (I7.post w0 L r1) := by
  unfold I7.f at H
  refine cG func11 Z ?_
  refine sQ (rG (GO.box (cs := [.slice A_a d1.length c_a, .slice A_b c1.length c_b, .slice A_c a1.length c_c]) HS Z Z Z Z fun b1 wd2 HS => aS Z (nL (sQ ?_))))
  obtain ⟨t3, h4, H⟩ := bI H
  refine rG (fL b1 0 K5 Z (lB 0 HS Z Nq Z (mV Z (fN Z func36 fZ.1 fZ.2 Z Z (Dm.calls HS (rD 1 r_a) h4) (fun _ wd5 ⟨h6, HS⟩ => ⟨_, h6, (aS Z (nL (rN 3 Z ?_)))⟩)))))
  rcases iE H with ⟨c7, H⟩ | ⟨c7, H⟩
  ·
   refine yB Z (tT c7) (rN 2 Z ?_)
   obtain rfl := sI H
   exact rT _ func11 Z Z ⟨Z, (HS.pk 1 [] Z)⟩
  refine nB Z (tF c7) (rN 2 Z ?_)
  obtain ⟨t8, h9, H⟩ := bI H
  refine rG (fL b1 1 Po Z (lB 0 HS Z Qa Z (mV Z (fN Z func37 fK.1 fK.2 Z Z (Et.calls HS (rD 1 r_b) h9) (fun _ wd10 ⟨h11, HS⟩ => ⟨_, h11, (aS Z (nL (rN 3 Z ?_)))⟩)))))
  rcases iE H with ⟨c12, H⟩ | ⟨c12, H⟩
  ·
   refine yB Z (tT c12) (rN 2 Z ?_)
   obtain rfl := sI H
   exact rT _ func11 Z Z ⟨Z, (HS.pk 1 [] Z)⟩
  refine nB Z (tF c12) (rN 2 Z ?_)
  obtain ⟨t13, h14, H⟩ := bI H
  refine rG (fL b1 2 Rc Z (lB 0 HS Z Qa Z (mV Z (fN Z func37 fK.1 fK.2 Z Z (Et.calls HS (rD 1 r_c) h14) (fun _ wd15 ⟨h16, HS⟩ => ⟨_, h16, (aS Z (nL (rN 3 Z ?_)))⟩)))))
  rcases iE H with ⟨c17, H⟩ | ⟨c17, H⟩
  ·
   refine yB Z (tT c17) (rN 2 Z ?_)
   obtain rfl := sI H
   exact rT _ func11 Z Z ⟨Z, (HS.pk 1 [] Z)⟩
  refine nB Z (tF c17) (rN 3 Z ?_)
  obtain rfl := sI H
  exact rT _ func11 Z Z ⟨Z, (HS.pk 1 [] Z)⟩
theorem H6.calls {c1 : List Am} {e1 k1 : List (List Am)} {q1 : ByteArray} {o1 : Int} {a1 : List (List Bt)} {d1 : List Al} {p1 s1 : Int} {h1 : List Int} {n1 t1 : Int} {i1 : List Ci} {m1 g1 : List Int} {A_a : Option Addr} {c_a : Nat} {y_a : Nat → Ez.Lay} {A_b : Option Addr} {c_b : Nat} {y_b : Nat → (Ty.slice 50 Ez).Lay} {A_c : Option Addr} {c_c : Nat} {y_c : Nat → (Ty.slice 50 Ez).Lay} {A_d : Option Addr} {c_d : Nat} {y_d : Nat → (Ty.slice 200 Bc).Lay} {A_e : Option Addr} {c_e : Nat} {A_f : Option Addr} {c_f : Nat} {A_g : Option Addr} {c_g : Nat} {A_h : Option Addr} {c_h : Nat} {A_i : Option Addr} {c_i : Nat} {r1 : Bool} (HS : St w0 w (L)) (r_a : Aq w0 L Ez A_a c_a y_a c1) (r_b : Aq w0 L (Ty.slice 50 Ez) A_b c_b y_b e1) (r_c : Aq w0 L (Ty.slice 50 Ez) A_c c_c y_c k1) (r_d : Aq w0 L (Ty.slice 200 Bc) A_d c_d y_d a1) (r_e : Aq w0 L Bb A_e c_e (fun _ => ()) d1) (r_f : Aq w0 L (Bq .i64) A_f c_f (fun _ => ()) h1) (r_g : Aq w0 L Cq A_g c_g (fun _ => ()) i1) (r_h : Aq w0 L (Bq .i64) A_h c_h (fun _ => ()) m1) (r_i : Aq w0 L (Bq .i64) A_i c_i (fun _ => ()) g1) (H : H6.f K c1 e1 k1 q1 o1 a1 d1 p1 s1 h1 n1 t1 i1 m1 g1 = some r1) :
    Calls prog 4 #[.agg [.slice A_a c1.length c_a, .slice A_b e1.length c_b, .slice A_c k1.length c_c].toArray, .agg [.string q1, I o1, .slice A_d a1.length c_d, .slice A_e d1.length c_e, I p1, I s1, .slice A_f h1.length c_f, I n1, I t1, .slice A_g i1.length c_g, .slice A_h m1.length c_h, .slice A_i g1.length c_i].toArray] w (H6.post w0 L r1) := by
  unfold H6.f at H
  refine cG func4 Z ?_
  refine sQ (rG (GO.box (cs := [.slice A_a c1.length c_a, .slice A_b e1.length c_b, .slice A_c k1.length c_c]) HS Z Z Z Z fun b1 wd2 HS => GO.box (cs := [.string q1, I o1, .slice A_d a1.length c_d, .slice A_e d1.length c_e, I p1, I s1, .slice A_f h1.length c_f, I n1, I t1, .slice A_g i1.length c_g, .slice A_h m1.length c_h, .slice A_i g1.length c_i]) HS Z Z Z Z fun b3 wd4 HS => aS Z (nL (rN 3 Z ?_))))
  obtain ⟨t5, h6, H⟩ := bI H
  refine rG (GO.Bu (j := 1) ([.slice A_a c1.length c_a, .slice A_b e1.length c_b, .slice A_c k1.length c_c]) HS Z Z Z Z nQ Z (mV Z (fN Z func5 wV.1 wV.2 Z Z (Ku.calls HS (rD 2 r_a) (rD 2 r_b) (rD 2 r_c) h6) (fun _ wd7 ⟨h8, HS⟩ => ⟨_, h8, (aS Z (nL (rN 3 Z ?_)))⟩))))
  rcases iE H with ⟨c9, H⟩ | ⟨c9, H⟩
  ·
   refine yB Z (tT c9) (rN 2 Z ?_)
   obtain rfl := sI H
   exact rT _ func4 Z Z ⟨Z, (HS.pk 2 [] Z)⟩
  refine nB Z (tF c9) (rN 2 Z ?_)
  obtain ⟨t10, h11, H⟩ := bI H
  refine rG (GO.Bu (j := 0) ([.string q1, I o1, .slice A_d a1.length c_d, .slice A_e d1.length c_e, I p1, I s1, .slice A_f h1.length c_f, I n1, I t1, .slice A_g i1.length c_g, .slice A_h m1.length c_h, .slice A_i g1.length c_i]) HS Z Z Z Z bZ Z (mV Z (fN Z func12 fU.1 fU.2 Z Z (Kb.calls HS (rD 2 r_d) (rD 2 r_e) (rD 2 r_f) (rD 2 r_g) (rD 2 r_h) (rD 2 r_i) h11) (fun _ wd12 ⟨h13, HS⟩ => ⟨_, h13, (aS Z (nL (rN 3 Z ?_)))⟩))))
  rcases iE H with ⟨c14, H⟩ | ⟨c14, H⟩
  ·
   refine yB Z (tT c14) (rN 2 Z ?_)
   obtain rfl := sI H
   exact rT _ func4 Z Z ⟨Z, (HS.pk 2 [] Z)⟩
  refine nB Z (tF c14) (rN 2 Z ?_)
  obtain ⟨t15, t16, t17, h18, H⟩ := Na H
  obtain ⟨t30, t31, t32, t33, t34, t35, t36, t37, t38, t39, t40, t41, h42, H⟩ := Jw H
  obtain ⟨t58, t59, t60, t61, h62, H⟩ := K6 H
  refine G.Pb mixed (by decide) (fun b a w => ∃ (l3 : Value) (r3 : Value) (q3 : Value) (x3 : Value) (k3 : Value) (s3 : Value) (g3 : Value) (n3 : Value) (i3 : Value) (t3 : Value) (A19 : Option Addr) (c20 : Nat) (y21 : Nat → Aa.Lay) (A22 : Option Addr) (c23 : Nat) (y24 : Nat → (Ty.slice 64 Aa).Lay) (A25 : Option Addr) (c26 : Nat) (y27 : Nat → (Ty.slice 64 Aa).Lay) (A43 : Option Addr) (c44 : Nat) (y45 : Nat → (Ty.slice 157 Bc).Lay) (A46 : Option Addr) (c47 : Nat) (A48 : Option Addr) (c49 : Nat) (A50 : Option Addr) (c51 : Nat) (A52 : Option Addr) (c53 : Nat) (A54 : Option Addr) (c55 : Nat) (A63 : Option Addr) (c64 : Nat) (y65 : Nat → Aa.Lay) (A66 : Option Addr) (c67 : Nat) (y68 : Nat → (Ty.slice 64 Aa).Lay) (A69 : Option Addr) (c70 : Nat) (y71 : Nat → (Ty.slice 64 Aa).Lay) (b74 : Nat) (o4 : Cu) (s4 : Cu) (t4 : Cu) (e4 : Cu) (z4 : Cu) (h4 : Cu) (m4 : Cu) (k4 : Cu) (a4 : Cu) (x4 : Cu) (c4 : Cu) (v4 : Cu) (y3 : Cu), Sat 119 [(6, i3), (7, t3), (27, s3), (28, l3), (29, r3), (30, q3), (31, x3), (32, k3), (33, g3), (34, n3), (2, .pointer (some ⟨b1, 0, none⟩)), (3, .pointer (some ⟨b3, 0, none⟩))] a ∧ St w0 w (Box b3 50 [.string q1, I o1, .slice A_d a1.length c_d, .slice A_e d1.length c_e, I p1, I s1, .slice A_f h1.length c_f, I n1, I t1, .slice A_g i1.length c_g, .slice A_h m1.length c_h, .slice A_i g1.length c_i] :: Box b1 25 [.slice A_a c1.length c_a, .slice A_b e1.length c_b, .slice A_c k1.length c_c] :: o4 :: s4 :: t4 :: e4 :: z4 :: h4 :: m4 :: k4 :: a4 :: x4 :: c4 :: v4 :: y3 :: L) ∧ (b 8 = true → i3 = (.pointer (some ⟨b74, 0, none⟩))) ∧ (b 10 = true → t3 = (I t61)) ∧ (b 5 = true → s3 = (.tuple #[.agg [.slice A63 t58.length c64, .slice A66 t59.length c67, .slice A69 t60.length c70].toArray, I t61])) ∧ (b 0 = true → l3 = (.agg [.slice A_a c1.length c_a, .slice A_b e1.length c_b, .slice A_c k1.length c_c].toArray)) ∧ (b 1 = true → r3 = (.agg [.slice A19 t15.length c20, .slice A22 t16.length c23, .slice A25 t17.length c26].toArray)) ∧ (b 2 = true → q3 = (.agg [.string q1, I o1, .slice A_d a1.length c_d, .slice A_e d1.length c_e, I p1, I s1, .slice A_f h1.length c_f, I n1, I t1, .slice A_g i1.length c_g, .slice A_h m1.length c_h, .slice A_i g1.length c_i].toArray)) ∧ (b 3 = true → x3 = (.agg [.string t30, I t31, .slice A43 t32.length c44, .slice A46 t33.length c47, I t34, I t35, .slice A48 t36.length c49, I t37, I t38, .slice A50 t39.length c51, .slice A52 t40.length c53, .slice A54 t41.length c55].toArray)) ∧ (b 4 = true → k3 = (.tuple #[.agg [.slice A63 t58.length c64, .slice A66 t59.length c67, .slice A69 t60.length c70].toArray, I t61])) ∧ (b 6 = true → g3 = (.agg [.slice A63 t58.length c64, .slice A66 t59.length c67, .slice A69 t60.length c70].toArray)) ∧ (b 7 = true → n3 = (I t61)) ∧ (b 1 = true → o4 = Own Aa 64 A19 c20 y21 t15) ∧ (b 1 = true → s4 = Own (Ty.slice 64 Aa) 27 A22 c23 y24 t16) ∧ (b 1 = true → t4 = Own (Ty.slice 64 Aa) 27 A25 c26 y27 t17) ∧ (b 3 = true → e4 = Own (Ty.slice 157 Bc) 150 A43 c44 y45 t32) ∧ (b 3 = true → z4 = Own Bb 152 A46 c47 (fun _ => ()) t33) ∧ (b 3 = true → h4 = Own (Bq .i64) 2 A48 c49 (fun _ => ()) t36) ∧ (b 3 = true → m4 = Own Cq 140 A50 c51 (fun _ => ()) t39) ∧ (b 3 = true → k4 = Own (Bq .i64) 2 A52 c53 (fun _ => ()) t40) ∧ (b 3 = true → a4 = Own (Bq .i64) 2 A54 c55 (fun _ => ()) t41) ∧ (b 4 = true → x4 = Own Aa 64 A63 c64 y65 t58) ∧ (b 4 = true → c4 = Own (Ty.slice 64 Aa) 27 A66 c67 y68 t59) ∧ (b 4 = true → v4 = Own (Ty.slice 64 Aa) 27 A69 c70 y71 t60) ∧ (b 8 = true → b 9 = false → y3 = Box b74 30 [.slice none 0 0, .slice none 0 0, .slice none 0 0]) ∧ (b 9 = true → y3 = Box b74 30 [.slice A63 t58.length c64, .slice A66 t59.length c67, .slice A69 t60.length c70])) ?_ ?_ ?_
  ·
   intro a hs
   obtain ⟨i3, hs⟩ := hs.ext (d := 6) Z
   obtain ⟨t3, hs⟩ := hs.ext (d := 7) Z
   obtain ⟨s3, hs⟩ := hs.ext (d := 27) Z
   obtain ⟨l3, hs⟩ := hs.ext (d := 28) Z
   obtain ⟨r3, hs⟩ := hs.ext (d := 29) Z
   obtain ⟨q3, hs⟩ := hs.ext (d := 30) Z
   obtain ⟨x3, hs⟩ := hs.ext (d := 31) Z
   obtain ⟨k3, hs⟩ := hs.ext (d := 32) Z
   obtain ⟨g3, hs⟩ := hs.ext (d := 33) Z
   obtain ⟨n3, hs⟩ := hs.ext (d := 34) Z
   exact ⟨l3, r3, q3, x3, k3, s3, g3, n3, i3, t3, none, 0, (fun _ => ((), (), ⟨none, 0, (fun _ => ⟨none, 0, (fun _ => ())⟩)⟩, ⟨none, 0, (fun _ => ())⟩, (), (), ⟨none, 0, (fun _ => ())⟩, (), (), ⟨none, 0, (fun _ => ())⟩, ⟨none, 0, (fun _ => ())⟩, ⟨none, 0, (fun _ => ())⟩)), none, 0, (fun _ => ⟨none, 0, (fun _ => ((), (), ⟨none, 0, (fun _ => ⟨none, 0, (fun _ => ())⟩)⟩, ⟨none, 0, (fun _ => ())⟩, (), (), ⟨none, 0, (fun _ => ())⟩, (), (), ⟨none, 0, (fun _ => ())⟩, ⟨none, 0, (fun _ => ())⟩, ⟨none, 0, (fun _ => ())⟩))⟩), none, 0, (fun _ => ⟨none, 0, (fun _ => ((), (), ⟨none, 0, (fun _ => ⟨none, 0, (fun _ => ())⟩)⟩, ⟨none, 0, (fun _ => ())⟩, (), (), ⟨none, 0, (fun _ => ())⟩, (), (), ⟨none, 0, (fun _ => ())⟩, ⟨none, 0, (fun _ => ())⟩, ⟨none, 0, (fun _ => ())⟩))⟩), none, 0, (fun _ => ⟨none, 0, (fun _ => ())⟩), none, 0, none, 0, none, 0, none, 0, none, 0, none, 0, (fun _ => ((), (), ⟨none, 0, (fun _ => ⟨none, 0, (fun _ => ())⟩)⟩, ⟨none, 0, (fun _ => ())⟩, (), (), ⟨none, 0, (fun _ => ())⟩, (), (), ⟨none, 0, (fun _ => ())⟩, ⟨none, 0, (fun _ => ())⟩, ⟨none, 0, (fun _ => ())⟩)), none, 0, (fun _ => ⟨none, 0, (fun _ => ((), (), ⟨none, 0, (fun _ => ⟨none, 0, (fun _ => ())⟩)⟩, ⟨none, 0, (fun _ => ())⟩, (), (), ⟨none, 0, (fun _ => ())⟩, (), (), ⟨none, 0, (fun _ => ())⟩, ⟨none, 0, (fun _ => ())⟩, ⟨none, 0, (fun _ => ())⟩))⟩), none, 0, (fun _ => ⟨none, 0, (fun _ => ((), (), ⟨none, 0, (fun _ => ⟨none, 0, (fun _ => ())⟩)⟩, ⟨none, 0, (fun _ => ())⟩, (), (), ⟨none, 0, (fun _ => ())⟩, (), (), ⟨none, 0, (fun _ => ())⟩, ⟨none, 0, (fun _ => ())⟩, ⟨none, 0, (fun _ => ())⟩))⟩), 0, Emp, Emp, Emp, Emp, Emp, Emp, Emp, Emp, Emp, Emp, Emp, Emp, Emp, hs.weak ⟨Z, Z, Z, Z, Z, Z, Z, Z, Z, Z, Z, Z, tv⟩, (HS.drew.emp.emp.emp.emp.emp.emp.emp.emp.emp.emp.emp.emp.emp.pk 15 [13, 14, 12, 11, 10, 9, 8, 7, 6, 5, 4, 3, 2, 1, 0] Z), fun h => Bool.noConfusion h, fun h => Bool.noConfusion h, fun h => Bool.noConfusion h, fun h => Bool.noConfusion h, fun h => Bool.noConfusion h, fun h => Bool.noConfusion h, fun h => Bool.noConfusion h, fun h => Bool.noConfusion h, fun h => Bool.noConfusion h, fun h => Bool.noConfusion h, fun h => Bool.noConfusion h, fun h => Bool.noConfusion h, fun h => Bool.noConfusion h, fun h => Bool.noConfusion h, fun h => Bool.noConfusion h, fun h => Bool.noConfusion h, fun h => Bool.noConfusion h, fun h => Bool.noConfusion h, fun h => Bool.noConfusion h, fun h => Bool.noConfusion h, fun h => Bool.noConfusion h, fun h => Bool.noConfusion h, fun h => Bool.noConfusion h, fun h => Bool.noConfusion h⟩
  ·
   intro j hj b a w
   refine exI fun l3 => exI fun r3 => exI fun q3 => exI fun x3 => exI fun k3 => exI fun s3 => exI fun g3 => exI fun n3 => exI fun i3 => exI fun t3 => exI fun A19 => exI fun c20 => exI fun y21 => exI fun A22 => exI fun c23 => exI fun y24 => exI fun A25 => exI fun c26 => exI fun y27 => exI fun A43 => exI fun c44 => exI fun y45 => exI fun A46 => exI fun c47 => exI fun A48 => exI fun c49 => exI fun A50 => exI fun c51 => exI fun A52 => exI fun c53 => exI fun A54 => exI fun c55 => exI fun A63 => exI fun c64 => exI fun y65 => exI fun A66 => exI fun c67 => exI fun y68 => exI fun A69 => exI fun c70 => exI fun y71 => exI fun b74 => exI fun o4 => exI fun s4 => exI fun t4 => exI fun e4 => exI fun z4 => exI fun h4 => exI fun m4 => exI fun k4 => exI fun a4 => exI fun x4 => exI fun c4 => exI fun v4 => exI fun y3 => anI fun hs => anI fun HS => anI fun f8 => anI fun f10 => anI fun f5 => anI fun f0 => anI fun f1 => anI fun f2 => anI fun f3 => anI fun f4 => anI fun f6 => anI fun f7 => anI fun v1 => anI fun d2 => anI fun a2 => anI fun x1 => anI fun k2 => anI fun p2 => anI fun o2 => anI fun b2 => anI fun m2 => anI fun s2 => anI fun r2 => anI fun v2 => anI fun x2 => fun z2 hb hd hcl => ?_
   match j, hj with
   | 0, _ =>
    refine GO.at hs (GO.Bu (j := 1) ([.slice A_a c1.length c_a, .slice A_b e1.length c_b, .slice A_c k1.length c_c]) HS Z Z Z Z nQ Z (GO.fin (fun a hs => ⟨(.agg [.slice A_a c1.length c_a, .slice A_b e1.length c_b, .slice A_c k1.length c_c].toArray), _, _, _, _, _, _, _, _, _, A19, c20, y21, A22, c23, y24, A25, c26, y27, A43, c44, y45, A46, c47, A48, c49, A50, c51, A52, c53, A54, c55, A63, c64, y65, A66, c67, y68, A69, c70, y71, b74, _, _, _, _, _, _, _, _, _, _, _, _, _, by exact hs.setAt 3 Z, HS, f8, f10, f5, fun _ => Z, f1, f2, f3, f4, f6, f7, v1, d2, a2, x1, k2, p2, o2, b2, m2, s2, r2, v2, x2, z2⟩)))
   | 1, _ =>
    have hb0 : b 0 = true := hd 0 (by decide)
    obtain rfl := f0 hb0
    refine GO.at hs (fN Z func7 bD.1 bD.2 Z Z (H9.calls HS (rD 15 r_a) (rD 15 r_b) (rD 15 r_c) h18) (fun _ wd28 ⟨A19, c20, y21, A22, c23, y24, A25, c26, y27, h29, HS⟩ => ⟨_, h29, (GO.fin (fun a hs => ⟨_, (.agg [.slice A19 t15.length c20, .slice A22 t16.length c23, .slice A25 t17.length c26].toArray), _, _, _, _, _, _, _, _, A19, c20, y21, A22, c23, y24, A25, c26, y27, A43, c44, y45, A46, c47, A48, c49, A50, c51, A52, c53, A54, c55, A63, c64, y65, A66, c67, y68, A69, c70, y71, b74, Own Aa 64 A19 c20 y21 t15, Own (Ty.slice 64 Aa) 27 A22 c23 y24 t16, Own (Ty.slice 64 Aa) 27 A25 c26 y27 t17, _, _, _, _, _, _, _, _, _, _, by exact hs.setAt 4 Z, HS.pk 18 [3, 4, 0, 1, 2, 8, 9, 10, 11, 12, 13, 14, 15, 16, 17] Z, f8, f10, f5, f0, fun _ => Z, f2, f3, f4, f6, f7, fun _ => Z, fun _ => Z, fun _ => Z, x1, k2, p2, o2, b2, m2, s2, r2, v2, x2, z2⟩))⟩))
   | 2, _ =>
    refine GO.at hs (GO.Bu (j := 0) ([.string q1, I o1, .slice A_d a1.length c_d, .slice A_e d1.length c_e, I p1, I s1, .slice A_f h1.length c_f, I n1, I t1, .slice A_g i1.length c_g, .slice A_h m1.length c_h, .slice A_i g1.length c_i]) HS Z Z Z Z bZ Z (GO.fin (fun a hs => ⟨_, _, (.agg [.string q1, I o1, .slice A_d a1.length c_d, .slice A_e d1.length c_e, I p1, I s1, .slice A_f h1.length c_f, I n1, I t1, .slice A_g i1.length c_g, .slice A_h m1.length c_h, .slice A_i g1.length c_i].toArray), _, _, _, _, _, _, _, A19, c20, y21, A22, c23, y24, A25, c26, y27, A43, c44, y45, A46, c47, A48, c49, A50, c51, A52, c53, A54, c55, A63, c64, y65, A66, c67, y68, A69, c70, y71, b74, _, _, _, _, _, _, _, _, _, _, _, _, _, by exact hs.setAt 5 Z, HS, f8, f10, f5, f0, f1, fun _ => Z, f3, f4, f6, f7, v1, d2, a2, x1, k2, p2, o2, b2, m2, s2, r2, v2, x2, z2⟩)))
   | 3, _ =>
    have hb2 : b 2 = true := hd 2 (by decide)
    obtain rfl := f2 hb2
    refine GO.at hs (fN Z func14 R9.1 R9.2 Z Z (Gy.calls HS (rD 15 r_d) (rD 15 r_e) (rD 15 r_f) (rD 15 r_g) (rD 15 r_h) (rD 15 r_i) h42) (fun _ wd56 ⟨A43, c44, y45, A46, c47, A48, c49, A50, c51, A52, c53, A54, c55, h57, HS⟩ => ⟨_, h57, (GO.fin (fun a hs => ⟨_, _, _, (.agg [.string t30, I t31, .slice A43 t32.length c44, .slice A46 t33.length c47, I t34, I t35, .slice A48 t36.length c49, I t37, I t38, .slice A50 t39.length c51, .slice A52 t40.length c53, .slice A54 t41.length c55].toArray), _, _, _, _, _, _, A19, c20, y21, A22, c23, y24, A25, c26, y27, A43, c44, y45, A46, c47, A48, c49, A50, c51, A52, c53, A54, c55, A63, c64, y65, A66, c67, y68, A69, c70, y71, b74, _, _, _, Own (Ty.slice 157 Bc) 150 A43 c44 y45 t32, Own Bb 152 A46 c47 (fun _ => ()) t33, Own (Bq .i64) 2 A48 c49 (fun _ => ()) t36, Own Cq 140 A50 c51 (fun _ => ()) t39, Own (Bq .i64) 2 A52 c53 (fun _ => ()) t40, Own (Bq .i64) 2 A54 c55 (fun _ => ()) t41, _, _, _, _, by exact hs.setAt 6 Z, HS.pk 21 [6, 7, 8, 9, 10, 0, 1, 2, 3, 4, 5, 17, 18, 19, 20] Z, f8, f10, f5, f0, f1, f2, fun _ => Z, f4, f6, f7, v1, d2, a2, fun _ => Z, fun _ => Z, fun _ => Z, fun _ => Z, fun _ => Z, fun _ => Z, s2, r2, v2, x2, z2⟩))⟩))
   | 4, _ =>
    have hb1 : b 1 = true := hd 1 (by decide)
    obtain rfl := f1 hb1
    have hb3 : b 3 = true := hd 3 (by decide)
    obtain rfl := f3 hb3
    obtain rfl := v1 hb1
    obtain rfl := d2 hb1
    obtain rfl := a2 hb1
    obtain rfl := x1 hb3
    obtain rfl := k2 hb3
    obtain rfl := p2 hb3
    obtain rfl := o2 hb3
    obtain rfl := b2 hb3
    obtain rfl := m2 hb3
    refine GO.at hs (fN Z func13 sO.1 sO.2 Z Z (Be.calls HS (Aq.own (j := 2) Z) (Aq.own (j := 3) Z) (Aq.own (j := 4) Z) (Aq.own (j := 5) Z) (Aq.own (j := 6) Z) (Aq.own (j := 7) Z) (Aq.own (j := 8) Z) (Aq.own (j := 9) Z) (Aq.own (j := 10) Z) h62) (fun _ wd72 ⟨A63, c64, y65, A66, c67, y68, A69, c70, y71, h73, HS⟩ => ⟨_, h73, (GO.fin (fun a hs => ⟨_, _, _, _, (.tuple #[.agg [.slice A63 t58.length c64, .slice A66 t59.length c67, .slice A69 t60.length c70].toArray, I t61]), _, _, _, _, _, A19, c20, y21, A22, c23, y24, A25, c26, y27, A43, c44, y45, A46, c47, A48, c49, A50, c51, A52, c53, A54, c55, A63, c64, y65, A66, c67, y68, A69, c70, y71, b74, _, _, _, _, _, _, _, _, _, Own Aa 64 A63 c64 y65 t58, Own (Ty.slice 64 Aa) 27 A66 c67 y68 t59, Own (Ty.slice 64 Aa) 27 A69 c70 y71 t60, _, by exact hs.setAt 7 Z, HS.pk 18 [3, 4, 5, 6, 7, 8, 9, 10, 11, 12, 13, 0, 1, 2, 17] Z, f8, f10, fun hh => (Bool.noConfusion ((hcl 5 (by decide) hh 4 (by decide)).symm.trans hb)), f0, f1, f2, f3, fun _ => Z, fun hh => (Bool.noConfusion ((hcl 5 (by decide) (hcl 6 (by decide) hh 5 (by decide)) 4 (by decide)).symm.trans hb)), f7, v1, d2, a2, x1, k2, p2, o2, b2, m2, fun _ => Z, fun _ => Z, fun _ => Z, x2, fun hh => (Bool.noConfusion ((hcl 9 (by decide) hh 4 (by decide)).symm.trans hb))⟩))⟩))
   | 5, _ =>
    have hb4 : b 4 = true := hd 4 (by decide)
    obtain rfl := f4 hb4
    refine GO.at hs (mV Z (GO.fin (fun a hs => ⟨_, _, _, _, _, (.tuple #[.agg [.slice A63 t58.length c64, .slice A66 t59.length c67, .slice A69 t60.length c70].toArray, I t61]), _, _, _, _, A19, c20, y21, A22, c23, y24, A25, c26, y27, A43, c44, y45, A46, c47, A48, c49, A50, c51, A52, c53, A54, c55, A63, c64, y65, A66, c67, y68, A69, c70, y71, b74, _, _, _, _, _, _, _, _, _, _, _, _, _, by exact hs.setAt 2 Z, HS, f8, f10, fun _ => Z, f0, f1, f2, f3, f4, f6, f7, v1, d2, a2, x1, k2, p2, o2, b2, m2, s2, r2, v2, x2, z2⟩)))
   | 6, _ =>
    have hb5 : b 5 = true := hd 5 (by decide)
    obtain rfl := f5 hb5
    refine GO.at hs (GO.extract Z Z Z Z (GO.fin (fun a hs => ⟨_, _, _, _, _, _, (.agg [.slice A63 t58.length c64, .slice A66 t59.length c67, .slice A69 t60.length c70].toArray), _, _, _, A19, c20, y21, A22, c23, y24, A25, c26, y27, A43, c44, y45, A46, c47, A48, c49, A50, c51, A52, c53, A54, c55, A63, c64, y65, A66, c67, y68, A69, c70, y71, b74, _, _, _, _, _, _, _, _, _, _, _, _, _, by exact hs.setAt 8 Z, HS, f8, f10, f5, f0, f1, f2, f3, f4, fun _ => Z, f7, v1, d2, a2, x1, k2, p2, o2, b2, m2, s2, r2, v2, x2, z2⟩)))
   | 7, _ =>
    have hb5 : b 5 = true := hd 5 (by decide)
    obtain rfl := f5 hb5
    refine GO.at hs (GO.extract Z Z Z Z (GO.fin (fun a hs => ⟨_, _, _, _, _, _, _, (I t61), _, _, A19, c20, y21, A22, c23, y24, A25, c26, y27, A43, c44, y45, A46, c47, A48, c49, A50, c51, A52, c53, A54, c55, A63, c64, y65, A66, c67, y68, A69, c70, y71, b74, _, _, _, _, _, _, _, _, _, _, _, _, _, by exact hs.setAt 9 Z, HS, f8, f10, f5, f0, f1, f2, f3, f4, f6, fun _ => Z, v1, d2, a2, x1, k2, p2, o2, b2, m2, s2, r2, v2, x2, z2⟩)))
   | 8, _ =>
    refine GO.at hs (GO.alloc HS Z Xn Z Z fun b74 wd75 HS => GO.fin (fun a hs => ⟨_, _, _, _, _, _, _, _, (.pointer (some ⟨b74, 0, none⟩)), _, A19, c20, y21, A22, c23, y24, A25, c26, y27, A43, c44, y45, A46, c47, A48, c49, A50, c51, A52, c53, A54, c55, A63, c64, y65, A66, c67, y68, A69, c70, y71, b74, _, _, _, _, _, _, _, _, _, _, _, _, Box b74 30 [.slice none 0 0, .slice none 0 0, .slice none 0 0], by exact hs.setAt 0 Z, HS.pk 16 [1, 2, 3, 4, 5, 6, 7, 8, 9, 10, 11, 12, 13, 14, 0] Z, fun _ => Z, f10, f5, f0, f1, f2, f3, f4, f6, f7, v1, d2, a2, x1, k2, p2, o2, b2, m2, s2, r2, v2, fun _ _ => Z, fun hh => (Bool.noConfusion ((hcl 9 (by decide) hh 8 (by decide)).symm.trans hb))⟩))
   | 9, _ =>
    have hb8 : b 8 = true := hd 8 (by decide)
    obtain rfl := f8 hb8
    have hb6 : b 6 = true := hd 6 (by decide)
    obtain rfl := f6 hb6
    obtain rfl := x2 hb8 hb
    refine GO.at hs (GO.C8 (j := 14) (vs := [.slice A63 t58.length c64, .slice A66 t59.length c67, .slice A69 t60.length c70]) ([.slice A63 t58.length c64, .slice A66 t59.length c67, .slice A69 t60.length c70]) HS Z Z Z Z Z (htA Km) Z Z Z fun wd76 HS => GO.fin (fun a hs => ⟨_, _, _, _, _, _, _, _, _, _, A19, c20, y21, A22, c23, y24, A25, c26, y27, A43, c44, y45, A46, c47, A48, c49, A50, c51, A52, c53, A54, c55, A63, c64, y65, A66, c67, y68, A69, c70, y71, b74, _, _, _, _, _, _, _, _, _, _, _, _, Box b74 30 [.slice A63 t58.length c64, .slice A66 t59.length c67, .slice A69 t60.length c70], hs, HS, f8, f10, f5, f0, f1, f2, f3, f4, f6, f7, v1, d2, a2, x1, k2, p2, o2, b2, m2, s2, r2, v2, fun _ h => Bool.noConfusion h, fun _ => Z⟩))
   | 10, _ =>
    have hb7 : b 7 = true := hd 7 (by decide)
    obtain rfl := f7 hb7
    refine GO.at hs (aS Z (GO.fin (fun a hs => ⟨_, _, _, _, _, _, _, _, _, (I t61), A19, c20, y21, A22, c23, y24, A25, c26, y27, A43, c44, y45, A46, c47, A48, c49, A50, c51, A52, c53, A54, c55, A63, c64, y65, A66, c67, y68, A69, c70, y71, b74, _, _, _, _, _, _, _, _, _, _, _, _, _, by exact hs.setAt 1 Z, HS, f8, fun _ => Z, f5, f0, f1, f2, f3, f4, f6, f7, v1, d2, a2, x1, k2, p2, o2, b2, m2, s2, r2, v2, x2, z2⟩)))
   | k + 11, hj => exact absurd hj (Nat.not_lt.2 (Nat.le_add_left 11 k))
  ·
   intro b a w hall
   refine exI fun l3 => exI fun r3 => exI fun q3 => exI fun x3 => exI fun k3 => exI fun s3 => exI fun g3 => exI fun n3 => exI fun i3 => exI fun t3 => exI fun A19 => exI fun c20 => exI fun y21 => exI fun A22 => exI fun c23 => exI fun y24 => exI fun A25 => exI fun c26 => exI fun y27 => exI fun A43 => exI fun c44 => exI fun y45 => exI fun A46 => exI fun c47 => exI fun A48 => exI fun c49 => exI fun A50 => exI fun c51 => exI fun A52 => exI fun c53 => exI fun A54 => exI fun c55 => exI fun A63 => exI fun c64 => exI fun y65 => exI fun A66 => exI fun c67 => exI fun y68 => exI fun A69 => exI fun c70 => exI fun y71 => exI fun b74 => exI fun o4 => exI fun s4 => exI fun t4 => exI fun e4 => exI fun z4 => exI fun h4 => exI fun m4 => exI fun k4 => exI fun a4 => exI fun x4 => exI fun c4 => exI fun v4 => exI fun y3 => anI fun hs => anI fun HS => anI fun f8 => anI fun f10 => anI fun f5 => anI fun f0 => anI fun f1 => anI fun f2 => anI fun f3 => anI fun f4 => anI fun f6 => anI fun f7 => anI fun v1 => anI fun d2 => anI fun a2 => anI fun x1 => anI fun k2 => anI fun p2 => anI fun o2 => anI fun b2 => anI fun m2 => anI fun s2 => anI fun r2 => anI fun v2 => anI fun x2 => fun z2 => ?_
   obtain rfl := f8 (hall 8 (by decide))
   obtain rfl := f10 (hall 10 (by decide))
   obtain rfl := f5 (hall 5 (by decide))
   obtain rfl := f0 (hall 0 (by decide))
   obtain rfl := f1 (hall 1 (by decide))
   obtain rfl := f2 (hall 2 (by decide))
   obtain rfl := f3 (hall 3 (by decide))
   obtain rfl := f4 (hall 4 (by decide))
   obtain rfl := f6 (hall 6 (by decide))
   obtain rfl := f7 (hall 7 (by decide))
   obtain rfl := v1 (hall 1 (by decide))
   obtain rfl := d2 (hall 1 (by decide))
   obtain rfl := a2 (hall 1 (by decide))
   obtain rfl := x1 (hall 3 (by decide))
   obtain rfl := k2 (hall 3 (by decide))
   obtain rfl := p2 (hall 3 (by decide))
   obtain rfl := o2 (hall 3 (by decide))
   obtain rfl := b2 (hall 3 (by decide))
   obtain rfl := m2 (hall 3 (by decide))
   obtain rfl := s2 (hall 4 (by decide))
   obtain rfl := r2 (hall 4 (by decide))
   obtain rfl := v2 (hall 4 (by decide))
   obtain rfl := z2 (hall 9 (by decide))
   refine G.at hs (sQ ?_)
   obtain ⟨t77, t78, t79, h80, H⟩ := Na H
   refine rG (GO.Bu (j := 1) ([.slice A_a c1.length c_a, .slice A_b e1.length c_b, .slice A_c k1.length c_c]) HS Z Z Z Z nQ Z (fN Z func7 bD.1 bD.2 Z Z (H9.calls HS (rD 15 r_a) (rD 15 r_b) (rD 15 r_c) h80) (fun _ wd90 ⟨A81, c82, y83, A84, c85, y86, A87, c88, y89, h91, HS⟩ => ⟨_, h91, (GO.alloc HS Z Xn Z Z fun b92 wd93 HS => GO.C8 (j := 0) (vs := [.slice A81 t77.length c82, .slice A84 t78.length c85, .slice A87 t79.length c88]) ([.slice A81 t77.length c82, .slice A84 t78.length c85, .slice A87 t79.length c88]) HS Z Z Z Z Z (htA Km) Z Z Z fun wd94 HS => nL (sQ ?_))⟩)))
   obtain ⟨t95, t96, t97, t98, t99, t100, t101, t102, t103, t104, t105, t106, h107, H⟩ := Jw H
   refine rG (GO.Bu (j := 4) ([.string q1, I o1, .slice A_d a1.length c_d, .slice A_e d1.length c_e, I p1, I s1, .slice A_f h1.length c_f, I n1, I t1, .slice A_g i1.length c_g, .slice A_h m1.length c_h, .slice A_i g1.length c_i]) HS Z Z Z Z bZ Z (fN Z func14 R9.1 R9.2 Z Z (Gy.calls HS (rD 19 r_d) (rD 19 r_e) (rD 19 r_f) (rD 19 r_g) (rD 19 r_h) (rD 19 r_i) h107) (fun _ wd121 ⟨A108, c109, y110, A111, c112, A113, c114, A115, c116, A117, c118, A119, c120, h122, HS⟩ => ⟨_, h122, (GO.alloc HS Z dJ Z Z fun b123 wd124 HS => GO.C8 (j := 0) (vs := [.string t95, I t96, .slice A108 t97.length c109, .slice A111 t98.length c112, I t99, I t100, .slice A113 t101.length c114, I t102, I t103, .slice A115 t104.length c116, .slice A117 t105.length c118, .slice A119 t106.length c120]) ([.string t95, I t96, .slice A108 t97.length c109, .slice A111 t98.length c112, I t99, I t100, .slice A113 t101.length c114, I t102, I t103, .slice A115 t104.length c116, .slice A117 t105.length c118, .slice A119 t106.length c120]) HS Z Z Z Z Z (htA Mq) Z Z Z fun wd125 HS => nL (sQ ?_))⟩)))
   obtain ⟨t126, t127, t128, t129, h130, H⟩ := K6 H
   refine rG (GO.Bu (j := 7) ([.slice A81 t77.length c82, .slice A84 t78.length c85, .slice A87 t79.length c88]) HS Z Z Z Z Km Z (GO.Bu (j := 0) ([.string t95, I t96, .slice A108 t97.length c109, .slice A111 t98.length c112, I t99, I t100, .slice A113 t101.length c114, I t102, I t103, .slice A115 t104.length c116, .slice A117 t105.length c118, .slice A119 t106.length c120]) HS Z Z Z Z Mq Z (fN Z func15 fV.1 fV.2 Z Z (Cw.calls HS (Aq.own (j := 8) Z) (Aq.own (j := 9) Z) (Aq.own (j := 10) Z) (Aq.own (j := 1) Z) (Aq.own (j := 2) Z) (Aq.own (j := 3) Z) (Aq.own (j := 4) Z) (Aq.own (j := 5) Z) (Aq.own (j := 6) Z) h130) (fun _ wd140 ⟨A131, c132, y133, A134, c135, y136, A137, c138, y139, h141, HS⟩ => ⟨_, h141, (pS 3 Z (GO.alloc HS Z Xn Z Z fun b142 wd143 HS => GO.C8 (j := 0) (vs := [.slice A131 t126.length c132, .slice A134 t127.length c135, .slice A137 t128.length c138]) ([.slice A131 t126.length c132, .slice A134 t127.length c135, .slice A137 t128.length c138]) HS Z Z Z Z Z (htA Km) Z Z Z fun wd144 HS => aS Z (nL (rN 2 Z ?_))))⟩))))
   obtain ⟨t150, h151, H⟩ := bI H
   rcases iE H with ⟨c154, H⟩ | ⟨c154, H⟩
   ·
    refine rG (GO.Bu (j := 0) ([.slice A131 t126.length c132, .slice A134 t127.length c135, .slice A137 t128.length c138]) HS Z Z Z Z Km Z (GO.Bu (j := 29) ([.slice A63 t58.length c64, .slice A66 t59.length c67, .slice A69 t60.length c70]) HS Z Z Z Z Km Z (fN Z func9 Tf.1 Tf.2 Z Z (Gq.calls HS (Aq.own (j := 1) Z) (Aq.own (j := 2) Z) (Aq.own (j := 3) Z) (Aq.own (j := 26) Z) (Aq.own (j := 27) Z) (Aq.own (j := 28) Z) h151) (fun _ wd152 ⟨h153, HS⟩ => ⟨_, h153, (pS 2 Z (kN 49 Z (congrArg Bool.not c154) (oN Z (mV Z (bK (oN Z (mV Z (bK (oN Z (GO.neq Z Z Z Z (bK ?_)))))))))))⟩))))
    refine GO.Js Z Z Z Z Z (nL ?_)
    rcases iE H with ⟨c155, H⟩ | ⟨c155, H⟩
    ·
     refine nB Z (nT c155) (rN 3 Z ?_)
     obtain ⟨t156, t157, t158, h159, H⟩ := Na H
     obtain ⟨t171, h172, H⟩ := bI H
     refine G.Oi mixed (fun w => St w0 w (Box b92 30 [.slice A81 t77.length c82, .slice A84 t78.length c85, .slice A87 t79.length c88] :: Box b1 25 [.slice A_a c1.length c_a, .slice A_b e1.length c_b, .slice A_c k1.length c_c] :: L)) [0, 1] [0, 1, 2, 3, 4] [] (by kernel_rfl) (by kernel_rfl) (HS.drew.pk 30 [11, 16] Z) ?_
     replace HS := HS.drew
     refine GX.ls Z Z Z (HS.pk 30 [11, 16] Z) (fun _ HS _ g => GO.Bu (j := 0) ([.slice A81 t77.length c82, .slice A84 t78.length c85, .slice A87 t79.length c88]) HS Z Z Z Z Km Z g) Z (GX.ls Z Z Z (HS.pk 30 [11, 16] Z) (fun _ HS _ g => GO.Bu (j := 1) ([.slice A_a c1.length c_a, .slice A_b e1.length c_b, .slice A_c k1.length c_c]) HS Z Z Z Z nQ Z g) Z (GX.l2 Z (fN Z func7 bD.1 bD.2 Z Z (H9.calls HS (rD 30 r_a) (rD 30 r_b) (rD 30 r_c) h159) (fun _ wd169 ⟨A160, c161, y162, A163, c164, y165, A166, c167, y168, h170, HS⟩ => ⟨_, h170, (GX.fin (HS.pk 33 [14, 19] Z) (GX.l2 Z (fN Z func9 Tf.1 Tf.2 Z Z (Gq.calls HS (Aq.own (j := 15) Z) (Aq.own (j := 16) Z) (Aq.own (j := 17) Z) (Aq.own (j := 0) Z) (Aq.own (j := 1) Z) (Aq.own (j := 2) Z) h172) (fun _ wd173 ⟨h174, HS⟩ => ⟨_, h174, (GX.fin (HS.pk 33 [14, 19] Z) (GX.ps 1 Z (GX.nil ?_)))⟩))))⟩))))
     rcases iE H with ⟨c175, H⟩ | ⟨c175, H⟩
     ·
      refine nB Z (congrArg Bool.not c175) (rN 3 Z ?_)
      obtain ⟨t176, t177, t178, t179, t180, t181, t182, t183, t184, t185, t186, t187, h188, H⟩ := Jw H
      obtain ⟨t204, h205, H⟩ := bI H
      refine G.Oi mixed (fun w => St w0 w (Box b123 64 [.string t95, I t96, .slice A108 t97.length c109, .slice A111 t98.length c112, I t99, I t100, .slice A113 t101.length c114, I t102, I t103, .slice A115 t104.length c116, .slice A117 t105.length c118, .slice A119 t106.length c120] :: Box b3 50 [.string q1, I o1, .slice A_d a1.length c_d, .slice A_e d1.length c_e, I p1, I s1, .slice A_f h1.length c_f, I n1, I t1, .slice A_g i1.length c_g, .slice A_h m1.length c_h, .slice A_i g1.length c_i] :: L)) [0, 1] [0, 1, 2, 3, 4] [] (by kernel_rfl) (by kernel_rfl) (HS.drew.pk 33 [7, 18] Z) ?_
      replace HS := HS.drew
      refine GX.ls Z Z Z (HS.pk 33 [7, 18] Z) (fun _ HS _ g => GO.Bu (j := 0) ([.string t95, I t96, .slice A108 t97.length c109, .slice A111 t98.length c112, I t99, I t100, .slice A113 t101.length c114, I t102, I t103, .slice A115 t104.length c116, .slice A117 t105.length c118, .slice A119 t106.length c120]) HS Z Z Z Z Mq Z g) Z (GX.ls Z Z Z (HS.pk 33 [7, 18] Z) (fun _ HS _ g => GO.Bu (j := 1) ([.string q1, I o1, .slice A_d a1.length c_d, .slice A_e d1.length c_e, I p1, I s1, .slice A_f h1.length c_f, I n1, I t1, .slice A_g i1.length c_g, .slice A_h m1.length c_h, .slice A_i g1.length c_i]) HS Z Z Z Z bZ Z g) Z (GX.l2 Z (fN Z func14 R9.1 R9.2 Z Z (Gy.calls HS (rD 33 r_d) (rD 33 r_e) (rD 33 r_f) (rD 33 r_g) (rD 33 r_h) (rD 33 r_i) h188) (fun _ wd202 ⟨A189, c190, y191, A192, c193, A194, c195, A196, c197, A198, c199, A200, c201, h203, HS⟩ => ⟨_, h203, (GX.fin (HS.pk 39 [13, 24] Z) (GX.l2 Z (fN Z func16 fT.1 fT.2 Z Z (Ka.calls HS (Aq.own (j := 14) Z) (Aq.own (j := 15) Z) (Aq.own (j := 16) Z) (Aq.own (j := 17) Z) (Aq.own (j := 18) Z) (Aq.own (j := 19) Z) (Aq.own (j := 0) Z) (Aq.own (j := 1) Z) (Aq.own (j := 2) Z) (Aq.own (j := 3) Z) (Aq.own (j := 4) Z) (Aq.own (j := 5) Z) h205) (fun _ wd206 ⟨h207, HS⟩ => ⟨_, h207, (GX.fin (HS.pk 39 [13, 24] Z) (GX.ps 1 Z (GX.nil ?_)))⟩))))⟩))))
      rcases iE H with ⟨c208, H⟩ | ⟨c208, H⟩
      ·
       refine nB Z (congrArg Bool.not c208) (rN 4 Z ?_)
       obtain ⟨t209, t210, t211, t212, h213, H⟩ := K6 H
       obtain ⟨c214, H⟩ := iN H
       obtain ⟨c215, H⟩ := iN H
       obtain ⟨c216, H⟩ := iN H
       refine rG (GO.Bu (j := 20) ([.slice A81 t77.length c82, .slice A84 t78.length c85, .slice A87 t79.length c88]) HS Z Z Z Z Km Z (mV Z ?_))
       replace HS := HS.pk 39 [21, 22, 23, 0, 1, 2, 3, 4, 5, 6, 7, 8, 9, 10, 11, 12, 13, 14, 15, 16, 17, 18, 19, 20, 24, 25, 26, 27, 28, 29, 30, 31, 32, 33, 34, 35, 36, 37, 38] Z
       refine fN Z func10 eO.1 eO.2 Z Z (Jc.calls HS  h213) (fun _ wd217 ⟨h218, HS⟩ => ⟨_, h218, (aS Z (nL ?_))⟩)
       replace HS := HS.Lf (j := 23) (cs' := [.slice A81 t210.length c82, .slice A84 t78.length c85, .slice A87 t79.length c88]) Z (by simp only [List.length_set, c214, c215, c216] <;> rfl)
       replace HS := HS.Lf (j := 23) (cs' := [.slice A81 t210.length c82, .slice A84 t211.length c85, .slice A87 t79.length c88]) Z (by simp only [List.length_set, c214, c215, c216] <;> rfl)
       replace HS := HS.Lf (j := 23) (cs' := [.slice A81 t210.length c82, .slice A84 t211.length c85, .slice A87 t212.length c88]) Z (by simp only [List.length_set, c214, c215, c216] <;> rfl)
       refine sQ ?_
       obtain ⟨t219, t220, t221, t222, t223, t224, t225, h226, H⟩ := dL H
       obtain ⟨c227, H⟩ := iN H
       obtain ⟨c228, H⟩ := iN H
       obtain ⟨c229, H⟩ := iN H
       obtain ⟨c230, H⟩ := iN H
       obtain ⟨c231, H⟩ := iN H
       obtain ⟨c232, H⟩ := iN H
       refine rG (GO.Bu (j := 16) ([.string t95, I t96, .slice A108 t97.length c109, .slice A111 t98.length c112, I t99, I t100, .slice A113 t101.length c114, I t102, I t103, .slice A115 t104.length c116, .slice A117 t105.length c118, .slice A119 t106.length c120]) HS Z Z Z Z Mq Z (mV Z ?_))
       replace HS := HS.pk 39 [17, 18, 19, 20, 21, 22, 0, 1, 2, 3, 4, 5, 6, 7, 8, 9, 10, 11, 12, 13, 14, 15, 16, 23, 24, 25, 26, 27, 28, 29, 30, 31, 32, 33, 34, 35, 36, 37, 38] Z
       refine fN Z func17 sK.1 sK.2 Z Z (J3.calls HS  h226) (fun _ wd233 ⟨h234, HS⟩ => ⟨_, h234, (aS Z (nL ?_))⟩)
       replace HS := HS.Lf (j := 22) (cs' := [.string t95, I t96, .slice A108 t220.length c109, .slice A111 t98.length c112, I t99, I t100, .slice A113 t101.length c114, I t102, I t103, .slice A115 t104.length c116, .slice A117 t105.length c118, .slice A119 t106.length c120]) Z (by simp only [List.length_set, c227, c228, c229, c230, c231, c232] <;> rfl)
       replace HS := HS.Lf (j := 22) (cs' := [.string t95, I t96, .slice A108 t220.length c109, .slice A111 t221.length c112, I t99, I t100, .slice A113 t101.length c114, I t102, I t103, .slice A115 t104.length c116, .slice A117 t105.length c118, .slice A119 t106.length c120]) Z (by simp only [List.length_set, c227, c228, c229, c230, c231, c232] <;> rfl)
       replace HS := HS.Lf (j := 22) (cs' := [.string t95, I t96, .slice A108 t220.length c109, .slice A111 t221.length c112, I t99, I t100, .slice A113 t222.length c114, I t102, I t103, .slice A115 t104.length c116, .slice A117 t105.length c118, .slice A119 t106.length c120]) Z (by simp only [List.length_set, c227, c228, c229, c230, c231, c232] <;> rfl)
       replace HS := HS.Lf (j := 22) (cs' := [.string t95, I t96, .slice A108 t220.length c109, .slice A111 t221.length c112, I t99, I t100, .slice A113 t222.length c114, I t102, I t103, .slice A115 t223.length c116, .slice A117 t105.length c118, .slice A119 t106.length c120]) Z (by simp only [List.length_set, c227, c228, c229, c230, c231, c232] <;> rfl)
       replace HS := HS.Lf (j := 22) (cs' := [.string t95, I t96, .slice A108 t220.length c109, .slice A111 t221.length c112, I t99, I t100, .slice A113 t222.length c114, I t102, I t103, .slice A115 t223.length c116, .slice A117 t224.length c118, .slice A119 t106.length c120]) Z (by simp only [List.length_set, c227, c228, c229, c230, c231, c232] <;> rfl)
       replace HS := HS.Lf (j := 22) (cs' := [.string t95, I t96, .slice A108 t220.length c109, .slice A111 t221.length c112, I t99, I t100, .slice A113 t222.length c114, I t102, I t103, .slice A115 t223.length c116, .slice A117 t224.length c118, .slice A119 t225.length c120]) Z (by simp only [List.length_set, c227, c228, c229, c230, c231, c232] <;> rfl)
       refine rN 2 Z ?_
       rcases iE H with ⟨c241, H⟩ | ⟨c241, H⟩
       ·
        refine rG (pS 3 Z (kN 72 Z (tT c241) (oF Z (oF Z (oF Z (oF Z (pS 2 Z (oF Z (oF Z (oF Z (GO.Ip Z Z Z Z Z (nL (rN 3 Z ?_)))))))))))))
        obtain rfl := sI H
        exact rT _ func4 Z Z ⟨Z, (HS.pk 39 [] Z)⟩
       obtain ⟨t242, h243, H⟩ := bI H
       rcases iE H with ⟨c246, H⟩ | ⟨c246, H⟩
       ·
        refine rG (pS 3 Z (kN 72 Z (tF c241) (oN Z (GO.Bu (j := 18) ([.slice A131 t126.length c132, .slice A134 t127.length c135, .slice A137 t128.length c138]) HS Z Z Z Z Km Z (bK (oN Z (GO.Bu (j := 38) ([.slice A63 t58.length c64, .slice A66 t59.length c67, .slice A69 t60.length c70]) HS Z Z Z Z Km Z (bK (oN Z (fN Z func9 Tf.1 Tf.2 Z Z (Gq.calls HS (Aq.own (j := 19) Z) (Aq.own (j := 20) Z) (Aq.own (j := 21) Z) (Aq.own (j := 35) Z) (Aq.own (j := 36) Z) (Aq.own (j := 37) Z) h243) (fun _ wd244 ⟨h245, HS⟩ => ⟨_, h245, (bK (oN Z (GO.not Z Z Z (bK ?_))))⟩)))))))))))
        refine pS 2 Z (kN 78 Z (congrArg Bool.not c246) (oN Z (mV Z (bK (oN Z (mV Z (bK (oN Z (GO.neq Z Z Z Z (bK (GO.Js Z Z Z Z Z (nL (nB Z (nT c155) (rN 4 Z ?_))))))))))))))
        obtain ⟨t247, t248, t249, t250, h251, H⟩ := K6 H
        obtain ⟨c252, H⟩ := iN H
        obtain ⟨c253, H⟩ := iN H
        obtain ⟨c254, H⟩ := iN H
        refine rG (GO.Bu (j := 18) ([.slice A131 t126.length c132, .slice A134 t127.length c135, .slice A137 t128.length c138]) HS Z Z Z Z Km Z (mV Z ?_))
        replace HS := HS.pk 39 [19, 20, 21, 0, 1, 2, 3, 4, 5, 6, 7, 8, 9, 10, 11, 12, 13, 14, 15, 16, 17, 18, 22, 23, 24, 25, 26, 27, 28, 29, 30, 31, 32, 33, 34, 35, 36, 37, 38] Z
        refine fN Z func10 eO.1 eO.2 Z Z (Jc.calls HS  h251) (fun _ wd255 ⟨h256, HS⟩ => ⟨_, h256, (aS Z (nL ?_))⟩)
        replace HS := HS.Lf (j := 21) (cs' := [.slice A131 t248.length c132, .slice A134 t127.length c135, .slice A137 t128.length c138]) Z (by simp only [List.length_set, c252, c253, c254] <;> rfl)
        replace HS := HS.Lf (j := 21) (cs' := [.slice A131 t248.length c132, .slice A134 t249.length c135, .slice A137 t128.length c138]) Z (by simp only [List.length_set, c252, c253, c254] <;> rfl)
        replace HS := HS.Lf (j := 21) (cs' := [.slice A131 t248.length c132, .slice A134 t249.length c135, .slice A137 t250.length c138]) Z (by simp only [List.length_set, c252, c253, c254] <;> rfl)
        refine rN 3 Z ?_
        obtain ⟨t257, h258, H⟩ := bI H
        refine rG (GO.Bu (j := 21) ([.slice A131 t248.length c132, .slice A134 t249.length c135, .slice A137 t250.length c138]) HS Z Z Z Z Km Z (mV Z (fN Z func11 fA.1 fA.2 Z Z (I7.calls HS (Aq.own (j := 0) Z) (Aq.own (j := 1) Z) (Aq.own (j := 2) Z) h258) (fun _ wd259 ⟨h260, HS⟩ => ⟨_, h260, (aS Z (nL (rN 3 Z ?_)))⟩))))
        rcases iE H with ⟨c261, H⟩ | ⟨c261, H⟩
        ·
         refine yB Z (tT c261) (rN 2 Z ?_)
         obtain rfl := sI H
         exact rT _ func4 Z Z ⟨Z, (HS.pk 39 [] Z)⟩
        refine nB Z (tF c261) (rN 4 Z ?_)
        rcases iE H with ⟨c262, H⟩ | ⟨c262, H⟩
        ·
         refine nB Z (nT c262) (rN 2 Z ?_)
         obtain ⟨t263, t264, t265, h266, H⟩ := Na H
         obtain ⟨t278, t279, t280, t281, t282, t283, t284, t285, t286, t287, t288, t289, h290, H⟩ := Jw H
         obtain ⟨t306, t307, t308, t309, h310, H⟩ := K6 H
         refine G.Pb mixed (by decide) (fun b a w => ∃ (o3 : Value) (j3 : Value) (v3 : Value) (e3 : Value) (u3 : Value) (p3 : Value) (h3 : Value) (c3 : Value) (m3 : Value) (d3 : Value) (A267 : Option Addr) (c268 : Nat) (y269 : Nat → Aa.Lay) (A270 : Option Addr) (c271 : Nat) (y272 : Nat → (Ty.slice 64 Aa).Lay) (A273 : Option Addr) (c274 : Nat) (y275 : Nat → (Ty.slice 64 Aa).Lay) (A291 : Option Addr) (c292 : Nat) (y293 : Nat → (Ty.slice 157 Bc).Lay) (A294 : Option Addr) (c295 : Nat) (A296 : Option Addr) (c297 : Nat) (A298 : Option Addr) (c299 : Nat) (A300 : Option Addr) (c301 : Nat) (A302 : Option Addr) (c303 : Nat) (A311 : Option Addr) (c312 : Nat) (y313 : Nat → Aa.Lay) (A314 : Option Addr) (c315 : Nat) (y316 : Nat → (Ty.slice 64 Aa).Lay) (A317 : Option Addr) (c318 : Nat) (y319 : Nat → (Ty.slice 64 Aa).Lay) (b322 : Nat) (d4 : Cu) (b5 : Cu) (p4 : Cu) (y4 : Cu) (g4 : Cu) (b4 : Cu) (n4 : Cu) (i4 : Cu) (a5 : Cu) (q4 : Cu) (r4 : Cu) (u4 : Cu) (z3 : Cu), Sat 119 [(15, m3), (16, d3), (94, p3), (95, o3), (96, j3), (97, v3), (98, e3), (99, u3), (100, h3), (101, c3), (2, .pointer (some ⟨b1, 0, none⟩)), (3, .pointer (some ⟨b3, 0, none⟩)), (6, .pointer (some ⟨b74, 0, none⟩)), (7, I t61), (10, .pointer (some ⟨b142, 0, none⟩)), (13, I t247)] a ∧ St w0 w (Own Aa 64 A131 c132 y133 t248 :: Own (Ty.slice 64 Aa) 27 A134 c135 y136 t249 :: Own (Ty.slice 64 Aa) 27 A137 c138 y139 t250 :: Own (Ty.slice 157 Bc) 150 A108 c109 y110 t220 :: Own Bb 152 A111 c112 (fun _ => ()) t221 :: Own (Bq .i64) 2 A113 c114 (fun _ => ()) t222 :: Own Cq 140 A115 c116 (fun _ => ()) t223 :: Own (Bq .i64) 2 A117 c118 (fun _ => ()) t224 :: Own (Bq .i64) 2 A119 c120 (fun _ => ()) t225 :: Own Aa 64 A81 c82 y83 t210 :: Own (Ty.slice 64 Aa) 27 A84 c85 y86 t211 :: Own (Ty.slice 64 Aa) 27 A87 c88 y89 t212 :: Own (Ty.slice 157 Bc) 150 A189 c190 y191 t178 :: Own Bb 152 A192 c193 (fun _ => ()) t179 :: Own (Bq .i64) 2 A194 c195 (fun _ => ()) t182 :: Own Cq 140 A196 c197 (fun _ => ()) t185 :: Own (Bq .i64) 2 A198 c199 (fun _ => ()) t186 :: Own (Bq .i64) 2 A200 c201 (fun _ => ()) t187 :: Own Aa 64 A160 c161 y162 t156 :: Own (Ty.slice 64 Aa) 27 A163 c164 y165 t157 :: Own (Ty.slice 64 Aa) 27 A166 c167 y168 t158 :: Box b142 30 [.slice A131 t248.length c132, .slice A134 t249.length c135, .slice A137 t250.length c138] :: Box b123 64 [.string t95, I t96, .slice A108 t220.length c109, .slice A111 t221.length c112, I t99, I t100, .slice A113 t222.length c114, I t102, I t103, .slice A115 t223.length c116, .slice A117 t224.length c118, .slice A119 t225.length c120] :: Box b92 30 [.slice A81 t210.length c82, .slice A84 t211.length c85, .slice A87 t212.length c88] :: Box b3 50 [.string q1, I o1, .slice A_d a1.length c_d, .slice A_e d1.length c_e, I p1, I s1, .slice A_f h1.length c_f, I n1, I t1, .slice A_g i1.length c_g, .slice A_h m1.length c_h, .slice A_i g1.length c_i] :: Box b1 25 [.slice A_a c1.length c_a, .slice A_b e1.length c_b, .slice A_c k1.length c_c] :: Own Aa 64 A19 c20 y21 t15 :: Own (Ty.slice 64 Aa) 27 A22 c23 y24 t16 :: Own (Ty.slice 64 Aa) 27 A25 c26 y27 t17 :: Own (Ty.slice 157 Bc) 150 A43 c44 y45 t32 :: Own Bb 152 A46 c47 (fun _ => ()) t33 :: Own (Bq .i64) 2 A48 c49 (fun _ => ()) t36 :: Own Cq 140 A50 c51 (fun _ => ()) t39 :: Own (Bq .i64) 2 A52 c53 (fun _ => ()) t40 :: Own (Bq .i64) 2 A54 c55 (fun _ => ()) t41 :: Own Aa 64 A63 c64 y65 t58 :: Own (Ty.slice 64 Aa) 27 A66 c67 y68 t59 :: Own (Ty.slice 64 Aa) 27 A69 c70 y71 t60 :: Box b74 30 [.slice A63 t58.length c64, .slice A66 t59.length c67, .slice A69 t60.length c70] :: d4 :: b5 :: p4 :: y4 :: g4 :: b4 :: n4 :: i4 :: a5 :: q4 :: r4 :: u4 :: z3 :: L) ∧ (b 8 = true → m3 = (.pointer (some ⟨b322, 0, none⟩))) ∧ (b 10 = true → d3 = (I t309)) ∧ (b 5 = true → p3 = (.tuple #[.agg [.slice A311 t306.length c312, .slice A314 t307.length c315, .slice A317 t308.length c318].toArray, I t309])) ∧ (b 0 = true → o3 = (.agg [.slice A_a c1.length c_a, .slice A_b e1.length c_b, .slice A_c k1.length c_c].toArray)) ∧ (b 1 = true → j3 = (.agg [.slice A267 t263.length c268, .slice A270 t264.length c271, .slice A273 t265.length c274].toArray)) ∧ (b 2 = true → v3 = (.agg [.string q1, I o1, .slice A_d a1.length c_d, .slice A_e d1.length c_e, I p1, I s1, .slice A_f h1.length c_f, I n1, I t1, .slice A_g i1.length c_g, .slice A_h m1.length c_h, .slice A_i g1.length c_i].toArray)) ∧ (b 3 = true → e3 = (.agg [.string t278, I t279, .slice A291 t280.length c292, .slice A294 t281.length c295, I t282, I t283, .slice A296 t284.length c297, I t285, I t286, .slice A298 t287.length c299, .slice A300 t288.length c301, .slice A302 t289.length c303].toArray)) ∧ (b 4 = true → u3 = (.tuple #[.agg [.slice A311 t306.length c312, .slice A314 t307.length c315, .slice A317 t308.length c318].toArray, I t309])) ∧ (b 6 = true → h3 = (.agg [.slice A311 t306.length c312, .slice A314 t307.length c315, .slice A317 t308.length c318].toArray)) ∧ (b 7 = true → c3 = (I t309)) ∧ (b 1 = true → d4 = Own Aa 64 A267 c268 y269 t263) ∧ (b 1 = true → b5 = Own (Ty.slice 64 Aa) 27 A270 c271 y272 t264) ∧ (b 1 = true → p4 = Own (Ty.slice 64 Aa) 27 A273 c274 y275 t265) ∧ (b 3 = true → y4 = Own (Ty.slice 157 Bc) 150 A291 c292 y293 t280) ∧ (b 3 = true → g4 = Own Bb 152 A294 c295 (fun _ => ()) t281) ∧ (b 3 = true → b4 = Own (Bq .i64) 2 A296 c297 (fun _ => ()) t284) ∧ (b 3 = true → n4 = Own Cq 140 A298 c299 (fun _ => ()) t287) ∧ (b 3 = true → i4 = Own (Bq .i64) 2 A300 c301 (fun _ => ()) t288) ∧ (b 3 = true → a5 = Own (Bq .i64) 2 A302 c303 (fun _ => ()) t289) ∧ (b 4 = true → q4 = Own Aa 64 A311 c312 y313 t306) ∧ (b 4 = true → r4 = Own (Ty.slice 64 Aa) 27 A314 c315 y316 t307) ∧ (b 4 = true → u4 = Own (Ty.slice 64 Aa) 27 A317 c318 y319 t308) ∧ (b 8 = true → b 9 = false → z3 = Box b322 30 [.slice none 0 0, .slice none 0 0, .slice none 0 0]) ∧ (b 9 = true → z3 = Box b322 30 [.slice A311 t306.length c312, .slice A314 t307.length c315, .slice A317 t308.length c318])) ?_ ?_ ?_
         ·
          intro a hs
          obtain ⟨m3, hs⟩ := hs.ext (d := 15) Z
          obtain ⟨d3, hs⟩ := hs.ext (d := 16) Z
          obtain ⟨p3, hs⟩ := hs.ext (d := 94) Z
          obtain ⟨o3, hs⟩ := hs.ext (d := 95) Z
          obtain ⟨j3, hs⟩ := hs.ext (d := 96) Z
          obtain ⟨v3, hs⟩ := hs.ext (d := 97) Z
          obtain ⟨e3, hs⟩ := hs.ext (d := 98) Z
          obtain ⟨u3, hs⟩ := hs.ext (d := 99) Z
          obtain ⟨h3, hs⟩ := hs.ext (d := 100) Z
          obtain ⟨c3, hs⟩ := hs.ext (d := 101) Z
          exact ⟨o3, j3, v3, e3, u3, p3, h3, c3, m3, d3, none, 0, (fun _ => ((), (), ⟨none, 0, (fun _ => ⟨none, 0, (fun _ => ())⟩)⟩, ⟨none, 0, (fun _ => ())⟩, (), (), ⟨none, 0, (fun _ => ())⟩, (), (), ⟨none, 0, (fun _ => ())⟩, ⟨none, 0, (fun _ => ())⟩, ⟨none, 0, (fun _ => ())⟩)), none, 0, (fun _ => ⟨none, 0, (fun _ => ((), (), ⟨none, 0, (fun _ => ⟨none, 0, (fun _ => ())⟩)⟩, ⟨none, 0, (fun _ => ())⟩, (), (), ⟨none, 0, (fun _ => ())⟩, (), (), ⟨none, 0, (fun _ => ())⟩, ⟨none, 0, (fun _ => ())⟩, ⟨none, 0, (fun _ => ())⟩))⟩), none, 0, (fun _ => ⟨none, 0, (fun _ => ((), (), ⟨none, 0, (fun _ => ⟨none, 0, (fun _ => ())⟩)⟩, ⟨none, 0, (fun _ => ())⟩, (), (), ⟨none, 0, (fun _ => ())⟩, (), (), ⟨none, 0, (fun _ => ())⟩, ⟨none, 0, (fun _ => ())⟩, ⟨none, 0, (fun _ => ())⟩))⟩), none, 0, (fun _ => ⟨none, 0, (fun _ => ())⟩), none, 0, none, 0, none, 0, none, 0, none, 0, none, 0, (fun _ => ((), (), ⟨none, 0, (fun _ => ⟨none, 0, (fun _ => ())⟩)⟩, ⟨none, 0, (fun _ => ())⟩, (), (), ⟨none, 0, (fun _ => ())⟩, (), (), ⟨none, 0, (fun _ => ())⟩, ⟨none, 0, (fun _ => ())⟩, ⟨none, 0, (fun _ => ())⟩)), none, 0, (fun _ => ⟨none, 0, (fun _ => ((), (), ⟨none, 0, (fun _ => ⟨none, 0, (fun _ => ())⟩)⟩, ⟨none, 0, (fun _ => ())⟩, (), (), ⟨none, 0, (fun _ => ())⟩, (), (), ⟨none, 0, (fun _ => ())⟩, ⟨none, 0, (fun _ => ())⟩, ⟨none, 0, (fun _ => ())⟩))⟩), none, 0, (fun _ => ⟨none, 0, (fun _ => ((), (), ⟨none, 0, (fun _ => ⟨none, 0, (fun _ => ())⟩)⟩, ⟨none, 0, (fun _ => ())⟩, (), (), ⟨none, 0, (fun _ => ())⟩, (), (), ⟨none, 0, (fun _ => ())⟩, ⟨none, 0, (fun _ => ())⟩, ⟨none, 0, (fun _ => ())⟩))⟩), 0, Emp, Emp, Emp, Emp, Emp, Emp, Emp, Emp, Emp, Emp, Emp, Emp, Emp, hs.weak ⟨Z, Z, Z, Z, Z, Z, Z, Z, Z, Z, Z, Z, Z, Z, Z, Z, tv⟩, (HS.drew.emp.emp.emp.emp.emp.emp.emp.emp.emp.emp.emp.emp.emp.pk 52 [13, 14, 15, 16, 17, 18, 19, 20, 21, 22, 23, 24, 25, 26, 27, 28, 29, 30, 31, 32, 33, 34, 35, 36, 37, 38, 39, 40, 41, 42, 43, 44, 45, 46, 47, 48, 49, 50, 51, 12, 11, 10, 9, 8, 7, 6, 5, 4, 3, 2, 1, 0] Z), fun h => Bool.noConfusion h, fun h => Bool.noConfusion h, fun h => Bool.noConfusion h, fun h => Bool.noConfusion h, fun h => Bool.noConfusion h, fun h => Bool.noConfusion h, fun h => Bool.noConfusion h, fun h => Bool.noConfusion h, fun h => Bool.noConfusion h, fun h => Bool.noConfusion h, fun h => Bool.noConfusion h, fun h => Bool.noConfusion h, fun h => Bool.noConfusion h, fun h => Bool.noConfusion h, fun h => Bool.noConfusion h, fun h => Bool.noConfusion h, fun h => Bool.noConfusion h, fun h => Bool.noConfusion h, fun h => Bool.noConfusion h, fun h => Bool.noConfusion h, fun h => Bool.noConfusion h, fun h => Bool.noConfusion h, fun h => Bool.noConfusion h, fun h => Bool.noConfusion h⟩
         ·
          intro j hj b a w
          refine exI fun o3 => exI fun j3 => exI fun v3 => exI fun e3 => exI fun u3 => exI fun p3 => exI fun h3 => exI fun c3 => exI fun m3 => exI fun d3 => exI fun A267 => exI fun c268 => exI fun y269 => exI fun A270 => exI fun c271 => exI fun y272 => exI fun A273 => exI fun c274 => exI fun y275 => exI fun A291 => exI fun c292 => exI fun y293 => exI fun A294 => exI fun c295 => exI fun A296 => exI fun c297 => exI fun A298 => exI fun c299 => exI fun A300 => exI fun c301 => exI fun A302 => exI fun c303 => exI fun A311 => exI fun c312 => exI fun y313 => exI fun A314 => exI fun c315 => exI fun y316 => exI fun A317 => exI fun c318 => exI fun y319 => exI fun b322 => exI fun d4 => exI fun b5 => exI fun p4 => exI fun y4 => exI fun g4 => exI fun b4 => exI fun n4 => exI fun i4 => exI fun a5 => exI fun q4 => exI fun r4 => exI fun u4 => exI fun z3 => anI fun hs => anI fun HS => anI fun f8 => anI fun f10 => anI fun f5 => anI fun f0 => anI fun f1 => anI fun f2 => anI fun f3 => anI fun f4 => anI fun f6 => anI fun f7 => anI fun y1 => anI fun u1 => anI fun n2 => anI fun z1 => anI fun e2 => anI fun c2 => anI fun g2 => anI fun i2 => anI fun h2 => anI fun u2 => anI fun q2 => anI fun t2 => anI fun y2 => fun a3 hb hd hcl => ?_
          match j, hj with
          | 0, _ =>
           refine GO.at hs (GO.Bu (j := 25) ([.slice A_a c1.length c_a, .slice A_b e1.length c_b, .slice A_c k1.length c_c]) HS Z Z Z Z nQ Z (GO.fin (fun a hs => ⟨(.agg [.slice A_a c1.length c_a, .slice A_b e1.length c_b, .slice A_c k1.length c_c].toArray), _, _, _, _, _, _, _, _, _, A267, c268, y269, A270, c271, y272, A273, c274, y275, A291, c292, y293, A294, c295, A296, c297, A298, c299, A300, c301, A302, c303, A311, c312, y313, A314, c315, y316, A317, c318, y319, b322, _, _, _, _, _, _, _, _, _, _, _, _, _, by exact hs.setAt 3 Z, HS, f8, f10, f5, fun _ => Z, f1, f2, f3, f4, f6, f7, y1, u1, n2, z1, e2, c2, g2, i2, h2, u2, q2, t2, y2, a3⟩)))
          | 1, _ =>
           have hb0 : b 0 = true := hd 0 (by decide)
           obtain rfl := f0 hb0
           refine GO.at hs (fN Z func7 bD.1 bD.2 Z Z (H9.calls HS (rD 52 r_a) (rD 52 r_b) (rD 52 r_c) h266) (fun _ wd276 ⟨A267, c268, y269, A270, c271, y272, A273, c274, y275, h277, HS⟩ => ⟨_, h277, (GO.fin (fun a hs => ⟨_, (.agg [.slice A267 t263.length c268, .slice A270 t264.length c271, .slice A273 t265.length c274].toArray), _, _, _, _, _, _, _, _, A267, c268, y269, A270, c271, y272, A273, c274, y275, A291, c292, y293, A294, c295, A296, c297, A298, c299, A300, c301, A302, c303, A311, c312, y313, A314, c315, y316, A317, c318, y319, b322, Own Aa 64 A267 c268 y269 t263, Own (Ty.slice 64 Aa) 27 A270 c271 y272 t264, Own (Ty.slice 64 Aa) 27 A273 c274 y275 t265, _, _, _, _, _, _, _, _, _, _, by exact hs.setAt 4 Z, HS.pk 55 [3, 4, 5, 6, 7, 8, 9, 10, 11, 12, 13, 14, 15, 16, 17, 18, 19, 20, 21, 22, 23, 24, 25, 26, 27, 28, 29, 30, 31, 32, 33, 34, 35, 36, 37, 38, 39, 40, 41, 0, 1, 2, 45, 46, 47, 48, 49, 50, 51, 52, 53, 54] Z, f8, f10, f5, f0, fun _ => Z, f2, f3, f4, f6, f7, fun _ => Z, fun _ => Z, fun _ => Z, z1, e2, c2, g2, i2, h2, u2, q2, t2, y2, a3⟩))⟩))
          | 2, _ =>
           refine GO.at hs (GO.Bu (j := 24) ([.string q1, I o1, .slice A_d a1.length c_d, .slice A_e d1.length c_e, I p1, I s1, .slice A_f h1.length c_f, I n1, I t1, .slice A_g i1.length c_g, .slice A_h m1.length c_h, .slice A_i g1.length c_i]) HS Z Z Z Z bZ Z (GO.fin (fun a hs => ⟨_, _, (.agg [.string q1, I o1, .slice A_d a1.length c_d, .slice A_e d1.length c_e, I p1, I s1, .slice A_f h1.length c_f, I n1, I t1, .slice A_g i1.length c_g, .slice A_h m1.length c_h, .slice A_i g1.length c_i].toArray), _, _, _, _, _, _, _, A267, c268, y269, A270, c271, y272, A273, c274, y275, A291, c292, y293, A294, c295, A296, c297, A298, c299, A300, c301, A302, c303, A311, c312, y313, A314, c315, y316, A317, c318, y319, b322, _, _, _, _, _, _, _, _, _, _, _, _, _, by exact hs.setAt 5 Z, HS, f8, f10, f5, f0, f1, fun _ => Z, f3, f4, f6, f7, y1, u1, n2, z1, e2, c2, g2, i2, h2, u2, q2, t2, y2, a3⟩)))
          | 3, _ =>
           have hb2 : b 2 = true := hd 2 (by decide)
           obtain rfl := f2 hb2
           refine GO.at hs (fN Z func14 R9.1 R9.2 Z Z (Gy.calls HS (rD 52 r_d) (rD 52 r_e) (rD 52 r_f) (rD 52 r_g) (rD 52 r_h) (rD 52 r_i) h290) (fun _ wd304 ⟨A291, c292, y293, A294, c295, A296, c297, A298, c299, A300, c301, A302, c303, h305, HS⟩ => ⟨_, h305, (GO.fin (fun a hs => ⟨_, _, _, (.agg [.string t278, I t279, .slice A291 t280.length c292, .slice A294 t281.length c295, I t282, I t283, .slice A296 t284.length c297, I t285, I t286, .slice A298 t287.length c299, .slice A300 t288.length c301, .slice A302 t289.length c303].toArray), _, _, _, _, _, _, A267, c268, y269, A270, c271, y272, A273, c274, y275, A291, c292, y293, A294, c295, A296, c297, A298, c299, A300, c301, A302, c303, A311, c312, y313, A314, c315, y316, A317, c318, y319, b322, _, _, _, Own (Ty.slice 157 Bc) 150 A291 c292 y293 t280, Own Bb 152 A294 c295 (fun _ => ()) t281, Own (Bq .i64) 2 A296 c297 (fun _ => ()) t284, Own Cq 140 A298 c299 (fun _ => ()) t287, Own (Bq .i64) 2 A300 c301 (fun _ => ()) t288, Own (Bq .i64) 2 A302 c303 (fun _ => ()) t289, _, _, _, _, by exact hs.setAt 6 Z, HS.pk 58 [6, 7, 8, 9, 10, 11, 12, 13, 14, 15, 16, 17, 18, 19, 20, 21, 22, 23, 24, 25, 26, 27, 28, 29, 30, 31, 32, 33, 34, 35, 36, 37, 38, 39, 40, 41, 42, 43, 44, 45, 46, 47, 0, 1, 2, 3, 4, 5, 54, 55, 56, 57] Z, f8, f10, f5, f0, f1, f2, fun _ => Z, f4, f6, f7, y1, u1, n2, fun _ => Z, fun _ => Z, fun _ => Z, fun _ => Z, fun _ => Z, fun _ => Z, u2, q2, t2, y2, a3⟩))⟩))
          | 4, _ =>
           have hb1 : b 1 = true := hd 1 (by decide)
           obtain rfl := f1 hb1
           have hb3 : b 3 = true := hd 3 (by decide)
           obtain rfl := f3 hb3
           obtain rfl := y1 hb1
           obtain rfl := u1 hb1
           obtain rfl := n2 hb1
           obtain rfl := z1 hb3
           obtain rfl := e2 hb3
           obtain rfl := c2 hb3
           obtain rfl := g2 hb3
           obtain rfl := i2 hb3
           obtain rfl := h2 hb3
           refine GO.at hs (fN Z func15 fV.1 fV.2 Z Z (Cw.calls HS (Aq.own (j := 39) Z) (Aq.own (j := 40) Z) (Aq.own (j := 41) Z) (Aq.own (j := 42) Z) (Aq.own (j := 43) Z) (Aq.own (j := 44) Z) (Aq.own (j := 45) Z) (Aq.own (j := 46) Z) (Aq.own (j := 47) Z) h310) (fun _ wd320 ⟨A311, c312, y313, A314, c315, y316, A317, c318, y319, h321, HS⟩ => ⟨_, h321, (GO.fin (fun a hs => ⟨_, _, _, _, (.tuple #[.agg [.slice A311 t306.length c312, .slice A314 t307.length c315, .slice A317 t308.length c318].toArray, I t309]), _, _, _, _, _, A267, c268, y269, A270, c271, y272, A273, c274, y275, A291, c292, y293, A294, c295, A296, c297, A298, c299, A300, c301, A302, c303, A311, c312, y313, A314, c315, y316, A317, c318, y319, b322, _, _, _, _, _, _, _, _, _, Own Aa 64 A311 c312 y313 t306, Own (Ty.slice 64 Aa) 27 A314 c315 y316 t307, Own (Ty.slice 64 Aa) 27 A317 c318 y319 t308, _, by exact hs.setAt 7 Z, HS.pk 55 [3, 4, 5, 6, 7, 8, 9, 10, 11, 12, 13, 14, 15, 16, 17, 18, 19, 20, 21, 22, 23, 24, 25, 26, 27, 28, 29, 30, 31, 32, 33, 34, 35, 36, 37, 38, 39, 40, 41, 42, 43, 44, 45, 46, 47, 48, 49, 50, 0, 1, 2, 54] Z, f8, f10, fun hh => (Bool.noConfusion ((hcl 5 (by decide) hh 4 (by decide)).symm.trans hb)), f0, f1, f2, f3, fun _ => Z, fun hh => (Bool.noConfusion ((hcl 5 (by decide) (hcl 6 (by decide) hh 5 (by decide)) 4 (by decide)).symm.trans hb)), f7, y1, u1, n2, z1, e2, c2, g2, i2, h2, fun _ => Z, fun _ => Z, fun _ => Z, y2, fun hh => (Bool.noConfusion ((hcl 9 (by decide) hh 4 (by decide)).symm.trans hb))⟩))⟩))
          | 5, _ =>
           have hb4 : b 4 = true := hd 4 (by decide)
           obtain rfl := f4 hb4
           refine GO.at hs (mV Z (GO.fin (fun a hs => ⟨_, _, _, _, _, (.tuple #[.agg [.slice A311 t306.length c312, .slice A314 t307.length c315, .slice A317 t308.length c318].toArray, I t309]), _, _, _, _, A267, c268, y269, A270, c271, y272, A273, c274, y275, A291, c292, y293, A294, c295, A296, c297, A298, c299, A300, c301, A302, c303, A311, c312, y313, A314, c315, y316, A317, c318, y319, b322, _, _, _, _, _, _, _, _, _, _, _, _, _, by exact hs.setAt 2 Z, HS, f8, f10, fun _ => Z, f0, f1, f2, f3, f4, f6, f7, y1, u1, n2, z1, e2, c2, g2, i2, h2, u2, q2, t2, y2, a3⟩)))
          | 6, _ =>
           have hb5 : b 5 = true := hd 5 (by decide)
           obtain rfl := f5 hb5
           refine GO.at hs (GO.extract Z Z Z Z (GO.fin (fun a hs => ⟨_, _, _, _, _, _, (.agg [.slice A311 t306.length c312, .slice A314 t307.length c315, .slice A317 t308.length c318].toArray), _, _, _, A267, c268, y269, A270, c271, y272, A273, c274, y275, A291, c292, y293, A294, c295, A296, c297, A298, c299, A300, c301, A302, c303, A311, c312, y313, A314, c315, y316, A317, c318, y319, b322, _, _, _, _, _, _, _, _, _, _, _, _, _, by exact hs.setAt 8 Z, HS, f8, f10, f5, f0, f1, f2, f3, f4, fun _ => Z, f7, y1, u1, n2, z1, e2, c2, g2, i2, h2, u2, q2, t2, y2, a3⟩)))
          | 7, _ =>
           have hb5 : b 5 = true := hd 5 (by decide)
           obtain rfl := f5 hb5
           refine GO.at hs (GO.extract Z Z Z Z (GO.fin (fun a hs => ⟨_, _, _, _, _, _, _, (I t309), _, _, A267, c268, y269, A270, c271, y272, A273, c274, y275, A291, c292, y293, A294, c295, A296, c297, A298, c299, A300, c301, A302, c303, A311, c312, y313, A314, c315, y316, A317, c318, y319, b322, _, _, _, _, _, _, _, _, _, _, _, _, _, by exact hs.setAt 9 Z, HS, f8, f10, f5, f0, f1, f2, f3, f4, f6, fun _ => Z, y1, u1, n2, z1, e2, c2, g2, i2, h2, u2, q2, t2, y2, a3⟩)))
          | 8, _ =>
           refine GO.at hs (GO.alloc HS Z Xn Z Z fun b322 wd323 HS => GO.fin (fun a hs => ⟨_, _, _, _, _, _, _, _, (.pointer (some ⟨b322, 0, none⟩)), _, A267, c268, y269, A270, c271, y272, A273, c274, y275, A291, c292, y293, A294, c295, A296, c297, A298, c299, A300, c301, A302, c303, A311, c312, y313, A314, c315, y316, A317, c318, y319, b322, _, _, _, _, _, _, _, _, _, _, _, _, Box b322 30 [.slice none 0 0, .slice none 0 0, .slice none 0 0], by exact hs.setAt 0 Z, HS.pk 53 [1, 2, 3, 4, 5, 6, 7, 8, 9, 10, 11, 12, 13, 14, 15, 16, 17, 18, 19, 20, 21, 22, 23, 24, 25, 26, 27, 28, 29, 30, 31, 32, 33, 34, 35, 36, 37, 38, 39, 40, 41, 42, 43, 44, 45, 46, 47, 48, 49, 50, 51, 0] Z, fun _ => Z, f10, f5, f0, f1, f2, f3, f4, f6, f7, y1, u1, n2, z1, e2, c2, g2, i2, h2, u2, q2, t2, fun _ _ => Z, fun hh => (Bool.noConfusion ((hcl 9 (by decide) hh 8 (by decide)).symm.trans hb))⟩))
          | 9, _ =>
           have hb8 : b 8 = true := hd 8 (by decide)
           obtain rfl := f8 hb8
           have hb6 : b 6 = true := hd 6 (by decide)
           obtain rfl := f6 hb6
           obtain rfl := y2 hb8 hb
           refine GO.at hs (GO.C8 (j := 51) (vs := [.slice A311 t306.length c312, .slice A314 t307.length c315, .slice A317 t308.length c318]) ([.slice A311 t306.length c312, .slice A314 t307.length c315, .slice A317 t308.length c318]) HS Z Z Z Z Z (htA Km) Z Z Z fun wd324 HS => GO.fin (fun a hs => ⟨_, _, _, _, _, _, _, _, _, _, A267, c268, y269, A270, c271, y272, A273, c274, y275, A291, c292, y293, A294, c295, A296, c297, A298, c299, A300, c301, A302, c303, A311, c312, y313, A314, c315, y316, A317, c318, y319, b322, _, _, _, _, _, _, _, _, _, _, _, _, Box b322 30 [.slice A311 t306.length c312, .slice A314 t307.length c315, .slice A317 t308.length c318], hs, HS, f8, f10, f5, f0, f1, f2, f3, f4, f6, f7, y1, u1, n2, z1, e2, c2, g2, i2, h2, u2, q2, t2, fun _ h => Bool.noConfusion h, fun _ => Z⟩))
          | 10, _ =>
           have hb7 : b 7 = true := hd 7 (by decide)
           obtain rfl := f7 hb7
           refine GO.at hs (aS Z (GO.fin (fun a hs => ⟨_, _, _, _, _, _, _, _, _, (I t309), A267, c268, y269, A270, c271, y272, A273, c274, y275, A291, c292, y293, A294, c295, A296, c297, A298, c299, A300, c301, A302, c303, A311, c312, y313, A314, c315, y316, A317, c318, y319, b322, _, _, _, _, _, _, _, _, _, _, _, _, _, by exact hs.setAt 1 Z, HS, f8, fun _ => Z, f5, f0, f1, f2, f3, f4, f6, f7, y1, u1, n2, z1, e2, c2, g2, i2, h2, u2, q2, t2, y2, a3⟩)))
          | k + 11, hj => exact absurd hj (Nat.not_lt.2 (Nat.le_add_left 11 k))
         ·
          intro b a w hall
          refine exI fun o3 => exI fun j3 => exI fun v3 => exI fun e3 => exI fun u3 => exI fun p3 => exI fun h3 => exI fun c3 => exI fun m3 => exI fun d3 => exI fun A267 => exI fun c268 => exI fun y269 => exI fun A270 => exI fun c271 => exI fun y272 => exI fun A273 => exI fun c274 => exI fun y275 => exI fun A291 => exI fun c292 => exI fun y293 => exI fun A294 => exI fun c295 => exI fun A296 => exI fun c297 => exI fun A298 => exI fun c299 => exI fun A300 => exI fun c301 => exI fun A302 => exI fun c303 => exI fun A311 => exI fun c312 => exI fun y313 => exI fun A314 => exI fun c315 => exI fun y316 => exI fun A317 => exI fun c318 => exI fun y319 => exI fun b322 => exI fun d4 => exI fun b5 => exI fun p4 => exI fun y4 => exI fun g4 => exI fun b4 => exI fun n4 => exI fun i4 => exI fun a5 => exI fun q4 => exI fun r4 => exI fun u4 => exI fun z3 => anI fun hs => anI fun HS => anI fun f8 => anI fun f10 => anI fun f5 => anI fun f0 => anI fun f1 => anI fun f2 => anI fun f3 => anI fun f4 => anI fun f6 => anI fun f7 => anI fun y1 => anI fun u1 => anI fun n2 => anI fun z1 => anI fun e2 => anI fun c2 => anI fun g2 => anI fun i2 => anI fun h2 => anI fun u2 => anI fun q2 => anI fun t2 => anI fun y2 => fun a3 => ?_
          obtain rfl := f8 (hall 8 (by decide))
          obtain rfl := f10 (hall 10 (by decide))
          obtain rfl := f5 (hall 5 (by decide))
          obtain rfl := f0 (hall 0 (by decide))
          obtain rfl := f1 (hall 1 (by decide))
          obtain rfl := f2 (hall 2 (by decide))
          obtain rfl := f3 (hall 3 (by decide))
          obtain rfl := f4 (hall 4 (by decide))
          obtain rfl := f6 (hall 6 (by decide))
          obtain rfl := f7 (hall 7 (by decide))
          obtain rfl := y1 (hall 1 (by decide))
          obtain rfl := u1 (hall 1 (by decide))
          obtain rfl := n2 (hall 1 (by decide))
          obtain rfl := z1 (hall 3 (by decide))
          obtain rfl := e2 (hall 3 (by decide))
          obtain rfl := c2 (hall 3 (by decide))
          obtain rfl := g2 (hall 3 (by decide))
          obtain rfl := i2 (hall 3 (by decide))
          obtain rfl := h2 (hall 3 (by decide))
          obtain rfl := u2 (hall 4 (by decide))
          obtain rfl := q2 (hall 4 (by decide))
          obtain rfl := t2 (hall 4 (by decide))
          obtain rfl := a3 (hall 9 (by decide))
          refine G.at hs (rN 2 Z ?_)
          obtain ⟨t330, h331, H⟩ := bI H
          rcases iE H with ⟨c334, H⟩ | ⟨c334, H⟩
          ·
           refine rG (GO.Bu (j := 51) ([.slice A311 t306.length c312, .slice A314 t307.length c315, .slice A317 t308.length c318]) HS Z Z Z Z Km Z (GO.Bu (j := 38) ([.slice A63 t58.length c64, .slice A66 t59.length c67, .slice A69 t60.length c70]) HS Z Z Z Z Km Z (fN Z func9 Tf.1 Tf.2 Z Z (Gq.calls HS (Aq.own (j := 48) Z) (Aq.own (j := 49) Z) (Aq.own (j := 50) Z) (Aq.own (j := 35) Z) (Aq.own (j := 36) Z) (Aq.own (j := 37) Z) h331) (fun _ wd332 ⟨h333, HS⟩ => ⟨_, h333, (pS 2 Z (kN 106 Z (congrArg Bool.not c334) (oN Z (mV Z (bK (oN Z (mV Z (bK (oN Z (GO.neq Z Z Z Z (bK ?_)))))))))))⟩))))
           refine GO.Js Z Z Z Z Z (nL ?_)
           rcases iE H with ⟨c335, H⟩ | ⟨c335, H⟩
           ·
            refine nB Z (nT c335) (rN 4 Z ?_)
            obtain ⟨t336, h337, H⟩ := bI H
            refine rG (GO.Bu (j := 21) ([.slice A131 t248.length c132, .slice A134 t249.length c135, .slice A137 t250.length c138]) HS Z Z Z Z Km Z (mV Z (fN Z func11 fA.1 fA.2 Z Z (I7.calls HS (Aq.own (j := 0) Z) (Aq.own (j := 1) Z) (Aq.own (j := 2) Z) h337) (fun _ wd338 ⟨h339, HS⟩ => ⟨_, h339, (aS Z (nL (rN 3 Z ?_)))⟩))))
            rcases iE H with ⟨c340, H⟩ | ⟨c340, H⟩
            ·
             refine yB Z (tT c340) (rN 2 Z ?_)
             obtain rfl := sI H
             exact rT _ func4 Z Z ⟨Z, (HS.pk 52 [] Z)⟩
            refine nB Z (tF c340) (rN 4 Z ?_)
            rcases iE H with ⟨c341, H⟩ | ⟨c341, H⟩
            ·
             refine nB Z (nT c341) (rN 3 Z ?_)
             obtain rfl := sI H
             exact rT _ func4 Z Z ⟨Z, (HS.pk 52 [] Z)⟩
            refine yB Z (nF c341) (rN 2 Z ?_)
            obtain rfl := sI H
            exact rT _ func4 Z Z ⟨Z, (HS.pk 52 [] Z)⟩
           refine yB Z (nF c335) (rN 2 Z ?_)
           obtain rfl := sI H
           exact rT _ func4 Z Z ⟨Z, (HS.pk 52 [] Z)⟩
          refine rG (GO.Bu (j := 51) ([.slice A311 t306.length c312, .slice A314 t307.length c315, .slice A317 t308.length c318]) HS Z Z Z Z Km Z (GO.Bu (j := 38) ([.slice A63 t58.length c64, .slice A66 t59.length c67, .slice A69 t60.length c70]) HS Z Z Z Z Km Z (fN Z func9 Tf.1 Tf.2 Z Z (Gq.calls HS (Aq.own (j := 48) Z) (Aq.own (j := 49) Z) (Aq.own (j := 50) Z) (Aq.own (j := 35) Z) (Aq.own (j := 36) Z) (Aq.own (j := 37) Z) h331) (fun _ wd332 ⟨h333, HS⟩ => ⟨_, h333, (pS 2 Z (kN 106 Z (congrArg Bool.not (Ca c334)) (oF Z (oF Z (oF Z (GO.Ip Z Z Z Z Z (nL (rN 3 Z ?_))))))))⟩))))
          obtain rfl := sI H
          exact rT _ func4 Z Z ⟨Z, (HS.pk 52 [] Z)⟩
        refine yB Z (nF c262) (rN 2 Z ?_)
        obtain rfl := sI H
        exact rT _ func4 Z Z ⟨Z, (HS.pk 39 [] Z)⟩
       refine rG (pS 3 Z (kN 72 Z (tF c241) (oN Z (GO.Bu (j := 18) ([.slice A131 t126.length c132, .slice A134 t127.length c135, .slice A137 t128.length c138]) HS Z Z Z Z Km Z (bK (oN Z (GO.Bu (j := 38) ([.slice A63 t58.length c64, .slice A66 t59.length c67, .slice A69 t60.length c70]) HS Z Z Z Z Km Z (bK (oN Z (fN Z func9 Tf.1 Tf.2 Z Z (Gq.calls HS (Aq.own (j := 19) Z) (Aq.own (j := 20) Z) (Aq.own (j := 21) Z) (Aq.own (j := 35) Z) (Aq.own (j := 36) Z) (Aq.own (j := 37) Z) h243) (fun _ wd244 ⟨h245, HS⟩ => ⟨_, h245, (bK (oN Z (GO.not Z Z Z (bK ?_))))⟩)))))))))))
       refine pS 2 Z (kN 78 Z (congrArg Bool.not (Ca c246)) (oF Z (oF Z (oF Z (GO.Ip Z Z Z Z Z (nL (rN 3 Z ?_)))))))
       obtain rfl := sI H
       exact rT _ func4 Z Z ⟨Z, (HS.pk 39 [] Z)⟩
      refine yB Z (congrArg Bool.not (Ca c208)) (rN 2 Z ?_)
      obtain rfl := sI H
      exact rT _ func4 Z Z ⟨Z, (HS.pk 39 [] Z)⟩
     refine yB Z (congrArg Bool.not (Ca c175)) (rN 2 Z ?_)
     obtain rfl := sI H
     exact rT _ func4 Z Z ⟨Z, (HS.pk 33 [] Z)⟩
    refine yB Z (nF c155) (rN 2 Z ?_)
    obtain rfl := sI H
    exact rT _ func4 Z Z ⟨Z, (HS.pk 30 [] Z)⟩
   refine rG (GO.Bu (j := 0) ([.slice A131 t126.length c132, .slice A134 t127.length c135, .slice A137 t128.length c138]) HS Z Z Z Z Km Z (GO.Bu (j := 29) ([.slice A63 t58.length c64, .slice A66 t59.length c67, .slice A69 t60.length c70]) HS Z Z Z Z Km Z (fN Z func9 Tf.1 Tf.2 Z Z (Gq.calls HS (Aq.own (j := 1) Z) (Aq.own (j := 2) Z) (Aq.own (j := 3) Z) (Aq.own (j := 26) Z) (Aq.own (j := 27) Z) (Aq.own (j := 28) Z) h151) (fun _ wd152 ⟨h153, HS⟩ => ⟨_, h153, (pS 2 Z (kN 49 Z (congrArg Bool.not (Ca c154)) (oF Z (oF Z (oF Z (GO.Ip Z Z Z Z Z (nL (rN 3 Z ?_))))))))⟩))))
   obtain rfl := sI H
   exact rT _ func4 Z Z ⟨Z, (HS.pk 30 [] Z)⟩
end Go.Proofs.YtkmeepgpmppibaaGreatDoor
