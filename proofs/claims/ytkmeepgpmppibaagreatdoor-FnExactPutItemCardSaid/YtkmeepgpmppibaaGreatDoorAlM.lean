/-
  What the functions compute, as functions of lists.
-/
import Derived.Test.YtkmeepgpmppibaaGreatDoorSlQ
set_option linter.unusedVariables false
set_option linter.unusedSimpArgs false
namespace Go.Proofs.YtkmeepgpmppibaaGreatDoor
open Go.RowKit
structure Bt where
  Tet : Int
  Perm : Int
  deriving DecidableEq
def Ko : Bt := ⟨0, 0⟩
def Bc : Ty Bt := Ty.flat 2 (fun x => [.int .i64 x.Tet, .int .i64 x.Perm]) (fun _ => rfl) (fun x u h => by simp only [List.mem_cons, List.not_mem_nil, or_false] at h; rcases h with rfl | rfl <;> rfl)
structure Al where
  A : Int
  B : Int
  C : Int
  D : Int
  Sign : Int
  deriving DecidableEq
def Au : Al := ⟨0, 0, 0, 0, 0⟩
def Bb : Ty Al := Ty.flat 5 (fun x => [.int .i64 x.A, .int .i64 x.B, .int .i64 x.C, .int .i64 x.D, .int .i64 x.Sign]) (fun _ => rfl) (fun x u h => by simp only [List.mem_cons, List.not_mem_nil, or_false] at h; rcases h with rfl | rfl | rfl | rfl | rfl <;> rfl)
structure Ci where
  Kind : Int
  Tet : Int
  Index : Int
  deriving DecidableEq
def He : Ci := ⟨0, 0, 0⟩
def Cq : Ty Ci := Ty.flat 3 (fun x => [.int .i64 x.Kind, .int .i64 x.Tet, .int .i64 x.Index]) (fun _ => rfl) (fun x u h => by simp only [List.mem_cons, List.not_mem_nil, or_false] at h; rcases h with rfl | rfl | rfl <;> rfl)
structure Am where
  Name : ByteArray
  Kind : Int
  Ad : List (List Bt)
  Ae : List Al
  Aj : Int
  Ao : Int
  Av : List Int
  Ak : Int
  Ah : Int
  Af : List Ci
  Ai : List Int
  Ag : List Int
def Br : Am := ⟨ByteArray.empty, 0, [], [], 0, 0, [], 0, 0, [], [], []⟩
abbrev Ez : Ty Am := Ty.iso (Ty.pair Wy (Ty.pair (Bq .i64) (Ty.pair (Ty.slice 154 (Ty.slice 200 Bc)) (Ty.pair (Ty.slice 168 Bb) (Ty.pair (Bq .i64) (Ty.pair (Bq .i64) (Ty.pair (Ty.slice 2 (Bq .i64)) (Ty.pair (Bq .i64) (Ty.pair (Bq .i64) (Ty.pair (Ty.slice 170 Cq) (Ty.pair (Ty.slice 2 (Bq .i64)) (Ty.slice 2 (Bq .i64))))))))))))) (fun x => (x.Name, x.Kind, x.Ad, x.Ae, x.Aj, x.Ao, x.Av, x.Ak, x.Ah, x.Af, x.Ai, x.Ag)) 12 rfl
def Vh : Fld Ez (Ty.slice 154 (Ty.slice 200 Bc)) := Fld.iso (Fld.snd (Fld.snd (Fld.fst Fld.id))) (fun x y => { x with Ad := y }) (fun _ _ => rfl)
def Xe : Fld Ez (Ty.slice 168 Bb) := Fld.iso (Fld.snd (Fld.snd (Fld.snd (Fld.fst Fld.id)))) (fun x y => { x with Ae := y }) (fun _ _ => rfl)
def dK : Fld Ez (Ty.slice 2 (Bq .i64)) := Fld.iso (Fld.snd (Fld.snd (Fld.snd (Fld.snd (Fld.snd (Fld.snd (Fld.fst Fld.id))))))) (fun x y => { x with Av := y }) (fun _ _ => rfl)
def Xc : Fld Ez (Ty.slice 170 Cq) := Fld.iso (Fld.snd (Fld.snd (Fld.snd (Fld.snd (Fld.snd (Fld.snd (Fld.snd (Fld.snd (Fld.snd (Fld.fst Fld.id)))))))))) (fun x y => { x with Af := y }) (fun _ _ => rfl)
def Xl : Fld Ez (Ty.slice 2 (Bq .i64)) := Fld.iso (Fld.snd (Fld.snd (Fld.snd (Fld.snd (Fld.snd (Fld.snd (Fld.snd (Fld.snd (Fld.snd (Fld.snd (Fld.fst Fld.id))))))))))) (fun x y => { x with Ai := y }) (fun _ _ => rfl)
def Xd : Fld Ez (Ty.slice 2 (Bq .i64)) := Fld.iso (Fld.snd (Fld.snd (Fld.snd (Fld.snd (Fld.snd (Fld.snd (Fld.snd (Fld.snd (Fld.snd (Fld.snd (Fld.snd Fld.id))))))))))) (fun x y => { x with Ag := y }) (fun _ _ => rfl)
abbrev Aa : Ty Am := Ty.iso (Ty.pair Wy (Ty.pair (Bq .i64) (Ty.pair (Ty.slice 150 (Ty.slice 157 Bc)) (Ty.pair (Ty.slice 152 Bb) (Ty.pair (Bq .i64) (Ty.pair (Bq .i64) (Ty.pair (Ty.slice 2 (Bq .i64)) (Ty.pair (Bq .i64) (Ty.pair (Bq .i64) (Ty.pair (Ty.slice 140 Cq) (Ty.pair (Ty.slice 2 (Bq .i64)) (Ty.slice 2 (Bq .i64))))))))))))) (fun x => (x.Name, x.Kind, x.Ad, x.Ae, x.Aj, x.Ao, x.Av, x.Ak, x.Ah, x.Af, x.Ai, x.Ag)) 12 rfl
theorem Mh {w0 w : World} {L : List Cu} {Name : ByteArray} {Kind : Int} {Ad : List (List Bt)} {Ae : List Al} {Aj : Int} {Ao : Int} {Av : List Int} {Ak : Int} {Ah : Int} {Af : List Ci} {Ai : List Int} {Ag : List Int} {A2 : Option Addr} {c2 : Nat} {y2 : Nat → (Ty.slice 157 Bc).Lay} {A3 : Option Addr} {c3 : Nat} {y3 : Nat → Bb.Lay} {A6 : Option Addr} {c6 : Nat} {y6 : Nat → (Bq .i64).Lay} {A9 : Option Addr} {c9 : Nat} {y9 : Nat → Cq.Lay} {A10 : Option Addr} {c10 : Nat} {y10 : Nat → (Bq .i64).Lay} {A11 : Option Addr} {c11 : Nat} {y11 : Nat → (Bq .i64).Lay} (h : St w0 w (Own (Bq .i64) 2 A11 c11 y11 Ag :: Own (Bq .i64) 2 A10 c10 y10 Ai :: Own Cq 140 A9 c9 y9 Af :: Own (Bq .i64) 2 A6 c6 y6 Av :: Own Bb 152 A3 c3 y3 Ae :: Own (Ty.slice 157 Bc) 150 A2 c2 y2 Ad :: L)) : St w0 w (Elt Aa ((), (), ⟨A2, c2, y2⟩, ⟨A3, c3, y3⟩, (), (), ⟨A6, c6, y6⟩, (), (), ⟨A9, c9, y9⟩, ⟨A10, c10, y10⟩, ⟨A11, c11, y11⟩) ⟨Name, Kind, Ad, Ae, Aj, Ao, Av, Ak, Ah, Af, Ai, Ag⟩ :: L) := show St w0 w (Elt (Ty.pair Wy (Ty.pair (Bq .i64) (Ty.pair (Ty.slice 150 (Ty.slice 157 Bc)) (Ty.pair (Ty.slice 152 Bb) (Ty.pair (Bq .i64) (Ty.pair (Bq .i64) (Ty.pair (Ty.slice 2 (Bq .i64)) (Ty.pair (Bq .i64) (Ty.pair (Bq .i64) (Ty.pair (Ty.slice 140 Cq) (Ty.pair (Ty.slice 2 (Bq .i64)) (Ty.slice 2 (Bq .i64))))))))))))) ((), (), ⟨A2, c2, y2⟩, ⟨A3, c3, y3⟩, (), (), ⟨A6, c6, y6⟩, (), (), ⟨A9, c9, y9⟩, ⟨A10, c10, y10⟩, ⟨A11, c11, y11⟩) (Name, Kind, Ad, Ae, Aj, Ao, Av, Ak, Ah, Af, Ai, Ag) :: L) from (St.iK (St.iK (St.jP (St.jP (St.iK (St.iK (St.jP (St.iK (St.iK (St.jP (St.jP h)) Bv) Bv)) Bv) Bv))) Bv) Bv)
def L9 : Fld Aa (Ty.slice 150 (Ty.slice 157 Bc)) := Fld.iso (Fld.snd (Fld.snd (Fld.fst Fld.id))) (fun x y => { x with Ad := y }) (fun _ _ => rfl)
def Ms : Fld Aa (Ty.slice 152 Bb) := Fld.iso (Fld.snd (Fld.snd (Fld.snd (Fld.fst Fld.id)))) (fun x y => { x with Ae := y }) (fun _ _ => rfl)
def Od : Fld Aa (Ty.slice 2 (Bq .i64)) := Fld.iso (Fld.snd (Fld.snd (Fld.snd (Fld.snd (Fld.snd (Fld.snd (Fld.fst Fld.id))))))) (fun x y => { x with Av := y }) (fun _ _ => rfl)
def Mt : Fld Aa (Ty.slice 140 Cq) := Fld.iso (Fld.snd (Fld.snd (Fld.snd (Fld.snd (Fld.snd (Fld.snd (Fld.snd (Fld.snd (Fld.snd (Fld.fst Fld.id)))))))))) (fun x y => { x with Af := y }) (fun _ _ => rfl)
def M6 : Fld Aa (Ty.slice 2 (Bq .i64)) := Fld.iso (Fld.snd (Fld.snd (Fld.snd (Fld.snd (Fld.snd (Fld.snd (Fld.snd (Fld.snd (Fld.snd (Fld.snd (Fld.fst Fld.id))))))))))) (fun x y => { x with Ai := y }) (fun _ _ => rfl)
def Mr : Fld Aa (Ty.slice 2 (Bq .i64)) := Fld.iso (Fld.snd (Fld.snd (Fld.snd (Fld.snd (Fld.snd (Fld.snd (Fld.snd (Fld.snd (Fld.snd (Fld.snd (Fld.snd Fld.id))))))))))) (fun x y => { x with Ag := y }) (fun _ _ => rfl)
theorem aP : ∀ w, Aa.M w (fun _ => False) ((), (), ⟨none, 0, (fun _ => ⟨none, 0, (fun _ => ())⟩)⟩, ⟨none, 0, (fun _ => ())⟩, (), (), ⟨none, 0, (fun _ => ())⟩, (), (), ⟨none, 0, (fun _ => ())⟩, ⟨none, 0, (fun _ => ())⟩, ⟨none, 0, (fun _ => ())⟩) Br := fun w => ⟨fun _ => False, fun _ => False, fun _ h => h, fun _ h => h, fun _ h => h.elim, trivial, ⟨fun _ => False, fun _ => False, fun _ h => h, fun _ h => h, fun _ h => h.elim, trivial, ⟨fun _ => False, fun _ => False, fun _ h => h, fun _ h => h, fun _ h => h.elim, (O9.nil _ _ _ _), ⟨fun _ => False, fun _ => False, fun _ h => h, fun _ h => h, fun _ h => h.elim, (O9.nil _ _ _ _), ⟨fun _ => False, fun _ => False, fun _ h => h, fun _ h => h, fun _ h => h.elim, trivial, ⟨fun _ => False, fun _ => False, fun _ h => h, fun _ h => h, fun _ h => h.elim, trivial, ⟨fun _ => False, fun _ => False, fun _ h => h, fun _ h => h, fun _ h => h.elim, (O9.nil _ _ _ _), ⟨fun _ => False, fun _ => False, fun _ h => h, fun _ h => h, fun _ h => h.elim, trivial, ⟨fun _ => False, fun _ => False, fun _ h => h, fun _ h => h, fun _ h => h.elim, trivial, ⟨fun _ => False, fun _ => False, fun _ h => h, fun _ h => h, fun _ h => h.elim, (O9.nil _ _ _ _), ⟨fun _ => False, fun _ => False, fun _ h => h, fun _ h => h, fun _ h => h.elim, (O9.nil _ _ _ _), (O9.nil _ _ _ _)⟩⟩⟩⟩⟩⟩⟩⟩⟩⟩⟩
structure Fv where
  crossing : Int
  position : Int
  deriving DecidableEq
def Jf : Fv := ⟨0, 0⟩
def Gl : Ty Fv := Ty.flat 2 (fun x => [.int .i64 x.crossing, .int .i64 x.position]) (fun _ => rfl) (fun x u h => by simp only [List.mem_cons, List.not_mem_nil, or_false] at h; rcases h with rfl | rfl <;> rfl)
def K9.f (a_ : List Bt) (left : Int) : Option (Int) := if w64 (left - (a_.length : Int)) < 0 then (some (-1)) else (some (w64 (left - (a_.length : Int))))
abbrev K9.post := Ht
def Fj.l1 (K : Nat) : Nat → (List (List Bt)) → Int → Int → Option (Int)
  | 0, _, _, _ => none
  | k + 1, a_, b1, a1 => if a1 < (a_.length : Int) then (if 0 ≤ a1 ∧ a1 < (a_.length : Int) then ((K9.f (a_.getD a1.toNat []) b1).bind fun t20 => (if t20 < 0 then (some (-1)) else (Fj.l1 K k a_ t20 (w64 (a1 + 1))))) else none) else (some b1)
def Fj.f (K : Nat) (a_ : List (List Bt)) (left : Int) : Option (Int) := if w64 (left - (a_.length : Int)) < 0 then (some (-1)) else (Fj.l1 K K a_ (w64 (left - (a_.length : Int))) 0)
abbrev Fj.post := Ht
def Gd.f (K : Nat) (a1 : List (List Bt)) (left : Int) : Option (Int) := (Fj.f K a1 left).bind fun t3 => (if t3 < 0 then (some (-1)) else (some t3))
abbrev Gd.post := Ht
def Jh.f (a_ : List Al) (left : Int) : Option (Int) := if w64 (left - (a_.length : Int)) < 0 then (some (-1)) else (some (w64 (left - (a_.length : Int))))
abbrev Jh.post := Ht
def J9.f (a1 : List Al) (b1 : Int) (left : Int) : Option (Int) := (Jh.f a1 left).bind fun t3 => (if t3 < 0 then (some (-1)) else (some t3))
abbrev J9.post := Ht
def Hz.f (a_ : List Int) (left : Int) : Option (Int) := if w64 (left - (a_.length : Int)) < 0 then (some (-1)) else (some (w64 (left - (a_.length : Int))))
abbrev Hz.post := Ht
def Lb.f (b1 : Int) (a1 : List Int) (left : Int) : Option (Int) := (Hz.f a1 left).bind fun t3 => (if t3 < 0 then (some (-1)) else (some t3))
abbrev Lb.post := Ht
def Ld.f (a_ : List Ci) (left : Int) : Option (Int) := if w64 (left - (a_.length : Int)) < 0 then (some (-1)) else (some (w64 (left - (a_.length : Int))))
abbrev Ld.post := Ht
def Ij.f (d1 : Int) (e1 : Int) (c1 : List Ci) (a1 : List Int) (b1 : List Int) (left : Int) : Option (Int) := (Ld.f c1 left).bind fun t3 => (if t3 < 0 then (some (-1)) else ((Hz.f a1 t3).bind fun t8 => (if t8 < 0 then (some (-1)) else ((Hz.f b1 t8).bind fun t13 => (if t13 < 0 then (some (-1)) else (some t13))))))
abbrev Ij.post := Ht
def Kb.f (K : Nat) (a1 : ByteArray) (n1 : Int) (i1 : List (List Bt)) (c1 : List Al) (k1 : Int) (d1 : Int) (g1 : List Int) (b1 : Int) (f1 : Int) (h1 : List Ci) (m1 : List Int) (e1 : List Int) (left : Int) : Option (Int) := if w64 (left - (a1.size : Int)) < 0 then (some (-1)) else ((Gd.f K i1 (w64 (left - (a1.size : Int)))).bind fun t4 => (if t4 < 0 then (some (-1)) else ((J9.f c1 k1 t4).bind fun t9 => (if t9 < 0 then (some (-1)) else ((Lb.f d1 g1 t9).bind fun t14 => (if t14 < 0 then (some (-1)) else ((Ij.f b1 f1 h1 m1 e1 t14).bind fun t19 => (if t19 < 0 then (some (-1)) else (some t19)))))))))
abbrev Kb.post := Ht
def Ev.l1 (K : Nat) : Nat → (List Am) → Int → Int → Option (Int)
  | 0, _, _, _ => none
  | k + 1, a_, b1, a1 => if a1 < (a_.length : Int) then (if 0 ≤ a1 ∧ a1 < (a_.length : Int) then (bnd (a_.getD a1.toNat Br) (fun e24 => (Kb.f K e24.Name e24.Kind e24.Ad e24.Ae e24.Aj e24.Ao e24.Av e24.Ak e24.Ah e24.Af e24.Ai e24.Ag b1).bind fun t26 => (if t26 < 0 then (some (-1)) else (Ev.l1 K k a_ t26 (w64 (a1 + 1)))))) else none) else (some b1)
def Ev.f (K : Nat) (a_ : List Am) (left : Int) : Option (Int) := if w64 (left - (a_.length : Int)) < 0 then (some (-1)) else (Ev.l1 K K a_ (w64 (left - (a_.length : Int))) 0)
abbrev Ev.post := Ht
def Ef.l1 (K : Nat) : Nat → (List (List Am)) → Int → Int → Option (Int)
  | 0, _, _, _ => none
  | k + 1, a_, b1, a1 => if a1 < (a_.length : Int) then (if 0 ≤ a1 ∧ a1 < (a_.length : Int) then ((Ev.f K (a_.getD a1.toNat []) b1).bind fun t20 => (if t20 < 0 then (some (-1)) else (Ef.l1 K k a_ t20 (w64 (a1 + 1))))) else none) else (some b1)
def Ef.f (K : Nat) (a_ : List (List Am)) (left : Int) : Option (Int) := if w64 (left - (a_.length : Int)) < 0 then (some (-1)) else (Ef.l1 K K a_ (w64 (left - (a_.length : Int))) 0)
abbrev Ef.post := Ht
def Ku.f (K : Nat) (c1 : List Am) (b1 : List (List Am)) (a1 : List (List Am)) (left : Int) : Option (Int) := (Ev.f K c1 left).bind fun t3 => (if t3 < 0 then (some (-1)) else ((Ef.f K b1 t3).bind fun t8 => (if t8 < 0 then (some (-1)) else ((Ef.f K a1 t8).bind fun t13 => (if t13 < 0 then (some (-1)) else (some t13))))))
abbrev Ku.post := Ht
def Mj.f (a1 : Int) (b1 : Int) : Option (Int × Int) := some (a1, b1)
abbrev Mj.post (w0 : World) (L : List Cu) (r1 r2 : Int) (en : Ending) (w : World) : Prop := en = .returned (.agg [.int .i64 r1, .int .i64 r2].toArray) ∧ St w0 w (L)
def Ga.l1 (K : Nat) : Nat → (List Bt) → (List Bt) → Int → Option (List Bt)
  | 0, _, _, _ => none
  | k + 1, a_, b1, a1 => if a1 < (a_.length : Int) then (if 0 ≤ a1 ∧ a1 < (a_.length : Int) then (bnd (a_.getD a1.toNat Ko) (fun e31 => Ed (Mj.f e31.Tet e31.Perm) (fun t33 t34 => (if 0 ≤ a1 ∧ a1 < (b1.length : Int) then (Ga.l1 K k a_ (b1.set a1.toNat (⟨t33, t34⟩ : Bt)) (w64 (a1 + 1))) else none)))) else none) else (some b1)
def Ga.f (K : Nat) (a_ : List Bt) : Option (List Bt) := if 0 ≤ (a_.length : Int) then (if (a_.length : Int).toNat * 16 ≤ 281474976710656 then (Ga.l1 K K a_ (List.replicate (a_.length : Int).toNat Ko) 0) else none) else none
abbrev Ga.post (w0 : World) (L : List Cu) (r1 : List Bt) (en : Ending) (w : World) : Prop := ∃ (A_r0 : Option Addr) (c_r1 : Nat), en = .returned (.slice A_r0 r1.length c_r1) ∧ St w0 w (Own Bc 157 A_r0 c_r1 (fun _ => ()) r1 :: L)
def E5.l1 (K : Nat) : Nat → (List (List Bt)) → (List (List Bt)) → Int → Option (List (List Bt))
  | 0, _, _, _ => none
  | k + 1, a_, b1, a1 => if a1 < (a_.length : Int) then (if 0 ≤ a1 ∧ a1 < (a_.length : Int) then ((Ga.f K (a_.getD a1.toNat [])).bind fun t32 => (if 0 ≤ a1 ∧ a1 < (b1.length : Int) then (E5.l1 K k a_ (b1.set a1.toNat t32) (w64 (a1 + 1))) else none)) else none) else (some b1)
def E5.f (K : Nat) (a_ : List (List Bt)) : Option (List (List Bt)) := if 0 ≤ (a_.length : Int) then (if (a_.length : Int).toNat * 24 ≤ 281474976710656 then (E5.l1 K K a_ (List.replicate (a_.length : Int).toNat ([] : List Bt)) 0) else none) else none
abbrev E5.post (w0 : World) (L : List Cu) (r1 : List (List Bt)) (en : Ending) (w : World) : Prop := ∃ (A_r0 : Option Addr) (c_r1 : Nat) (y_r2 : Nat → (Ty.slice 157 Bc).Lay), en = .returned (.slice A_r0 r1.length c_r1) ∧ St w0 w (Own (Ty.slice 157 Bc) 150 A_r0 c_r1 y_r2 r1 :: L)
def Hg.f (K : Nat) (a1 : List (List Bt)) : Option (List (List Bt)) := (E5.f K a1).bind fun t7 => (some t7)
abbrev Hg.post (w0 : World) (L : List Cu) (r1 : List (List Bt)) (en : Ending) (w : World) : Prop := ∃ (A_r0 : Option Addr) (c_r1 : Nat) (y_r2 : Nat → (Ty.slice 157 Bc).Lay), en = .returned (.agg [.slice A_r0 r1.length c_r1].toArray) ∧ St w0 w (Own (Ty.slice 157 Bc) 150 A_r0 c_r1 y_r2 r1 :: L)
def Ju.f (a_A : Int) (a_B : Int) (a_C : Int) (a_D : Int) (a1 : Int) : Option (Int × Int × Int × Int × Int) := some (a_A, a_B, a_C, a_D, a1)
abbrev Ju.post (w0 : World) (L : List Cu) (r1 r2 : Int) (r3 r4 r5 : Int) (en : Ending) (w : World) : Prop := en = .returned (.agg [.int .i64 r1, .int .i64 r2, .int .i64 r3, .int .i64 r4, .int .i64 r5].toArray) ∧ St w0 w (L)
def Dt.l1 (K : Nat) : Nat → (List Al) → (List Al) → Int → Option (List Al)
  | 0, _, _, _ => none
  | k + 1, a_, b1, a1 => if a1 < (a_.length : Int) then (if 0 ≤ a1 ∧ a1 < (a_.length : Int) then (bnd (a_.getD a1.toNat Au) (fun e37 => dW (Ju.f e37.A e37.B e37.C e37.D e37.Sign) (fun t39 t40 t41 t42 t43 => (if 0 ≤ a1 ∧ a1 < (b1.length : Int) then (Dt.l1 K k a_ (b1.set a1.toNat (⟨t39, t40, t41, t42, t43⟩ : Al)) (w64 (a1 + 1))) else none)))) else none) else (some b1)
def Dt.f (K : Nat) (a_ : List Al) : Option (List Al) := if 0 ≤ (a_.length : Int) then (if (a_.length : Int).toNat * 40 ≤ 281474976710656 then (Dt.l1 K K a_ (List.replicate (a_.length : Int).toNat Au) 0) else none) else none
abbrev Dt.post (w0 : World) (L : List Cu) (r1 : List Al) (en : Ending) (w : World) : Prop := ∃ (A_r0 : Option Addr) (c_r1 : Nat), en = .returned (.slice A_r0 r1.length c_r1) ∧ St w0 w (Own Bb 152 A_r0 c_r1 (fun _ => ()) r1 :: L)
def Kc.f (K : Nat) (a1 : List Al) (b1 : Int) : Option ((List Al) × Int) := (Dt.f K a1).bind fun t7 => (some (t7, b1))
abbrev Kc.post (w0 : World) (L : List Cu) (r1 : List Al) (r2 : Int) (en : Ending) (w : World) : Prop := ∃ (A_r0 : Option Addr) (c_r1 : Nat), en = .returned (.agg [.slice A_r0 r1.length c_r1, .int .i64 r2].toArray) ∧ St w0 w (Own Bb 152 A_r0 c_r1 (fun _ => ()) r1 :: L)
def D9.l1 (K : Nat) : Nat → (List Int) → (List Int) → Int → Option (List Int)
  | 0, _, _, _ => none
  | k + 1, a_, b1, a1 => if a1 < (a_.length : Int) then (if 0 ≤ a1 ∧ a1 < (a_.length : Int) then (if 0 ≤ a1 ∧ a1 < (b1.length : Int) then (D9.l1 K k a_ (b1.set a1.toNat (a_.getD a1.toNat 0)) (w64 (a1 + 1))) else none) else none) else (some b1)
def D9.f (K : Nat) (a_ : List Int) : Option (List Int) := if 0 ≤ (a_.length : Int) then (if (a_.length : Int).toNat * 8 ≤ 281474976710656 then (D9.l1 K K a_ (List.replicate (a_.length : Int).toNat (0 : Int)) 0) else none) else none
abbrev D9.post (w0 : World) (L : List Cu) (r1 : List Int) (en : Ending) (w : World) : Prop := ∃ (A_r0 : Option Addr) (c_r1 : Nat), en = .returned (.slice A_r0 r1.length c_r1) ∧ St w0 w (Own (Bq .i64) 2 A_r0 c_r1 (fun _ => ()) r1 :: L)
def Lj.f (K : Nat) (b1 : Int) (a1 : List Int) : Option (Int × (List Int)) := (D9.f K a1).bind fun t8 => (some (b1, t8))
abbrev Lj.post (w0 : World) (L : List Cu) (r1 : Int) (r2 : List Int) (en : Ending) (w : World) : Prop := ∃ (A_r0 : Option Addr) (c_r1 : Nat), en = .returned (.agg [.int .i64 r1, .slice A_r0 r2.length c_r1].toArray) ∧ St w0 w (Own (Bq .i64) 2 A_r0 c_r1 (fun _ => ()) r2 :: L)
def Md.f (c1 : Int) (a1 : Int) (b1 : Int) : Option (Int × Int × Int) := some (c1, a1, b1)
abbrev Md.post (w0 : World) (L : List Cu) (r1 r2 r3 : Int) (en : Ending) (w : World) : Prop := en = .returned (.agg [.int .i64 r1, .int .i64 r2, .int .i64 r3].toArray) ∧ St w0 w (L)
def F6.l1 (K : Nat) : Nat → (List Ci) → (List Ci) → Int → Option (List Ci)
  | 0, _, _, _ => none
  | k + 1, a_, b1, a1 => if a1 < (a_.length : Int) then (if 0 ≤ a1 ∧ a1 < (a_.length : Int) then (bnd (a_.getD a1.toNat He) (fun e33 => M8 (Md.f e33.Kind e33.Tet e33.Index) (fun t35 t36 t37 => (if 0 ≤ a1 ∧ a1 < (b1.length : Int) then (F6.l1 K k a_ (b1.set a1.toNat (⟨t35, t36, t37⟩ : Ci)) (w64 (a1 + 1))) else none)))) else none) else (some b1)
def F6.f (K : Nat) (a_ : List Ci) : Option (List Ci) := if 0 ≤ (a_.length : Int) then (if (a_.length : Int).toNat * 24 ≤ 281474976710656 then (F6.l1 K K a_ (List.replicate (a_.length : Int).toNat He) 0) else none) else none
abbrev F6.post (w0 : World) (L : List Cu) (r1 : List Ci) (en : Ending) (w : World) : Prop := ∃ (A_r0 : Option Addr) (c_r1 : Nat), en = .returned (.slice A_r0 r1.length c_r1) ∧ St w0 w (Own Cq 140 A_r0 c_r1 (fun _ => ()) r1 :: L)
def Hq.f (K : Nat) (b1 : Int) (e1 : Int) (d1 : List Ci) (a1 : List Int) (c1 : List Int) : Option (Int × Int × (List Ci) × (List Int) × (List Int)) := (F6.f K d1).bind fun t9 => ((D9.f K a1).bind fun t16 => ((D9.f K c1).bind fun t23 => (some (b1, e1, t9, t16, t23))))
abbrev Hq.post (w0 : World) (L : List Cu) (r1 r2 : Int) (r3 : List Ci) (r4 r5 : List Int) (en : Ending) (w : World) : Prop := ∃ (A_r0 : Option Addr) (c_r1 : Nat) (A_r2 : Option Addr) (c_r3 : Nat) (A_r4 : Option Addr) (c_r5 : Nat), en = .returned (.agg [.int .i64 r1, .int .i64 r2, .slice A_r0 r3.length c_r1, .slice A_r2 r4.length c_r3, .slice A_r4 r5.length c_r5].toArray) ∧ St w0 w (Own Cq 140 A_r0 c_r1 (fun _ => ()) r3 :: Own (Bq .i64) 2 A_r2 c_r3 (fun _ => ()) r4 :: Own (Bq .i64) 2 A_r4 c_r5 (fun _ => ()) r5 :: L)
def Gy.f (K : Nat) (i1 : ByteArray) (n1 : Int) (h1 : List (List Bt)) (b1 : List Al) (k1 : Int) (c1 : Int) (f1 : List Int) (a1 : Int) (e1 : Int) (g1 : List Ci) (m1 : List Int) (d1 : List Int) : Option (ByteArray × Int × (List (List Bt)) × (List Al) × Int × Int × (List Int) × Int × Int × (List Ci) × (List Int) × (List Int)) := (Hg.f K h1).bind fun t9 => (Ed (Kc.f K b1 k1) (fun t17 t18 => (Ed (Lj.f K c1 f1) (fun t25 t26 => (dW (Hq.f K a1 e1 g1 m1 d1) (fun t33 t34 t35 t36 t37 => (some (i1, n1, t9, t17, t18, t25, t26, t33, t34, t35, t36, t37))))))))
abbrev Gy.post (w0 : World) (L : List Cu) (r1 : ByteArray) (r2 : Int) (r3 : List (List Bt)) (r4 : List Al) (r5 r6 : Int) (r7 : List Int) (r8 r9 : Int) (r10 : List Ci) (r11 r12 : List Int) (en : Ending) (w : World) : Prop := ∃ (A_r0 : Option Addr) (c_r1 : Nat) (y_r2 : Nat → (Ty.slice 157 Bc).Lay) (A_r3 : Option Addr) (c_r4 : Nat) (A_r5 : Option Addr) (c_r6 : Nat) (A_r7 : Option Addr) (c_r8 : Nat) (A_r9 : Option Addr) (c_r10 : Nat) (A_r11 : Option Addr) (c_r12 : Nat), en = .returned (.agg [.string r1, .int .i64 r2, .slice A_r0 r3.length c_r1, .slice A_r3 r4.length c_r4, .int .i64 r5, .int .i64 r6, .slice A_r5 r7.length c_r6, .int .i64 r8, .int .i64 r9, .slice A_r7 r10.length c_r8, .slice A_r9 r11.length c_r10, .slice A_r11 r12.length c_r12].toArray) ∧ St w0 w (Own (Ty.slice 157 Bc) 150 A_r0 c_r1 y_r2 r3 :: Own Bb 152 A_r3 c_r4 (fun _ => ()) r4 :: Own (Bq .i64) 2 A_r5 c_r6 (fun _ => ()) r7 :: Own Cq 140 A_r7 c_r8 (fun _ => ()) r10 :: Own (Bq .i64) 2 A_r9 c_r10 (fun _ => ()) r11 :: Own (Bq .i64) 2 A_r11 c_r12 (fun _ => ()) r12 :: L)
def Fb.l1 (K : Nat) : Nat → (List Am) → (List Am) → Int → Option (List Am)
  | 0, _, _, _ => none
  | k + 1, a_, b1, a1 => if a1 < (a_.length : Int) then (if 0 ≤ a1 ∧ a1 < (a_.length : Int) then (bnd (a_.getD a1.toNat Br) (fun e80 => Hf (Gy.f K e80.Name e80.Kind e80.Ad e80.Ae e80.Aj e80.Ao e80.Av e80.Ak e80.Ah e80.Af e80.Ai e80.Ag) (fun t82 t83 t84 t85 t86 t87 t88 t89 t90 t91 t92 t93 => (if 0 ≤ a1 ∧ a1 < (b1.length : Int) then (Fb.l1 K k a_ (b1.set a1.toNat (⟨t82, t83, t84, t85, t86, t87, t88, t89, t90, t91, t92, t93⟩ : Am)) (w64 (a1 + 1))) else none)))) else none) else (some b1)
def Fb.f (K : Nat) (a_ : List Am) : Option (List Am) := if 0 ≤ (a_.length : Int) then (if (a_.length : Int).toNat * 200 ≤ 281474976710656 then (Fb.l1 K K a_ (List.replicate (a_.length : Int).toNat Br) 0) else none) else none
abbrev Fb.post (w0 : World) (L : List Cu) (r1 : List Am) (en : Ending) (w : World) : Prop := ∃ (A_r0 : Option Addr) (c_r1 : Nat) (y_r2 : Nat → Aa.Lay), en = .returned (.slice A_r0 r1.length c_r1) ∧ St w0 w (Own Aa 64 A_r0 c_r1 y_r2 r1 :: L)
def Eu.l1 (K : Nat) : Nat → (List (List Am)) → (List (List Am)) → Int → Option (List (List Am))
  | 0, _, _, _ => none
  | k + 1, a_, b1, a1 => if a1 < (a_.length : Int) then (if 0 ≤ a1 ∧ a1 < (a_.length : Int) then ((Fb.f K (a_.getD a1.toNat [])).bind fun t34 => (if 0 ≤ a1 ∧ a1 < (b1.length : Int) then (Eu.l1 K k a_ (b1.set a1.toNat t34) (w64 (a1 + 1))) else none)) else none) else (some b1)
def Eu.f (K : Nat) (a_ : List (List Am)) : Option (List (List Am)) := if 0 ≤ (a_.length : Int) then (if (a_.length : Int).toNat * 24 ≤ 281474976710656 then (Eu.l1 K K a_ (List.replicate (a_.length : Int).toNat ([] : List Am)) 0) else none) else none
abbrev Eu.post (w0 : World) (L : List Cu) (r1 : List (List Am)) (en : Ending) (w : World) : Prop := ∃ (A_r0 : Option Addr) (c_r1 : Nat) (y_r2 : Nat → (Ty.slice 64 Aa).Lay), en = .returned (.slice A_r0 r1.length c_r1) ∧ St w0 w (Own (Ty.slice 64 Aa) 27 A_r0 c_r1 y_r2 r1 :: L)
def H9.f (K : Nat) (c1 : List Am) (b1 : List (List Am)) (a1 : List (List Am)) : Option ((List Am) × (List (List Am)) × (List (List Am))) := (Fb.f K c1).bind fun t7 => ((Eu.f K b1).bind fun t15 => ((Eu.f K a1).bind fun t23 => (some (t7, t15, t23))))
abbrev H9.post (w0 : World) (L : List Cu) (r1 : List Am) (r2 : List (List Am)) (r3 : List (List Am)) (en : Ending) (w : World) : Prop := ∃ (A_r0 : Option Addr) (c_r1 : Nat) (y_r2 : Nat → Aa.Lay) (A_r3 : Option Addr) (c_r4 : Nat) (y_r5 : Nat → (Ty.slice 64 Aa).Lay) (A_r6 : Option Addr) (c_r7 : Nat) (y_r8 : Nat → (Ty.slice 64 Aa).Lay), en = .returned (.agg [.slice A_r0 r1.length c_r1, .slice A_r3 r2.length c_r4, .slice A_r6 r3.length c_r7].toArray) ∧ St w0 w (Own Aa 64 A_r0 c_r1 y_r2 r1 :: Own (Ty.slice 64 Aa) 27 A_r3 c_r4 y_r5 r2 :: Own (Ty.slice 64 Aa) 27 A_r6 c_r7 y_r8 r3 :: L)
def Fx.l1 (K : Nat) : Nat → ByteArray → Int → Option (Bool)
  | 0, _, _ => none
  | k + 1, s, i_6 => if i_6 < (s.size : Int) then (if 0 ≤ i_6 ∧ i_6 < (s.size : Int) then (if Xk s i_6.toNat < 97 then (some false) else (if 122 < Xk s i_6.toNat then (some false) else (Fx.l1 K k s (w64 (i_6 + 1))))) else none) else (if 1 ≤ (s.size : Int) then (some (decide ((s.size : Int) ≤ 8))) else (some false))
def Fx.f (K : Nat) (s : ByteArray) : Option (Bool) := Fx.l1 K K s 0
abbrev Fx.post := F4
def Dx.f (n_ : Int) (low : Int) (high : Int) : Option (Bool) := if low ≤ n_ then (some (decide (n_ ≤ high))) else (some false)
abbrev Dx.post := F4
def Ky.f (a1 : List (List Bt)) : Option (Bool) := some (decide ((a1.length : Int) = 0))
abbrev Ky.post := F4
def I6.f (b1 : List Al) (a1 : Int) : Option (Bool) := if (b1.length : Int) = 0 then (some (decide (a1 = 0))) else (some false)
abbrev I6.post := F4
def Jy.f (a1 : Int) (b1 : List Int) : Option (Bool) := if a1 = 0 then (some (decide ((b1.length : Int) = 0))) else (some false)
abbrev Jy.post := F4
def Gv.f (c1 : Int) (e1 : Int) (a1 : List Ci) (d1 : List Int) (b1 : List Int) : Option (Bool) := if c1 = 0 then (if e1 = 0 then (if (a1.length : Int) = 0 then (if (d1.length : Int) = 0 then (some (decide ((b1.length : Int) = 0))) else (some false)) else (some false)) else (some false)) else (some false)
abbrev Gv.post := F4
def Kr.f (n1 : ByteArray) (m1 : Int) (e1 : List (List Bt)) (i1 : List Al) (b1 : Int) (d1 : Int) (f1 : List Int) (c1 : Int) (k1 : Int) (g1 : List Ci) (h1 : List Int) (a1 : List Int) (kind : Int) : Option (Bool) := if kind = 1 then ((Ky.f e1).bind fun t4 => (some t4)) else (if kind = 2 then ((I6.f i1 b1).bind fun t9 => (some t9)) else (if kind = 3 then ((Jy.f d1 f1).bind fun t14 => (some t14)) else ((Gv.f c1 k1 g1 h1 a1).bind fun t18 => (some t18))))
abbrev Kr.post := F4
def Gm.f (a1 : List (List Bt)) : Option (Int) := some (a1.length : Int)
abbrev Gm.post := Ht
def Jd.f (n_ : Int) (low : Int) (high : Int) : Option (Bool) := if low ≤ n_ then (some (decide (n_ ≤ high))) else (some false)
abbrev Jd.post := F4
def Hw.f (p : Int) : Option (Bool) := if 0 ≤ p then (some (decide (p < 24))) else (some false)
abbrev Hw.post := F4
def Fs.l1 (K : Nat) : Nat → Int → (List Int) → (List Int) → Int → Int → Option (List Int)
  | 0, _, _, _, _, _ => none
  | k + 1, b1, c1, e1, a1, d1 => if 0 ≤ d1 then (if a1 = 0 then none else (if 0 ≤ w64 (b1.tdiv a1) ∧ w64 (b1.tdiv a1) < (c1.length : Int) then (if (e1.length + 1) * 8 ≤ 140737488355328 then (if 0 ≤ w64 (b1.tdiv a1) ∧ w64 (b1.tdiv a1) ≤ (c1.length : Int) then (if (([] : List Int).length + ((c1.take ((w64 (b1.tdiv a1)).toNat)).drop 0).length) * 8 ≤ 140737488355328 then (if 0 ≤ w64 ((w64 (b1.tdiv a1)) + 1) ∧ w64 ((w64 (b1.tdiv a1)) + 1) ≤ (c1.length : Int) then (if ((([] : List Int) ++ ((c1.take ((w64 (b1.tdiv a1)).toNat)).drop 0)).length + ((c1.take c1.length).drop ((w64 ((w64 (b1.tdiv a1)) + 1)).toNat)).length) * 8 ≤ 140737488355328 then (if 0 < d1 then (if d1 = 0 then none else (Fs.l1 K k (b1.tmod a1) ((([] : List Int) ++ ((c1.take ((w64 (b1.tdiv a1)).toNat)).drop 0)) ++ ((c1.take c1.length).drop ((w64 ((w64 (b1.tdiv a1)) + 1)).toNat))) (e1 ++ [c1.getD ((w64 (b1.tdiv a1)).toNat) 0]) (w64 (a1.tdiv d1)) (w64 (d1 - 1)))) else (Fs.l1 K k (b1.tmod a1) ((([] : List Int) ++ ((c1.take ((w64 (b1.tdiv a1)).toNat)).drop 0)) ++ ((c1.take c1.length).drop ((w64 ((w64 (b1.tdiv a1)) + 1)).toNat))) (e1 ++ [c1.getD ((w64 (b1.tdiv a1)).toNat) 0]) a1 (w64 (d1 - 1)))) else none) else none) else none) else none) else none) else none)) else (some e1)
def Fs.f (K : Nat) (p : Int) : Option (List Int) := Fs.l1 K K p ([0, 1, 2, 3] : List Int) ([] : List Int) 6 3
abbrev Fs.post (w0 : World) (L : List Cu) (r1 : List Int) (en : Ending) (w : World) : Prop := ∃ (A_r0 : Option Addr) (c_r1 : Nat), en = .returned (.slice A_r0 r1.length c_r1) ∧ St w0 w (Own (Bq .i64) 2 A_r0 c_r1 (fun _ => ()) r1 :: L)
def K3.f (K : Nat) (p : Int) (k_ : Int) : Option (Int) := (Fs.f K p).bind fun t1 => (if 0 ≤ k_ ∧ k_ < (t1.length : Int) then (some (t1.getD k_.toNat 0)) else none)
abbrev K3.post := Ht
mutual
def Eh.l1 (K : Nat) : Nat → (List Int) → Int → Int → Int → Option (Int)
  | 0, _, _, _, _ => none
  | k + 1, a_, p_4, a1, i_6 => if i_6 < 3 then (if 0 ≤ i_6 ∧ i_6 < (a_.length : Int) then (Eh.l4 K k a_ p_4 a1 i_6 (a_.getD i_6.toNat 0) 0) else none) else (some p_4)
def Eh.l4 (K : Nat) : Nat → (List Int) → Int → Int → Int → Int → Int → Option (Int)
  | 0, _, _, _, _, _, _ => none
  | k + 1, a_, p_4, b1, i_6, c1, a1 => if a1 < i_6 then (if 0 ≤ a1 ∧ a1 < (a_.length : Int) then (if a_.getD a1.toNat 0 < a_.getD i_6.toNat 0 then (Eh.l4 K k a_ p_4 b1 i_6 (w64 (c1 - 1)) (w64 (a1 + 1))) else (Eh.l4 K k a_ p_4 b1 i_6 c1 (w64 (a1 + 1)))) else none) else (if w64 (3 - i_6) = 0 then none else (Eh.l1 K k a_ (w64 (p_4 + (w64 (b1 * c1)))) (w64 (b1.tdiv (w64 (3 - i_6)))) (w64 (i_6 + 1))))
end
def Eh.f (K : Nat) (a_ : List Int) : Option (Int) := Eh.l1 K K a_ 0 6 0
abbrev Eh.post := Ht
def Gh.l1 (K : Nat) : Nat → (List Int) → (List Int) → Int → Option (Int)
  | 0, _, _, _ => none
  | k + 1, t1, b1, a1 => if a1 < 4 then (if 0 ≤ a1 ∧ a1 < (t1.length : Int) then (if 0 ≤ t1.getD a1.toNat 0 ∧ t1.getD a1.toNat 0 < (b1.length : Int) then (Gh.l1 K k t1 (b1.set ((t1.getD a1.toNat 0).toNat) a1) (w64 (a1 + 1))) else none) else none) else ((Eh.f K b1).bind fun t26 => (some t26))
def Gh.f (K : Nat) (p : Int) : Option (Int) := (Fs.f K p).bind fun t1 => (Gh.l1 K K t1 ([0, 0, 0, 0] : List Int) 0)
abbrev Gh.post := Ht
mutual
def Ar.l1 (K : Nat) : Nat → (List (List Bt)) → Int → Option (Bool)
  | 0, _, _ => none
  | k + 1, b1, a1 => if a1 < (b1.length : Int) then (if 0 ≤ a1 ∧ a1 < (b1.length : Int) then (if ((b1.getD a1.toNat []).length : Int) = 4 then (Ar.l1 K k b1 (w64 (a1 + 1))) else (some false)) else none) else (Ar.l28 K k b1 0)
def Ar.l28 (K : Nat) : Nat → (List (List Bt)) → Int → Option (Bool)
  | 0, _, _ => none
  | k + 1, b1, a1 => (Gm.f b1).bind fun t1453 => (if a1 < t1453 then (Ar.l37 K k b1 a1 0) else (some true))
def Ar.l37 (K : Nat) : Nat → (List (List Bt)) → Int → Int → Option (Bool)
  | 0, _, _, _ => none
  | k + 1, c1, a1, b1 => if b1 < 4 then (if 0 ≤ a1 ∧ a1 < (c1.length : Int) then (if 0 ≤ b1 ∧ b1 < ((c1.getD a1.toNat []).length : Int) then (bnd ((c1.getD a1.toNat []).getD b1.toNat Ko) (fun e1577 => if e1577.Tet = (-1) then (Ar.j40 K k c1 a1 b1 e1577 (decide (e1577.Perm = 0))) else (Ar.j40 K k c1 a1 b1 e1577 false))) else none) else none) else (Ar.l28 K k c1 (w64 (a1 + 1)))
def Ar.j40 (K : Nat) : Nat → (List (List Bt)) → Int → Int → Bt → Bool → Option (Bool)
  | 0, _, _, _, _, _ => none
  | k + 1, a1, c1, b1, e1577, x1584 => if x1584 = true then (Ar.l37 K k a1 c1 (w64 (b1 + 1))) else ((Gm.f a1).bind fun t1599 => ((Jd.f e1577.Tet 0 (w64 (t1599 - 1))).bind fun t1603 => (if t1603 = true then ((Hw.f e1577.Perm).bind fun t1608 => (if t1608 = true then ((K3.f K e1577.Perm b1).bind fun t1613 => ((Gh.f K e1577.Perm).bind fun t1617 => (if 0 ≤ e1577.Tet ∧ e1577.Tet < (a1.length : Int) then (if 0 ≤ t1613 ∧ t1613 < ((a1.getD e1577.Tet.toNat []).length : Int) then (bnd ((a1.getD e1577.Tet.toNat []).getD t1613.toNat Ko) (fun e1626 => if (e1626.Tet, e1626.Perm) = (c1, t1617) then (if e1577.Tet = c1 then (if t1613 = b1 then (some false) else (Ar.l37 K k a1 c1 (w64 (b1 + 1)))) else (Ar.l37 K k a1 c1 (w64 (b1 + 1)))) else (some false))) else none) else none))) else (some false))) else (some false))))
end
def Ar.f (K : Nat) (a1 : List (List Bt)) : Option (Bool) := (Gm.f a1).bind fun t3 => (if 8 < t3 then (some false) else (Ar.l1 K K a1 0))
abbrev Ar.post := F4
def I5.f (x_A : Int) (x_B : Int) (x_C : Int) (x_D : Int) (a1 : Int) (p : Int) : Option (Int) := if 0 ≤ p ∧ p < (([x_A, x_B, x_C, x_D] : List Int).length : Int) then (some (([x_A, x_B, x_C, x_D] : List Int).getD p.toNat 0)) else none
abbrev I5.post := Ht
def G6.f (x_A : Int) (x_B : Int) (x_C : Int) (x_D : Int) (a1 : Int) (p : Int) : Option (Bool) := if p = 0 then (some true) else (if p = 3 then (if a1 = 1 then (some true) else (if p = 1 then (some (decide (a1 = (-1)))) else (some false))) else (if p = 1 then (some (decide (a1 = (-1)))) else (some false)))
abbrev G6.post := F4
mutual
def Bf.l1 (K : Nat) : Nat → (List Al) → (List Bool) → (List Bool) → Int → Option (Bool)
  | 0, _, _, _, _ => none
  | k + 1, b1, c1, d1, a1 => if a1 < (b1.length : Int) then (if 0 ≤ a1 ∧ a1 < (b1.length : Int) then (bnd (b1.getD a1.toNat Au) (fun e185 => if e185.Sign = 1 then (Bf.j12 K k b1 c1 d1 a1 e185 false) else (Bf.j12 K k b1 c1 d1 a1 e185 (!(decide (e185.Sign = (-1))))))) else none) else (some true)
def Bf.j12 (K : Nat) : Nat → (List Al) → (List Bool) → (List Bool) → Int → Al → Bool → Option (Bool)
  | 0, _, _, _, _, _, _ => none
  | k + 1, b1, a1, c1, d1, e185, x192 => if x192 = true then (some false) else (Bf.l13 K k b1 d1 e185 a1 c1 0)
def Bf.l13 (K : Nat) : Nat → (List Al) → Int → Al → (List Bool) → (List Bool) → Int → Option (Bool)
  | 0, _, _, _, _, _, _ => none
  | k + 1, d1, e1, e185, b1, c1, a1 => if a1 < 4 then ((I5.f e185.A e185.B e185.C e185.D e185.Sign a1).bind fun t245 => ((Dx.f t245 0 (w64 ((w64 (2 * (d1.length : Int))) - 1))).bind fun t249 => (if t249 = true then ((G6.f e185.A e185.B e185.C e185.D e185.Sign a1).bind fun t254 => (if t254 = true then (if 0 ≤ t245 ∧ t245 < (b1.length : Int) then (if (b1.getD t245.toNat false) = true then (some false) else (Bf.l13 K k d1 e1 e185 (b1.set t245.toNat true) c1 (w64 (a1 + 1)))) else none) else (if 0 ≤ t245 ∧ t245 < (c1.length : Int) then (if (c1.getD t245.toNat false) = true then (some false) else (Bf.l13 K k d1 e1 e185 b1 (c1.set t245.toNat true) (w64 (a1 + 1)))) else none))) else (some false)))) else (Bf.l1 K k d1 b1 c1 (w64 (e1 + 1)))
end
def Bf.f (K : Nat) (a1 : List Al) (b1 : Int) : Option (Bool) := if 0 ≤ w64 (2 * (a1.length : Int)) then (if (w64 (2 * (a1.length : Int))).toNat * 1 ≤ 281474976710656 then (Bf.l1 K K a1 (List.replicate (w64 (2 * (a1.length : Int))).toNat false) (List.replicate (w64 (2 * (a1.length : Int))).toNat false) 0) else none) else none
abbrev Bf.post := F4
mutual
def Ck.l1 (K : Nat) : Nat → (List Al) → Int → Bool → Int → Option (Int × Int)
  | 0, _, _, _, _ => none
  | k + 1, b1, a_, enters, a1 => if a1 < (b1.length : Int) then (Ck.l4 K k b1 a_ enters a1 0) else (some ((-1), (-1)))
def Ck.l4 (K : Nat) : Nat → (List Al) → Int → Bool → Int → Int → Option (Int × Int)
  | 0, _, _, _, _, _ => none
  | k + 1, c1, a_, enters, a1, b1 => if b1 < 4 then (if 0 ≤ a1 ∧ a1 < (c1.length : Int) then (bnd (c1.getD a1.toNat Au) (fun e229 => (I5.f e229.A e229.B e229.C e229.D e229.Sign b1).bind fun t231 => (if t231 = a_ then ((G6.f e229.A e229.B e229.C e229.D e229.Sign b1).bind fun t236 => (if (t236 == enters) = true then (some (a1, b1)) else (Ck.l4 K k c1 a_ enters a1 (w64 (b1 + 1))))) else (Ck.l4 K k c1 a_ enters a1 (w64 (b1 + 1)))))) else none) else (Ck.l1 K k c1 a_ enters (w64 (a1 + 1)))
end
def Ck.f (K : Nat) (a1 : List Al) (b1 : Int) (a_ : Int) (enters : Bool) : Option (Int × Int) := Ck.l1 K K a1 a_ enters 0
abbrev Ck.post (w0 : World) (L : List Cu) (r1 r2 : Int) (en : Ending) (w : World) : Prop := en = .returned (.tuple #[.int .i64 r1, .int .i64 r2]) ∧ St w0 w (L)
def Ia.f (K : Nat) (a1 : List Al) (b1 : Int) (corner : Int) : Option (Int) := if 0 ≤ w64 (corner.tdiv 4) ∧ w64 (corner.tdiv 4) < (a1.length : Int) then (bnd (a1.getD ((w64 (corner.tdiv 4)).toNat) Au) (fun e4 => (I5.f e4.A e4.B e4.C e4.D e4.Sign ((w64 ((corner.tmod 4) + 1)).tmod 4)).bind fun t9 => ((G6.f e4.A e4.B e4.C e4.D e4.Sign ((w64 ((corner.tmod 4) + 1)).tmod 4)).bind fun t13 => (Ed (Ck.f K a1 b1 t9 (!t13)) (fun t17 t18 => (some (w64 ((w64 (4 * t17)) + t18)))))))) else none
abbrev Ia.post := Ht
mutual
def Cj.l1 (K : Nat) : Nat → (List Al) → Int → (List (List Int)) → (List Bool) → Int → Option (List (List Int))
  | 0, _, _, _, _, _ => none
  | k + 1, d1, e1, c1, b1, a1 => if a1 < (b1.length : Int) then (if 0 ≤ a1 ∧ a1 < (b1.length : Int) then (if (b1.getD a1.toNat false) = true then (Cj.l1 K k d1 e1 c1 b1 (w64 (a1 + 1))) else (Cj.l4 K k d1 e1 c1 a1 b1 ([] : List Int) a1)) else none) else (some c1)
def Cj.l4 (K : Nat) : Nat → (List Al) → Int → (List (List Int)) → Int → (List Bool) → (List Int) → Int → Option (List (List Int))
  | 0, _, _, _, _, _, _, _ => none
  | k + 1, d1, e1, c1, g1, b1, f1, a1 => if 0 ≤ a1 ∧ a1 < (b1.length : Int) then (if (b1.getD a1.toNat false) = true then (if (c1.length + 1) * 24 ≤ 140737488355328 then (Cj.l1 K k d1 e1 (c1 ++ [f1]) b1 (w64 (g1 + 1))) else none) else (if (f1.length + 1) * 8 ≤ 140737488355328 then ((Ia.f K d1 e1 a1).bind fun t194 => (Cj.l4 K k d1 e1 c1 g1 (b1.set a1.toNat true) (f1 ++ [a1]) t194)) else none)) else none
end
def Cj.f (K : Nat) (a1 : List Al) (b1 : Int) : Option (List (List Int)) := if 0 ≤ w64 (4 * (a1.length : Int)) then (if (w64 (4 * (a1.length : Int))).toNat * 1 ≤ 281474976710656 then (Cj.l1 K K a1 b1 ([] : List (List Int)) (List.replicate (w64 (4 * (a1.length : Int))).toNat false) 0) else none) else none
abbrev Cj.post (w0 : World) (L : List Cu) (r1 : List (List Int)) (en : Ending) (w : World) : Prop := ∃ (A_r0 : Option Addr) (c_r1 : Nat) (y_r2 : Nat → (Ty.slice 2 (Bq .i64)).Lay), en = .returned (.slice A_r0 r1.length c_r1) ∧ St w0 w (Own (Ty.slice 2 (Bq .i64)) 43 A_r0 c_r1 y_r2 r1 :: L)
mutual
def Ch.l1 (K : Nat) : Nat → (List Al) → Int → (List Int) → Int → Option (List Int)
  | 0, _, _, _, _ => none
  | k + 1, b1, d1, c1, a1 => if a1 < (b1.length : Int) then (if (c1.length + 1) * 8 ≤ 140737488355328 then (Ch.l1 K k b1 d1 (c1 ++ [a1]) (w64 (a1 + 1))) else none) else (Ch.l10 K k b1 d1 c1 0)
def Ch.l10 (K : Nat) : Nat → (List Al) → Int → (List Int) → Int → Option (List Int)
  | 0, _, _, _, _ => none
  | k + 1, b1, d1, a1, c1 => if c1 < w64 (2 * (b1.length : Int)) then (Ed (Ck.f K b1 d1 c1 true) (fun t269 t270 => (Ed (Ck.f K b1 d1 c1 false) (fun t274 t275 => (if 0 ≤ t269 ∧ t269 < (a1.length : Int) then (if 0 ≤ t274 ∧ t274 < (a1.length : Int) then (Ch.l13 K k b1 d1 a1 c1 t269 t274 a1 0) else none) else none))))) else (some a1)
def Ch.l13 (K : Nat) : Nat → (List Al) → Int → (List Int) → Int → Int → Int → (List Int) → Int → Option (List Int)
  | 0, _, _, _, _, _, _, _, _ => none
  | k + 1, d1, e1, a1, f1, t269, t274, c1, b1 => if b1 < (c1.length : Int) then (if 0 ≤ b1 ∧ b1 < (c1.length : Int) then (if c1.getD b1.toNat 0 = (if a1.getD t274.toNat 0 > a1.getD t269.toNat 0 then a1.getD t274.toNat 0 else a1.getD t269.toNat 0) then (Ch.l13 K k d1 e1 a1 f1 t269 t274 (c1.set b1.toNat (if a1.getD t274.toNat 0 < a1.getD t269.toNat 0 then a1.getD t274.toNat 0 else a1.getD t269.toNat 0)) (w64 (b1 + 1))) else (Ch.l13 K k d1 e1 a1 f1 t269 t274 c1 (w64 (b1 + 1)))) else none) else (Ch.l10 K k d1 e1 c1 (w64 (f1 + 1)))
end
def Ch.f (K : Nat) (b1 : List Al) (a1 : Int) : Option (List Int) := Ch.l1 K K b1 a1 ([] : List Int) 0
abbrev Ch.post (w0 : World) (L : List Cu) (r1 : List Int) (en : Ending) (w : World) : Prop := ∃ (A_r0 : Option Addr) (c_r1 : Nat), en = .returned (.slice A_r0 r1.length c_r1) ∧ St w0 w (Own (Bq .i64) 2 A_r0 c_r1 (fun _ => ()) r1 :: L)
def Dc.l1 (K : Nat) : Nat → (List Int) → Int → Int → Option (Int)
  | 0, _, _, _ => none
  | k + 1, t3, b1, a1 => if a1 < (t3.length : Int) then (if 0 ≤ a1 ∧ a1 < (t3.length : Int) then (if t3.getD a1.toNat 0 = a1 then (Dc.l1 K k t3 (w64 (b1 + 1)) (w64 (a1 + 1))) else (Dc.l1 K k t3 b1 (w64 (a1 + 1)))) else none) else (some b1)
def Dc.f (K : Nat) (b1 : List Al) (a1 : Int) : Option (Int) := (Ch.f K b1 a1).bind fun t3 => (Dc.l1 K K t3 0 0)
abbrev Dc.post := Ht
def Ic.f (K : Nat) (a1 : List Al) (b1 : Int) : Option (Bool) := if 10 < (a1.length : Int) then (some false) else ((Dx.f b1 0 8).bind fun t14 => (if t14 = true then ((Bf.f K a1 b1).bind fun t19 => (if t19 = true then ((Cj.f K a1 b1).bind fun t24 => ((Dc.f K a1 b1).bind fun t31 => (some (decide ((t24.length : Int) = w64 ((a1.length : Int) + (w64 (2 * t31)))))))) else (some false))) else (some false)))
abbrev Ic.post := F4
def Jo.f (n_ : Int) (strands : Int) : Option (Bool) := if n_ = 0 then (some false) else ((Dx.f n_ (w64 (1 - strands)) (w64 (strands - 1))).bind fun t2 => (some t2))
abbrev Jo.post := F4
def Dq.l1 (K : Nat) : Nat → Int → (List Int) → Int → Option (Bool)
  | 0, _, _, _ => none
  | k + 1, c1, b1, a1 => if a1 < (b1.length : Int) then (if 0 ≤ a1 ∧ a1 < (b1.length : Int) then ((Jo.f (b1.getD a1.toNat 0) c1).bind fun t31 => (if t31 = true then (Dq.l1 K k c1 b1 (w64 (a1 + 1))) else (some false))) else none) else (some true)
def Dq.f (K : Nat) (a1 : Int) (b1 : List Int) : Option (Bool) := (Dx.f a1 1 6).bind fun t8 => (if t8 = true then (if 24 < (b1.length : Int) then (some false) else (Dq.l1 K K a1 b1 0)) else (some false))
abbrev Dq.post := F4
def Kh.f (name : Int) : Option (Bool) := (Dx.f name 0 4).bind fun t1 => (some t1)
abbrev Kh.post := F4
def Eo.j1 (K : Nat) : Nat → Int → Bool → Option (Int)
  | 0, _, _ => none
  | k + 1, kind, x2 => if x2 = true then (some 3) else (if kind = 2 then (some 5) else (if kind = 3 then (some 0) else (some (-1))))
def Eo.f (K : Nat) (kind : Int) : Option (Int) := if kind = 1 then (Eo.j1 K K kind (decide (kind = 1))) else (Eo.j1 K K kind (decide (kind = 4)))
abbrev Eo.post := Ht
def Kz.f : Option (List ByteArray) := some ([(⟨#[50, 51]⟩ : ByteArray), (⟨#[51, 50]⟩ : ByteArray), (⟨#[49, 52]⟩ : ByteArray), (⟨#[52, 49]⟩ : ByteArray)] : List ByteArray)
abbrev Kz.post (w0 : World) (L : List Cu) (r1 : List ByteArray) (en : Ending) (w : World) : Prop := ∃ (A_r0 : Option Addr) (c_r1 : Nat), en = .returned (.slice A_r0 r1.length c_r1) ∧ St w0 w (Own Wy 9 A_r0 c_r1 (fun _ => ()) r1 :: L)
def Jl.f (n_ : Int) : Option (ByteArray) := some (strOfNums ([IntKind.wrap .u8 (w64 (48 + n_))] : List Int))
abbrev Jl.post (w0 : World) (L : List Cu) (r1 : ByteArray) (en : Ending) (w : World) : Prop := en = .returned (.string r1) ∧ St w0 w (L)
def Jk.f (K : Nat) (a1 : Int) (c1 : Int) (b1 : Int) : Option (ByteArray) := (Eo.f K a1).bind fun t21 => (if t21 < 0 then (some ByteArray.empty) else ((Jd.f c1 0 7).bind fun t26 => (if t26 = true then ((Eo.f K a1).bind fun t31 => ((Jd.f b1 0 t31).bind fun t35 => (if t35 = true then ((Kz.f).bind fun t40 => (if 0 ≤ w64 (a1 - 1) ∧ w64 (a1 - 1) < (t40.length : Int) then (if (t40.getD ((w64 (a1 - 1)).toNat) ByteArray.empty).size + (⟨#[32]⟩ : ByteArray).size ≤ 9223372036854775807 then ((Jl.f c1).bind fun t48 => (if (t40.getD ((w64 (a1 - 1)).toNat) ByteArray.empty ++ (⟨#[32]⟩ : ByteArray)).size + t48.size ≤ 9223372036854775807 then (if ((t40.getD ((w64 (a1 - 1)).toNat) ByteArray.empty ++ (⟨#[32]⟩ : ByteArray)) ++ t48).size + (⟨#[32]⟩ : ByteArray).size ≤ 9223372036854775807 then ((Jl.f b1).bind fun t54 => (if (((t40.getD ((w64 (a1 - 1)).toNat) ByteArray.empty ++ (⟨#[32]⟩ : ByteArray)) ++ t48) ++ (⟨#[32]⟩ : ByteArray)).size + t54.size ≤ 9223372036854775807 then (some ((((t40.getD ((w64 (a1 - 1)).toNat) ByteArray.empty ++ (⟨#[32]⟩ : ByteArray)) ++ t48) ++ (⟨#[32]⟩ : ByteArray)) ++ t54)) else none)) else none) else none)) else none) else none)) else (some ByteArray.empty)))) else (some ByteArray.empty))))
abbrev Jk.post (w0 : World) (L : List Cu) (r1 : ByteArray) (en : Ending) (w : World) : Prop := en = .returned (.string r1) ∧ St w0 w (L)
mutual
def Bn.l1 (K : Nat) : Nat → Int → (List Ci) → (List Int) → (List Int) → Int → Option (Bool)
  | 0, _, _, _, _, _ => none
  | k + 1, e1, a1, d1, c1, b1 => if b1 < (a1.length : Int) then (if 0 ≤ b1 ∧ b1 < (a1.length : Int) then (bnd (a1.getD b1.toNat He) (fun e135 => (Jk.f K e135.Kind e135.Tet e135.Index).bind fun t137 => (if (seq t137 ByteArray.empty) = true then (some false) else (Bn.l1 K k e1 a1 d1 c1 (w64 (b1 + 1)))))) else none) else (Bn.l4 K k e1 a1 d1 c1 0)
def Bn.l4 (K : Nat) : Nat → Int → (List Ci) → (List Int) → (List Int) → Int → Option (Bool)
  | 0, _, _, _, _, _ => none
  | k + 1, e1, d1, b1, c1, a1 => if a1 < (b1.length : Int) then (if 0 ≤ a1 ∧ a1 < (b1.length : Int) then ((Dx.f (b1.getD a1.toNat 0) 0 7).bind fun t173 => (if t173 = true then (if 0 ≤ a1 ∧ a1 < (c1.length : Int) then ((Hw.f (c1.getD a1.toNat 0)).bind fun t179 => (if t179 = true then (Bn.l4 K k e1 d1 b1 c1 (w64 (a1 + 1))) else (some false))) else none) else (some false))) else none) else (if e1 = 0 then (some true) else (some (decide (w64 ((d1.length : Int) + (b1.length : Int)) = 0))))
end
def Bn.f (K : Nat) (e1 : Int) (d1 : Int) (b1 : List Ci) (a1 : List Int) (c1 : List Int) : Option (Bool) := (Kh.f e1).bind fun t15 => (if t15 = true then ((Dx.f d1 0 4).bind fun t20 => (if t20 = true then (if 40 < (b1.length : Int) then (some false) else (if (a1.length : Int) = (c1.length : Int) then (if 8 < (a1.length : Int) then (some false) else (Bn.l1 K K d1 b1 a1 c1 0)) else (some false))) else (some false))) else (some false))
abbrev Bn.post := F4
def Cr.l1 (K : Nat) : Nat → ByteArray → Int → (List (List Bt)) → (List Al) → Int → Int → (List Int) → Int → Int → (List Ci) → (List Int) → (List Int) → Int → Option (Bool)
  | 0, _, _, _, _, _, _, _, _, _, _, _, _, _ => none
  | k + 1, o1, a1, g1, m1, d1, f1, h1, e1, n1, i1, k1, c1, b1 => if b1 ≤ 4 then (if b1 = a1 then (Cr.l1 K k o1 a1 g1 m1 d1 f1 h1 e1 n1 i1 k1 c1 (w64 (b1 + 1))) else ((Kr.f o1 a1 g1 m1 d1 f1 h1 e1 n1 i1 k1 c1 b1).bind fun t57 => (if t57 = true then (Cr.l1 K k o1 a1 g1 m1 d1 f1 h1 e1 n1 i1 k1 c1 (w64 (b1 + 1))) else (some false)))) else (if a1 = 1 then ((Ar.f K g1).bind fun t63 => (some t63)) else (if a1 = 2 then ((Ic.f K m1 d1).bind fun t68 => (some t68)) else (if a1 = 3 then ((Dq.f K f1 h1).bind fun t73 => (some t73)) else ((Bn.f K e1 n1 i1 k1 c1).bind fun t77 => (some t77)))))
def Cr.f (K : Nat) (b1 : ByteArray) (a1 : Int) (g1 : List (List Bt)) (m1 : List Al) (d1 : Int) (f1 : Int) (h1 : List Int) (e1 : Int) (n1 : Int) (i1 : List Ci) (k1 : List Int) (c1 : List Int) : Option (Bool) := (Fx.f K b1).bind fun t12 => (if t12 = true then ((Dx.f a1 1 4).bind fun t17 => (if t17 = true then (Cr.l1 K K b1 a1 g1 m1 d1 f1 h1 e1 n1 i1 k1 c1 1) else (some false))) else (some false))
abbrev Cr.post := F4
def Ec.l1 (K : Nat) : Nat → (List Am) → Int → Option (Bool)
  | 0, _, _ => none
  | k + 1, list, a1 => if a1 < (list.length : Int) then (if 0 ≤ a1 ∧ a1 < (list.length : Int) then (bnd (list.getD a1.toNat Br) (fun e27 => (Cr.f K e27.Name e27.Kind e27.Ad e27.Ae e27.Aj e27.Ao e27.Av e27.Ak e27.Ah e27.Af e27.Ai e27.Ag).bind fun t29 => (if t29 = true then (if 0 < a1 then (if 0 ≤ w64 (a1 - 1) ∧ w64 (a1 - 1) < (list.length : Int) then (bnd (list.getD ((w64 (a1 - 1)).toNat) Br) (fun e36 => if (slt e36.Name e27.Name) = true then (Ec.l1 K k list (w64 (a1 + 1))) else (some false))) else none) else (Ec.l1 K k list (w64 (a1 + 1)))) else (some false)))) else none) else (some (decide ((list.length : Int) ≤ 10)))
def Ec.f (K : Nat) (list : List Am) : Option (Bool) := Ec.l1 K K list 0
abbrev Ec.post := F4
def Dp.l1 (K : Nat) : Nat → (List (List Am)) → Int → Option (Bool)
  | 0, _, _ => none
  | k + 1, list, i_8 => if i_8 < (list.length : Int) then (if 0 ≤ i_8 ∧ i_8 < (list.length : Int) then ((Ec.f K (list.getD i_8.toNat [])).bind fun t18 => (if t18 = true then (Dp.l1 K k list (w64 (i_8 + 1))) else (some false))) else none) else (some (decide ((list.length : Int) ≤ 6)))
def Dp.f (K : Nat) (list : List (List Am)) : Option (Bool) := Dp.l1 K K list 0
abbrev Dp.post := F4
def Il.f (K : Nat) (a1 : List Am) (b1 : List (List Am)) (c1 : List (List Am)) : Option (Bool) := (Ec.f K a1).bind fun t3 => (if t3 = true then ((Dp.f K b1).bind fun t8 => (if t8 = true then ((Dp.f K c1).bind fun t13 => (some t13)) else (some false))) else (some false))
abbrev Il.post := F4
def Ew.l1 (K : Nat) : Nat → (List Am) → ByteArray → Int → Option (Int)
  | 0, _, _, _ => none
  | k + 1, list, name, i_6 => if i_6 < (list.length : Int) then (if 0 ≤ i_6 ∧ i_6 < (list.length : Int) then (bnd (list.getD i_6.toNat Br) (fun e14 => if (seq e14.Name name) = true then (some i_6) else (Ew.l1 K k list name (w64 (i_6 + 1))))) else none) else (some (-1))
def Ew.f (K : Nat) (list : List Am) (name : ByteArray) : Option (Int) := Ew.l1 K K list name 0
abbrev Ew.post := Ht
def Gw.l1 (K : Nat) : Nat → (List (List Bt)) → (List (List Bt)) → Int → Option (List (List Bt))
  | 0, _, _, _ => none
  | k + 1, b1, c1, a1 => if a1 < (b1.length : Int) then (if 0 ≤ a1 ∧ a1 < (b1.length : Int) then (if (([] : List Bt).length + (b1.getD a1.toNat []).length) * 16 ≤ 140737488355328 then (if (c1.length + 1) * 24 ≤ 140737488355328 then (Gw.l1 K k b1 (c1 ++ [(([] : List Bt) ++ (b1.getD a1.toNat []))]) (w64 (a1 + 1))) else none) else none) else none) else (some c1)
def Gw.f (K : Nat) (a1 : List (List Bt)) : Option (List (List Bt)) := Gw.l1 K K a1 ([] : List (List Bt)) 0
abbrev Gw.post (w0 : World) (L : List Cu) (r1 : List (List Bt)) (en : Ending) (w : World) : Prop := ∃ (A_r0 : Option Addr) (c_r1 : Nat) (y_r2 : Nat → (Ty.slice 157 Bc).Lay), en = .returned (.agg [.slice A_r0 r1.length c_r1].toArray) ∧ St w0 w (Own (Ty.slice 157 Bc) 150 A_r0 c_r1 y_r2 r1 :: L)
def Mc.f (b1 : Int) (a1 : List Int) : Option (Int × (List Int)) := if (([] : List Int).length + a1.length) * 8 ≤ 140737488355328 then (some (b1, (([] : List Int) ++ a1))) else none
abbrev Mc.post (w0 : World) (L : List Cu) (r1 : Int) (r2 : List Int) (en : Ending) (w : World) : Prop := ∃ (A_r0 : Option Addr) (c_r1 : Nat), en = .returned (.agg [.int .i64 r1, .slice A_r0 r2.length c_r1].toArray) ∧ St w0 w (Own (Bq .i64) 2 A_r0 c_r1 (fun _ => ()) r2 :: L)
def Dw.f (K : Nat) (n1 : ByteArray) (m1 : Int) (h1 : List (List Bt)) (d1 : List Al) (e1 : Int) (g1 : Int) (i1 : List Int) (f1 : Int) (k1 : Int) (b1 : List Ci) (c1 : List Int) (a1 : List Int) : Option (ByteArray × Int × (List (List Bt)) × (List Al) × Int × Int × (List Int) × Int × Int × (List Ci) × (List Int) × (List Int)) := if (([] : List Ci).length + b1.length) * 24 ≤ 140737488355328 then (if (([] : List Int).length + c1.length) * 8 ≤ 140737488355328 then (if (([] : List Int).length + a1.length) * 8 ≤ 140737488355328 then (if (([] : List Al).length + d1.length) * 40 ≤ 140737488355328 then ((Gw.f K h1).bind fun t38 => (Ed (Mc.f g1 i1) (fun t45 t46 => (some (n1, m1, t38, (([] : List Al) ++ d1), e1, t45, t46, f1, k1, (([] : List Ci) ++ b1), (([] : List Int) ++ c1), (([] : List Int) ++ a1)))))) else none) else none) else none) else none
abbrev Dw.post (w0 : World) (L : List Cu) (r1 : ByteArray) (r2 : Int) (r3 : List (List Bt)) (r4 : List Al) (r5 r6 : Int) (r7 : List Int) (r8 r9 : Int) (r10 : List Ci) (r11 r12 : List Int) (en : Ending) (w : World) : Prop := ∃ (A_r0 : Option Addr) (c_r1 : Nat) (y_r2 : Nat → (Ty.slice 157 Bc).Lay) (A_r3 : Option Addr) (c_r4 : Nat) (A_r5 : Option Addr) (c_r6 : Nat) (A_r7 : Option Addr) (c_r8 : Nat) (A_r9 : Option Addr) (c_r10 : Nat) (A_r11 : Option Addr) (c_r12 : Nat), en = .returned (.agg [.string r1, .int .i64 r2, .slice A_r0 r3.length c_r1, .slice A_r3 r4.length c_r4, .int .i64 r5, .int .i64 r6, .slice A_r5 r7.length c_r6, .int .i64 r8, .int .i64 r9, .slice A_r7 r10.length c_r8, .slice A_r9 r11.length c_r10, .slice A_r11 r12.length c_r12].toArray) ∧ St w0 w (Own (Ty.slice 157 Bc) 150 A_r0 c_r1 y_r2 r3 :: Own Bb 152 A_r3 c_r4 (fun _ => ()) r4 :: Own (Bq .i64) 2 A_r5 c_r6 (fun _ => ()) r7 :: Own Cq 140 A_r7 c_r8 (fun _ => ()) r10 :: Own (Bq .i64) 2 A_r9 c_r10 (fun _ => ()) r11 :: Own (Bq .i64) 2 A_r11 c_r12 (fun _ => ()) r12 :: L)
def Gc.l1 (K : Nat) : Nat → (List Am) → (List Am) → Int → Option (List Am)
  | 0, _, _, _ => none
  | k + 1, list, b1, a1 => if a1 < (list.length : Int) then (if 0 ≤ a1 ∧ a1 < (list.length : Int) then (bnd (list.getD a1.toNat Br) (fun e88 => Hf (Dw.f K e88.Name e88.Kind e88.Ad e88.Ae e88.Aj e88.Ao e88.Av e88.Ak e88.Ah e88.Af e88.Ai e88.Ag) (fun t90 t91 t92 t93 t94 t95 t96 t97 t98 t99 t100 t101 => (if (b1.length + 1) * 200 ≤ 140737488355328 then (Gc.l1 K k list (b1 ++ [(⟨t90, t91, t92, t93, t94, t95, t96, t97, t98, t99, t100, t101⟩ : Am)]) (w64 (a1 + 1))) else none)))) else none) else (some b1)
def Gc.f (K : Nat) (list : List Am) : Option (List Am) := Gc.l1 K K list ([] : List Am) 0
abbrev Gc.post (w0 : World) (L : List Cu) (r1 : List Am) (en : Ending) (w : World) : Prop := ∃ (A_r0 : Option Addr) (c_r1 : Nat) (y_r2 : Nat → Aa.Lay), en = .returned (.slice A_r0 r1.length c_r1) ∧ St w0 w (Own Aa 64 A_r0 c_r1 y_r2 r1 :: L)
def D6.l1 (K : Nat) : Nat → (List (List Am)) → (List (List Am)) → Int → Option (List (List Am))
  | 0, _, _, _ => none
  | k + 1, list, b1, a1 => if a1 < (list.length : Int) then (if 0 ≤ a1 ∧ a1 < (list.length : Int) then ((Gc.f K (list.getD a1.toNat [])).bind fun t42 => (if (b1.length + 1) * 24 ≤ 140737488355328 then (D6.l1 K k list (b1 ++ [t42]) (w64 (a1 + 1))) else none)) else none) else (some b1)
def D6.f (K : Nat) (list : List (List Am)) : Option (List (List Am)) := D6.l1 K K list ([] : List (List Am)) 0
abbrev D6.post (w0 : World) (L : List Cu) (r1 : List (List Am)) (en : Ending) (w : World) : Prop := ∃ (A_r0 : Option Addr) (c_r1 : Nat) (y_r2 : Nat → (Ty.slice 64 Aa).Lay), en = .returned (.slice A_r0 r1.length c_r1) ∧ St w0 w (Own (Ty.slice 64 Aa) 27 A_r0 c_r1 y_r2 r1 :: L)
def Kt.f (K : Nat) (stack : List (List Am)) (list : List Am) : Option (List (List Am)) := (D6.f K stack).bind fun t1 => ((Gc.f K list).bind fun t8 => (if (t1.length + 1) * 24 ≤ 140737488355328 then (if 6 < ((t1 ++ [t8]).length : Int) then (if 0 ≤ (1 : Int) ∧ (1 : Int) ≤ ((t1 ++ [t8]).length : Int) then (some (((t1 ++ [t8]).take ((t1 ++ [t8]).length)).drop 1)) else none) else (some (t1 ++ [t8]))) else none))
abbrev Kt.post (w0 : World) (L : List Cu) (r1 : List (List Am)) (en : Ending) (w : World) : Prop := ∃ (A_r0 : Option Addr) (c_r1 : Nat) (y_r2 : Nat → (Ty.slice 64 Aa).Lay), en = .returned (.slice A_r0 r1.length c_r1) ∧ St w0 w (Own (Ty.slice 64 Aa) 27 A_r0 c_r1 y_r2 r1 :: L)
mutual
def Be.j1 (K : Nat) : Nat → (List Am) → (List (List Am)) → ByteArray → Int → (List (List Bt)) → (List Al) → Int → Int → (List Int) → Int → Int → (List Ci) → (List Int) → (List Int) → Bool → Option ((List Am) × (List (List Am)) × (List (List Am)) × Int)
  | 0, _, _, _, _, _, _, _, _, _, _, _, _, _, _, _ => none
  | k + 1, a1, g1, p1, b1, h1, n1, d1, f1, i1, e1, o1, k1, m1, c1, x36 => if x36 = true then (some (([] : List Am), ([] : List (List Am)), ([] : List (List Am)), 3)) else (Be.l2 K k a1 g1 p1 b1 h1 n1 d1 f1 i1 e1 o1 k1 m1 c1 ([] : List Am) false 0)
def Be.l2 (K : Nat) : Nat → (List Am) → (List (List Am)) → ByteArray → Int → (List (List Bt)) → (List Al) → Int → Int → (List Int) → Int → Int → (List Ci) → (List Int) → (List Int) → (List Am) → Bool → Int → Option ((List Am) × (List (List Am)) × (List (List Am)) × Int)
  | 0, _, _, _, _, _, _, _, _, _, _, _, _, _, _, _, _, _ => none
  | k + 1, a1, d1, f1, g1, n1, r1, i1, m1, o1, k1, s1, p1, q1, h1, c1, e1, b1 => if b1 < (a1.length : Int) then (if e1 = true then (Be.j7 K k a1 d1 f1 g1 n1 r1 i1 m1 o1 k1 s1 p1 q1 h1 c1 e1 b1 false) else (if 0 ≤ b1 ∧ b1 < (a1.length : Int) then (bnd (a1.getD b1.toNat Br) (fun e552 => Be.j7 K k a1 d1 f1 g1 n1 r1 i1 m1 o1 k1 s1 p1 q1 h1 c1 e1 b1 (!(slt e552.Name f1)))) else none)) else (if e1 = true then (Be.j9 K k a1 d1 c1) else (Hf (Dw.f K f1 g1 n1 r1 i1 m1 o1 k1 s1 p1 q1 h1) (fun t603 t604 t605 t606 t607 t608 t609 t610 t611 t612 t613 t614 => (if (c1.length + 1) * 200 ≤ 140737488355328 then (Be.j9 K k a1 d1 (c1 ++ [(⟨t603, t604, t605, t606, t607, t608, t609, t610, t611, t612, t613, t614⟩ : Am)])) else none))))
def Be.j7 (K : Nat) : Nat → (List Am) → (List (List Am)) → ByteArray → Int → (List (List Bt)) → (List Al) → Int → Int → (List Int) → Int → Int → (List Ci) → (List Int) → (List Int) → (List Am) → Bool → Int → Bool → Option ((List Am) × (List (List Am)) × (List (List Am)) × Int)
  | 0, _, _, _, _, _, _, _, _, _, _, _, _, _, _, _, _, _, _ => none
  | k + 1, p1, r1, o1, a1, f1, m1, c1, e1, g1, d1, n1, h1, i1, b1, k1, s1, q1, x433 => if x433 = true then (Hf (Dw.f K o1 a1 f1 m1 c1 e1 g1 d1 n1 h1 i1 b1) (fun t515 t516 t517 t518 t519 t520 t521 t522 t523 t524 t525 t526 => (if (k1.length + 1) * 200 ≤ 140737488355328 then (Be.j8 K k p1 r1 o1 a1 f1 m1 c1 e1 g1 d1 n1 h1 i1 b1 q1 (k1 ++ [(⟨t515, t516, t517, t518, t519, t520, t521, t522, t523, t524, t525, t526⟩ : Am)]) true) else none))) else (Be.j8 K k p1 r1 o1 a1 f1 m1 c1 e1 g1 d1 n1 h1 i1 b1 q1 k1 s1)
def Be.j8 (K : Nat) : Nat → (List Am) → (List (List Am)) → ByteArray → Int → (List (List Bt)) → (List Al) → Int → Int → (List Int) → Int → Int → (List Ci) → (List Int) → (List Int) → Int → (List Am) → Bool → Option ((List Am) × (List (List Am)) × (List (List Am)) × Int)
  | 0, _, _, _, _, _, _, _, _, _, _, _, _, _, _, _, _, _ => none
  | k + 1, b1, k1, d1, e1, m1, r1, g1, i1, n1, h1, s1, o1, p1, f1, a1, c1, q1 => if 0 ≤ a1 ∧ a1 < (b1.length : Int) then (bnd (b1.getD a1.toNat Br) (fun e476 => if (seq e476.Name d1) = true then (Be.l2 K k b1 k1 d1 e1 m1 r1 g1 i1 n1 h1 s1 o1 p1 f1 c1 q1 (w64 (a1 + 1))) else (Hf (Dw.f K e476.Name e476.Kind e476.Ad e476.Ae e476.Aj e476.Ao e476.Av e476.Ak e476.Ah e476.Af e476.Ai e476.Ag) (fun t479 t480 t481 t482 t483 t484 t485 t486 t487 t488 t489 t490 => (if (c1.length + 1) * 200 ≤ 140737488355328 then (Be.l2 K k b1 k1 d1 e1 m1 r1 g1 i1 n1 h1 s1 o1 p1 f1 (c1 ++ [(⟨t479, t480, t481, t482, t483, t484, t485, t486, t487, t488, t489, t490⟩ : Am)]) q1 (w64 (a1 + 1))) else none))))) else none
def Be.j9 (K : Nat) : Nat → (List Am) → (List (List Am)) → (List Am) → Option ((List Am) × (List (List Am)) × (List (List Am)) × Int)
  | 0, _, _, _ => none
  | k + 1, a1, b1, c1 => (Kt.f K b1 a1).bind fun t594 => (some (c1, t594, ([] : List (List Am)), 0))
end
def Be.f (K : Nat) (a1 : List Am) (h1 : List (List Am)) (q1 : List (List Am)) (b1 : ByteArray) (c1 : Int) (i1 : List (List Bt)) (o1 : List Al) (e1 : Int) (g1 : Int) (k1 : List Int) (f1 : Int) (p1 : Int) (m1 : List Ci) (n1 : List Int) (d1 : List Int) : Option ((List Am) × (List (List Am)) × (List (List Am)) × Int) := (Il.f K a1 h1 q1).bind fun t16 => (if t16 = true then ((Cr.f K b1 c1 i1 o1 e1 g1 k1 f1 p1 m1 n1 d1).bind fun t21 => (if t21 = true then ((Ew.f K a1 b1).bind fun t638 => (if t638 < 0 then (Be.j1 K K a1 h1 b1 c1 i1 o1 e1 g1 k1 f1 p1 m1 n1 d1 (decide ((a1.length : Int) = 10))) else (Be.j1 K K a1 h1 b1 c1 i1 o1 e1 g1 k1 f1 p1 m1 n1 d1 false))) else (some (([] : List Am), ([] : List (List Am)), ([] : List (List Am)), 1)))) else (some (([] : List Am), ([] : List (List Am)), ([] : List (List Am)), 1)))
abbrev Be.post (w0 : World) (L : List Cu) (r1 : List Am) (r2 : List (List Am)) (r3 : List (List Am)) (r4 : Int) (en : Ending) (w : World) : Prop := ∃ (A_r0 : Option Addr) (c_r1 : Nat) (y_r2 : Nat → Aa.Lay) (A_r3 : Option Addr) (c_r4 : Nat) (y_r5 : Nat → (Ty.slice 64 Aa).Lay) (A_r6 : Option Addr) (c_r7 : Nat) (y_r8 : Nat → (Ty.slice 64 Aa).Lay), en = .returned (.tuple #[.agg [.slice A_r0 r1.length c_r1, .slice A_r3 r2.length c_r4, .slice A_r6 r3.length c_r7].toArray, .int .i64 r4]) ∧ St w0 w (Own Aa 64 A_r0 c_r1 y_r2 r1 :: Own (Ty.slice 64 Aa) 27 A_r3 c_r4 y_r5 r2 :: Own (Ty.slice 64 Aa) 27 A_r6 c_r7 y_r8 r3 :: L)
def Ff.f (a_ : ByteArray) (b_ : ByteArray) : Option (Int) := some (Qp a_ b_)
abbrev Ff.post := Ht
def strings_Compare.f (a_ : ByteArray) (b_ : ByteArray) : Option (Int) := (Ff.f a_ b_).bind fun t1 => (some t1)
abbrev strings_Compare.post := Ht
def Im.f (a1 : ByteArray) (n1 : Int) (f1 : List (List Bt)) (k1 : List Al) (c1 : Int) (e1 : Int) (g1 : List Int) (d1 : Int) (m1 : Int) (h1 : List Ci) (i1 : List Int) (b1 : List Int) (name : ByteArray) : Option (Int) := (strings_Compare.f a1 name).bind fun t3 => (some t3)
abbrev Im.post := Ht
def Ap.l1 (K : Nat) : Nat → (List Am) → ByteArray → Int → Int → Option (Int × Bool)
  | 0, _, _, _, _ => none
  | k + 1, x, target, a1, b1 => if a1 < b1 then (if 0 ≤ w64 ((IntKind.wrap .u64 (w64 (a1 + b1))) / 2 ^ 1) ∧ w64 ((IntKind.wrap .u64 (w64 (a1 + b1))) / 2 ^ 1) < (x.length : Int) then (bnd (x.getD ((w64 ((IntKind.wrap .u64 (w64 (a1 + b1))) / 2 ^ 1)).toNat) Br) (fun e31 => (Im.f e31.Name e31.Kind e31.Ad e31.Ae e31.Aj e31.Ao e31.Av e31.Ak e31.Ah e31.Af e31.Ai e31.Ag target).bind fun t33 => (if t33 < 0 then (Ap.l1 K k x target (w64 ((w64 ((IntKind.wrap .u64 (w64 (a1 + b1))) / 2 ^ 1)) + 1)) b1) else (Ap.l1 K k x target a1 (w64 ((IntKind.wrap .u64 (w64 (a1 + b1))) / 2 ^ 1)))))) else none) else (if a1 < (x.length : Int) then (if 0 ≤ a1 ∧ a1 < (x.length : Int) then (bnd (x.getD a1.toNat Br) (fun e40 => (Im.f e40.Name e40.Kind e40.Ad e40.Ae e40.Aj e40.Ao e40.Av e40.Ak e40.Ah e40.Af e40.Ai e40.Ag target).bind fun t42 => (some (a1, decide (t42 = 0))))) else none) else (some (a1, false)))
def Ap.f (K : Nat) (x : List Am) (target : ByteArray) : Option (Int × Bool) := Ap.l1 K K x target 0 (x.length : Int)
abbrev Ap.post (w0 : World) (L : List Cu) (r1 : Int) (r2 : Bool) (en : Ending) (w : World) : Prop := en = .returned (.tuple #[.int .i64 r1, .bool r2]) ∧ St w0 w (L)
def Li.f (K : Nat) (items : List Am) (name : ByteArray) : Option (Int × Bool) := Ed (Ap.f K items name) (fun t1 t2 => (some (t1, t2)))
abbrev Li.post (w0 : World) (L : List Cu) (r1 : Int) (r2 : Bool) (en : Ending) (w : World) : Prop := en = .returned (.tuple #[.int .i64 r1, .bool r2]) ∧ St w0 w (L)
def Gi.f (c : Int) : Option (Bool) := if c < 97 then (some true) else (some (decide (122 < c)))
abbrev Gi.post := F4
def Cb.l1 (K : Nat) : Nat → ByteArray → Bool → Ix → Option (Int)
  | 0, _, _, _ => none
  | k + 1, s, truth, at12 => if at12 < s.size then ((Gi.f ((Utf8.decode s at12).1 : Int)).bind fun t25 => (if (t25 == truth) = true then (some (at12 : Int)) else (Cb.l1 K k s truth (at12 + (Utf8.decode s at12).2)))) else (some (-1))
def Cb.f (K : Nat) (s : ByteArray) (truth : Bool) : Option (Int) := Cb.l1 K K s truth 0
abbrev Cb.post := Ht
def D5.f (K : Nat) (s : ByteArray) : Option (Int) := (Cb.f K s true).bind fun t1 => (some t1)
abbrev D5.post := Ht
def Dj.f (K : Nat) (s : ByteArray) : Option (Bool) := (D5.f K s).bind fun t1 => (some (decide (0 ≤ t1)))
abbrev Dj.post := F4
def Io.f (K : Nat) (s : ByteArray) : Option (Bool) := if 1 ≤ (s.size : Int) then (if (s.size : Int) ≤ 8 then ((Dj.f K s).bind fun t3 => (some (!t3))) else (some false)) else (some false)
abbrev Io.post := F4
def Ct.f (x : Int) (low : Int) (high : Int) : Option (Bool) := if low ≤ x then (some (decide (x ≤ high))) else (some false)
abbrev Ct.post := F4
def Le.f (n1 : ByteArray) (m1 : Int) (e1 : List (List Bt)) (i1 : List Al) (b1 : Int) (d1 : Int) (f1 : List Int) (c1 : Int) (k1 : Int) (g1 : List Ci) (h1 : List Int) (a1 : List Int) : Option (Bool × Bool × Bool × Bool) := some (decide (0 < (e1.length : Int)), ((decide (0 < (i1.length : Int))) || (!(decide (b1 = 0)))), ((!(decide (d1 = 0))) || (decide (0 < (f1.length : Int)))), (((((!(decide (c1 = 0))) || (!(decide (k1 = 0)))) || (decide (0 < (g1.length : Int)))) || (decide (0 < (h1.length : Int)))) || (decide (0 < (a1.length : Int)))))
abbrev Le.post (w0 : World) (L : List Cu) (r1 r2 : Bool) (r3 r4 : Bool) (en : Ending) (w : World) : Prop := en = .returned (.agg [.bool r1, .bool r2, .bool r3, .bool r4].toArray) ∧ St w0 w (L)
def Fp.f (faces : List Bt) : Option (Bool) := some (!(decide ((faces.length : Int) = 4)))
abbrev Fp.post := F4
def Aw.l1 (K : Nat) : Nat → (List (List Bt)) → Int → Option (Int)
  | 0, _, _ => none
  | k + 1, s, x8 => if x8 < (s.length : Int) then (if 0 ≤ x8 ∧ x8 < (s.length : Int) then ((Fp.f (s.getD x8.toNat [])).bind fun t18 => (if t18 = true then (some x8) else (Aw.l1 K k s (w64 (x8 + 1))))) else none) else (some (-1))
def Aw.f (K : Nat) (s : List (List Bt)) : Option (Int) := Aw.l1 K K s 0
abbrev Aw.post := Ht
def Cf.f (K : Nat) (s : List (List Bt)) : Option (Bool) := (Aw.f K s).bind fun t1 => (some (decide (0 ≤ t1)))
abbrev Cf.post := F4
def F5.f (list : List (List Bt)) : Option (Int) := some (list.length : Int)
abbrev F5.post := Ht
def Ei.f (list : List (List Bt)) (i : Int) : Option (Bool) := (F5.f list).bind fun t1 => ((Ct.f i 0 (w64 (t1 - 1))).bind fun t5 => (some t5))
abbrev Ei.post := F4
def I4.f (p : Int) : Option (Bool) := (Ct.f p 0 23).bind fun t1 => (some t1)
abbrev I4.post := F4
def Df.f (s : List Int) (i : Int) (j_ : Int) : Option (List Int) := if 0 ≤ i ∧ i ≤ j_ then (if j_ ≤ (s.length : Int) then (if i = j_ then (some s) else (if 0 ≤ i ∧ i ≤ (s.length : Int) then (if 0 ≤ j_ ∧ j_ ≤ (s.length : Int) then (if i.toNat ≤ j_.toNat then (if 0 ≤ ((((over s i.toNat (s.drop j_.toNat)).take (i.toNat + (s.length - j_.toNat))).drop 0).length : Int) ∧ ((((over s i.toNat (s.drop j_.toNat)).take (i.toNat + (s.length - j_.toNat))).drop 0).length : Int) ≤ (s.length : Int) then (if 0 ≤ (s.length : Int) ∧ (s.length : Int) ≤ ((over s i.toNat (s.drop j_.toNat)).length : Int) then (if (i.toNat + (s.length - j_.toNat)) ≤ (over (over s i.toNat (s.drop j_.toNat)) (((((over s i.toNat (s.drop j_.toNat)).take (i.toNat + (s.length - j_.toNat))).drop 0).length : Int).toNat) (List.replicate (((over s i.toNat (s.drop j_.toNat)).take ((s.length : Int).toNat)).drop (((((over s i.toNat (s.drop j_.toNat)).take (i.toNat + (s.length - j_.toNat))).drop 0).length : Int).toNat)).length 0)).length then (some (((over (over s i.toNat (s.drop j_.toNat)) (((((over s i.toNat (s.drop j_.toNat)).take (i.toNat + (s.length - j_.toNat))).drop 0).length : Int).toNat) (List.replicate (((over s i.toNat (s.drop j_.toNat)).take ((s.length : Int).toNat)).drop (((((over s i.toNat (s.drop j_.toNat)).take (i.toNat + (s.length - j_.toNat))).drop 0).length : Int).toNat)).length 0)).take (i.toNat + (s.length - j_.toNat))).drop 0)) else none) else none) else none) else none) else none) else none)) else none) else none
abbrev Df.post (w0 : World) (L : List Cu) (r1 : List Int) (en : Ending) (w : World) : Prop := ∃ (A_r0 : Option Addr) (c_r1 : Nat), en = .returned (.slice A_r0 r1.length c_r1) ∧ St w0 w (Own (Bq .i64) 2 A_r0 c_r1 (fun _ => ()) r1 :: L)
def Iw.l1 (K : Nat) : Nat → Int → Int → (List Int) → Int → Int → Int → Int → Option (Int × Int × Int × Int)
  | 0, _, _, _, _, _, _, _ => none
  | k + 1, a1, c1, b1, x24, e1, f1, d1 => if x24 < 4 then (if 0 ≤ x24 ∧ x24 < (([6, 2, 1, 1] : List Int).length : Int) then (if ([6, 2, 1, 1] : List Int).getD x24.toNat 0 = 0 then none else (if 0 ≤ w64 (a1.tdiv (([6, 2, 1, 1] : List Int).getD x24.toNat 0)) ∧ w64 (a1.tdiv (([6, 2, 1, 1] : List Int).getD x24.toNat 0)) < (b1.length : Int) then (if x24 = 0 then ((Df.f b1 (w64 (a1.tdiv (([6, 2, 1, 1] : List Int).getD x24.toNat 0))) (w64 ((w64 (a1.tdiv (([6, 2, 1, 1] : List Int).getD x24.toNat 0))) + 1))).bind fun t108 => (Iw.l1 K k (a1.tmod (([6, 2, 1, 1] : List Int).getD x24.toNat 0)) (b1.getD ((w64 (a1.tdiv (([6, 2, 1, 1] : List Int).getD x24.toNat 0))).toNat) 0) t108 (w64 (x24 + 1)) e1 f1 d1)) else (if x24 = 1 then ((Df.f b1 (w64 (a1.tdiv (([6, 2, 1, 1] : List Int).getD x24.toNat 0))) (w64 ((w64 (a1.tdiv (([6, 2, 1, 1] : List Int).getD x24.toNat 0))) + 1))).bind fun t116 => (Iw.l1 K k (a1.tmod (([6, 2, 1, 1] : List Int).getD x24.toNat 0)) c1 t116 (w64 (x24 + 1)) (b1.getD ((w64 (a1.tdiv (([6, 2, 1, 1] : List Int).getD x24.toNat 0))).toNat) 0) f1 d1)) else (if x24 = 2 then ((Df.f b1 (w64 (a1.tdiv (([6, 2, 1, 1] : List Int).getD x24.toNat 0))) (w64 ((w64 (a1.tdiv (([6, 2, 1, 1] : List Int).getD x24.toNat 0))) + 1))).bind fun t124 => (Iw.l1 K k (a1.tmod (([6, 2, 1, 1] : List Int).getD x24.toNat 0)) c1 t124 (w64 (x24 + 1)) e1 (b1.getD ((w64 (a1.tdiv (([6, 2, 1, 1] : List Int).getD x24.toNat 0))).toNat) 0) d1)) else (if x24 = 3 then ((Df.f b1 (w64 (a1.tdiv (([6, 2, 1, 1] : List Int).getD x24.toNat 0))) (w64 ((w64 (a1.tdiv (([6, 2, 1, 1] : List Int).getD x24.toNat 0))) + 1))).bind fun t132 => (Iw.l1 K k (a1.tmod (([6, 2, 1, 1] : List Int).getD x24.toNat 0)) c1 t132 (w64 (x24 + 1)) e1 f1 (b1.getD ((w64 (a1.tdiv (([6, 2, 1, 1] : List Int).getD x24.toNat 0))).toNat) 0))) else (none))))) else none)) else none) else (some (c1, e1, f1, d1))
def Iw.f (K : Nat) (p : Int) : Option (Int × Int × Int × Int) := Iw.l1 K K p 0 ([0, 1, 2, 3] : List Int) 0 0 0 0
abbrev Iw.post (w0 : World) (L : List Cu) (r1 r2 : Int) (r3 r4 : Int) (en : Ending) (w : World) : Prop := en = .returned (.agg [.int .i64 r1, .int .i64 r2, .int .i64 r3, .int .i64 r4].toArray) ∧ St w0 w (L)
def Hy.f (K : Nat) (b1 : Int) (a1 : Int) (face : Int) : Option (Int) := M9 (Iw.f K a1) (fun t3 t4 t5 t6 => (if 0 ≤ face ∧ face < 4 then (some (([t3, t4, t5, t6] : List Int).getD face.toNat 0)) else none))
abbrev Hy.post := Ht
mutual
def Fa.l1 (K : Nat) : Nat → Int → Int → Int → Int → Int → Int → Option (Int)
  | 0, _, _, _, _, _, _ => none
  | k + 1, d1, e1, a1, c1, b1, x19 => if x19 < 4 then (if 0 ≤ x19 ∧ x19 < (([6, 2, 1, 1] : List Int).length : Int) then (if 0 ≤ x19 ∧ x19 < 4 then (if 0 ≤ x19 ∧ x19 ≤ 4 then (Fa.l4 K k d1 e1 a1 c1 b1 x19 (([d1, e1, a1, c1] : List Int).getD x19.toNat 0) 0) else none) else none) else none) else (some b1)
def Fa.l4 (K : Nat) : Nat → Int → Int → Int → Int → Int → Int → Int → Int → Option (Int)
  | 0, _, _, _, _, _, _, _, _ => none
  | k + 1, c1, d1, a1, b1, e1, x19, f1, x43 => if x43 < ((([c1, d1, a1, b1] : List Int).take x19.toNat).length : Int) then (if 0 ≤ x43 ∧ x43 < ((([c1, d1, a1, b1] : List Int).take x19.toNat).length : Int) then (if (([c1, d1, a1, b1] : List Int).take x19.toNat).getD x43.toNat 0 < ([c1, d1, a1, b1] : List Int).getD x19.toNat 0 then (Fa.l4 K k c1 d1 a1 b1 e1 x19 (w64 (f1 - 1)) (w64 (x43 + 1))) else (Fa.l4 K k c1 d1 a1 b1 e1 x19 f1 (w64 (x43 + 1)))) else none) else (Fa.l1 K k c1 d1 a1 b1 (w64 (e1 + (w64 (f1 * (([6, 2, 1, 1] : List Int).getD x19.toNat 0))))) (w64 (x19 + 1)))
end
def Fa.f (K : Nat) (b1 : Int) (c1 : Int) (a1 : Int) (d1 : Int) : Option (Int) := Fa.l1 K K b1 c1 a1 d1 0 0
abbrev Fa.post := Ht
def Gx.l1 (K : Nat) : Nat → Int → Int → Int → Int → Int → Int → Int → Int → Int → Option (Int)
  | 0, _, _, _, _, _, _, _, _, _ => none
  | k + 1, t3, t4, t5, t6, x18, c1, b1, a1, d1 => if x18 < 4 then (if 0 ≤ x18 ∧ x18 < 4 then (if ([t3, t4, t5, t6] : List Int).getD x18.toNat 0 = 0 then (Gx.l1 K k t3 t4 t5 t6 (w64 (x18 + 1)) x18 b1 a1 d1) else (if ([t3, t4, t5, t6] : List Int).getD x18.toNat 0 = 1 then (Gx.l1 K k t3 t4 t5 t6 (w64 (x18 + 1)) c1 x18 a1 d1) else (if ([t3, t4, t5, t6] : List Int).getD x18.toNat 0 = 2 then (Gx.l1 K k t3 t4 t5 t6 (w64 (x18 + 1)) c1 b1 x18 d1) else (if ([t3, t4, t5, t6] : List Int).getD x18.toNat 0 = 3 then (Gx.l1 K k t3 t4 t5 t6 (w64 (x18 + 1)) c1 b1 a1 x18) else (none))))) else none) else ((Fa.f K c1 b1 a1 d1).bind fun t61 => (some t61))
def Gx.f (K : Nat) (p : Int) : Option (Int) := M9 (Iw.f K p) (fun t3 t4 t5 t6 => (Gx.l1 K K t3 t4 t5 t6 0 0 0 0 0))
abbrev Gx.post := Ht
def Gn.f (K : Nat) (b1 : Int) (a1 : Int) (tet : Int) : Option (Int × Int) := (Gx.f K a1).bind fun t5 => (some (tet, t5))
abbrev Gn.post (w0 : World) (L : List Cu) (r1 r2 : Int) (en : Ending) (w : World) : Prop := en = .returned (.agg [.int .i64 r1, .int .i64 r2].toArray) ∧ St w0 w (L)
def Dv.f (K : Nat) (a1 : List (List Bt)) (tet : Int) (f : Int) : Option (Bool) := if 0 ≤ tet ∧ tet < (a1.length : Int) then (if 0 ≤ f ∧ f < ((a1.getD tet.toNat []).length : Int) then (bnd ((a1.getD tet.toNat []).getD f.toNat Ko) (fun e5 => if e5.Tet = (-1) then (some (decide (e5.Perm = 0))) else ((Ei.f a1 e5.Tet).bind fun t20 => (if t20 = true then ((I4.f e5.Perm).bind fun t25 => (if t25 = true then ((Hy.f K e5.Tet e5.Perm f).bind fun t30 => (if 0 ≤ e5.Tet ∧ e5.Tet < (a1.length : Int) then (if 0 ≤ t30 ∧ t30 < ((a1.getD e5.Tet.toNat []).length : Int) then (bnd ((a1.getD e5.Tet.toNat []).getD t30.toNat Ko) (fun e36 => Ed (Gn.f K e5.Tet e5.Perm tet) (fun t38 t39 => (if (e36.Tet, e36.Perm) = (t38, t39) then (if e5.Tet = tet then (some (!(decide (t30 = f)))) else (some true)) else (some false))))) else none) else none)) else (some false))) else (some false))))) else none) else none
abbrev Dv.post := F4
mutual
def Bp.l1 (K : Nat) : Nat → (List (List Bt)) → Int → Int → Option (Bool)
  | 0, _, _, _ => none
  | k + 1, a1, t14, x37 => if x37 < t14 then (Bp.l4 K k a1 t14 x37 0) else (some true)
def Bp.l4 (K : Nat) : Nat → (List (List Bt)) → Int → Int → Int → Option (Bool)
  | 0, _, _, _, _ => none
  | k + 1, a1, t14, x37, x63 => if x63 < 4 then ((Dv.f K a1 x37 x63).bind fun t71 => (if t71 = true then (Bp.l4 K k a1 t14 x37 (w64 (x63 + 1))) else (some false))) else (Bp.l1 K k a1 t14 (w64 (x37 + 1)))
end
def Bp.f (K : Nat) (a1 : List (List Bt)) : Option (Bool) := if 8 < (a1.length : Int) then (some false) else ((Cf.f K a1).bind fun t9 => (if t9 = true then (some false) else ((F5.f a1).bind fun t14 => (Bp.l1 K K a1 t14 0))))
abbrev Bp.post := F4
def Em.f (list : List Al) : Option (Int) := some (list.length : Int)
abbrev Em.post := Ht
def Fh.f (c_A : Int) (c_B : Int) (c_C : Int) (c_D : Int) (a1 : Int) : Option (Bool) := if a1 = 1 then (some false) else (some (!(decide (a1 = (-1)))))
abbrev Fh.post := F4
def Ba.l1 (K : Nat) : Nat → (List Al) → Int → Option (Int)
  | 0, _, _ => none
  | k + 1, s, x10 => if x10 < (s.length : Int) then (if 0 ≤ x10 ∧ x10 < (s.length : Int) then (bnd (s.getD x10.toNat Au) (fun e22 => (Fh.f e22.A e22.B e22.C e22.D e22.Sign).bind fun t24 => (if t24 = true then (some x10) else (Ba.l1 K k s (w64 (x10 + 1)))))) else none) else (some (-1))
def Ba.f (K : Nat) (s : List Al) : Option (Int) := Ba.l1 K K s 0
abbrev Ba.post := Ht
def Cg.f (K : Nat) (s : List Al) : Option (Bool) := (Ba.f K s).bind fun t1 => (some (decide (0 ≤ t1)))
abbrev Cg.post := F4
def Kl.f (x : Int) (y : Int) : Option (Int × Int) := some (IntKind.wrap .u64 ((IntKind.wrap .u64 ((IntKind.wrap .u64 ((x / 2 ^ 32) * (y / 2 ^ 32))) + ((IntKind.wrap .u64 ((IntKind.wrap .u64 ((x / 2 ^ 32) * (Go.bits .and .u64 y 4294967295))) + ((IntKind.wrap .u64 ((Go.bits .and .u64 x 4294967295) * (Go.bits .and .u64 y 4294967295))) / 2 ^ 32))) / 2 ^ 32))) + ((IntKind.wrap .u64 ((Go.bits .and .u64 (IntKind.wrap .u64 ((IntKind.wrap .u64 ((x / 2 ^ 32) * (Go.bits .and .u64 y 4294967295))) + ((IntKind.wrap .u64 ((Go.bits .and .u64 x 4294967295) * (Go.bits .and .u64 y 4294967295))) / 2 ^ 32))) 4294967295) + (IntKind.wrap .u64 ((Go.bits .and .u64 x 4294967295) * (y / 2 ^ 32))))) / 2 ^ 32)), IntKind.wrap .u64 (x * y))
abbrev Kl.post (w0 : World) (L : List Cu) (r1 r2 : Int) (en : Ending) (w : World) : Prop := en = .returned (.tuple #[.int .u64 r1, .int .u64 r2]) ∧ St w0 w (L)
def J4.f (x : Int) (y : Int) : Option (Int × Int) := Ed (Kl.f x y) (fun t1 t2 => (some (t1, t2)))
abbrev J4.post (w0 : World) (L : List Cu) (r1 r2 : Int) (en : Ending) (w : World) : Prop := en = .returned (.tuple #[.int .u64 r1, .int .u64 r2]) ∧ St w0 w (L)
mutual
def Bd.j2 (K : Nat) : Nat → (List Fv) → Int → Bool → Option (List Fv)
  | 0, _, _, _ => none
  | k + 1, x, t4, x10 => if x10 = true then (none) else (if 0 ≤ w64 (t4) then (if (w64 (t4)).toNat * 16 ≤ 281474976710656 then (Bd.l4 K k (over (List.replicate (w64 (t4)).toNat Jf) 0 (x.take ((List.replicate (w64 (t4)).toNat Jf).length))) (((x).take ((List.replicate (w64 (t4)).toNat Jf).length)).length : Int)) else none) else none)
def Bd.l4 (K : Nat) : Nat → (List Fv) → Int → Option (List Fv)
  | 0, _, _ => none
  | k + 1, a1, b1 => if b1 < (a1.length : Int) then (if 0 ≤ b1 ∧ b1 ≤ (a1.length : Int) then (Bd.l4 K k (over a1 b1.toNat (((a1.take b1.toNat).drop 0).take (((a1.take a1.length).drop b1.toNat).length))) (w64 (b1 + (((((a1.take b1.toNat).drop 0)).take (((a1.take a1.length).drop b1.toNat).length)).length : Int)))) else none) else (some a1)
end
def Bd.f (K : Nat) (x : List Fv) (count : Int) : Option (List Fv) := if count < 0 then (none) else (Ed (J4.f (IntKind.wrap .u64 ((x.length : Int))) (IntKind.wrap .u64 (count))) (fun t3 t4 => (if 0 < t3 then (Bd.j2 K K x t4 true) else (Bd.j2 K K x t4 (decide (9223372036854775807 < t4))))))
abbrev Bd.post (w0 : World) (L : List Cu) (r1 : List Fv) (en : Ending) (w : World) : Prop := ∃ (A_r0 : Option Addr) (c_r1 : Nat), en = .returned (.slice A_r0 r1.length c_r1) ∧ St w0 w (Own Gl 223 A_r0 c_r1 (fun _ => ()) r1 :: L)
def Gs.f (c_A : Int) (c_B : Int) (c_C : Int) (c_D : Int) (a1 : Int) : Option (Int × Int × Int × Int) := some (c_A, c_B, c_C, c_D)
abbrev Gs.post (w0 : World) (L : List Cu) (r1 r2 : Int) (r3 r4 : Int) (en : Ending) (w : World) : Prop := en = .returned (.agg [.int .i64 r1, .int .i64 r2, .int .i64 r3, .int .i64 r4].toArray) ∧ St w0 w (L)
def Fu.f (c_A : Int) (c_B : Int) (c_C : Int) (c_D : Int) (a1 : Int) (p : Int) : Option (Bool) := if p = 0 then (some true) else (some (decide (p = w64 (2 + a1))))
abbrev Fu.post := F4
def Ih.f (list : List Fv) : Option (Int) := some (list.length : Int)
abbrev Ih.post := Ht
def Du.f (list : List Fv) (i : Int) : Option (Bool) := (Ih.f list).bind fun t1 => ((Ct.f i 0 (w64 (t1 - 1))).bind fun t5 => (some t5))
abbrev Du.post := F4
mutual
def Bg.l1 (K : Nat) : Nat → (List Al) → (List Fv) → (List Fv) → Int → Option ((List Fv) × (List Fv) × Bool)
  | 0, _, _, _, _ => none
  | k + 1, a1, c1, b1, x195 => if x195 < (a1.length : Int) then (if 0 ≤ x195 ∧ x195 < (a1.length : Int) then (bnd (a1.getD x195.toNat Au) (fun e367 => M9 (Gs.f e367.A e367.B e367.C e367.D e367.Sign) (fun t372 t373 t374 t375 => (Bg.l10 K k a1 x195 e367 t372 t373 t374 t375 c1 b1 0)))) else none) else (some (c1, b1, true))
def Bg.l10 (K : Nat) : Nat → (List Al) → Int → Al → Int → Int → Int → Int → (List Fv) → (List Fv) → Int → Option ((List Fv) × (List Fv) × Bool)
  | 0, _, _, _, _, _, _, _, _, _, _ => none
  | k + 1, c1, x195, e367, t372, t373, t374, t375, b1, a1, x430 => if x430 < 4 then (if 0 ≤ x430 ∧ x430 < 4 then ((Fu.f e367.A e367.B e367.C e367.D e367.Sign x430).bind fun t484 => (if t484 = true then ((Du.f a1 (([t372, t373, t374, t375] : List Int).getD x430.toNat 0)).bind fun t501 => (if t501 = true then (if 0 ≤ ([t372, t373, t374, t375] : List Int).getD x430.toNat 0 ∧ ([t372, t373, t374, t375] : List Int).getD x430.toNat 0 < (a1.length : Int) then (bnd (a1.getD ((([t372, t373, t374, t375] : List Int).getD x430.toNat 0).toNat) Jf) (fun e507 => if 0 ≤ e507.crossing then (some (b1, a1, false)) else (Bg.l10 K k c1 x195 e367 t372 t373 t374 t375 b1 (a1.set ((([t372, t373, t374, t375] : List Int).getD x430.toNat 0).toNat) (⟨x195, x430⟩ : Fv)) (w64 (x430 + 1))))) else none) else (some (b1, a1, false)))) else ((Du.f b1 (([t372, t373, t374, t375] : List Int).getD x430.toNat 0)).bind fun t521 => (if t521 = true then (if 0 ≤ ([t372, t373, t374, t375] : List Int).getD x430.toNat 0 ∧ ([t372, t373, t374, t375] : List Int).getD x430.toNat 0 < (b1.length : Int) then (bnd (b1.getD ((([t372, t373, t374, t375] : List Int).getD x430.toNat 0).toNat) Jf) (fun e527 => if 0 ≤ e527.crossing then (some (b1, a1, false)) else (Bg.l10 K k c1 x195 e367 t372 t373 t374 t375 (b1.set ((([t372, t373, t374, t375] : List Int).getD x430.toNat 0).toNat) (⟨x195, x430⟩ : Fv)) a1 (w64 (x430 + 1))))) else none) else (some (b1, a1, false)))))) else none) else (Bg.l1 K k c1 b1 a1 (w64 (x195 + 1)))
end
def Bg.f (K : Nat) (a1 : List Al) (b1 : Int) : Option ((List Fv) × (List Fv) × Bool) := (Bd.f K ([(⟨(-1), 0⟩ : Fv)] : List Fv) (w64 (2 * (a1.length : Int)))).bind fun t7 => ((Bd.f K ([(⟨(-1), 0⟩ : Fv)] : List Fv) (w64 (2 * (a1.length : Int)))).bind fun t15 => (Bg.l1 K K a1 t7 t15 0))
abbrev Bg.post (w0 : World) (L : List Cu) (r1 r2 : List Fv) (r3 : Bool) (en : Ending) (w : World) : Prop := ∃ (A_r0 : Option Addr) (c_r1 : Nat) (A_r2 : Option Addr) (c_r3 : Nat), en = .returned (.tuple #[.agg [.slice A_r0 r1.length c_r1, .slice A_r2 r2.length c_r3].toArray, .bool r3]) ∧ St w0 w (Own Gl 223 A_r0 c_r1 (fun _ => ()) r1 :: Own Gl 223 A_r2 c_r3 (fun _ => ()) r2 :: L)
def Hr.f (c1 : List Al) (f1 : Int) (d1 : List Fv) (e1 : List Fv) (b1 : Int) (a1 : Int) : Option (Int × Int) := if 0 ≤ b1 ∧ b1 < (c1.length : Int) then (bnd (c1.getD b1.toNat Au) (fun e10 => M9 (Gs.f e10.A e10.B e10.C e10.D e10.Sign) (fun t15 t16 t17 t18 => (if 0 ≤ a1 ∧ a1 < 4 then ((Fu.f e10.A e10.B e10.C e10.D e10.Sign a1).bind fun t23 => (if t23 = true then (if 0 ≤ ([t15, t16, t17, t18] : List Int).getD a1.toNat 0 ∧ ([t15, t16, t17, t18] : List Int).getD a1.toNat 0 < (d1.length : Int) then (bnd (d1.getD ((([t15, t16, t17, t18] : List Int).getD a1.toNat 0).toNat) Jf) (fun e29 => some (e29.crossing, e29.position))) else none) else (if 0 ≤ ([t15, t16, t17, t18] : List Int).getD a1.toNat 0 ∧ ([t15, t16, t17, t18] : List Int).getD a1.toNat 0 < (e1.length : Int) then (bnd (e1.getD ((([t15, t16, t17, t18] : List Int).getD a1.toNat 0).toNat) Jf) (fun e33 => some (e33.crossing, e33.position))) else none))) else none)))) else none
abbrev Hr.post (w0 : World) (L : List Cu) (r1 r2 : Int) (en : Ending) (w : World) : Prop := en = .returned (.agg [.int .i64 r1, .int .i64 r2].toArray) ∧ St w0 w (L)
mutual
def Bz.l1 (K : Nat) : Nat → (List Al) → Int → (List Fv) → (List Fv) → (List (List Int)) → (List Bool) → Int → Option (List (List Int))
  | 0, _, _, _, _, _, _, _ => none
  | k + 1, a1, e1, c1, d1, b1, f1, x87 => if x87 < ((List.replicate (w64 (4 * (a1.length : Int))).toNat false).length : Int) then (Bz.l4 K k a1 e1 c1 d1 b1 x87 f1 ([] : List Int) x87) else (some b1)
def Bz.l4 (K : Nat) : Nat → (List Al) → Int → (List Fv) → (List Fv) → (List (List Int)) → Int → (List Bool) → (List Int) → Int → Option (List (List Int))
  | 0, _, _, _, _, _, _, _, _, _ => none
  | k + 1, c1, g1, d1, f1, h1, x87, b1, e1, a1 => if 0 ≤ a1 ∧ a1 < (b1.length : Int) then (if (b1.getD a1.toNat false) = true then (if 0 < (e1.length : Int) then (if (h1.length + 1) * 24 ≤ 140737488355328 then (Bz.l1 K k c1 g1 d1 f1 (h1 ++ [e1]) b1 (w64 (x87 + 1))) else none) else (Bz.l1 K k c1 g1 d1 f1 h1 b1 (w64 (x87 + 1)))) else (if (e1.length + 1) * 8 ≤ 140737488355328 then (Ed (Hr.f c1 g1 d1 f1 (w64 (a1.tdiv 4)) ((w64 (a1 + 1)).tmod 4)) (fun t226 t227 => (Bz.l4 K k c1 g1 d1 f1 h1 x87 (b1.set a1.toNat true) (e1 ++ [a1]) (w64 ((w64 (4 * t226)) + t227))))) else none)) else none
end
def Bz.f (K : Nat) (a1 : List Al) (c1 : Int) (d1 : List Fv) (b1 : List Fv) : Option (List (List Int)) := if 0 ≤ w64 (4 * (a1.length : Int)) then (if (w64 (4 * (a1.length : Int))).toNat * 1 ≤ 281474976710656 then (Bz.l1 K K a1 c1 d1 b1 ([] : List (List Int)) (List.replicate (w64 (4 * (a1.length : Int))).toNat false) 0) else none) else none
abbrev Bz.post (w0 : World) (L : List Cu) (r1 : List (List Int)) (en : Ending) (w : World) : Prop := ∃ (A_r0 : Option Addr) (c_r1 : Nat) (y_r2 : Nat → (Ty.slice 2 (Bq .i64)).Lay), en = .returned (.slice A_r0 r1.length c_r1) ∧ St w0 w (Own (Ty.slice 2 (Bq .i64)) 43 A_r0 c_r1 y_r2 r1 :: L)
def Kj.f (list : List (List Int)) : Option (Int) := some (list.length : Int)
abbrev Kj.post := Ht
def Fz.l1 (K : Nat) : Nat → Int → (List Int) → Int → Option (List Int)
  | 0, _, _, _ => none
  | k + 1, n_, a1, x11 => if x11 < n_ then (if (a1.length + 1) * 8 ≤ 140737488355328 then (Fz.l1 K k n_ (a1 ++ [x11]) (w64 (x11 + 1))) else none) else (some a1)
def Fz.f (K : Nat) (n_ : Int) : Option (List Int) := Fz.l1 K K n_ ([] : List Int) 0
abbrev Fz.post (w0 : World) (L : List Cu) (r1 : List Int) (en : Ending) (w : World) : Prop := ∃ (A_r0 : Option Addr) (c_r1 : Nat), en = .returned (.slice A_r0 r1.length c_r1) ∧ St w0 w (Own (Bq .i64) 2 A_r0 c_r1 (fun _ => ()) r1 :: L)
def G8.l1 (K : Nat) : Nat → (List Int) → Int → Int → (List Int) → Int → Option (List Int)
  | 0, _, _, _, _, _ => none
  | k + 1, sets, i, k_, x9, x10 => if x10 < (sets.length : Int) then (if 0 ≤ x10 ∧ x10 < (x9.length : Int) then (if x9.getD x10.toNat 0 = sets.getD k_.toNat 0 then (G8.l1 K k sets i k_ (x9.set x10.toNat (sets.getD i.toNat 0)) (w64 (x10 + 1))) else (G8.l1 K k sets i k_ x9 (w64 (x10 + 1)))) else none) else (some x9)
def G8.f (K : Nat) (sets : List Int) (i : Int) (k_ : Int) : Option (List Int) := if 0 ≤ k_ ∧ k_ < (sets.length : Int) then (if 0 ≤ i ∧ i < (sets.length : Int) then (G8.l1 K K sets i k_ sets 0) else none) else none
abbrev G8.post (w0 : World) (L : List Cu) (A_a : Option Addr) (c_a : Nat) (r1 : List Int) (en : Ending) (w : World) : Prop := en = .returned (.tuple #[]) ∧ St w0 w (Own (Bq .i64) 2 A_a c_a (fun _ => ()) r1 :: L)
mutual
def Cz.l1 (K : Nat) : Nat → (List Int) → (List (Int × Int)) → (List Int) → Int → Option (List Int)
  | 0, _, _, _, _ => none
  | k + 1, roots, a1, b1, x20 => if x20 < (roots.length : Int) then (if 0 ≤ x20 ∧ x20 < (roots.length : Int) then (if ((Mx a1 (roots.getD x20.toNat 0)).isSome) = true then (Cz.j4 K k roots b1 x20 a1) else (Cz.j4 K k roots b1 x20 (Nv a1 (roots.getD x20.toNat 0) (a1.length : Int)))) else none) else (some b1)
def Cz.j4 (K : Nat) : Nat → (List Int) → (List Int) → Int → (List (Int × Int)) → Option (List Int)
  | 0, _, _, _, _ => none
  | k + 1, roots, a1, x20, b1 => if (a1.length + 1) * 8 ≤ 140737488355328 then (Cz.l1 K k roots b1 (a1 ++ [(Mx b1 (roots.getD x20.toNat 0)).getD 0]) (w64 (x20 + 1))) else none
end
def Cz.f (K : Nat) (roots : List Int) : Option (List Int) := Cz.l1 K K roots ([] : List (Int × Int)) ([] : List Int) 0
abbrev Cz.post (w0 : World) (L : List Cu) (r1 : List Int) (en : Ending) (w : World) : Prop := ∃ (A_r0 : Option Addr) (c_r1 : Nat), en = .returned (.slice A_r0 r1.length c_r1) ∧ St w0 w (Own (Bq .i64) 2 A_r0 c_r1 (fun _ => ()) r1 :: L)
def C9.l1 (K : Nat) : Nat → (List Fv) → (List Fv) → (List Int) → Int → Option (List Int)
  | 0, _, _, _, _ => none
  | k + 1, a1, c1, b1, x37 => if x37 < (a1.length : Int) then (if 0 ≤ x37 ∧ x37 < (a1.length : Int) then (bnd (a1.getD x37.toNat Jf) (fun e61 => if 0 ≤ x37 ∧ x37 < (c1.length : Int) then (bnd (c1.getD x37.toNat Jf) (fun e67 => (G8.f K b1 e61.crossing e67.crossing).bind fun t69 => (if t69.length = b1.length then (C9.l1 K k a1 c1 t69 (w64 (x37 + 1))) else none))) else none)) else none) else ((Cz.f K b1).bind fun t74 => (some t74))
def C9.f (K : Nat) (b1 : List Al) (d1 : Int) (c1 : List Fv) (a1 : List Fv) : Option (List Int) := (Em.f b1).bind fun t5 => ((Fz.f K t5).bind fun t9 => (C9.l1 K K c1 a1 t9 0))
abbrev C9.post (w0 : World) (L : List Cu) (r1 : List Int) (en : Ending) (w : World) : Prop := ∃ (A_r0 : Option Addr) (c_r1 : Nat), en = .returned (.slice A_r0 r1.length c_r1) ∧ St w0 w (Own (Bq .i64) 2 A_r0 c_r1 (fun _ => ()) r1 :: L)
def Cm.l2 (K : Nat) : Nat → (List Int) → Int → Int → Option (Int)
  | 0, _, _, _ => none
  | k + 1, x, m_6, i_7 => if i_7 < (x.length : Int) then (if 0 ≤ i_7 ∧ i_7 < (x.length : Int) then (Cm.l2 K k x (if x.getD i_7.toNat 0 > m_6 then x.getD i_7.toNat 0 else m_6) (w64 (i_7 + 1))) else none) else (some m_6)
def Cm.f (K : Nat) (x : List Int) : Option (Int) := if (x.length : Int) < 1 then (none) else (if 0 ≤ (0 : Int) ∧ (0 : Int) < (x.length : Int) then (Cm.l2 K K x (x.getD 0 0) 1) else none)
abbrev Cm.post := Ht
def Ik.f (K : Nat) (classes : List Int) : Option (Int) := if (classes.length : Int) = 0 then (some 0) else ((Cm.f K classes).bind fun t2 => (some (w64 (t2 + 1))))
abbrev Ik.post := Ht
def Gb.f (K : Nat) (a1 : List Al) (b1 : Int) : Option ((List Fv) × (List Fv) × Bool) := (Em.f a1).bind fun t5 => (if 10 < t5 then (some (([] : List Fv), ([] : List Fv), false)) else ((Ct.f b1 0 8).bind fun t21 => (if t21 = true then ((Cg.f K a1).bind fun t26 => (if t26 = true then (some (([] : List Fv), ([] : List Fv), false)) else (M8 (Bg.f K a1 b1) (fun t32 t33 t34 => (if t34 = true then ((Bz.f K a1 b1 t32 t33).bind fun t68 => ((Kj.f t68).bind fun t75 => ((C9.f K a1 b1 t32 t33).bind fun t79 => ((Ik.f K t79).bind fun t85 => (if t75 = w64 (t5 + (w64 (2 * t85))) then (some (t32, t33, true)) else (some (([] : List Fv), ([] : List Fv), false))))))) else (some (([] : List Fv), ([] : List Fv), false))))))) else (some (([] : List Fv), ([] : List Fv), false)))))
abbrev Gb.post (w0 : World) (L : List Cu) (r1 r2 : List Fv) (r3 : Bool) (en : Ending) (w : World) : Prop := ∃ (A_r0 : Option Addr) (c_r1 : Nat) (A_r2 : Option Addr) (c_r3 : Nat), en = .returned (.tuple #[.agg [.slice A_r0 r1.length c_r1, .slice A_r2 r2.length c_r3].toArray, .bool r3]) ∧ St w0 w (Own Gl 223 A_r0 c_r1 (fun _ => ()) r1 :: Own Gl 223 A_r2 c_r3 (fun _ => ()) r2 :: L)
def Gf.f (K : Nat) (b1 : List Al) (a1 : Int) : Option (Bool) := M8 (Gb.f K b1 a1) (fun t3 t4 t5 => (some t5))
abbrev Gf.post := F4
def J5.f (strands : Int) (letter : Int) : Option (Bool) := if letter = 0 then (some false) else ((Ct.f letter (w64 (1 - strands)) (w64 (strands - 1))).bind fun t2 => (some t2))
abbrev J5.post := F4
def Gg.f (x : Int) (a1 : Int) (b1 : List Int) : Option (Bool) := (J5.f a1 x).bind fun t1 => (some (!t1))
abbrev Gg.post (w0 : World) (L : List Cu) (v0_Strands : Int) (v0_Word : List Int) (b_v0 : Nat) (A_a : Option Addr) (c_a : Nat) (r1 : Bool) (en : Ending) (w : World) : Prop := en = .returned (.bool r1) ∧ St w0 w (Box b_v0 59 [.int .i64 v0_Strands, .slice A_a v0_Word.length c_a] :: L)
def Bh.l1 (K : Nat) : Nat → (List Int) → Int → (List Int) → Int → Option (Int)
  | 0, _, _, _, _ => none
  | k + 1, s, a1, b1, x8 => if x8 < (s.length : Int) then (if 0 ≤ x8 ∧ x8 < (s.length : Int) then ((Gg.f (s.getD x8.toNat 0) a1 b1).bind fun t18 => (if t18 = true then (some x8) else (Bh.l1 K k s a1 b1 (w64 (x8 + 1))))) else none) else (some (-1))
def Bh.f (K : Nat) (s : List Int) (a1 : Int) (b1 : List Int) : Option (Int) := Bh.l1 K K s a1 b1 0
abbrev Bh.post (w0 : World) (L : List Cu) (cap_Strands : Int) (cap_Word : List Int) (b_cap : Nat) (A_b : Option Addr) (c_b : Nat) (r1 : Int) (en : Ending) (w : World) : Prop := en = .returned (.int .i64 r1) ∧ St w0 w (Box b_cap 59 [.int .i64 cap_Strands, .slice A_b cap_Word.length c_b] :: L)
def Cy.f (K : Nat) (s : List Int) (a1 : Int) (b1 : List Int) : Option (Bool) := (Bh.f K s a1 b1).bind fun t1 => (some (decide (0 ≤ t1)))
abbrev Cy.post (w0 : World) (L : List Cu) (cap_Strands : Int) (cap_Word : List Int) (b_cap : Nat) (A_b : Option Addr) (c_b : Nat) (r1 : Bool) (en : Ending) (w : World) : Prop := en = .returned (.bool r1) ∧ St w0 w (Box b_cap 59 [.int .i64 cap_Strands, .slice A_b cap_Word.length c_b] :: L)
def G5.f (K : Nat) (b1 : Int) (a1 : List Int) : Option (Bool) := (Ct.f b1 1 6).bind fun t3 => (if t3 = true then (if (a1.length : Int) ≤ 24 then ((Cy.f K a1 b1 a1).bind fun t9 => (some (!t9))) else (some false)) else (some false))
abbrev G5.post := F4
def La.f (name : Int) : Option (Bool) := (Ct.f name 0 4).bind fun t1 => (some t1)
abbrev La.post := F4
def Fy.j1 (K : Nat) : Nat → Int → Bool → Option (Int)
  | 0, _, _ => none
  | k + 1, kind, x2 => if x2 = true then (some 4) else (if kind = 2 then (some 6) else (if kind = 3 then (some 1) else (some 0)))
def Fy.f (K : Nat) (kind : Int) : Option (Int) := if kind = 1 then (Fy.j1 K K kind (decide (kind = 1))) else (Fy.j1 K K kind (decide (kind = 4)))
abbrev Fy.post := Ht
def internal_strconv_small.f (i : Int) : Option (ByteArray) := if i < 10 then (if 0 ≤ i ∧ i ≤ w64 (i + 1) then (if 0 ≤ w64 (i + 1) ∧ w64 (i + 1) ≤ ((⟨#[48, 49, 50, 51, 52, 53, 54, 55, 56, 57, 97, 98, 99, 100, 101, 102, 103, 104, 105, 106, 107, 108, 109, 110, 111, 112, 113, 114, 115, 116, 117, 118, 119, 120, 121, 122]⟩ : ByteArray).size : Int) then (some ((⟨#[48, 49, 50, 51, 52, 53, 54, 55, 56, 57, 97, 98, 99, 100, 101, 102, 103, 104, 105, 106, 107, 108, 109, 110, 111, 112, 113, 114, 115, 116, 117, 118, 119, 120, 121, 122]⟩ : ByteArray).extract i.toNat (w64 (i + 1)).toNat)) else none) else none) else (if 0 ≤ w64 (i * 2) ∧ w64 (i * 2) ≤ w64 ((w64 (i * 2)) + 2) then (if 0 ≤ w64 ((w64 (i * 2)) + 2) ∧ w64 ((w64 (i * 2)) + 2) ≤ ((⟨#[48, 48, 48, 49, 48, 50, 48, 51, 48, 52, 48, 53, 48, 54, 48, 55, 48, 56, 48, 57, 49, 48, 49, 49, 49, 50, 49, 51, 49, 52, 49, 53, 49, 54, 49, 55, 49, 56, 49, 57, 50, 48, 50, 49, 50, 50, 50, 51, 50, 52, 50, 53, 50, 54, 50, 55, 50, 56, 50, 57, 51, 48, 51, 49, 51, 50, 51, 51, 51, 52, 51, 53, 51, 54, 51, 55, 51, 56, 51, 57, 52, 48, 52, 49, 52, 50, 52, 51, 52, 52, 52, 53, 52, 54, 52, 55, 52, 56, 52, 57, 53, 48, 53, 49, 53, 50, 53, 51, 53, 52, 53, 53, 53, 54, 53, 55, 53, 56, 53, 57, 54, 48, 54, 49, 54, 50, 54, 51, 54, 52, 54, 53, 54, 54, 54, 55, 54, 56, 54, 57, 55, 48, 55, 49, 55, 50, 55, 51, 55, 52, 55, 53, 55, 54, 55, 55, 55, 56, 55, 57, 56, 48, 56, 49, 56, 50, 56, 51, 56, 52, 56, 53, 56, 54, 56, 55, 56, 56, 56, 57, 57, 48, 57, 49, 57, 50, 57, 51, 57, 52, 57, 53, 57, 54, 57, 55, 57, 56, 57, 57]⟩ : ByteArray).size : Int) then (some ((⟨#[48, 48, 48, 49, 48, 50, 48, 51, 48, 52, 48, 53, 48, 54, 48, 55, 48, 56, 48, 57, 49, 48, 49, 49, 49, 50, 49, 51, 49, 52, 49, 53, 49, 54, 49, 55, 49, 56, 49, 57, 50, 48, 50, 49, 50, 50, 50, 51, 50, 52, 50, 53, 50, 54, 50, 55, 50, 56, 50, 57, 51, 48, 51, 49, 51, 50, 51, 51, 51, 52, 51, 53, 51, 54, 51, 55, 51, 56, 51, 57, 52, 48, 52, 49, 52, 50, 52, 51, 52, 52, 52, 53, 52, 54, 52, 55, 52, 56, 52, 57, 53, 48, 53, 49, 53, 50, 53, 51, 53, 52, 53, 53, 53, 54, 53, 55, 53, 56, 53, 57, 54, 48, 54, 49, 54, 50, 54, 51, 54, 52, 54, 53, 54, 54, 54, 55, 54, 56, 54, 57, 55, 48, 55, 49, 55, 50, 55, 51, 55, 52, 55, 53, 55, 54, 55, 55, 55, 56, 55, 57, 56, 48, 56, 49, 56, 50, 56, 51, 56, 52, 56, 53, 56, 54, 56, 55, 56, 56, 56, 57, 57, 48, 57, 49, 57, 50, 57, 51, 57, 52, 57, 53, 57, 54, 57, 55, 57, 56, 57, 57]⟩ : ByteArray).extract (w64 (i * 2)).toNat (w64 ((w64 (i * 2)) + 2)).toNat)) else none) else none)
abbrev internal_strconv_small.post (w0 : World) (L : List Cu) (r1 : ByteArray) (en : Ending) (w : World) : Prop := en = .returned (.string r1) ∧ St w0 w (L)
mutual
def Ce.j1 (K : Nat) : Nat → Int → Bool → Option (ByteArray)
  | 0, _, _ => none
  | k + 1, i, x4 => if x4 = true then ((internal_strconv_small.f i).bind fun t6 => (some t6)) else (if i < 0 then (Ce.j2 K k (IntKind.wrap .u64 (0 - (IntKind.wrap .u64 (i))))) else (Ce.j2 K k (IntKind.wrap .u64 (i))))
def Ce.j2 (K : Nat) : Nat → Int → Option (ByteArray)
  | 0, _ => none
  | k + 1, a1 => none
end
def Ce.f (K : Nat) (i : Int) (base : Int) : Option (ByteArray) := if base = 10 then (if 0 ≤ i then (Ce.j1 K K i (decide (i < 100))) else (Ce.j1 K K i false)) else (none)
abbrev Ce.post (w0 : World) (L : List Cu) (r1 : ByteArray) (en : Ending) (w : World) : Prop := en = .returned (.string r1) ∧ St w0 w (L)
def Jq.f (K : Nat) (i : Int) (base : Int) : Option (ByteArray) := (Ce.f K i base).bind fun t1 => (some t1)
abbrev Jq.post (w0 : World) (L : List Cu) (r1 : ByteArray) (en : Ending) (w : World) : Prop := en = .returned (.string r1) ∧ St w0 w (L)
def Jp.f (K : Nat) (n_ : Int) : Option (ByteArray) := (Jq.f K n_ 10).bind fun t1 => (some t1)
abbrev Jp.post (w0 : World) (L : List Cu) (r1 : ByteArray) (en : Ending) (w : World) : Prop := en = .returned (.string r1) ∧ St w0 w (L)
def Jm.f (K : Nat) (a1 : Int) (c1 : Int) (b1 : Int) : Option (ByteArray) := (Ct.f c1 0 7).bind fun t16 => (if t16 = true then ((Fy.f K a1).bind fun t21 => ((Ct.f b1 0 (w64 (t21 - 1))).bind fun t25 => (if t25 = true then (if 0 ≤ w64 ((w64 (2 * a1)) - 2) ∧ w64 ((w64 (2 * a1)) - 2) ≤ w64 (2 * a1) then (if 0 ≤ w64 (2 * a1) ∧ w64 (2 * a1) ≤ ((⟨#[50, 51, 51, 50, 49, 52, 52, 49]⟩ : ByteArray).size : Int) then (if ((⟨#[50, 51, 51, 50, 49, 52, 52, 49]⟩ : ByteArray).extract (w64 ((w64 (2 * a1)) - 2)).toNat (w64 (2 * a1)).toNat).size + (⟨#[32]⟩ : ByteArray).size ≤ 9223372036854775807 then ((Jp.f K c1).bind fun t33 => (if (((⟨#[50, 51, 51, 50, 49, 52, 52, 49]⟩ : ByteArray).extract (w64 ((w64 (2 * a1)) - 2)).toNat (w64 (2 * a1)).toNat) ++ (⟨#[32]⟩ : ByteArray)).size + t33.size ≤ 9223372036854775807 then (if ((((⟨#[50, 51, 51, 50, 49, 52, 52, 49]⟩ : ByteArray).extract (w64 ((w64 (2 * a1)) - 2)).toNat (w64 (2 * a1)).toNat) ++ (⟨#[32]⟩ : ByteArray)) ++ t33).size + (⟨#[32]⟩ : ByteArray).size ≤ 9223372036854775807 then ((Jp.f K b1).bind fun t39 => (if (((((⟨#[50, 51, 51, 50, 49, 52, 52, 49]⟩ : ByteArray).extract (w64 ((w64 (2 * a1)) - 2)).toNat (w64 (2 * a1)).toNat) ++ (⟨#[32]⟩ : ByteArray)) ++ t33) ++ (⟨#[32]⟩ : ByteArray)).size + t39.size ≤ 9223372036854775807 then (some ((((((⟨#[50, 51, 51, 50, 49, 52, 52, 49]⟩ : ByteArray).extract (w64 ((w64 (2 * a1)) - 2)).toNat (w64 (2 * a1)).toNat) ++ (⟨#[32]⟩ : ByteArray)) ++ t33) ++ (⟨#[32]⟩ : ByteArray)) ++ t39)) else none)) else none) else none)) else none) else none) else none) else (some ByteArray.empty)))) else (some ByteArray.empty))
abbrev Jm.post (w0 : World) (L : List Cu) (r1 : ByteArray) (en : Ending) (w : World) : Prop := en = .returned (.string r1) ∧ St w0 w (L)
def Iz.f (K : Nat) (c1 : Int) (b1 : Int) (a1 : Int) : Option (Bool) := (Jm.f K c1 b1 a1).bind fun t3 => (some (seq t3 ByteArray.empty))
abbrev Iz.post := F4
def Ay.l1 (K : Nat) : Nat → (List Ci) → Int → Option (Int)
  | 0, _, _ => none
  | k + 1, s, x10 => if x10 < (s.length : Int) then (if 0 ≤ x10 ∧ x10 < (s.length : Int) then (bnd (s.getD x10.toNat He) (fun e22 => (Iz.f K e22.Kind e22.Tet e22.Index).bind fun t24 => (if t24 = true then (some x10) else (Ay.l1 K k s (w64 (x10 + 1)))))) else none) else (some (-1))
def Ay.f (K : Nat) (s : List Ci) : Option (Int) := Ay.l1 K K s 0
abbrev Ay.post := Ht
def Bw.f (K : Nat) (s : List Ci) : Option (Bool) := (Ay.f K s).bind fun t1 => (some (decide (0 ≤ t1)))
abbrev Bw.post := F4
def Iq.f (k_ : Int) : Option (Bool) := (Ct.f k_ 0 7).bind fun t1 => (some (!t1))
abbrev Iq.post := F4
def Bl.l1 (K : Nat) : Nat → (List Int) → Int → Option (Int)
  | 0, _, _ => none
  | k + 1, s, x8 => if x8 < (s.length : Int) then (if 0 ≤ x8 ∧ x8 < (s.length : Int) then ((Iq.f (s.getD x8.toNat 0)).bind fun t18 => (if t18 = true then (some x8) else (Bl.l1 K k s (w64 (x8 + 1))))) else none) else (some (-1))
def Bl.f (K : Nat) (s : List Int) : Option (Int) := Bl.l1 K K s 0
abbrev Bl.post := Ht
def Co.f (K : Nat) (s : List Int) : Option (Bool) := (Bl.f K s).bind fun t1 => (some (decide (0 ≤ t1)))
abbrev Co.post := F4
def Iy.f (p : Int) : Option (Bool) := (I4.f p).bind fun t1 => (some (!t1))
abbrev Iy.post := F4
def Bj.l1 (K : Nat) : Nat → (List Int) → Int → Option (Int)
  | 0, _, _ => none
  | k + 1, s, x8 => if x8 < (s.length : Int) then (if 0 ≤ x8 ∧ x8 < (s.length : Int) then ((Iy.f (s.getD x8.toNat 0)).bind fun t18 => (if t18 = true then (some x8) else (Bj.l1 K k s (w64 (x8 + 1))))) else none) else (some (-1))
def Bj.f (K : Nat) (s : List Int) : Option (Int) := Bj.l1 K K s 0
abbrev Bj.post := Ht
def Cx.f (K : Nat) (s : List Int) : Option (Bool) := (Bj.f K s).bind fun t1 => (some (decide (0 ≤ t1)))
abbrev Cx.post := F4
def Gz.f (K : Nat) (e1 : Int) (d1 : Int) (b1 : List Ci) (a1 : List Int) (c1 : List Int) : Option (Bool) := (La.f e1).bind fun t12 => (if t12 = true then ((Ct.f d1 0 4).bind fun t17 => (if t17 = true then (if d1 = 0 then (if (b1.length : Int) ≤ 40 then ((Bw.f K b1).bind fun t24 => (if t24 = true then (some false) else (if (a1.length : Int) = (c1.length : Int) then (if (a1.length : Int) ≤ 8 then ((Co.f K a1).bind fun t31 => (if t31 = true then (some false) else ((Cx.f K c1).bind fun t36 => (some (!t36))))) else (some false)) else (some false)))) else (some false)) else (if (b1.length : Int) = 0 then (if (a1.length : Int) = 0 then (some (decide ((c1.length : Int) = 0))) else (some false)) else (some false))) else (some false))) else (some false))
abbrev Gz.post := F4
def Ig.f (K : Nat) (n1 : ByteArray) (a1 : Int) (f1 : List (List Bt)) (k1 : List Al) (c1 : Int) (e1 : Int) (g1 : List Int) (d1 : Int) (m1 : Int) (h1 : List Ci) (i1 : List Int) (b1 : List Int) : Option (Bool) := (Io.f K n1).bind fun t12 => (if t12 = true then ((Ct.f a1 1 4).bind fun t17 => (if t17 = true then (M9 (Le.f n1 a1 f1 k1 c1 e1 g1 d1 m1 h1 i1 b1) (fun t22 t23 t24 t25 => (if w64 (a1 - 1) = 0 then (if (false, t23, t24, t25) = (false, false, false, false) then (if a1 = 1 then ((Bp.f K f1).bind fun t36 => (some t36)) else (if a1 = 2 then ((Gf.f K k1 c1).bind fun t41 => (some t41)) else (if a1 = 3 then ((G5.f K e1 g1).bind fun t46 => (some t46)) else ((Gz.f K d1 m1 h1 i1 b1).bind fun t50 => (some t50))))) else (some false)) else (if w64 (a1 - 1) = 1 then (if (t22, false, t24, t25) = (false, false, false, false) then (if a1 = 1 then ((Bp.f K f1).bind fun t58 => (some t58)) else (if a1 = 2 then ((Gf.f K k1 c1).bind fun t63 => (some t63)) else (if a1 = 3 then ((G5.f K e1 g1).bind fun t68 => (some t68)) else ((Gz.f K d1 m1 h1 i1 b1).bind fun t72 => (some t72))))) else (some false)) else (if w64 (a1 - 1) = 2 then (if (t22, t23, false, t25) = (false, false, false, false) then (if a1 = 1 then ((Bp.f K f1).bind fun t80 => (some t80)) else (if a1 = 2 then ((Gf.f K k1 c1).bind fun t85 => (some t85)) else (if a1 = 3 then ((G5.f K e1 g1).bind fun t90 => (some t90)) else ((Gz.f K d1 m1 h1 i1 b1).bind fun t94 => (some t94))))) else (some false)) else (if w64 (a1 - 1) = 3 then (if (t22, t23, t24, false) = (false, false, false, false) then (if a1 = 1 then ((Bp.f K f1).bind fun t102 => (some t102)) else (if a1 = 2 then ((Gf.f K k1 c1).bind fun t107 => (some t107)) else (if a1 = 3 then ((G5.f K e1 g1).bind fun t112 => (some t112)) else ((Gz.f K d1 m1 h1 i1 b1).bind fun t116 => (some t116))))) else (some false)) else (none))))))) else (some false))) else (some false))
abbrev Ig.post := F4
def Ee.l1 (K : Nat) : Nat → (List Am) → Int → Option (Bool)
  | 0, _, _ => none
  | k + 1, items, x13 => if x13 < (items.length : Int) then (if 0 ≤ x13 ∧ x13 < (items.length : Int) then (bnd (items.getD x13.toNat Br) (fun e33 => (Ig.f K e33.Name e33.Kind e33.Ad e33.Ae e33.Aj e33.Ao e33.Av e33.Ak e33.Ah e33.Af e33.Ai e33.Ag).bind fun t38 => (if t38 = true then (if 0 < x13 then (if 0 ≤ w64 (x13 - 1) ∧ w64 (x13 - 1) < (items.length : Int) then (bnd (items.getD ((w64 (x13 - 1)).toNat) Br) (fun e45 => if (slt e45.Name e33.Name) = true then (Ee.l1 K k items (w64 (x13 + 1))) else (some false))) else none) else (Ee.l1 K k items (w64 (x13 + 1)))) else (some false)))) else none) else (some (decide ((items.length : Int) ≤ 10)))
def Ee.f (K : Nat) (items : List Am) : Option (Bool) := Ee.l1 K K items 0
abbrev Ee.post := F4
def Jg.f (K : Nat) (items : List Am) : Option (Bool) := (Ee.f K items).bind fun t1 => (some (!t1))
abbrev Jg.post := F4
def Az.l1 (K : Nat) : Nat → (List (List Am)) → Int → Option (Int)
  | 0, _, _ => none
  | k + 1, s, x8 => if x8 < (s.length : Int) then (if 0 ≤ x8 ∧ x8 < (s.length : Int) then ((Jg.f K (s.getD x8.toNat [])).bind fun t18 => (if t18 = true then (some x8) else (Az.l1 K k s (w64 (x8 + 1))))) else none) else (some (-1))
def Az.f (K : Nat) (s : List (List Am)) : Option (Int) := Az.l1 K K s 0
abbrev Az.post := Ht
def Bo.f (K : Nat) (s : List (List Am)) : Option (Bool) := (Az.f K s).bind fun t1 => (some (decide (0 ≤ t1)))
abbrev Bo.post := F4
def Ep.l1 (K : Nat) : Nat → (List Am) → (List (List Am)) → (List (List Am)) → Int → Option (Bool)
  | 0, _, _, _, _ => none
  | k + 1, a1, b1, c1, x14 => if x14 < 3 then (if 0 ≤ x14 ∧ x14 < (([([a1] : List (List Am)), b1, c1] : List (List (List Am))).length : Int) then (if 6 < ((([([a1] : List (List Am)), b1, c1] : List (List (List Am))).getD x14.toNat []).length : Int) then (some false) else ((Bo.f K (([([a1] : List (List Am)), b1, c1] : List (List (List Am))).getD x14.toNat [])).bind fun t26 => (if t26 = true then (some false) else (Ep.l1 K k a1 b1 c1 (w64 (x14 + 1)))))) else none) else (some true)
def Ep.f (K : Nat) (a1 : List Am) (b1 : List (List Am)) (c1 : List (List Am)) : Option (Bool) := Ep.l1 K K a1 b1 c1 0
abbrev Ep.post := F4
def Dy.f (s : List Bt) : Option (List Bt) := if (([] : List Bt).length + s.length) * 16 ≤ 140737488355328 then (some (([] : List Bt) ++ s)) else none
abbrev Dy.post (w0 : World) (L : List Cu) (r1 : List Bt) (en : Ending) (w : World) : Prop := ∃ (A_r0 : Option Addr) (c_r1 : Nat), en = .returned (.slice A_r0 r1.length c_r1) ∧ St w0 w (Own Bc 157 A_r0 c_r1 (fun _ => ()) r1 :: L)
def Cv.l1 (K : Nat) : Nat → (List (List Bt)) → (List (List Bt)) → Int → Option (List (List Bt))
  | 0, _, _, _ => none
  | k + 1, a1, b1, x28 => if x28 < (a1.length : Int) then (if 0 ≤ x28 ∧ x28 < (a1.length : Int) then ((Dy.f (a1.getD x28.toNat [])).bind fun t48 => (if (b1.length + 1) * 24 ≤ 140737488355328 then (Cv.l1 K k a1 (b1 ++ [t48]) (w64 (x28 + 1))) else none)) else none) else (some b1)
def Cv.f (K : Nat) (a1 : List (List Bt)) : Option (List (List Bt)) := Cv.l1 K K a1 ([] : List (List Bt)) 0
abbrev Cv.post (w0 : World) (L : List Cu) (r1 : List (List Bt)) (en : Ending) (w : World) : Prop := ∃ (A_r0 : Option Addr) (c_r1 : Nat) (y_r2 : Nat → (Ty.slice 157 Bc).Lay), en = .returned (.agg [.slice A_r0 r1.length c_r1].toArray) ∧ St w0 w (Own (Ty.slice 157 Bc) 150 A_r0 c_r1 y_r2 r1 :: L)
def Db.f (s : List Al) : Option (List Al) := if (([] : List Al).length + s.length) * 40 ≤ 140737488355328 then (some (([] : List Al) ++ s)) else none
abbrev Db.post (w0 : World) (L : List Cu) (r1 : List Al) (en : Ending) (w : World) : Prop := ∃ (A_r0 : Option Addr) (c_r1 : Nat), en = .returned (.slice A_r0 r1.length c_r1) ∧ St w0 w (Own Bb 152 A_r0 c_r1 (fun _ => ()) r1 :: L)
def Ji.f (b1 : List Al) (a1 : Int) : Option ((List Al) × Int) := (Db.f b1).bind fun t5 => (some (t5, a1))
abbrev Ji.post (w0 : World) (L : List Cu) (r1 : List Al) (r2 : Int) (en : Ending) (w : World) : Prop := ∃ (A_r0 : Option Addr) (c_r1 : Nat), en = .returned (.agg [.slice A_r0 r1.length c_r1, .int .i64 r2].toArray) ∧ St w0 w (Own Bb 152 A_r0 c_r1 (fun _ => ()) r1 :: L)
def Dr.f (s : List Int) : Option (List Int) := if (([] : List Int).length + s.length) * 8 ≤ 140737488355328 then (some (([] : List Int) ++ s)) else none
abbrev Dr.post (w0 : World) (L : List Cu) (r1 : List Int) (en : Ending) (w : World) : Prop := ∃ (A_r0 : Option Addr) (c_r1 : Nat), en = .returned (.slice A_r0 r1.length c_r1) ∧ St w0 w (Own (Bq .i64) 2 A_r0 c_r1 (fun _ => ()) r1 :: L)
def Dz.f (s : List Ci) : Option (List Ci) := if (([] : List Ci).length + s.length) * 24 ≤ 140737488355328 then (some (([] : List Ci) ++ s)) else none
abbrev Dz.post (w0 : World) (L : List Cu) (r1 : List Ci) (en : Ending) (w : World) : Prop := ∃ (A_r0 : Option Addr) (c_r1 : Nat), en = .returned (.slice A_r0 r1.length c_r1) ∧ St w0 w (Own Cq 140 A_r0 c_r1 (fun _ => ()) r1 :: L)
def G9.f (K : Nat) (n1 : ByteArray) (m1 : Int) (e1 : List (List Bt)) (i1 : List Al) (b1 : Int) (d1 : Int) (f1 : List Int) (c1 : Int) (k1 : Int) (g1 : List Ci) (h1 : List Int) (a1 : List Int) : Option (ByteArray × Int × (List (List Bt)) × (List Al) × Int × Int × (List Int) × Int × Int × (List Ci) × (List Int) × (List Int)) := (Cv.f K e1).bind fun t5 => (Ed (Ji.f i1 b1) (fun t13 t14 => ((Dr.f f1).bind fun t21 => ((Dz.f g1).bind fun t28 => ((Dr.f h1).bind fun t34 => ((Dr.f a1).bind fun t40 => (some (n1, m1, t5, t13, t14, d1, t21, c1, k1, t28, t34, t40))))))))
abbrev G9.post (w0 : World) (L : List Cu) (r1 : ByteArray) (r2 : Int) (r3 : List (List Bt)) (r4 : List Al) (r5 r6 : Int) (r7 : List Int) (r8 r9 : Int) (r10 : List Ci) (r11 r12 : List Int) (en : Ending) (w : World) : Prop := ∃ (A_r0 : Option Addr) (c_r1 : Nat) (y_r2 : Nat → (Ty.slice 157 Bc).Lay) (A_r3 : Option Addr) (c_r4 : Nat) (A_r5 : Option Addr) (c_r6 : Nat) (A_r7 : Option Addr) (c_r8 : Nat) (A_r9 : Option Addr) (c_r10 : Nat) (A_r11 : Option Addr) (c_r12 : Nat), en = .returned (.agg [.string r1, .int .i64 r2, .slice A_r0 r3.length c_r1, .slice A_r3 r4.length c_r4, .int .i64 r5, .int .i64 r6, .slice A_r5 r7.length c_r6, .int .i64 r8, .int .i64 r9, .slice A_r7 r10.length c_r8, .slice A_r9 r11.length c_r10, .slice A_r11 r12.length c_r12].toArray) ∧ St w0 w (Own (Ty.slice 157 Bc) 150 A_r0 c_r1 y_r2 r3 :: Own Bb 152 A_r3 c_r4 (fun _ => ()) r4 :: Own (Bq .i64) 2 A_r5 c_r6 (fun _ => ()) r7 :: Own Cq 140 A_r7 c_r8 (fun _ => ()) r10 :: Own (Bq .i64) 2 A_r9 c_r10 (fun _ => ()) r11 :: Own (Bq .i64) 2 A_r11 c_r12 (fun _ => ()) r12 :: L)
def Dn.l1 (K : Nat) : Nat → (List Am) → (List Am) → Int → Option (List Am)
  | 0, _, _, _ => none
  | k + 1, items, a1, x47 => if x47 < (items.length : Int) then (if 0 ≤ x47 ∧ x47 < (items.length : Int) then (bnd (items.getD x47.toNat Br) (fun e92 => Hf (G9.f K e92.Name e92.Kind e92.Ad e92.Ae e92.Aj e92.Ao e92.Av e92.Ak e92.Ah e92.Af e92.Ai e92.Ag) (fun t97 t98 t99 t100 t101 t102 t103 t104 t105 t106 t107 t108 => (if (a1.length + 1) * 200 ≤ 140737488355328 then (Dn.l1 K k items (a1 ++ [(⟨t97, t98, t99, t100, t101, t102, t103, t104, t105, t106, t107, t108⟩ : Am)]) (w64 (x47 + 1))) else none)))) else none) else (some a1)
def Dn.f (K : Nat) (items : List Am) : Option (List Am) := Dn.l1 K K items ([] : List Am) 0
abbrev Dn.post (w0 : World) (L : List Cu) (r1 : List Am) (en : Ending) (w : World) : Prop := ∃ (A_r0 : Option Addr) (c_r1 : Nat) (y_r2 : Nat → Aa.Lay), en = .returned (.slice A_r0 r1.length c_r1) ∧ St w0 w (Own Aa 64 A_r0 c_r1 y_r2 r1 :: L)
def Di.f (s : List Am) (i : Int) (v : Am) : Option (List Am) := if 0 ≤ i ∧ i ≤ (s.length : Int) then (if (s.length + 1) * 200 ≤ 140737488355328 then (some (s.take i.toNat ++ v :: s.drop i.toNat)) else none) else none
abbrev Di.post (w0 : World) (L : List Cu) (r1 : List Am) (en : Ending) (w : World) : Prop := ∃ (A_r0 : Option Addr) (c_r1 : Nat) (y_r2 : Nat → Aa.Lay), en = .returned (.slice A_r0 r1.length c_r1) ∧ St w0 w (Own Aa 64 A_r0 c_r1 y_r2 r1 :: L)
def En.l1 (K : Nat) : Nat → (List (List Am)) → (List (List Am)) → Int → Option (List (List Am))
  | 0, _, _, _ => none
  | k + 1, lists, a1, x21 => if x21 < (lists.length : Int) then (if 0 ≤ x21 ∧ x21 < (lists.length : Int) then ((Dn.f K (lists.getD x21.toNat [])).bind fun t40 => (if (a1.length + 1) * 24 ≤ 140737488355328 then (En.l1 K k lists (a1 ++ [t40]) (w64 (x21 + 1))) else none)) else none) else (some a1)
def En.f (K : Nat) (lists : List (List Am)) : Option (List (List Am)) := En.l1 K K lists ([] : List (List Am)) 0
abbrev En.post (w0 : World) (L : List Cu) (r1 : List (List Am)) (en : Ending) (w : World) : Prop := ∃ (A_r0 : Option Addr) (c_r1 : Nat) (y_r2 : Nat → (Ty.slice 64 Aa).Lay), en = .returned (.slice A_r0 r1.length c_r1) ∧ St w0 w (Own (Ty.slice 64 Aa) 27 A_r0 c_r1 y_r2 r1 :: L)
def Jr.f (K : Nat) (a1 : List Am) (b1 : List (List Am)) (c1 : List (List Am)) : Option ((List Am) × (List (List Am)) × (List (List Am))) := (Dn.f K a1).bind fun t5 => ((En.f K b1).bind fun t12 => ((En.f K c1).bind fun t19 => (some (t5, t12, t19))))
abbrev Jr.post (w0 : World) (L : List Cu) (r1 : List Am) (r2 : List (List Am)) (r3 : List (List Am)) (en : Ending) (w : World) : Prop := ∃ (A_r0 : Option Addr) (c_r1 : Nat) (y_r2 : Nat → Aa.Lay) (A_r3 : Option Addr) (c_r4 : Nat) (y_r5 : Nat → (Ty.slice 64 Aa).Lay) (A_r6 : Option Addr) (c_r7 : Nat) (y_r8 : Nat → (Ty.slice 64 Aa).Lay), en = .returned (.agg [.slice A_r0 r1.length c_r1, .slice A_r3 r2.length c_r4, .slice A_r6 r3.length c_r7].toArray) ∧ St w0 w (Own Aa 64 A_r0 c_r1 y_r2 r1 :: Own (Ty.slice 64 Aa) 27 A_r3 c_r4 y_r5 r2 :: Own (Ty.slice 64 Aa) 27 A_r6 c_r7 y_r8 r3 :: L)
def Lc.f (lists : List (List Am)) (items : List Am) : Option (List (List Am)) := if (lists.length + 1) * 24 ≤ 140737488355328 then (if 0 ≤ (if w64 (((lists ++ [items]).length : Int) - 6) > 0 then w64 (((lists ++ [items]).length : Int) - 6) else 0) ∧ (if w64 (((lists ++ [items]).length : Int) - 6) > 0 then w64 (((lists ++ [items]).length : Int) - 6) else 0) ≤ ((lists ++ [items]).length : Int) then (some (((lists ++ [items]).take ((lists ++ [items]).length)).drop ((if w64 (((lists ++ [items]).length : Int) - 6) > 0 then w64 (((lists ++ [items]).length : Int) - 6) else 0).toNat))) else none) else none
abbrev Lc.post (w0 : World) (L : List Cu) (r1 : List (List Am)) (en : Ending) (w : World) : Prop := ∃ (A_r0 : Option Addr) (c_r1 : Nat) (y_r2 : Nat → (Ty.slice 64 Aa).Lay), en = .returned (.slice A_r0 r1.length c_r1) ∧ St w0 w (Own (Ty.slice 64 Aa) 27 A_r0 c_r1 y_r2 r1 :: L)
def Kv.f (a1 : List Am) (b1 : List (List Am)) (c1 : List (List Am)) (items : List Am) : Option ((List (List Am)) × (List (List Am))) := (Lc.f b1 a1).bind fun t5 => (some (t5, ([] : List (List Am))))
abbrev Kv.post (w0 : World) (L : List Cu) (items : List Am) (A_d : Option Addr) (c_d : Nat) (r1 : List (List Am)) (r2 : List (List Am)) (en : Ending) (w : World) : Prop := ∃ (A_r0 : Option Addr) (c_r1 : Nat) (y_r2 : Nat → (Ty.slice 64 Aa).Lay) (A_r3 : Option Addr) (c_r4 : Nat) (y_r5 : Nat → (Ty.slice 64 Aa).Lay), en = .returned (.agg [.slice A_d items.length c_d, .slice A_r0 r1.length c_r1, .slice A_r3 r2.length c_r4].toArray) ∧ St w0 w (Own (Ty.slice 64 Aa) 27 A_r0 c_r1 y_r2 r1 :: Own (Ty.slice 64 Aa) 27 A_r3 c_r4 y_r5 r2 :: L)
mutual
def Cw.j1 (K : Nat) : Nat → (List Am) → (List (List Am)) → (List (List Am)) → ByteArray → Int → (List (List Bt)) → (List Al) → Int → Int → (List Int) → Int → Int → (List Ci) → (List Int) → (List Int) → Int → Bool → Bool → Option ((List Am) × (List (List Am)) × (List (List Am)) × Int)
  | 0, _, _, _, _, _, _, _, _, _, _, _, _, _, _, _, _, _, _ => none
  | k + 1, a1, g1, p1, q1, b1, h1, n1, d1, f1, i1, e1, o1, k1, m1, c1, t7, t8, x33 => if x33 = true then (some (([] : List Am), ([] : List (List Am)), ([] : List (List Am)), 3)) else ((Dn.f K a1).bind fun t36 => (if t8 = true then (Hf (G9.f K q1 b1 h1 n1 d1 f1 i1 e1 o1 k1 m1 c1) (fun t144 t145 t146 t147 t148 t149 t150 t151 t152 t153 t154 t155 => (if 0 ≤ t7 ∧ t7 < (t36.length : Int) then (Cw.j2 K k a1 g1 p1 (t36.set t7.toNat (⟨t144, t145, t146, t147, t148, t149, t150, t151, t152, t153, t154, t155⟩ : Am))) else none))) else (Hf (G9.f K q1 b1 h1 n1 d1 f1 i1 e1 o1 k1 m1 c1) (fun t175 t176 t177 t178 t179 t180 t181 t182 t183 t184 t185 t186 => ((Di.f t36 t7 (⟨t175, t176, t177, t178, t179, t180, t181, t182, t183, t184, t185, t186⟩ : Am)).bind fun t208 => (Cw.j2 K k a1 g1 p1 t208))))))
def Cw.j2 (K : Nat) : Nat → (List Am) → (List (List Am)) → (List (List Am)) → (List Am) → Option ((List Am) × (List (List Am)) × (List (List Am)) × Int)
  | 0, _, _, _, _ => none
  | k + 1, b1, c1, d1, a1 => M8 (Jr.f K b1 c1 d1) (fun t116 t117 t118 => (Ed (Kv.f t116 t117 t118 a1) (fun t131 t132 => (some (a1, t131, t132, 0)))))
end
def Cw.f (K : Nat) (a1 : List Am) (h1 : List (List Am)) (q1 : List (List Am)) (b1 : ByteArray) (c1 : Int) (i1 : List (List Bt)) (o1 : List Al) (e1 : Int) (g1 : Int) (k1 : List Int) (f1 : Int) (p1 : Int) (m1 : List Ci) (n1 : List Int) (d1 : List Int) : Option ((List Am) × (List (List Am)) × (List (List Am)) × Int) := Ed (Li.f K a1 b1) (fun t7 t8 => ((Ep.f K a1 h1 q1).bind fun t21 => (if t21 = true then ((Ig.f K b1 c1 i1 o1 e1 g1 k1 f1 p1 m1 n1 d1).bind fun t26 => (if t26 = true then (if (a1.length : Int) = 10 then (Cw.j1 K K a1 h1 q1 b1 c1 i1 o1 e1 g1 k1 f1 p1 m1 n1 d1 t7 t8 (!t8)) else (Cw.j1 K K a1 h1 q1 b1 c1 i1 o1 e1 g1 k1 f1 p1 m1 n1 d1 t7 t8 false)) else (some (([] : List Am), ([] : List (List Am)), ([] : List (List Am)), 1)))) else (some (([] : List Am), ([] : List (List Am)), ([] : List (List Am)), 1)))))
abbrev Cw.post (w0 : World) (L : List Cu) (r1 : List Am) (r2 : List (List Am)) (r3 : List (List Am)) (r4 : Int) (en : Ending) (w : World) : Prop := ∃ (A_r0 : Option Addr) (c_r1 : Nat) (y_r2 : Nat → Aa.Lay) (A_r3 : Option Addr) (c_r4 : Nat) (y_r5 : Nat → (Ty.slice 64 Aa).Lay) (A_r6 : Option Addr) (c_r7 : Nat) (y_r8 : Nat → (Ty.slice 64 Aa).Lay), en = .returned (.tuple #[.agg [.slice A_r0 r1.length c_r1, .slice A_r3 r2.length c_r4, .slice A_r6 r3.length c_r7].toArray, .int .i64 r4]) ∧ St w0 w (Own Aa 64 A_r0 c_r1 y_r2 r1 :: Own (Ty.slice 64 Aa) 27 A_r3 c_r4 y_r5 r2 :: Own (Ty.slice 64 Aa) 27 A_r6 c_r7 y_r8 r3 :: L)
def Mg.f (a1 : Int) (b1 : Int) (c1 : Int) (d1 : Int) : Option (Bool) := if a1 = c1 then (if b1 = d1 then (some true) else (some false)) else (some false)
abbrev Mg.post := F4
def F9.l1 (K : Nat) : Nat → (List Bt) → (List Bt) → Int → Option (Bool)
  | 0, _, _, _ => none
  | k + 1, a_, b_, a1 => if a1 < (a_.length : Int) then (if 0 ≤ a1 ∧ a1 < (a_.length : Int) then (bnd (a_.getD a1.toNat Ko) (fun e29 => if 0 ≤ a1 ∧ a1 < (b_.length : Int) then (bnd (b_.getD a1.toNat Ko) (fun e32 => (Mg.f e29.Tet e29.Perm e32.Tet e32.Perm).bind fun t34 => (if t34 = true then (F9.l1 K k a_ b_ (w64 (a1 + 1))) else (some false)))) else none)) else none) else (some true)
def F9.f (K : Nat) (a_ : List Bt) (b_ : List Bt) : Option (Bool) := if (a_.length : Int) = (b_.length : Int) then (F9.l1 K K a_ b_ 0) else (some false)
abbrev F9.post := F4
def E9.l1 (K : Nat) : Nat → (List (List Bt)) → (List (List Bt)) → Int → Option (Bool)
  | 0, _, _, _ => none
  | k + 1, a_, b_, a1 => if a1 < (a_.length : Int) then (if 0 ≤ a1 ∧ a1 < (a_.length : Int) then (if 0 ≤ a1 ∧ a1 < (b_.length : Int) then ((F9.f K (a_.getD a1.toNat []) (b_.getD a1.toNat [])).bind fun t22 => (if t22 = true then (E9.l1 K k a_ b_ (w64 (a1 + 1))) else (some false))) else none) else none) else (some true)
def E9.f (K : Nat) (a_ : List (List Bt)) (b_ : List (List Bt)) : Option (Bool) := if (a_.length : Int) = (b_.length : Int) then (E9.l1 K K a_ b_ 0) else (some false)
abbrev E9.post := F4
def Hl.f (K : Nat) (a1 : List (List Bt)) (b1 : List (List Bt)) : Option (Bool) := (E9.f K a1 b1).bind fun t5 => (if t5 = true then (some true) else (some false))
abbrev Hl.post := F4
def Jv.f (a_A : Int) (a_B : Int) (a_C : Int) (a_D : Int) (b1 : Int) (b_A : Int) (b_B : Int) (b_C : Int) (b_D : Int) (a1 : Int) : Option (Bool) := if a_A = b_A then (if a_B = b_B then (if a_C = b_C then (if a_D = b_D then (if b1 = a1 then (some true) else (some false)) else (some false)) else (some false)) else (some false)) else (some false)
abbrev Jv.post := F4
def D7.l1 (K : Nat) : Nat → (List Al) → (List Al) → Int → Option (Bool)
  | 0, _, _, _ => none
  | k + 1, a_, b_, a1 => if a1 < (a_.length : Int) then (if 0 ≤ a1 ∧ a1 < (a_.length : Int) then (bnd (a_.getD a1.toNat Au) (fun e29 => if 0 ≤ a1 ∧ a1 < (b_.length : Int) then (bnd (b_.getD a1.toNat Au) (fun e32 => (Jv.f e29.A e29.B e29.C e29.D e29.Sign e32.A e32.B e32.C e32.D e32.Sign).bind fun t34 => (if t34 = true then (D7.l1 K k a_ b_ (w64 (a1 + 1))) else (some false)))) else none)) else none) else (some true)
def D7.f (K : Nat) (a_ : List Al) (b_ : List Al) : Option (Bool) := if (a_.length : Int) = (b_.length : Int) then (D7.l1 K K a_ b_ 0) else (some false)
abbrev D7.post := F4
def Ke.f (K : Nat) (a1 : List Al) (c1 : Int) (b1 : List Al) (d1 : Int) : Option (Bool) := (D7.f K a1 b1).bind fun t5 => (if t5 = true then (if c1 = d1 then (some true) else (some false)) else (some false))
abbrev Ke.post := F4
def Ea.l1 (K : Nat) : Nat → (List Int) → (List Int) → Int → Option (Bool)
  | 0, _, _, _ => none
  | k + 1, a_, b_, i_6 => if i_6 < (a_.length : Int) then (if 0 ≤ i_6 ∧ i_6 < (a_.length : Int) then (if 0 ≤ i_6 ∧ i_6 < (b_.length : Int) then (if a_.getD i_6.toNat 0 = b_.getD i_6.toNat 0 then (Ea.l1 K k a_ b_ (w64 (i_6 + 1))) else (some false)) else none) else none) else (some true)
def Ea.f (K : Nat) (a_ : List Int) (b_ : List Int) : Option (Bool) := if (a_.length : Int) = (b_.length : Int) then (Ea.l1 K K a_ b_ 0) else (some false)
abbrev Ea.post := F4
def Ll.f (K : Nat) (d1 : Int) (a1 : List Int) (b1 : Int) (c1 : List Int) : Option (Bool) := if d1 = b1 then ((Ea.f K a1 c1).bind fun t6 => (if t6 = true then (some true) else (some false))) else (some false)
abbrev Ll.post := F4
def Mi.f (f1 : Int) (e1 : Int) (a1 : Int) (c1 : Int) (d1 : Int) (b1 : Int) : Option (Bool) := if f1 = c1 then (if e1 = d1 then (if a1 = b1 then (some true) else (some false)) else (some false)) else (some false)
abbrev Mi.post := F4
def F7.l1 (K : Nat) : Nat → (List Ci) → (List Ci) → Int → Option (Bool)
  | 0, _, _, _ => none
  | k + 1, a_, b_, a1 => if a1 < (a_.length : Int) then (if 0 ≤ a1 ∧ a1 < (a_.length : Int) then (bnd (a_.getD a1.toNat He) (fun e29 => if 0 ≤ a1 ∧ a1 < (b_.length : Int) then (bnd (b_.getD a1.toNat He) (fun e32 => (Mi.f e29.Kind e29.Tet e29.Index e32.Kind e32.Tet e32.Index).bind fun t34 => (if t34 = true then (F7.l1 K k a_ b_ (w64 (a1 + 1))) else (some false)))) else none)) else none) else (some true)
def F7.f (K : Nat) (a_ : List Ci) (b_ : List Ci) : Option (Bool) := if (a_.length : Int) = (b_.length : Int) then (F7.l1 K K a_ b_ 0) else (some false)
abbrev F7.post := F4
def Ie.f (K : Nat) (f1 : Int) (k1 : Int) (h1 : List Ci) (b1 : List Int) (g1 : List Int) (a1 : Int) (c1 : Int) (d1 : List Ci) (i1 : List Int) (e1 : List Int) : Option (Bool) := if f1 = a1 then (if k1 = c1 then ((F7.f K h1 d1).bind fun t7 => (if t7 = true then ((Ea.f K b1 i1).bind fun t12 => (if t12 = true then ((Ea.f K g1 e1).bind fun t17 => (if t17 = true then (some true) else (some false))) else (some false))) else (some false))) else (some false)) else (some false)
abbrev Ie.post := F4
def Ka.f (K : Nat) (p1 : ByteArray) (i1 : Int) (d1 : List (List Bt)) (f1 : List Al) (e1 : Int) (k1 : Int) (g1 : List Int) (t1 : Int) (a1 : Int) (m1 : List Ci) (a2 : List Int) (h1 : List Int) (s1 : ByteArray) (n1 : Int) (q1 : List (List Bt)) (u1 : List Al) (o1 : Int) (y1 : Int) (v1 : List Int) (b1 : Int) (x1 : Int) (c1 : List Ci) (z1 : List Int) (r1 : List Int) : Option (Bool) := if (seq p1 s1) = true then (if i1 = n1 then ((Hl.f K d1 q1).bind fun t7 => (if t7 = true then ((Ke.f K f1 e1 u1 o1).bind fun t12 => (if t12 = true then ((Ll.f K k1 g1 y1 v1).bind fun t17 => (if t17 = true then ((Ie.f K t1 a1 m1 a2 h1 b1 x1 c1 z1 r1).bind fun t22 => (if t22 = true then (some true) else (some false))) else (some false))) else (some false))) else (some false))) else (some false)) else (some false)
abbrev Ka.post := F4
def Fw.l1 (K : Nat) : Nat → (List Am) → (List Am) → Int → Option (Bool)
  | 0, _, _, _ => none
  | k + 1, a_, b_, a1 => if a1 < (a_.length : Int) then (if 0 ≤ a1 ∧ a1 < (a_.length : Int) then (bnd (a_.getD a1.toNat Br) (fun e29 => if 0 ≤ a1 ∧ a1 < (b_.length : Int) then (bnd (b_.getD a1.toNat Br) (fun e32 => (Ka.f K e29.Name e29.Kind e29.Ad e29.Ae e29.Aj e29.Ao e29.Av e29.Ak e29.Ah e29.Af e29.Ai e29.Ag e32.Name e32.Kind e32.Ad e32.Ae e32.Aj e32.Ao e32.Av e32.Ak e32.Ah e32.Af e32.Ai e32.Ag).bind fun t34 => (if t34 = true then (Fw.l1 K k a_ b_ (w64 (a1 + 1))) else (some false)))) else none)) else none) else (some true)
def Fw.f (K : Nat) (a_ : List Am) (b_ : List Am) : Option (Bool) := if (a_.length : Int) = (b_.length : Int) then (Fw.l1 K K a_ b_ 0) else (some false)
abbrev Fw.post := F4
def E8.l1 (K : Nat) : Nat → (List (List Am)) → (List (List Am)) → Int → Option (Bool)
  | 0, _, _, _ => none
  | k + 1, a_, b_, a1 => if a1 < (a_.length : Int) then (if 0 ≤ a1 ∧ a1 < (a_.length : Int) then (if 0 ≤ a1 ∧ a1 < (b_.length : Int) then ((Fw.f K (a_.getD a1.toNat []) (b_.getD a1.toNat [])).bind fun t22 => (if t22 = true then (E8.l1 K k a_ b_ (w64 (a1 + 1))) else (some false))) else none) else none) else (some true)
def E8.f (K : Nat) (a_ : List (List Am)) (b_ : List (List Am)) : Option (Bool) := if (a_.length : Int) = (b_.length : Int) then (E8.l1 K K a_ b_ 0) else (some false)
abbrev E8.post := F4
def Gq.f (K : Nat) (f1 : List Am) (e1 : List (List Am)) (c1 : List (List Am)) (a1 : List Am) (b1 : List (List Am)) (d1 : List (List Am)) : Option (Bool) := (Fw.f K f1 a1).bind fun t5 => (if t5 = true then ((E8.f K e1 b1).bind fun t10 => (if t10 = true then ((E8.f K c1 d1).bind fun t15 => (if t15 = true then (some true) else (some false))) else (some false))) else (some false))
abbrev Gq.post := F4
def Eg.l1 (K : Nat) : Nat → Int → ByteArray → Option (ByteArray)
  | 0, _, _ => none
  | k + 1, k_7, a1 => if 0 < k_7 then (if (strOfNums ([IntKind.wrap .u8 (w64 (48 + (k_7.tmod 10)))] : List Int)).size + a1.size ≤ 9223372036854775807 then (Eg.l1 K k (w64 (k_7.tdiv 10)) ((strOfNums ([IntKind.wrap .u8 (w64 (48 + (k_7.tmod 10)))] : List Int)) ++ a1)) else none) else (if (⟨#[109]⟩ : ByteArray).size + a1.size ≤ 9223372036854775807 then (some ((⟨#[109]⟩ : ByteArray) ++ a1)) else none)
def Eg.f (K : Nat) (k_ : Int) : Option (ByteArray) := if k_ ≤ 0 then (some (⟨#[109, 48]⟩ : ByteArray)) else (Eg.l1 K K k_ ByteArray.empty)
abbrev Eg.post (w0 : World) (L : List Cu) (r1 : ByteArray) (en : Ending) (w : World) : Prop := en = .returned (.string r1) ∧ St w0 w (L)
def El.l1 (K : Nat) : Nat → (List Bt) → Int → Int → Option (Int × (List Bt))
  | 0, _, _, _ => none
  | k + 1, x10, b1, a1 => if a1 < (x10.length : Int) then (if 0 ≤ a1 ∧ a1 < (x10.length : Int) then (bnd (x10.getD a1.toNat Ko) (fun e25 => if 0 ≤ a1 ∧ a1 < ((x10.set a1.toNat ({ e25 with Tet := b1 })).length : Int) then (bnd ((x10.set a1.toNat ({ e25 with Tet := b1 })).getD a1.toNat Ko) (fun e29 => El.l1 K k ((x10.set a1.toNat ({ e25 with Tet := b1 })).set a1.toNat ({ e29 with Perm := w64 (b1 + 1) })) (w64 ((w64 (b1 + 1)) + 1)) (w64 (a1 + 1)))) else none)) else none) else (some (b1, x10))
def El.f (K : Nat) (a_ : List Bt) (k_ : Int) : Option (Int × (List Bt)) := El.l1 K K a_ k_ 0
abbrev El.post (w0 : World) (L : List Cu) (A_a : Option Addr) (c_a : Nat) (r1 : Int) (r2 : List Bt) (en : Ending) (w : World) : Prop := en = .returned (.int .i64 r1) ∧ St w0 w (Own Bc 157 A_a c_a (fun _ => ()) r2 :: L)
def Es.l1 (K : Nat) : Nat → (List (List Bt)) → Int → Int → Option (Int × (List (List Bt)))
  | 0, _, _, _ => none
  | k + 1, x9, b1, a1 => if a1 < (x9.length : Int) then (if 0 ≤ a1 ∧ a1 < (x9.length : Int) then (Ed (El.f K (x9.getD a1.toNat []) b1) (fun t22 t23 => (if t23.length = (x9.getD a1.toNat []).length then (Es.l1 K k (x9.set a1.toNat t23) t22 (w64 (a1 + 1))) else none))) else none) else (some (b1, x9))
def Es.f (K : Nat) (a_ : List (List Bt)) (k_ : Int) : Option (Int × (List (List Bt))) := Es.l1 K K a_ k_ 0
abbrev Es.post (w0 : World) (L : List Cu) (A_a : Option Addr) (c_a : Nat) (y_a : Nat → (Ty.slice 157 Bc).Lay) (r1 : Int) (r2 : List (List Bt)) (en : Ending) (w : World) : Prop := en = .returned (.int .i64 r1) ∧ St w0 w (Own (Ty.slice 157 Bc) 150 A_a c_a y_a r2 :: L)
def Da.l1 (K : Nat) : Nat → (List Al) → Int → Int → Option (Int × (List Al))
  | 0, _, _, _ => none
  | k + 1, x22, b1, a1 => if a1 < (x22.length : Int) then (if 0 ≤ a1 ∧ a1 < (x22.length : Int) then (bnd (x22.getD a1.toNat Au) (fun e49 => if 0 ≤ a1 ∧ a1 < ((x22.set a1.toNat ({ e49 with A := b1 })).length : Int) then (bnd ((x22.set a1.toNat ({ e49 with A := b1 })).getD a1.toNat Au) (fun e53 => if 0 ≤ a1 ∧ a1 < (((x22.set a1.toNat ({ e49 with A := b1 })).set a1.toNat ({ e53 with B := w64 (b1 + 1) })).length : Int) then (bnd (((x22.set a1.toNat ({ e49 with A := b1 })).set a1.toNat ({ e53 with B := w64 (b1 + 1) })).getD a1.toNat Au) (fun e57 => if 0 ≤ a1 ∧ a1 < ((((x22.set a1.toNat ({ e49 with A := b1 })).set a1.toNat ({ e53 with B := w64 (b1 + 1) })).set a1.toNat ({ e57 with C := w64 ((w64 (b1 + 1)) + 1) })).length : Int) then (bnd ((((x22.set a1.toNat ({ e49 with A := b1 })).set a1.toNat ({ e53 with B := w64 (b1 + 1) })).set a1.toNat ({ e57 with C := w64 ((w64 (b1 + 1)) + 1) })).getD a1.toNat Au) (fun e61 => if 0 ≤ a1 ∧ a1 < (((((x22.set a1.toNat ({ e49 with A := b1 })).set a1.toNat ({ e53 with B := w64 (b1 + 1) })).set a1.toNat ({ e57 with C := w64 ((w64 (b1 + 1)) + 1) })).set a1.toNat ({ e61 with D := w64 ((w64 ((w64 (b1 + 1)) + 1)) + 1) })).length : Int) then (bnd (((((x22.set a1.toNat ({ e49 with A := b1 })).set a1.toNat ({ e53 with B := w64 (b1 + 1) })).set a1.toNat ({ e57 with C := w64 ((w64 (b1 + 1)) + 1) })).set a1.toNat ({ e61 with D := w64 ((w64 ((w64 (b1 + 1)) + 1)) + 1) })).getD a1.toNat Au) (fun e65 => Da.l1 K k (((((x22.set a1.toNat ({ e49 with A := b1 })).set a1.toNat ({ e53 with B := w64 (b1 + 1) })).set a1.toNat ({ e57 with C := w64 ((w64 (b1 + 1)) + 1) })).set a1.toNat ({ e61 with D := w64 ((w64 ((w64 (b1 + 1)) + 1)) + 1) })).set a1.toNat ({ e65 with Sign := w64 ((w64 ((w64 ((w64 (b1 + 1)) + 1)) + 1)) + 1) })) (w64 ((w64 ((w64 ((w64 ((w64 (b1 + 1)) + 1)) + 1)) + 1)) + 1)) (w64 (a1 + 1)))) else none)) else none)) else none)) else none)) else none) else (some (b1, x22))
def Da.f (K : Nat) (a_ : List Al) (k_ : Int) : Option (Int × (List Al)) := Da.l1 K K a_ k_ 0
abbrev Da.post (w0 : World) (L : List Cu) (A_a : Option Addr) (c_a : Nat) (r1 : Int) (r2 : List Al) (en : Ending) (w : World) : Prop := en = .returned (.int .i64 r1) ∧ St w0 w (Own Bb 152 A_a c_a (fun _ => ()) r2 :: L)
def Cs.l1 (K : Nat) : Nat → (List Int) → Int → Int → Option (Int × (List Int))
  | 0, _, _, _ => none
  | k + 1, x4, k_5, i_6 => if i_6 < (x4.length : Int) then (if 0 ≤ i_6 ∧ i_6 < (x4.length : Int) then (Cs.l1 K k (x4.set i_6.toNat k_5) (w64 (k_5 + 1)) (w64 (i_6 + 1))) else none) else (some (k_5, x4))
def Cs.f (K : Nat) (a_ : List Int) (k_ : Int) : Option (Int × (List Int)) := Cs.l1 K K a_ k_ 0
abbrev Cs.post (w0 : World) (L : List Cu) (A_a : Option Addr) (c_a : Nat) (r1 : Int) (r2 : List Int) (en : Ending) (w : World) : Prop := en = .returned (.int .i64 r1) ∧ St w0 w (Own (Bq .i64) 2 A_a c_a (fun _ => ()) r2 :: L)
def Eb.l1 (K : Nat) : Nat → (List Ci) → Int → Int → Option (Int × (List Ci))
  | 0, _, _, _ => none
  | k + 1, x14, b1, a1 => if a1 < (x14.length : Int) then (if 0 ≤ a1 ∧ a1 < (x14.length : Int) then (bnd (x14.getD a1.toNat He) (fun e33 => if 0 ≤ a1 ∧ a1 < ((x14.set a1.toNat ({ e33 with Kind := b1 })).length : Int) then (bnd ((x14.set a1.toNat ({ e33 with Kind := b1 })).getD a1.toNat He) (fun e37 => if 0 ≤ a1 ∧ a1 < (((x14.set a1.toNat ({ e33 with Kind := b1 })).set a1.toNat ({ e37 with Tet := w64 (b1 + 1) })).length : Int) then (bnd (((x14.set a1.toNat ({ e33 with Kind := b1 })).set a1.toNat ({ e37 with Tet := w64 (b1 + 1) })).getD a1.toNat He) (fun e41 => Eb.l1 K k (((x14.set a1.toNat ({ e33 with Kind := b1 })).set a1.toNat ({ e37 with Tet := w64 (b1 + 1) })).set a1.toNat ({ e41 with Index := w64 ((w64 (b1 + 1)) + 1) })) (w64 ((w64 ((w64 (b1 + 1)) + 1)) + 1)) (w64 (a1 + 1)))) else none)) else none)) else none) else (some (b1, x14))
def Eb.f (K : Nat) (a_ : List Ci) (k_ : Int) : Option (Int × (List Ci)) := Eb.l1 K K a_ k_ 0
abbrev Eb.post (w0 : World) (L : List Cu) (A_a : Option Addr) (c_a : Nat) (r1 : Int) (r2 : List Ci) (en : Ending) (w : World) : Prop := en = .returned (.int .i64 r1) ∧ St w0 w (Own Cq 140 A_a c_a (fun _ => ()) r2 :: L)
def Dl.l1 (K : Nat) : Nat → (List Am) → Int → Int → Option (Int × (List Am))
  | 0, _, _, _ => none
  | k + 1, x84, b1, a1 => if a1 < (x84.length : Int) then ((Eg.f K b1).bind fun t171 => (if 0 ≤ a1 ∧ a1 < (x84.length : Int) then (bnd (x84.getD a1.toNat Br) (fun e177 => if 0 ≤ a1 ∧ a1 < ((x84.set a1.toNat ({ e177 with Name := t171 })).length : Int) then (bnd ((x84.set a1.toNat ({ e177 with Name := t171 })).getD a1.toNat Br) (fun e181 => if 0 ≤ a1 ∧ a1 < (((x84.set a1.toNat ({ e177 with Name := t171 })).set a1.toNat ({ e181 with Kind := w64 (b1 + 1) })).length : Int) then (bnd (((x84.set a1.toNat ({ e177 with Name := t171 })).set a1.toNat ({ e181 with Kind := w64 (b1 + 1) })).getD a1.toNat Br) (fun e184 => Ed (Es.f K e184.Ad (w64 ((w64 (b1 + 1)) + 1))) (fun t186 t187 => (if t187.length = e184.Ad.length then (if 0 ≤ a1 ∧ a1 < ((((x84.set a1.toNat ({ e177 with Name := t171 })).set a1.toNat ({ e181 with Kind := w64 (b1 + 1) })).set a1.toNat { e184 with Ad := t187 }).length : Int) then (bnd ((((x84.set a1.toNat ({ e177 with Name := t171 })).set a1.toNat ({ e181 with Kind := w64 (b1 + 1) })).set a1.toNat { e184 with Ad := t187 }).getD a1.toNat Br) (fun e193 => Ed (Da.f K e193.Ae t186) (fun t195 t196 => (if t196.length = e193.Ae.length then (if 0 ≤ a1 ∧ a1 < (((((x84.set a1.toNat ({ e177 with Name := t171 })).set a1.toNat ({ e181 with Kind := w64 (b1 + 1) })).set a1.toNat { e184 with Ad := t187 }).set a1.toNat { e193 with Ae := t196 }).length : Int) then (bnd (((((x84.set a1.toNat ({ e177 with Name := t171 })).set a1.toNat ({ e181 with Kind := w64 (b1 + 1) })).set a1.toNat { e184 with Ad := t187 }).set a1.toNat { e193 with Ae := t196 }).getD a1.toNat Br) (fun e203 => if 0 ≤ a1 ∧ a1 < ((((((x84.set a1.toNat ({ e177 with Name := t171 })).set a1.toNat ({ e181 with Kind := w64 (b1 + 1) })).set a1.toNat { e184 with Ad := t187 }).set a1.toNat { e193 with Ae := t196 }).set a1.toNat ({ e203 with Aj := t195 })).length : Int) then (bnd ((((((x84.set a1.toNat ({ e177 with Name := t171 })).set a1.toNat ({ e181 with Kind := w64 (b1 + 1) })).set a1.toNat { e184 with Ad := t187 }).set a1.toNat { e193 with Ae := t196 }).set a1.toNat ({ e203 with Aj := t195 })).getD a1.toNat Br) (fun e207 => if 0 ≤ a1 ∧ a1 < (((((((x84.set a1.toNat ({ e177 with Name := t171 })).set a1.toNat ({ e181 with Kind := w64 (b1 + 1) })).set a1.toNat { e184 with Ad := t187 }).set a1.toNat { e193 with Ae := t196 }).set a1.toNat ({ e203 with Aj := t195 })).set a1.toNat ({ e207 with Ao := w64 (t195 + 1) })).length : Int) then (bnd (((((((x84.set a1.toNat ({ e177 with Name := t171 })).set a1.toNat ({ e181 with Kind := w64 (b1 + 1) })).set a1.toNat { e184 with Ad := t187 }).set a1.toNat { e193 with Ae := t196 }).set a1.toNat ({ e203 with Aj := t195 })).set a1.toNat ({ e207 with Ao := w64 (t195 + 1) })).getD a1.toNat Br) (fun e210 => Ed (Cs.f K e210.Av (w64 ((w64 (t195 + 1)) + 1))) (fun t212 t213 => (if t213.length = e210.Av.length then (if 0 ≤ a1 ∧ a1 < ((((((((x84.set a1.toNat ({ e177 with Name := t171 })).set a1.toNat ({ e181 with Kind := w64 (b1 + 1) })).set a1.toNat { e184 with Ad := t187 }).set a1.toNat { e193 with Ae := t196 }).set a1.toNat ({ e203 with Aj := t195 })).set a1.toNat ({ e207 with Ao := w64 (t195 + 1) })).set a1.toNat { e210 with Av := t213 }).length : Int) then (bnd ((((((((x84.set a1.toNat ({ e177 with Name := t171 })).set a1.toNat ({ e181 with Kind := w64 (b1 + 1) })).set a1.toNat { e184 with Ad := t187 }).set a1.toNat { e193 with Ae := t196 }).set a1.toNat ({ e203 with Aj := t195 })).set a1.toNat ({ e207 with Ao := w64 (t195 + 1) })).set a1.toNat { e210 with Av := t213 }).getD a1.toNat Br) (fun e220 => if 0 ≤ a1 ∧ a1 < (((((((((x84.set a1.toNat ({ e177 with Name := t171 })).set a1.toNat ({ e181 with Kind := w64 (b1 + 1) })).set a1.toNat { e184 with Ad := t187 }).set a1.toNat { e193 with Ae := t196 }).set a1.toNat ({ e203 with Aj := t195 })).set a1.toNat ({ e207 with Ao := w64 (t195 + 1) })).set a1.toNat { e210 with Av := t213 }).set a1.toNat ({ e220 with Ak := t212 })).length : Int) then (bnd (((((((((x84.set a1.toNat ({ e177 with Name := t171 })).set a1.toNat ({ e181 with Kind := w64 (b1 + 1) })).set a1.toNat { e184 with Ad := t187 }).set a1.toNat { e193 with Ae := t196 }).set a1.toNat ({ e203 with Aj := t195 })).set a1.toNat ({ e207 with Ao := w64 (t195 + 1) })).set a1.toNat { e210 with Av := t213 }).set a1.toNat ({ e220 with Ak := t212 })).getD a1.toNat Br) (fun e224 => if 0 ≤ a1 ∧ a1 < ((((((((((x84.set a1.toNat ({ e177 with Name := t171 })).set a1.toNat ({ e181 with Kind := w64 (b1 + 1) })).set a1.toNat { e184 with Ad := t187 }).set a1.toNat { e193 with Ae := t196 }).set a1.toNat ({ e203 with Aj := t195 })).set a1.toNat ({ e207 with Ao := w64 (t195 + 1) })).set a1.toNat { e210 with Av := t213 }).set a1.toNat ({ e220 with Ak := t212 })).set a1.toNat ({ e224 with Ah := w64 (t212 + 1) })).length : Int) then (bnd ((((((((((x84.set a1.toNat ({ e177 with Name := t171 })).set a1.toNat ({ e181 with Kind := w64 (b1 + 1) })).set a1.toNat { e184 with Ad := t187 }).set a1.toNat { e193 with Ae := t196 }).set a1.toNat ({ e203 with Aj := t195 })).set a1.toNat ({ e207 with Ao := w64 (t195 + 1) })).set a1.toNat { e210 with Av := t213 }).set a1.toNat ({ e220 with Ak := t212 })).set a1.toNat ({ e224 with Ah := w64 (t212 + 1) })).getD a1.toNat Br) (fun e227 => Ed (Eb.f K e227.Af (w64 ((w64 (t212 + 1)) + 1))) (fun t229 t230 => (if t230.length = e227.Af.length then (if 0 ≤ a1 ∧ a1 < (((((((((((x84.set a1.toNat ({ e177 with Name := t171 })).set a1.toNat ({ e181 with Kind := w64 (b1 + 1) })).set a1.toNat { e184 with Ad := t187 }).set a1.toNat { e193 with Ae := t196 }).set a1.toNat ({ e203 with Aj := t195 })).set a1.toNat ({ e207 with Ao := w64 (t195 + 1) })).set a1.toNat { e210 with Av := t213 }).set a1.toNat ({ e220 with Ak := t212 })).set a1.toNat ({ e224 with Ah := w64 (t212 + 1) })).set a1.toNat { e227 with Af := t230 }).length : Int) then (bnd (((((((((((x84.set a1.toNat ({ e177 with Name := t171 })).set a1.toNat ({ e181 with Kind := w64 (b1 + 1) })).set a1.toNat { e184 with Ad := t187 }).set a1.toNat { e193 with Ae := t196 }).set a1.toNat ({ e203 with Aj := t195 })).set a1.toNat ({ e207 with Ao := w64 (t195 + 1) })).set a1.toNat { e210 with Av := t213 }).set a1.toNat ({ e220 with Ak := t212 })).set a1.toNat ({ e224 with Ah := w64 (t212 + 1) })).set a1.toNat { e227 with Af := t230 }).getD a1.toNat Br) (fun e236 => Ed (Cs.f K e236.Ai t229) (fun t238 t239 => (if t239.length = e236.Ai.length then (if 0 ≤ a1 ∧ a1 < ((((((((((((x84.set a1.toNat ({ e177 with Name := t171 })).set a1.toNat ({ e181 with Kind := w64 (b1 + 1) })).set a1.toNat { e184 with Ad := t187 }).set a1.toNat { e193 with Ae := t196 }).set a1.toNat ({ e203 with Aj := t195 })).set a1.toNat ({ e207 with Ao := w64 (t195 + 1) })).set a1.toNat { e210 with Av := t213 }).set a1.toNat ({ e220 with Ak := t212 })).set a1.toNat ({ e224 with Ah := w64 (t212 + 1) })).set a1.toNat { e227 with Af := t230 }).set a1.toNat { e236 with Ai := t239 }).length : Int) then (bnd ((((((((((((x84.set a1.toNat ({ e177 with Name := t171 })).set a1.toNat ({ e181 with Kind := w64 (b1 + 1) })).set a1.toNat { e184 with Ad := t187 }).set a1.toNat { e193 with Ae := t196 }).set a1.toNat ({ e203 with Aj := t195 })).set a1.toNat ({ e207 with Ao := w64 (t195 + 1) })).set a1.toNat { e210 with Av := t213 }).set a1.toNat ({ e220 with Ak := t212 })).set a1.toNat ({ e224 with Ah := w64 (t212 + 1) })).set a1.toNat { e227 with Af := t230 }).set a1.toNat { e236 with Ai := t239 }).getD a1.toNat Br) (fun e245 => Ed (Cs.f K e245.Ag t238) (fun t247 t248 => (if t248.length = e245.Ag.length then (Dl.l1 K k ((((((((((((x84.set a1.toNat ({ e177 with Name := t171 })).set a1.toNat ({ e181 with Kind := w64 (b1 + 1) })).set a1.toNat { e184 with Ad := t187 }).set a1.toNat { e193 with Ae := t196 }).set a1.toNat ({ e203 with Aj := t195 })).set a1.toNat ({ e207 with Ao := w64 (t195 + 1) })).set a1.toNat { e210 with Av := t213 }).set a1.toNat ({ e220 with Ak := t212 })).set a1.toNat ({ e224 with Ah := w64 (t212 + 1) })).set a1.toNat { e227 with Af := t230 }).set a1.toNat { e236 with Ai := t239 }).set a1.toNat { e245 with Ag := t248 }) t247 (w64 (a1 + 1))) else none)))) else none) else none)))) else none) else none)))) else none)) else none)) else none) else none)))) else none)) else none)) else none) else none)))) else none) else none)))) else none)) else none)) else none)) else (some (b1, x84))
def Dl.f (K : Nat) (a_ : List Am) (k_ : Int) : Option (Int × (List Am)) := Dl.l1 K K a_ k_ 0
abbrev Dl.post (w0 : World) (L : List Cu) (A_a : Option Addr) (c_a : Nat) (y_a : Nat → Aa.Lay) (r1 : Int) (r2 : List Am) (en : Ending) (w : World) : Prop := en = .returned (.int .i64 r1) ∧ St w0 w (Own Aa 64 A_a c_a y_a r2 :: L)
def Er.l1 (K : Nat) : Nat → (List (List Am)) → Int → Int → Option (Int × (List (List Am)))
  | 0, _, _, _ => none
  | k + 1, x9, b1, a1 => if a1 < (x9.length : Int) then (if 0 ≤ a1 ∧ a1 < (x9.length : Int) then (Ed (Dl.f K (x9.getD a1.toNat []) b1) (fun t22 t23 => (if t23.length = (x9.getD a1.toNat []).length then (Er.l1 K k (x9.set a1.toNat t23) t22 (w64 (a1 + 1))) else none))) else none) else (some (b1, x9))
def Er.f (K : Nat) (a_ : List (List Am)) (k_ : Int) : Option (Int × (List (List Am))) := Er.l1 K K a_ k_ 0
abbrev Er.post (w0 : World) (L : List Cu) (A_a : Option Addr) (c_a : Nat) (y_a : Nat → (Ty.slice 64 Aa).Lay) (r1 : Int) (r2 : List (List Am)) (en : Ending) (w : World) : Prop := en = .returned (.int .i64 r1) ∧ St w0 w (Own (Ty.slice 64 Aa) 27 A_a c_a y_a r2 :: L)
def Jc.f (K : Nat) (c1 : List Am) (b1 : List (List Am)) (a1 : List (List Am)) (k_ : Int) : Option (Int × (List Am) × (List (List Am)) × (List (List Am))) := Ed (Dl.f K c1 k_) (fun t3 t4 => (if t4.length = c1.length then (Ed (Er.f K b1 t3) (fun t9 t10 => (if t10.length = b1.length then (Ed (Er.f K a1 t9) (fun t15 t16 => (if t16.length = a1.length then (some (t15, t4, t10, t16)) else none))) else none))) else none))
abbrev Jc.post (w0 : World) (L : List Cu) (A_a : Option Addr) (c_a : Nat) (y_a : Nat → Aa.Lay) (A_b : Option Addr) (c_b : Nat) (y_b : Nat → (Ty.slice 64 Aa).Lay) (A_c : Option Addr) (c_c : Nat) (y_c : Nat → (Ty.slice 64 Aa).Lay) (r1 : Int) (r2 : List Am) (r3 : List (List Am)) (r4 : List (List Am)) (en : Ending) (w : World) : Prop := en = .returned (.int .i64 r1) ∧ St w0 w (Own Aa 64 A_a c_a y_a r2 :: Own (Ty.slice 64 Aa) 27 A_b c_b y_b r3 :: Own (Ty.slice 64 Aa) 27 A_c c_c y_c r4 :: L)
def Gp.f (K : Nat) (a1 : List (List Bt)) (k_ : Int) : Option (Int × (List (List Bt))) := Ed (Es.f K a1 k_) (fun t3 t4 => (if t4.length = a1.length then (some (t3, t4)) else none))
abbrev Gp.post (w0 : World) (L : List Cu) (A_a : Option Addr) (c_a : Nat) (y_a : Nat → (Ty.slice 157 Bc).Lay) (r1 : Int) (r2 : List (List Bt)) (en : Ending) (w : World) : Prop := en = .returned (.int .i64 r1) ∧ St w0 w (Own (Ty.slice 157 Bc) 150 A_a c_a y_a r2 :: L)
def Jj.f (K : Nat) (a1 : List Al) (b1 : Int) (k_ : Int) : Option (Int × (List Al)) := Ed (Da.f K a1 k_) (fun t3 t4 => (if t4.length = a1.length then (some (t3, t4)) else none))
abbrev Jj.post (w0 : World) (L : List Cu) (A_a : Option Addr) (c_a : Nat) (r1 : Int) (r2 : List Al) (en : Ending) (w : World) : Prop := en = .returned (.int .i64 r1) ∧ St w0 w (Own Bb 152 A_a c_a (fun _ => ()) r2 :: L)
def J8.f (K : Nat) (b1 : Int) (a1 : List Int) (k_ : Int) : Option (Int × (List Int)) := Ed (Cs.f K a1 k_) (fun t3 t4 => (if t4.length = a1.length then (some (t3, t4)) else none))
abbrev J8.post (w0 : World) (L : List Cu) (A_a : Option Addr) (c_a : Nat) (r1 : Int) (r2 : List Int) (en : Ending) (w : World) : Prop := en = .returned (.int .i64 r1) ∧ St w0 w (Own (Bq .i64) 2 A_a c_a (fun _ => ()) r2 :: L)
def Ho.f (K : Nat) (d1 : Int) (e1 : Int) (c1 : List Ci) (a1 : List Int) (b1 : List Int) (k_ : Int) : Option (Int × (List Ci) × (List Int) × (List Int)) := Ed (Eb.f K c1 k_) (fun t3 t4 => (if t4.length = c1.length then (Ed (Cs.f K a1 t3) (fun t9 t10 => (if t10.length = a1.length then (Ed (Cs.f K b1 t9) (fun t15 t16 => (if t16.length = b1.length then (some (t15, t4, t10, t16)) else none))) else none))) else none))
abbrev Ho.post (w0 : World) (L : List Cu) (A_a : Option Addr) (c_a : Nat) (A_b : Option Addr) (c_b : Nat) (A_c : Option Addr) (c_c : Nat) (r1 : Int) (r2 : List Ci) (r3 r4 : List Int) (en : Ending) (w : World) : Prop := en = .returned (.int .i64 r1) ∧ St w0 w (Own Cq 140 A_a c_a (fun _ => ()) r2 :: Own (Bq .i64) 2 A_b c_b (fun _ => ()) r3 :: Own (Bq .i64) 2 A_c c_c (fun _ => ()) r4 :: L)
def J3.f (K : Nat) (m1 : ByteArray) (n1 : Int) (e1 : List (List Bt)) (a1 : List Al) (k1 : Int) (h1 : Int) (c1 : List Int) (g1 : Int) (i1 : Int) (d1 : List Ci) (f1 : List Int) (b1 : List Int) (k_ : Int) : Option (Int × (List (List Bt)) × (List Al) × (List Int) × (List Ci) × (List Int) × (List Int)) := Ed (Gp.f K e1 k_) (fun t3 t4 => (if t4.length = e1.length then (Ed (Jj.f K a1 k1 t3) (fun t9 t10 => (if t10.length = a1.length then (Ed (J8.f K h1 c1 t9) (fun t15 t16 => (if t16.length = c1.length then (M9 (Ho.f K g1 i1 d1 f1 b1 t15) (fun t21 t22 t23 t24 => (if t22.length = d1.length then (if t23.length = f1.length then (if t24.length = b1.length then (some (t21, t4, t10, t16, t22, t23, t24)) else none) else none) else none))) else none))) else none))) else none))
abbrev J3.post (w0 : World) (L : List Cu) (A_a : Option Addr) (c_a : Nat) (y_a : Nat → (Ty.slice 157 Bc).Lay) (A_b : Option Addr) (c_b : Nat) (A_c : Option Addr) (c_c : Nat) (A_d : Option Addr) (c_d : Nat) (A_e : Option Addr) (c_e : Nat) (A_f : Option Addr) (c_f : Nat) (r1 : Int) (r2 : List (List Bt)) (r3 : List Al) (r4 : List Int) (r5 : List Ci) (r6 r7 : List Int) (en : Ending) (w : World) : Prop := en = .returned (.int .i64 r1) ∧ St w0 w (Own (Ty.slice 157 Bc) 150 A_a c_a y_a r2 :: Own Bb 152 A_b c_b (fun _ => ()) r3 :: Own (Bq .i64) 2 A_c c_c (fun _ => ()) r4 :: Own Cq 140 A_d c_d (fun _ => ()) r5 :: Own (Bq .i64) 2 A_e c_e (fun _ => ()) r6 :: Own (Bq .i64) 2 A_f c_f (fun _ => ()) r7 :: L)
def Ej.l1 (K : Nat) : Nat → (List Bt) → Int → Int → Option (Int)
  | 0, _, _, _ => none
  | k + 1, a_, k_7, i_8 => if i_8 < (a_.length : Int) then (if 0 ≤ i_8 ∧ i_8 < (a_.length : Int) then (bnd (a_.getD i_8.toNat Ko) (fun e17 => if e17.Tet = k_7 then (if e17.Perm = w64 (k_7 + 1) then (Ej.l1 K k a_ (w64 ((w64 (k_7 + 1)) + 1)) (w64 (i_8 + 1))) else (some (-1))) else (some (-1)))) else none) else (some k_7)
def Ej.f (K : Nat) (a_ : List Bt) (k_ : Int) : Option (Int) := Ej.l1 K K a_ k_ 0
abbrev Ej.post := Ht
def Fg.l1 (K : Nat) : Nat → (List (List Bt)) → Int → Int → Option (Int)
  | 0, _, _, _ => none
  | k + 1, a_, k_8, i_9 => if i_9 < (a_.length : Int) then (if 0 ≤ i_9 ∧ i_9 < (a_.length : Int) then ((Ej.f K (a_.getD i_9.toNat []) k_8).bind fun t19 => (if t19 < 0 then (some (-1)) else (Fg.l1 K k a_ t19 (w64 (i_9 + 1))))) else none) else (some k_8)
def Fg.f (K : Nat) (a_ : List (List Bt)) (k_ : Int) : Option (Int) := Fg.l1 K K a_ k_ 0
abbrev Fg.post := Ht
def Dg.l1 (K : Nat) : Nat → (List Al) → Int → Int → Option (Int)
  | 0, _, _, _ => none
  | k + 1, a_, a1, b1 => if b1 < (a_.length : Int) then (if 0 ≤ b1 ∧ b1 < (a_.length : Int) then (bnd (a_.getD b1.toNat Au) (fun e23 => if e23.A = a1 then (if e23.B = w64 (a1 + 1) then (if e23.C = w64 ((w64 (a1 + 1)) + 1) then (if e23.D = w64 ((w64 ((w64 (a1 + 1)) + 1)) + 1) then (if e23.Sign = w64 ((w64 ((w64 ((w64 (a1 + 1)) + 1)) + 1)) + 1) then (Dg.l1 K k a_ (w64 ((w64 ((w64 ((w64 ((w64 (a1 + 1)) + 1)) + 1)) + 1)) + 1)) (w64 (b1 + 1))) else (some (-1))) else (some (-1))) else (some (-1))) else (some (-1))) else (some (-1)))) else none) else (some a1)
def Dg.f (K : Nat) (a_ : List Al) (k_ : Int) : Option (Int) := Dg.l1 K K a_ k_ 0
abbrev Dg.post := Ht
def Dh.l1 (K : Nat) : Nat → (List Int) → Int → Int → Option (Int)
  | 0, _, _, _ => none
  | k + 1, a_, k_4, i_5 => if i_5 < (a_.length : Int) then (if 0 ≤ i_5 ∧ i_5 < (a_.length : Int) then (if a_.getD i_5.toNat 0 = k_4 then (Dh.l1 K k a_ (w64 (k_4 + 1)) (w64 (i_5 + 1))) else (some (-1))) else none) else (some k_4)
def Dh.f (K : Nat) (a_ : List Int) (k_ : Int) : Option (Int) := Dh.l1 K K a_ k_ 0
abbrev Dh.post := Ht
def Ey.l1 (K : Nat) : Nat → (List Ci) → Int → Int → Option (Int)
  | 0, _, _, _ => none
  | k + 1, a_, k_8, i_9 => if i_9 < (a_.length : Int) then (if 0 ≤ i_9 ∧ i_9 < (a_.length : Int) then (bnd (a_.getD i_9.toNat He) (fun e19 => if e19.Kind = k_8 then (if e19.Tet = w64 (k_8 + 1) then (if e19.Index = w64 ((w64 (k_8 + 1)) + 1) then (Ey.l1 K k a_ (w64 ((w64 ((w64 (k_8 + 1)) + 1)) + 1)) (w64 (i_9 + 1))) else (some (-1))) else (some (-1))) else (some (-1)))) else none) else (some k_8)
def Ey.f (K : Nat) (a_ : List Ci) (k_ : Int) : Option (Int) := Ey.l1 K K a_ k_ 0
abbrev Ey.post := Ht
def Dm.l1 (K : Nat) : Nat → (List Am) → Int → Int → Option (Int)
  | 0, _, _, _ => none
  | k + 1, t, b1, a1 => if a1 < (t.length : Int) then (if 0 ≤ a1 ∧ a1 < (t.length : Int) then (bnd (t.getD a1.toNat Br) (fun e93 => (Eg.f K b1).bind fun t95 => (if (seq e93.Name t95) = true then (if e93.Kind = w64 (b1 + 1) then ((Fg.f K e93.Ad (w64 ((w64 (b1 + 1)) + 1))).bind fun t101 => (if t101 < 0 then (some (-1)) else ((Dg.f K e93.Ae t101).bind fun t106 => (if t106 < 0 then (some (-1)) else (if e93.Aj = t106 then (if e93.Ao = w64 (t106 + 1) then ((Dh.f K e93.Av (w64 ((w64 (t106 + 1)) + 1))).bind fun t113 => (if t113 < 0 then (some (-1)) else (if e93.Ak = t113 then (if e93.Ah = w64 (t113 + 1) then ((Ey.f K e93.Af (w64 ((w64 (t113 + 1)) + 1))).bind fun t120 => (if t120 < 0 then (some (-1)) else ((Dh.f K e93.Ai t120).bind fun t125 => (if t125 < 0 then (some (-1)) else ((Dh.f K e93.Ag t125).bind fun t130 => (if t130 < 0 then (some (-1)) else (Dm.l1 K k t t130 (w64 (a1 + 1))))))))) else (some (-1))) else (some (-1))))) else (some (-1))) else (some (-1))))))) else (some (-1))) else (some (-1))))) else none) else (some b1)
def Dm.f (K : Nat) (t : List Am) (o : Int) : Option (Int) := Dm.l1 K K t o 0
abbrev Dm.post := Ht
def Et.l1 (K : Nat) : Nat → (List (List Am)) → Int → Int → Option (Int)
  | 0, _, _, _ => none
  | k + 1, a_, k_8, i_9 => if i_9 < (a_.length : Int) then (if 0 ≤ i_9 ∧ i_9 < (a_.length : Int) then ((Dm.f K (a_.getD i_9.toNat []) k_8).bind fun t19 => (if t19 < 0 then (some (-1)) else (Et.l1 K k a_ t19 (w64 (i_9 + 1))))) else none) else (some k_8)
def Et.f (K : Nat) (a_ : List (List Am)) (k_ : Int) : Option (Int) := Et.l1 K K a_ k_ 0
abbrev Et.post := Ht
def I7.f (K : Nat) (c1 : List Am) (b1 : List (List Am)) (a1 : List (List Am)) (k_ : Int) : Option (Int) := (Dm.f K c1 k_).bind fun t3 => (if t3 < 0 then (some (-1)) else ((Et.f K b1 t3).bind fun t8 => (if t8 < 0 then (some (-1)) else ((Et.f K a1 t8).bind fun t13 => (if t13 < 0 then (some (-1)) else (some t13))))))
abbrev I7.post := Ht
def H6.f (K : Nat) (d1 : List Am) (o1 : List (List Am)) (n1 : List (List Am)) (q1 : ByteArray) (p1 : Int) (a1 : List (List Bt)) (h1 : List Al) (e1 : Int) (m1 : Int) (c1 : List Int) (f1 : Int) (i1 : Int) (k1 : List Ci) (g1 : List Int) (b1 : List Int) : Option (Bool) := (Ku.f K d1 o1 n1 1048576).bind fun t5 => (if t5 < 0 then (some true) else ((Kb.f K q1 p1 a1 h1 e1 m1 c1 f1 i1 k1 g1 b1 t5).bind fun t10 => (if t10 < 0 then (some true) else (M8 (H9.f K d1 o1 n1) (fun t15 t16 t17 => (Hf (Gy.f K q1 p1 a1 h1 e1 m1 c1 f1 i1 k1 g1 b1) (fun t30 t31 t32 t33 t34 t35 t36 t37 t38 t39 t40 t41 => (M9 (Be.f K t15 t16 t17 t30 t31 t32 t33 t34 t35 t36 t37 t38 t39 t40 t41) (fun t58 t59 t60 t61 => (M8 (H9.f K d1 o1 n1) (fun t77 t78 t79 => (Hf (Gy.f K q1 p1 a1 h1 e1 m1 c1 f1 i1 k1 g1 b1) (fun t95 t96 t97 t98 t99 t100 t101 t102 t103 t104 t105 t106 => (M9 (Cw.f K t77 t78 t79 t95 t96 t97 t98 t99 t100 t101 t102 t103 t104 t105 t106) (fun t126 t127 t128 t129 => ((Gq.f K t126 t127 t128 t58 t59 t60).bind fun t150 => (if t150 = true then (if t129 = t61 then (M8 (H9.f K d1 o1 n1) (fun t156 t157 t158 => ((Gq.f K t77 t78 t79 t156 t157 t158).bind fun t171 => (if t171 = true then (Hf (Gy.f K q1 p1 a1 h1 e1 m1 c1 f1 i1 k1 g1 b1) (fun t176 t177 t178 t179 t180 t181 t182 t183 t184 t185 t186 t187 => ((Ka.f K t95 t96 t97 t98 t99 t100 t101 t102 t103 t104 t105 t106 t176 t177 t178 t179 t180 t181 t182 t183 t184 t185 t186 t187).bind fun t204 => (if t204 = true then (M9 (Jc.f K t77 t78 t79 1) (fun t209 t210 t211 t212 => (if t210.length = t77.length then (if t211.length = t78.length then (if t212.length = t79.length then (Yx (J3.f K t95 t96 t97 t98 t99 t100 t101 t102 t103 t104 t105 t106 t209) (fun t219 t220 t221 t222 t223 t224 t225 => (if t220.length = t97.length then (if t221.length = t98.length then (if t222.length = t101.length then (if t223.length = t104.length then (if t224.length = t105.length then (if t225.length = t106.length then (if t219 < 0 then (some false) else ((Gq.f K t126 t127 t128 t58 t59 t60).bind fun t242 => (if t242 = true then (M9 (Jc.f K t126 t127 t128 1) (fun t247 t248 t249 t250 => (if t248.length = t126.length then (if t249.length = t127.length then (if t250.length = t128.length then ((I7.f K t248 t249 t250 1).bind fun t257 => (if t257 < 0 then (some false) else (if t257 = t247 then (M8 (H9.f K d1 o1 n1) (fun t263 t264 t265 => (Hf (Gy.f K q1 p1 a1 h1 e1 m1 c1 f1 i1 k1 g1 b1) (fun t278 t279 t280 t281 t282 t283 t284 t285 t286 t287 t288 t289 => (M9 (Cw.f K t263 t264 t265 t278 t279 t280 t281 t282 t283 t284 t285 t286 t287 t288 t289) (fun t306 t307 t308 t309 => ((Gq.f K t306 t307 t308 t58 t59 t60).bind fun t330 => (if t330 = true then (if t309 = t61 then ((I7.f K t248 t249 t250 1).bind fun t336 => (if t336 < 0 then (some false) else (if t336 = t247 then (some true) else (some false)))) else (some false)) else (some false))))))))) else (some false)))) else none) else none) else none))) else (some false)))) else none) else none) else none) else none) else none) else none))) else none) else none) else none))) else (some false))))) else (some false))))) else (some false)) else (some false))))))))))))))))))
abbrev H6.post := F4
end Go.Proofs.YtkmeepgpmppibaaGreatDoor
