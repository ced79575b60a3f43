/-
  What the functions compute, as functions of lists.
-/
import Derived.Test.YtdafmbaeiefacaaSlI
set_option linter.unusedVariables false
set_option linter.unusedSimpArgs false
namespace Go.Proofs.Ytdafmbaeiefacaa
open Go.RowKit
structure GCrossing where
  A : Int
  B : Int
  C : Int
  D : Int
  Sign : Int
  deriving DecidableEq
def z_GCrossing : GCrossing := ⟨0, 0, 0, 0, 0⟩
def T_GCrossing : Ty GCrossing := Ty.flat 5 (fun x => [.int .i64 x.A, .int .i64 x.B, .int .i64 x.C, .int .i64 x.D, .int .i64 x.Sign]) (fun _ => rfl) (fun x u h => by simp only [List.mem_cons, List.not_mem_nil, or_false] at h; rcases h with rfl | rfl | rfl | rfl | rfl <;> rfl)
structure GEnd where
  crossing : Int
  position : Int
  deriving DecidableEq
def z_GEnd : GEnd := ⟨0, 0⟩
def T_GEnd : Ty GEnd := Ty.flat 2 (fun x => [.int .i64 x.crossing, .int .i64 x.position]) (fun _ => rfl) (fun x u h => by simp only [List.mem_cons, List.not_mem_nil, or_false] at h; rcases h with rfl | rfl <;> rfl)
def laws_szCrossingS.f (a_ : List GCrossing) (left : Int) : Option (Int) := if w64 (left - (a_.length : Int)) < 0 then (some (-1)) else (some (w64 (left - (a_.length : Int))))
abbrev laws_szCrossingS.post (w0 : World) (L : List HObj) (a_ : List GCrossing) (left : Int) (A_a_ : Option Addr) (c_a_ : Nat) (r1 : Int) (en : Ending) (w : World) : Prop := en = .returned (.int .i64 r1) ∧ St w0 w (L)

def laws_szDiagram.f (a_Crossings : List GCrossing) (a_Circles : Int) (left : Int) : Option (Int) := (laws_szCrossingS.f a_Crossings left).bind fun t3 => (if t3 < 0 then (some (-1)) else (some t3))
abbrev laws_szDiagram.post (w0 : World) (L : List HObj) (a_Crossings : List GCrossing) (a_Circles : Int) (left : Int) (A_a_Crossings : Option Addr) (c_a_Crossings : Nat) (r1 : Int) (en : Ending) (w : World) : Prop := en = .returned (.int .i64 r1) ∧ St w0 w (L)

def laws_toCrossing.f (a_A : Int) (a_B : Int) (a_C : Int) (a_D : Int) (a_Sign : Int) : Option (Int × Int × Int × Int × Int) := some (a_A, a_B, a_C, a_D, a_Sign)
abbrev laws_toCrossing.post (w0 : World) (L : List HObj) (a_A : Int) (a_B : Int) (a_C : Int) (a_D : Int) (a_Sign : Int) (r1 : Int) (r2 : Int) (r3 : Int) (r4 : Int) (r5 : Int) (en : Ending) (w : World) : Prop := en = .returned (.agg [.int .i64 r1, .int .i64 r2, .int .i64 r3, .int .i64 r4, .int .i64 r5].toArray) ∧ St w0 w (L)

def laws_toCrossingS.l1 (K : Nat) : Nat → (List GCrossing) → (List GCrossing) → Int → Option (List GCrossing)
  | 0, _, _, _ => none
  | k + 1, a_, out_19, i_20 => if i_20 < (a_.length : Int) then (if 0 ≤ i_20 ∧ i_20 < (a_.length : Int) then (bnd (a_.getD i_20.toNat z_GCrossing) (fun e37 => bind5 (laws_toCrossing.f e37.A e37.B e37.C e37.D e37.Sign) (fun t39 t40 t41 t42 t43 => (if 0 ≤ i_20 ∧ i_20 < (out_19.length : Int) then (laws_toCrossingS.l1 K k a_ (out_19.set i_20.toNat (⟨t39, t40, t41, t42, t43⟩ : GCrossing)) (w64 (i_20 + 1))) else none)))) else none) else (some out_19)
def laws_toCrossingS.f (K : Nat) (a_ : List GCrossing) : Option (List GCrossing) := if 0 ≤ (a_.length : Int) then (if (a_.length : Int).toNat * 40 ≤ 281474976710656 then (laws_toCrossingS.l1 K K a_ (List.replicate (a_.length : Int).toNat z_GCrossing) 0) else none) else none
abbrev laws_toCrossingS.post (w0 : World) (L : List HObj) (a_ : List GCrossing) (A_a_ : Option Addr) (c_a_ : Nat) (r1 : List GCrossing) (en : Ending) (w : World) : Prop := ∃ (A_r0 : Option Addr) (c_r1 : Nat), en = .returned (.slice A_r0 r1.length c_r1) ∧ St w0 w (Own T_GCrossing 58 A_r0 c_r1 (fun _ => ()) r1 :: L)

def laws_toDiagram.f (K : Nat) (a_Crossings : List GCrossing) (a_Circles : Int) : Option ((List GCrossing) × Int) := (laws_toCrossingS.f K a_Crossings).bind fun t7 => (some (t7, a_Circles))
abbrev laws_toDiagram.post (w0 : World) (L : List HObj) (a_Crossings : List GCrossing) (a_Circles : Int) (A_a_Crossings : Option Addr) (c_a_Crossings : Nat) (r1 : List GCrossing) (r2 : Int) (en : Ending) (w : World) : Prop := ∃ (A_r0 : Option Addr) (c_r1 : Nat), en = .returned (.agg [.slice A_r0 r1.length c_r1, .int .i64 r2].toArray) ∧ St w0 w (Own T_GCrossing 58 A_r0 c_r1 (fun _ => ()) r1 :: L)

def spec_l01In.f (n_ : Int) (low : Int) (high : Int) : Option (Bool) := if low ≤ n_ then (some (decide (n_ ≤ high))) else (some false)
abbrev spec_l01In.post (w0 : World) (L : List HObj) (n_ : Int) (low : Int) (high : Int) (r1 : Bool) (en : Ending) (w : World) : Prop := en = .returned (.bool r1) ∧ St w0 w (L)

def spec_l25End.f (x_A : Int) (x_B : Int) (x_C : Int) (x_D : Int) (x_Sign : Int) (p : Int) : Option (Int) := if 0 ≤ p ∧ p < (([x_A, x_B, x_C, x_D] : List Int).length : Int) then (some (([x_A, x_B, x_C, x_D] : List Int).getD p.toNat 0)) else none
abbrev spec_l25End.post (w0 : World) (L : List HObj) (x_A : Int) (x_B : Int) (x_C : Int) (x_D : Int) (x_Sign : Int) (p : Int) (r1 : Int) (en : Ending) (w : World) : Prop := en = .returned (.int .i64 r1) ∧ St w0 w (L)

def spec_l25Enters.f (x_A : Int) (x_B : Int) (x_C : Int) (x_D : Int) (x_Sign : Int) (p : Int) : Option (Bool) := if p = 0 then (some true) else (if p = 3 then (if x_Sign = 1 then (some true) else (if p = 1 then (some (decide (x_Sign = (-1)))) else (some false))) else (if p = 1 then (some (decide (x_Sign = (-1)))) else (some false)))
abbrev spec_l25Enters.post (w0 : World) (L : List HObj) (x_A : Int) (x_B : Int) (x_C : Int) (x_D : Int) (x_Sign : Int) (p : Int) (r1 : Bool) (en : Ending) (w : World) : Prop := en = .returned (.bool r1) ∧ St w0 w (L)

mutual
def spec_l25Counts.l1 (K : Nat) : Nat → (List GCrossing) → (List Bool) → (List Bool) → Int → Option (Bool)
  | 0, _, _, _, _ => none
  | k + 1, d_Crossings, in_94, out_95, c_96 => if c_96 < (d_Crossings.length : Int) then (if 0 ≤ c_96 ∧ c_96 < (d_Crossings.length : Int) then (bnd (d_Crossings.getD c_96.toNat z_GCrossing) (fun e185 => if e185.Sign = 1 then (spec_l25Counts.j12 K k d_Crossings in_94 out_95 c_96 e185 false) else (spec_l25Counts.j12 K k d_Crossings in_94 out_95 c_96 e185 (!(decide (e185.Sign = (-1))))))) else none) else (some true)
def spec_l25Counts.j12 (K : Nat) : Nat → (List GCrossing) → (List Bool) → (List Bool) → Int → GCrossing → Bool → Option (Bool)
  | 0, _, _, _, _, _, _ => none
  | k + 1, d_Crossings, in_94, out_95, c_96, e185, x192 => if x192 = true then (some false) else (spec_l25Counts.l13 K k d_Crossings c_96 e185 in_94 out_95 0)
def spec_l25Counts.l13 (K : Nat) : Nat → (List GCrossing) → Int → GCrossing → (List Bool) → (List Bool) → Int → Option (Bool)
  | 0, _, _, _, _, _, _ => none
  | k + 1, d_Crossings, c_96, e185, in_217, out_218, p_219 => if p_219 < 4 then ((spec_l25End.f e185.A e185.B e185.C e185.D e185.Sign p_219).bind fun t245 => ((spec_l01In.f t245 0 (w64 ((w64 (2 * (d_Crossings.length : Int))) - 1))).bind fun t249 => (if t249 = true then ((spec_l25Enters.f e185.A e185.B e185.C e185.D e185.Sign p_219).bind fun t254 => (if t254 = true then (if 0 ≤ t245 ∧ t245 < (in_217.length : Int) then (if (in_217.getD t245.toNat false) = true then (some false) else (spec_l25Counts.l13 K k d_Crossings c_96 e185 (in_217.set t245.toNat true) out_218 (w64 (p_219 + 1)))) else none) else (if 0 ≤ t245 ∧ t245 < (out_218.length : Int) then (if (out_218.getD t245.toNat false) = true then (some false) else (spec_l25Counts.l13 K k d_Crossings c_96 e185 in_217 (out_218.set t245.toNat true) (w64 (p_219 + 1)))) else none))) else (some false)))) else (spec_l25Counts.l1 K k d_Crossings in_217 out_218 (w64 (c_96 + 1)))
end
def spec_l25Counts.f (K : Nat) (d_Crossings : List GCrossing) (d_Circles : Int) : Option (Bool) := if 0 ≤ w64 (2 * (d_Crossings.length : Int)) then (if (w64 (2 * (d_Crossings.length : Int))).toNat * 1 ≤ 281474976710656 then (spec_l25Counts.l1 K K d_Crossings (List.replicate (w64 (2 * (d_Crossings.length : Int))).toNat false) (List.replicate (w64 (2 * (d_Crossings.length : Int))).toNat false) 0) else none) else none
abbrev spec_l25Counts.post (w0 : World) (L : List HObj) (d_Crossings : List GCrossing) (d_Circles : Int) (A_d_Crossings : Option Addr) (c_d_Crossings : Nat) (r1 : Bool) (en : Ending) (w : World) : Prop := en = .returned (.bool r1) ∧ St w0 w (L)

mutual
def spec_l25Place.l1 (K : Nat) : Nat → (List GCrossing) → Int → Bool → Int → Option (Int × Int)
  | 0, _, _, _, _ => none
  | k + 1, d_Crossings, a_, enters, c_82 => if c_82 < (d_Crossings.length : Int) then (spec_l25Place.l4 K k d_Crossings a_ enters c_82 0) else (some ((-1), (-1)))
def spec_l25Place.l4 (K : Nat) : Nat → (List GCrossing) → Int → Bool → Int → Int → Option (Int × Int)
  | 0, _, _, _, _, _ => none
  | k + 1, d_Crossings, a_, enters, c_82, p_188 => if p_188 < 4 then (if 0 ≤ c_82 ∧ c_82 < (d_Crossings.length : Int) then (bnd (d_Crossings.getD c_82.toNat z_GCrossing) (fun e229 => (spec_l25End.f e229.A e229.B e229.C e229.D e229.Sign p_188).bind fun t231 => (if t231 = a_ then ((spec_l25Enters.f e229.A e229.B e229.C e229.D e229.Sign p_188).bind fun t236 => (if (t236 == enters) = true then (some (c_82, p_188)) else (spec_l25Place.l4 K k d_Crossings a_ enters c_82 (w64 (p_188 + 1))))) else (spec_l25Place.l4 K k d_Crossings a_ enters c_82 (w64 (p_188 + 1)))))) else none) else (spec_l25Place.l1 K k d_Crossings a_ enters (w64 (c_82 + 1)))
end
def spec_l25Place.f (K : Nat) (d_Crossings : List GCrossing) (d_Circles : Int) (a_ : Int) (enters : Bool) : Option (Int × Int) := spec_l25Place.l1 K K d_Crossings a_ enters 0
abbrev spec_l25Place.post (w0 : World) (L : List HObj) (d_Crossings : List GCrossing) (d_Circles : Int) (a_ : Int) (enters : Bool) (A_d_Crossings : Option Addr) (c_d_Crossings : Nat) (r1 : Int) (r2 : Int) (en : Ending) (w : World) : Prop := en = .returned (.tuple #[.int .i64 r1, .int .i64 r2]) ∧ St w0 w (L)

def spec_l25Successor.f (K : Nat) (d_Crossings : List GCrossing) (d_Circles : Int) (corner : Int) : Option (Int) := if 0 ≤ w64 (corner.tdiv 4) ∧ w64 (corner.tdiv 4) < (d_Crossings.length : Int) then (bnd (d_Crossings.getD ((w64 (corner.tdiv 4)).toNat) z_GCrossing) (fun e4 => (spec_l25End.f e4.A e4.B e4.C e4.D e4.Sign ((w64 ((corner.tmod 4) + 1)).tmod 4)).bind fun t9 => ((spec_l25Enters.f e4.A e4.B e4.C e4.D e4.Sign ((w64 ((corner.tmod 4) + 1)).tmod 4)).bind fun t13 => (bind2 (spec_l25Place.f K d_Crossings d_Circles t9 (!t13)) (fun t17 t18 => (some (w64 ((w64 (4 * t17)) + t18)))))))) else none
abbrev spec_l25Successor.post (w0 : World) (L : List HObj) (d_Crossings : List GCrossing) (d_Circles : Int) (corner : Int) (A_d_Crossings : Option Addr) (c_d_Crossings : Nat) (r1 : Int) (en : Ending) (w : World) : Prop := en = .returned (.int .i64 r1) ∧ St w0 w (L)

mutual
def spec_l25Regions.l1 (K : Nat) : Nat → (List GCrossing) → Int → (List (List Int)) → (List Bool) → Int → Option (List (List Int))
  | 0, _, _, _, _, _ => none
  | k + 1, d_Crossings, d_Circles, out_72, done_74, k_75 => if k_75 < (done_74.length : Int) then (if 0 ≤ k_75 ∧ k_75 < (done_74.length : Int) then (if (done_74.getD k_75.toNat false) = true then (spec_l25Regions.l1 K k d_Crossings d_Circles out_72 done_74 (w64 (k_75 + 1))) else (spec_l25Regions.l4 K k d_Crossings d_Circles out_72 k_75 done_74 ([] : List Int) k_75)) else none) else (some out_72)
def spec_l25Regions.l4 (K : Nat) : Nat → (List GCrossing) → Int → (List (List Int)) → Int → (List Bool) → (List Int) → Int → Option (List (List Int))
  | 0, _, _, _, _, _, _, _ => none
  | k + 1, d_Crossings, d_Circles, out_72, k_75, done_153, region_156, at_157 => if 0 ≤ at_157 ∧ at_157 < (done_153.length : Int) then (if (done_153.getD at_157.toNat false) = true then (if (out_72.length + 1) * 24 ≤ 140737488355328 then (spec_l25Regions.l1 K k d_Crossings d_Circles (out_72 ++ [region_156]) done_153 (w64 (k_75 + 1))) else none) else (if (region_156.length + 1) * 8 ≤ 140737488355328 then ((spec_l25Successor.f K d_Crossings d_Circles at_157).bind fun t194 => (spec_l25Regions.l4 K k d_Crossings d_Circles out_72 k_75 (done_153.set at_157.toNat true) (region_156 ++ [at_157]) t194)) else none)) else none
end
def spec_l25Regions.f (K : Nat) (d_Crossings : List GCrossing) (d_Circles : Int) : Option (List (List Int)) := if 0 ≤ w64 (4 * (d_Crossings.length : Int)) then (if (w64 (4 * (d_Crossings.length : Int))).toNat * 1 ≤ 281474976710656 then (spec_l25Regions.l1 K K d_Crossings d_Circles ([] : List (List Int)) (List.replicate (w64 (4 * (d_Crossings.length : Int))).toNat false) 0) else none) else none
abbrev spec_l25Regions.post (w0 : World) (L : List HObj) (d_Crossings : List GCrossing) (d_Circles : Int) (A_d_Crossings : Option Addr) (c_d_Crossings : Nat) (r1 : List (List Int)) (en : Ending) (w : World) : Prop := ∃ (A_r0 : Option Addr) (c_r1 : Nat) (y_r2 : Nat → (Ty.slice 2 (TInt .i64)).Lay), en = .returned (.slice A_r0 r1.length c_r1) ∧ St w0 w (Own (Ty.slice 2 (TInt .i64)) 43 A_r0 c_r1 y_r2 r1 :: L)

mutual
def spec_l25Parts.l1 (K : Nat) : Nat → (List GCrossing) → Int → (List Int) → Int → Option (List Int)
  | 0, _, _, _, _ => none
  | k + 1, d_Crossings, d_Circles, out_103, c_104 => if c_104 < (d_Crossings.length : Int) then (if (out_103.length + 1) * 8 ≤ 140737488355328 then (spec_l25Parts.l1 K k d_Crossings d_Circles (out_103 ++ [c_104]) (w64 (c_104 + 1))) else none) else (spec_l25Parts.l10 K k d_Crossings d_Circles out_103 0)
def spec_l25Parts.l10 (K : Nat) : Nat → (List GCrossing) → Int → (List Int) → Int → Option (List Int)
  | 0, _, _, _, _ => none
  | k + 1, d_Crossings, d_Circles, out_237, a_238 => if a_238 < w64 (2 * (d_Crossings.length : Int)) then (bind2 (spec_l25Place.f K d_Crossings d_Circles a_238 true) (fun t269 t270 => (bind2 (spec_l25Place.f K d_Crossings d_Circles a_238 false) (fun t274 t275 => (if 0 ≤ t269 ∧ t269 < (out_237.length : Int) then (if 0 ≤ t274 ∧ t274 < (out_237.length : Int) then (spec_l25Parts.l13 K k d_Crossings d_Circles out_237 a_238 t269 t274 out_237 0) else none) else none))))) else (some out_237)
def spec_l25Parts.l13 (K : Nat) : Nat → (List GCrossing) → Int → (List Int) → Int → Int → Int → (List Int) → Int → Option (List Int)
  | 0, _, _, _, _, _, _, _, _ => none
  | k + 1, d_Crossings, d_Circles, out_237, a_238, t269, t274, out_287, k_288 => if k_288 < (out_287.length : Int) then (if 0 ≤ k_288 ∧ k_288 < (out_287.length : Int) then (if out_287.getD k_288.toNat 0 = if out_237.getD t274.toNat 0 > out_237.getD t269.toNat 0 then out_237.getD t274.toNat 0 else out_237.getD t269.toNat 0 then (spec_l25Parts.l13 K k d_Crossings d_Circles out_237 a_238 t269 t274 (out_287.set k_288.toNat (if out_237.getD t274.toNat 0 < out_237.getD t269.toNat 0 then out_237.getD t274.toNat 0 else out_237.getD t269.toNat 0)) (w64 (k_288 + 1))) else (spec_l25Parts.l13 K k d_Crossings d_Circles out_237 a_238 t269 t274 out_287 (w64 (k_288 + 1)))) else none) else (spec_l25Parts.l10 K k d_Crossings d_Circles out_287 (w64 (a_238 + 1)))
end
def spec_l25Parts.f (K : Nat) (d_Crossings : List GCrossing) (d_Circles : Int) : Option (List Int) := spec_l25Parts.l1 K K d_Crossings d_Circles ([] : List Int) 0
abbrev spec_l25Parts.post (w0 : World) (L : List HObj) (d_Crossings : List GCrossing) (d_Circles : Int) (A_d_Crossings : Option Addr) (c_d_Crossings : Nat) (r1 : List Int) (en : Ending) (w : World) : Prop := ∃ (A_r0 : Option Addr) (c_r1 : Nat), en = .returned (.slice A_r0 r1.length c_r1) ∧ St w0 w (Own (TInt .i64) 2 A_r0 c_r1 (fun _ => ()) r1 :: L)

def spec_l25PartCount.l1 (K : Nat) : Nat → (List Int) → Int → Int → Option (Int)
  | 0, _, _, _ => none
  | k + 1, t3, n_12, i_13 => if i_13 < (t3.length : Int) then (if 0 ≤ i_13 ∧ i_13 < (t3.length : Int) then (if t3.getD i_13.toNat 0 = i_13 then (spec_l25PartCount.l1 K k t3 (w64 (n_12 + 1)) (w64 (i_13 + 1))) else (spec_l25PartCount.l1 K k t3 n_12 (w64 (i_13 + 1)))) else none) else (some n_12)
def spec_l25PartCount.f (K : Nat) (d_Crossings : List GCrossing) (d_Circles : Int) : Option (Int) := (spec_l25Parts.f K d_Crossings d_Circles).bind fun t3 => (spec_l25PartCount.l1 K K t3 0 0)
abbrev spec_l25PartCount.post (w0 : World) (L : List HObj) (d_Crossings : List GCrossing) (d_Circles : Int) (A_d_Crossings : Option Addr) (c_d_Crossings : Nat) (r1 : Int) (en : Ending) (w : World) : Prop := en = .returned (.int .i64 r1) ∧ St w0 w (L)

def spec_IsDiagram.f (K : Nat) (d_Crossings : List GCrossing) (d_Circles : Int) : Option (Bool) := if 10 < (d_Crossings.length : Int) then (some false) else ((spec_l01In.f d_Circles 0 8).bind fun t14 => (if t14 = true then ((spec_l25Counts.f K d_Crossings d_Circles).bind fun t19 => (if t19 = true then ((spec_l25Regions.f K d_Crossings d_Circles).bind fun t24 => ((spec_l25PartCount.f K d_Crossings d_Circles).bind fun t31 => (some (decide ((t24.length : Int) = w64 ((d_Crossings.length : Int) + (w64 (2 * t31)))))))) else (some false))) else (some false)))
abbrev spec_IsDiagram.post (w0 : World) (L : List HObj) (d_Crossings : List GCrossing) (d_Circles : Int) (A_d_Crossings : Option Addr) (c_d_Crossings : Nat) (r1 : Bool) (en : Ending) (w : World) : Prop := en = .returned (.bool r1) ∧ St w0 w (L)

def spec_l25Next.f (K : Nat) (d_Crossings : List GCrossing) (d_Circles : Int) (a_ : Int) : Option (Int) := bind2 (spec_l25Place.f K d_Crossings d_Circles a_ true) (fun t3 t4 => (if 0 ≤ t3 ∧ t3 < (d_Crossings.length : Int) then (bnd (d_Crossings.getD t3.toNat z_GCrossing) (fun e9 => (spec_l25End.f e9.A e9.B e9.C e9.D e9.Sign ((w64 (t4 + 2)).tmod 4)).bind fun t11 => (some t11))) else none))
abbrev spec_l25Next.post (w0 : World) (L : List HObj) (d_Crossings : List GCrossing) (d_Circles : Int) (a_ : Int) (A_d_Crossings : Option Addr) (c_d_Crossings : Nat) (r1 : Int) (en : Ending) (w : World) : Prop := en = .returned (.int .i64 r1) ∧ St w0 w (L)

mutual
def spec_l28Unite.l1 (K : Nat) : Nat → (List GCrossing) → Int → (List Bool) → (List Int) → (List Int) → (List Bool) → Int → Int → Option ((List GCrossing) × Int)
  | 0, _, _, _, _, _, _, _, _ => none
  | k + 1, t_Crossings, t_Circles, o, A, x220, x221, x222, x223 => if x223 < w64 (2 * (t_Crossings.length : Int)) then (bind2 (spec_l25Place.f K t_Crossings t_Circles x223 false) (fun t560 t561 => (if 0 ≤ t560 ∧ t560 < (o.length : Int) then (if (o.getD t560.toNat false) = true then (spec_l28Unite.l1 K k t_Crossings t_Circles o A x220 x221 x222 (w64 (x223 + 1))) else (spec_l28Unite.l14 K k t_Crossings t_Circles o A x222 x223 x220 x221 x223)) else none))) else (spec_l28Unite.l15 K k t_Crossings o A x220 t_Circles x221 0)
def spec_l28Unite.l14 (K : Nat) : Nat → (List GCrossing) → Int → (List Bool) → (List Int) → Int → Int → (List Int) → (List Bool) → Int → Option ((List GCrossing) × Int)
  | 0, _, _, _, _, _, _, _, _, _ => none
  | k + 1, t_Crossings, t_Circles, o, A, x222, x223, x579, x580, x581 => if 0 ≤ x581 ∧ x581 < (x580.length : Int) then (if 0 ≤ x581 ∧ x581 < (x579.length : Int) then (bind2 (spec_l25Place.f K t_Crossings t_Circles x581 true) (fun t598 t599 => (if 0 ≤ t598 ∧ t598 < (o.length : Int) then (if (o.getD t598.toNat false) = true then (if 0 ≤ x581 ∧ x581 < (A.length : Int) then (spec_l28Unite.l14 K k t_Crossings t_Circles o A x222 x223 (x579.set x581.toNat x222) (x580.set x581.toNat true) (A.getD x581.toNat 0)) else none) else (spec_l28Unite.l1 K k t_Crossings t_Circles o A (x579.set x581.toNat x222) (x580.set x581.toNat true) (w64 (x222 + 1)) (w64 (x223 + 1)))) else none))) else none) else none
def spec_l28Unite.l15 (K : Nat) : Nat → (List GCrossing) → (List Bool) → (List Int) → (List Int) → Int → (List Bool) → Int → Option ((List GCrossing) × Int)
  | 0, _, _, _, _, _, _, _ => none
  | k + 1, t_Crossings, o, A, x220, x701, x702, x703 => if x703 < w64 (2 * (t_Crossings.length : Int)) then (if 0 ≤ x703 ∧ x703 < (x702.length : Int) then (if (x702.getD x703.toNat false) = true then (spec_l28Unite.l15 K k t_Crossings o A x220 x701 x702 (w64 (x703 + 1))) else (spec_l28Unite.l20 K k t_Crossings o A x220 x701 x703 x702 x703)) else none) else (spec_l28Unite.l21 K k t_Crossings o x220 x701 ([] : List GCrossing) 0)
def spec_l28Unite.l20 (K : Nat) : Nat → (List GCrossing) → (List Bool) → (List Int) → (List Int) → Int → Int → (List Bool) → Int → Option ((List GCrossing) × Int)
  | 0, _, _, _, _, _, _, _, _ => none
  | k + 1, t_Crossings, o, A, x220, x701, x703, x805, x806 => if 0 ≤ x806 ∧ x806 < (x805.length : Int) then (if (x805.getD x806.toNat false) = true then (spec_l28Unite.l15 K k t_Crossings o A x220 (w64 (x701 + 1)) x805 (w64 (x703 + 1))) else (if 0 ≤ x806 ∧ x806 < (A.length : Int) then (spec_l28Unite.l20 K k t_Crossings o A x220 x701 x703 (x805.set x806.toNat true) (A.getD x806.toNat 0)) else none)) else none
def spec_l28Unite.l21 (K : Nat) : Nat → (List GCrossing) → (List Bool) → (List Int) → Int → (List GCrossing) → Int → Option ((List GCrossing) × Int)
  | 0, _, _, _, _, _, _ => none
  | k + 1, t_Crossings, o, x220, x701, x842, x843 => if x843 < (t_Crossings.length : Int) then (if 0 ≤ x843 ∧ x843 < (t_Crossings.length : Int) then (bnd (t_Crossings.getD x843.toNat z_GCrossing) (fun e871 => if 0 ≤ x843 ∧ x843 < (o.length : Int) then (if (o.getD x843.toNat false) = true then (spec_l28Unite.l21 K k t_Crossings o x220 x701 x842 (w64 (x843 + 1))) else (if 0 ≤ e871.A ∧ e871.A < (x220.length : Int) then (if 0 ≤ e871.B ∧ e871.B < (x220.length : Int) then (if 0 ≤ e871.C ∧ e871.C < (x220.length : Int) then (if 0 ≤ e871.D ∧ e871.D < (x220.length : Int) then (if (x842.length + 1) * 40 ≤ 140737488355328 then (spec_l28Unite.l21 K k t_Crossings o x220 x701 (x842 ++ [(⟨x220.getD e871.A.toNat 0, x220.getD e871.B.toNat 0, x220.getD e871.C.toNat 0, x220.getD e871.D.toNat 0, e871.Sign⟩ : GCrossing)]) (w64 (x843 + 1))) else none) else none) else none) else none) else none)) else none)) else none) else (some (x842, x701))
end
def spec_l28Unite.f (K : Nat) (t_Crossings : List GCrossing) (t_Circles : Int) (o : List Bool) (A : List Int) : Option ((List GCrossing) × Int) := if 0 ≤ w64 (2 * (t_Crossings.length : Int)) then (if (w64 (2 * (t_Crossings.length : Int))).toNat * 8 ≤ 281474976710656 then (if (w64 (2 * (t_Crossings.length : Int))).toNat * 1 ≤ 281474976710656 then (spec_l28Unite.l1 K K t_Crossings t_Circles o A (List.replicate (w64 (2 * (t_Crossings.length : Int))).toNat (0 : Int)) (List.replicate (w64 (2 * (t_Crossings.length : Int))).toNat false) 0 0) else none) else none) else none
abbrev spec_l28Unite.post (w0 : World) (L : List HObj) (t_Crossings : List GCrossing) (t_Circles : Int) (o : List Bool) (A : List Int) (A_t_Crossings : Option Addr) (c_t_Crossings : Nat) (A_o : Option Addr) (c_o : Nat) (A_A : Option Addr) (c_A : Nat) (r1 : List GCrossing) (r2 : Int) (en : Ending) (w : World) : Prop := ∃ (A_r0 : Option Addr) (c_r1 : Nat), en = .returned (.agg [.slice A_r0 r1.length c_r1, .int .i64 r2].toArray) ∧ St w0 w (Own T_GCrossing 58 A_r0 c_r1 (fun _ => ()) r1 :: L)

def spec_l27Remove.l1 (K : Nat) : Nat → (List GCrossing) → Int → (List Bool) → (List Int) → Int → Option ((List GCrossing) × Int × Int)
  | 0, _, _, _, _, _ => none
  | k + 1, d_Crossings, d_Circles, gone, next_33, a_34 => if a_34 < w64 (2 * (d_Crossings.length : Int)) then ((spec_l25Next.f K d_Crossings d_Circles a_34).bind fun t60 => (if (next_33.length + 1) * 8 ≤ 140737488355328 then (spec_l27Remove.l1 K k d_Crossings d_Circles gone (next_33 ++ [t60]) (w64 (a_34 + 1))) else none)) else (bind2 (spec_l28Unite.f K d_Crossings d_Circles gone next_33) (fun t70 t71 => (if 8 < t71 then (some (([] : List GCrossing), 0, 3)) else (some (t70, t71, 0)))))
def spec_l27Remove.f (K : Nat) (d_Crossings : List GCrossing) (d_Circles : Int) (gone : List Bool) : Option ((List GCrossing) × Int × Int) := spec_l27Remove.l1 K K d_Crossings d_Circles gone ([] : List Int) 0
abbrev spec_l27Remove.post (w0 : World) (L : List HObj) (d_Crossings : List GCrossing) (d_Circles : Int) (gone : List Bool) (A_d_Crossings : Option Addr) (c_d_Crossings : Nat) (A_gone : Option Addr) (c_gone : Nat) (r1 : List GCrossing) (r2 : Int) (r3 : Int) (en : Ending) (w : World) : Prop := ∃ (A_r0 : Option Addr) (c_r1 : Nat), en = .returned (.tuple #[.agg [.slice A_r0 r1.length c_r1, .int .i64 r2].toArray, .int .i64 r3]) ∧ St w0 w (Own T_GCrossing 58 A_r0 c_r1 (fun _ => ()) r1 :: L)

def spec_RemoveKink.j1 (K : Nat) : Nat → (List GCrossing) → Int → Int → Bool → Option ((List GCrossing) × Int × Int)
  | 0, _, _, _, _ => none
  | k + 1, d_Crossings, d_Circles, c, x27 => if x27 = true then (some (([] : List GCrossing), 0, 5)) else (if 0 ≤ (d_Crossings.length : Int) then (if (d_Crossings.length : Int).toNat * 1 ≤ 281474976710656 then (if 0 ≤ c ∧ c < ((List.replicate (d_Crossings.length : Int).toNat false).length : Int) then (bind3 (spec_l27Remove.f K d_Crossings d_Circles ((List.replicate (d_Crossings.length : Int).toNat false).set c.toNat true)) (fun t36 t37 t38 => (some (t36, t37, t38)))) else none) else none) else none)
def spec_RemoveKink.f (K : Nat) (d_Crossings : List GCrossing) (d_Circles : Int) (c : Int) : Option ((List GCrossing) × Int × Int) := (spec_IsDiagram.f K d_Crossings d_Circles).bind fun t5 => (if t5 = true then ((spec_l01In.f c 0 (w64 ((d_Crossings.length : Int) - 1))).bind fun t10 => (if t10 = true then (if 0 ≤ c ∧ c < (d_Crossings.length : Int) then (bnd (d_Crossings.getD c.toNat z_GCrossing) (fun e16 => if e16.A = e16.B then (spec_RemoveKink.j1 K K d_Crossings d_Circles c false) else (if e16.B = e16.C then (spec_RemoveKink.j1 K K d_Crossings d_Circles c false) else (if e16.C = e16.D then (spec_RemoveKink.j1 K K d_Crossings d_Circles c false) else (spec_RemoveKink.j1 K K d_Crossings d_Circles c (!(decide (e16.D = e16.A)))))))) else none) else (some (([] : List GCrossing), 0, 4)))) else (some (([] : List GCrossing), 0, 1)))
abbrev spec_RemoveKink.post (w0 : World) (L : List HObj) (d_Crossings : List GCrossing) (d_Circles : Int) (c : Int) (A_d_Crossings : Option Addr) (c_d_Crossings : Nat) (r1 : List GCrossing) (r2 : Int) (r3 : Int) (en : Ending) (w : World) : Prop := ∃ (A_r0 : Option Addr) (c_r1 : Nat), en = .returned (.tuple #[.agg [.slice A_r0 r1.length c_r1, .int .i64 r2].toArray, .int .i64 r3]) ∧ St w0 w (Own T_GCrossing 58 A_r0 c_r1 (fun _ => ()) r1 :: L)

def impl_size_impl_Crossing.f (list : List GCrossing) : Option (Int) := some (list.length : Int)
abbrev impl_size_impl_Crossing.post (w0 : World) (L : List HObj) (list : List GCrossing) (A_list : Option Addr) (c_list : Nat) (r1 : Int) (en : Ending) (w : World) : Prop := en = .returned (.int .i64 r1) ∧ St w0 w (L)

def impl_inRange.f (x : Int) (low : Int) (high : Int) : Option (Bool) := if low ≤ x then (some (decide (x ≤ high))) else (some false)
abbrev impl_inRange.post (w0 : World) (L : List HObj) (x : Int) (low : Int) (high : Int) (r1 : Bool) (en : Ending) (w : World) : Prop := en = .returned (.bool r1) ∧ St w0 w (L)

def impl_Diagram_drawing_fn1.f (c_A : Int) (c_B : Int) (c_C : Int) (c_D : Int) (c_Sign : Int) : Option (Bool) := if c_Sign = 1 then (some false) else (some (!(decide (c_Sign = (-1)))))
abbrev impl_Diagram_drawing_fn1.post (w0 : World) (L : List HObj) (c_A : Int) (c_B : Int) (c_C : Int) (c_D : Int) (c_Sign : Int) (r1 : Bool) (en : Ending) (w : World) : Prop := en = .returned (.bool r1) ∧ St w0 w (L)

def slices_IndexFunc_impl_Crossing_impl_Crossing_109.l1 (K : Nat) : Nat → (List GCrossing) → Int → Option (Int)
  | 0, _, _ => none
  | k + 1, s, x10 => if x10 < (s.length : Int) then (if 0 ≤ x10 ∧ x10 < (s.length : Int) then (bnd (s.getD x10.toNat z_GCrossing) (fun e22 => (impl_Diagram_drawing_fn1.f e22.A e22.B e22.C e22.D e22.Sign).bind fun t24 => (if t24 = true then (some x10) else (slices_IndexFunc_impl_Crossing_impl_Crossing_109.l1 K k s (w64 (x10 + 1)))))) else none) else (some (-1))
def slices_IndexFunc_impl_Crossing_impl_Crossing_109.f (K : Nat) (s : List GCrossing) : Option (Int) := slices_IndexFunc_impl_Crossing_impl_Crossing_109.l1 K K s 0
abbrev slices_IndexFunc_impl_Crossing_impl_Crossing_109.post (w0 : World) (L : List HObj) (s : List GCrossing) (A_s : Option Addr) (c_s : Nat) (r1 : Int) (en : Ending) (w : World) : Prop := en = .returned (.int .i64 r1) ∧ St w0 w (L)

def slices_ContainsFunc_impl_Crossing_impl_Crossing_109.f (K : Nat) (s : List GCrossing) : Option (Bool) := (slices_IndexFunc_impl_Crossing_impl_Crossing_109.f K s).bind fun t1 => (some (decide (0 ≤ t1)))
abbrev slices_ContainsFunc_impl_Crossing_impl_Crossing_109.post (w0 : World) (L : List HObj) (s : List GCrossing) (A_s : Option Addr) (c_s : Nat) (r1 : Bool) (en : Ending) (w : World) : Prop := en = .returned (.bool r1) ∧ St w0 w (L)

def math_bits_Mul64.f (x : Int) (y : Int) : Option (Int × Int) := some (IntKind.wrap .u64 ((IntKind.wrap .u64 ((IntKind.wrap .u64 ((x / 2 ^ 32) * (y / 2 ^ 32))) + ((IntKind.wrap .u64 ((IntKind.wrap .u64 ((x / 2 ^ 32) * (Go.bits .and .u64 y 4294967295))) + ((IntKind.wrap .u64 ((Go.bits .and .u64 x 4294967295) * (Go.bits .and .u64 y 4294967295))) / 2 ^ 32))) / 2 ^ 32))) + ((IntKind.wrap .u64 ((Go.bits .and .u64 (IntKind.wrap .u64 ((IntKind.wrap .u64 ((x / 2 ^ 32) * (Go.bits .and .u64 y 4294967295))) + ((IntKind.wrap .u64 ((Go.bits .and .u64 x 4294967295) * (Go.bits .and .u64 y 4294967295))) / 2 ^ 32))) 4294967295) + (IntKind.wrap .u64 ((Go.bits .and .u64 x 4294967295) * (y / 2 ^ 32))))) / 2 ^ 32)), IntKind.wrap .u64 (x * y))
abbrev math_bits_Mul64.post (w0 : World) (L : List HObj) (x : Int) (y : Int) (r1 : Int) (r2 : Int) (en : Ending) (w : World) : Prop := en = .returned (.tuple #[.int .u64 r1, .int .u64 r2]) ∧ St w0 w (L)

def math_bits_Mul.f (x : Int) (y : Int) : Option (Int × Int) := bind2 (math_bits_Mul64.f x y) (fun t1 t2 => (some (t1, t2)))
abbrev math_bits_Mul.post (w0 : World) (L : List HObj) (x : Int) (y : Int) (r1 : Int) (r2 : Int) (en : Ending) (w : World) : Prop := en = .returned (.tuple #[.int .u64 r1, .int .u64 r2]) ∧ St w0 w (L)

mutual
def slices_Repeat_impl_end_impl_end.j2 (K : Nat) : Nat → (List GEnd) → Int → Bool → Option (List GEnd)
  | 0, _, _, _ => none
  | k + 1, x, t4, x10 => if x10 = true then (none) else (if 0 ≤ w64 (t4) then (if (w64 (t4)).toNat * 16 ≤ 281474976710656 then (slices_Repeat_impl_end_impl_end.l4 K k (over (List.replicate (w64 (t4)).toNat z_GEnd) 0 (x.take ((List.replicate (w64 (t4)).toNat z_GEnd).length))) (((x).take ((List.replicate (w64 (t4)).toNat z_GEnd).length)).length : Int)) else none) else none)
def slices_Repeat_impl_end_impl_end.l4 (K : Nat) : Nat → (List GEnd) → Int → Option (List GEnd)
  | 0, _, _ => none
  | k + 1, newslice_23, n_24 => if n_24 < (newslice_23.length : Int) then (if 0 ≤ n_24 ∧ n_24 ≤ (newslice_23.length : Int) then (slices_Repeat_impl_end_impl_end.l4 K k (over newslice_23 n_24.toNat (((newslice_23.take n_24.toNat).drop 0).take (((newslice_23.take newslice_23.length).drop n_24.toNat).length))) (w64 (n_24 + (((((newslice_23.take n_24.toNat).drop 0)).take (((newslice_23.take newslice_23.length).drop n_24.toNat).length)).length : Int)))) else none) else (some newslice_23)
end
def slices_Repeat_impl_end_impl_end.f (K : Nat) (x : List GEnd) (count : Int) : Option (List GEnd) := if count < 0 then (none) else (bind2 (math_bits_Mul.f (IntKind.wrap .u64 ((x.length : Int))) (IntKind.wrap .u64 (count))) (fun t3 t4 => (if 0 < t3 then (slices_Repeat_impl_end_impl_end.j2 K K x t4 true) else (slices_Repeat_impl_end_impl_end.j2 K K x t4 (decide (9223372036854775807 < t4))))))
abbrev slices_Repeat_impl_end_impl_end.post (w0 : World) (L : List HObj) (x : List GEnd) (count : Int) (A_x : Option Addr) (c_x : Nat) (r1 : List GEnd) (en : Ending) (w : World) : Prop := ∃ (A_r0 : Option Addr) (c_r1 : Nat), en = .returned (.slice A_r0 r1.length c_r1) ∧ St w0 w (Own T_GEnd 68 A_r0 c_r1 (fun _ => ()) r1 :: L)

def impl_Crossing_ends.f (c_A : Int) (c_B : Int) (c_C : Int) (c_D : Int) (c_Sign : Int) : Option (Int × Int × Int × Int) := some (c_A, c_B, c_C, c_D)
abbrev impl_Crossing_ends.post (w0 : World) (L : List HObj) (c_A : Int) (c_B : Int) (c_C : Int) (c_D : Int) (c_Sign : Int) (r1 : Int) (r2 : Int) (r3 : Int) (r4 : Int) (en : Ending) (w : World) : Prop := en = .returned (.agg [.int .i64 r1, .int .i64 r2, .int .i64 r3, .int .i64 r4].toArray) ∧ St w0 w (L)

def impl_Crossing_enters.f (c_A : Int) (c_B : Int) (c_C : Int) (c_D : Int) (c_Sign : Int) (p : Int) : Option (Bool) := if p = 0 then (some true) else (some (decide (p = w64 (2 + c_Sign))))
abbrev impl_Crossing_enters.post (w0 : World) (L : List HObj) (c_A : Int) (c_B : Int) (c_C : Int) (c_D : Int) (c_Sign : Int) (p : Int) (r1 : Bool) (en : Ending) (w : World) : Prop := en = .returned (.bool r1) ∧ St w0 w (L)

def impl_size_impl_end.f (list : List GEnd) : Option (Int) := some (list.length : Int)
abbrev impl_size_impl_end.post (w0 : World) (L : List HObj) (list : List GEnd) (A_list : Option Addr) (c_list : Nat) (r1 : Int) (en : Ending) (w : World) : Prop := en = .returned (.int .i64 r1) ∧ St w0 w (L)

def impl_hasIndex_impl_end.f (list : List GEnd) (i : Int) : Option (Bool) := (impl_size_impl_end.f list).bind fun t1 => ((impl_inRange.f i 0 (w64 (t1 - 1))).bind fun t5 => (some t5))
abbrev impl_hasIndex_impl_end.post (w0 : World) (L : List HObj) (list : List GEnd) (i : Int) (A_list : Option Addr) (c_list : Nat) (r1 : Bool) (en : Ending) (w : World) : Prop := en = .returned (.bool r1) ∧ St w0 w (L)

mutual
def impl_Diagram_arrows.l1 (K : Nat) : Nat → (List GCrossing) → (List GEnd) → (List GEnd) → Int → Option ((List GEnd) × (List GEnd) × Bool)
  | 0, _, _, _, _ => none
  | k + 1, d_Crossings, a_193, a_194, x195 => if x195 < (d_Crossings.length : Int) then (if 0 ≤ x195 ∧ x195 < (d_Crossings.length : Int) then (bnd (d_Crossings.getD x195.toNat z_GCrossing) (fun e367 => bind4 (impl_Crossing_ends.f e367.A e367.B e367.C e367.D e367.Sign) (fun t372 t373 t374 t375 => (impl_Diagram_arrows.l10 K k d_Crossings x195 e367 t372 t373 t374 t375 a_193 a_194 0)))) else none) else (some (a_193, a_194, true))
def impl_Diagram_arrows.l10 (K : Nat) : Nat → (List GCrossing) → Int → GCrossing → Int → Int → Int → Int → (List GEnd) → (List GEnd) → Int → Option ((List GEnd) × (List GEnd) × Bool)
  | 0, _, _, _, _, _, _, _, _, _, _ => none
  | k + 1, d_Crossings, x195, e367, t372, t373, t374, t375, a_428, a_429, x430 => if x430 < 4 then (if 0 ≤ x430 ∧ x430 < 4 then ((impl_Crossing_enters.f e367.A e367.B e367.C e367.D e367.Sign x430).bind fun t484 => (if t484 = true then ((impl_hasIndex_impl_end.f a_429 (([t372, t373, t374, t375] : List Int).getD x430.toNat 0)).bind fun t501 => (if t501 = true then (if 0 ≤ ([t372, t373, t374, t375] : List Int).getD x430.toNat 0 ∧ ([t372, t373, t374, t375] : List Int).getD x430.toNat 0 < (a_429.length : Int) then (bnd (a_429.getD ((([t372, t373, t374, t375] : List Int).getD x430.toNat 0).toNat) z_GEnd) (fun e507 => if 0 ≤ e507.crossing then (some (a_428, a_429, false)) else (impl_Diagram_arrows.l10 K k d_Crossings x195 e367 t372 t373 t374 t375 a_428 (a_429.set ((([t372, t373, t374, t375] : List Int).getD x430.toNat 0).toNat) (⟨x195, x430⟩ : GEnd)) (w64 (x430 + 1))))) else none) else (some (a_428, a_429, false)))) else ((impl_hasIndex_impl_end.f a_428 (([t372, t373, t374, t375] : List Int).getD x430.toNat 0)).bind fun t521 => (if t521 = true then (if 0 ≤ ([t372, t373, t374, t375] : List Int).getD x430.toNat 0 ∧ ([t372, t373, t374, t375] : List Int).getD x430.toNat 0 < (a_428.length : Int) then (bnd (a_428.getD ((([t372, t373, t374, t375] : List Int).getD x430.toNat 0).toNat) z_GEnd) (fun e527 => if 0 ≤ e527.crossing then (some (a_428, a_429, false)) else (impl_Diagram_arrows.l10 K k d_Crossings x195 e367 t372 t373 t374 t375 (a_428.set ((([t372, t373, t374, t375] : List Int).getD x430.toNat 0).toNat) (⟨x195, x430⟩ : GEnd)) a_429 (w64 (x430 + 1))))) else none) else (some (a_428, a_429, false)))))) else none) else (impl_Diagram_arrows.l1 K k d_Crossings a_428 a_429 (w64 (x195 + 1)))
end
def impl_Diagram_arrows.f (K : Nat) (d_Crossings : List GCrossing) (d_Circles : Int) : Option ((List GEnd) × (List GEnd) × Bool) := (slices_Repeat_impl_end_impl_end.f K ([(⟨(-1), 0⟩ : GEnd)] : List GEnd) (w64 (2 * (d_Crossings.length : Int)))).bind fun t7 => ((slices_Repeat_impl_end_impl_end.f K ([(⟨(-1), 0⟩ : GEnd)] : List GEnd) (w64 (2 * (d_Crossings.length : Int)))).bind fun t15 => (impl_Diagram_arrows.l1 K K d_Crossings t7 t15 0))
abbrev impl_Diagram_arrows.post (w0 : World) (L : List HObj) (d_Crossings : List GCrossing) (d_Circles : Int) (A_d_Crossings : Option Addr) (c_d_Crossings : Nat) (r1 : List GEnd) (r2 : List GEnd) (r3 : Bool) (en : Ending) (w : World) : Prop := ∃ (A_r0 : Option Addr) (c_r1 : Nat) (A_r2 : Option Addr) (c_r3 : Nat), en = .returned (.tuple #[.agg [.slice A_r0 r1.length c_r1, .slice A_r2 r2.length c_r3].toArray, .bool r3]) ∧ St w0 w (Own T_GEnd 68 A_r0 c_r1 (fun _ => ()) r1 :: Own T_GEnd 68 A_r2 c_r3 (fun _ => ()) r2 :: L)

def impl_Diagram_other.f (d_Crossings : List GCrossing) (d_Circles : Int) (a_from : List GEnd) (a_to : List GEnd) (e_crossing : Int) (e_position : Int) : Option (Int × Int) := if 0 ≤ e_crossing ∧ e_crossing < (d_Crossings.length : Int) then (bnd (d_Crossings.getD e_crossing.toNat z_GCrossing) (fun e10 => bind4 (impl_Crossing_ends.f e10.A e10.B e10.C e10.D e10.Sign) (fun t15 t16 t17 t18 => (if 0 ≤ e_position ∧ e_position < 4 then ((impl_Crossing_enters.f e10.A e10.B e10.C e10.D e10.Sign e_position).bind fun t23 => (if t23 = true then (if 0 ≤ ([t15, t16, t17, t18] : List Int).getD e_position.toNat 0 ∧ ([t15, t16, t17, t18] : List Int).getD e_position.toNat 0 < (a_from.length : Int) then (bnd (a_from.getD ((([t15, t16, t17, t18] : List Int).getD e_position.toNat 0).toNat) z_GEnd) (fun e29 => some (e29.crossing, e29.position))) else none) else (if 0 ≤ ([t15, t16, t17, t18] : List Int).getD e_position.toNat 0 ∧ ([t15, t16, t17, t18] : List Int).getD e_position.toNat 0 < (a_to.length : Int) then (bnd (a_to.getD ((([t15, t16, t17, t18] : List Int).getD e_position.toNat 0).toNat) z_GEnd) (fun e33 => some (e33.crossing, e33.position))) else none))) else none)))) else none
abbrev impl_Diagram_other.post (w0 : World) (L : List HObj) (d_Crossings : List GCrossing) (d_Circles : Int) (a_from : List GEnd) (a_to : List GEnd) (e_crossing : Int) (e_position : Int) (A_d_Crossings : Option Addr) (c_d_Crossings : Nat) (A_a_from : Option Addr) (c_a_from : Nat) (A_a_to : Option Addr) (c_a_to : Nat) (r1 : Int) (r2 : Int) (en : Ending) (w : World) : Prop := en = .returned (.agg [.int .i64 r1, .int .i64 r2].toArray) ∧ St w0 w (L)

mutual
def impl_Diagram_regions.l1 (K : Nat) : Nat → (List GCrossing) → Int → (List GEnd) → (List GEnd) → (List (List Int)) → (List Bool) → Int → Option (List (List Int))
  | 0, _, _, _, _, _, _, _ => none
  | k + 1, d_Crossings, d_Circles, a_from, a_to, out_84, seen_86, x87 => if x87 < ((List.replicate (w64 (4 * (d_Crossings.length : Int))).toNat false).length : Int) then (impl_Diagram_regions.l4 K k d_Crossings d_Circles a_from a_to out_84 x87 seen_86 ([] : List Int) x87) else (some out_84)
def impl_Diagram_regions.l4 (K : Nat) : Nat → (List GCrossing) → Int → (List GEnd) → (List GEnd) → (List (List Int)) → Int → (List Bool) → (List Int) → Int → Option (List (List Int))
  | 0, _, _, _, _, _, _, _, _, _ => none
  | k + 1, d_Crossings, d_Circles, a_from, a_to, out_84, x87, seen_179, region_182, k_183 => if 0 ≤ k_183 ∧ k_183 < (seen_179.length : Int) then (if (seen_179.getD k_183.toNat false) = true then (if 0 < (region_182.length : Int) then (if (out_84.length + 1) * 24 ≤ 140737488355328 then (impl_Diagram_regions.l1 K k d_Crossings d_Circles a_from a_to (out_84 ++ [region_182]) seen_179 (w64 (x87 + 1))) else none) else (impl_Diagram_regions.l1 K k d_Crossings d_Circles a_from a_to out_84 seen_179 (w64 (x87 + 1)))) else (if (region_182.length + 1) * 8 ≤ 140737488355328 then (bind2 (impl_Diagram_other.f d_Crossings d_Circles a_from a_to (w64 (k_183.tdiv 4)) ((w64 (k_183 + 1)).tmod 4)) (fun t226 t227 => (impl_Diagram_regions.l4 K k d_Crossings d_Circles a_from a_to out_84 x87 (seen_179.set k_183.toNat true) (region_182 ++ [k_183]) (w64 ((w64 (4 * t226)) + t227))))) else none)) else none
end
def impl_Diagram_regions.f (K : Nat) (d_Crossings : List GCrossing) (d_Circles : Int) (a_from : List GEnd) (a_to : List GEnd) : Option (List (List Int)) := if 0 ≤ w64 (4 * (d_Crossings.length : Int)) then (if (w64 (4 * (d_Crossings.length : Int))).toNat * 1 ≤ 281474976710656 then (impl_Diagram_regions.l1 K K d_Crossings d_Circles a_from a_to ([] : List (List Int)) (List.replicate (w64 (4 * (d_Crossings.length : Int))).toNat false) 0) else none) else none
abbrev impl_Diagram_regions.post (w0 : World) (L : List HObj) (d_Crossings : List GCrossing) (d_Circles : Int) (a_from : List GEnd) (a_to : List GEnd) (A_d_Crossings : Option Addr) (c_d_Crossings : Nat) (A_a_from : Option Addr) (c_a_from : Nat) (A_a_to : Option Addr) (c_a_to : Nat) (r1 : List (List Int)) (en : Ending) (w : World) : Prop := ∃ (A_r0 : Option Addr) (c_r1 : Nat) (y_r2 : Nat → (Ty.slice 2 (TInt .i64)).Lay), en = .returned (.slice A_r0 r1.length c_r1) ∧ St w0 w (Own (Ty.slice 2 (TInt .i64)) 43 A_r0 c_r1 y_r2 r1 :: L)

def impl_size_int64.f (list : List (List Int)) : Option (Int) := some (list.length : Int)
abbrev impl_size_int64.post (w0 : World) (L : List HObj) (list : List (List Int)) (A_list : Option Addr) (c_list : Nat) (y_list : Nat → (Ty.slice 2 (TInt .i64)).Lay) (r1 : Int) (en : Ending) (w : World) : Prop := en = .returned (.int .i64 r1) ∧ St w0 w (L)

def impl_counting.l1 (K : Nat) : Nat → Int → (List Int) → Int → Option (List Int)
  | 0, _, _, _ => none
  | k + 1, n_, out_10, x11 => if x11 < n_ then (if (out_10.length + 1) * 8 ≤ 140737488355328 then (impl_counting.l1 K k n_ (out_10 ++ [x11]) (w64 (x11 + 1))) else none) else (some out_10)
def impl_counting.f (K : Nat) (n_ : Int) : Option (List Int) := impl_counting.l1 K K n_ ([] : List Int) 0
abbrev impl_counting.post (w0 : World) (L : List HObj) (n_ : Int) (r1 : List Int) (en : Ending) (w : World) : Prop := ∃ (A_r0 : Option Addr) (c_r1 : Nat), en = .returned (.slice A_r0 r1.length c_r1) ∧ St w0 w (Own (TInt .i64) 2 A_r0 c_r1 (fun _ => ()) r1 :: L)

def impl_union.l1 (K : Nat) : Nat → (List Int) → Int → Int → (List Int) → Int → Option (List Int)
  | 0, _, _, _, _, _ => none
  | k + 1, sets, i, k_, x9, x10 => if x10 < (sets.length : Int) then (if 0 ≤ x10 ∧ x10 < (x9.length : Int) then (if x9.getD x10.toNat 0 = sets.getD k_.toNat 0 then (impl_union.l1 K k sets i k_ (x9.set x10.toNat (sets.getD i.toNat 0)) (w64 (x10 + 1))) else (impl_union.l1 K k sets i k_ x9 (w64 (x10 + 1)))) else none) else (some x9)
def impl_union.f (K : Nat) (sets : List Int) (i : Int) (k_ : Int) : Option (List Int) := if 0 ≤ k_ ∧ k_ < (sets.length : Int) then (if 0 ≤ i ∧ i < (sets.length : Int) then (impl_union.l1 K K sets i k_ sets 0) else none) else none
abbrev impl_union.post (w0 : World) (L : List HObj) (sets : List Int) (i : Int) (k_ : Int) (A_sets : Option Addr) (c_sets : Nat) (r1 : List Int) (en : Ending) (w : World) : Prop := en = .returned (.tuple #[]) ∧ St w0 w (Own (TInt .i64) 2 A_sets c_sets (fun _ => ()) r1 :: L)

mutual
def impl_numbered.l1 (K : Nat) : Nat → (List Int) → (List (Int × Int)) → (List Int) → Int → Option (List Int)
  | 0, _, _, _, _ => none
  | k + 1, roots, numbers_16, out_19, x20 => if x20 < (roots.length : Int) then (if 0 ≤ x20 ∧ x20 < (roots.length : Int) then (if ((mget numbers_16 (roots.getD x20.toNat 0)).isSome) = true then (impl_numbered.j4 K k roots out_19 x20 numbers_16) else (impl_numbered.j4 K k roots out_19 x20 (mput numbers_16 (roots.getD x20.toNat 0) (numbers_16.length : Int)))) else none) else (some out_19)
def impl_numbered.j4 (K : Nat) : Nat → (List Int) → (List Int) → Int → (List (Int × Int)) → Option (List Int)
  | 0, _, _, _, _ => none
  | k + 1, roots, out_19, x20, numbers_38 => if (out_19.length + 1) * 8 ≤ 140737488355328 then (impl_numbered.l1 K k roots numbers_38 (out_19 ++ [(mget numbers_38 (roots.getD x20.toNat 0)).getD 0]) (w64 (x20 + 1))) else none
end
def impl_numbered.f (K : Nat) (roots : List Int) : Option (List Int) := impl_numbered.l1 K K roots ([] : List (Int × Int)) ([] : List Int) 0
abbrev impl_numbered.post (w0 : World) (L : List HObj) (roots : List Int) (A_roots : Option Addr) (c_roots : Nat) (r1 : List Int) (en : Ending) (w : World) : Prop := ∃ (A_r0 : Option Addr) (c_r1 : Nat), en = .returned (.slice A_r0 r1.length c_r1) ∧ St w0 w (Own (TInt .i64) 2 A_r0 c_r1 (fun _ => ()) r1 :: L)

def impl_Diagram_parts.l1 (K : Nat) : Nat → (List GEnd) → (List GEnd) → (List Int) → Int → Option (List Int)
  | 0, _, _, _, _ => none
  | k + 1, a_from, a_to, sets_36, x37 => if x37 < (a_from.length : Int) then (if 0 ≤ x37 ∧ x37 < (a_from.length : Int) then (bnd (a_from.getD x37.toNat z_GEnd) (fun e61 => if 0 ≤ x37 ∧ x37 < (a_to.length : Int) then (bnd (a_to.getD x37.toNat z_GEnd) (fun e67 => (impl_union.f K sets_36 e61.crossing e67.crossing).bind fun t69 => (if t69.length = sets_36.length then (impl_Diagram_parts.l1 K k a_from a_to t69 (w64 (x37 + 1))) else none))) else none)) else none) else ((impl_numbered.f K sets_36).bind fun t74 => (some t74))
def impl_Diagram_parts.f (K : Nat) (d_Crossings : List GCrossing) (d_Circles : Int) (a_from : List GEnd) (a_to : List GEnd) : Option (List Int) := (impl_size_impl_Crossing.f d_Crossings).bind fun t5 => ((impl_counting.f K t5).bind fun t9 => (impl_Diagram_parts.l1 K K a_from a_to t9 0))
abbrev impl_Diagram_parts.post (w0 : World) (L : List HObj) (d_Crossings : List GCrossing) (d_Circles : Int) (a_from : List GEnd) (a_to : List GEnd) (A_d_Crossings : Option Addr) (c_d_Crossings : Nat) (A_a_from : Option Addr) (c_a_from : Nat) (A_a_to : Option Addr) (c_a_to : Nat) (r1 : List Int) (en : Ending) (w : World) : Prop := ∃ (A_r0 : Option Addr) (c_r1 : Nat), en = .returned (.slice A_r0 r1.length c_r1) ∧ St w0 w (Own (TInt .i64) 2 A_r0 c_r1 (fun _ => ()) r1 :: L)

def slices_Max_int64_int64.l2 (K : Nat) : Nat → (List Int) → Int → Int → Option (Int)
  | 0, _, _, _ => none
  | k + 1, x, m_6, i_7 => if i_7 < (x.length : Int) then (if 0 ≤ i_7 ∧ i_7 < (x.length : Int) then (slices_Max_int64_int64.l2 K k x (if x.getD i_7.toNat 0 > m_6 then x.getD i_7.toNat 0 else m_6) (w64 (i_7 + 1))) else none) else (some m_6)
def slices_Max_int64_int64.f (K : Nat) (x : List Int) : Option (Int) := if (x.length : Int) < 1 then (none) else (if 0 ≤ (0 : Int) ∧ (0 : Int) < (x.length : Int) then (slices_Max_int64_int64.l2 K K x (x.getD 0 0) 1) else none)
abbrev slices_Max_int64_int64.post (w0 : World) (L : List HObj) (x : List Int) (A_x : Option Addr) (c_x : Nat) (r1 : Int) (en : Ending) (w : World) : Prop := en = .returned (.int .i64 r1) ∧ St w0 w (L)

def impl_classCount.f (K : Nat) (classes : List Int) : Option (Int) := if (classes.length : Int) = 0 then (some 0) else ((slices_Max_int64_int64.f K classes).bind fun t2 => (some (w64 (t2 + 1))))
abbrev impl_classCount.post (w0 : World) (L : List HObj) (classes : List Int) (A_classes : Option Addr) (c_classes : Nat) (r1 : Int) (en : Ending) (w : World) : Prop := en = .returned (.int .i64 r1) ∧ St w0 w (L)

def impl_Diagram_drawing.f (K : Nat) (d_Crossings : List GCrossing) (d_Circles : Int) : Option ((List GEnd) × (List GEnd) × Bool) := (impl_size_impl_Crossing.f d_Crossings).bind fun t5 => (if 10 < t5 then (some (([] : List GEnd), ([] : List GEnd), false)) else ((impl_inRange.f d_Circles 0 8).bind fun t21 => (if t21 = true then ((slices_ContainsFunc_impl_Crossing_impl_Crossing_109.f K d_Crossings).bind fun t26 => (if t26 = true then (some (([] : List GEnd), ([] : List GEnd), false)) else (bind3 (impl_Diagram_arrows.f K d_Crossings d_Circles) (fun t32 t33 t34 => (if t34 = true then ((impl_Diagram_regions.f K d_Crossings d_Circles t32 t33).bind fun t68 => ((impl_size_int64.f t68).bind fun t75 => ((impl_Diagram_parts.f K d_Crossings d_Circles t32 t33).bind fun t79 => ((impl_classCount.f K t79).bind fun t85 => (if t75 = w64 (t5 + (w64 (2 * t85))) then (some (t32, t33, true)) else (some (([] : List GEnd), ([] : List GEnd), false))))))) else (some (([] : List GEnd), ([] : List GEnd), false))))))) else (some (([] : List GEnd), ([] : List GEnd), false)))))
abbrev impl_Diagram_drawing.post (w0 : World) (L : List HObj) (d_Crossings : List GCrossing) (d_Circles : Int) (A_d_Crossings : Option Addr) (c_d_Crossings : Nat) (r1 : List GEnd) (r2 : List GEnd) (r3 : Bool) (en : Ending) (w : World) : Prop := ∃ (A_r0 : Option Addr) (c_r1 : Nat) (A_r2 : Option Addr) (c_r3 : Nat), en = .returned (.tuple #[.agg [.slice A_r0 r1.length c_r1, .slice A_r2 r2.length c_r3].toArray, .bool r3]) ∧ St w0 w (Own T_GEnd 68 A_r0 c_r1 (fun _ => ()) r1 :: Own T_GEnd 68 A_r2 c_r3 (fun _ => ()) r2 :: L)

def impl_hasIndex_impl_Crossing.f (list : List GCrossing) (i : Int) : Option (Bool) := (impl_size_impl_Crossing.f list).bind fun t1 => ((impl_inRange.f i 0 (w64 (t1 - 1))).bind fun t5 => (some t5))
abbrev impl_hasIndex_impl_Crossing.post (w0 : World) (L : List HObj) (list : List GCrossing) (i : Int) (A_list : Option Addr) (c_list : Nat) (r1 : Bool) (en : Ending) (w : World) : Prop := en = .returned (.bool r1) ∧ St w0 w (L)

mutual
def math_bits_Len64.j1 (K : Nat) : Nat → Int → Int → Option (Int)
  | 0, _, _ => none
  | k + 1, x_2, n_3 => if 65536 ≤ x_2 then (math_bits_Len64.j2 K k (x_2 / 2 ^ 16) (w64 (n_3 + 16))) else (math_bits_Len64.j2 K k x_2 n_3)
def math_bits_Len64.j2 (K : Nat) : Nat → Int → Int → Option (Int)
  | 0, _, _ => none
  | k + 1, x_5, n_6 => if 256 ≤ x_5 then (math_bits_Len64.j3 K k (x_5 / 2 ^ 8) (w64 (n_6 + 8))) else (math_bits_Len64.j3 K k x_5 n_6)
def math_bits_Len64.j3 (K : Nat) : Nat → Int → Int → Option (Int)
  | 0, _, _ => none
  | k + 1, x_8, n_9 => if 0 ≤ IntKind.wrap .u8 (x_8) ∧ IntKind.wrap .u8 (x_8) < 256 then (some (w64 (n_9 + (w64 (([0, 1, 2, 2, 3, 3, 3, 3, 4, 4, 4, 4, 4, 4, 4, 4, 5, 5, 5, 5, 5, 5, 5, 5, 5, 5, 5, 5, 5, 5, 5, 5, 6, 6, 6, 6, 6, 6, 6, 6, 6, 6, 6, 6, 6, 6, 6, 6, 6, 6, 6, 6, 6, 6, 6, 6, 6, 6, 6, 6, 6, 6, 6, 6, 7, 7, 7, 7, 7, 7, 7, 7, 7, 7, 7, 7, 7, 7, 7, 7, 7, 7, 7, 7, 7, 7, 7, 7, 7, 7, 7, 7, 7, 7, 7, 7, 7, 7, 7, 7, 7, 7, 7, 7, 7, 7, 7, 7, 7, 7, 7, 7, 7, 7, 7, 7, 7, 7, 7, 7, 7, 7, 7, 7, 7, 7, 7, 7, 8, 8, 8, 8, 8, 8, 8, 8, 8, 8, 8, 8, 8, 8, 8, 8, 8, 8, 8, 8, 8, 8, 8, 8, 8, 8, 8, 8, 8, 8, 8, 8, 8, 8, 8, 8, 8, 8, 8, 8, 8, 8, 8, 8, 8, 8, 8, 8, 8, 8, 8, 8, 8, 8, 8, 8, 8, 8, 8, 8, 8, 8, 8, 8, 8, 8, 8, 8, 8, 8, 8, 8, 8, 8, 8, 8, 8, 8, 8, 8, 8, 8, 8, 8, 8, 8, 8, 8, 8, 8, 8, 8, 8, 8, 8, 8, 8, 8, 8, 8, 8, 8, 8, 8, 8, 8, 8, 8, 8, 8, 8, 8, 8, 8, 8, 8, 8, 8, 8, 8, 8, 8, 8, 8, 8, 8, 8, 8] : List Int).getD (IntKind.wrap .u8 (x_8)).toNat 0))))) else none
end
def math_bits_Len64.f (K : Nat) (x : Int) : Option (Int) := if 4294967296 ≤ x then (math_bits_Len64.j1 K K (x / 2 ^ 32) 32) else (math_bits_Len64.j1 K K x 0)
abbrev math_bits_Len64.post (w0 : World) (L : List HObj) (x : Int) (r1 : Int) (en : Ending) (w : World) : Prop := en = .returned (.int .i64 r1) ∧ St w0 w (L)

def math_bits_Len.f (K : Nat) (x : Int) : Option (Int) := (math_bits_Len64.f K x).bind fun t1 => (some t1)
abbrev math_bits_Len.post (w0 : World) (L : List HObj) (x : Int) (r1 : Int) (en : Ending) (w : World) : Prop := en = .returned (.int .i64 r1) ∧ St w0 w (L)

def cmp_isNaN_int64.f (x : Int) : Option (Bool) := some (!(decide (x = x)))
abbrev cmp_isNaN_int64.post (w0 : World) (L : List HObj) (x : Int) (r1 : Bool) (en : Ending) (w : World) : Prop := en = .returned (.bool r1) ∧ St w0 w (L)

def cmp_Less_int64.f (x : Int) (y : Int) : Option (Bool) := (cmp_isNaN_int64.f x).bind fun t1 => (if t1 = true then ((cmp_isNaN_int64.f y).bind fun t6 => (if t6 = true then (some (decide (x < y))) else (some true))) else (some (decide (x < y))))
abbrev cmp_Less_int64.post (w0 : World) (L : List HObj) (x : Int) (y : Int) (r1 : Bool) (en : Ending) (w : World) : Prop := en = .returned (.bool r1) ∧ St w0 w (L)

mutual
def slices_insertionSortOrdered_int64.l1 (K : Nat) : Nat → Int → Int → (List Int) → Int → Option (List Int)
  | 0, _, _, _, _ => none
  | k + 1, a_, b_, x76, i_77 => if i_77 < b_ then (slices_insertionSortOrdered_int64.l4 K k a_ b_ i_77 x76 i_77) else (some x76)
def slices_insertionSortOrdered_int64.l4 (K : Nat) : Nat → Int → Int → Int → (List Int) → Int → Option (List Int)
  | 0, _, _, _, _, _ => none
  | k + 1, a_, b_, i_77, x178, j_179 => if a_ < j_179 then (if 0 ≤ j_179 ∧ j_179 < (x178.length : Int) then (if 0 ≤ w64 (j_179 - 1) ∧ w64 (j_179 - 1) < (x178.length : Int) then ((cmp_Less_int64.f (x178.getD j_179.toNat 0) (x178.getD ((w64 (j_179 - 1)).toNat) 0)).bind fun t216 => (if t216 = true then (if 0 ≤ w64 (j_179 - 1) ∧ w64 (j_179 - 1) < ((x178.set j_179.toNat (x178.getD ((w64 (j_179 - 1)).toNat) 0)).length : Int) then (slices_insertionSortOrdered_int64.l4 K k a_ b_ i_77 ((x178.set j_179.toNat (x178.getD ((w64 (j_179 - 1)).toNat) 0)).set ((w64 (j_179 - 1)).toNat) (x178.getD j_179.toNat 0)) (w64 (j_179 - 1))) else none) else (slices_insertionSortOrdered_int64.l1 K k a_ b_ x178 (w64 (i_77 + 1))))) else none) else none) else (slices_insertionSortOrdered_int64.l1 K k a_ b_ x178 (w64 (i_77 + 1)))
end
def slices_insertionSortOrdered_int64.f (K : Nat) (data : List Int) (a_ : Int) (b_ : Int) : Option (List Int) := slices_insertionSortOrdered_int64.l1 K K a_ b_ data (w64 (a_ + 1))
abbrev slices_insertionSortOrdered_int64.post (w0 : World) (L : List HObj) (data : List Int) (a_ : Int) (b_ : Int) (A_data : Option Addr) (c_data : Nat) (u_data : TypeId) (r1 : List Int) (en : Ending) (w : World) : Prop := en = .returned (.tuple #[]) ∧ St w0 w (Own (TInt .i64) u_data A_data c_data (fun _ => ()) r1 :: L)

def slices_pdqsortOrdered_int64.l1 (K : Nat) : Nat → (List Int) → Int → Int → Int → Option (List Int)
  | 0, _, _, _, _ => none
  | k + 1, t, o, A, r => if w64 (A - o) ≤ 12 then ((slices_insertionSortOrdered_int64.f K t o A).bind fun t9 => (if t9.length = t.length then (some t9) else none)) else (if r = 0 then (none) else (none))
def slices_pdqsortOrdered_int64.f (K : Nat) (t : List Int) (o : Int) (A : Int) (r : Int) : Option (List Int) := slices_pdqsortOrdered_int64.l1 K K t o A r
abbrev slices_pdqsortOrdered_int64.post (w0 : World) (L : List HObj) (t : List Int) (o : Int) (A : Int) (r : Int) (A_t : Option Addr) (c_t : Nat) (u_t : TypeId) (r1 : List Int) (en : Ending) (w : World) : Prop := en = .returned (.tuple #[]) ∧ St w0 w (Own (TInt .i64) u_t A_t c_t (fun _ => ()) r1 :: L)

def slices_Sort_int64_int64.f (K : Nat) (x : List Int) : Option (List Int) := (math_bits_Len.f K (IntKind.wrap .u64 ((x.length : Int)))).bind fun t1 => ((slices_pdqsortOrdered_int64.f K x 0 (x.length : Int) t1).bind fun t5 => (if t5.length = x.length then (some t5) else none))
abbrev slices_Sort_int64_int64.post (w0 : World) (L : List HObj) (x : List Int) (A_x : Option Addr) (c_x : Nat) (u_x : TypeId) (r1 : List Int) (en : Ending) (w : World) : Prop := en = .returned (.tuple #[]) ∧ St w0 w (Own (TInt .i64) u_x A_x c_x (fun _ => ()) r1 :: L)

mutual
def slices_Compact_int64_int64.l1 (K : Nat) : Nat → (List Int) → Int → Option (List Int)
  | 0, _, _ => none
  | k + 1, s, k_45 => if k_45 < (s.length : Int) then (if 0 ≤ k_45 ∧ k_45 < (s.length : Int) then (if 0 ≤ w64 (k_45 - 1) ∧ w64 (k_45 - 1) < (s.length : Int) then (if s.getD k_45.toNat 0 = s.getD ((w64 (k_45 - 1)).toNat) 0 then (if 0 ≤ k_45 ∧ k_45 ≤ (s.length : Int) then (slices_Compact_int64_int64.l4 K k k_45 s k_45 1) else none) else (slices_Compact_int64_int64.l1 K k s (w64 (k_45 + 1)))) else none) else none) else (some s)
def slices_Compact_int64_int64.l4 (K : Nat) : Nat → Int → (List Int) → Int → Int → Option (List Int)
  | 0, _, _, _, _ => none
  | k + 1, k_45, x105, k_106, k2_107 => if 0 ≤ k_45 ∧ k_45 ≤ (x105.length : Int) then (if k2_107 < (((x105.take x105.length).drop k_45.toNat).length : Int) then (if 0 ≤ k2_107 ∧ k2_107 < (((x105.take x105.length).drop k_45.toNat).length : Int) then (if 0 ≤ w64 (k2_107 - 1) ∧ w64 (k2_107 - 1) < (((x105.take x105.length).drop k_45.toNat).length : Int) then (if ((x105.take x105.length).drop k_45.toNat).getD k2_107.toNat 0 = ((x105.take x105.length).drop k_45.toNat).getD ((w64 (k2_107 - 1)).toNat) 0 then (slices_Compact_int64_int64.l4 K k k_45 x105 k_106 (w64 (k2_107 + 1))) else (if 0 ≤ k_106 ∧ k_106 < (x105.length : Int) then (if 0 ≤ k_45 ∧ k_45 ≤ ((x105.set k_106.toNat (((x105.take x105.length).drop k_45.toNat).getD k2_107.toNat 0)).length : Int) then (slices_Compact_int64_int64.l4 K k k_45 (x105.set k_106.toNat (((x105.take x105.length).drop k_45.toNat).getD k2_107.toNat 0)) (w64 (k_106 + 1)) (w64 (k2_107 + 1))) else none) else none)) else none) else none) else (if 0 ≤ k_106 ∧ k_106 ≤ (x105.length : Int) then (if 0 ≤ k_106 ∧ k_106 ≤ ((over x105 k_106.toNat (List.replicate ((x105.take x105.length).drop k_106.toNat).length 0)).length : Int) then (some (((over x105 k_106.toNat (List.replicate ((x105.take x105.length).drop k_106.toNat).length 0)).take k_106.toNat).drop 0)) else none) else none)) else none
end
def slices_Compact_int64_int64.f (K : Nat) (s : List Int) : Option (List Int) := if (s.length : Int) < 2 then (some s) else (slices_Compact_int64_int64.l1 K K s 1)
abbrev slices_Compact_int64_int64.post (w0 : World) (L : List HObj) (s : List Int) (A_s : Option Addr) (c_s : Nat) (u_s : TypeId) (r1 : List Int) (en : Ending) (w : World) : Prop := ∃ (A_r0 : Option Addr) (c_r1 : Nat), en = .returned (.slice A_r0 r1.length c_r1) ∧ St w0 w (Own (TInt .i64) u_s A_r0 c_r1 (fun _ => ()) r1 :: L)

def impl_isKink.f (K : Nat) (c_A : Int) (c_B : Int) (c_C : Int) (c_D : Int) (c_Sign : Int) : Option (Bool) := bind4 (impl_Crossing_ends.f c_A c_B c_C c_D c_Sign) (fun t3 t4 t5 t6 => ((slices_Sort_int64_int64.f K ([t3, t4, t5, t6] : List Int)).bind fun t13 => (if t13.length = ([t3, t4, t5, t6] : List Int).length then ((slices_Compact_int64_int64.f K t13).bind fun t18 => (some (decide ((t18.length : Int) < 4)))) else none)))
abbrev impl_isKink.post (w0 : World) (L : List HObj) (c_A : Int) (c_B : Int) (c_C : Int) (c_D : Int) (c_Sign : Int) (r1 : Bool) (en : Ending) (w : World) : Prop := en = .returned (.bool r1) ∧ St w0 w (L)

def slices_Clone_impl_Crossing_impl_Crossing.f (s : List GCrossing) : Option (List GCrossing) := if (([] : List GCrossing).length + s.length) * 40 ≤ 140737488355328 then (some (([] : List GCrossing) ++ s)) else none
abbrev slices_Clone_impl_Crossing_impl_Crossing.post (w0 : World) (L : List HObj) (s : List GCrossing) (A_s : Option Addr) (c_s : Nat) (r1 : List GCrossing) (en : Ending) (w : World) : Prop := ∃ (A_r0 : Option Addr) (c_r1 : Nat), en = .returned (.slice A_r0 r1.length c_r1) ∧ St w0 w (Own T_GCrossing 58 A_r0 c_r1 (fun _ => ()) r1 :: L)

def impl_copyDiagram.f (d_Crossings : List GCrossing) (d_Circles : Int) : Option ((List GCrossing) × Int) := (slices_Clone_impl_Crossing_impl_Crossing.f d_Crossings).bind fun t5 => (some (t5, d_Circles))
abbrev impl_copyDiagram.post (w0 : World) (L : List HObj) (d_Crossings : List GCrossing) (d_Circles : Int) (A_d_Crossings : Option Addr) (c_d_Crossings : Nat) (r1 : List GCrossing) (r2 : Int) (en : Ending) (w : World) : Prop := ∃ (A_r0 : Option Addr) (c_r1 : Nat), en = .returned (.agg [.slice A_r0 r1.length c_r1, .int .i64 r2].toArray) ∧ St w0 w (Own T_GCrossing 58 A_r0 c_r1 (fun _ => ()) r1 :: L)

mutual
def slices_Repeat_int64_int64.j2 (K : Nat) : Nat → (List Int) → Int → Bool → Option (List Int)
  | 0, _, _, _ => none
  | k + 1, x, t4, x10 => if x10 = true then (none) else (if 0 ≤ w64 (t4) then (if (w64 (t4)).toNat * 8 ≤ 281474976710656 then (slices_Repeat_int64_int64.l4 K k (over (List.replicate (w64 (t4)).toNat (0 : Int)) 0 (x.take ((List.replicate (w64 (t4)).toNat (0 : Int)).length))) (((x).take ((List.replicate (w64 (t4)).toNat (0 : Int)).length)).length : Int)) else none) else none)
def slices_Repeat_int64_int64.l4 (K : Nat) : Nat → (List Int) → Int → Option (List Int)
  | 0, _, _ => none
  | k + 1, newslice_23, n_24 => if n_24 < (newslice_23.length : Int) then (if 0 ≤ n_24 ∧ n_24 ≤ (newslice_23.length : Int) then (slices_Repeat_int64_int64.l4 K k (over newslice_23 n_24.toNat (((newslice_23.take n_24.toNat).drop 0).take (((newslice_23.take newslice_23.length).drop n_24.toNat).length))) (w64 (n_24 + (((((newslice_23.take n_24.toNat).drop 0)).take (((newslice_23.take newslice_23.length).drop n_24.toNat).length)).length : Int)))) else none) else (some newslice_23)
end
def slices_Repeat_int64_int64.f (K : Nat) (x : List Int) (count : Int) : Option (List Int) := if count < 0 then (none) else (bind2 (math_bits_Mul.f (IntKind.wrap .u64 ((x.length : Int))) (IntKind.wrap .u64 (count))) (fun t3 t4 => (if 0 < t3 then (slices_Repeat_int64_int64.j2 K K x t4 true) else (slices_Repeat_int64_int64.j2 K K x t4 (decide (9223372036854775807 < t4))))))
abbrev slices_Repeat_int64_int64.post (w0 : World) (L : List HObj) (x : List Int) (count : Int) (A_x : Option Addr) (c_x : Nat) (r1 : List Int) (en : Ending) (w : World) : Prop := ∃ (A_r0 : Option Addr) (c_r1 : Nat), en = .returned (.slice A_r0 r1.length c_r1) ∧ St w0 w (Own (TInt .i64) 2 A_r0 c_r1 (fun _ => ()) r1 :: L)

def slices_Index_int64_int64.l1 (K : Nat) : Nat → (List Int) → Int → Int → Option (Int)
  | 0, _, _, _ => none
  | k + 1, s, v, x4 => if x4 < (s.length : Int) then (if 0 ≤ x4 ∧ x4 < (s.length : Int) then (if v = s.getD x4.toNat 0 then (some x4) else (slices_Index_int64_int64.l1 K k s v (w64 (x4 + 1)))) else none) else (some (-1))
def slices_Index_int64_int64.f (K : Nat) (s : List Int) (v : Int) : Option (Int) := slices_Index_int64_int64.l1 K K s v 0
abbrev slices_Index_int64_int64.post (w0 : World) (L : List HObj) (s : List Int) (v : Int) (A_s : Option Addr) (c_s : Nat) (r1 : Int) (en : Ending) (w : World) : Prop := en = .returned (.int .i64 r1) ∧ St w0 w (L)

def slices_Contains_int64_int64.f (K : Nat) (s : List Int) (v : Int) : Option (Bool) := (slices_Index_int64_int64.f K s v).bind fun t1 => (some (decide (0 ≤ t1)))
abbrev slices_Contains_int64_int64.post (w0 : World) (L : List HObj) (s : List Int) (v : Int) (A_s : Option Addr) (c_s : Nat) (r1 : Bool) (en : Ending) (w : World) : Prop := en = .returned (.bool r1) ∧ St w0 w (L)

def impl_Diagram_without_fn1_free.f (K : Nat) (e_crossing : Int) (e_position : Int) (v0_2 : List Int) : Option (Bool) := (slices_Contains_int64_int64.f K v0_2 e_crossing).bind fun t3 => (some t3)
abbrev impl_Diagram_without_fn1_free.post (w0 : World) (L : List HObj) (e_crossing : Int) (e_position : Int) (v0_2 : List Int) (b_v0 : Nat) (A_v0_2 : Option Addr) (c_v0_2 : Nat) (r1 : Bool) (en : Ending) (w : World) : Prop := en = .returned (.bool r1) ∧ St w0 w (Box b_v0 43 [.slice A_v0_2 v0_2.length c_v0_2] :: L)

def impl_Diagram_next.f (d_Crossings : List GCrossing) (d_Circles : Int) (a_from : List GEnd) (a_to : List GEnd) (arc : Int) : Option (Int) := if 0 ≤ arc ∧ arc < (a_to.length : Int) then (bnd (a_to.getD arc.toNat z_GEnd) (fun e6 => if 0 ≤ e6.crossing ∧ e6.crossing < (d_Crossings.length : Int) then (bnd (d_Crossings.getD e6.crossing.toNat z_GCrossing) (fun e12 => bind4 (impl_Crossing_ends.f e12.A e12.B e12.C e12.D e12.Sign) (fun t14 t15 t16 t17 => (if 0 ≤ (w64 (e6.position + 2)).tmod 4 ∧ (w64 (e6.position + 2)).tmod 4 < 4 then (some (([t14, t15, t16, t17] : List Int).getD ((w64 (e6.position + 2)).tmod 4).toNat 0)) else none)))) else none)) else none
abbrev impl_Diagram_next.post (w0 : World) (L : List HObj) (d_Crossings : List GCrossing) (d_Circles : Int) (a_from : List GEnd) (a_to : List GEnd) (arc : Int) (A_d_Crossings : Option Addr) (c_d_Crossings : Nat) (A_a_from : Option Addr) (c_a_from : Nat) (A_a_to : Option Addr) (c_a_to : Nat) (r1 : Int) (en : Ending) (w : World) : Prop := en = .returned (.int .i64 r1) ∧ St w0 w (L)

def impl_crossingOf.f (ends_0 : Int) (ends_1 : Int) (ends_2 : Int) (ends_3 : Int) (sign : Int) : Option (Int × Int × Int × Int × Int) := some (ends_0, ends_1, ends_2, ends_3, sign)
abbrev impl_crossingOf.post (w0 : World) (L : List HObj) (ends_0 : Int) (ends_1 : Int) (ends_2 : Int) (ends_3 : Int) (sign : Int) (r1 : Int) (r2 : Int) (r3 : Int) (r4 : Int) (r5 : Int) (en : Ending) (w : World) : Prop := en = .returned (.agg [.int .i64 r1, .int .i64 r2, .int .i64 r3, .int .i64 r4, .int .i64 r5].toArray) ∧ St w0 w (L)

def impl_Diagram_set.f (d_Crossings : List GCrossing) (d_Circles : Int) (e_crossing : Int) (e_position : Int) (arc : Int) : Option (List GCrossing) := if 0 ≤ e_crossing ∧ e_crossing < (d_Crossings.length : Int) then (bnd (d_Crossings.getD e_crossing.toNat z_GCrossing) (fun e6 => bind4 (impl_Crossing_ends.f e6.A e6.B e6.C e6.D e6.Sign) (fun t11 t12 t13 t14 => (if e_position = 0 then (bind5 (impl_crossingOf.f arc t12 t13 t14 e6.Sign) (fun t23 t24 t25 t26 t27 => (some (d_Crossings.set e_crossing.toNat (⟨t23, t24, t25, t26, t27⟩ : GCrossing))))) else (if e_position = 1 then (bind5 (impl_crossingOf.f t11 arc t13 t14 e6.Sign) (fun t35 t36 t37 t38 t39 => (some (d_Crossings.set e_crossing.toNat (⟨t35, t36, t37, t38, t39⟩ : GCrossing))))) else (if e_position = 2 then (bind5 (impl_crossingOf.f t11 t12 arc t14 e6.Sign) (fun t47 t48 t49 t50 t51 => (some (d_Crossings.set e_crossing.toNat (⟨t47, t48, t49, t50, t51⟩ : GCrossing))))) else (if e_position = 3 then (bind5 (impl_crossingOf.f t11 t12 t13 arc e6.Sign) (fun t59 t60 t61 t62 t63 => (some (d_Crossings.set e_crossing.toNat (⟨t59, t60, t61, t62, t63⟩ : GCrossing))))) else (none)))))))) else none
abbrev impl_Diagram_set.post (w0 : World) (L : List HObj) (d_Crossings : List GCrossing) (d_Circles : Int) (e_crossing : Int) (e_position : Int) (arc : Int) (A_d_Crossings : Option Addr) (c_d_Crossings : Nat) (r1 : List GCrossing) (en : Ending) (w : World) : Prop := en = .returned (.tuple #[]) ∧ St w0 w (Own T_GCrossing 58 A_d_Crossings c_d_Crossings (fun _ => ()) r1 :: L)

mutual
def impl_Diagram_strands.l1 (K : Nat) : Nat → (List GCrossing) → Int → (List GEnd) → (List GEnd) → (List (List Int)) → (List Bool) → Int → Option (List (List Int))
  | 0, _, _, _, _, _, _, _ => none
  | k + 1, d_Crossings, d_Circles, a_from, a_to, out_72, seen_74, x75 => if x75 < ((List.replicate (a_to.length : Int).toNat false).length : Int) then (impl_Diagram_strands.l4 K k d_Crossings d_Circles a_from a_to out_72 x75 seen_74 ([] : List Int) x75) else (some out_72)
def impl_Diagram_strands.l4 (K : Nat) : Nat → (List GCrossing) → Int → (List GEnd) → (List GEnd) → (List (List Int)) → Int → (List Bool) → (List Int) → Int → Option (List (List Int))
  | 0, _, _, _, _, _, _, _, _, _ => none
  | k + 1, d_Crossings, d_Circles, a_from, a_to, out_72, x75, seen_151, list_154, arc_155 => if 0 ≤ arc_155 ∧ arc_155 < (seen_151.length : Int) then (if (seen_151.getD arc_155.toNat false) = true then (if 0 < (list_154.length : Int) then (if (out_72.length + 1) * 24 ≤ 140737488355328 then (impl_Diagram_strands.l1 K k d_Crossings d_Circles a_from a_to (out_72 ++ [list_154]) seen_151 (w64 (x75 + 1))) else none) else (impl_Diagram_strands.l1 K k d_Crossings d_Circles a_from a_to out_72 seen_151 (w64 (x75 + 1)))) else (if (list_154.length + 1) * 8 ≤ 140737488355328 then ((impl_Diagram_next.f d_Crossings d_Circles a_from a_to arc_155).bind fun t194 => (impl_Diagram_strands.l4 K k d_Crossings d_Circles a_from a_to out_72 x75 (seen_151.set arc_155.toNat true) (list_154 ++ [arc_155]) t194)) else none)) else none
end
def impl_Diagram_strands.f (K : Nat) (d_Crossings : List GCrossing) (d_Circles : Int) (a_from : List GEnd) (a_to : List GEnd) : Option (List (List Int)) := if 0 ≤ (a_to.length : Int) then (if (a_to.length : Int).toNat * 1 ≤ 281474976710656 then (impl_Diagram_strands.l1 K K d_Crossings d_Circles a_from a_to ([] : List (List Int)) (List.replicate (a_to.length : Int).toNat false) 0) else none) else none
abbrev impl_Diagram_strands.post (w0 : World) (L : List HObj) (d_Crossings : List GCrossing) (d_Circles : Int) (a_from : List GEnd) (a_to : List GEnd) (A_d_Crossings : Option Addr) (c_d_Crossings : Nat) (A_a_from : Option Addr) (c_a_from : Nat) (A_a_to : Option Addr) (c_a_to : Nat) (r1 : List (List Int)) (en : Ending) (w : World) : Prop := ∃ (A_r0 : Option Addr) (c_r1 : Nat) (y_r2 : Nat → (Ty.slice 2 (TInt .i64)).Lay), en = .returned (.slice A_r0 r1.length c_r1) ∧ St w0 w (Own (Ty.slice 2 (TInt .i64)) 43 A_r0 c_r1 y_r2 r1 :: L)

def impl_Diagram_without_fn2_free.f (K : Nat) (arc : Int) (v0_4 : List Int) (v1_from : List GEnd) (v1_to : List GEnd) : Option (Bool) := if 0 ≤ arc ∧ arc < (v1_from.length : Int) then (bnd (v1_from.getD arc.toNat z_GEnd) (fun e2 => (impl_Diagram_without_fn1_free.f K e2.crossing e2.position v0_4).bind fun t4 => (some (!t4)))) else none
abbrev impl_Diagram_without_fn2_free.post (w0 : World) (L : List HObj) (arc : Int) (v0_4 : List Int) (v1_from : List GEnd) (v1_to : List GEnd) (b_v0 : Nat) (b_v0_3 : Nat) (A_v0_4 : Option Addr) (c_v0_4 : Nat) (b_v1 : Nat) (A_v1_from : Option Addr) (c_v1_from : Nat) (A_v1_to : Option Addr) (c_v1_to : Nat) (r1 : Bool) (en : Ending) (w : World) : Prop := en = .returned (.bool r1) ∧ St w0 w (Box b_v0 138 [.func (.func 130) #[] #[.pointer (some ⟨b_v0_3, 0, none⟩)]] :: Box b_v0_3 43 [.slice A_v0_4 v0_4.length c_v0_4] :: Box b_v1 63 [.slice A_v1_from v1_from.length c_v1_from, .slice A_v1_to v1_to.length c_v1_to] :: L)

def slices_IndexFunc_int64_int64_135.l1 (K : Nat) : Nat → (List Int) → (List Int) → (List GEnd) → (List GEnd) → Int → Option (Int)
  | 0, _, _, _, _, _ => none
  | k + 1, s, cap_4, cap_from, cap_to, x8 => if x8 < (s.length : Int) then (if 0 ≤ x8 ∧ x8 < (s.length : Int) then ((impl_Diagram_without_fn2_free.f K (s.getD x8.toNat 0) cap_4 cap_from cap_to).bind fun t18 => (if t18 = true then (some x8) else (slices_IndexFunc_int64_int64_135.l1 K k s cap_4 cap_from cap_to (w64 (x8 + 1))))) else none) else (some (-1))
def slices_IndexFunc_int64_int64_135.f (K : Nat) (s : List Int) (cap_4 : List Int) (cap_from : List GEnd) (cap_to : List GEnd) : Option (Int) := slices_IndexFunc_int64_int64_135.l1 K K s cap_4 cap_from cap_to 0
abbrev slices_IndexFunc_int64_int64_135.post (w0 : World) (L : List HObj) (s : List Int) (cap_4 : List Int) (cap_from : List GEnd) (cap_to : List GEnd) (A_s : Option Addr) (c_s : Nat) (b_cap : Nat) (b_cap_3 : Nat) (A_cap_4 : Option Addr) (c_cap_4 : Nat) (b_cap_5 : Nat) (A_cap_from : Option Addr) (c_cap_from : Nat) (A_cap_to : Option Addr) (c_cap_to : Nat) (r1 : Int) (en : Ending) (w : World) : Prop := en = .returned (.int .i64 r1) ∧ St w0 w (Box b_cap 138 [.func (.func 130) #[] #[.pointer (some ⟨b_cap_3, 0, none⟩)]] :: Box b_cap_3 43 [.slice A_cap_4 cap_4.length c_cap_4] :: Box b_cap_5 63 [.slice A_cap_from cap_from.length c_cap_from, .slice A_cap_to cap_to.length c_cap_to] :: L)

def slices_ContainsFunc_int64_int64_135.f (K : Nat) (s : List Int) (cap_4 : List Int) (cap_from : List GEnd) (cap_to : List GEnd) : Option (Bool) := (slices_IndexFunc_int64_int64_135.f K s cap_4 cap_from cap_to).bind fun t1 => (some (decide (0 ≤ t1)))
abbrev slices_ContainsFunc_int64_int64_135.post (w0 : World) (L : List HObj) (s : List Int) (cap_4 : List Int) (cap_from : List GEnd) (cap_to : List GEnd) (A_s : Option Addr) (c_s : Nat) (b_cap : Nat) (b_cap_3 : Nat) (A_cap_4 : Option Addr) (c_cap_4 : Nat) (b_cap_5 : Nat) (A_cap_from : Option Addr) (c_cap_from : Nat) (A_cap_to : Option Addr) (c_cap_to : Nat) (r1 : Bool) (en : Ending) (w : World) : Prop := en = .returned (.bool r1) ∧ St w0 w (Box b_cap 138 [.func (.func 130) #[] #[.pointer (some ⟨b_cap_3, 0, none⟩)]] :: Box b_cap_3 43 [.slice A_cap_4 cap_4.length c_cap_4] :: Box b_cap_5 63 [.slice A_cap_from cap_from.length c_cap_from, .slice A_cap_to cap_to.length c_cap_to] :: L)

mutual
def impl_Diagram_without.l1 (K : Nat) : Nat → (List GCrossing) → Int → (List GEnd) → (List GEnd) → (List Int) → Int → Int → (List GCrossing) → (List Int) → Int → Int → Option ((List GCrossing) × Int)
  | 0, _, _, _, _, _, _, _, _, _, _, _ => none
  | k + 1, d_Crossings, d_Circles, a_from, a_to, crossings, t13, t30, work_293, numbers_294, count_295, x296 => if x296 < t30 then (if 0 ≤ x296 ∧ x296 < (a_from.length : Int) then (bnd (a_from.getD x296.toNat z_GEnd) (fun e558 => (impl_Diagram_without_fn1_free.f K e558.crossing e558.position crossings).bind fun t560 => (if t560 = true then (impl_Diagram_without.l1 K k d_Crossings d_Circles a_from a_to crossings t13 t30 work_293 numbers_294 count_295 (w64 (x296 + 1))) else (if 0 ≤ x296 ∧ x296 < (numbers_294.length : Int) then (impl_Diagram_without.l12 K k d_Crossings d_Circles a_from a_to crossings t13 t30 work_293 numbers_294 count_295 x296 x296) else none)))) else none) else (impl_Diagram_without.l13 K k d_Crossings d_Circles a_from a_to crossings work_293 numbers_294 ([] : List GCrossing) 0)
def impl_Diagram_without.l12 (K : Nat) : Nat → (List GCrossing) → Int → (List GEnd) → (List GEnd) → (List Int) → Int → Int → (List GCrossing) → (List Int) → Int → Int → Int → Option ((List GCrossing) × Int)
  | 0, _, _, _, _, _, _, _, _, _, _, _, _ => none
  | k + 1, d_Crossings, d_Circles, a_from, a_to, crossings, t13, t30, work_293, numbers_294, count_295, x296, last_584 => if 0 ≤ last_584 ∧ last_584 < (a_to.length : Int) then (bnd (a_to.getD last_584.toNat z_GEnd) (fun e603 => (impl_Diagram_without_fn1_free.f K e603.crossing e603.position crossings).bind fun t605 => (if t605 = true then ((impl_Diagram_next.f d_Crossings d_Circles a_from a_to last_584).bind fun t610 => (impl_Diagram_without.l12 K k d_Crossings d_Circles a_from a_to crossings t13 t30 work_293 numbers_294 count_295 x296 t610)) else ((impl_Diagram_set.f work_293 t13 e603.crossing e603.position x296).bind fun t614 => (if t614.length = work_293.length then (impl_Diagram_without.l1 K k d_Crossings d_Circles a_from a_to crossings t13 t30 t614 (numbers_294.set x296.toNat count_295) (w64 (count_295 + 1)) (w64 (x296 + 1))) else none))))) else none
def impl_Diagram_without.l13 (K : Nat) : Nat → (List GCrossing) → Int → (List GEnd) → (List GEnd) → (List Int) → (List GCrossing) → (List Int) → (List GCrossing) → Int → Option ((List GCrossing) × Int)
  | 0, _, _, _, _, _, _, _, _, _ => none
  | k + 1, d_Crossings, d_Circles, a_from, a_to, crossings, work_293, numbers_294, out_687, x688 => if x688 < (work_293.length : Int) then (if 0 ≤ x688 ∧ x688 < (work_293.length : Int) then (bnd (work_293.getD x688.toNat z_GCrossing) (fun e754 => (slices_Contains_int64_int64.f K crossings x688).bind fun t759 => (if t759 = true then (impl_Diagram_without.l13 K k d_Crossings d_Circles a_from a_to crossings work_293 numbers_294 out_687 (w64 (x688 + 1))) else (if 0 ≤ e754.A ∧ e754.A < (numbers_294.length : Int) then (if 0 ≤ e754.B ∧ e754.B < (numbers_294.length : Int) then (if 0 ≤ e754.C ∧ e754.C < (numbers_294.length : Int) then (if 0 ≤ e754.D ∧ e754.D < (numbers_294.length : Int) then (if (out_687.length + 1) * 40 ≤ 140737488355328 then (impl_Diagram_without.l13 K k d_Crossings d_Circles a_from a_to crossings work_293 numbers_294 (out_687 ++ [(⟨numbers_294.getD e754.A.toNat 0, numbers_294.getD e754.B.toNat 0, numbers_294.getD e754.C.toNat 0, numbers_294.getD e754.D.toNat 0, e754.Sign⟩ : GCrossing)]) (w64 (x688 + 1))) else none) else none) else none) else none) else none)))) else none) else ((impl_Diagram_strands.f K d_Crossings d_Circles a_from a_to).bind fun t779 => (impl_Diagram_without.l16 K k a_from a_to crossings out_687 t779 d_Circles 0))
def impl_Diagram_without.l16 (K : Nat) : Nat → (List GEnd) → (List GEnd) → (List Int) → (List GCrossing) → (List (List Int)) → Int → Int → Option ((List GCrossing) × Int)
  | 0, _, _, _, _, _, _, _ => none
  | k + 1, a_from, a_to, crossings, out_687, t779, out_795, x796 => if x796 < (t779.length : Int) then (if 0 ≤ x796 ∧ x796 < (t779.length : Int) then ((slices_ContainsFunc_int64_int64_135.f K (t779.getD x796.toNat []) crossings a_from a_to).bind fun t808 => (if t808 = true then (impl_Diagram_without.l16 K k a_from a_to crossings out_687 t779 out_795 (w64 (x796 + 1))) else (impl_Diagram_without.l16 K k a_from a_to crossings out_687 t779 (w64 (out_795 + 1)) (w64 (x796 + 1))))) else none) else (some (out_687, out_795))
end
def impl_Diagram_without.f (K : Nat) (d_Crossings : List GCrossing) (d_Circles : Int) (a_from : List GEnd) (a_to : List GEnd) (crossings : List Int) : Option ((List GCrossing) × Int) := bind2 (impl_copyDiagram.f d_Crossings d_Circles) (fun t12 t13 => ((slices_Repeat_int64_int64.f K ([(-1)] : List Int) (a_from.length : Int)).bind fun t24 => ((impl_size_impl_end.f a_from).bind fun t30 => (impl_Diagram_without.l1 K K d_Crossings d_Circles a_from a_to crossings t13 t30 t12 t24 0 0))))
abbrev impl_Diagram_without.post (w0 : World) (L : List HObj) (d_Crossings : List GCrossing) (d_Circles : Int) (a_from : List GEnd) (a_to : List GEnd) (crossings : List Int) (A_d_Crossings : Option Addr) (c_d_Crossings : Nat) (A_a_from : Option Addr) (c_a_from : Nat) (A_a_to : Option Addr) (c_a_to : Nat) (A_crossings : Option Addr) (c_crossings : Nat) (r1 : List GCrossing) (r2 : Int) (en : Ending) (w : World) : Prop := ∃ (A_r0 : Option Addr) (c_r1 : Nat), en = .returned (.agg [.slice A_r0 r1.length c_r1, .int .i64 r2].toArray) ∧ St w0 w (Own T_GCrossing 58 A_r0 c_r1 (fun _ => ()) r1 :: L)

def impl_limitedCircles.f (d_Crossings : List GCrossing) (d_Circles : Int) : Option ((List GCrossing) × Int × Int) := if 8 < d_Circles then (some (([] : List GCrossing), 0, 3)) else (some (d_Crossings, d_Circles, 0))
abbrev impl_limitedCircles.post (w0 : World) (L : List HObj) (d_Crossings : List GCrossing) (d_Circles : Int) (A_d_Crossings : Option Addr) (c_d_Crossings : Nat) (r1 : List GCrossing) (r2 : Int) (r3 : Int) (en : Ending) (w : World) : Prop := ∃ (A_r0 : Option Addr) (c_r1 : Nat), en = .returned (.tuple #[.agg [.slice A_r0 r1.length c_r1, .int .i64 r2].toArray, .int .i64 r3]) ∧ St w0 w (Own T_GCrossing 58 A_r0 c_r1 (fun _ => ()) r1 :: L)

def impl_RemoveKink.f (K : Nat) (d_Crossings : List GCrossing) (d_Circles : Int) (c : Int) : Option ((List GCrossing) × Int × Int) := bind3 (impl_Diagram_drawing.f K d_Crossings d_Circles) (fun t5 t6 t7 => (if t7 = true then ((impl_hasIndex_impl_Crossing.f d_Crossings c).bind fun t19 => (if t19 = true then (if 0 ≤ c ∧ c < (d_Crossings.length : Int) then (bnd (d_Crossings.getD c.toNat z_GCrossing) (fun e25 => (impl_isKink.f K e25.A e25.B e25.C e25.D e25.Sign).bind fun t27 => (if t27 = true then (bind2 (impl_Diagram_without.f K d_Crossings d_Circles t5 t6 ([c] : List Int)) (fun t34 t35 => (bind3 (impl_limitedCircles.f t34 t35) (fun t41 t42 t43 => (some (t41, t42, t43)))))) else (some (([] : List GCrossing), 0, 5))))) else none) else (some (([] : List GCrossing), 0, 4)))) else (some (([] : List GCrossing), 0, 1))))
abbrev impl_RemoveKink.post (w0 : World) (L : List HObj) (d_Crossings : List GCrossing) (d_Circles : Int) (c : Int) (A_d_Crossings : Option Addr) (c_d_Crossings : Nat) (r1 : List GCrossing) (r2 : Int) (r3 : Int) (en : Ending) (w : World) : Prop := ∃ (A_r0 : Option Addr) (c_r1 : Nat), en = .returned (.tuple #[.agg [.slice A_r0 r1.length c_r1, .int .i64 r2].toArray, .int .i64 r3]) ∧ St w0 w (Own T_GCrossing 58 A_r0 c_r1 (fun _ => ()) r1 :: L)

def laws_eqCrossing.f (a_A : Int) (a_B : Int) (a_C : Int) (a_D : Int) (a_Sign : Int) (b_A : Int) (b_B : Int) (b_C : Int) (b_D : Int) (b_Sign : Int) : Option (Bool) := if a_A = b_A then (if a_B = b_B then (if a_C = b_C then (if a_D = b_D then (if a_Sign = b_Sign then (some true) else (some false)) else (some false)) else (some false)) else (some false)) else (some false)
abbrev laws_eqCrossing.post (w0 : World) (L : List HObj) (a_A : Int) (a_B : Int) (a_C : Int) (a_D : Int) (a_Sign : Int) (b_A : Int) (b_B : Int) (b_C : Int) (b_D : Int) (b_Sign : Int) (r1 : Bool) (en : Ending) (w : World) : Prop := en = .returned (.bool r1) ∧ St w0 w (L)

def laws_eqCrossingS.l1 (K : Nat) : Nat → (List GCrossing) → (List GCrossing) → Int → Option (Bool)
  | 0, _, _, _ => none
  | k + 1, a_, b_, i_14 => if i_14 < (a_.length : Int) then (if 0 ≤ i_14 ∧ i_14 < (a_.length : Int) then (bnd (a_.getD i_14.toNat z_GCrossing) (fun e29 => if 0 ≤ i_14 ∧ i_14 < (b_.length : Int) then (bnd (b_.getD i_14.toNat z_GCrossing) (fun e32 => (laws_eqCrossing.f e29.A e29.B e29.C e29.D e29.Sign e32.A e32.B e32.C e32.D e32.Sign).bind fun t34 => (if t34 = true then (laws_eqCrossingS.l1 K k a_ b_ (w64 (i_14 + 1))) else (some false)))) else none)) else none) else (some true)
def laws_eqCrossingS.f (K : Nat) (a_ : List GCrossing) (b_ : List GCrossing) : Option (Bool) := if (a_.length : Int) = (b_.length : Int) then (laws_eqCrossingS.l1 K K a_ b_ 0) else (some false)
abbrev laws_eqCrossingS.post (w0 : World) (L : List HObj) (a_ : List GCrossing) (b_ : List GCrossing) (A_a_ : Option Addr) (c_a_ : Nat) (A_b_ : Option Addr) (c_b_ : Nat) (r1 : Bool) (en : Ending) (w : World) : Prop := en = .returned (.bool r1) ∧ St w0 w (L)

def laws_eqDiagram.f (K : Nat) (a_Crossings : List GCrossing) (a_Circles : Int) (b_Crossings : List GCrossing) (b_Circles : Int) : Option (Bool) := (laws_eqCrossingS.f K a_Crossings b_Crossings).bind fun t5 => (if t5 = true then (if a_Circles = b_Circles then (some true) else (some false)) else (some false))
abbrev laws_eqDiagram.post (w0 : World) (L : List HObj) (a_Crossings : List GCrossing) (a_Circles : Int) (b_Crossings : List GCrossing) (b_Circles : Int) (A_a_Crossings : Option Addr) (c_a_Crossings : Nat) (A_b_Crossings : Option Addr) (c_b_Crossings : Nat) (r1 : Bool) (en : Ending) (w : World) : Prop := en = .returned (.bool r1) ∧ St w0 w (L)

def laws_markCrossingS.l1 (K : Nat) : Nat → (List GCrossing) → Int → Int → Option (Int × (List GCrossing))
  | 0, _, _, _ => none
  | k + 1, x22, k_23, i_24 => if i_24 < (x22.length : Int) then (if 0 ≤ i_24 ∧ i_24 < (x22.length : Int) then (bnd (x22.getD i_24.toNat z_GCrossing) (fun e49 => if 0 ≤ i_24 ∧ i_24 < ((x22.set i_24.toNat ({ e49 with A := k_23 })).length : Int) then (bnd ((x22.set i_24.toNat ({ e49 with A := k_23 })).getD i_24.toNat z_GCrossing) (fun e53 => if 0 ≤ i_24 ∧ i_24 < (((x22.set i_24.toNat ({ e49 with A := k_23 })).set i_24.toNat ({ e53 with B := w64 (k_23 + 1) })).length : Int) then (bnd (((x22.set i_24.toNat ({ e49 with A := k_23 })).set i_24.toNat ({ e53 with B := w64 (k_23 + 1) })).getD i_24.toNat z_GCrossing) (fun e57 => if 0 ≤ i_24 ∧ i_24 < ((((x22.set i_24.toNat ({ e49 with A := k_23 })).set i_24.toNat ({ e53 with B := w64 (k_23 + 1) })).set i_24.toNat ({ e57 with C := w64 ((w64 (k_23 + 1)) + 1) })).length : Int) then (bnd ((((x22.set i_24.toNat ({ e49 with A := k_23 })).set i_24.toNat ({ e53 with B := w64 (k_23 + 1) })).set i_24.toNat ({ e57 with C := w64 ((w64 (k_23 + 1)) + 1) })).getD i_24.toNat z_GCrossing) (fun e61 => if 0 ≤ i_24 ∧ i_24 < (((((x22.set i_24.toNat ({ e49 with A := k_23 })).set i_24.toNat ({ e53 with B := w64 (k_23 + 1) })).set i_24.toNat ({ e57 with C := w64 ((w64 (k_23 + 1)) + 1) })).set i_24.toNat ({ e61 with D := w64 ((w64 ((w64 (k_23 + 1)) + 1)) + 1) })).length : Int) then (bnd (((((x22.set i_24.toNat ({ e49 with A := k_23 })).set i_24.toNat ({ e53 with B := w64 (k_23 + 1) })).set i_24.toNat ({ e57 with C := w64 ((w64 (k_23 + 1)) + 1) })).set i_24.toNat ({ e61 with D := w64 ((w64 ((w64 (k_23 + 1)) + 1)) + 1) })).getD i_24.toNat z_GCrossing) (fun e65 => laws_markCrossingS.l1 K k (((((x22.set i_24.toNat ({ e49 with A := k_23 })).set i_24.toNat ({ e53 with B := w64 (k_23 + 1) })).set i_24.toNat ({ e57 with C := w64 ((w64 (k_23 + 1)) + 1) })).set i_24.toNat ({ e61 with D := w64 ((w64 ((w64 (k_23 + 1)) + 1)) + 1) })).set i_24.toNat ({ e65 with Sign := w64 ((w64 ((w64 ((w64 (k_23 + 1)) + 1)) + 1)) + 1) })) (w64 ((w64 ((w64 ((w64 ((w64 (k_23 + 1)) + 1)) + 1)) + 1)) + 1)) (w64 (i_24 + 1)))) else none)) else none)) else none)) else none)) else none) else (some (k_23, x22))
def laws_markCrossingS.f (K : Nat) (a_ : List GCrossing) (k_ : Int) : Option (Int × (List GCrossing)) := laws_markCrossingS.l1 K K a_ k_ 0
abbrev laws_markCrossingS.post (w0 : World) (L : List HObj) (a_ : List GCrossing) (k_ : Int) (A_a_ : Option Addr) (c_a_ : Nat) (r1 : Int) (r2 : List GCrossing) (en : Ending) (w : World) : Prop := en = .returned (.int .i64 r1) ∧ St w0 w (Own T_GCrossing 58 A_a_ c_a_ (fun _ => ()) r2 :: L)

def laws_markDiagram.f (K : Nat) (a_Crossings : List GCrossing) (a_Circles : Int) (k_ : Int) : Option (Int × (List GCrossing)) := bind2 (laws_markCrossingS.f K a_Crossings k_) (fun t3 t4 => (if t4.length = a_Crossings.length then (some (t3, t4)) else none))
abbrev laws_markDiagram.post (w0 : World) (L : List HObj) (a_Crossings : List GCrossing) (a_Circles : Int) (k_ : Int) (A_a_Crossings : Option Addr) (c_a_Crossings : Nat) (r1 : Int) (r2 : List GCrossing) (en : Ending) (w : World) : Prop := en = .returned (.int .i64 r1) ∧ St w0 w (Own T_GCrossing 58 A_a_Crossings c_a_Crossings (fun _ => ()) r2 :: L)

def laws_heldCrossingS.l1 (K : Nat) : Nat → (List GCrossing) → Int → Int → Option (Int)
  | 0, _, _, _ => none
  | k + 1, a_, k_10, i_11 => if i_11 < (a_.length : Int) then (if 0 ≤ i_11 ∧ i_11 < (a_.length : Int) then (bnd (a_.getD i_11.toNat z_GCrossing) (fun e23 => if e23.A = k_10 then (if e23.B = w64 (k_10 + 1) then (if e23.C = w64 ((w64 (k_10 + 1)) + 1) then (if e23.D = w64 ((w64 ((w64 (k_10 + 1)) + 1)) + 1) then (if e23.Sign = w64 ((w64 ((w64 ((w64 (k_10 + 1)) + 1)) + 1)) + 1) then (laws_heldCrossingS.l1 K k a_ (w64 ((w64 ((w64 ((w64 ((w64 (k_10 + 1)) + 1)) + 1)) + 1)) + 1)) (w64 (i_11 + 1))) else (some (-1))) else (some (-1))) else (some (-1))) else (some (-1))) else (some (-1)))) else none) else (some k_10)
def laws_heldCrossingS.f (K : Nat) (a_ : List GCrossing) (k_ : Int) : Option (Int) := laws_heldCrossingS.l1 K K a_ k_ 0
abbrev laws_heldCrossingS.post (w0 : World) (L : List HObj) (a_ : List GCrossing) (k_ : Int) (A_a_ : Option Addr) (c_a_ : Nat) (r1 : Int) (en : Ending) (w : World) : Prop := en = .returned (.int .i64 r1) ∧ St w0 w (L)

def laws_heldDiagram.f (K : Nat) (a_Crossings : List GCrossing) (a_Circles : Int) (k_ : Int) : Option (Int) := (laws_heldCrossingS.f K a_Crossings k_).bind fun t3 => (if t3 < 0 then (some (-1)) else (some t3))
abbrev laws_heldDiagram.post (w0 : World) (L : List HObj) (a_Crossings : List GCrossing) (a_Circles : Int) (k_ : Int) (A_a_Crossings : Option Addr) (c_a_Crossings : Nat) (r1 : Int) (en : Ending) (w : World) : Prop := en = .returned (.int .i64 r1) ∧ St w0 w (L)

def laws_FnExactRemoveKink.f (K : Nat) (aD_Crossings : List GCrossing) (aD_Circles : Int) (aC : Int) : Option (Bool) := (laws_szDiagram.f aD_Crossings aD_Circles 1048576).bind fun t3 => (if t3 < 0 then (some true) else (bind2 (laws_toDiagram.f K aD_Crossings aD_Circles) (fun t8 t9 => (bind3 (spec_RemoveKink.f K t8 t9 aC) (fun t15 t16 t17 => (bind2 (laws_toDiagram.f K aD_Crossings aD_Circles) (fun t26 t27 => (bind3 (impl_RemoveKink.f K t26 t27 aC) (fun t36 t37 t38 => ((laws_eqDiagram.f K t36 t37 t15 t16).bind fun t52 => (if t52 = true then (if t38 = t17 then (bind2 (laws_toDiagram.f K aD_Crossings aD_Circles) (fun t58 t59 => ((laws_eqDiagram.f K t26 t27 t58 t59).bind fun t65 => (if t65 = true then (bind2 (laws_markDiagram.f K t26 t27 1) (fun t70 t71 => (if t71.length = t26.length then (if t70 < 0 then (some false) else ((laws_eqDiagram.f K t36 t37 t15 t16).bind fun t83 => (if t83 = true then (bind2 (laws_markDiagram.f K t36 t37 1) (fun t88 t89 => (if t89.length = t36.length then ((laws_heldDiagram.f K t89 t37 1).bind fun t94 => (if t94 < 0 then (some false) else (if t94 = t88 then (bind2 (laws_toDiagram.f K aD_Crossings aD_Circles) (fun t100 t101 => (bind3 (impl_RemoveKink.f K t100 t101 aC) (fun t107 t108 t109 => ((laws_eqDiagram.f K t107 t108 t15 t16).bind fun t123 => (if t123 = true then (if t109 = t17 then ((laws_heldDiagram.f K t89 t37 1).bind fun t129 => (if t129 < 0 then (some false) else (if t129 = t88 then (some true) else (some false)))) else (some false)) else (some false))))))) else (some false)))) else none))) else (some false)))) else none))) else (some false))))) else (some false)) else (some false))))))))))))
abbrev laws_FnExactRemoveKink.post (w0 : World) (L : List HObj) (aD_Crossings : List GCrossing) (aD_Circles : Int) (aC : Int) (A_aD_Crossings : Option Addr) (c_aD_Crossings : Nat) (r1 : Bool) (en : Ending) (w : World) : Prop := en = .returned (.bool r1) ∧ St w0 w (L)

end Go.Proofs.Ytdafmbaeiefacaa
