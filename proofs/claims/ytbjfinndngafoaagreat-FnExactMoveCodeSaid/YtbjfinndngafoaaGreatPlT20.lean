/-
  Triangulations: what the moves 2-3 and 1-4 plan.
-/
import Derived.Test.YtbjfinndngafoaaGreatPlT19
set_option linter.unusedVariables false
set_option linter.unusedSimpArgs false
set_option linter.unusedSectionVars false
namespace Go.Proofs.YtbjfinndngafoaaGreat
open Go.RowKit
def MP (f t : List Nat) : Nat := PX (t.getD (f.idxOf 0) 0) (t.getD (f.idxOf 1) 0) (t.getD (f.idxOf 2) 0) (t.getD (f.idxOf 3) 0)
def putO (m : List (Arr2 × GPlace)) (x : GL12Outer) : List (Arr2 × GPlace) := gput m ⟨x.tet, x.face⟩ ⟨x.to, x.perm⟩
def free4 : List GFace := [⟨-1, 0⟩, ⟨-1, 0⟩, ⟨-1, 0⟩, ⟨-1, 0⟩]
def o23 (o b : Int) (A q i : Nat) : List GL12Outer :=
  [⟨o, ((OT [A]).getD i 0 : Nat), (i : Nat), (MP [A, (OT [A]).getD ((i + 1) % 3) 0, (OT [A]).getD ((i + 2) % 3) 0, (OT [A]).getD i 0] [0, 2, 3, 1] : Nat)⟩,
   ⟨b, (PA q ((OT [A]).getD i 0) : Nat), (i : Nat), (MP [PA q A, PA q ((OT [A]).getD ((i + 1) % 3) 0), PA q ((OT [A]).getD ((i + 2) % 3) 0), PA q ((OT [A]).getD i 0)] [1, 2, 3, 0] : Nat)⟩]
def O23 (o b : Int) (A q : Nat) : List GL12Outer := o23 o b A q 0 ++ (o23 o b A q 1 ++ o23 o b A q 2)
def in23 : List Arr4 := [⟨0, 2, 1, 1⟩, ⟨1, 2, 2, 1⟩, ⟨2, 2, 0, 1⟩]
def fr23 : List (List GFace) := [[⟨-1, 0⟩, ⟨-1, 0⟩, ⟨1, 1⟩, ⟨2, 1⟩], [⟨-1, 0⟩, ⟨-1, 0⟩, ⟨2, 1⟩, ⟨0, 1⟩], [⟨-1, 0⟩, ⟨-1, 0⟩, ⟨0, 1⟩, ⟨1, 1⟩]]
theorem i23_tab : (fun (K : Nat) (o b : Int) => (List.range 96).map fun i : Nat => impl_Triangulation_change23.l1 (K + 100) (K + 100) o ((i / 24 : Nat) : Int) ⟨b, ((i % 24 : Nat) : Int)⟩ [o, b] 3 (PA (i % 24) 0 : Int) (PA (i % 24) 1 : Int) (PA (i % 24) 2 : Int) (PA (i % 24) 3 : Int) (ints (OT [i / 24])) [] [] 0) = fun K o b => (List.range 96).map fun i : Nat => some (some ([o, b], (O23 o b (i / 24) (i % 24)).foldl putO [], 3, in23)) := by kernel_rfl
theorem s23_tab : (fun (K : Nat) (o b : Int) => (List.range 96).map fun i : Nat => spec_l12Plan23.l1 (K + 100) (K + 100) o ((i / 24 : Nat) : Int) ⟨b, ((i % 24 : Nat) : Int)⟩ [] 0) = fun K o b => (List.range 96).map fun i : Nat => some ([o, b], fr23, O23 o b (i / 24) (i % 24), true) := by kernel_rfl
section
variable {ts : List (List GFace)} (hv : Val ts)
include hv
theorem c23_t {a f : Nat} (ha : a < ts.length) (hf : f < 4) :
    (Tends (fun K => impl_Triangulation_change23.f K ts (a : Int) (f : Int)) none ∧ Tends (fun K => spec_l12Plan23.f K ts (a : Int) (f : Int)) ([], [], [], false)) ∨
    (∃ b q : Nat, b < ts.length ∧ q < 24 ∧ face ts a f = ⟨b, q⟩ ∧ b ≠ a ∧ Tends (fun K => impl_Triangulation_change23.f K ts (a : Int) (f : Int)) (some ([(a : Int), (b : Int)], (O23 a b f q).foldl putO [], 3, in23)) ∧ Tends (fun K => spec_l12Plan23.f K ts (a : Int) (f : Int)) ([(a : Int), (b : Int)], fr23, O23 a b f q, true)) := by
  have hr := hv.four a ha
  have I : ∀ r, Tends (fun K => if decide ((face ts a f).Tet < 0) = true then some none else (if (face ts a f).Tet = (a : Int) then (some none) else (Go.Proofs.YtbjfinndngafoaaGreat.bind4 (impl_newChange.f 3 ([(a : Int), (face ts a f).Tet] : List Int)) (fun t23 t24 t25 t26 => (Go.Proofs.YtbjfinndngafoaaGreat.bind4 (impl_perm.f K (face ts a f).Perm) (fun t36 t37 t38 t39 => ((impl_others.f K ([(f : Int)] : List Int)).bind fun t45 => (impl_Triangulation_change23.l1 K K (a : Int) (f : Int) (face ts a f) t23 t25 t36 t37 t38 t39 t45 t24 t26 0)))))))) r → Tends (fun K => impl_Triangulation_change23.f K ts (a : Int) (f : Int)) r := fun r h => by
    refine Tends.pos (by omega) ?_
    simp only [Int.toNat_natCast]
    exact Tends.pos (by omega) h
  have S : ∀ r, Tends (fun K => if (face ts a f).Tet < 0 then (some (([] : List Int), ([] : List (List GFace)), ([] : List GL12Outer), false)) else (if (face ts a f).Tet = (a : Int) then (some (([] : List Int), ([] : List (List GFace)), ([] : List GL12Outer), false)) else (spec_l12Plan23.l1 K K (a : Int) (f : Int) (face ts a f) ([] : List Int) 0))) r → Tends (fun K => spec_l12Plan23.f K ts (a : Int) (f : Int)) r := fun r h => by
    refine Tends.pos (by omega) ?_
    simp only [Int.toNat_natCast]
    exact Tends.pos (by omega) h
  rcases face_cases hv ha hf with ⟨g1, _⟩ | ⟨g1, b, q, hb, hq, g2, g3⟩
  · exact .inl ⟨I _ (Tends.pos (decide_eq_true g1) (Tends.const _)), S _ (Tends.pos g1 (Tends.const _))⟩
  · rw [g2] at I S
    have n0 : ¬ ((b : Int) < 0) := by omega
    by_cases e : b = a
    · exact .inl ⟨I _ (Tends.neg (by rw [decide_eq_true_eq]; exact n0) (Tends.pos (by show (b : Int) = a; omega) (Tends.const _))), S _ (Tends.neg n0 (Tends.pos (by show (b : Int) = a; omega) (Tends.const _)))⟩
    · refine .inr ⟨b, q, hb, hq, g2, e, I _ (Tends.neg (by rw [decide_eq_true_eq]; exact n0) (Tends.neg (by show ¬ (b : Int) = a; omega) ?_)), S _ (Tends.neg n0 (Tends.neg (by show ¬ (b : Int) = a; omega) ?_))⟩
      · refine Tends.bind4 (a := [(a : Int), (b : Int)]) (b := []) (c := 3) (d := []) (Tends.const _) (Tends.bind4 (perm_t hq) (Tends.bind (others1_t hf) ?_))
        exact tab2 (F := fun K f q => impl_Triangulation_change23.l1 K K (a : Int) (f : Int) ⟨(b : Int), (q : Int)⟩ [(a : Int), (b : Int)] 3 (PA q 0 : Int) (PA q 1 : Int) (PA q 2 : Int) (PA q 3 : Int) (ints (OT [f])) [] [] 0) (g := fun f q => some ([(a : Int), (b : Int)], (O23 a b f q).foldl putO [], 3, in23)) (a := 4) (b := 24) (m := 100) (funext fun K => congrFun (congrFun (congrFun i23_tab K) (a : Int)) (b : Int)) hf hq
      · exact tab2 (F := fun K f q => spec_l12Plan23.l1 K K (a : Int) (f : Int) ⟨(b : Int), (q : Int)⟩ [] 0) (g := fun f q => ([(a : Int), (b : Int)], fr23, O23 a b f q, true)) (a := 4) (b := 24) (m := 100) (funext fun K => congrFun (congrFun (congrFun s23_tab K) (a : Int)) (b : Int)) hf hq
end
def EXC (i j : Nat) : Nat := PX ((([0, 1, 2, 3].set i j).set j i).getD 0 0) ((([0, 1, 2, 3].set i j).set j i).getD 1 0) ((([0, 1, 2, 3].set i j).set j i).getD 2 0) ((([0, 1, 2, 3].set i j).set j i).getD 3 0)
def O14 (t : Int) : List GL12Outer := [⟨t, 0, 0, 0⟩, ⟨t, 1, 1, 0⟩, ⟨t, 2, 2, 0⟩, ⟨t, 3, 3, 0⟩]
def in14 : List Arr4 := [⟨1, 0, 0, 6⟩, ⟨2, 0, 0, 14⟩, ⟨2, 1, 1, 2⟩, ⟨3, 0, 0, 21⟩, ⟨3, 1, 1, 5⟩, ⟨3, 2, 2, 1⟩]
def fr14 : List (List GFace) := [[⟨-1, 0⟩, ⟨1, 6⟩, ⟨2, 14⟩, ⟨3, 21⟩], [⟨0, 6⟩, ⟨-1, 0⟩, ⟨2, 2⟩, ⟨3, 5⟩], [⟨0, 14⟩, ⟨1, 2⟩, ⟨-1, 0⟩, ⟨3, 1⟩], [⟨0, 21⟩, ⟨1, 5⟩, ⟨2, 1⟩, ⟨-1, 0⟩]]
theorem i14_tab : (fun (K : Nat) (t : Int) => impl_change14.f (K + 100) t) = fun K t => some ([t], (O14 t).foldl putO [], 4, in14) := by kernel_rfl
theorem s14_tab : (fun (K : Nat) (t : Int) => spec_l12Plan14.f (K + 100) t) = fun K t => some ([t], fr14, O14 t) := by kernel_rfl
theorem c14_i (t : Int) : Tends (fun K => impl_change14.f K t) ([t], (O14 t).foldl putO [], 4, in14) := ⟨100, fun K hK => by
  have := congrFun (congrFun i14_tab (K - 100)) t
  rw [show K = K - 100 + 100 by omega]; exact this⟩
theorem c14_s (t : Int) : Tends (fun K => spec_l12Plan14.f K t) ([t], fr14, O14 t) := ⟨100, fun K hK => by
  have := congrFun (congrFun s14_tab (K - 100)) t
  rw [show K = K - 100 + 100 by omega]; exact this⟩
end Go.Proofs.YtbjfinndngafoaaGreat
