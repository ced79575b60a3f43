/-
  Triangulations: what the move 3-2 plans.
-/
import Derived.Test.YtbjfinndngafoaaGreatPlT20
set_option linter.unusedVariables false
set_option linter.unusedSimpArgs false
set_option linter.unusedSectionVars false
namespace Go.Proofs.YtbjfinndngafoaaGreat
open Go.RowKit
def X32 (i p : Nat) : Nat := MP [PA p 0, PA p 2, PA p 3, PA p 1] [0, 1 + i, 1 + (i + 1) % 3, 1 + (i + 2) % 3]
def Y32 (i p : Nat) : Nat := MP [PA p 1, PA p 2, PA p 3, PA p 0] [0, 1 + i, 1 + (i + 1) % 3, 1 + (i + 2) % 3]
def oX (i : Nat) (c : Nat × Nat) : GL12Outer := ⟨(c.1 : Int), (PA c.2 1 : Nat), 0, (X32 i c.2 : Nat)⟩
def oY (i : Nat) (c : Nat × Nat) : GL12Outer := ⟨(c.1 : Int), (PA c.2 0 : Nat), 1, (Y32 i c.2 : Nat)⟩
def O32 (c0 c1 c2 : Nat × Nat) : List GL12Outer := [oX 0 c0, oY 0 c0, oX 1 c1, oY 1 c1, oX 2 c2, oY 2 c2]
def fr32 : List (List GFace) := [[⟨1, 0⟩, ⟨-1, 0⟩, ⟨-1, 0⟩, ⟨-1, 0⟩], [⟨0, 0⟩, ⟨-1, 0⟩, ⟨-1, 0⟩, ⟨-1, 0⟩]]
def in32 : List Arr4 := [⟨0, 0, 1, 0⟩]
theorem x32_tab : (fun (K : Nat) => (List.range 72).map fun j : Nat => spec_l12Map.f (K + 60) [(PA (j % 24) 0 : Int), (PA (j % 24) 2 : Int), (PA (j % 24) 3 : Int), (PA (j % 24) 1 : Int)] [0, w64 (1 + ((j / 24 : Nat) : Int)), w64 (1 + ((w64 (((j / 24 : Nat) : Int) + 1)).tmod 3)), w64 (1 + ((w64 (((j / 24 : Nat) : Int) + 2)).tmod 3))]) = fun K => (List.range 72).map fun j : Nat => some ((X32 (j / 24) (j % 24) : Nat) : Int) := by kernel_rfl
theorem y32_tab : (fun (K : Nat) => (List.range 72).map fun j : Nat => spec_l12Map.f (K + 60) [(PA (j % 24) 1 : Int), (PA (j % 24) 2 : Int), (PA (j % 24) 3 : Int), (PA (j % 24) 0 : Int)] [0, w64 (1 + ((j / 24 : Nat) : Int)), w64 (1 + ((w64 (((j / 24 : Nat) : Int) + 1)).tmod 3)), w64 (1 + ((w64 (((j / 24 : Nat) : Int) + 2)).tmod 3))]) = fun K => (List.range 72).map fun j : Nat => some ((Y32 (j / 24) (j % 24) : Nat) : Int) := by kernel_rfl
def ixX (K i p : Nat) : Option Int := impl_indexOf.f K (se 0 (PA p 3 : Int) (w64 (1 + ((w64 ((i : Int) + 1)).tmod 3))) (se 0 (PA p 2 : Int) (w64 (1 + (i : Int))) (se 0 (PA p 1 : Int) (w64 (1 + ((w64 ((i : Int) + 2)).tmod 3))) (se 0 (PA p 0 : Int) 0 0)))) (se 1 (PA p 3 : Int) (w64 (1 + ((w64 ((i : Int) + 1)).tmod 3))) (se 1 (PA p 2 : Int) (w64 (1 + (i : Int))) (se 1 (PA p 1 : Int) (w64 (1 + ((w64 ((i : Int) + 2)).tmod 3))) (se 1 (PA p 0 : Int) 0 0)))) (se 2 (PA p 3 : Int) (w64 (1 + ((w64 ((i : Int) + 1)).tmod 3))) (se 2 (PA p 2 : Int) (w64 (1 + (i : Int))) (se 2 (PA p 1 : Int) (w64 (1 + ((w64 ((i : Int) + 2)).tmod 3))) (se 2 (PA p 0 : Int) 0 0)))) (se 3 (PA p 3 : Int) (w64 (1 + ((w64 ((i : Int) + 1)).tmod 3))) (se 3 (PA p 2 : Int) (w64 (1 + (i : Int))) (se 3 (PA p 1 : Int) (w64 (1 + ((w64 ((i : Int) + 2)).tmod 3))) (se 3 (PA p 0 : Int) 0 0))))
def ixY (K i p : Nat) : Option Int := impl_indexOf.f K (se 0 (PA p 3 : Int) (w64 (1 + ((w64 ((i : Int) + 1)).tmod 3))) (se 0 (PA p 2 : Int) (w64 (1 + (i : Int))) (se 0 (PA p 1 : Int) 0 (se 0 (PA p 0 : Int) (w64 (1 + ((w64 ((i : Int) + 2)).tmod 3))) 0)))) (se 1 (PA p 3 : Int) (w64 (1 + ((w64 ((i : Int) + 1)).tmod 3))) (se 1 (PA p 2 : Int) (w64 (1 + (i : Int))) (se 1 (PA p 1 : Int) 0 (se 1 (PA p 0 : Int) (w64 (1 + ((w64 ((i : Int) + 2)).tmod 3))) 0)))) (se 2 (PA p 3 : Int) (w64 (1 + ((w64 ((i : Int) + 1)).tmod 3))) (se 2 (PA p 2 : Int) (w64 (1 + (i : Int))) (se 2 (PA p 1 : Int) 0 (se 2 (PA p 0 : Int) (w64 (1 + ((w64 ((i : Int) + 2)).tmod 3))) 0)))) (se 3 (PA p 3 : Int) (w64 (1 + ((w64 ((i : Int) + 1)).tmod 3))) (se 3 (PA p 2 : Int) (w64 (1 + (i : Int))) (se 3 (PA p 1 : Int) 0 (se 3 (PA p 0 : Int) (w64 (1 + ((w64 ((i : Int) + 2)).tmod 3))) 0))))
theorem ixX_tab : (fun (K : Nat) => (List.range (3 * 24)).map fun j : Nat => ixX (K + 60) (j / 24) (j % 24)) = fun K => (List.range (3 * 24)).map fun j : Nat => some ((X32 (j / 24) (j % 24) : Nat) : Int) := by kernel_rfl
theorem ixY_tab : (fun (K : Nat) => (List.range (3 * 24)).map fun j : Nat => ixY (K + 60) (j / 24) (j % 24)) = fun K => (List.range (3 * 24)).map fun j : Nat => some ((Y32 (j / 24) (j % 24) : Nat) : Int) := by kernel_rfl
section
variable {i p : Nat} (hi : i < 3) (hp : p < 24)
include hi hp
theorem map32_x : Tends (fun K => spec_l12Map.f K [(PA p 0 : Int), (PA p 2 : Int), (PA p 3 : Int), (PA p 1 : Int)] [0, w64 (1 + (i : Int)), w64 (1 + ((w64 ((i : Int) + 1)).tmod 3)), w64 (1 + ((w64 ((i : Int) + 2)).tmod 3))]) ((X32 i p : Nat) : Int) :=
  tab2 (F := fun K i p => spec_l12Map.f K [(PA p 0 : Int), (PA p 2 : Int), (PA p 3 : Int), (PA p 1 : Int)] [0, w64 (1 + (i : Int)), w64 (1 + ((w64 ((i : Int) + 1)).tmod 3)), w64 (1 + ((w64 ((i : Int) + 2)).tmod 3))]) (g := fun i p => ((X32 i p : Nat) : Int)) (a := 3) (b := 24) (m := 60) x32_tab hi hp
theorem map32_y : Tends (fun K => spec_l12Map.f K [(PA p 1 : Int), (PA p 2 : Int), (PA p 3 : Int), (PA p 0 : Int)] [0, w64 (1 + (i : Int)), w64 (1 + ((w64 ((i : Int) + 1)).tmod 3)), w64 (1 + ((w64 ((i : Int) + 2)).tmod 3))]) ((Y32 i p : Nat) : Int) :=
  tab2 (F := fun K i p => spec_l12Map.f K [(PA p 1 : Int), (PA p 2 : Int), (PA p 3 : Int), (PA p 0 : Int)] [0, w64 (1 + (i : Int)), w64 (1 + ((w64 ((i : Int) + 1)).tmod 3)), w64 (1 + ((w64 ((i : Int) + 2)).tmod 3))]) (g := fun i p => ((Y32 i p : Nat) : Int)) (a := 3) (b := 24) (m := 60) y32_tab hi hp
theorem ixX_t : Tends (fun K => ixX K i p) ((X32 i p : Nat) : Int) := tab2 (F := ixX) (g := fun i p => ((X32 i p : Nat) : Int)) (a := 3) (b := 24) (m := 60) ixX_tab hi hp
theorem ixY_t : Tends (fun K => ixY K i p) ((Y32 i p : Nat) : Int) := tab2 (F := ixY) (g := fun i p => ((Y32 i p : Nat) : Int)) (a := 3) (b := 24) (m := 60) ixY_tab hi hp
end
section
variable {ring : List GFace} (hl : ring.length = 3) {i : Nat} (hi : i < 3) {c : Nat × Nat} (hp : c.2 < 24) (hr : ring.getD i z_GFace = crn c)
include hl hi hp hr
theorem i32_step {old : List Int} {inner : List Arr4} {m : List (Arr2 × GPlace)} {R : Option (List Int × List (Arr2 × GPlace) × Int × List Arr4)}
    (h : Tends2 (fun K k => impl_Triangulation_change32.l1 K k ring old 2 inner (putO (putO m (oX i c)) (oY i c)) ((i + 1 : Nat) : Int)) R) : Tends2 (fun K k => impl_Triangulation_change32.l1 K k ring old 2 inner m (i : Int)) R := by
  have h0 : PA c.2 0 < 4 := PA_lt hp (by omega)
  have h1 : PA c.2 1 < 4 := PA_lt hp (by omega)
  have h2 : PA c.2 2 < 4 := PA_lt hp (by omega)
  have h3 : PA c.2 3 < 4 := PA_lt hp (by omega)
  refine Tends2.succ ?_
  simp only [impl_Triangulation_change32.l1]
  rw [Int.toNat_natCast, hr]
  refine Tends2.pos (by omega) (Tends2.pos (by omega) ?_)
  simp only [bnd_eq, crn]
  refine Tends2.bind4 (perm_t hp).two ?_
  refine Tends2.pos (by omega) (Tends2.pos (by omega) (Tends2.pos (by omega) (Tends2.pos (by omega) ?_)))
  refine Tends2.bind (a := putO m (oX i c)) ?_ ?_
  rotate_left
  refine Tends2.bind (a := putO (putO m (oX i c)) (oY i c)) ?_ ?_
  rotate_left
  · rw [w64_succ (by omega)]; exact h
  · have := (ixX_t hi hp).two
    exact Tends2.bind this (Tends2.const _)
  · have := (ixY_t hi hp).two
    exact Tends2.bind this (Tends2.const _)
theorem s32_step {u v : List GFace} {old : List Int} {m : List GL12Outer} {R : List Int × List (List GFace) × List GL12Outer × Bool} (ho : old.length ≤ 10) (hm : m.length ≤ 20)
    (h : Tends2 (fun K k => spec_l12Plan32.l6 K k ring u v (old ++ [(c.1 : Int)]) ((m ++ [oX i c]) ++ [oY i c]) ((i + 1 : Nat) : Int)) R) : Tends2 (fun K k => spec_l12Plan32.l6 K k ring u v old m (i : Int)) R := by
  have h0 : PA c.2 0 < 4 := PA_lt hp (by omega)
  refine Tends2.succ ?_
  simp only [spec_l12Plan32.l6]
  rw [Int.toNat_natCast, hr]
  refine Tends2.pos (by omega) (Tends2.pos (by omega) ?_)
  simp only [bnd_eq, crn]
  refine Tends2.pos (by omega) ?_
  refine Tends2.bind (at_t hp (show 0 < 4 by omega)).two ?_
  refine Tends2.bind (at_t hp (show 1 < 4 by omega)).two ?_
  refine Tends2.bind (at_t hp (show 2 < 4 by omega)).two ?_
  refine Tends2.bind (at_t hp (show 3 < 4 by omega)).two ?_
  refine Tends2.bind (map32_x hi hp).two ?_
  refine Tends2.pos (by omega) ?_
  refine Tends2.bind (map32_y hi hp).two ?_
  refine Tends2.pos (by simp only [List.length_append, List.length_singleton]; omega) ?_
  rw [w64_succ (by omega)]
  exact h
end
section
variable {c0 c1 c2 : Nat × Nat} (h0 : c0.2 < 24) (h1 : c1.2 < 24) (h2 : c2.2 < 24)
include h0 h1 h2
theorem i32_all (old : List Int) (inner : List Arr4) : Tends (fun K => impl_Triangulation_change32.l1 K K [crn c0, crn c1, crn c2] old 2 inner [] 0) (some (old, (O32 c0 c1 c2).foldl putO [], 2, in32)) := by
  refine Tends2.diag (F := fun K k => impl_Triangulation_change32.l1 K k [crn c0, crn c1, crn c2] old 2 inner [] ((0 : Nat) : Int)) ?_
  refine i32_step rfl (by omega) h0 rfl (i32_step rfl (by omega) h1 rfl (i32_step rfl (by omega) h2 rfl ?_))
  exact Tends2.of fun K k => by rw [impl_Triangulation_change32.l1, if_neg (by show ¬ ((3 : Nat) : Int) < 3; omega)]; rfl
theorem s32_all : Tends2 (fun K k => spec_l12Plan32.l6 K k [crn c0, crn c1, crn c2] free4 free4 [] [] 0) ([(c0.1 : Int), (c1.1 : Int), (c2.1 : Int)], fr32, O32 c0 c1 c2, true) := by
  refine s32_step (i := 0) rfl (by omega) h0 rfl (by simp) (by simp) (s32_step rfl (by omega) h1 rfl (by simp) (by simp) (s32_step rfl (by omega) h2 rfl (by simp) (by simp) ?_))
  exact Tends2.of fun K k => by rw [spec_l12Plan32.l6, if_neg (by decide)]; rfl
end
end Go.Proofs.YtbjfinndngafoaaGreat
