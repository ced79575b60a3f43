/-
  RedoBench: both redo alike.
-/
import Derived.Test.YthjomdggdaocgaaGreatDoorPlBOA
set_option linter.unusedVariables false
set_option linter.unusedSimpArgs false
namespace Go.Proofs.YthjomdggdaocgaaGreatDoor
open Go.RowKit
theorem redo_both {I : List GItem} {U R : List (List GItem)} (hI : I.length ≤ 2000000) (hIs : ∀ i, i < I.length → Small (I.getD i z_GItem)) (hU : StackS U) (hR : StackS R) : ∃ (A : List GItem) (B C : List (List GItem)) (c : Int),
    Tends (fun K => spec_RedoBench.f K I U R) (A, B, C, c) ∧ Tends (fun K => impl_RedoBench.f K I U R) (A, B, C, c) ∧ A.length ≤ 2000000 ∧ (∀ i, i < A.length → Small (A.getD i z_GItem)) ∧ StackS B ∧ StackS C ∧ cItemS A + cItemSS B + cItemSS C ≤ cItemS I + cItemSS U + cItemSS R := by
  obtain ⟨b, b1, _, b2, b3⟩ := bench_both hI hIs hU hR
  have e0 : StackS [] := ⟨by simp, fun i hi => by simp at hi⟩
  have z0 : cItemS [] + cItemSS [] + cItemSS [] ≤ cItemS I + cItemSS U + cItemSS R := by
    have h1 : cItemS [] = 0 := rfl
    have h2 : cItemSS [] = 0 := rfl
    omega
  unfold spec_RedoBench.f impl_RedoBench.f
  cases b with
  | false =>
    have hu : Tends (fun K => impl_UndoBench.f K I R U) (([] : List GItem), ([] : List (List GItem)), ([] : List (List GItem)), 1) := Tends.bind b2 (Tends.neg (by decide) (Tends.const _))
    exact ⟨[], [], [], 1, Tends.bind b1 (Tends.neg (by decide) (Tends.const _)), Tends.bind4 hu (Tends.const _), by simp, fun i hi => by simp at hi, e0, e0, z0⟩
  | true =>
    obtain ⟨⟨u6, r6⟩, _⟩ := b3 rfl
    by_cases hn : (R.length : Int) = 0
    · have hu : Tends (fun K => impl_UndoBench.f K I R U) (([] : List GItem), ([] : List (List GItem)), ([] : List (List GItem)), 5) := Tends.bind b2 (Tends.pos rfl (Tends.pos hn (Tends.const _)))
      exact ⟨[], [], [], 5, Tends.bind b1 (Tends.pos rfl (Tends.pos hn (Tends.const _))), Tends.bind4 hu (Tends.const _), by simp, fun i hi => by simp at hi, e0, e0, z0⟩
    · have hlt : R.length - 1 < R.length := by omega
      have hw : w64 ((R.length : Int) - 1) = ((R.length - 1 : Nat) : Int) := by rw [w64_id (by omega) (by omega)]; omega
      have hlast := hR.2 (R.length - 1) hlt
      have hT : StackS ((R.take (R.length - 1)).drop 0) := by
        rw [List.drop_zero]
        exact StackS.of (by rw [List.length_take]; omega) (fun y hy => hR.mem (List.mem_of_mem_take hy))
      have hu : Tends (fun K => impl_UndoBench.f K I R U) (R.getD (R.length - 1) [], (R.take (R.length - 1)).drop 0, push U I, 0) := by
        refine Tends.bind b2 (Tends.pos rfl (Tends.neg hn ?_))
        refine Tends.bind3 (F := fun K => impl_copyBench.f K I R U) (Tends.bind (copy_list hI hIs) (Tends.bind (copy_stack hR) (Tends.bind (copy_stack hU) (Tends.const _)))) ?_
        simp only [hw, Int.toNat_natCast]
        refine Tends.pos (by omega) (Tends.pos (by omega) ?_)
        rw [push_impl u6]
        exact Tends.const _
      refine ⟨R.getD (R.length - 1) [], push U I, (R.take (R.length - 1)).drop 0, 0, ?_, Tends.bind4 hu (Tends.const _), hlast.1, hlast.2, hU.push u6 hI hIs, hT, ?_⟩
      · refine Tends.bind b1 (Tends.pos rfl (Tends.neg hn ?_))
        simp only [hw, Int.toNat_natCast]
        exact Tends.pos (by omega) (Tends.bind (own_list hlast.1 hlast.2) (Tends.bind (push_spec hU hI hIs) (Tends.pos (by omega) (Tends.bind (own_stack hT) (Tends.const _)))))
      · have h1 := cItemSS_take hlt
        have h2 := cItemSS_push U I
        rw [List.drop_zero]
        omega
end Go.Proofs.YthjomdggdaocgaaGreatDoor
