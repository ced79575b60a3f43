/-
  UndoBench: both undo alike.
-/
import Derived.Test.YthjomdggdaocgaaGreatDoorPlBO
set_option linter.unusedVariables false
set_option linter.unusedSimpArgs false
namespace Go.Proofs.YthjomdggdaocgaaGreatDoor
open Go.RowKit
theorem undo_both {I : List GItem} {U R : List (List GItem)} (hI : I.length ≤ 2000000) (hIs : ∀ i, i < I.length → Small (I.getD i z_GItem)) (hU : StackS U) (hR : StackS R) : ∃ (A : List GItem) (B C : List (List GItem)) (c : Int),
    Tends (fun K => spec_UndoBench.f K I U R) (A, B, C, c) ∧ Tends (fun K => impl_UndoBench.f K I U R) (A, B, C, c) ∧ A.length ≤ 2000000 ∧ (∀ i, i < A.length → Small (A.getD i z_GItem)) ∧ StackS B ∧ StackS C ∧ cItemS A + cItemSS B + cItemSS C ≤ cItemS I + cItemSS U + cItemSS R := by
  obtain ⟨b, b1, b2, b3⟩ := bench_both hI hIs hU hR
  have e0 : StackS [] := ⟨by simp, fun i hi => by simp at hi⟩
  have z0 : cItemS [] + cItemSS [] + cItemSS [] ≤ cItemS I + cItemSS U + cItemSS R := by
    have h1 : cItemS [] = 0 := rfl
    have h2 : cItemSS [] = 0 := rfl
    omega
  unfold spec_UndoBench.f impl_UndoBench.f
  cases b with
  | false => exact ⟨[], [], [], 1, Tends.bind b1 (Tends.neg (by decide) (Tends.const _)), Tends.bind b2 (Tends.neg (by decide) (Tends.const _)), by simp, fun i hi => by simp at hi, e0, e0, z0⟩
  | true =>
    obtain ⟨u6, r6⟩ := b3 rfl
    by_cases hn : (U.length : Int) = 0
    · exact ⟨[], [], [], 5, Tends.bind b1 (Tends.pos rfl (Tends.pos hn (Tends.const _))), Tends.bind b2 (Tends.pos rfl (Tends.pos hn (Tends.const _))), by simp, fun i hi => by simp at hi, e0, e0, z0⟩
    · have hlt : U.length - 1 < U.length := by omega
      have hw : w64 ((U.length : Int) - 1) = ((U.length - 1 : Nat) : Int) := by rw [w64_id (by omega) (by omega)]; omega
      have hlast := hU.2 (U.length - 1) hlt
      have hT : StackS ((U.take (U.length - 1)).drop 0) := by
        rw [List.drop_zero]
        exact StackS.of (by rw [List.length_take]; omega) (fun y hy => hU.mem (List.mem_of_mem_take hy))
      refine ⟨U.getD (U.length - 1) [], (U.take (U.length - 1)).drop 0, push R I, 0, ?_, ?_, hlast.1, hlast.2, hT, hR.push r6 hI hIs, ?_⟩
      · refine Tends.bind b1 (Tends.pos rfl (Tends.neg hn ?_))
        simp only [hw, Int.toNat_natCast]
        exact Tends.pos (by omega) (Tends.bind (own_list hlast.1 hlast.2) (Tends.pos (by omega) (Tends.bind (own_stack hT) (Tends.bind (push_spec hR hI hIs) (Tends.const _)))))
      · refine Tends.bind b2 (Tends.pos rfl (Tends.neg hn ?_))
        refine Tends.bind3 (F := fun K => impl_copyBench.f K I U R) (Tends.bind (copy_list hI hIs) (Tends.bind (copy_stack hU) (Tends.bind (copy_stack hR) (Tends.const _)))) ?_
        simp only [hw, Int.toNat_natCast]
        refine Tends.pos (by omega) (Tends.pos (by omega) ?_)
        rw [push_impl r6]
        exact Tends.const _
      · have h1 := cItemSS_take hlt
        have h2 := cItemSS_push R I
        rw [List.drop_zero]
        omega
end Go.Proofs.YthjomdggdaocgaaGreatDoor
