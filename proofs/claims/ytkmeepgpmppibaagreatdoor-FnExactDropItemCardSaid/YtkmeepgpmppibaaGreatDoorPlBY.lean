/-
  DropItem: both drop alike.
-/
import Derived.Test.YtkmeepgpmppibaaGreatDoorPlBOA
import Derived.Test.YtkmeepgpmppibaaGreatDoorPlBF
import Derived.Test.YtkmeepgpmppibaaGreatDoorPlBX
set_option linter.unusedVariables false
set_option linter.unusedSimpArgs false
namespace Go.Proofs.YtkmeepgpmppibaaGreatDoor
open Go.RowKit
theorem cItemS_sum (xs : List GItem) : cItemS xs = (xs.map cItem).sum := sumF_map cItem z_GItem xs 0 _ (fun j _ => by rw [Nat.zero_add])
theorem cItemS_del {xs : List GItem} {j : Nat} (h : j < xs.length) : cItemS (xs.take j ++ xs.drop (j + 1)) ≤ cItemS xs := by
  have hx : xs = xs.take j ++ (xs[j] :: xs.drop (j + 1)) := by rw [← List.drop_eq_getElem_cons h, List.take_append_drop]
  have h2 : (xs.map cItem).sum = ((xs.take j ++ (xs[j] :: xs.drop (j + 1))).map cItem).sum := congrArg (fun l => (l.map cItem).sum) hx
  rw [List.map_append, List.sum_append, List.map_cons, List.sum_cons] at h2
  rw [cItemS_sum, cItemS_sum, h2, List.map_append, List.sum_append]
  omega
theorem small_mem {xs : List GItem} (h : ∀ i, i < xs.length → Small (xs.getD i z_GItem)) {x : GItem} (hx : x ∈ xs) : Small x := by
  obtain ⟨i, hi, rfl⟩ := List.getElem_of_mem hx
  have := h i hi
  rw [List.getD_eq_getElem?_getD, List.getElem?_eq_getElem hi] at this
  exact this
theorem small_del {xs : List GItem} (h : ∀ i, i < xs.length → Small (xs.getD i z_GItem)) (j : Nat) : ∀ i, i < (xs.take j ++ xs.drop (j + 1)).length → Small ((xs.take j ++ xs.drop (j + 1)).getD i z_GItem) := fun i hi => by
  have hm := getD_of z_GItem hi
  rcases List.mem_append.1 hm with hm | hm
  · exact small_mem h (List.mem_of_mem_take hm)
  · exact small_mem h (List.mem_of_mem_drop hm)
theorem delete_eq {s : List GItem} {j : Nat} (hj : j < s.length) : slices_Delete_impl_Item_impl_Item.f s (j : Int) ((j + 1 : Nat) : Int) = some (s.take j ++ s.drop (j + 1)) := by
  unfold slices_Delete_impl_Item_impl_Item.f
  have hR : (allRows s.length).length = s.length := allRows_length _
  have hp := pick_del z_GItem s (i := j) (j := j + 1) (by omega) (by omega)
  generalize allRows s.length = R at hR hp ⊢
  have hm : (((over R j (R.drop (j + 1))).take (j + (R.length - (j + 1)))).drop 0).length = j + (R.length - (j + 1)) := by
    rw [List.drop_zero, over_del (by omega) (by omega), List.length_append, List.length_take, List.length_drop]
    omega
  have hl : (over R j (R.drop (j + 1))).length = R.length := over_length (by rw [List.length_drop]; omega)
  rw [if_pos (by omega), if_pos (by omega), if_neg (by omega), if_pos (by omega), if_pos (by omega)]
  simp only [Int.toNat_natCast]
  rw [if_pos (by omega), hm, if_pos (by omega), if_pos (by omega), if_pos, over_del2 (by omega) (by omega), hp]
  · rfl
  · unfold over
    simp only [List.length_append, List.length_take, List.length_drop]
    omega
theorem drop_both {I : List GItem} {U R : List (List GItem)} (hI : I.length ≤ 2000000) (hIs : ∀ i, i < I.length → Small (I.getD i z_GItem)) (hU : StackS U) (hR : StackS R) (t : ByteArray) : ∃ (A : List GItem) (B C : List (List GItem)) (c : Int),
    Tends (fun K => spec_DropItem.f K I U R t) (A, B, C, c) ∧ Tends (fun K => impl_DropItem.f K I U R t) (A, B, C, c) ∧ A.length ≤ 2000000 ∧ (∀ i, i < A.length → Small (A.getD i z_GItem)) ∧ StackS B ∧ StackS C ∧ cItemS A + cItemSS B + cItemSS C ≤ 2 * (cItemS I + cItemSS U + cItemSS R) := by
  obtain ⟨b, b1, b2, _, b3⟩ := bench_both hI hIs hU hR
  have e0 : StackS [] := ⟨by simp, fun i hi => by simp at hi⟩
  have h1 : cItemS [] = 0 := rfl
  have h2 : cItemSS [] = 0 := rfl
  unfold spec_DropItem.f impl_DropItem.f
  cases b with
  | false =>
    obtain ⟨p, _, _, _, tp⟩ := itemAt_at (t := t) hI
    exact ⟨[], [], [], 1, Tends.bind b1 (Tends.neg (by decide) (Tends.const _)), Tends.bind2 tp (Tends.bind b2 (Tends.neg (by decide) (Tends.const _))), by simp, fun i hi => by simp at hi, e0, e0, by omega⟩
  | true =>
    obtain ⟨⟨u6, _⟩, hs⟩ := b3 rfl
    obtain ⟨v, p, q, tv, tp, c⟩ := find_both (t := t) hI hs
    rcases c with ⟨c1, rfl⟩ | ⟨rfl, rfl, c2, c3⟩
    · exact ⟨[], [], [], 4, Tends.bind b1 (Tends.pos rfl (Tends.bind tv (Tends.pos c1 (Tends.const _)))), Tends.bind2 tp (Tends.bind b2 (Tends.pos rfl (Tends.neg (by decide) (Tends.const _)))), by simp, fun i hi => by simp at hi, e0, e0, by omega⟩
    · obtain ⟨j, rfl⟩ : ∃ j : Nat, v = (j : Int) := ⟨v.toNat, by omega⟩
      have hj : j < I.length := by omega
      have hw : w64 ((j : Int) + 1) = ((j + 1 : Nat) : Int) := w64_succ (by omega)
      have hr : (allRows I.length).length = I.length := allRows_length _
      refine ⟨I.take j ++ I.drop (j + 1), push U I, [], 0, Tends.bind b1 (Tends.pos rfl (Tends.bind tv (Tends.neg (by omega) (Tends.bind (own_list hI hIs) ?_)))),
        Tends.bind2 tp (Tends.bind b2 (Tends.pos rfl (Tends.pos rfl (Tends.bind3 (F := fun K => impl_copyBench.f K I U R) (Tends.bind (copy_list hI hIs) (Tends.bind (copy_stack hU) (Tends.bind (copy_stack hR) (Tends.const _)))) (Tends.bind (copy_list hI hIs) ?_))))),
        ?_, small_del hIs j, hU.push u6 hI hIs, e0, ?_⟩
      · rw [hw]
        simp only [Int.toNat_natCast]
        refine Tends.pos (by omega) (Tends.pos (by omega) (Tends.pos (by omega) (Tends.bind (push_spec hU hI hIs) ?_)))
        rw [over_del (by omega) (by omega), pick_del z_GItem I (by omega) (by omega)]
        exact Tends.const _
      · rw [hw, delete_eq hj]
        simp only [impl_setItems.f, push_impl u6, Option.bind_some, bind2]
        exact Tends.const _
      · rw [List.length_append, List.length_take, List.length_drop]; omega
      · have h3 := cItemS_del hj
        have h4 := cItemSS_push U I
        omega
end Go.Proofs.YtkmeepgpmppibaaGreatDoor
