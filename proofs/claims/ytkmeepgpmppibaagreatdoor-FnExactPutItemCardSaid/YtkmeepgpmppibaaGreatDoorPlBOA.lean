/-
  Copies of lists and stacks; a list pushed onto a stack; sizes.
-/
import Derived.Test.YtkmeepgpmppibaaGreatDoorPlBO
set_option linter.unusedVariables false
set_option linter.unusedSimpArgs false
namespace Go.Proofs.YtkmeepgpmppibaaGreatDoor
open Go.RowKit
theorem aK {xs : List Am} (hn : xs.length ≤ 2000000) (h : ∀ i, i < xs.length → Small (xs.getD i Br)) : Ab (fun K => Gc.f K xs) xs := by
  refine Ab.congr (fun K => rfl) (Pj (z := Br) (c := 200) (l := fun K k out i => Gc.l1 K k xs out (i : Int)) (one := fun K i => yE K (xs.getD i Br)) hn (by decide) (fun K k out i hi => ?_) (fun K k out => by rw [Gc.l1, if_neg (by omega)]) (fun i hi => Ab.Hf (Vf (h i hi)) (Ab.const _)) xs.length 0 (by omega) (by omega)).Ib
  rw [Gc.l1, if_pos (by omega), if_pos (by omega), Int.toNat_natCast, Fe, Q6, Cc (by omega)]
theorem Un {xs : List Am} (hn : xs.length ≤ 2000000) (h : ∀ i, i < xs.length → Small (xs.getD i Br)) : Ab (fun K => Dn.f K xs) xs := by
  refine Ab.congr (fun K => rfl) (Pj (z := Br) (c := 200) (l := fun K k out i => Dn.l1 K k xs out (i : Int)) (one := fun K i => wZ K (xs.getD i Br)) hn (by decide) (fun K k out i hi => ?_) (fun K k out => by rw [Dn.l1, if_neg (by omega)]) (fun i hi => Ab.Hf (Vv (h i hi)) (Ab.const _)) xs.length 0 (by omega) (by omega)).Ib
  rw [Dn.l1, if_pos (by omega), if_pos (by omega), Int.toNat_natCast, Fe, Q6, Cc (by omega)]
theorem gW {L : List (List Am)} (h : Jb L) : Ab (fun K => D6.f K L) L := by
  have hn := h.1
  refine Ab.congr (fun K => rfl) (Pj (z := []) (c := 24) (l := fun K k out i => D6.l1 K k L out (i : Int)) (one := fun K i => Gc.f K (L.getD i [])) hn (by decide) (fun K k out i hi => ?_) (fun K k out => by rw [D6.l1, if_neg (by omega)]) (fun i hi => aK (h.2 i hi).1 (h.2 i hi).2) L.length 0 (by omega) (by omega)).Ib
  rw [D6.l1, if_pos (by omega), if_pos (by omega), Int.toNat_natCast, Cc (by omega)]
theorem Vo {L : List (List Am)} (h : Jb L) : Ab (fun K => En.f K L) L := by
  have hn := h.1
  refine Ab.congr (fun K => rfl) (Pj (z := []) (c := 24) (l := fun K k out i => En.l1 K k L out (i : Int)) (one := fun K i => Dn.f K (L.getD i [])) hn (by decide) (fun K k out i hi => ?_) (fun K k out => by rw [En.l1, if_neg (by omega)]) (fun i hi => Un (h.2 i hi).1 (h.2 i hi).2) L.length 0 (by omega) (by omega)).Ib
  rw [En.l1, if_pos (by omega), if_pos (by omega), Int.toNat_natCast, Cc (by omega)]
def push (L : List (List Am)) (I : List Am) : List (List Am) := if 6 < ((L ++ [I]).length : Int) then (L ++ [I]).drop 1 else L ++ [I]
theorem bC {L : List (List Am)} {I : List Am} (h : 6 < ((L ++ [I]).length : Int)) : push L I = (L ++ [I]).drop 1 := if_pos h
theorem bG {L : List (List Am)} {I : List Am} (h : ¬ 6 < ((L ++ [I]).length : Int)) : push L I = L ++ [I] := if_neg h
theorem iJ {L : List (List Am)} {I : List Am} (h : Jb L) (hn : I.length ≤ 2000000) (hI : ∀ i, i < I.length → Small (I.getD i Br)) : Ab (fun K => Kt.f K L I) (push L I) := by
  have h0 := h.1
  unfold Kt.f
  refine Ab.bind (gW h) (Ab.bind (aK hn hI) (Ab.pos (by omega) ?_))
  by_cases h6 : 6 < ((L ++ [I]).length : Int)
  · rw [bC h6]
    refine Ab.pos h6 (Ab.pos (by omega) ?_)
    rw [List.take_length]
    exact Ab.const _
  · rw [bG h6]
    exact Ab.neg h6 (Ab.const _)
theorem gT {L : List (List Am)} {I : List Am} (h : (L.length : Int) ≤ 6) : Lc.f L I = some (push L I) := by
  have hl : (L ++ [I]).length = L.length + 1 := by simp
  unfold Lc.f
  have hw : w64 (((L ++ [I]).length : Int) - 6) = ((L ++ [I]).length : Int) - 6 := H8 (by omega) (by omega)
  have hm : (if ((L ++ [I]).length : Int) - 6 > 0 then ((L ++ [I]).length : Int) - 6 else 0) = if 6 < ((L ++ [I]).length : Int) then 1 else 0 := by split <;> split <;> omega
  rw [hw, hm, if_pos (by omega), List.take_length]
  by_cases h6 : 6 < ((L ++ [I]).length : Int)
  · rw [bC h6]
    simp only [if_pos h6]
    rw [if_pos (by omega)]
    rfl
  · rw [bG h6]
    simp only [if_neg h6]
    rw [if_pos (by omega)]
    rfl
theorem Pq (xs : List (List Am)) : Hu xs = (xs.map Kk).sum := Ws Kk [] xs 0 _ (fun j _ => by rw [Nat.zero_add])
theorem Vl (xs : List (List Am)) (x : List Am) : Hu (xs ++ [x]) = Hu xs + Kk x := by
  rw [Pq, Pq, List.map_append, List.sum_append]; simp
theorem Zo (xs : List (List Am)) : Hu (xs.drop 1) ≤ Hu xs := by
  rw [Pq, Pq]
  cases xs with
  | nil => exact Nat.le_refl _
  | cons x r => rw [List.drop_succ_cons, List.drop_zero, List.map_cons, List.sum_cons]; omega
theorem Zm (L : List (List Am)) (I : List Am) : Hu (push L I) ≤ Hu L + Kk I := by
  rw [← Vl]
  unfold push
  split
  · exact Zo _
  · exact Nat.le_refl _
theorem Jb.mem {L : List (List Am)} (h : Jb L) {y : List Am} (hy : y ∈ L) : y.length ≤ 2000000 ∧ ∀ j, j < y.length → Small (y.getD j Br) := by
  obtain ⟨i, hi, rfl⟩ := List.getElem_of_mem hy
  have := h.2 i hi
  rw [List.getD_eq_getElem?_getD, List.getElem?_eq_getElem hi] at this
  exact this
theorem Jb.of {L : List (List Am)} (hn : L.length ≤ 2000000) (h : ∀ y, y ∈ L → y.length ≤ 2000000 ∧ ∀ j, j < y.length → Small (y.getD j Br)) : Jb L := ⟨hn, fun i hi => h _ (Oo [] hi)⟩
theorem Jb.push {L : List (List Am)} {I : List Am} (h : Jb L) (h6 : (L.length : Int) ≤ 6) (hn : I.length ≤ 2000000) (hI : ∀ i, i < I.length → Small (I.getD i Br)) : Jb (Go.Proofs.YtkmeepgpmppibaaGreatDoor.push L I) := by
  have hm : ∀ y, y ∈ L ++ [I] → y.length ≤ 2000000 ∧ ∀ j, j < y.length → Small (y.getD j Br) := fun y hy => by
    rcases List.mem_append.1 hy with hy | hy
    · exact h.mem hy
    · rw [List.mem_singleton.1 hy]; exact ⟨hn, hI⟩
  unfold Go.Proofs.YtkmeepgpmppibaaGreatDoor.push
  split
  · exact Jb.of (by simp; omega) (fun y hy => hm y (List.mem_of_mem_drop hy))
  · exact Jb.of (by simp; omega) hm
end Go.Proofs.YtkmeepgpmppibaaGreatDoor
