/-
  Loops that look for the first item that fails, whatever the loop; names, braid words and plain certificates.
-/
import Derived.Test.YtkmeepgpmppibaaGreatDoorPlB1
set_option linter.unusedVariables false
set_option linter.unusedSimpArgs false
set_option linter.unusedSectionVars false
namespace Go.Proofs.YtkmeepgpmppibaaGreatDoor
open Go.RowKit
def allB (n : Nat) (P : Nat → Bool) : Bool := (List.range n).all P
theorem allB_true {n : Nat} {P : Nat → Bool} (h : ∀ j, j < n → P j = true) : allB n P = true := by
  unfold allB; rw [List.all_eq_true]; intro x hx; exact h x (List.mem_range.1 hx)
theorem allB_false {n : Nat} {P : Nat → Bool} (h : ∃ j, j < n ∧ P j = false) : allB n P = false := by
  obtain ⟨j, h1, h2⟩ := h
  unfold allB; rw [List.all_eq_false]; exact ⟨j, List.mem_range.2 h1, by rw [h2]; decide⟩
theorem allB_get {n : Nat} {P : Nat → Bool} (h : allB n P = true) {j : Nat} (hj : j < n) : P j = true := by
  unfold allB at h; exact List.all_eq_true.1 h j (List.mem_range.2 hj)
theorem allB_congr {n : Nat} {P Q : Nat → Bool} (h : ∀ j, j < n → P j = Q j) : allB n P = allB n Q := by
  cases hq : allB n Q with
  | true => exact allB_true fun j hj => (h j hj).trans (allB_get hq hj)
  | false =>
    unfold allB at hq; rw [List.all_eq_false] at hq
    obtain ⟨j, hj, hn⟩ := hq
    exact allB_false ⟨j, List.mem_range.1 hj, by rw [h j (List.mem_range.1 hj)]; exact Bool.eq_false_iff.2 hn⟩
section
variable {α : Type} {l : Nat → Nat → Nat → Option α} {n : Nat} {P : Nat → Bool} {r : α} {N : α → Prop}
theorem scan_from (go : ∀ i, i < n → P i = true → ∀ v, Tends2 (fun K k => l K k (i + 1)) v → Tends2 (fun K k => l K k i) v)
    (stop : ∀ i, i < n → P i = false → ∃ v, N v ∧ Tends2 (fun K k => l K k i) v) (fin : Tends2 (fun K k => l K k n) r) :
    ∀ m i, n - i = m → i ≤ n → ((∀ j, i ≤ j → j < n → P j = true) ∧ Tends2 (fun K k => l K k i) r) ∨ ((∃ j, j < n ∧ P j = false) ∧ ∃ v, N v ∧ Tends2 (fun K k => l K k i) v)
  | 0, i, hm, hi => by
    obtain rfl : i = n := by omega
    exact .inl ⟨fun j h1 h2 => by omega, fin⟩
  | m + 1, i, hm, hi => by
    cases hp : P i with
    | false => exact .inr ⟨⟨i, by omega, hp⟩, stop i (by omega) hp⟩
    | true =>
      rcases scan_from go stop fin m (i + 1) (by omega) (by omega) with ⟨h1, h2⟩ | ⟨h1, v, h2, h3⟩
      · refine .inl ⟨fun j hj hlt => ?_, go i (by omega) hp _ h2⟩
        by_cases e : j = i
        · subst e; exact hp
        · exact h1 j (by omega) hlt
      · exact .inr ⟨h1, v, h2, go i (by omega) hp _ h3⟩
theorem scanG (go : ∀ i, i < n → P i = true → ∀ v, Tends2 (fun K k => l K k (i + 1)) v → Tends2 (fun K k => l K k i) v)
    (stop : ∀ i, i < n → P i = false → ∃ v, N v ∧ Tends2 (fun K k => l K k i) v) (fin : Tends2 (fun K k => l K k n) r) :
    (allB n P = true ∧ Tends2 (fun K k => l K k 0) r) ∨ (allB n P = false ∧ ∃ v, N v ∧ Tends2 (fun K k => l K k 0) v) := by
  rcases scan_from go stop fin n 0 (by omega) (by omega) with ⟨h1, h2⟩ | ⟨h1, h2⟩
  · exact .inl ⟨allB_true fun j hj => h1 j (Nat.zero_le _) hj, h2⟩
  · exact .inr ⟨allB_false h1, h2⟩
end
theorem scan_bool {l : Nat → Nat → Nat → Option Bool} {n : Nat} {P : Nat → Bool} {r : Bool} (go : ∀ i, i < n → P i = true → ∀ v, Tends2 (fun K k => l K k (i + 1)) v → Tends2 (fun K k => l K k i) v)
    (stop : ∀ i, i < n → P i = false → Tends2 (fun K k => l K k i) false) (fin : Tends2 (fun K k => l K k n) r) : Tends2 (fun K k => l K k 0) (allB n P && r) := by
  rcases scanG (N := fun v => v = false) go (fun i h1 h2 => ⟨false, rfl, stop i h1 h2⟩) fin with ⟨h1, h2⟩ | ⟨h1, v, rfl, h2⟩
  · rw [h1]; exact h2
  · rw [h1]; exact h2
theorem scan_idx {l : Nat → Nat → Nat → Option Int} {n : Nat} {P : Nat → Bool} (go : ∀ i, i < n → P i = true → ∀ v, Tends2 (fun K k => l K k (i + 1)) v → Tends2 (fun K k => l K k i) v)
    (stop : ∀ i, i < n → P i = false → Tends2 (fun K k => l K k i) (i : Int)) (fin : Tends2 (fun K k => l K k n) (-1)) : ∃ v : Int, Tends2 (fun K k => l K k 0) v ∧ decide (0 ≤ v) = !allB n P := by
  rcases scanG (N := fun v => 0 ≤ v) go (fun i h1 h2 => ⟨(i : Int), Int.natCast_nonneg i, stop i h1 h2⟩) fin with ⟨h1, h2⟩ | ⟨h1, v, h3, h2⟩
  · exact ⟨-1, h2, by rw [h1]; rfl⟩
  · exact ⟨v, h2, by rw [h1, decide_eq_true h3]; rfl⟩
theorem Tends2.of {α : Type} {F : Nat → Nat → Option α} {r : α} (h : ∀ K k, F K (k + 1) = some r) : Tends2 F r := Tends2.succ (Tends2.congr (G := fun _ _ => some r) h (Tends2.const _))
theorem Tends2.step {α : Type} {F G : Nat → Nat → Option α} {r : α} (h : ∀ K k, F K (k + 1) = G K k) (g : Tends2 G r) : Tends2 F r := Tends2.succ (Tends2.congr h g)
theorem inn_eq (v lo hi : Int) : spec_l01In.f v lo hi = some (decide (lo ≤ v ∧ v ≤ hi)) := by
  unfold spec_l01In.f
  by_cases h : lo ≤ v <;> simp [h]
theorem in7_eq (v lo hi : Int) : spec_l07In.f v lo hi = some (decide (lo ≤ v ∧ v ≤ hi)) := by
  unfold spec_l07In.f
  by_cases h : lo ≤ v <;> simp [h]
theorem rng_eq (v lo hi : Int) : impl_inRange.f v lo hi = some (decide (lo ≤ v ∧ v ≤ hi)) := by
  unfold impl_inRange.f
  by_cases h : lo ≤ v <;> simp [h]
theorem sget_get (s : ByteArray) {i : Nat} (h : i < s.size) : sget s i = ((s.get! i).toNat : Int) := by
  unfold sget
  have h' : i < s.data.size := h
  have e : s.get! i = s.data[i]! := rfl
  rw [e, List.getD_eq_getElem?_getD, Array.getElem?_toList, getElem?_pos s.data i h', getElem!_pos s.data i h']
  rfl
theorem decode_lo {s : ByteArray} {i : Nat} (h : (s.get! i).toNat < 128) : Utf8.decode s i = ((s.get! i).toNat, 1) := by
  unfold Utf8.decode
  simp only [Nat.add_zero]
  rw [if_pos h]
theorem decode_hi {s : ByteArray} {i : Nat} (h : 128 ≤ (s.get! i).toNat) : 128 ≤ (Utf8.decode s i).1 := by
  unfold Utf8.decode
  simp only [Nat.add_zero, Utf8.runeError]
  rw [if_neg (by omega)]
  repeat' split
  all_goals first | (simp_all; done) | (simp_all; omega) | (simp only; omega)
def letterB (s : ByteArray) (i : Nat) : Bool := decide (97 ≤ sget s i ∧ sget s i ≤ 122)
theorem name_spec {s : ByteArray} (hs : s.size ≤ 2000000) : Tends (fun K => spec_l33Name.f K s) (allB s.size (letterB s) && decide (1 ≤ s.size ∧ s.size ≤ 8)) := by
  refine (scan_bool (l := fun K k i => spec_l33Name.l1 K k s (i : Int)) (fun i hi hp v hv => ?_) (fun i hi hp => ?_) ?_).diag
  · have := of_decide_eq_true hp
    refine Tends2.step (fun K k => ?_) hv
    rw [spec_l33Name.l1, if_pos (by omega), if_pos (by omega), Int.toNat_natCast, if_neg (by omega), if_neg (by omega), w64_succ (by omega)]
  · have := of_decide_eq_false hp
    refine Tends2.of fun K k => ?_
    rw [spec_l33Name.l1, if_pos (by omega), if_pos (by omega), Int.toNat_natCast]
    by_cases h : sget s i < 97
    · rw [if_pos h]
    · rw [if_neg h, if_pos (by omega)]
  · refine Tends2.of fun K k => ?_
    rw [spec_l33Name.l1, if_neg (by omega)]
    by_cases h : 1 ≤ s.size
    · rw [if_pos (by omega)]; congr 1; apply decide_eq_decide.2; omega
    · rw [if_neg (by omega)]; congr 1; symm; apply decide_eq_false; omega
theorem name_fn {s : ByteArray} {i : Nat} (hi : i < s.size) : impl_isItemName_fn1.f ((Utf8.decode s i).1 : Int) = some (!letterB s i) ∧ (letterB s i = true → (Utf8.decode s i).2 = 1) := by
  have e := sget_get s hi
  have hf : ∀ c : Int, impl_isItemName_fn1.f c = some (!decide (97 ≤ c ∧ c ≤ 122)) := fun c => by
    unfold impl_isItemName_fn1.f
    by_cases h : c < 97
    · rw [if_pos h, decide_eq_false (by omega)]; rfl
    · rw [if_neg h]; congr 1
      by_cases h2 : 122 < c
      · rw [decide_eq_true h2, decide_eq_false (by omega)]; rfl
      · rw [decide_eq_false h2, decide_eq_true (by omega)]; rfl
  rw [hf]
  by_cases h : (s.get! i).toNat < 128
  · rw [decode_lo h]; unfold letterB; rw [e]; exact ⟨rfl, fun _ => rfl⟩
  · have h2 := decode_hi (s := s) (i := i) (by omega)
    unfold letterB
    rw [e, decide_eq_false (by omega), decide_eq_false (by omega)]
    exact ⟨rfl, fun h => by cases h⟩
theorem name_impl {s : ByteArray} (hs : s.size ≤ 2000000) : Tends (fun K => impl_isItemName.f K s) (allB s.size (letterB s) && decide (1 ≤ s.size ∧ s.size ≤ 8)) := by
  obtain ⟨v, t, e⟩ := scan_idx (l := fun K k i => strings_indexFunc_isItemName_fn1.l1 K k s true i) (n := s.size) (P := letterB s) (fun i hi hp v hv => Tends2.step (fun K k => by
      rw [strings_indexFunc_isItemName_fn1.l1, if_pos hi, (name_fn hi).1, Option.bind_some, hp, if_neg (by decide), (name_fn hi).2 hp]) hv)
    (fun i hi hp => Tends2.of fun K k => by rw [strings_indexFunc_isItemName_fn1.l1, if_pos hi, (name_fn hi).1, Option.bind_some, hp, if_pos (by decide)])
    (Tends2.of fun K k => by rw [strings_indexFunc_isItemName_fn1.l1, if_neg (Nat.lt_irrefl _)])
  have t1 : Tends (fun K => strings_ContainsFunc_isItemName_fn1.f K s) (!allB s.size (letterB s)) := by
    rw [← e]
    exact Tends.bind (F := fun K => strings_IndexFunc_isItemName_fn1.f K s) (Tends.bind (F := fun K => strings_indexFunc_isItemName_fn1.f K s true) t.diag (Tends.const _)) (Tends.const _)
  unfold impl_isItemName.f
  by_cases h1 : 1 ≤ s.size
  · by_cases h2 : s.size ≤ 8
    · rw [decide_eq_true (show 1 ≤ s.size ∧ s.size ≤ 8 from ⟨h1, h2⟩), Bool.and_true]
      refine Tends.pos (by omega) (Tends.pos (by omega) (Tends.bind t1 ?_))
      rw [Bool.not_not]; exact Tends.const _
    · rw [decide_eq_false (by omega), Bool.and_false]
      exact Tends.pos (by omega) (Tends.neg (by omega) (Tends.const _))
  · rw [decide_eq_false (by omega), Bool.and_false]
    exact Tends.neg (by omega) (Tends.const _)
def letB (st n : Int) : Bool := decide (n ≠ 0 ∧ w64 (1 - st) ≤ n ∧ n ≤ w64 (st - 1))
theorem letter_spec (n st : Int) : spec_l32Letter.f n st = some (letB st n) := by
  unfold spec_l32Letter.f letB
  by_cases h : n = 0
  · rw [if_pos h, decide_eq_false (by omega)]
  · rw [if_neg h, inn_eq, Option.bind_some]; congr 1; apply decide_eq_decide.2; exact ⟨fun x => ⟨h, x⟩, fun x => x.2⟩
theorem letter_impl (n st : Int) : impl_isLetter.f st n = some (letB st n) := by
  unfold impl_isLetter.f letB
  by_cases h : n = 0
  · rw [if_pos h, decide_eq_false (by omega)]
  · rw [if_neg h, rng_eq, Option.bind_some]; congr 1; apply decide_eq_decide.2; exact ⟨fun x => ⟨h, x⟩, fun x => x.2⟩
theorem braid_both (st : Int) (wd : List Int) (hw : wd.length ≤ 2000000) : ∃ b, Tends (fun K => spec_ValidBraid.f K st wd) b ∧ Tends (fun K => impl_isBraid.f K st wd) b := by
  have hs : Tends2 (fun K k => spec_ValidBraid.l1 K k st wd 0) (allB wd.length (fun i => letB st (wd.getD i 0)) && true) :=
    scan_bool (l := fun K k i => spec_ValidBraid.l1 K k st wd (i : Int)) (fun i hi hp v hv => Tends2.step (fun K k => by
        rw [spec_ValidBraid.l1, if_pos (by omega), if_pos (by omega), Int.toNat_natCast, letter_spec, Option.bind_some, if_pos hp, w64_succ (by omega)]) hv)
      (fun i hi hp => Tends2.of fun K k => by rw [spec_ValidBraid.l1, if_pos (by omega), if_pos (by omega), Int.toNat_natCast, letter_spec, Option.bind_some, if_neg (by rw [hp]; decide)])
      (Tends2.of fun K k => by rw [spec_ValidBraid.l1, if_neg (by omega)])
  obtain ⟨v, t, e⟩ := scan_idx (l := fun K k i => slices_IndexFunc_int64_int64_isBraid_fn1.l1 K k wd st wd (i : Int)) (n := wd.length) (P := fun i => letB st (wd.getD i 0)) (fun i hi hp v hv => Tends2.step (fun K k => by
      rw [slices_IndexFunc_int64_int64_isBraid_fn1.l1, if_pos (by omega), if_pos (by omega), Int.toNat_natCast, impl_isBraid_fn1_free.f, letter_impl, Option.bind_some, Option.bind_some, if_neg (by rw [hp]; decide), w64_succ (by omega)]) hv)
    (fun i hi hp => Tends2.of fun K k => by rw [slices_IndexFunc_int64_int64_isBraid_fn1.l1, if_pos (by omega), if_pos (by omega), Int.toNat_natCast, impl_isBraid_fn1_free.f, letter_impl, Option.bind_some, Option.bind_some, if_pos (by rw [hp]; rfl)])
    (Tends2.of fun K k => by rw [slices_IndexFunc_int64_int64_isBraid_fn1.l1, if_neg (by omega)])
  have t1 : Tends (fun K => slices_ContainsFunc_int64_int64_isBraid_fn1.f K wd st wd) (!allB wd.length (fun i => letB st (wd.getD i 0))) := by
    rw [← e]
    exact Tends.bind (F := fun K => slices_IndexFunc_int64_int64_isBraid_fn1.f K wd st wd) t.diag (Tends.const _)
  unfold spec_ValidBraid.f impl_isBraid.f
  simp only [inn_eq, rng_eq, Option.bind_some]
  by_cases h1 : 1 ≤ st ∧ st ≤ 6
  · rw [decide_eq_true h1]
    by_cases h2 : wd.length ≤ 24
    · refine ⟨_, Tends.pos rfl (Tends.neg (by omega) hs.diag), Tends.pos rfl (Tends.pos (by omega) (Tends.bind t1 ?_))⟩
      rw [Bool.not_not, Bool.and_true]; exact Tends.const _
    · exact ⟨false, Tends.pos rfl (Tends.pos (by omega) (Tends.const _)), Tends.pos rfl (Tends.neg (by omega) (Tends.const _))⟩
  · rw [decide_eq_false h1]
    exact ⟨false, Tends.neg (by decide) (Tends.const _), Tends.neg (by decide) (Tends.const _)⟩
end Go.Proofs.YtkmeepgpmppibaaGreatDoor
