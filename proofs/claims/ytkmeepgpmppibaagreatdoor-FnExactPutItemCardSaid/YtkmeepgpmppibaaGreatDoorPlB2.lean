/-
  Loops that look for the first item that fails, whatever the loop; names, braid words and plain certificates.
-/
import Derived.Test.YtkmeepgpmppibaaGreatDoorPlB1
set_option linter.unusedVariables false
set_option linter.unusedSimpArgs false
set_option linter.unusedSectionVars false
namespace Go.Proofs.YtkmeepgpmppibaaGreatDoor
open Go.RowKit
def J7 (n : Nat) (P : Nat → Bool) : Bool := (List.range n).all P
theorem Rs {n : Nat} {P : Nat → Bool} (h : ∀ j, j < n → P j = true) : J7 n P = true := by
  unfold J7; rw [List.all_eq_true]; intro x hx; exact h x (List.mem_range.1 hx)
theorem Xa {n : Nat} {P : Nat → Bool} (h : ∃ j, j < n ∧ P j = false) : J7 n P = false := by
  obtain ⟨j, h1, h2⟩ := h
  unfold J7; rw [List.all_eq_false]; exact ⟨j, List.mem_range.2 h1, by rw [h2]; decide⟩
theorem Qt {n : Nat} {P : Nat → Bool} (h : J7 n P = true) {j : Nat} (hj : j < n) : P j = true := by
  unfold J7 at h; exact List.all_eq_true.1 h j (List.mem_range.2 hj)
theorem dB {n : Nat} {P Q : Nat → Bool} (h : ∀ j, j < n → P j = Q j) : J7 n P = J7 n Q := by
  cases hq : J7 n Q with
  | true => exact Rs fun j hj => (h j hj).trans (Qt hq hj)
  | false =>
    unfold J7 at hq; rw [List.all_eq_false] at hq
    obtain ⟨j, hj, hn⟩ := hq
    exact Xa ⟨j, List.mem_range.1 hj, by rw [h j (List.mem_range.1 hj)]; exact Bool.eq_false_iff.2 hn⟩
section
variable {α : Type} {l : Nat → Nat → Nat → Option α} {n : Nat} {P : Nat → Bool} {r : α} {N : α → Prop}
theorem Yf (go : ∀ i, i < n → P i = true → ∀ v, Ac (fun K k => l K k (i + 1)) v → Ac (fun K k => l K k i) v)
    (stop : ∀ i, i < n → P i = false → ∃ v, N v ∧ Ac (fun K k => l K k i) v) (fin : Ac (fun K k => l K k n) r) :
    ∀ m i, n - i = m → i ≤ n → ((∀ j, i ≤ j → j < n → P j = true) ∧ Ac (fun K k => l K k i) r) ∨ ((∃ j, j < n ∧ P j = false) ∧ ∃ v, N v ∧ Ac (fun K k => l K k i) v)
  | 0, i, hm, hi => by
    obtain rfl : i = n := by omega
    exact .inl ⟨fun j h1 h2 => by omega, fin⟩
  | m + 1, i, hm, hi => by
    cases hp : P i with
    | false => exact .inr ⟨⟨i, by omega, hp⟩, stop i (by omega) hp⟩
    | true =>
      rcases Yf go stop fin m (i + 1) (by omega) (by omega) with ⟨h1, h2⟩ | ⟨h1, v, h2, h3⟩
      · refine .inl ⟨fun j hj hlt => ?_, go i (by omega) hp _ h2⟩
        by_cases e : j = i
        · subst e; exact hp
        · exact h1 j (by omega) hlt
      · exact .inr ⟨h1, v, h2, go i (by omega) hp _ h3⟩
theorem sZ (go : ∀ i, i < n → P i = true → ∀ v, Ac (fun K k => l K k (i + 1)) v → Ac (fun K k => l K k i) v)
    (stop : ∀ i, i < n → P i = false → ∃ v, N v ∧ Ac (fun K k => l K k i) v) (fin : Ac (fun K k => l K k n) r) :
    (J7 n P = true ∧ Ac (fun K k => l K k 0) r) ∨ (J7 n P = false ∧ ∃ v, N v ∧ Ac (fun K k => l K k 0) v) := by
  rcases Yf go stop fin n 0 (by omega) (by omega) with ⟨h1, h2⟩ | ⟨h1, h2⟩
  · exact .inl ⟨Rs fun j hj => h1 j (Nat.zero_le _) hj, h2⟩
  · exact .inr ⟨Xa h1, h2⟩
end
theorem Lx {l : Nat → Nat → Nat → Option Bool} {n : Nat} {P : Nat → Bool} {r : Bool} (go : ∀ i, i < n → P i = true → ∀ v, Ac (fun K k => l K k (i + 1)) v → Ac (fun K k => l K k i) v)
    (stop : ∀ i, i < n → P i = false → Ac (fun K k => l K k i) false) (fin : Ac (fun K k => l K k n) r) : Ac (fun K k => l K k 0) (J7 n P && r) := by
  rcases sZ (N := fun v => v = false) go (fun i h1 h2 => ⟨false, rfl, stop i h1 h2⟩) fin with ⟨h1, h2⟩ | ⟨h1, v, rfl, h2⟩
  · rw [h1]; exact h2
  · rw [h1]; exact h2
theorem Pn {l : Nat → Nat → Nat → Option Int} {n : Nat} {P : Nat → Bool} (go : ∀ i, i < n → P i = true → ∀ v, Ac (fun K k => l K k (i + 1)) v → Ac (fun K k => l K k i) v)
    (stop : ∀ i, i < n → P i = false → Ac (fun K k => l K k i) (i : Int)) (fin : Ac (fun K k => l K k n) (-1)) : ∃ v : Int, Ac (fun K k => l K k 0) v ∧ decide (0 ≤ v) = !J7 n P := by
  rcases sZ (N := fun v => 0 ≤ v) go (fun i h1 h2 => ⟨(i : Int), Int.natCast_nonneg i, stop i h1 h2⟩) fin with ⟨h1, h2⟩ | ⟨h1, v, h3, h2⟩
  · exact ⟨-1, h2, by rw [h1]; rfl⟩
  · exact ⟨v, h2, by rw [h1, decide_eq_true h3]; rfl⟩
theorem Ac.of {α : Type} {F : Nat → Nat → Option α} {r : α} (h : ∀ K k, F K (k + 1) = some r) : Ac F r := Ac.succ (Ac.congr (G := fun _ _ => some r) h (Ac.const _))
theorem Ac.step {α : Type} {F G : Nat → Nat → Option α} {r : α} (h : ∀ K k, F K (k + 1) = G K k) (g : Ac G r) : Ac F r := Ac.succ (Ac.congr h g)
theorem Um (v lo hi : Int) : Dx.f v lo hi = some (decide (lo ≤ v ∧ v ≤ hi)) := by
  unfold Dx.f
  by_cases h : lo ≤ v <;> simp [h]
theorem bN (v lo hi : Int) : Jd.f v lo hi = some (decide (lo ≤ v ∧ v ≤ hi)) := by
  unfold Jd.f
  by_cases h : lo ≤ v <;> simp [h]
theorem O0 (v lo hi : Int) : Ct.f v lo hi = some (decide (lo ≤ v ∧ v ≤ hi)) := by
  unfold Ct.f
  by_cases h : lo ≤ v <;> simp [h]
theorem oV (s : ByteArray) {i : Nat} (h : i < s.size) : Xk s i = ((s.get! i).toNat : Int) := by
  unfold Xk
  have h' : i < s.data.size := h
  have e : s.get! i = s.data[i]! := rfl
  rw [e, List.getD_eq_getElem?_getD, Array.getElem?_toList, getElem?_pos s.data i h', getElem!_pos s.data i h']
  rfl
theorem iU {s : ByteArray} {i : Nat} (h : (s.get! i).toNat < 128) : Utf8.decode s i = ((s.get! i).toNat, 1) := by
  unfold Utf8.decode
  simp only [Nat.add_zero]
  rw [if_pos h]
theorem gY {s : ByteArray} {i : Nat} (h : 128 ≤ (s.get! i).toNat) : 128 ≤ (Utf8.decode s i).1 := by
  unfold Utf8.decode
  simp only [Nat.add_zero, Utf8.runeError]
  rw [if_neg (by omega)]
  repeat' split
  all_goals first | (simp_all; done) | (simp_all; omega) | (simp only; omega)
def O6 (s : ByteArray) (i : Nat) : Bool := decide (97 ≤ Xk s i ∧ Xk s i ≤ 122)
theorem iC {s : ByteArray} (hs : s.size ≤ 2000000) : Ab (fun K => Fx.f K s) (J7 s.size (O6 s) && decide (1 ≤ s.size ∧ s.size ≤ 8)) := by
  refine (Lx (l := fun K k i => Fx.l1 K k s (i : Int)) (fun i hi hp v hv => ?_) (fun i hi hp => ?_) ?_).Ib
  · have := of_decide_eq_true hp
    refine Ac.step (fun K k => ?_) hv
    rw [Fx.l1, if_pos (by omega), if_pos (by omega), Int.toNat_natCast, if_neg (by omega), if_neg (by omega), Cc (by omega)]
  · have := of_decide_eq_false hp
    refine Ac.of fun K k => ?_
    rw [Fx.l1, if_pos (by omega), if_pos (by omega), Int.toNat_natCast]
    by_cases h : Xk s i < 97
    · rw [if_pos h]
    · rw [if_neg h, if_pos (by omega)]
  · refine Ac.of fun K k => ?_
    rw [Fx.l1, if_neg (by omega)]
    by_cases h : 1 ≤ s.size
    · rw [if_pos (by omega)]; congr 1; apply decide_eq_decide.2; omega
    · rw [if_neg (by omega)]; congr 1; symm; apply decide_eq_false; omega
theorem Zr {s : ByteArray} {i : Nat} (hi : i < s.size) : Gi.f ((Utf8.decode s i).1 : Int) = some (!O6 s i) ∧ (O6 s i = true → (Utf8.decode s i).2 = 1) := by
  have e := oV s hi
  have hf : ∀ c : Int, Gi.f c = some (!decide (97 ≤ c ∧ c ≤ 122)) := fun c => by
    unfold Gi.f
    by_cases h : c < 97
    · rw [if_pos h, decide_eq_false (by omega)]; rfl
    · rw [if_neg h]; congr 1
      by_cases h2 : 122 < c
      · rw [decide_eq_true h2, decide_eq_false (by omega)]; rfl
      · rw [decide_eq_false h2, decide_eq_true (by omega)]; rfl
  rw [hf]
  by_cases h : (s.get! i).toNat < 128
  · rw [iU h]; unfold O6; rw [e]; exact ⟨rfl, fun _ => rfl⟩
  · have h2 := gY (s := s) (i := i) (by omega)
    unfold O6
    rw [e, decide_eq_false (by omega), decide_eq_false (by omega)]
    exact ⟨rfl, fun h => by cases h⟩
theorem iT {s : ByteArray} (hs : s.size ≤ 2000000) : Ab (fun K => Io.f K s) (J7 s.size (O6 s) && decide (1 ≤ s.size ∧ s.size ≤ 8)) := by
  obtain ⟨v, t, e⟩ := Pn (l := fun K k i => Cb.l1 K k s true i) (n := s.size) (P := O6 s) (fun i hi hp v hv => Ac.step (fun K k => by
      rw [Cb.l1, if_pos hi, (Zr hi).1, Option.bind_some, hp, if_neg (by decide), (Zr hi).2 hp]) hv)
    (fun i hi hp => Ac.of fun K k => by rw [Cb.l1, if_pos hi, (Zr hi).1, Option.bind_some, hp, if_pos (by decide)])
    (Ac.of fun K k => by rw [Cb.l1, if_neg (Nat.lt_irrefl _)])
  have t1 : Ab (fun K => Dj.f K s) (!J7 s.size (O6 s)) := by
    rw [← e]
    exact Ab.bind (F := fun K => D5.f K s) (Ab.bind (F := fun K => Cb.f K s true) t.Ib (Ab.const _)) (Ab.const _)
  unfold Io.f
  by_cases h1 : 1 ≤ s.size
  · by_cases h2 : s.size ≤ 8
    · rw [decide_eq_true (show 1 ≤ s.size ∧ s.size ≤ 8 from ⟨h1, h2⟩), Bool.and_true]
      refine Ab.pos (by omega) (Ab.pos (by omega) (Ab.bind t1 ?_))
      rw [Bool.not_not]; exact Ab.const _
    · rw [decide_eq_false (by omega), Bool.and_false]
      exact Ab.pos (by omega) (Ab.neg (by omega) (Ab.const _))
  · rw [decide_eq_false (by omega), Bool.and_false]
    exact Ab.neg (by omega) (Ab.const _)
def bQ (st n : Int) : Bool := decide (n ≠ 0 ∧ w64 (1 - st) ≤ n ∧ n ≤ w64 (st - 1))
theorem U4 (n st : Int) : Jo.f n st = some (bQ st n) := by
  unfold Jo.f bQ
  by_cases h : n = 0
  · rw [if_pos h, decide_eq_false (by omega)]
  · rw [if_neg h, Um, Option.bind_some]; congr 1; apply decide_eq_decide.2; exact ⟨fun x => ⟨h, x⟩, fun x => x.2⟩
theorem Ut (n st : Int) : J5.f st n = some (bQ st n) := by
  unfold J5.f bQ
  by_cases h : n = 0
  · rw [if_pos h, decide_eq_false (by omega)]
  · rw [if_neg h, O0, Option.bind_some]; congr 1; apply decide_eq_decide.2; exact ⟨fun x => ⟨h, x⟩, fun x => x.2⟩
theorem cB (st : Int) (wd : List Int) (hw : wd.length ≤ 2000000) : ∃ b, Ab (fun K => Dq.f K st wd) b ∧ Ab (fun K => G5.f K st wd) b := by
  have hs : Ac (fun K k => Dq.l1 K k st wd 0) (J7 wd.length (fun i => bQ st (wd.getD i 0)) && true) :=
    Lx (l := fun K k i => Dq.l1 K k st wd (i : Int)) (fun i hi hp v hv => Ac.step (fun K k => by
        rw [Dq.l1, if_pos (by omega), if_pos (by omega), Int.toNat_natCast, U4, Option.bind_some, if_pos hp, Cc (by omega)]) hv)
      (fun i hi hp => Ac.of fun K k => by rw [Dq.l1, if_pos (by omega), if_pos (by omega), Int.toNat_natCast, U4, Option.bind_some, if_neg (by rw [hp]; decide)])
      (Ac.of fun K k => by rw [Dq.l1, if_neg (by omega)])
  obtain ⟨v, t, e⟩ := Pn (l := fun K k i => Bh.l1 K k wd st wd (i : Int)) (n := wd.length) (P := fun i => bQ st (wd.getD i 0)) (fun i hi hp v hv => Ac.step (fun K k => by
      rw [Bh.l1, if_pos (by omega), if_pos (by omega), Int.toNat_natCast, Gg.f, Ut, Option.bind_some, Option.bind_some, if_neg (by rw [hp]; decide), Cc (by omega)]) hv)
    (fun i hi hp => Ac.of fun K k => by rw [Bh.l1, if_pos (by omega), if_pos (by omega), Int.toNat_natCast, Gg.f, Ut, Option.bind_some, Option.bind_some, if_pos (by rw [hp]; rfl)])
    (Ac.of fun K k => by rw [Bh.l1, if_neg (by omega)])
  have t1 : Ab (fun K => Cy.f K wd st wd) (!J7 wd.length (fun i => bQ st (wd.getD i 0))) := by
    rw [← e]
    exact Ab.bind (F := fun K => Bh.f K wd st wd) t.Ib (Ab.const _)
  unfold Dq.f G5.f
  simp only [Um, O0, Option.bind_some]
  by_cases h1 : 1 ≤ st ∧ st ≤ 6
  · rw [decide_eq_true h1]
    by_cases h2 : wd.length ≤ 24
    · refine ⟨_, Ab.pos rfl (Ab.neg (by omega) hs.Ib), Ab.pos rfl (Ab.pos (by omega) (Ab.bind t1 ?_))⟩
      rw [Bool.not_not, Bool.and_true]; exact Ab.const _
    · exact ⟨false, Ab.pos rfl (Ab.pos (by omega) (Ab.const _)), Ab.pos rfl (Ab.neg (by omega) (Ab.const _))⟩
  · rw [decide_eq_false h1]
    exact ⟨false, Ab.neg (by decide) (Ab.const _), Ab.neg (by decide) (Ab.const _)⟩
end Go.Proofs.YtkmeepgpmppibaaGreatDoor
