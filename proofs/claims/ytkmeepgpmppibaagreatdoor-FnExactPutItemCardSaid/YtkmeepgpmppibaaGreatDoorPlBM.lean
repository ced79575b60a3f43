/-
  Marks of items: what marking leaves is found again, and the marks stay small.
-/
import Derived.Test.YtkmeepgpmppibaaGreatDoorPlB8
set_option linter.unusedVariables false
set_option linter.unusedSimpArgs false
namespace Go.Proofs.YtkmeepgpmppibaaGreatDoor
open Go.RowKit
def Nr (f : Nat → Nat) : Nat → Nat → Nat
  | _, 0 => 0
  | i, m + 1 => f i + Nr f (i + 1) m
def Wh : Int := 1000000000000
theorem Qr {α : Type} {xs : List α} {i : Nat} {x z : α} (h : i < xs.length) : (xs.set i x).getD i z = x := by
  rw [List.getD_eq_getElem?_getD, List.getElem?_set_self h]; rfl
theorem jV {α : Type} {xs : List α} {i j : Nat} {x z : α} (h : i ≠ j) : (xs.set i x).getD j z = xs.getD j z := by
  rw [List.getD_eq_getElem?_getD, List.getElem?_set_ne h, ← List.getD_eq_getElem?_getD]
theorem Yh {α : Type} {xs : List α} {z : α} {l : Nat → Nat → List α → Int → Nat → Option (Int × List α)} {l' : Nat → Nat → List α → Int → Nat → Option Int} {cnt : Nat → Nat}
    (he : ∀ K k ys kk, ys.length = xs.length → l K (k + 1) ys kk xs.length = some (kk, ys)) (he' : ∀ K k ys kk, ys.length = xs.length → l' K (k + 1) ys kk xs.length = some kk)
    (h1 : ∀ i, i < xs.length → ∀ kk : Int, 0 ≤ kk → kk + (cnt i : Int) ≤ Wh → ∃ y,
      (∀ ys r, ys.length = xs.length → ys.getD i z = xs.getD i z → Ac (fun K k => l K k (ys.set i y) (kk + (cnt i : Int)) (i + 1)) r → Ac (fun K k => l K k ys kk i) r) ∧
      (∀ ys r, ys.length = xs.length → ys.getD i z = y → Ac (fun K k => l' K k ys (kk + (cnt i : Int)) (i + 1)) r → Ac (fun K k => l' K k ys kk i) r)) :
    ∀ (m i : Nat) (ys : List α) (kk : Int), xs.length - i = m → i ≤ xs.length → ys.length = xs.length → (∀ j, i ≤ j → j < xs.length → ys.getD j z = xs.getD j z) → 0 ≤ kk → kk + (Nr cnt i m : Int) ≤ Wh →
      ∃ zs, zs.length = xs.length ∧ (∀ j, j < i → zs.getD j z = ys.getD j z) ∧ Ac (fun K k => l K k ys kk i) (kk + (Nr cnt i m : Int), zs) ∧ Ac (fun K k => l' K k zs kk i) (kk + (Nr cnt i m : Int))
  | 0, i, ys, kk, hm, hi, hy, hg, h0, hb => by
    obtain rfl : i = xs.length := by omega
    refine ⟨ys, hy, fun _ _ => rfl, Ac.of fun K k => ?_, Ac.of fun K k => ?_⟩
    · rw [he K k ys kk hy]; simp [Nr]
    · rw [he' K k ys kk hy]; simp [Nr]
  | m + 1, i, ys, kk, hm, hi, hy, hg, h0, hb => by
    have hlt : i < xs.length := by omega
    have hs : (Nr cnt i (m + 1) : Int) = (cnt i : Int) + (Nr cnt (i + 1) m : Int) := by rw [Nr]; omega
    obtain ⟨y, a, b⟩ := h1 i hlt kk h0 (by omega)
    obtain ⟨zs, z1, z2, z3, z4⟩ := Yh he he' h1 m (i + 1) (ys.set i y) (kk + (cnt i : Int)) (by omega) (by omega) (by rw [List.length_set]; exact hy) (fun j hj hj' => by rw [jV (by omega)]; exact hg j (by omega) hj') (by omega) (by omega)
    have hk : kk + (Nr cnt i (m + 1) : Int) = kk + (cnt i : Int) + (Nr cnt (i + 1) m : Int) := by omega
    rw [hk]
    refine ⟨zs, z1, fun j hj => ?_, a ys _ hy (hg i (Nat.le_refl _) hlt) z3, b zs _ z1 ?_ z4⟩
    · rw [z2 j (by omega), jV (by omega)]
    · rw [z2 i (by omega), Qr (by omega)]
def Nw {β : Type} (mark : Nat → List β → Int → Option (Int × List β)) (held : Nat → List β → Int → Option Int) (xs : List β) (c : Nat) : Prop :=
  ∀ kk : Int, 0 ≤ kk → kk + (c : Int) ≤ Wh → ∃ ys, ys.length = xs.length ∧ Ab (fun K => mark K xs kk) (kk + (c : Int), ys) ∧ Ab (fun K => held K ys kk) (kk + (c : Int))
theorem Nw.of {α : Type} {xs : List α} {z : α} {mark : Nat → List α → Int → Option (Int × List α)} {held : Nat → List α → Int → Option Int} {l : Nat → Nat → List α → Int → Int → Option (Int × List α)} {l' : Nat → Nat → List α → Int → Int → Option Int} {cnt : Nat → Nat}
    (hm : ∀ K xs kk, mark K xs kk = l K K xs kk 0) (hh : ∀ K xs kk, held K xs kk = l' K K xs kk 0)
    (he : ∀ K k ys kk, ys.length = xs.length → l K (k + 1) ys kk (xs.length : Int) = some (kk, ys)) (he' : ∀ K k ys kk, ys.length = xs.length → l' K (k + 1) ys kk (xs.length : Int) = some kk)
    (h1 : ∀ i, i < xs.length → ∀ kk : Int, 0 ≤ kk → kk + (cnt i : Int) ≤ Wh → ∃ y,
      (∀ ys r, ys.length = xs.length → ys.getD i z = xs.getD i z → Ac (fun K k => l K k (ys.set i y) (kk + (cnt i : Int)) ((i + 1 : Nat) : Int)) r → Ac (fun K k => l K k ys kk (i : Int)) r) ∧
      (∀ ys r, ys.length = xs.length → ys.getD i z = y → Ac (fun K k => l' K k ys (kk + (cnt i : Int)) ((i + 1 : Nat) : Int)) r → Ac (fun K k => l' K k ys kk (i : Int)) r)) : Nw mark held xs (Nr cnt 0 xs.length) := fun kk h0 hb => by
  obtain ⟨zs, z1, _, z3, z4⟩ := Yh (l := fun K k ys kk i => l K k ys kk (i : Int)) (l' := fun K k ys kk i => l' K k ys kk (i : Int)) he he' h1 xs.length 0 xs kk (by omega) (by omega) rfl (fun _ _ _ => rfl) h0 hb
  exact ⟨zs, z1, Ab.congr (fun K => hm K xs kk) z3.Ib, Ab.congr (fun K => hh K zs kk) z4.Ib⟩
theorem Pk (c : Nat) : ∀ m i, Nr (fun _ => c) i m = c * m
  | 0, _ => rfl
  | m + 1, i => by rw [Nr, Pk c m, Nat.mul_succ, Nat.add_comm]
section
variable {kk : Int}
theorem w1 (h0 : 0 ≤ kk) (h1 : kk ≤ Wh + 10) : w64 (kk + 1) = kk + 1 := by unfold Wh at h1; exact H8 (by omega) (by omega)
end
theorem Og {xs : List Int} (hn : xs.length ≤ 2000000) : Nw Cs.f Dh.f xs xs.length := by
  have h := Nw.of (xs := xs) (z := (0 : Int)) (mark := Cs.f) (held := Dh.f) (l := Cs.l1) (l' := Dh.l1) (cnt := fun _ => 1) (fun _ _ _ => rfl) (fun _ _ _ => rfl)
    (fun K k ys kk hy => by rw [Cs.l1, if_neg (by omega)]) (fun K k ys kk hy => by rw [Dh.l1, if_neg (by omega)]) (fun i hi kk h0 hb => ⟨kk, fun ys r hy hg h => Ac.step (fun K k => ?_) h, fun ys r hy hg h => Ac.step (fun K k => ?_) h⟩)
  · rw [Pk, Nat.one_mul] at h; exact h
  · rw [Cs.l1, if_pos (by omega), if_pos (by omega), Int.toNat_natCast, Cc (by omega), w1 h0 (by omega)]; rfl
  · rw [Dh.l1, if_pos (by omega), if_pos (by omega), Int.toNat_natCast, hg, if_pos rfl, Cc (by omega), w1 h0 (by omega)]; rfl
theorem iF {xs : List Bt} (hn : xs.length ≤ 2000000) : Nw El.f Ej.f xs (2 * xs.length) := by
  have h := Nw.of (xs := xs) (z := Ko) (mark := El.f) (held := Ej.f) (l := El.l1) (l' := Ej.l1) (cnt := fun _ => 2) (fun _ _ _ => rfl) (fun _ _ _ => rfl)
    (fun K k ys kk hy => by rw [El.l1, if_neg (by omega)]) (fun K k ys kk hy => by rw [Ej.l1, if_neg (by omega)]) (fun i hi kk h0 hb => ⟨⟨kk, kk + 1⟩, fun ys r hy hg h => Ac.step (fun K k => ?_) h, fun ys r hy hg h => Ac.step (fun K k => ?_) h⟩)
  · rw [Pk] at h; exact h
  · have e1 := w1 h0 (by omega)
    have e2 : w64 (kk + 1 + 1) = kk + 2 := (w1 (by omega) (by omega)).trans (by omega)
    rw [El.l1, if_pos (by omega), if_pos (by omega), Int.toNat_natCast]
    simp only [Fe, List.length_set, if_pos (show 0 ≤ (i : Int) ∧ (i : Int) < (ys.length : Int) by omega), Qr (show i < ys.length by omega), List.set_set, e1, e2, Cc (show i < 4611686018427387904 by omega)]
    rfl
  · have e1 := w1 h0 (by omega)
    have e2 : w64 (kk + 1 + 1) = kk + 2 := (w1 (by omega) (by omega)).trans (by omega)
    rw [Ej.l1, if_pos (by omega), if_pos (by omega), Int.toNat_natCast, hg, Fe, if_pos rfl, e1, if_pos rfl, e2, Cc (by omega)]; rfl
theorem Yy {xs : List Ci} (hn : xs.length ≤ 2000000) : Nw Eb.f Ey.f xs (3 * xs.length) := by
  have h := Nw.of (xs := xs) (z := He) (mark := Eb.f) (held := Ey.f) (l := Eb.l1) (l' := Ey.l1) (cnt := fun _ => 3) (fun _ _ _ => rfl) (fun _ _ _ => rfl)
    (fun K k ys kk hy => by rw [Eb.l1, if_neg (by omega)]) (fun K k ys kk hy => by rw [Ey.l1, if_neg (by omega)]) (fun i hi kk h0 hb => ⟨⟨kk, kk + 1, kk + 2⟩, fun ys r hy hg h => Ac.step (fun K k => ?_) h, fun ys r hy hg h => Ac.step (fun K k => ?_) h⟩)
  · rw [Pk] at h; exact h
  all_goals
    have e1 := w1 h0 (by omega)
    have e2 : w64 (kk + 1 + 1) = kk + 2 := (w1 (by omega) (by omega)).trans (by omega)
    have e3 : w64 (kk + 2 + 1) = kk + 3 := (w1 (by omega) (by omega)).trans (by omega)
  · rw [Eb.l1, if_pos (by omega), if_pos (by omega), Int.toNat_natCast]
    simp only [Fe, List.length_set, if_pos (show 0 ≤ (i : Int) ∧ (i : Int) < (ys.length : Int) by omega), Qr (show i < ys.length by omega), List.set_set, e1, e2, e3, Cc (show i < 4611686018427387904 by omega)]
    rfl
  · rw [Ey.l1, if_pos (by omega), if_pos (by omega), Int.toNat_natCast, hg, Fe, if_pos rfl, e1, if_pos rfl, e2, if_pos rfl, e3, Cc (by omega)]; rfl
theorem Sb {xs : List Al} (hn : xs.length ≤ 2000000) : Nw Da.f Dg.f xs (5 * xs.length) := by
  have h := Nw.of (xs := xs) (z := Au) (mark := Da.f) (held := Dg.f) (l := Da.l1) (l' := Dg.l1) (cnt := fun _ => 5) (fun _ _ _ => rfl) (fun _ _ _ => rfl)
    (fun K k ys kk hy => by rw [Da.l1, if_neg (by omega)]) (fun K k ys kk hy => by rw [Dg.l1, if_neg (by omega)]) (fun i hi kk h0 hb => ⟨⟨kk, kk + 1, kk + 2, kk + 3, kk + 4⟩, fun ys r hy hg h => Ac.step (fun K k => ?_) h, fun ys r hy hg h => Ac.step (fun K k => ?_) h⟩)
  · rw [Pk] at h; exact h
  all_goals
    have e1 := w1 h0 (by omega)
    have e2 : w64 (kk + 1 + 1) = kk + 2 := (w1 (by omega) (by omega)).trans (by omega)
    have e3 : w64 (kk + 2 + 1) = kk + 3 := (w1 (by omega) (by omega)).trans (by omega)
    have e4 : w64 (kk + 3 + 1) = kk + 4 := (w1 (by omega) (by omega)).trans (by omega)
    have e5 : w64 (kk + 4 + 1) = kk + 5 := (w1 (by omega) (by omega)).trans (by omega)
  · rw [Da.l1, if_pos (by omega), if_pos (by omega), Int.toNat_natCast]
    simp only [Fe, List.length_set, if_pos (show 0 ≤ (i : Int) ∧ (i : Int) < (ys.length : Int) by omega), Qr (show i < ys.length by omega), List.set_set, e1, e2, e3, e4, e5, Cc (show i < 4611686018427387904 by omega)]
    rfl
  · rw [Dg.l1, if_pos (by omega), if_pos (by omega), Int.toNat_natCast, hg, Fe, if_pos rfl, e1, if_pos rfl, e2, if_pos rfl, e3, if_pos rfl, e4, if_pos rfl, e5, Cc (by omega)]; rfl
theorem Nw.rows {β : Type} {xs : List (List β)} {mark : Nat → List β → Int → Option (Int × List β)} {held : Nat → List β → Int → Option Int} {markS : Nat → List (List β) → Int → Option (Int × List (List β))} {heldS : Nat → List (List β) → Int → Option Int}
    {l : Nat → Nat → List (List β) → Int → Int → Option (Int × List (List β))} {l' : Nat → Nat → List (List β) → Int → Int → Option Int} {cnt : Nat → Nat} (hn : xs.length ≤ 2000000)
    (hm : ∀ K xs kk, markS K xs kk = l K K xs kk 0) (hh : ∀ K xs kk, heldS K xs kk = l' K K xs kk 0)
    (hl : ∀ K k ys kk i, l K (k + 1) ys kk i = if i < (ys.length : Int) then (if 0 ≤ i ∧ i < (ys.length : Int) then Ed (mark K (ys.getD i.toNat []) kk) (fun a b => if b.length = (ys.getD i.toNat []).length then l K k (ys.set i.toNat b) a (w64 (i + 1)) else none) else none) else some (kk, ys))
    (hl' : ∀ K k ys kk i, l' K (k + 1) ys kk i = if i < (ys.length : Int) then (if 0 ≤ i ∧ i < (ys.length : Int) then (held K (ys.getD i.toNat []) kk).bind (fun t => if t < 0 then some (-1) else l' K k ys t (w64 (i + 1))) else none) else some kk)
    (h1 : ∀ i, i < xs.length → Nw mark held (xs.getD i []) (cnt i)) : Nw markS heldS xs (Nr cnt 0 xs.length) :=
  Nw.of (z := []) hm hh (fun K k ys kk hy => by rw [hl, if_neg (by omega)]) (fun K k ys kk hy => by rw [hl', if_neg (by omega)]) fun i hi kk h0 hb => by
    obtain ⟨y, y1, y2, y3⟩ := h1 i hi kk h0 hb
    refine ⟨y, fun ys r hy hg h => ?_, fun ys r hy hg h => ?_⟩
    · refine Ac.step (fun K k => ?_) (Ac.Ed (G := fun K k a b => if b.length = (xs.getD i []).length then l K k (ys.set i b) a ((i + 1 : Nat) : Int) else none) y2.two (Ac.pos y1 h))
      rw [hl, if_pos (by omega), if_pos (by omega), Int.toNat_natCast, hg, Cc (by omega)]
    · refine Ac.step (fun K k => ?_) (Ac.bind (G := fun K k t => if t < 0 then some (-1) else l' K k ys t ((i + 1 : Nat) : Int)) y3.two (Ac.neg (by omega) h))
      rw [hl', if_pos (by omega), if_pos (by omega), Int.toNat_natCast, hg, Cc (by omega)]
def cF (xs : List (List Bt)) : Nat := Nr (fun i => 2 * (xs.getD i []).length) 0 xs.length
theorem V9 {xs : List (List Bt)} (hn : xs.length ≤ 2000000) (h : ∀ j, j < xs.length → (xs.getD j []).length ≤ 2000000) : Nw Es.f Fg.f xs (cF xs) :=
  Nw.rows (mark := El.f) (held := Ej.f) (l := Es.l1) (l' := Fg.l1) hn (fun _ _ _ => rfl) (fun _ _ _ => rfl) (fun _ _ _ _ _ => rfl) (fun _ _ _ _ _ => rfl) (fun i hi => iF (h i hi))
theorem Uz : ∀ (m : Nat) (v : Int) (acc : ByteArray), 0 ≤ v → v < 10 ^ m → m ≤ 18 → acc.size + m ≤ 1000 → ∃ t, Ac (fun K k => Eg.l1 K k v acc) t
  | 0, v, acc, h0, h1, _, hs => by
    have h2 : v < 1 := by simpa using h1
    refine ⟨(⟨#[109]⟩ : ByteArray) ++ acc, Ac.of fun K k => ?_⟩
    rw [Eg.l1, if_neg (by omega), if_pos (by show 1 + acc.size ≤ _; omega)]
  | m + 1, v, acc, h0, h1, hm, hs => by
    by_cases hv : 0 < v
    · have hd : v.tdiv 10 = v / 10 := Int.tdiv_eq_ediv_of_nonneg h0
      have hp : (10 : Int) ^ (m + 1) = 10 * 10 ^ m := by rw [Int.pow_succ, Int.mul_comm]
      have h18 : (10 : Int) ^ (m + 1) ≤ 10 ^ 18 := by
        have := Nat.pow_le_pow_right (n := 10) (by omega) hm
        exact_mod_cast this
      have hlt : v / 10 < 10 ^ m := by omega
      have hw : w64 (v.tdiv 10) = v / 10 := by rw [hd]; exact H8 (by omega) (by omega)
      obtain ⟨t, ht⟩ := Uz m (v / 10) ((strOfNums ([IntKind.wrap .u8 (w64 (48 + (v.tmod 10)))] : List Int)) ++ acc) (by omega) hlt (by omega) (by rw [ByteArray.size_append, strOfNums_size]; simp only [List.length_cons, List.length_nil]; omega)
      refine ⟨t, Ac.step (fun K k => ?_) ht⟩
      rw [Eg.l1, if_pos hv, if_pos (by rw [strOfNums_size]; simp only [List.length_cons, List.length_nil]; omega), hw]
    · refine ⟨(⟨#[109]⟩ : ByteArray) ++ acc, Ac.of fun K k => ?_⟩
      rw [Eg.l1, if_neg hv, if_pos (by show 1 + acc.size ≤ _; omega)]
theorem oP {v : Int} (h0 : 0 ≤ v) (h1 : v ≤ Wh) : ∃ t, Ab (fun K => Eg.f K v) t := by
  unfold Eg.f
  unfold Wh at h1
  by_cases hv : v ≤ 0
  · exact ⟨_, Ab.pos hv (Ab.const _)⟩
  · obtain ⟨t, ht⟩ := Uz 18 v ByteArray.empty h0 (by omega) (Nat.le_refl _) (by show 0 + 18 ≤ 1000; omega)
    exact ⟨t, Ab.neg hv ht.Ib⟩
def Lu (x : Am) : Nat := 6 + cF x.Ad + 5 * x.Ae.length + x.Av.length + 3 * x.Af.length + x.Ai.length + x.Ag.length
def Kk (xs : List Am) : Nat := Nr (fun i => Lu (xs.getD i Br)) 0 xs.length
def Hu (xs : List (List Am)) : Nat := Nr (fun i => Kk (xs.getD i [])) 0 xs.length
end Go.Proofs.YtkmeepgpmppibaaGreatDoor
