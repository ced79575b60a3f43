/-
  Marks of items: what marking leaves is found again, and the marks stay small.
-/
import Derived.Test.YtkmeepgpmppibaaGreatDoorPlB8
set_option linter.unusedVariables false
set_option linter.unusedSimpArgs false
namespace Go.Proofs.YtkmeepgpmppibaaGreatDoor
open Go.RowKit
def sumF (f : Nat → Nat) : Nat → Nat → Nat
  | _, 0 => 0
  | i, m + 1 => f i + sumF f (i + 1) m
def MaxK : Int := 1000000000000
theorem gds_self {α : Type} {xs : List α} {i : Nat} {x z : α} (h : i < xs.length) : (xs.set i x).getD i z = x := by
  rw [List.getD_eq_getElem?_getD, List.getElem?_set_self h]; rfl
theorem gds_ne {α : Type} {xs : List α} {i j : Nat} {x z : α} (h : i ≠ j) : (xs.set i x).getD j z = xs.getD j z := by
  rw [List.getD_eq_getElem?_getD, List.getElem?_set_ne h, ← List.getD_eq_getElem?_getD]
theorem mark_loop {α : Type} {xs : List α} {z : α} {l : Nat → Nat → List α → Int → Nat → Option (Int × List α)} {l' : Nat → Nat → List α → Int → Nat → Option Int} {cnt : Nat → Nat}
    (he : ∀ K k ys kk, ys.length = xs.length → l K (k + 1) ys kk xs.length = some (kk, ys)) (he' : ∀ K k ys kk, ys.length = xs.length → l' K (k + 1) ys kk xs.length = some kk)
    (h1 : ∀ i, i < xs.length → ∀ kk : Int, 0 ≤ kk → kk + (cnt i : Int) ≤ MaxK → ∃ y,
      (∀ ys r, ys.length = xs.length → ys.getD i z = xs.getD i z → Tends2 (fun K k => l K k (ys.set i y) (kk + (cnt i : Int)) (i + 1)) r → Tends2 (fun K k => l K k ys kk i) r) ∧
      (∀ ys r, ys.length = xs.length → ys.getD i z = y → Tends2 (fun K k => l' K k ys (kk + (cnt i : Int)) (i + 1)) r → Tends2 (fun K k => l' K k ys kk i) r)) :
    ∀ (m i : Nat) (ys : List α) (kk : Int), xs.length - i = m → i ≤ xs.length → ys.length = xs.length → (∀ j, i ≤ j → j < xs.length → ys.getD j z = xs.getD j z) → 0 ≤ kk → kk + (sumF cnt i m : Int) ≤ MaxK →
      ∃ zs, zs.length = xs.length ∧ (∀ j, j < i → zs.getD j z = ys.getD j z) ∧ Tends2 (fun K k => l K k ys kk i) (kk + (sumF cnt i m : Int), zs) ∧ Tends2 (fun K k => l' K k zs kk i) (kk + (sumF cnt i m : Int))
  | 0, i, ys, kk, hm, hi, hy, hg, h0, hb => by
    obtain rfl : i = xs.length := by omega
    refine ⟨ys, hy, fun _ _ => rfl, Tends2.of fun K k => ?_, Tends2.of fun K k => ?_⟩
    · rw [he K k ys kk hy]; simp [sumF]
    · rw [he' K k ys kk hy]; simp [sumF]
  | m + 1, i, ys, kk, hm, hi, hy, hg, h0, hb => by
    have hlt : i < xs.length := by omega
    have hs : (sumF cnt i (m + 1) : Int) = (cnt i : Int) + (sumF cnt (i + 1) m : Int) := by rw [sumF]; omega
    obtain ⟨y, a, b⟩ := h1 i hlt kk h0 (by omega)
    obtain ⟨zs, z1, z2, z3, z4⟩ := mark_loop he he' h1 m (i + 1) (ys.set i y) (kk + (cnt i : Int)) (by omega) (by omega) (by rw [List.length_set]; exact hy) (fun j hj hj' => by rw [gds_ne (by omega)]; exact hg j (by omega) hj') (by omega) (by omega)
    have hk : kk + (sumF cnt i (m + 1) : Int) = kk + (cnt i : Int) + (sumF cnt (i + 1) m : Int) := by omega
    rw [hk]
    refine ⟨zs, z1, fun j hj => ?_, a ys _ hy (hg i (Nat.le_refl _) hlt) z3, b zs _ z1 ?_ z4⟩
    · rw [z2 j (by omega), gds_ne (by omega)]
    · rw [z2 i (by omega), gds_self (by omega)]
def MarkL {β : Type} (mark : Nat → List β → Int → Option (Int × List β)) (held : Nat → List β → Int → Option Int) (xs : List β) (c : Nat) : Prop :=
  ∀ kk : Int, 0 ≤ kk → kk + (c : Int) ≤ MaxK → ∃ ys, ys.length = xs.length ∧ Tends (fun K => mark K xs kk) (kk + (c : Int), ys) ∧ Tends (fun K => held K ys kk) (kk + (c : Int))
theorem MarkL.of {α : Type} {xs : List α} {z : α} {mark : Nat → List α → Int → Option (Int × List α)} {held : Nat → List α → Int → Option Int} {l : Nat → Nat → List α → Int → Int → Option (Int × List α)} {l' : Nat → Nat → List α → Int → Int → Option Int} {cnt : Nat → Nat}
    (hm : ∀ K xs kk, mark K xs kk = l K K xs kk 0) (hh : ∀ K xs kk, held K xs kk = l' K K xs kk 0)
    (he : ∀ K k ys kk, ys.length = xs.length → l K (k + 1) ys kk (xs.length : Int) = some (kk, ys)) (he' : ∀ K k ys kk, ys.length = xs.length → l' K (k + 1) ys kk (xs.length : Int) = some kk)
    (h1 : ∀ i, i < xs.length → ∀ kk : Int, 0 ≤ kk → kk + (cnt i : Int) ≤ MaxK → ∃ y,
      (∀ ys r, ys.length = xs.length → ys.getD i z = xs.getD i z → Tends2 (fun K k => l K k (ys.set i y) (kk + (cnt i : Int)) ((i + 1 : Nat) : Int)) r → Tends2 (fun K k => l K k ys kk (i : Int)) r) ∧
      (∀ ys r, ys.length = xs.length → ys.getD i z = y → Tends2 (fun K k => l' K k ys (kk + (cnt i : Int)) ((i + 1 : Nat) : Int)) r → Tends2 (fun K k => l' K k ys kk (i : Int)) r)) : MarkL mark held xs (sumF cnt 0 xs.length) := fun kk h0 hb => by
  obtain ⟨zs, z1, _, z3, z4⟩ := mark_loop (l := fun K k ys kk i => l K k ys kk (i : Int)) (l' := fun K k ys kk i => l' K k ys kk (i : Int)) he he' h1 xs.length 0 xs kk (by omega) (by omega) rfl (fun _ _ _ => rfl) h0 hb
  exact ⟨zs, z1, Tends.congr (fun K => hm K xs kk) z3.diag, Tends.congr (fun K => hh K zs kk) z4.diag⟩
theorem sumF_const (c : Nat) : ∀ m i, sumF (fun _ => c) i m = c * m
  | 0, _ => rfl
  | m + 1, i => by rw [sumF, sumF_const c m, Nat.mul_succ, Nat.add_comm]
section
variable {kk : Int}
theorem w1 (h0 : 0 ≤ kk) (h1 : kk ≤ MaxK + 10) : w64 (kk + 1) = kk + 1 := by unfold MaxK at h1; exact w64_id (by omega) (by omega)
end
theorem markInt64S {xs : List Int} (hn : xs.length ≤ 2000000) : MarkL laws_markInt64S.f laws_heldInt64S.f xs xs.length := by
  have h := MarkL.of (xs := xs) (z := (0 : Int)) (mark := laws_markInt64S.f) (held := laws_heldInt64S.f) (l := laws_markInt64S.l1) (l' := laws_heldInt64S.l1) (cnt := fun _ => 1) (fun _ _ _ => rfl) (fun _ _ _ => rfl)
    (fun K k ys kk hy => by rw [laws_markInt64S.l1, if_neg (by omega)]) (fun K k ys kk hy => by rw [laws_heldInt64S.l1, if_neg (by omega)]) (fun i hi kk h0 hb => ⟨kk, fun ys r hy hg h => Tends2.step (fun K k => ?_) h, fun ys r hy hg h => Tends2.step (fun K k => ?_) h⟩)
  · rw [sumF_const, Nat.one_mul] at h; exact h
  · rw [laws_markInt64S.l1, if_pos (by omega), if_pos (by omega), Int.toNat_natCast, w64_succ (by omega), w1 h0 (by omega)]; rfl
  · rw [laws_heldInt64S.l1, if_pos (by omega), if_pos (by omega), Int.toNat_natCast, hg, if_pos rfl, w64_succ (by omega), w1 h0 (by omega)]; rfl
theorem markFaceS {xs : List GFace} (hn : xs.length ≤ 2000000) : MarkL laws_markFaceS.f laws_heldFaceS.f xs (2 * xs.length) := by
  have h := MarkL.of (xs := xs) (z := z_GFace) (mark := laws_markFaceS.f) (held := laws_heldFaceS.f) (l := laws_markFaceS.l1) (l' := laws_heldFaceS.l1) (cnt := fun _ => 2) (fun _ _ _ => rfl) (fun _ _ _ => rfl)
    (fun K k ys kk hy => by rw [laws_markFaceS.l1, if_neg (by omega)]) (fun K k ys kk hy => by rw [laws_heldFaceS.l1, if_neg (by omega)]) (fun i hi kk h0 hb => ⟨⟨kk, kk + 1⟩, fun ys r hy hg h => Tends2.step (fun K k => ?_) h, fun ys r hy hg h => Tends2.step (fun K k => ?_) h⟩)
  · rw [sumF_const] at h; exact h
  · have e1 := w1 h0 (by omega)
    have e2 : w64 (kk + 1 + 1) = kk + 2 := (w1 (by omega) (by omega)).trans (by omega)
    rw [laws_markFaceS.l1, if_pos (by omega), if_pos (by omega), Int.toNat_natCast]
    simp only [bnd_eq, List.length_set, if_pos (show 0 ≤ (i : Int) ∧ (i : Int) < (ys.length : Int) by omega), gds_self (show i < ys.length by omega), List.set_set, e1, e2, w64_succ (show i < 4611686018427387904 by omega)]
    rfl
  · have e1 := w1 h0 (by omega)
    have e2 : w64 (kk + 1 + 1) = kk + 2 := (w1 (by omega) (by omega)).trans (by omega)
    rw [laws_heldFaceS.l1, if_pos (by omega), if_pos (by omega), Int.toNat_natCast, hg, bnd_eq, if_pos rfl, e1, if_pos rfl, e2, w64_succ (by omega)]; rfl
theorem markMoveS {xs : List GMove} (hn : xs.length ≤ 2000000) : MarkL laws_markMoveS.f laws_heldMoveS.f xs (3 * xs.length) := by
  have h := MarkL.of (xs := xs) (z := z_GMove) (mark := laws_markMoveS.f) (held := laws_heldMoveS.f) (l := laws_markMoveS.l1) (l' := laws_heldMoveS.l1) (cnt := fun _ => 3) (fun _ _ _ => rfl) (fun _ _ _ => rfl)
    (fun K k ys kk hy => by rw [laws_markMoveS.l1, if_neg (by omega)]) (fun K k ys kk hy => by rw [laws_heldMoveS.l1, if_neg (by omega)]) (fun i hi kk h0 hb => ⟨⟨kk, kk + 1, kk + 2⟩, fun ys r hy hg h => Tends2.step (fun K k => ?_) h, fun ys r hy hg h => Tends2.step (fun K k => ?_) h⟩)
  · rw [sumF_const] at h; exact h
  all_goals
    have e1 := w1 h0 (by omega)
    have e2 : w64 (kk + 1 + 1) = kk + 2 := (w1 (by omega) (by omega)).trans (by omega)
    have e3 : w64 (kk + 2 + 1) = kk + 3 := (w1 (by omega) (by omega)).trans (by omega)
  · rw [laws_markMoveS.l1, if_pos (by omega), if_pos (by omega), Int.toNat_natCast]
    simp only [bnd_eq, List.length_set, if_pos (show 0 ≤ (i : Int) ∧ (i : Int) < (ys.length : Int) by omega), gds_self (show i < ys.length by omega), List.set_set, e1, e2, e3, w64_succ (show i < 4611686018427387904 by omega)]
    rfl
  · rw [laws_heldMoveS.l1, if_pos (by omega), if_pos (by omega), Int.toNat_natCast, hg, bnd_eq, if_pos rfl, e1, if_pos rfl, e2, if_pos rfl, e3, w64_succ (by omega)]; rfl
theorem markCrossingS {xs : List GCrossing} (hn : xs.length ≤ 2000000) : MarkL laws_markCrossingS.f laws_heldCrossingS.f xs (5 * xs.length) := by
  have h := MarkL.of (xs := xs) (z := z_GCrossing) (mark := laws_markCrossingS.f) (held := laws_heldCrossingS.f) (l := laws_markCrossingS.l1) (l' := laws_heldCrossingS.l1) (cnt := fun _ => 5) (fun _ _ _ => rfl) (fun _ _ _ => rfl)
    (fun K k ys kk hy => by rw [laws_markCrossingS.l1, if_neg (by omega)]) (fun K k ys kk hy => by rw [laws_heldCrossingS.l1, if_neg (by omega)]) (fun i hi kk h0 hb => ⟨⟨kk, kk + 1, kk + 2, kk + 3, kk + 4⟩, fun ys r hy hg h => Tends2.step (fun K k => ?_) h, fun ys r hy hg h => Tends2.step (fun K k => ?_) h⟩)
  · rw [sumF_const] at h; exact h
  all_goals
    have e1 := w1 h0 (by omega)
    have e2 : w64 (kk + 1 + 1) = kk + 2 := (w1 (by omega) (by omega)).trans (by omega)
    have e3 : w64 (kk + 2 + 1) = kk + 3 := (w1 (by omega) (by omega)).trans (by omega)
    have e4 : w64 (kk + 3 + 1) = kk + 4 := (w1 (by omega) (by omega)).trans (by omega)
    have e5 : w64 (kk + 4 + 1) = kk + 5 := (w1 (by omega) (by omega)).trans (by omega)
  · rw [laws_markCrossingS.l1, if_pos (by omega), if_pos (by omega), Int.toNat_natCast]
    simp only [bnd_eq, List.length_set, if_pos (show 0 ≤ (i : Int) ∧ (i : Int) < (ys.length : Int) by omega), gds_self (show i < ys.length by omega), List.set_set, e1, e2, e3, e4, e5, w64_succ (show i < 4611686018427387904 by omega)]
    rfl
  · rw [laws_heldCrossingS.l1, if_pos (by omega), if_pos (by omega), Int.toNat_natCast, hg, bnd_eq, if_pos rfl, e1, if_pos rfl, e2, if_pos rfl, e3, if_pos rfl, e4, if_pos rfl, e5, w64_succ (by omega)]; rfl
theorem MarkL.rows {β : Type} {xs : List (List β)} {mark : Nat → List β → Int → Option (Int × List β)} {held : Nat → List β → Int → Option Int} {markS : Nat → List (List β) → Int → Option (Int × List (List β))} {heldS : Nat → List (List β) → Int → Option Int}
    {l : Nat → Nat → List (List β) → Int → Int → Option (Int × List (List β))} {l' : Nat → Nat → List (List β) → Int → Int → Option Int} {cnt : Nat → Nat} (hn : xs.length ≤ 2000000)
    (hm : ∀ K xs kk, markS K xs kk = l K K xs kk 0) (hh : ∀ K xs kk, heldS K xs kk = l' K K xs kk 0)
    (hl : ∀ K k ys kk i, l K (k + 1) ys kk i = if i < (ys.length : Int) then (if 0 ≤ i ∧ i < (ys.length : Int) then bind2 (mark K (ys.getD i.toNat []) kk) (fun a b => if b.length = (ys.getD i.toNat []).length then l K k (ys.set i.toNat b) a (w64 (i + 1)) else none) else none) else some (kk, ys))
    (hl' : ∀ K k ys kk i, l' K (k + 1) ys kk i = if i < (ys.length : Int) then (if 0 ≤ i ∧ i < (ys.length : Int) then (held K (ys.getD i.toNat []) kk).bind (fun t => if t < 0 then some (-1) else l' K k ys t (w64 (i + 1))) else none) else some kk)
    (h1 : ∀ i, i < xs.length → MarkL mark held (xs.getD i []) (cnt i)) : MarkL markS heldS xs (sumF cnt 0 xs.length) :=
  MarkL.of (z := []) hm hh (fun K k ys kk hy => by rw [hl, if_neg (by omega)]) (fun K k ys kk hy => by rw [hl', if_neg (by omega)]) fun i hi kk h0 hb => by
    obtain ⟨y, y1, y2, y3⟩ := h1 i hi kk h0 hb
    refine ⟨y, fun ys r hy hg h => ?_, fun ys r hy hg h => ?_⟩
    · refine Tends2.step (fun K k => ?_) (Tends2.bind2 (G := fun K k a b => if b.length = (xs.getD i []).length then l K k (ys.set i b) a ((i + 1 : Nat) : Int) else none) y2.two (Tends2.pos y1 h))
      rw [hl, if_pos (by omega), if_pos (by omega), Int.toNat_natCast, hg, w64_succ (by omega)]
    · refine Tends2.step (fun K k => ?_) (Tends2.bind (G := fun K k t => if t < 0 then some (-1) else l' K k ys t ((i + 1 : Nat) : Int)) y3.two (Tends2.neg (by omega) h))
      rw [hl', if_pos (by omega), if_pos (by omega), Int.toNat_natCast, hg, w64_succ (by omega)]
def cF (xs : List (List GFace)) : Nat := sumF (fun i => 2 * (xs.getD i []).length) 0 xs.length
theorem markFaceSS {xs : List (List GFace)} (hn : xs.length ≤ 2000000) (h : ∀ j, j < xs.length → (xs.getD j []).length ≤ 2000000) : MarkL laws_markFaceSS.f laws_heldFaceSS.f xs (cF xs) :=
  MarkL.rows (mark := laws_markFaceS.f) (held := laws_heldFaceS.f) (l := laws_markFaceSS.l1) (l' := laws_heldFaceSS.l1) hn (fun _ _ _ => rfl) (fun _ _ _ => rfl) (fun _ _ _ _ _ => rfl) (fun _ _ _ _ _ => rfl) (fun i hi => markFaceS (h i hi))
theorem markText_l1 : ∀ (m : Nat) (v : Int) (acc : ByteArray), 0 ≤ v → v < 10 ^ m → m ≤ 18 → acc.size + m ≤ 1000 → ∃ t, Tends2 (fun K k => laws_markText.l1 K k v acc) t
  | 0, v, acc, h0, h1, _, hs => by
    have h2 : v < 1 := by simpa using h1
    refine ⟨(⟨#[109]⟩ : ByteArray) ++ acc, Tends2.of fun K k => ?_⟩
    rw [laws_markText.l1, if_neg (by omega), if_pos (by show 1 + acc.size ≤ _; omega)]
  | m + 1, v, acc, h0, h1, hm, hs => by
    by_cases hv : 0 < v
    · have hd : v.tdiv 10 = v / 10 := Int.tdiv_eq_ediv_of_nonneg h0
      have hp : (10 : Int) ^ (m + 1) = 10 * 10 ^ m := by rw [Int.pow_succ, Int.mul_comm]
      have h18 : (10 : Int) ^ (m + 1) ≤ 10 ^ 18 := by
        have := Nat.pow_le_pow_right (n := 10) (by omega) hm
        exact_mod_cast this
      have hlt : v / 10 < 10 ^ m := by omega
      have hw : w64 (v.tdiv 10) = v / 10 := by rw [hd]; exact w64_id (by omega) (by omega)
      obtain ⟨t, ht⟩ := markText_l1 m (v / 10) ((strOfNums ([IntKind.wrap .u8 (w64 (48 + (v.tmod 10)))] : List Int)) ++ acc) (by omega) hlt (by omega) (by rw [ByteArray.size_append, strOfNums_size]; simp only [List.length_cons, List.length_nil]; omega)
      refine ⟨t, Tends2.step (fun K k => ?_) ht⟩
      rw [laws_markText.l1, if_pos hv, if_pos (by rw [strOfNums_size]; simp only [List.length_cons, List.length_nil]; omega), hw]
    · refine ⟨(⟨#[109]⟩ : ByteArray) ++ acc, Tends2.of fun K k => ?_⟩
      rw [laws_markText.l1, if_neg hv, if_pos (by show 1 + acc.size ≤ _; omega)]
theorem markText {v : Int} (h0 : 0 ≤ v) (h1 : v ≤ MaxK) : ∃ t, Tends (fun K => laws_markText.f K v) t := by
  unfold laws_markText.f
  unfold MaxK at h1
  by_cases hv : v ≤ 0
  · exact ⟨_, Tends.pos hv (Tends.const _)⟩
  · obtain ⟨t, ht⟩ := markText_l1 18 v ByteArray.empty h0 (by omega) (Nat.le_refl _) (by show 0 + 18 ≤ 1000; omega)
    exact ⟨t, Tends.neg hv ht.diag⟩
def cItem (x : GItem) : Nat := 6 + cF x.Triangulation_Tets + 5 * x.Diagram_Crossings.length + x.Braid_Word.length + 3 * x.Certificate_Moves.length + x.Certificate_Tets.length + x.Certificate_Perms.length
def cItemS (xs : List GItem) : Nat := sumF (fun i => cItem (xs.getD i z_GItem)) 0 xs.length
def cItemSS (xs : List (List GItem)) : Nat := sumF (fun i => cItemS (xs.getD i [])) 0 xs.length
end Go.Proofs.YtkmeepgpmppibaaGreatDoor
