/-
  Triangulations copied, compared with themselves, and how much they are.
-/
import Derived.Test.YtbjfinndngafoaaGreatPlT4
set_option linter.unusedVariables false
set_option linter.unusedSimpArgs false
namespace Go.Proofs.YtbjfinndngafoaaGreat
open Go.RowKit
theorem toFaceS_l1 {xs : List GFace} (hn : xs.length ≤ 2000000) : ∀ (m i : Nat) (out : List GFace), xs.length - i = m → i ≤ xs.length → out.length = xs.length → (∀ j, j < i → out[j]? = xs[j]?) →
    Tends2 (fun K k => laws_toFaceS.l1 K k xs out (i : Int)) xs
  | 0, i, out, hm, hi, hl, ho => by
    have he : out = xs := by
      apply List.ext_getElem?
      intro j
      by_cases hj : j < i
      · exact ho j hj
      · rw [List.getElem?_eq_none (by omega), List.getElem?_eq_none (by omega)]
    refine Tends2.succ (Tends2.congr (G := fun _ _ => some xs) (fun K k => ?_) (Tends2.const _))
    rw [laws_toFaceS.l1, if_neg (by omega), he]
  | m + 1, i, out, hm, hi, hl, ho => by
    have hlt : i < xs.length := by omega
    have ih := toFaceS_l1 hn m (i + 1) (out.set i xs[i]) (by omega) (by omega) (by rw [List.length_set]; exact hl) (fun j hj => by
      by_cases hij : i = j
      · subst hij; rw [List.getElem?_set_self (by omega), List.getElem?_eq_getElem hlt]
      · rw [List.getElem?_set_ne hij]; exact ho j (by omega))
    refine Tends2.succ (Tends2.congr (fun K k => ?_) ih)
    rw [laws_toFaceS.l1, if_pos (by omega), if_pos (by omega)]
    try simp only [laws_toFace.f, bind2, Option.bind_some, bnd_eq]
    rw [if_pos (by omega), Int.toNat_natCast, w64_succ (by omega), List.getD_eq_getElem?_getD, List.getElem?_eq_getElem hlt]
    rfl
theorem toFaceS {xs : List GFace} (hn : xs.length ≤ 2000000) : Tends (fun K => laws_toFaceS.f K xs) xs := by
  refine Tends.congr (fun K => ?_) (toFaceS_l1 hn xs.length 0 (List.replicate xs.length z_GFace) (by omega) (by omega) (by simp) (fun j hj => by omega)).diag
  rw [laws_toFaceS.f, if_pos (by omega), if_pos (by omega), Int.toNat_natCast]
  rfl
theorem eqFaceS_l1 {xs : List GFace} (hn : xs.length ≤ 2000000) : ∀ (m i : Nat), xs.length - i = m → Tends2 (fun K k => laws_eqFaceS.l1 K k xs xs (i : Int)) true
  | 0, i, hm => by
    refine Tends2.succ (Tends2.congr (G := fun _ _ => some true) (fun K k => ?_) (Tends2.const _))
    rw [laws_eqFaceS.l1, if_neg (by omega)]
  | m + 1, i, hm => by
    refine Tends2.succ (Tends2.congr (fun K k => ?_) (eqFaceS_l1 hn m (i + 1) (by omega)))
    rw [laws_eqFaceS.l1, if_pos (by omega), if_pos (by omega), bnd_eq, if_pos (by omega), bnd_eq]
    simp only [laws_eqFace.f, if_true, Option.bind_some]
    rw [w64_succ (by omega)]
theorem eqFaceS {xs : List GFace} (hn : xs.length ≤ 2000000) : Tends (fun K => laws_eqFaceS.f K xs xs) true := by
  refine Tends.congr (fun K => ?_) (eqFaceS_l1 hn xs.length 0 (by omega)).diag
  rw [laws_eqFaceS.f, if_pos rfl]
  rfl
theorem toFaceSS_l1 {xs : List (List GFace)} (hn : xs.length ≤ 2000000) (hr : ∀ i, i < xs.length → (xs.getD i []).length ≤ 2000000) : ∀ (m i : Nat) (out : List (List GFace)), xs.length - i = m → i ≤ xs.length → out.length = xs.length → (∀ j, j < i → out[j]? = xs[j]?) →
    Tends2 (fun K k => laws_toFaceSS.l1 K k xs out (i : Int)) xs
  | 0, i, out, hm, hi, hl, ho => by
    have he : out = xs := by
      apply List.ext_getElem?
      intro j
      by_cases hj : j < i
      · exact ho j hj
      · rw [List.getElem?_eq_none (by omega), List.getElem?_eq_none (by omega)]
    refine Tends2.succ (Tends2.congr (G := fun _ _ => some xs) (fun K k => ?_) (Tends2.const _))
    rw [laws_toFaceSS.l1, if_neg (by omega), he]
  | m + 1, i, out, hm, hi, hl, ho => by
    have hlt : i < xs.length := by omega
    have hg : xs.getD i [] = xs[i] := by rw [List.getD_eq_getElem?_getD, List.getElem?_eq_getElem hlt]; rfl
    have ih := toFaceSS_l1 hn hr m (i + 1) (out.set i xs[i]) (by omega) (by omega) (by rw [List.length_set]; exact hl) (fun j hj => by
      by_cases hij : i = j
      · subst hij; rw [List.getElem?_set_self (by omega), List.getElem?_eq_getElem hlt]
      · rw [List.getElem?_set_ne hij]; exact ho j (by omega))
    have hb := Tends2.bind (G := fun K k t => if 0 ≤ (i : Int) ∧ (i : Int) < (out.length : Int) then laws_toFaceSS.l1 K k xs (out.set i t) (w64 ((i : Int) + 1)) else none) (toFaceS (hr i hlt)).two (r := xs) (Tends2.pos (by omega) (by rw [hg, w64_succ (by omega)]; exact ih))
    refine Tends2.succ (Tends2.congr (fun K k => ?_) hb)
    rw [laws_toFaceSS.l1, if_pos (by omega), if_pos (by omega), Int.toNat_natCast]
theorem toFaceSS {xs : List (List GFace)} (hn : xs.length ≤ 2000000) (hr : ∀ i, i < xs.length → (xs.getD i []).length ≤ 2000000) : Tends (fun K => laws_toFaceSS.f K xs) xs := by
  refine Tends.congr (fun K => ?_) (toFaceSS_l1 hn hr xs.length 0 (List.replicate xs.length []) (by omega) (by omega) (by simp) (fun j hj => by omega)).diag
  rw [laws_toFaceSS.f, if_pos (by omega), if_pos (by omega), Int.toNat_natCast]
  rfl
theorem eqFaceSS_l1 {xs : List (List GFace)} (hn : xs.length ≤ 2000000) (hr : ∀ i, i < xs.length → (xs.getD i []).length ≤ 2000000) : ∀ (m i : Nat), xs.length - i = m → Tends2 (fun K k => laws_eqFaceSS.l1 K k xs xs (i : Int)) true
  | 0, i, hm => by
    refine Tends2.succ (Tends2.congr (G := fun _ _ => some true) (fun K k => ?_) (Tends2.const _))
    rw [laws_eqFaceSS.l1, if_neg (by omega)]
  | m + 1, i, hm => by
    have hb := Tends2.bind (G := fun K k t => if t = true then laws_eqFaceSS.l1 K k xs xs (w64 ((i : Int) + 1)) else some false) (eqFaceS (hr i (by omega))).two (r := true) (Tends2.pos rfl (by rw [w64_succ (by omega)]; exact eqFaceSS_l1 hn hr m (i + 1) (by omega)))
    refine Tends2.succ (Tends2.congr (fun K k => ?_) hb)
    rw [laws_eqFaceSS.l1, if_pos (by omega), if_pos (by omega), if_pos (by omega), Int.toNat_natCast]
theorem eqFaceSS {xs : List (List GFace)} (hn : xs.length ≤ 2000000) (hr : ∀ i, i < xs.length → (xs.getD i []).length ≤ 2000000) : Tends (fun K => laws_eqFaceSS.f K xs xs) true := by
  refine Tends.congr (fun K => ?_) (eqFaceSS_l1 hn hr xs.length 0 (by omega)).diag
  rw [laws_eqFaceSS.f, if_pos rfl]
  rfl
def Left (n : Nat) (r left : Int) : Prop := r < 0 ∨ (0 ≤ r ∧ r ≤ left ∧ (n : Int) ≤ left)
theorem sz_step {n : Nat} {left : Int} (h0 : 0 ≤ left) (h1 : left ≤ 1048576) (hn : n ≤ 9223372036854775807) : ∃ r, (if w64 (left - (n : Int)) < 0 then some (-1 : Int) else some (w64 (left - (n : Int)))) = some r ∧ Left n r left := by
  rw [w64_id (by omega) (by omega)]
  by_cases h : left - (n : Int) < 0
  · exact ⟨-1, if_pos h, .inl (by omega)⟩
  · exact ⟨left - n, if_neg h, .inr (by omega)⟩
theorem szFaceSS_l1 {xs : List (List GFace)} (hn : xs.length ≤ 2000000) (hr : ∀ i, i < xs.length → (xs.getD i []).length ≤ 9223372036854775807) : ∀ (m i : Nat) (left : Int), xs.length - i = m → 0 ≤ left → left ≤ 1048576 →
    ∃ r, Tends2 (fun K k => laws_szFaceSS.l1 K k xs left (i : Int)) r ∧ (r < 0 ∨ (0 ≤ r ∧ r ≤ left ∧ ∀ j, i ≤ j → j < xs.length → (xs.getD j []).length ≤ 2000000))
  | 0, i, left, hm, h0, h1 => by
    refine ⟨left, Tends2.succ (Tends2.congr (G := fun _ _ => some left) (fun K k => ?_) (Tends2.const _)), .inr ⟨h0, Int.le_refl _, fun j hj hlt => by omega⟩⟩
    rw [laws_szFaceSS.l1, if_neg (by omega)]
  | m + 1, i, left, hm, h0, h1 => by
    obtain ⟨r, hr1, hr2⟩ := sz_step h0 h1 (hr i (by omega))
    have hs : laws_szFaceS.f (xs.getD i []) left = some r := hr1
    rcases hr2 with hneg | ⟨g0, g1, g2⟩
    · refine ⟨-1, Tends2.succ (Tends2.congr (G := fun _ _ => some (-1)) (fun K k => ?_) (Tends2.const _)), .inl (by omega)⟩
      rw [laws_szFaceSS.l1, if_pos (by omega), if_pos (by omega), Int.toNat_natCast, hs, Option.bind_some, if_pos hneg]
    · obtain ⟨r', t, c⟩ := szFaceSS_l1 hn hr m (i + 1) r (by omega) g0 (by omega)
      refine ⟨r', Tends2.succ (Tends2.congr (fun K k => ?_) t), ?_⟩
      · rw [laws_szFaceSS.l1, if_pos (by omega), if_pos (by omega), Int.toNat_natCast, hs, Option.bind_some, if_neg (by omega), w64_succ (by omega)]
      · rcases c with c | ⟨c0, c1, c2⟩
        · exact .inl c
        · refine .inr ⟨c0, by omega, fun j hj hlt => ?_⟩
          by_cases e : j = i
          · subst e; omega
          · exact c2 j (by omega) hlt
theorem szFaceSS {xs : List (List GFace)} (hn : xs.length ≤ 9223372036854775807) (hr : ∀ i, i < xs.length → (xs.getD i []).length ≤ 9223372036854775807) {left : Int} (h0 : 0 ≤ left) (h1 : left ≤ 1048576) :
    ∃ r, Tends (fun K => laws_szTriangulation.f K xs left) r ∧ (r < 0 ∨ (0 ≤ r ∧ r ≤ left ∧ xs.length ≤ 2000000 ∧ ∀ j, j < xs.length → (xs.getD j []).length ≤ 2000000)) := by
  by_cases h : left - (xs.length : Int) < 0
  · refine ⟨-1, Tends.congr (G := fun _ => some (-1)) (fun K => ?_) (Tends.const _), .inl (by omega)⟩
    unfold laws_szTriangulation.f laws_szFaceSS.f
    rw [w64_id (by omega) (by omega), if_pos h, Option.bind_some, if_pos (by omega)]
  · obtain ⟨r, t, c⟩ := szFaceSS_l1 (by omega) hr xs.length 0 (left - xs.length) (by omega) (by omega) (by omega)
    have t' : Tends (fun K => laws_szFaceSS.f K xs left) r := Tends.congr (fun K => by unfold laws_szFaceSS.f; rw [w64_id (by omega) (by omega), if_neg h]; rfl) t.diag
    rcases c with c | ⟨c0, c1, c2⟩
    · exact ⟨-1, Tends.bind t' (Tends.pos c (Tends.const _)), .inl (by omega)⟩
    · exact ⟨r, Tends.bind t' (Tends.neg (by omega) (Tends.const _)), .inr ⟨c0, by omega, by omega, fun j hj => c2 j (Nat.zero_le _) hj⟩⟩
end Go.Proofs.YtbjfinndngafoaaGreat
