/-
  An item's parts copied, compared with themselves, and how much they are.
-/
import Derived.Test.YtkmeepgpmppibaaGreatDoorPlB
set_option linter.unusedVariables false
set_option linter.unusedSimpArgs false
namespace Go.Proofs.YtkmeepgpmppibaaGreatDoor
open Go.RowKit
theorem toFaceS_l1 {xs : List GFace} (hn : xs.length ≤ 2000000) : ∀ (m i : Nat) (out : List GFace), xs.length - i = m → i ≤ xs.length → out.length = xs.length → (∀ j, j < i → out[j]? = xs[j]?) →
    Tends2 (fun K k => laws_toFaceS.l1 K k xs out (i : Int)) xs
  | 0, i, out, hm, hi, hl, ho => by
    have he : out = xs := by
      apply List.ext_getElem?
      intro j
      by_cases hj : j < i
      · exact ho j hj
      · rw [List.getElem?_eq_none (by omega), List.getElem?_eq_none (by omega)]
    refine Tends2.succ (Tends2.congr (G := fun _ _ => some xs) (fun K k => ?_) (Tends2.const _))
    rw [laws_toFaceS.l1, if_neg (by omega), he]
  | m + 1, i, out, hm, hi, hl, ho => by
    have hlt : i < xs.length := by omega
    have ih := toFaceS_l1 hn m (i + 1) (out.set i xs[i]) (by omega) (by omega) (by rw [List.length_set]; exact hl) (fun j hj => by
      by_cases hij : i = j
      · subst hij; rw [List.getElem?_set_self (by omega), List.getElem?_eq_getElem hlt]
      · rw [List.getElem?_set_ne hij]; exact ho j (by omega))
    refine Tends2.succ (Tends2.congr (fun K k => ?_) ih)
    rw [laws_toFaceS.l1, if_pos (by omega), if_pos (by omega)]
    try simp only [laws_toFace.f, bind2, Option.bind_some, bnd_eq]
    rw [if_pos (by omega), Int.toNat_natCast, w64_succ (by omega), List.getD_eq_getElem?_getD, List.getElem?_eq_getElem hlt]
    rfl
theorem toFaceS {xs : List GFace} (hn : xs.length ≤ 2000000) : Tends (fun K => laws_toFaceS.f K xs) xs := by
  refine Tends.congr (fun K => ?_) (toFaceS_l1 hn xs.length 0 (List.replicate xs.length z_GFace) (by omega) (by omega) (by simp) (fun j hj => by omega)).diag
  rw [laws_toFaceS.f, if_pos (by omega), if_pos (by omega), Int.toNat_natCast]
  rfl
theorem toMoveS_l1 {xs : List GMove} (hn : xs.length ≤ 2000000) : ∀ (m i : Nat) (out : List GMove), xs.length - i = m → i ≤ xs.length → out.length = xs.length → (∀ j, j < i → out[j]? = xs[j]?) →
    Tends2 (fun K k => laws_toMoveS.l1 K k xs out (i : Int)) xs
  | 0, i, out, hm, hi, hl, ho => by
    have he : out = xs := by
      apply List.ext_getElem?
      intro j
      by_cases hj : j < i
      · exact ho j hj
      · rw [List.getElem?_eq_none (by omega), List.getElem?_eq_none (by omega)]
    refine Tends2.succ (Tends2.congr (G := fun _ _ => some xs) (fun K k => ?_) (Tends2.const _))
    rw [laws_toMoveS.l1, if_neg (by omega), he]
  | m + 1, i, out, hm, hi, hl, ho => by
    have hlt : i < xs.length := by omega
    have ih := toMoveS_l1 hn m (i + 1) (out.set i xs[i]) (by omega) (by omega) (by rw [List.length_set]; exact hl) (fun j hj => by
      by_cases hij : i = j
      · subst hij; rw [List.getElem?_set_self (by omega), List.getElem?_eq_getElem hlt]
      · rw [List.getElem?_set_ne hij]; exact ho j (by omega))
    refine Tends2.succ (Tends2.congr (fun K k => ?_) ih)
    rw [laws_toMoveS.l1, if_pos (by omega), if_pos (by omega)]
    try simp only [laws_toMove.f, bind3, Option.bind_some, bnd_eq]
    rw [if_pos (by omega), Int.toNat_natCast, w64_succ (by omega), List.getD_eq_getElem?_getD, List.getElem?_eq_getElem hlt]
    rfl
theorem toMoveS {xs : List GMove} (hn : xs.length ≤ 2000000) : Tends (fun K => laws_toMoveS.f K xs) xs := by
  refine Tends.congr (fun K => ?_) (toMoveS_l1 hn xs.length 0 (List.replicate xs.length z_GMove) (by omega) (by omega) (by simp) (fun j hj => by omega)).diag
  rw [laws_toMoveS.f, if_pos (by omega), if_pos (by omega), Int.toNat_natCast]
  rfl
theorem toInt64S_l1 {xs : List Int} (hn : xs.length ≤ 2000000) : ∀ (m i : Nat) (out : List Int), xs.length - i = m → i ≤ xs.length → out.length = xs.length → (∀ j, j < i → out[j]? = xs[j]?) →
    Tends2 (fun K k => laws_toInt64S.l1 K k xs out (i : Int)) xs
  | 0, i, out, hm, hi, hl, ho => by
    have he : out = xs := by
      apply List.ext_getElem?
      intro j
      by_cases hj : j < i
      · exact ho j hj
      · rw [List.getElem?_eq_none (by omega), List.getElem?_eq_none (by omega)]
    refine Tends2.succ (Tends2.congr (G := fun _ _ => some xs) (fun K k => ?_) (Tends2.const _))
    rw [laws_toInt64S.l1, if_neg (by omega), he]
  | m + 1, i, out, hm, hi, hl, ho => by
    have hlt : i < xs.length := by omega
    have ih := toInt64S_l1 hn m (i + 1) (out.set i xs[i]) (by omega) (by omega) (by rw [List.length_set]; exact hl) (fun j hj => by
      by_cases hij : i = j
      · subst hij; rw [List.getElem?_set_self (by omega), List.getElem?_eq_getElem hlt]
      · rw [List.getElem?_set_ne hij]; exact ho j (by omega))
    refine Tends2.succ (Tends2.congr (fun K k => ?_) ih)
    rw [laws_toInt64S.l1, if_pos (by omega), if_pos (by omega)]
    try simp only [Option.bind_some, bnd_eq]
    rw [if_pos (by omega), Int.toNat_natCast, w64_succ (by omega), List.getD_eq_getElem?_getD, List.getElem?_eq_getElem hlt]
    rfl
theorem toInt64S {xs : List Int} (hn : xs.length ≤ 2000000) : Tends (fun K => laws_toInt64S.f K xs) xs := by
  refine Tends.congr (fun K => ?_) (toInt64S_l1 hn xs.length 0 (List.replicate xs.length 0) (by omega) (by omega) (by simp) (fun j hj => by omega)).diag
  rw [laws_toInt64S.f, if_pos (by omega), if_pos (by omega), Int.toNat_natCast]
  rfl
theorem eqFaceS_l1 {xs : List GFace} (hn : xs.length ≤ 2000000) : ∀ (m i : Nat), xs.length - i = m → Tends2 (fun K k => laws_eqFaceS.l1 K k xs xs (i : Int)) true
  | 0, i, hm => by
    refine Tends2.succ (Tends2.congr (G := fun _ _ => some true) (fun K k => ?_) (Tends2.const _))
    rw [laws_eqFaceS.l1, if_neg (by omega)]
  | m + 1, i, hm => by
    refine Tends2.succ (Tends2.congr (fun K k => ?_) (eqFaceS_l1 hn m (i + 1) (by omega)))
    rw [laws_eqFaceS.l1, if_pos (by omega), if_pos (by omega), bnd_eq, if_pos (by omega), bnd_eq]
    simp only [laws_eqFace.f, if_true, Option.bind_some]
    rw [w64_succ (by omega)]
theorem eqFaceS {xs : List GFace} (hn : xs.length ≤ 2000000) : Tends (fun K => laws_eqFaceS.f K xs xs) true := by
  refine Tends.congr (fun K => ?_) (eqFaceS_l1 hn xs.length 0 (by omega)).diag
  rw [laws_eqFaceS.f, if_pos rfl]
  rfl
theorem eqMoveS_l1 {xs : List GMove} (hn : xs.length ≤ 2000000) : ∀ (m i : Nat), xs.length - i = m → Tends2 (fun K k => laws_eqMoveS.l1 K k xs xs (i : Int)) true
  | 0, i, hm => by
    refine Tends2.succ (Tends2.congr (G := fun _ _ => some true) (fun K k => ?_) (Tends2.const _))
    rw [laws_eqMoveS.l1, if_neg (by omega)]
  | m + 1, i, hm => by
    refine Tends2.succ (Tends2.congr (fun K k => ?_) (eqMoveS_l1 hn m (i + 1) (by omega)))
    rw [laws_eqMoveS.l1, if_pos (by omega), if_pos (by omega), bnd_eq, if_pos (by omega), bnd_eq]
    simp only [laws_eqMove.f, if_true, Option.bind_some]
    rw [w64_succ (by omega)]
theorem eqMoveS {xs : List GMove} (hn : xs.length ≤ 2000000) : Tends (fun K => laws_eqMoveS.f K xs xs) true := by
  refine Tends.congr (fun K => ?_) (eqMoveS_l1 hn xs.length 0 (by omega)).diag
  rw [laws_eqMoveS.f, if_pos rfl]
  rfl
theorem eqInt64S_l1 {xs : List Int} (hn : xs.length ≤ 2000000) : ∀ (m i : Nat), xs.length - i = m → Tends2 (fun K k => laws_eqInt64S.l1 K k xs xs (i : Int)) true
  | 0, i, hm => by
    refine Tends2.succ (Tends2.congr (G := fun _ _ => some true) (fun K k => ?_) (Tends2.const _))
    rw [laws_eqInt64S.l1, if_neg (by omega)]
  | m + 1, i, hm => by
    refine Tends2.succ (Tends2.congr (fun K k => ?_) (eqInt64S_l1 hn m (i + 1) (by omega)))
    rw [laws_eqInt64S.l1, if_pos (by omega), if_pos (by omega), if_pos (by omega), if_pos rfl]
    skip
    rw [w64_succ (by omega)]
theorem eqInt64S {xs : List Int} (hn : xs.length ≤ 2000000) : Tends (fun K => laws_eqInt64S.f K xs xs) true := by
  refine Tends.congr (fun K => ?_) (eqInt64S_l1 hn xs.length 0 (by omega)).diag
  rw [laws_eqInt64S.f, if_pos rfl]
  rfl
theorem toFaceSS_l1 {xs : List (List GFace)} (hn : xs.length ≤ 2000000) (hr : ∀ i, i < xs.length → (xs.getD i []).length ≤ 2000000) : ∀ (m i : Nat) (out : List (List GFace)), xs.length - i = m → i ≤ xs.length → out.length = xs.length → (∀ j, j < i → out[j]? = xs[j]?) →
    Tends2 (fun K k => laws_toFaceSS.l1 K k xs out (i : Int)) xs
  | 0, i, out, hm, hi, hl, ho => by
    have he : out = xs := by
      apply List.ext_getElem?
      intro j
      by_cases hj : j < i
      · exact ho j hj
      · rw [List.getElem?_eq_none (by omega), List.getElem?_eq_none (by omega)]
    refine Tends2.succ (Tends2.congr (G := fun _ _ => some xs) (fun K k => ?_) (Tends2.const _))
    rw [laws_toFaceSS.l1, if_neg (by omega), he]
  | m + 1, i, out, hm, hi, hl, ho => by
    have hlt : i < xs.length := by omega
    have hg : xs.getD i [] = xs[i] := by rw [List.getD_eq_getElem?_getD, List.getElem?_eq_getElem hlt]; rfl
    have ih := toFaceSS_l1 hn hr m (i + 1) (out.set i xs[i]) (by omega) (by omega) (by rw [List.length_set]; exact hl) (fun j hj => by
      by_cases hij : i = j
      · subst hij; rw [List.getElem?_set_self (by omega), List.getElem?_eq_getElem hlt]
      · rw [List.getElem?_set_ne hij]; exact ho j (by omega))
    have hb := Tends2.bind (G := fun K k t => if 0 ≤ (i : Int) ∧ (i : Int) < (out.length : Int) then laws_toFaceSS.l1 K k xs (out.set i t) (w64 ((i : Int) + 1)) else none) (toFaceS (hr i hlt)).two (r := xs) (Tends2.pos (by omega) (by rw [hg, w64_succ (by omega)]; exact ih))
    refine Tends2.succ (Tends2.congr (fun K k => ?_) hb)
    rw [laws_toFaceSS.l1, if_pos (by omega), if_pos (by omega), Int.toNat_natCast]
theorem toFaceSS {xs : List (List GFace)} (hn : xs.length ≤ 2000000) (hr : ∀ i, i < xs.length → (xs.getD i []).length ≤ 2000000) : Tends (fun K => laws_toFaceSS.f K xs) xs := by
  refine Tends.congr (fun K => ?_) (toFaceSS_l1 hn hr xs.length 0 (List.replicate xs.length []) (by omega) (by omega) (by simp) (fun j hj => by omega)).diag
  rw [laws_toFaceSS.f, if_pos (by omega), if_pos (by omega), Int.toNat_natCast]
  rfl
theorem eqFaceSS_l1 {xs : List (List GFace)} (hn : xs.length ≤ 2000000) (hr : ∀ i, i < xs.length → (xs.getD i []).length ≤ 2000000) : ∀ (m i : Nat), xs.length - i = m → Tends2 (fun K k => laws_eqFaceSS.l1 K k xs xs (i : Int)) true
  | 0, i, hm => by
    refine Tends2.succ (Tends2.congr (G := fun _ _ => some true) (fun K k => ?_) (Tends2.const _))
    rw [laws_eqFaceSS.l1, if_neg (by omega)]
  | m + 1, i, hm => by
    have hb := Tends2.bind (G := fun K k t => if t = true then laws_eqFaceSS.l1 K k xs xs (w64 ((i : Int) + 1)) else some false) (eqFaceS (hr i (by omega))).two (r := true) (Tends2.pos rfl (by rw [w64_succ (by omega)]; exact eqFaceSS_l1 hn hr m (i + 1) (by omega)))
    refine Tends2.succ (Tends2.congr (fun K k => ?_) hb)
    rw [laws_eqFaceSS.l1, if_pos (by omega), if_pos (by omega), if_pos (by omega), Int.toNat_natCast]
theorem eqFaceSS {xs : List (List GFace)} (hn : xs.length ≤ 2000000) (hr : ∀ i, i < xs.length → (xs.getD i []).length ≤ 2000000) : Tends (fun K => laws_eqFaceSS.f K xs xs) true := by
  refine Tends.congr (fun K => ?_) (eqFaceSS_l1 hn hr xs.length 0 (by omega)).diag
  rw [laws_eqFaceSS.f, if_pos rfl]
  rfl
theorem szBind {F : Nat → Option Int} {G : Nat → Int → Option Int} {P Q : Int → Prop} (h : ∃ r, Tends F r ∧ (r < 0 ∨ P r)) (g : ∀ r, P r → ¬ r < 0 → ∃ s, Tends (fun K => G K r) s ∧ (s < 0 ∨ Q s)) :
    ∃ r, Tends (fun K => (F K).bind fun t => if t < 0 then some (-1) else G K t) r ∧ (r < 0 ∨ Q r) := by
  obtain ⟨r, t, c⟩ := h
  by_cases hr : r < 0
  · exact ⟨-1, Tends.bind t (Tends.pos hr (Tends.const _)), .inl (by omega)⟩
  · obtain ⟨s, t2, c2⟩ := g r (by rcases c with c | c; exact absurd c hr; exact c) hr
    exact ⟨s, Tends.bind t (Tends.neg hr t2), c2⟩
end Go.Proofs.YtkmeepgpmppibaaGreatDoor
