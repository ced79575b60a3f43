/-
  The reference's boundary classes.
-/
import Derived.Test.YtbjfinndngafoaaGreatPlT14
set_option linter.unusedVariables false
set_option linter.unusedSimpArgs false
set_option linter.unusedSectionVars false
namespace Go.Proofs.YtbjfinndngafoaaGreat
open Go.RowKit
theorem has_l1 {l : List Int} {v : Int} (hl : l.length ≤ 1000) : ∀ (d i : Nat), l.length - i = d → i ≤ l.length → (∀ j, j < i → l.getD j 0 ≠ v) → Tends2 (fun K k => spec_l11Has.l1 K k l v (i : Int)) (decide (v ∈ l))
  | 0, i, hd, hi, h => by
    obtain rfl : i = l.length := by omega
    have : ¬ v ∈ l := fun hm => by
      obtain ⟨j, hj, he⟩ := List.getElem_of_mem hm
      exact h j hj (by rw [List.getD_eq_getElem?_getD, List.getElem?_eq_getElem hj, he]; rfl)
    rw [decide_eq_false this]
    refine Tends2.of fun K k => ?_
    rw [spec_l11Has.l1, if_neg (by omega)]
  | d + 1, i, hd, hi, h => by
    have hlt : i < l.length := by omega
    by_cases hc : l.getD i 0 = v
    · have : v ∈ l := by rw [← hc, List.getD_eq_getElem?_getD, List.getElem?_eq_getElem hlt]; exact List.getElem_mem hlt
      rw [decide_eq_true this]
      refine Tends2.of fun K k => ?_
      rw [spec_l11Has.l1, if_pos (by omega), if_pos (by omega), Int.toNat_natCast, if_pos hc]
    · refine Tends2.step (fun K k => ?_) (has_l1 hl d (i + 1) (by omega) (by omega) (fun j hj => by
        by_cases e : j = i
        · subst e; exact hc
        · exact h j (by omega)))
      rw [spec_l11Has.l1, if_pos (by omega), if_pos (by omega), Int.toNat_natCast, if_neg hc, w64_succ (by omega)]
theorem has_t {l : List Int} {v : Int} (hl : l.length ≤ 1000) : Tends (fun K => spec_l11Has.f K l v) (decide (v ∈ l)) := (has_l1 hl l.length 0 (by omega) (by omega) (fun j hj => by omega)).diag
theorem listed_l1 {fl : List Bool} (hl : fl.length ≤ 100) : ∀ (d i : Nat) (o : List Int), fl.length - i = d → i ≤ fl.length → o.length ≤ i → (∀ v : Int, v ∈ o ↔ ∃ c : Nat, v = (c : Int) ∧ c < i ∧ fl.getD c false = true) →
    ∃ o', Tends2 (fun K k => spec_l08Listed.l1 K k fl o (i : Int)) o' ∧ o'.length ≤ fl.length ∧ ∀ v : Int, v ∈ o' ↔ ∃ c : Nat, v = (c : Int) ∧ c < fl.length ∧ fl.getD c false = true
  | 0, i, o, hd, hi, ho, h => by
    obtain rfl : i = fl.length := by omega
    exact ⟨o, Tends2.of fun K k => by rw [spec_l08Listed.l1, if_neg (by omega)], ho, h⟩
  | d + 1, i, o, hd, hi, ho, h => by
    by_cases hc : fl.getD i false = true
    · obtain ⟨o', t, g1, g2⟩ := listed_l1 hl d (i + 1) (o ++ [(i : Int)]) (by omega) (by omega) (by rw [List.length_append]; simp; omega) (fun v => by
        rw [List.mem_append, h, List.mem_singleton]
        constructor
        · rintro (⟨c, a, b, e⟩ | e)
          · exact ⟨c, a, by omega, e⟩
          · exact ⟨i, e, by omega, hc⟩
        · rintro ⟨c, a, b, e⟩
          by_cases e2 : c = i
          · subst e2; exact .inr a
          · exact .inl ⟨c, a, by omega, e⟩)
      refine ⟨o', Tends2.step (fun K k => ?_) t, g1, g2⟩
      rw [spec_l08Listed.l1, if_pos (by omega), if_pos (by omega), Int.toNat_natCast, if_pos hc, if_pos (by omega), w64_succ (by omega)]
    · obtain ⟨o', t, g1, g2⟩ := listed_l1 hl d (i + 1) o (by omega) (by omega) (by omega) (fun v => by
        rw [h]
        constructor
        · rintro ⟨c, a, b, e⟩; exact ⟨c, a, by omega, e⟩
        · rintro ⟨c, a, b, e⟩
          have : c ≠ i := fun e2 => hc (e2 ▸ e)
          exact ⟨c, a, by omega, e⟩)
      refine ⟨o', Tends2.step (fun K k => ?_) t, g1, g2⟩
      rw [spec_l08Listed.l1, if_pos (by omega), if_pos (by omega), Int.toNat_natCast, if_neg hc, w64_succ (by omega)]
theorem listed_t {fl : List Bool} (hl : fl.length ≤ 100) : ∃ o, Tends (fun K => spec_l08Listed.f K fl) o ∧ o.length ≤ fl.length ∧ ∀ v : Int, v ∈ o ↔ ∃ c : Nat, v = (c : Int) ∧ c < fl.length ∧ fl.getD c false = true := by
  obtain ⟨o, t, h1, h2⟩ := listed_l1 hl fl.length 0 [] (by omega) (by omega) (by simp) (fun v => ⟨fun h => (List.not_mem_nil h).elim, fun ⟨c, _, h, _⟩ => by omega⟩)
  exact ⟨o, t.diag, h1, h2⟩
section
variable {ts : List (List GFace)} (hv : Val ts)
include hv
def BdL (ts : List (List GFace)) (L : List (List Int)) (D : Nat → Nat → Prop) : Prop :=
  (∀ t, t < L.length → ∃ a f : Nat, a < ts.length ∧ f < 4 ∧ L.getD t [] = [(a : Int), (f : Int)] ∧ (face ts a f).Tet < 0) ∧ ∀ a f : Nat, D a f → (face ts a f).Tet < 0 → ∃ t, t < L.length ∧ L.getD t [] = [(a : Int), (f : Int)]
theorem bl_l4 {a : Nat} (ha : a < ts.length) : ∀ (d f : Nat) (L : List (List Int)), 4 - f = d → f ≤ 4 → L.length ≤ 4 * a + f → BdL ts L (fun a' f' => a' < a ∧ f' < 4 ∨ a' = a ∧ f' < f) →
    ∃ L', L'.length ≤ 4 * (a + 1) ∧ BdL ts L' (fun a' f' => a' < a + 1 ∧ f' < 4) ∧ ∀ R, Tends2 (fun K k => spec_l07Boundary.l1 K k ts L' ((a + 1 : Nat) : Int)) R → Tends2 (fun K k => spec_l07Boundary.l4 K k ts (a : Int) L (f : Int)) R
  | 0, f, L, hd, hf, hl, h => by
    obtain rfl : f = 4 := by omega
    have h8 := hv.le
    refine ⟨L, by omega, ⟨h.1, fun a' f' hh => h.2 a' f' (by by_cases e : a' = a; exact .inr ⟨e, hh.2⟩; exact .inl ⟨by omega, hh.2⟩)⟩, fun R hR => Tends2.step (fun K k => ?_) hR⟩
    rw [spec_l07Boundary.l4, if_neg (by decide), w64_succ (by omega)]
  | d + 1, f, L, hd, hf, hl, h => by
    have h8 := hv.le
    have h4 := hv.four a ha
    by_cases hc : (face ts a f).Tet < 0
    · obtain ⟨L', g1, g2, g3⟩ := bl_l4 ha d (f + 1) (L ++ [[(a : Int), (f : Int)]]) (by omega) (by omega) (by rw [List.length_append]; simp; omega) ⟨fun t ht => by
          rw [List.length_append] at ht
          by_cases e : t < L.length
          · rw [List.getD_eq_getElem?_getD, List.getElem?_append_left e, ← List.getD_eq_getElem?_getD]; exact h.1 t e
          · have : t = L.length := by simp at ht; omega
            refine ⟨a, f, ha, by omega, ?_, hc⟩
            rw [this, List.getD_eq_getElem?_getD, List.getElem?_append_right (Nat.le_refl _), Nat.sub_self]; rfl, fun a' f' hh hb => by
          by_cases e : a' = a ∧ f' = f
          · refine ⟨L.length, by rw [List.length_append]; simp, ?_⟩
            rw [List.getD_eq_getElem?_getD, List.getElem?_append_right (Nat.le_refl _), Nat.sub_self, e.1, e.2]; rfl
          · obtain ⟨t, ht, he⟩ := h.2 a' f' (by rcases hh with hh | hh; exact .inl hh; exact .inr ⟨hh.1, by have := fun e2 => e ⟨hh.1, e2⟩; omega⟩) hb
            exact ⟨t, by rw [List.length_append]; omega, by rw [List.getD_eq_getElem?_getD, List.getElem?_append_left ht, ← List.getD_eq_getElem?_getD]; exact he⟩⟩
      refine ⟨L', g1, g2, fun R hR => Tends2.step (fun K k => ?_) (g3 R hR)⟩
      rw [spec_l07Boundary.l4, if_pos (by omega), if_pos (by omega), Int.toNat_natCast, if_pos (by omega), Int.toNat_natCast, bnd_eq]
      show (if (face ts a f).Tet < 0 then _ else _) = _
      rw [if_pos hc, if_pos (by omega), w64_succ (by omega)]
    · obtain ⟨L', g1, g2, g3⟩ := bl_l4 ha d (f + 1) L (by omega) (by omega) (by omega) ⟨h.1, fun a' f' hh hb => h.2 a' f' (by
          rcases hh with hh | hh
          · exact .inl hh
          · refine .inr ⟨hh.1, ?_⟩
            have : f' ≠ f := fun e => hc (by rw [← e, ← hh.1]; exact hb)
            omega) hb⟩
      refine ⟨L', g1, g2, fun R hR => Tends2.step (fun K k => ?_) (g3 R hR)⟩
      rw [spec_l07Boundary.l4, if_pos (by omega), if_pos (by omega), Int.toNat_natCast, if_pos (by omega), Int.toNat_natCast, bnd_eq]
      show (if (face ts a f).Tet < 0 then _ else _) = _
      rw [if_neg hc, w64_succ (by omega)]
theorem bl_l1 : ∀ (d a : Nat) (L : List (List Int)), ts.length - a = d → a ≤ ts.length → L.length ≤ 4 * a → BdL ts L (fun a' f' => a' < a ∧ f' < 4) →
    ∃ L', Tends2 (fun K k => spec_l07Boundary.l1 K k ts L (a : Int)) L' ∧ L'.length ≤ 4 * ts.length ∧ BdL ts L' (fun a' f' => a' < ts.length ∧ f' < 4)
  | 0, a, L, hd, ha, hl, h => by
    obtain rfl : a = ts.length := by omega
    exact ⟨L, Tends2.of fun K k => by rw [spec_l07Boundary.l1, if_neg (by omega)], hl, h⟩
  | d + 1, a, L, hd, ha, hl, h => by
    have h8 := hv.le
    obtain ⟨L1, g1, g2, g3⟩ := bl_l4 hv (a := a) (by omega) 4 0 L (by omega) (by omega) (by omega) ⟨h.1, fun a' f' hh hb => h.2 a' f' (by rcases hh with hh | hh; exact hh; omega) hb⟩
    obtain ⟨L', t, k1, k2⟩ := bl_l1 d (a + 1) L1 (by omega) (by omega) g1 g2
    refine ⟨L', Tends2.step (fun K k => ?_) (g3 _ t), k1, k2⟩
    rw [spec_l07Boundary.l1, if_pos (by omega)]
    rfl
theorem bl_t : ∃ L, Tends (fun K => spec_l07Boundary.f K ts) L ∧ L.length ≤ 4 * ts.length ∧ BdL ts L (fun a' f' => a' < ts.length ∧ f' < 4) := by
  obtain ⟨L, t, h1, h2⟩ := bl_l1 hv ts.length 0 [] (by omega) (by omega) (by simp) ⟨fun t ht => by simp at ht, fun a' f' hh => by omega⟩
  exact ⟨L, t.diag, h1, h2⟩
section
variable {vs ys fs : List Int} {L : List (List Int)} (hL : L.length ≤ 4 * ts.length)
include hL
theorem bc_l10 {a f t : Nat} (ha : a < ts.length) (hf : f < 4) (ht : t < L.length) (hLt : L.getD t [] = [(a : Int), (f : Int)]) {fb vb : List Bool} : ∀ (d e : Nat) (eb : List Bool), 6 - e = d → e ≤ 6 → eb.length = firstN ys (6 * ts.length) →
    ∃ eb', eb'.length = firstN ys (6 * ts.length) ∧ (∀ c : Nat, eb'.getD c false = true ↔ eb.getD c false = true ∨ ∃ e', e ≤ e' ∧ e' < 6 ∧ EA e' ≠ f ∧ EB e' ≠ f ∧ (CN (6 * ts.length) ys).getD (6 * a + e') 0 = (c : Int)) ∧
      ∀ R, Tends2 (fun K k => spec_BoundaryClasses.l1 K k (rowsOf (CN (4 * ts.length) vs) 4 ts.length) (rowsOf (CN (6 * ts.length) ys) 6 ts.length) (rowsOf (CN (4 * ts.length) fs) 4 ts.length) L vb eb' (fb.set ((CN (4 * ts.length) fs).getD (4 * a + f) 0).toNat true) ((t + 1 : Nat) : Int)) R →
        Tends2 (fun K k => spec_BoundaryClasses.l10 K k (rowsOf (CN (4 * ts.length) vs) 4 ts.length) (rowsOf (CN (6 * ts.length) ys) 6 ts.length) (rowsOf (CN (4 * ts.length) fs) 4 ts.length) L fb (t : Int) vb eb (e : Int)) R
  | 0, e, eb, hd, he, hl => by
    obtain rfl : e = 6 := by omega
    have h8 := hv.le
    refine ⟨eb, hl, fun c => ⟨fun h => .inl h, fun h => h.elim id (fun ⟨e', a1, a2, _⟩ => by omega)⟩, fun R hR => Tends2.step (fun K k => ?_) hR⟩
    rw [spec_BoundaryClasses.l10, if_neg (by decide), Int.toNat_natCast, hLt]
    show spec_BoundaryClasses.l1 K k _ _ _ L vb eb (fb.set (((rowsOf (CN (4 * ts.length) fs) 4 ts.length).getD (a : Int).toNat []).getD (f : Int).toNat 0).toNat true) (w64 ((t : Int) + 1)) = _
    rw [Int.toNat_natCast, Int.toNat_natCast, rowsOf_get ha, rowAt_get hf, w64_succ (by omega)]
  | d + 1, e, eb, hd, he, hl => by
    have h8 := hv.le
    have he6 : e < 6 := by omega
    have hin : 6 * a + e < 6 * ts.length := mul_lt ha he6
    have hr := cn_range (s := ys) (N := 6 * ts.length) (by omega) hin
    obtain ⟨c0, hc0⟩ : ∃ c : Nat, (CN (6 * ts.length) ys).getD (6 * a + e) 0 = (c : Int) := ⟨((CN (6 * ts.length) ys).getD (6 * a + e) 0).toNat, by omega⟩
    have hleE := firstN_le ys (6 * ts.length)
    by_cases hc : EA e = f ∨ EB e = f
    · obtain ⟨eb', g1, g2, g3⟩ := bc_l10 ha hf ht hLt (fb := fb) (vb := vb) d (e + 1) eb (by omega) (by omega) hl
      refine ⟨eb', g1, fun c => ?_, fun R hR => Tends2.step (fun K k => ?_) (g3 R hR)⟩
      · rw [g2 c]
        constructor
        · rintro (h | ⟨e', a1, a2⟩)
          · exact .inl h
          · exact .inr ⟨e', by omega, a2⟩
        · rintro (h | ⟨e', a1, a2, a3, a4, a5⟩)
          · exact .inl h
          · have : e' ≠ e := fun e2 => by subst e2; rcases hc with hc | hc <;> contradiction
            exact .inr ⟨e', by omega, a2, a3, a4, a5⟩
      · rw [spec_BoundaryClasses.l10, if_pos (by omega), ends8_t he6, Int.toNat_natCast, hLt, w64_succ (by omega)]
        show (if ((EA e : Nat) : Int) = (f : Int) then _ else if ((EB e : Nat) : Int) = (f : Int) then _ else _) = _
        by_cases h1 : EA e = f
        · rw [if_pos (by omega)]
        · rw [if_neg (by omega), if_pos (by omega)]
    · obtain ⟨eb', g1, g2, g3⟩ := bc_l10 ha hf ht hLt (fb := fb) (vb := vb) d (e + 1) (eb.set c0 true) (by omega) (by omega) (by rw [List.length_set]; exact hl)
      refine ⟨eb', g1, fun c => ?_, fun R hR => Tends2.step (fun K k => ?_) (g3 R hR)⟩
      · rw [g2 c, setB (by omega)]
        by_cases e2 : c0 = c
        · rw [if_pos e2]
          exact ⟨fun _ => .inr ⟨e, Nat.le_refl _, he6, fun h => hc (.inl h), fun h => hc (.inr h), by rw [hc0, e2]⟩, fun _ => .inl rfl⟩
        · rw [if_neg e2]
          constructor
          · rintro (h | ⟨e', a1, a2⟩)
            · exact .inl h
            · exact .inr ⟨e', by omega, a2⟩
          · rintro (h | ⟨e', a1, a2, a3, a4, a5⟩)
            · exact .inl h
            · have : e' ≠ e := fun e3 => e2 (by subst e3; rw [hc0] at a5; omega)
              exact .inr ⟨e', by omega, a2, a3, a4, a5⟩
      · rw [spec_BoundaryClasses.l10, if_pos (by omega), ends8_t he6, Int.toNat_natCast, hLt, w64_succ (by omega)]
        show (if ((EA e : Nat) : Int) = (f : Int) then _ else if ((EB e : Nat) : Int) = (f : Int) then _ else (if 0 ≤ (a : Int) ∧ (a : Int) < _ then (if 0 ≤ (e : Int) ∧ (e : Int) < (((rowsOf (CN (6 * ts.length) ys) 6 ts.length).getD (a : Int).toNat []).length : Int) then (if 0 ≤ ((rowsOf (CN (6 * ts.length) ys) 6 ts.length).getD (a : Int).toNat []).getD (e : Int).toNat 0 ∧ ((rowsOf (CN (6 * ts.length) ys) 6 ts.length).getD (a : Int).toNat []).getD (e : Int).toNat 0 < _ then spec_BoundaryClasses.l10 K k _ _ _ L fb (t : Int) vb (eb.set (((rowsOf (CN (6 * ts.length) ys) 6 ts.length).getD (a : Int).toNat []).getD (e : Int).toNat 0).toNat true) _ else none) else none) else none)) = _
        rw [if_neg (by omega), if_neg (by omega), if_pos (by rw [rowsOf_len]; omega), Int.toNat_natCast, rowsOf_get ha, if_pos (by rw [rowAt_len]; omega), Int.toNat_natCast, rowAt_get he6, hc0, if_pos (by omega), Int.toNat_natCast]
end
end
end Go.Proofs.YtbjfinndngafoaaGreat
