/-
  An item's parts copied, compared with themselves, and how much they are.
-/
import Derived.Test.YtkmeepgpmppibaaGreatDoorPlB
set_option linter.unusedVariables false
set_option linter.unusedSimpArgs false
namespace Go.Proofs.YtkmeepgpmppibaaGreatDoor
open Go.RowKit
theorem Xb {xs : List Bt} (hn : xs.length ≤ 2000000) : ∀ (m i : Nat) (out : List Bt), xs.length - i = m → i ≤ xs.length → out.length = xs.length → (∀ j, j < i → out[j]? = xs[j]?) →
    Ac (fun K k => Ga.l1 K k xs out (i : Int)) xs
  | 0, i, out, hm, hi, hl, ho => by
    have he : out = xs := by
      apply List.ext_getElem?
      intro j
      by_cases hj : j < i
      · exact ho j hj
      · rw [List.getElem?_eq_none (by omega), List.getElem?_eq_none (by omega)]
    refine Ac.succ (Ac.congr (G := fun _ _ => some xs) (fun K k => ?_) (Ac.const _))
    rw [Ga.l1, if_neg (by omega), he]
  | m + 1, i, out, hm, hi, hl, ho => by
    have hlt : i < xs.length := by omega
    have ih := Xb hn m (i + 1) (out.set i xs[i]) (by omega) (by omega) (by rw [List.length_set]; exact hl) (fun j hj => by
      by_cases hij : i = j
      · subst hij; rw [List.getElem?_set_self (by omega), List.getElem?_eq_getElem hlt]
      · rw [List.getElem?_set_ne hij]; exact ho j (by omega))
    refine Ac.succ (Ac.congr (fun K k => ?_) ih)
    rw [Ga.l1, if_pos (by omega), if_pos (by omega)]
    try simp only [Mj.f, Ed, Option.bind_some, Fe]
    rw [if_pos (by omega), Int.toNat_natCast, Cc (by omega), List.getD_eq_getElem?_getD, List.getElem?_eq_getElem hlt]
    rfl
theorem pF {xs : List Bt} (hn : xs.length ≤ 2000000) : Ab (fun K => Ga.f K xs) xs := by
  refine Ab.congr (fun K => ?_) (Xb hn xs.length 0 (List.replicate xs.length Ko) (by omega) (by omega) (by simp) (fun j hj => by omega)).Ib
  rw [Ga.f, if_pos (by omega), if_pos (by omega), Int.toNat_natCast]
  rfl
theorem V3 {xs : List Ci} (hn : xs.length ≤ 2000000) : ∀ (m i : Nat) (out : List Ci), xs.length - i = m → i ≤ xs.length → out.length = xs.length → (∀ j, j < i → out[j]? = xs[j]?) →
    Ac (fun K k => F6.l1 K k xs out (i : Int)) xs
  | 0, i, out, hm, hi, hl, ho => by
    have he : out = xs := by
      apply List.ext_getElem?
      intro j
      by_cases hj : j < i
      · exact ho j hj
      · rw [List.getElem?_eq_none (by omega), List.getElem?_eq_none (by omega)]
    refine Ac.succ (Ac.congr (G := fun _ _ => some xs) (fun K k => ?_) (Ac.const _))
    rw [F6.l1, if_neg (by omega), he]
  | m + 1, i, out, hm, hi, hl, ho => by
    have hlt : i < xs.length := by omega
    have ih := V3 hn m (i + 1) (out.set i xs[i]) (by omega) (by omega) (by rw [List.length_set]; exact hl) (fun j hj => by
      by_cases hij : i = j
      · subst hij; rw [List.getElem?_set_self (by omega), List.getElem?_eq_getElem hlt]
      · rw [List.getElem?_set_ne hij]; exact ho j (by omega))
    refine Ac.succ (Ac.congr (fun K k => ?_) ih)
    rw [F6.l1, if_pos (by omega), if_pos (by omega)]
    try simp only [Md.f, M8, Option.bind_some, Fe]
    rw [if_pos (by omega), Int.toNat_natCast, Cc (by omega), List.getD_eq_getElem?_getD, List.getElem?_eq_getElem hlt]
    rfl
theorem rW {xs : List Ci} (hn : xs.length ≤ 2000000) : Ab (fun K => F6.f K xs) xs := by
  refine Ab.congr (fun K => ?_) (V3 hn xs.length 0 (List.replicate xs.length He) (by omega) (by omega) (by simp) (fun j hj => by omega)).Ib
  rw [F6.f, if_pos (by omega), if_pos (by omega), Int.toNat_natCast]
  rfl
theorem Us {xs : List Int} (hn : xs.length ≤ 2000000) : ∀ (m i : Nat) (out : List Int), xs.length - i = m → i ≤ xs.length → out.length = xs.length → (∀ j, j < i → out[j]? = xs[j]?) →
    Ac (fun K k => D9.l1 K k xs out (i : Int)) xs
  | 0, i, out, hm, hi, hl, ho => by
    have he : out = xs := by
      apply List.ext_getElem?
      intro j
      by_cases hj : j < i
      · exact ho j hj
      · rw [List.getElem?_eq_none (by omega), List.getElem?_eq_none (by omega)]
    refine Ac.succ (Ac.congr (G := fun _ _ => some xs) (fun K k => ?_) (Ac.const _))
    rw [D9.l1, if_neg (by omega), he]
  | m + 1, i, out, hm, hi, hl, ho => by
    have hlt : i < xs.length := by omega
    have ih := Us hn m (i + 1) (out.set i xs[i]) (by omega) (by omega) (by rw [List.length_set]; exact hl) (fun j hj => by
      by_cases hij : i = j
      · subst hij; rw [List.getElem?_set_self (by omega), List.getElem?_eq_getElem hlt]
      · rw [List.getElem?_set_ne hij]; exact ho j (by omega))
    refine Ac.succ (Ac.congr (fun K k => ?_) ih)
    rw [D9.l1, if_pos (by omega), if_pos (by omega)]
    try simp only [Option.bind_some, Fe]
    rw [if_pos (by omega), Int.toNat_natCast, Cc (by omega), List.getD_eq_getElem?_getD, List.getElem?_eq_getElem hlt]
    rfl
theorem Vq {xs : List Int} (hn : xs.length ≤ 2000000) : Ab (fun K => D9.f K xs) xs := by
  refine Ab.congr (fun K => ?_) (Us hn xs.length 0 (List.replicate xs.length 0) (by omega) (by omega) (by simp) (fun j hj => by omega)).Ib
  rw [D9.f, if_pos (by omega), if_pos (by omega), Int.toNat_natCast]
  rfl
theorem Vm {xs : List Bt} (hn : xs.length ≤ 2000000) : ∀ (m i : Nat), xs.length - i = m → Ac (fun K k => F9.l1 K k xs xs (i : Int)) true
  | 0, i, hm => by
    refine Ac.succ (Ac.congr (G := fun _ _ => some true) (fun K k => ?_) (Ac.const _))
    rw [F9.l1, if_neg (by omega)]
  | m + 1, i, hm => by
    refine Ac.succ (Ac.congr (fun K k => ?_) (Vm hn m (i + 1) (by omega)))
    rw [F9.l1, if_pos (by omega), if_pos (by omega), Fe, if_pos (by omega), Fe]
    simp only [Mg.f, if_true, Option.bind_some]
    rw [Cc (by omega)]
theorem qW {xs : List Bt} (hn : xs.length ≤ 2000000) : Ab (fun K => F9.f K xs xs) true := by
  refine Ab.congr (fun K => ?_) (Vm hn xs.length 0 (by omega)).Ib
  rw [F9.f, if_pos rfl]
  rfl
theorem Vw {xs : List Ci} (hn : xs.length ≤ 2000000) : ∀ (m i : Nat), xs.length - i = m → Ac (fun K k => F7.l1 K k xs xs (i : Int)) true
  | 0, i, hm => by
    refine Ac.succ (Ac.congr (G := fun _ _ => some true) (fun K k => ?_) (Ac.const _))
    rw [F7.l1, if_neg (by omega)]
  | m + 1, i, hm => by
    refine Ac.succ (Ac.congr (fun K k => ?_) (Vw hn m (i + 1) (by omega)))
    rw [F7.l1, if_pos (by omega), if_pos (by omega), Fe, if_pos (by omega), Fe]
    simp only [Mi.f, if_true, Option.bind_some]
    rw [Cc (by omega)]
theorem pW {xs : List Ci} (hn : xs.length ≤ 2000000) : Ab (fun K => F7.f K xs xs) true := by
  refine Ab.congr (fun K => ?_) (Vw hn xs.length 0 (by omega)).Ib
  rw [F7.f, if_pos rfl]
  rfl
theorem U5 {xs : List Int} (hn : xs.length ≤ 2000000) : ∀ (m i : Nat), xs.length - i = m → Ac (fun K k => Ea.l1 K k xs xs (i : Int)) true
  | 0, i, hm => by
    refine Ac.succ (Ac.congr (G := fun _ _ => some true) (fun K k => ?_) (Ac.const _))
    rw [Ea.l1, if_neg (by omega)]
  | m + 1, i, hm => by
    refine Ac.succ (Ac.congr (fun K k => ?_) (U5 hn m (i + 1) (by omega)))
    rw [Ea.l1, if_pos (by omega), if_pos (by omega), if_pos (by omega), if_pos rfl]
    skip
    rw [Cc (by omega)]
theorem Wn {xs : List Int} (hn : xs.length ≤ 2000000) : Ab (fun K => Ea.f K xs xs) true := by
  refine Ab.congr (fun K => ?_) (U5 hn xs.length 0 (by omega)).Ib
  rw [Ea.f, if_pos rfl]
  rfl
theorem Ux {xs : List (List Bt)} (hn : xs.length ≤ 2000000) (hr : ∀ i, i < xs.length → (xs.getD i []).length ≤ 2000000) : ∀ (m i : Nat) (out : List (List Bt)), xs.length - i = m → i ≤ xs.length → out.length = xs.length → (∀ j, j < i → out[j]? = xs[j]?) →
    Ac (fun K k => E5.l1 K k xs out (i : Int)) xs
  | 0, i, out, hm, hi, hl, ho => by
    have he : out = xs := by
      apply List.ext_getElem?
      intro j
      by_cases hj : j < i
      · exact ho j hj
      · rw [List.getElem?_eq_none (by omega), List.getElem?_eq_none (by omega)]
    refine Ac.succ (Ac.congr (G := fun _ _ => some xs) (fun K k => ?_) (Ac.const _))
    rw [E5.l1, if_neg (by omega), he]
  | m + 1, i, out, hm, hi, hl, ho => by
    have hlt : i < xs.length := by omega
    have hg : xs.getD i [] = xs[i] := by rw [List.getD_eq_getElem?_getD, List.getElem?_eq_getElem hlt]; rfl
    have ih := Ux hn hr m (i + 1) (out.set i xs[i]) (by omega) (by omega) (by rw [List.length_set]; exact hl) (fun j hj => by
      by_cases hij : i = j
      · subst hij; rw [List.getElem?_set_self (by omega), List.getElem?_eq_getElem hlt]
      · rw [List.getElem?_set_ne hij]; exact ho j (by omega))
    have hb := Ac.bind (G := fun K k t => if 0 ≤ (i : Int) ∧ (i : Int) < (out.length : Int) then E5.l1 K k xs (out.set i t) (w64 ((i : Int) + 1)) else none) (pF (hr i hlt)).two (r := xs) (Ac.pos (by omega) (by rw [hg, Cc (by omega)]; exact ih))
    refine Ac.succ (Ac.congr (fun K k => ?_) hb)
    rw [E5.l1, if_pos (by omega), if_pos (by omega), Int.toNat_natCast]
theorem jQ {xs : List (List Bt)} (hn : xs.length ≤ 2000000) (hr : ∀ i, i < xs.length → (xs.getD i []).length ≤ 2000000) : Ab (fun K => E5.f K xs) xs := by
  refine Ab.congr (fun K => ?_) (Ux hn hr xs.length 0 (List.replicate xs.length []) (by omega) (by omega) (by simp) (fun j hj => by omega)).Ib
  rw [E5.f, if_pos (by omega), if_pos (by omega), Int.toNat_natCast]
  rfl
theorem Uv {xs : List (List Bt)} (hn : xs.length ≤ 2000000) (hr : ∀ i, i < xs.length → (xs.getD i []).length ≤ 2000000) : ∀ (m i : Nat), xs.length - i = m → Ac (fun K k => E9.l1 K k xs xs (i : Int)) true
  | 0, i, hm => by
    refine Ac.succ (Ac.congr (G := fun _ _ => some true) (fun K k => ?_) (Ac.const _))
    rw [E9.l1, if_neg (by omega)]
  | m + 1, i, hm => by
    have hb := Ac.bind (G := fun K k t => if t = true then E9.l1 K k xs xs (w64 ((i : Int) + 1)) else some false) (qW (hr i (by omega))).two (r := true) (Ac.pos rfl (by rw [Cc (by omega)]; exact Uv hn hr m (i + 1) (by omega)))
    refine Ac.succ (Ac.congr (fun K k => ?_) hb)
    rw [E9.l1, if_pos (by omega), if_pos (by omega), if_pos (by omega), Int.toNat_natCast]
theorem oG {xs : List (List Bt)} (hn : xs.length ≤ 2000000) (hr : ∀ i, i < xs.length → (xs.getD i []).length ≤ 2000000) : Ab (fun K => E9.f K xs xs) true := by
  refine Ab.congr (fun K => ?_) (Uv hn hr xs.length 0 (by omega)).Ib
  rw [E9.f, if_pos rfl]
  rfl
theorem Oh {F : Nat → Option Int} {G : Nat → Int → Option Int} {P Q : Int → Prop} (h : ∃ r, Ab F r ∧ (r < 0 ∨ P r)) (g : ∀ r, P r → ¬ r < 0 → ∃ s, Ab (fun K => G K r) s ∧ (s < 0 ∨ Q s)) :
    ∃ r, Ab (fun K => (F K).bind fun t => if t < 0 then some (-1) else G K t) r ∧ (r < 0 ∨ Q r) := by
  obtain ⟨r, t, c⟩ := h
  by_cases hr : r < 0
  · exact ⟨-1, Ab.bind t (Ab.pos hr (Ab.const _)), .inl (by omega)⟩
  · obtain ⟨s, t2, c2⟩ := g r (by rcases c with c | c; exact absurd c hr; exact c) hr
    exact ⟨s, Ab.bind t (Ab.neg hr t2), c2⟩
end Go.Proofs.YtkmeepgpmppibaaGreatDoor
