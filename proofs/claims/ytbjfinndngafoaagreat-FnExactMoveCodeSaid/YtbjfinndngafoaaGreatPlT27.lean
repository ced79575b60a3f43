/-
  Triangulations: the code of a move in both.
-/
import Derived.Test.YtbjfinndngafoaaGreatPlT26
set_option linter.unusedVariables false
set_option linter.unusedSimpArgs false
set_option linter.unusedSectionVars false
namespace Go.Proofs.YtbjfinndngafoaaGreat
open Go.RowKit
theorem Tends.bind9 {α1 α2 α3 α4 α5 α6 α7 α8 α9 β : Type} {F : Nat → Option (α1 × α2 × α3 × α4 × α5 × α6 × α7 × α8 × α9)} {G : Nat → α1 → α2 → α3 → α4 → α5 → α6 → α7 → α8 → α9 → Option β} {a1 : α1} {a2 : α2} {a3 : α3} {a4 : α4} {a5 : α5} {a6 : α6} {a7 : α7} {a8 : α8} {a9 : α9} {r : β} (h : Tends F (a1, a2, a3, a4, a5, a6, a7, a8, a9)) (g : Tends (fun K => G K a1 a2 a3 a4 a5 a6 a7 a8 a9) r) : Tends (fun K => Go.Proofs.YtbjfinndngafoaaGreat.bind9 (F K) (G K)) r := by
  obtain ⟨n, hn⟩ := h
  obtain ⟨m, hm⟩ := g
  exact ⟨n + m, fun K hK => by show Go.Proofs.YtbjfinndngafoaaGreat.bind9 (F K) (G K) = some r; rw [hn K (by omega)]; exact hm K (by omega)⟩
section
variable {ts : List (List GFace)} (hv : Val ts)
include hv
theorem star1 {a A : Nat} (ha : a < ts.length) (hA : A < 4) : (¬ Round ts a A ∧ (∃ o1 o2 o3 o4 o5 o6 o7 o8, Tends (fun K => impl_Triangulation_star.f K ts (a : Int) (A : Int)) (o1, o2, o3, o4, o5, o6, o7, o8, false)) ∧ Tends (fun K => spec_l12Plan41.f K ts (a : Int) (A : Int)) ([], [], [], false)) ∨
    (Round ts a A ∧ (∀ R, Tends2 (fun K k => impl_Triangulation_star.l10 K k ts (stT ts a A 0 : Int) (stP ts a A 0 : Int) (stT ts a A 1 : Int) (stP ts a A 1 : Int) (stT ts a A 2 : Int) (stP ts a A 2 : Int) (stT ts a A 3 : Int) (stP ts a A 3 : Int) 0) R → Tends (fun K => impl_Triangulation_star.f K ts (a : Int) (A : Int)) R) ∧
      (∀ R, Tends2 (fun K k => spec_l12Plan41.l8 K k ts (l4 (stT ts a A)) (l4 (stP ts a A)) 0) R → Tends (fun K => spec_l12Plan41.f K ts (a : Int) (A : Int)) R)) := by
  rcases (by omega : A = 0 ∨ A = 1 ∨ A = 2 ∨ A = 3) with rfl | rfl | rfl | rfl
  · exact star1_0 hv ha
  · exact star1_1 hv ha
  · exact star1_2 hv ha
  · exact star1_3 hv ha
theorem st_range {a A : Nat} (ha : a < ts.length) (hA : A < 4) (hR : Round ts a A) : (∀ x, x < 4 → stT ts a A x < ts.length) ∧ ∀ x, x < 4 → stP ts a A x < 24 := by
  constructor
  · intro x hx
    by_cases h : x = A
    · rw [h, (stT_at ts a A).1]; exact ha
    · obtain ⟨b, q, hb, hq, hf⟩ := hR x hx h
      rw [(stT_of h hf).1]; exact hb
  · intro x hx
    by_cases h : x = A
    · rw [h, (stT_at ts a A).2]; omega
    · obtain ⟨b, q, hb, hq, hf⟩ := hR x hx h
      rw [(stT_of h hf).2]; exact PM_lt (PI_lt hq) (EXC_lt hA hx (fun e => h e.symm))
theorem c41_t {a A : Nat} (ha : a < ts.length) (hA : A < 4) :
    (Tends (fun K => impl_Triangulation_change41.f K ts (a : Int) (A : Int)) none ∧ Tends (fun K => spec_l12Plan41.f K ts (a : Int) (A : Int)) ([], [], [], false)) ∨
    (Round ts a A ∧ (allB 4 fun x => allB 4 (okB ts (stT ts a A) (stP ts a A) x)) = true ∧ Tends (fun K => impl_Triangulation_change41.f K ts (a : Int) (A : Int)) (some (l4 (stT ts a A), (O41 (stT ts a A) (stP ts a A)).foldl putO [], 1, [])) ∧
      Tends (fun K => spec_l12Plan41.f K ts (a : Int) (A : Int)) (l4 (stT ts a A), [free4], O41 (stT ts a A) (stP ts a A), true)) := by
  rcases star1 hv ha hA with ⟨_, ⟨o1, o2, o3, o4, o5, o6, o7, o8, h1⟩, h2⟩ | ⟨hR, h1, h2⟩
  · exact .inl ⟨Tends.bind9 h1 (Tends.neg (by decide) (Tends.const _)), h2⟩
  · obtain ⟨hT, hP⟩ := st_range hv ha hA hR
    have hi := h1 _ (i41_all hv hT hP)
    cases hall : allB 4 fun x => allB 4 (okB ts (stT ts a A) (stP ts a A) x) with
    | false =>
      rw [hall] at hi
      exact .inl ⟨Tends.bind9 hi (Tends.neg (by decide) (Tends.const _)), h2 _ (s41_all hv hT hP (fun h => by rw [hall] at h; cases h) (fun _ => rfl))⟩
    | true =>
      rw [hall] at hi
      refine .inr ⟨hR, rfl, Tends.bind9 hi (Tends.pos rfl (Tends.bind4 (a := []) (b := []) (c := 1) (d := []) (Tends.const _) (i41_puts hP))), h2 _ (s41_all hv hT hP (fun _ => s41_puts hP) (fun h => by rw [hall] at h; cases h))⟩
end
def Fits (r : Option (List Int × List (Arr2 × GPlace) × Int × List Arr4)) (pl : List Int × List (List GFace) × List GL12Outer × Bool) : Prop :=
  (r = none ∧ pl = ([], [], [], false)) ∨ ∃ old news fresh outer inner, r = some (old, outer.foldl putO [], news, inner) ∧ pl = (old, fresh, outer, true) ∧ news = (fresh.length : Int) ∧ old.length ≤ 4 ∧ fresh.length ≤ 4
def most (kind : Int) : Int := if kind = 1 ∨ kind = 4 then 4 else if kind = 2 then 6 else if kind = 3 then 1 else 0
theorem indices_t (kind : Int) : Tends (fun K => impl_indices.f K kind) (most kind) := by
  unfold most
  have j : ∀ b : Bool, Tends (fun K => impl_indices.j1 K K kind b) (if b = true then 4 else if kind = 2 then 6 else if kind = 3 then 1 else 0) := fun b => by
    refine Tends2.diag (F := fun K k => impl_indices.j1 K k kind b) (Tends2.of fun K k => ?_)
    rw [impl_indices.j1]
    (repeat' split) <;> rfl
  by_cases h1 : kind = 1
  · rw [if_pos (.inl h1)]
    exact Tends.pos h1 (by have := j (decide (kind = 1)); rw [decide_eq_true h1] at this ⊢; exact this)
  · refine Tends.neg h1 ?_
    by_cases h4 : kind = 4
    · rw [if_pos (.inr h4)]
      have := j (decide (kind = 4)); rw [decide_eq_true h4] at this ⊢; exact this
    · rw [if_neg (fun h => h.elim h1 h4)]
      have := j (decide (kind = 4)); rw [decide_eq_false h4] at this ⊢; exact this
theorem most_t (kind : Int) : Tends (fun K => spec_l12Most.f K kind) (most kind - 1) := by
  unfold most
  have j : ∀ b : Bool, Tends (fun K => spec_l12Most.j1 K K kind b) ((if b = true then 4 else if kind = 2 then 6 else if kind = 3 then 1 else 0) - 1) := fun b => by
    refine Tends2.diag (F := fun K k => spec_l12Most.j1 K k kind b) (Tends2.of fun K k => ?_)
    rw [spec_l12Most.j1]
    (repeat' split) <;> rfl
  by_cases h1 : kind = 1
  · rw [if_pos (.inl h1)]
    exact Tends.pos h1 (by have := j (decide (kind = 1)); rw [decide_eq_true h1] at this ⊢; exact this)
  · refine Tends.neg h1 ?_
    by_cases h4 : kind = 4
    · rw [if_pos (.inr h4)]
      have := j (decide (kind = 4)); rw [decide_eq_true h4] at this ⊢; exact this
    · rw [if_neg (fun h => h.elim h1 h4)]
      have := j (decide (kind = 4)); rw [decide_eq_false h4] at this ⊢; exact this
section
variable {ts : List (List GFace)} (hv : Val ts) (hT : Tends (fun K => spec_IsTriangulation.f K ts) true)
include hv hT
theorem change_t {kind : Int} {a A : Nat} (ha : a < ts.length) (hA : (A : Int) < most kind) : ∃ r pl, Fits r pl ∧ Tends (fun K => impl_Triangulation_change.f K ts kind (a : Int) (A : Int)) r ∧ Tends (fun K => spec_l12Make.f K ts kind (a : Int) (A : Int)) pl := by
  unfold most at hA
  by_cases h1 : kind = 1
  · rw [if_pos (.inl h1)] at hA
    rcases c23_t hv ha (show A < 4 by omega) with ⟨c1, c2⟩ | ⟨b, q, _, _, _, _, c1, c2⟩
    · exact ⟨_, _, .inl ⟨rfl, rfl⟩, Tends.pos h1 (Tends.bind c1 (Tends.const _)), Tends.pos h1 (Tends.bind4 c2 (Tends.const _))⟩
    · exact ⟨_, _, .inr ⟨_, _, _, _, _, rfl, rfl, rfl, by simp, by decide⟩, Tends.pos h1 (Tends.bind c1 (Tends.const _)), Tends.pos h1 (Tends.bind4 c2 (Tends.const _))⟩
  by_cases h4 : kind = 4
  · rw [if_pos (.inr h4)] at hA
    have h2 : ¬ kind = 2 := by omega
    have h3 : ¬ kind = 3 := by omega
    rcases c41_t hv ha (show A < 4 by omega) with ⟨c1, c2⟩ | ⟨_, _, c1, c2⟩
    · exact ⟨_, _, .inl ⟨rfl, rfl⟩, Tends.neg h1 (Tends.neg h2 (Tends.neg h3 (Tends.bind c1 (Tends.const _)))), Tends.neg h1 (Tends.neg h2 (Tends.neg h3 (Tends.bind4 c2 (Tends.const _))))⟩
    · exact ⟨_, _, .inr ⟨_, _, _, _, _, rfl, rfl, rfl, by simp [l4], by decide⟩, Tends.neg h1 (Tends.neg h2 (Tends.neg h3 (Tends.bind c1 (Tends.const _)))), Tends.neg h1 (Tends.neg h2 (Tends.neg h3 (Tends.bind4 c2 (Tends.const _))))⟩
  rw [if_neg (fun h => h.elim h1 h4)] at hA
  by_cases h2 : kind = 2
  · rw [if_pos h2] at hA
    rcases c32_t hv hT ha (show A < 6 by omega) with ⟨c1, c2⟩ | ⟨_, _, _, _, _, _, _, _, _, _, _, _, c1, c2⟩
    · exact ⟨_, _, .inl ⟨rfl, rfl⟩, Tends.neg h1 (Tends.pos h2 (Tends.bind c1 (Tends.const _))), Tends.neg h1 (Tends.pos h2 (Tends.bind4 c2 (Tends.const _)))⟩
    · exact ⟨_, _, .inr ⟨_, _, _, _, _, rfl, rfl, rfl, by simp, by decide⟩, Tends.neg h1 (Tends.pos h2 (Tends.bind c1 (Tends.const _))), Tends.neg h1 (Tends.pos h2 (Tends.bind4 c2 (Tends.const _)))⟩
  rw [if_neg h2] at hA
  by_cases h3 : kind = 3
  · exact ⟨_, _, .inr ⟨_, _, _, _, _, rfl, rfl, rfl, by simp, by decide⟩, Tends.neg h1 (Tends.neg h2 (Tends.pos h3 (Tends.bind4 (c14_i (a : Int)) (Tends.const _)))), Tends.neg h1 (Tends.neg h2 (Tends.pos h3 (Tends.bind3 (c14_s (a : Int)) (Tends.const _))))⟩
  · rw [if_neg h3] at hA; omega
end
theorem code_t {ts : List (List GFace)} (hv : Val ts) (hT : Tends (fun K => spec_IsTriangulation.f K ts) true) (kind tet ix : Int) : ∃ (r : Option (List Int × List (Arr2 × GPlace) × Int × List Arr4)) (code : Int) (pl : List Int × List (List GFace) × List GL12Outer × Bool),
    Tends (fun K => impl_Triangulation_moveCode.f K ts kind tet ix) (r, code) ∧ Tends (fun K => spec_l12Check.f K ts kind tet ix) (pl.1, pl.2.1, pl.2.2.1, code) ∧
      (code = 0 → ∃ c, r = some c ∧ Fits r (pl.1, pl.2.1, pl.2.2.1, true) ∧ ∃ a A : Nat, tet = (a : Int) ∧ ix = (A : Int) ∧ a < ts.length ∧ (A : Int) < most kind ∧ Tends (fun K => impl_Triangulation_change.f K ts kind tet ix) r ∧ Tends (fun K => spec_l12Make.f K ts kind tet ix) (pl.1, pl.2.1, pl.2.2.1, true)) := by
  have h8 := hv.le
  have hm : 0 ≤ most kind ∧ most kind ≤ 6 := by unfold most; (repeat' split) <;> omega
  have hw1 : w64 ((ts.length : Int) - 1) = (ts.length : Int) - 1 := w64_id (by omega) (by omega)
  have I : ∀ r, Tends (fun K => if decide (0 ≤ tet ∧ tet ≤ (ts.length : Int) - 1) = true then (if decide (0 ≤ ix ∧ ix ≤ most kind - 1) = true then ((impl_Triangulation_change.f K ts kind tet ix).bind fun t32 => (optC t32 (some (none, 5)) (fun x43 => if 8 < w64 ((w64 ((ts.length : Int) - (x43.1.length : Int))) + x43.2.2.1) then (some (none, 3)) else (some (some (x43.1, x43.2.1, x43.2.2.1, x43.2.2.2), 0))))) else (some (none, 2))) else (some (none, 2))) r → Tends (fun K => impl_Triangulation_moveCode.f K ts kind tet ix) r := fun r h => by
    refine Tends.bind (Tends.congr (fun K => hasFace h8 hv.four tet) (Tends.const _)) ?_
    by_cases h1 : 0 ≤ tet ∧ tet ≤ (ts.length : Int) - 1
    · rw [decide_eq_true h1] at h ⊢
      refine Tends.pos rfl (Tends.bind (indices_t kind) ?_)
      rw [rng_eq, w64_id (by omega) (by omega)]
      exact Tends.bind (Tends.const _) h
    · rw [decide_eq_false h1] at h ⊢
      exact Tends.neg (by decide) h
  have S : ∀ r, Tends (fun K => if most kind - 1 < 0 then (some (([] : List Int), ([] : List (List GFace)), ([] : List GL12Outer), (2 : Int))) else (if decide (0 ≤ tet ∧ tet ≤ (ts.length : Int) - 1) = true then (if decide (0 ≤ ix ∧ ix ≤ most kind - 1) = true then (Go.Proofs.YtbjfinndngafoaaGreat.bind4 (spec_l12Make.f K ts kind tet ix) (fun t58 t59 t60 t61 => (if t61 = true then (if 8 < w64 ((w64 ((ts.length : Int) - (t58.length : Int))) + (t59.length : Int)) then (some (([] : List Int), ([] : List (List GFace)), ([] : List GL12Outer), 3)) else (some (t58, t59, t60, 0))) else (some (([] : List Int), ([] : List (List GFace)), ([] : List GL12Outer), 5))))) else (some (([] : List Int), ([] : List (List GFace)), ([] : List GL12Outer), 2))) else (some (([] : List Int), ([] : List (List GFace)), ([] : List GL12Outer), 2)))) r → Tends (fun K => spec_l12Check.f K ts kind tet ix) r := fun r h => by
    refine Tends.bind hT (Tends.pos rfl (Tends.bind (most_t kind) ?_))
    by_cases h0 : most kind - 1 < 0
    · exact Tends.pos h0 (Tends.congr (fun K => (if_pos h0).symm) h)
    · have h' := Tends.congr (fun K => (if_neg h0).symm) h
      refine Tends.neg h0 (Tends.eqBind (x := (ts.length : Int)) rfl ?_)
      rw [in7_eq, hw1]
      refine Tends.bind (Tends.const _) ?_
      by_cases h1 : 0 ≤ tet ∧ tet ≤ (ts.length : Int) - 1
      · rw [decide_eq_true h1] at h' ⊢
        refine Tends.pos rfl (Tends.bind (most_t kind) ?_)
        rw [in7_eq]
        exact Tends.bind (Tends.const _) h'
      · rw [decide_eq_false h1] at h' ⊢
        exact Tends.neg (by decide) h'
  by_cases h1 : 0 ≤ tet ∧ tet ≤ (ts.length : Int) - 1
  rotate_left
  · refine ⟨none, 2, ([], [], [], false), I _ (Tends.neg (by rw [decide_eq_true_eq]; exact h1) (Tends.const _)), S _ ?_, fun h => by omega⟩
    by_cases h0 : most kind - 1 < 0
    · exact Tends.pos h0 (Tends.const _)
    · exact Tends.neg h0 (Tends.neg (by rw [decide_eq_true_eq]; exact h1) (Tends.const _))
  by_cases h2 : 0 ≤ ix ∧ ix ≤ most kind - 1
  rotate_left
  · refine ⟨none, 2, ([], [], [], false), I _ (Tends.pos (decide_eq_true h1) (Tends.neg (by rw [decide_eq_true_eq]; exact h2) (Tends.const _))), S _ ?_, fun h => by omega⟩
    by_cases h0 : most kind - 1 < 0
    · exact Tends.pos h0 (Tends.const _)
    · exact Tends.neg h0 (Tends.pos (decide_eq_true h1) (Tends.neg (by rw [decide_eq_true_eq]; exact h2) (Tends.const _)))
  have h0 : ¬ most kind - 1 < 0 := by omega
  obtain ⟨a, rfl⟩ : ∃ a : Nat, tet = (a : Int) := ⟨tet.toNat, by omega⟩
  obtain ⟨A, rfl⟩ : ∃ A : Nat, ix = (A : Int) := ⟨ix.toNat, by omega⟩
  obtain ⟨r, pl, hF, ti, tsp⟩ := change_t hv hT (kind := kind) (show a < ts.length by omega) (show (A : Int) < most kind by omega)
  have I2 := fun {r'} h => I r' (Tends.pos (decide_eq_true h1) (Tends.pos (decide_eq_true h2) (Tends.bind ti h)))
  rcases hF with ⟨rfl, rfl⟩ | ⟨old, news, fresh, outer, inner, rfl, rfl, rfl, l1, l2⟩
  · exact ⟨none, 5, ([], [], [], false), I2 (Tends.const _), S _ (Tends.neg h0 (Tends.pos (decide_eq_true h1) (Tends.pos (decide_eq_true h2) (Tends.bind4 tsp (Tends.neg (by decide) (Tends.const _)))))), fun h => by omega⟩
  · by_cases hb : 8 < w64 ((w64 ((ts.length : Int) - (old.length : Int))) + (fresh.length : Int))
    · exact ⟨none, 3, ([], [], [], false), I2 (Tends.pos hb (Tends.const _)), S _ (Tends.neg h0 (Tends.pos (decide_eq_true h1) (Tends.pos (decide_eq_true h2) (Tends.bind4 tsp (Tends.pos rfl (Tends.pos hb (Tends.const _))))))), fun h => by omega⟩
    · refine ⟨some (old, outer.foldl putO [], (fresh.length : Int), inner), 0, (old, fresh, outer, true), I2 (Tends.neg hb (Tends.const _)), S _ (Tends.neg h0 (Tends.pos (decide_eq_true h1) (Tends.pos (decide_eq_true h2) (Tends.bind4 tsp (Tends.pos rfl (Tends.neg hb (Tends.const _))))))), fun _ => ⟨_, rfl, .inr ⟨_, _, _, _, _, rfl, rfl, rfl, l1, l2⟩, a, A, rfl, rfl, by omega, by omega, ti, tsp⟩⟩
theorem moveCode_both (ts : List (List GFace)) (hn : ts.length ≤ 2000000) (kind tet ix : Int) : ∃ r, Tends (fun K => spec_MoveCode.f K ts kind tet ix) r ∧ Tends (fun K => impl_MoveCode.f K ts kind tet ix) r := by
  obtain ⟨b, h1, h2, h3⟩ := tri_both ts hn
  cases b with
  | false => exact ⟨1, Tends.bind4 (a := []) (b := []) (c := []) (d := 1) (Tends.bind h2 (Tends.neg (by decide) (Tends.const _))) (Tends.const _), Tends.bind h3 (Tends.neg (by decide) (Tends.const _))⟩
  | true =>
    obtain ⟨r, code, pl, c1, c2, _⟩ := code_t (h1 rfl) h2 kind tet ix
    exact ⟨code, Tends.bind4 c2 (Tends.const _), Tends.bind h3 (Tends.pos rfl (Tends.bind2 c1 (Tends.const _)))⟩
end Go.Proofs.YtbjfinndngafoaaGreat
