/-
  An edge's neighbours; one step of the search through a class.
-/
import Derived.Test.YtbjfinndngafoaaGreatPlT9
set_option linter.unusedVariables false
set_option linter.unusedSimpArgs false
set_option linter.unusedSectionVars false
namespace Go.Proofs.YtbjfinndngafoaaGreat
open Go.RowKit
def nbr (ts : List (List GFace)) (i f : Nat) : Option (Nat × Bool) :=
  if EA (i % 6) = f ∨ EB (i % 6) = f then none else if (face ts (i / 6) f).Tet < 0 then none else
    some (6 * (face ts (i / 6) f).Tet.toNat + EE (PA (face ts (i / 6) f).Perm.toNat (EA (i % 6))) (PA (face ts (i / 6) f).Perm.toNat (EB (i % 6))), decide (PA (face ts (i / 6) f).Perm.toNat (EB (i % 6)) < PA (face ts (i / 6) f).Perm.toNat (EA (i % 6))))
theorem de6 {a e : Nat} (he : e < 6) : (6 * a + e) / 6 = a ∧ (6 * a + e) % 6 = e := by omega
section
variable {ts : List (List GFace)} (hv : Val ts)
include hv
theorem nbr_glued {a e f b p : Nat} (he : e < 6) (h1 : EA e ≠ f) (h2 : EB e ≠ f) (hx : face ts a f = ⟨b, p⟩) : nbr ts (6 * a + e) f = some (6 * b + EE (PA p (EA e)) (PA p (EB e)), decide (PA p (EB e) < PA p (EA e))) := by
  unfold nbr
  rw [(de6 he).1, (de6 he).2, hx, if_neg (by rintro (h | h) <;> contradiction), if_neg (by show ¬ (b : Int) < 0; omega)]
  rfl
theorem nbr_some {i f j : Nat} {fl : Bool} (hi : i < 6 * ts.length) (hf : f < 4) (h : nbr ts i f = some (j, fl)) : ∃ b p : Nat, b < ts.length ∧ p < 24 ∧ face ts (i / 6) f = ⟨b, p⟩ ∧ Glued ts (i / 6) f b p ∧ EA (i % 6) ≠ f ∧ EB (i % 6) ≠ f ∧ j = 6 * b + EE (PA p (EA (i % 6))) (PA p (EB (i % 6))) ∧ fl = decide (PA p (EB (i % 6)) < PA p (EA (i % 6))) ∧ j < 6 * ts.length := by
  have ha : i / 6 < ts.length := by omega
  have he : i % 6 < 6 := by omega
  unfold nbr at h
  by_cases h1 : EA (i % 6) = f ∨ EB (i % 6) = f
  · rw [if_pos h1] at h; cases h
  · rw [if_neg h1] at h
    rcases face_cases hv ha hf with ⟨g1, _⟩ | ⟨g1, b, p, hb, hp, g2, g3⟩
    · rw [if_pos g1] at h; cases h
    · rw [if_neg g1, g2] at h
      injection h with h
      injection h with h2 h3
      have hbb : ((b : Int)).toNat = b := Int.toNat_natCast b
      refine ⟨b, p, hb, hp, g2, g3, fun e => h1 (.inl e), fun e => h1 (.inr e), h2.symm, h3.symm, ?_⟩
      rw [← h2]
      exact mul_lt (c := 6) hb (edge_img hp he).2.2.2
theorem nbr_JE {i f j : Nat} {fl : Bool} (hi : i < 6 * ts.length) (hf : f < 4) (h : nbr ts i f = some (j, fl)) : (i, j) ∈ JE ts := by
  obtain ⟨b, p, hb, hp, hx, _, h1, h2, hj, _, _⟩ := nbr_some hv hi hf h
  unfold JE
  refine LJ_mem.2 ⟨i / 6, by omega, LJ_mem.2 ⟨f, hf, ?_⟩⟩
  unfold JEf
  rw [hx, if_neg (by show ¬ (b : Int) < 0; omega)]
  refine LJ_mem.2 ⟨i % 6, by omega, ?_⟩
  unfold je
  rw [if_neg (by rintro (h | h) <;> contradiction)]
  refine List.mem_singleton.2 ?_
  rw [hj, show 6 * (i / 6) + i % 6 = i by omega]
  rfl
theorem JE_nbr {i j : Nat} (h : (i, j) ∈ JE ts) : i < 6 * ts.length ∧ ∃ f fl, f < 4 ∧ nbr ts i f = some (j, fl) := by
  unfold JE at h
  obtain ⟨a, ha, h⟩ := LJ_mem.1 h
  obtain ⟨f, hf, h⟩ := LJ_mem.1 h
  unfold JEf at h
  rcases face_cases hv ha hf with ⟨g1, _⟩ | ⟨g1, b, p, hb, hp, g2, g3⟩
  · rw [if_pos g1] at h; exact (List.not_mem_nil h).elim
  · rw [if_neg g1, g2] at h
    obtain ⟨e, he, h⟩ := LJ_mem.1 h
    unfold je at h
    by_cases hc : EA e = f ∨ EB e = f
    · rw [if_pos hc] at h; exact (List.not_mem_nil h).elim
    · rw [if_neg hc] at h
      have h := List.mem_singleton.1 h
      injection h with h1 h2
      have h5 := nbr_glued hv he (fun e => hc (.inl e)) (fun e => hc (.inr e)) g2
      rw [h1, h2]
      exact ⟨mul_lt (c := 6) ha he, f, _, hf, h5⟩
theorem nbr_symm {i f j : Nat} {fl : Bool} (hi : i < 6 * ts.length) (hf : f < 4) (h : nbr ts i f = some (j, fl)) : ∃ f' fl', f' < 4 ∧ nbr ts j f' = some (i, fl') := by
  obtain ⟨b, p, hb, hp, hx, hg, h1, h2, hj, _, _⟩ := nbr_some hv hi hf h
  have he : i % 6 < 6 := by omega
  obtain ⟨q1, q2, q3⟩ := EAB he
  obtain ⟨g1, g2, g3, g4⟩ := edge_img hp he
  obtain ⟨_, e1, e2⟩ := EE_of g1 g2 g3
  have hp' := PI_lt hp
  have n1 : PA p (EA (i % 6)) ≠ PA p f := fun e => h1 (PA_inj hp (by omega) hf e)
  have n2 : PA p (EB (i % 6)) ≠ PA p f := fun e => h2 (PA_inj hp q2 hf e)
  have h5 := nbr_glued hv g4 (by rw [e1]; omega) (by rw [e2]; omega) hg.2.2.2.1
  rw [← hj, e1, e2] at h5
  have k1 := PI_PA hp (show EA (i % 6) < 4 by omega)
  have k2 := PI_PA hp q2
  have : EE (PA (PI p) (min (PA p (EA (i % 6))) (PA p (EB (i % 6))))) (PA (PI p) (max (PA p (EA (i % 6))) (PA p (EB (i % 6))))) = i % 6 := by
    rcases Nat.lt_or_gt_of_ne g3 with hlt | hlt
    · rw [Nat.min_eq_left (by omega), Nat.max_eq_right (by omega), k1, k2, q3]
    · rw [Nat.min_eq_right (by omega), Nat.max_eq_left (by omega), k1, k2, EE_comm q2 (by omega), q3]
  rw [this, show 6 * (i / 6) + i % 6 = i by omega] at h5
  exact ⟨PA p f, _, PA_lt hp hf, h5⟩
end
abbrev Srch := List Int × List Nat × Bool
def stp (i : Nat) (st : Srch) (t : Nat × Bool) : Srch :=
  let want : Int := bif t.2 then - st.1.getD i 0 else st.1.getD i 0
  if st.1.getD t.1 0 = 0 then (st.1.set t.1 want, st.2.1 ++ [t.1], st.2.2) else (st.1, st.2.1, st.2.2 || !decide (st.1.getD t.1 0 = want))
def fst4 (ts : List (List GFace)) (i f : Nat) (st : Srch) : Srch := match nbr ts i f with
  | none => st
  | some t => stp i st t
def all4 (ts : List (List GFace)) (i : Nat) (st : Srch) : Nat → Srch
  | 0 => st
  | f + 1 => fst4 ts i f (all4 ts i st f)
theorem fst4_end {ts : List (List GFace)} {i f : Nat} {st : Srch} (h : EA (i % 6) = f ∨ EB (i % 6) = f) : fst4 ts i f st = st := by
  unfold fst4 nbr
  rw [if_pos h]
theorem OT_two {e : Nat} (he : e < 6) : ∃ f g, OT [EA e, EB e] = [f, g] ∧ f < 4 ∧ g < 4 ∧ EA e ≠ f ∧ EB e ≠ f ∧ EA e ≠ g ∧ EB e ≠ g := by
  have : e = 0 ∨ e = 1 ∨ e = 2 ∨ e = 3 ∨ e = 4 ∨ e = 5 := by omega
  rcases this with rfl | rfl | rfl | rfl | rfl | rfl <;> exact ⟨_, _, rfl, by decide, by decide, by decide, by decide, by decide, by decide⟩
theorem all4_two (ts : List (List GFace)) (i : Nat) (st : Srch) {f g : Nat} (h : OT [EA (i % 6), EB (i % 6)] = [f, g]) : all4 ts i st 4 = fst4 ts i g (fst4 ts i f st) := by
  have hf := fun f st => @fst4_end ts i f st
  have : i % 6 = 0 ∨ i % 6 = 1 ∨ i % 6 = 2 ∨ i % 6 = 3 ∨ i % 6 = 4 ∨ i % 6 = 5 := by omega
  simp only [all4]
  rcases this with e | e | e | e | e | e <;> rw [e] at h hf <;> (injection h with h1 h2; injection h2 with h2 _; subst h1; subst h2)
  · rw [hf 0 _ (by decide), hf 1 _ (by decide)]
  · rw [hf 0 _ (by decide), hf 2 _ (by decide)]
  · rw [hf 0 _ (by decide), hf 3 _ (by decide)]
  · rw [hf 1 _ (by decide), hf 2 _ (by decide)]
  · rw [hf 1 _ (by decide), hf 3 _ (by decide)]
  · rw [hf 2 _ (by decide), hf 3 _ (by decide)]
structure Sr (ts : List (List GFace)) (N : Nat) (C sg0 : List Int) (i0 : Nat) (st : Srch) : Prop where
  len : st.1.length = N
  head : st.2.1.getD 0 0 = i0 ∧ 0 < st.2.1.length
  inn : ∀ j, j ∈ st.2.1 → j < N ∧ C.getD j 0 = C.getD i0 0
  nodup : st.2.1.Nodup
  sgn : ∀ j, j < N → (st.1.getD j 0 ≠ 0 ↔ (j ∈ st.2.1 ∨ sg0.getD j 0 ≠ 0))
  val : ∀ j, j < N → st.1.getD j 0 = 0 ∨ st.1.getD j 0 = 1 ∨ st.1.getD j 0 = -1
theorem setD {l : List Int} {i j : Nat} {v : Int} (hi : i < l.length) : (l.set i v).getD j 0 = if i = j then v else l.getD j 0 := by
  rw [List.getD_eq_getElem?_getD]
  by_cases h : i = j
  · subst h; rw [List.getElem?_set_self hi, if_pos rfl]; rfl
  · rw [List.getElem?_set_ne h, if_neg h, List.getD_eq_getElem?_getD]
theorem Sr.stp {ts : List (List GFace)} {N : Nat} {C sg0 : List Int} {i0 : Nat} {st : Srch} (h : Sr ts N C sg0 i0 st) {i : Nat} (hi : i ∈ st.2.1) {t : Nat × Bool} (ht : t.1 < N) (hC : C.getD t.1 0 = C.getD i 0) :
    Sr ts N C sg0 i0 (stp i st t) ∧ (∀ j, j < N → st.1.getD j 0 ≠ 0 → (Go.Proofs.YtbjfinndngafoaaGreat.stp i st t).1.getD j 0 ≠ 0) ∧ (Go.Proofs.YtbjfinndngafoaaGreat.stp i st t).1.getD t.1 0 ≠ 0 ∧ ∃ r, (Go.Proofs.YtbjfinndngafoaaGreat.stp i st t).2.1 = st.2.1 ++ r := by
  have hiN := (h.inn i hi).1
  have hsi : st.1.getD i 0 ≠ 0 := (h.sgn i hiN).2 (.inl hi)
  unfold Go.Proofs.YtbjfinndngafoaaGreat.stp
  by_cases h0 : st.1.getD t.1 0 = 0
  · rw [if_pos h0]
    have hnq : t.1 ∉ st.2.1 := fun e => (h.sgn t.1 ht).2 (.inl e) h0
    have hw : (bif t.2 then - st.1.getD i 0 else st.1.getD i 0) ≠ 0 := by cases t.2 <;> simp only [cond_true, cond_false] <;> omega
    have hl := h.len
    refine ⟨⟨by rw [List.length_set]; exact hl, ⟨?_, by simp⟩, fun j hj => ?_, ?_, fun j hj => ?_, fun j hj => ?_⟩, fun j hj hn => ?_, ?_, ⟨_, rfl⟩⟩
    · have := h.head
      show (st.2.1 ++ [t.1]).getD 0 0 = i0
      rw [List.getD_eq_getElem?_getD, List.getElem?_append_left this.2, ← List.getD_eq_getElem?_getD]
      exact this.1
    · rcases List.mem_append.1 hj with hj | hj
      · exact h.inn j hj
      · rw [List.mem_singleton.1 hj]; exact ⟨ht, hC.trans (h.inn i hi).2⟩
    · exact List.nodup_append.2 ⟨h.nodup, by simp, fun a ha b hb => by rw [List.mem_singleton.1 hb]; exact fun e => hnq (e ▸ ha)⟩
    · show (st.1.set t.1 _).getD j 0 ≠ 0 ↔ _
      rw [setD (by omega)]
      by_cases e : t.1 = j
      · rw [if_pos e]
        exact ⟨fun _ => .inl (List.mem_append_right _ (List.mem_singleton.2 e.symm)), fun _ => hw⟩
      · rw [if_neg e, h.sgn j hj]
        constructor
        · rintro (h1 | h1)
          · exact .inl (List.mem_append_left _ h1)
          · exact .inr h1
        · rintro (h1 | h1)
          · rcases List.mem_append.1 h1 with h1 | h1
            · exact .inl h1
            · exact absurd (List.mem_singleton.1 h1).symm e
          · exact .inr h1
    · show (st.1.set t.1 _).getD j 0 = 0 ∨ _
      rw [setD (by omega)]
      have hvi := h.val i hiN
      have hvj := h.val j hj
      by_cases e : t.1 = j
      · rw [if_pos e]; cases t.2 <;> simp only [cond_true, cond_false] <;> omega
      · rw [if_neg e]; exact hvj
    · show (st.1.set t.1 _).getD j 0 ≠ 0
      rw [setD (by omega)]
      by_cases e : t.1 = j
      · rw [if_pos e]; exact hw
      · rw [if_neg e]; exact hn
    · show (st.1.set t.1 _).getD t.1 0 ≠ 0
      rw [setD (by omega), if_pos rfl]; exact hw
  · rw [if_neg h0]
    exact ⟨⟨h.len, h.head, h.inn, h.nodup, h.sgn, h.val⟩, fun j _ hn => hn, h0, ⟨[], by simp⟩⟩
end Go.Proofs.YtbjfinndngafoaaGreat
