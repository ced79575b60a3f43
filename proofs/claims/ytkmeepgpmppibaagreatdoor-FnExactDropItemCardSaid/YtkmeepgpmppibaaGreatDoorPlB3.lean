/-
  The text of a move is empty at the same moves; plain certificates.
-/
import Derived.Test.YtkmeepgpmppibaaGreatDoorPlB2
set_option linter.unusedVariables false
set_option linter.unusedSimpArgs false
namespace Go.Proofs.YtkmeepgpmppibaaGreatDoor
open Go.RowKit
theorem seq_self (a : ByteArray) : seq a a = true := by unfold seq; exact beq_self_eq_true _
theorem seq_ne {t : ByteArray} (h : 0 < t.size) : seq t ByteArray.empty = false := by
  unfold seq
  rw [ByteArray.toList_eq, ByteArray.toList_eq]
  cases ht : t.data.toList with
  | nil => exact absurd (show t.data.size = 0 by rw [← Array.length_toList, ht]; rfl) (by have : t.data.size = t.size := rfl; omega)
  | cons a l => rfl
theorem decimal_digit (n : Nat) (h : n ≤ 7) : ∃ d : ByteArray, d.size ≤ 20 ∧ Tends (fun K => impl_decimal.f K (n : Int)) d := by
  refine ⟨(impl_decimal.f 1 (n : Int)).getD ByteArray.empty, ?_, 1, fun K hK => ?_⟩
  · match n, h with
    | 0, _ | 1, _ | 2, _ | 3, _ | 4, _ | 5, _ | 6, _ | 7, _ => exact of_decide_eq_true (by decide +kernel)
  · obtain ⟨k, rfl⟩ : ∃ k, K = k + 1 := ⟨K - 1, by omega⟩
    match n, h with
    | 0, _ | 1, _ | 2, _ | 3, _ | 4, _ | 5, _ | 6, _ | 7, _ => rfl
theorem most_j1 (kd : Int) (b : Bool) {v : Int} (h : (if b = true then (3 : Int) else if kd = 2 then 5 else if kd = 3 then 0 else -1) = v) : Tends (fun K => spec_l12Most.j1 K K kd b) v :=
  (Tends2.of (F := fun K k => spec_l12Most.j1 K k kd b) fun K k => by
    show spec_l12Most.j1 K (k + 1) kd b = some v
    rw [spec_l12Most.j1, ← h]
    split
    · rfl
    · split
      · rfl
      · split <;> rfl).diag
theorem ind_j1 (kd : Int) (b : Bool) {v : Int} (h : (if b = true then (4 : Int) else if kd = 2 then 6 else if kd = 3 then 1 else 0) = v) : Tends (fun K => impl_indices.j1 K K kd b) v :=
  (Tends2.of (F := fun K k => impl_indices.j1 K k kd b) fun K k => by
    show impl_indices.j1 K (k + 1) kd b = some v
    rw [impl_indices.j1, ← h]
    split
    · rfl
    · split
      · rfl
      · split <;> rfl).diag
theorem most_both (kd : Int) : ∃ m : Int, Tends (fun K => spec_l12Most.f K kd) m ∧ Tends (fun K => impl_indices.f K kd) (m + 1) ∧ ((1 ≤ kd ∧ kd ≤ 4 ∧ 0 ≤ m ∧ m ≤ 5) ∨ m = -1) := by
  unfold spec_l12Most.f impl_indices.f
  by_cases h1 : kd = 1
  · exact ⟨3, Tends.pos h1 (most_j1 _ _ (if_pos (decide_eq_true h1))), Tends.pos h1 (ind_j1 _ _ (if_pos (decide_eq_true h1))), .inl (by omega)⟩
  by_cases h4 : kd = 4
  · exact ⟨3, Tends.neg h1 (most_j1 _ _ (if_pos (decide_eq_true h4))), Tends.neg h1 (ind_j1 _ _ (if_pos (decide_eq_true h4))), .inl (by omega)⟩
  have hd : ¬ decide (kd = 4) = true := by rw [decide_eq_true_eq]; exact h4
  by_cases h2 : kd = 2
  · exact ⟨5, Tends.neg h1 (most_j1 _ _ (by rw [if_neg hd, if_pos h2])), Tends.neg h1 (ind_j1 _ _ (by rw [if_neg hd, if_pos h2]; rfl)), .inl (by omega)⟩
  by_cases h3 : kd = 3
  · exact ⟨0, Tends.neg h1 (most_j1 _ _ (by rw [if_neg hd, if_neg h2, if_pos h3])), Tends.neg h1 (ind_j1 _ _ (by rw [if_neg hd, if_neg h2, if_pos h3]; rfl)), .inl (by omega)⟩
  exact ⟨-1, Tends.neg h1 (most_j1 _ _ (by rw [if_neg hd, if_neg h2, if_neg h3])), Tends.neg h1 (ind_j1 _ _ (by rw [if_neg hd, if_neg h2, if_neg h3]; rfl)), .inr rfl⟩
theorem names_size (j : Nat) : (([(⟨#[50, 51]⟩ : ByteArray), (⟨#[51, 50]⟩ : ByteArray), (⟨#[49, 52]⟩ : ByteArray), (⟨#[52, 49]⟩ : ByteArray)] : List ByteArray).getD j ByteArray.empty).size ≤ 2 := by
  match j with
  | 0 | 1 | 2 | 3 => exact Nat.le_refl 2
  | _ + 4 => exact Nat.zero_le 2
theorem cut_size (a b : Nat) : ((⟨#[50, 51, 51, 50, 49, 52, 52, 49]⟩ : ByteArray).extract a b).size ≤ 8 := by
  rw [ByteArray.size_extract]
  have : (⟨#[50, 51, 51, 50, 49, 52, 52, 49]⟩ : ByteArray).size = 8 := rfl
  omega
theorem sp_size : (⟨#[32]⟩ : ByteArray).size = 1 := rfl
theorem move_both (kd tet ix : Int) : ∃ t t', Tends (fun K => spec_MoveText.f K kd tet ix) t ∧ Tends (fun K => impl_MoveText.f K kd tet ix) t' ∧ seq t ByteArray.empty = seq t' ByteArray.empty := by
  obtain ⟨m, tm, ti, hm⟩ := most_both kd
  unfold spec_MoveText.f impl_MoveText.f
  simp only [in7_eq, rng_eq, Option.bind_some, spec_l12Names.f, spec_l07Digit.f]
  by_cases ht : 0 ≤ tet ∧ tet ≤ 7
  rotate_left
  · rw [decide_eq_false ht]
    refine ⟨ByteArray.empty, ByteArray.empty, Tends.bind tm ?_, Tends.neg (by decide) (Tends.const _), rfl⟩
    by_cases hn : m < 0
    · exact Tends.pos hn (Tends.const _)
    · exact Tends.neg hn (Tends.neg (by decide) (Tends.const _))
  rw [decide_eq_true ht]
  rcases hm with ⟨k1, k2, m0, m1⟩ | rfl
  rotate_left
  · refine ⟨ByteArray.empty, ByteArray.empty, Tends.bind tm (Tends.pos (by decide) (Tends.const _)), Tends.pos rfl (Tends.bind ti (Tends.neg ?_ (Tends.const _))), rfl⟩
    rw [decide_eq_true_eq]
    have : w64 ((-1 : Int) + 1 - 1) = -1 := by decide
    rw [this]; omega
  have em : w64 (m + 1 - 1) = m := by rw [w64_id (by omega) (by omega)]; omega
  by_cases hi : 0 ≤ ix ∧ ix ≤ m
  rotate_left
  · exact ⟨ByteArray.empty, ByteArray.empty, Tends.bind tm (Tends.neg (by omega) (Tends.pos rfl (Tends.bind tm (Tends.neg (by rw [decide_eq_true_eq]; exact hi) (Tends.const _))))), Tends.pos rfl (Tends.bind ti (Tends.neg (by rw [decide_eq_true_eq, em]; exact hi) (Tends.const _))), rfl⟩
  have e1 : w64 (kd - 1) = kd - 1 := w64_id (by omega) (by omega)
  have e2 : w64 (2 * kd) = 2 * kd := w64_id (by omega) (by omega)
  have e3 : w64 (2 * kd - 2) = 2 * kd - 2 := w64_id (by omega) (by omega)
  obtain ⟨n1, rfl⟩ : ∃ n : Nat, tet = n := ⟨tet.toNat, by omega⟩
  obtain ⟨n2, rfl⟩ : ∃ n : Nat, ix = n := ⟨ix.toNat, by omega⟩
  obtain ⟨d1, s1, t1⟩ := decimal_digit n1 (by omega)
  obtain ⟨d2, s2, t2⟩ := decimal_digit n2 (by omega)
  have z8 : ((⟨#[50, 51, 51, 50, 49, 52, 52, 49]⟩ : ByteArray).size : Int) = 8 := rfl
  have zn := names_size (kd - 1).toNat
  have zc := cut_size (2 * kd - 2).toNat (2 * kd).toNat
  simp only [e1, e2, e3]
  refine ⟨_, _, Tends.bind tm (Tends.neg (by omega) (Tends.pos trivial (Tends.bind tm (Tends.pos (decide_eq_true hi) (Tends.pos ⟨by omega, by show kd - 1 < 4; omega⟩ (Tends.pos ?_ (Tends.pos ?_ (Tends.pos ?_ (Tends.pos ?_ (Tends.const _)))))))))),
    Tends.pos trivial (Tends.bind ti (Tends.pos (by rw [decide_eq_true_eq, em]; exact hi) (Tends.pos (by omega) (Tends.pos (by rw [z8]; omega) (Tends.pos ?_ (Tends.bind t1 (Tends.pos ?_ (Tends.pos ?_ (Tends.bind t2 (Tends.pos ?_ (Tends.const _))))))))))), ?_⟩
  · rw [sp_size]; omega
  · rw [ByteArray.size_append, strOfNums_size, sp_size]; simp only [List.length_cons, List.length_nil]; omega
  · rw [ByteArray.size_append, ByteArray.size_append, strOfNums_size, sp_size]; simp only [List.length_cons, List.length_nil]; omega
  · rw [ByteArray.size_append, ByteArray.size_append, ByteArray.size_append, strOfNums_size, strOfNums_size, sp_size]; simp only [List.length_cons, List.length_nil]; omega
  · rw [sp_size]; omega
  · rw [ByteArray.size_append, sp_size]; omega
  · rw [ByteArray.size_append, ByteArray.size_append, sp_size]; omega
  · rw [ByteArray.size_append, ByteArray.size_append, ByteArray.size_append, sp_size]; omega
  · rw [seq_ne (by simp only [ByteArray.size_append, sp_size]; omega), seq_ne (by simp only [ByteArray.size_append, sp_size]; omega)]
theorem plain_both (cn ct : Int) (mv : List GMove) (tt pp : List Int) (h1 : mv.length ≤ 2000000) (h2 : tt.length ≤ 2000000) (h3 : pp.length ≤ 2000000) : ∃ b, Tends (fun K => spec_IsPlainCertificate.f K cn ct mv tt pp) b ∧ Tends (fun K => impl_isPlain.f K cn ct mv tt pp) b := by
  obtain ⟨PM, hPM⟩ : ∃ PM : Nat → Bool, ∀ i, ∃ t t', Tends (fun K => spec_MoveText.f K (mv.getD i z_GMove).Kind (mv.getD i z_GMove).Tet (mv.getD i z_GMove).Index) t ∧ Tends (fun K => impl_MoveText.f K (mv.getD i z_GMove).Kind (mv.getD i z_GMove).Tet (mv.getD i z_GMove).Index) t' ∧ seq t ByteArray.empty = !PM i ∧ seq t' ByteArray.empty = !PM i := by
    refine ⟨fun i => !seq (Classical.choose (move_both (mv.getD i z_GMove).Kind (mv.getD i z_GMove).Tet (mv.getD i z_GMove).Index)) ByteArray.empty, fun i => ?_⟩
    obtain ⟨t', a, b, c⟩ := Classical.choose_spec (move_both (mv.getD i z_GMove).Kind (mv.getD i z_GMove).Tet (mv.getD i z_GMove).Index)
    exact ⟨_, t', a, b, by rw [Bool.not_not], by rw [Bool.not_not]; exact c.symm⟩
  let PT : Nat → Bool := fun i => decide (0 ≤ tt.getD i 0 ∧ tt.getD i 0 ≤ 7)
  let PP : Nat → Bool := fun i => decide (0 ≤ pp.getD i 0 ∧ pp.getD i 0 ≤ 23)
  have valid : ∀ p, spec_l06Valid.f p = some (decide (0 ≤ p ∧ p ≤ 23)) := fun p => by
    unfold spec_l06Valid.f
    by_cases h : 0 ≤ p
    · rw [if_pos h]; congr 1; apply decide_eq_decide.2; omega
    · rw [if_neg h, decide_eq_false (by omega)]
  have s4 : tt.length = pp.length → Tends2 (fun K k => spec_IsPlainCertificate.l4 K k ct mv tt pp 0) (allB tt.length (fun i => PT i && PP i) && (decide (ct = 0) || decide (w64 ((mv.length : Int) + (tt.length : Int)) = 0))) := fun hl =>
    scan_bool (l := fun K k i => spec_IsPlainCertificate.l4 K k ct mv tt pp (i : Int)) (fun i hi hp v hv => Tends2.step (fun K k => by
        rw [Bool.and_eq_true] at hp
        rw [spec_IsPlainCertificate.l4, if_pos (by omega), if_pos (by omega), Int.toNat_natCast, inn_eq, Option.bind_some, if_pos hp.1, if_pos (by omega), valid, Option.bind_some, if_pos hp.2, w64_succ (by omega)]) hv)
      (fun i hi hp => Tends2.of fun K k => by
        rw [spec_IsPlainCertificate.l4, if_pos (by omega), if_pos (by omega), Int.toNat_natCast, inn_eq, Option.bind_some]
        cases ha : PT i with
        | false => rw [if_neg (by show ¬ PT i = true; rw [ha]; decide)]
        | true =>
          have hb : PP i = false := by rw [ha] at hp; exact hp
          rw [if_pos ha, if_pos (by omega), valid, Option.bind_some, if_neg (by show ¬ PP i = true; rw [hb]; decide)])
      (Tends2.of fun K k => by
        rw [spec_IsPlainCertificate.l4, if_neg (by omega)]
        by_cases h : ct = 0
        · rw [if_pos h, decide_eq_true h]; rfl
        · rw [if_neg h, decide_eq_false h]; rfl)
  have s1 : tt.length = pp.length → Tends2 (fun K k => spec_IsPlainCertificate.l1 K k ct mv tt pp 0) (allB mv.length PM && (allB tt.length (fun i => PT i && PP i) && (decide (ct = 0) || decide (w64 ((mv.length : Int) + (tt.length : Int)) = 0)))) := fun hl => by
    refine scan_bool (l := fun K k i => spec_IsPlainCertificate.l1 K k ct mv tt pp (i : Int)) (fun i hi hp v hv => ?_) (fun i hi hp => ?_) ?_
    · obtain ⟨t, t', a, _, c, _⟩ := hPM i
      refine Tends2.step (fun K k => ?_) (Tends2.bind (G := fun K k t => if seq t ByteArray.empty = true then some false else spec_IsPlainCertificate.l1 K k ct mv tt pp (w64 ((i : Int) + 1))) a.two (Tends2.neg (by rw [c, hp]; decide) (by rw [w64_succ (by omega)]; exact hv)))
      rw [spec_IsPlainCertificate.l1, if_pos (by omega), if_pos (by omega), Int.toNat_natCast, bnd_eq]
    · obtain ⟨t, t', a, _, c, _⟩ := hPM i
      refine Tends2.step (fun K k => ?_) (Tends2.bind (G := fun K k t => if seq t ByteArray.empty = true then some false else spec_IsPlainCertificate.l1 K k ct mv tt pp (w64 ((i : Int) + 1))) a.two (Tends2.pos (by rw [c, hp]; rfl) (Tends2.const _)))
      rw [spec_IsPlainCertificate.l1, if_pos (by omega), if_pos (by omega), Int.toNat_natCast, bnd_eq]
    · refine Tends2.step (fun K k => ?_) (s4 hl)
      rw [spec_IsPlainCertificate.l1, if_neg (by omega)]
  obtain ⟨v1, t1, e1⟩ := scan_idx (l := fun K k i => slices_IndexFunc_impl_Move_impl_Move_isPlain_fn1.l1 K k mv (i : Int)) (n := mv.length) (P := PM) (fun i hi hp v hv => by
      obtain ⟨t, t', _, a, _, c⟩ := hPM i
      have fn : Tends (fun K => impl_isPlain_fn1.f K (mv.getD i z_GMove).Kind (mv.getD i z_GMove).Tet (mv.getD i z_GMove).Index) (seq t' ByteArray.empty) := Tends.bind a (Tends.const _)
      refine Tends2.step (fun K k => ?_) (Tends2.bind (G := fun K k b => if b = true then some (i : Int) else slices_IndexFunc_impl_Move_impl_Move_isPlain_fn1.l1 K k mv (w64 ((i : Int) + 1))) fn.two (Tends2.neg (by rw [c, hp]; decide) (by rw [w64_succ (by omega)]; exact hv)))
      rw [slices_IndexFunc_impl_Move_impl_Move_isPlain_fn1.l1, if_pos (by omega), if_pos (by omega), Int.toNat_natCast, bnd_eq])
    (fun i hi hp => by
      obtain ⟨t, t', _, a, _, c⟩ := hPM i
      have fn : Tends (fun K => impl_isPlain_fn1.f K (mv.getD i z_GMove).Kind (mv.getD i z_GMove).Tet (mv.getD i z_GMove).Index) (seq t' ByteArray.empty) := Tends.bind a (Tends.const _)
      refine Tends2.step (fun K k => ?_) (Tends2.bind (G := fun K k b => if b = true then some (i : Int) else slices_IndexFunc_impl_Move_impl_Move_isPlain_fn1.l1 K k mv (w64 ((i : Int) + 1))) fn.two (Tends2.pos (by rw [c, hp]; rfl) (Tends2.const _)))
      rw [slices_IndexFunc_impl_Move_impl_Move_isPlain_fn1.l1, if_pos (by omega), if_pos (by omega), Int.toNat_natCast, bnd_eq])
    (Tends2.of fun K k => by rw [slices_IndexFunc_impl_Move_impl_Move_isPlain_fn1.l1, if_neg (by omega)])
  obtain ⟨v2, t2, e2⟩ := scan_idx (l := fun K k i => slices_IndexFunc_int64_int64_isPlain_fn2.l1 K k tt (i : Int)) (n := tt.length) (P := PT) (fun i hi hp v hv => Tends2.step (fun K k => by
      rw [slices_IndexFunc_int64_int64_isPlain_fn2.l1, if_pos (by omega), if_pos (by omega), Int.toNat_natCast, impl_isPlain_fn2.f, rng_eq, Option.bind_some, Option.bind_some, if_neg (by show ¬ (!PT i) = true; rw [hp]; decide), w64_succ (by omega)]) hv)
    (fun i hi hp => Tends2.of fun K k => by rw [slices_IndexFunc_int64_int64_isPlain_fn2.l1, if_pos (by omega), if_pos (by omega), Int.toNat_natCast, impl_isPlain_fn2.f, rng_eq, Option.bind_some, Option.bind_some, if_pos (by show (!PT i) = true; rw [hp]; rfl)])
    (Tends2.of fun K k => by rw [slices_IndexFunc_int64_int64_isPlain_fn2.l1, if_neg (by omega)])
  obtain ⟨v3, t3, e3⟩ := scan_idx (l := fun K k i => slices_IndexFunc_int64_int64_isPlain_fn3.l1 K k pp (i : Int)) (n := pp.length) (P := PP) (fun i hi hp v hv => Tends2.step (fun K k => by
      rw [slices_IndexFunc_int64_int64_isPlain_fn3.l1, if_pos (by omega), if_pos (by omega), Int.toNat_natCast, impl_isPlain_fn3.f, impl_isPerm.f, rng_eq, Option.bind_some, Option.bind_some, Option.bind_some, if_neg (by show ¬ (!PP i) = true; rw [hp]; decide), w64_succ (by omega)]) hv)
    (fun i hi hp => Tends2.of fun K k => by rw [slices_IndexFunc_int64_int64_isPlain_fn3.l1, if_pos (by omega), if_pos (by omega), Int.toNat_natCast, impl_isPlain_fn3.f, impl_isPerm.f, rng_eq, Option.bind_some, Option.bind_some, Option.bind_some, if_pos (by show (!PP i) = true; rw [hp]; rfl)])
    (Tends2.of fun K k => by rw [slices_IndexFunc_int64_int64_isPlain_fn3.l1, if_neg (by omega)])
  have c1 : Tends (fun K => slices_ContainsFunc_impl_Move_impl_Move_isPlain_fn1.f K mv) (!allB mv.length PM) := by
    rw [← e1]; exact Tends.bind (F := fun K => slices_IndexFunc_impl_Move_impl_Move_isPlain_fn1.f K mv) t1.diag (Tends.const _)
  have c2 : Tends (fun K => slices_ContainsFunc_int64_int64_isPlain_fn2.f K tt) (!allB tt.length PT) := by
    rw [← e2]; exact Tends.bind (F := fun K => slices_IndexFunc_int64_int64_isPlain_fn2.f K tt) t2.diag (Tends.const _)
  have c3 : Tends (fun K => slices_ContainsFunc_int64_int64_isPlain_fn3.f K pp) (!allB pp.length PP) := by
    rw [← e3]; exact Tends.bind (F := fun K => slices_IndexFunc_int64_int64_isPlain_fn3.f K pp) t3.diag (Tends.const _)
  unfold spec_IsPlainCertificate.f impl_isPlain.f spec_l23Is.f impl_isName.f
  simp only [inn_eq, rng_eq, Option.bind_some]
  by_cases hn : 0 ≤ cn ∧ cn ≤ 4
  rotate_left
  · rw [decide_eq_false hn]; exact ⟨false, Tends.neg (by decide) (Tends.const _), Tends.neg (by decide) (Tends.const _)⟩
  by_cases ht : 0 ≤ ct ∧ ct ≤ 4
  rotate_left
  · rw [decide_eq_true hn, decide_eq_false ht]; exact ⟨false, Tends.pos rfl (Tends.neg (by decide) (Tends.const _)), Tends.pos rfl (Tends.neg (by decide) (Tends.const _))⟩
  rw [decide_eq_true hn, decide_eq_true ht]
  by_cases h0 : ct = 0
  · -- the trait 0: the same tests in another order
    by_cases h40 : 40 < mv.length
    · exact ⟨false, Tends.pos rfl (Tends.pos rfl (Tends.pos (by omega) (Tends.const _))), Tends.pos rfl (Tends.pos rfl (Tends.pos h0 (Tends.neg (by omega) (Tends.const _))))⟩
    by_cases hl : tt.length = pp.length
    rotate_left
    · refine ⟨false, Tends.pos rfl (Tends.pos rfl (Tends.neg (by omega) (Tends.neg (by omega) (Tends.const _)))), Tends.pos rfl (Tends.pos rfl (Tends.pos h0 (Tends.pos (by omega) (Tends.bind c1 ?_))))⟩
      cases allB mv.length PM with
      | true => exact Tends.neg (by decide) (Tends.neg (by omega) (Tends.const _))
      | false => exact Tends.pos rfl (Tends.const _)
    by_cases h8 : 8 < tt.length
    · refine ⟨false, Tends.pos rfl (Tends.pos rfl (Tends.neg (by omega) (Tends.pos (by omega) (Tends.pos (by omega) (Tends.const _))))), Tends.pos rfl (Tends.pos rfl (Tends.pos h0 (Tends.pos (by omega) (Tends.bind c1 ?_))))⟩
      cases allB mv.length PM with
      | true => exact Tends.neg (by decide) (Tends.pos (by omega) (Tends.neg (by omega) (Tends.const _)))
      | false => exact Tends.pos rfl (Tends.const _)
    refine ⟨_, Tends.pos rfl (Tends.pos rfl (Tends.neg (by omega) (Tends.pos (by omega) (Tends.neg (by omega) (s1 hl).diag)))), Tends.pos rfl (Tends.pos rfl (Tends.pos h0 (Tends.pos (by omega) (Tends.bind c1 ?_))))⟩
    rw [decide_eq_true h0, Bool.true_or, Bool.and_true]
    cases hM : allB mv.length PM with
    | false => exact Tends.pos rfl (Tends.const _)
    | true =>
      refine Tends.neg (by decide) (Tends.pos (by omega) (Tends.pos (by omega) (Tends.bind c2 ?_)))
      rw [Bool.true_and]
      cases hT : allB tt.length PT with
      | false =>
        have : allB tt.length (fun i => PT i && PP i) = false := by
          cases hx : allB tt.length (fun i => PT i && PP i) with
          | false => rfl
          | true =>
            have := allB_true (n := tt.length) (P := PT) fun j hj => by have := allB_get hx hj; rw [Bool.and_eq_true] at this; exact this.1
            rw [hT] at this; cases this
        rw [this]; exact Tends.pos rfl (Tends.const _)
      | true =>
        refine Tends.neg (by decide) (Tends.bind c3 ?_)
        have : allB tt.length (fun i => PT i && PP i) = allB pp.length PP := by
          rw [← hl]; exact allB_congr fun j hj => by show (PT j && PP j) = PP j; rw [allB_get hT hj, Bool.true_and]
        rw [this, Bool.not_not]; exact Tends.const _
  · -- any other trait: nothing but the name and the trait
    by_cases ha : mv.length = 0 ∧ tt.length = 0 ∧ pp.length = 0
    · obtain ⟨a1, a2, a3⟩ := ha
      refine ⟨true, Tends.pos rfl (Tends.pos rfl (Tends.neg (by omega) (Tends.pos (by omega) (Tends.neg (by omega) ?_)))), Tends.pos rfl (Tends.pos rfl (Tends.neg h0 (Tends.pos (by omega) (Tends.pos (by omega) ?_))))⟩
      · have := (s1 (by omega)).diag
        rw [a1, a2] at this
        have e : (allB 0 PM && (allB 0 (fun i => PT i && PP i) && (decide (ct = 0) || decide (w64 (((0 : Nat) : Int) + ((0 : Nat) : Int)) = 0)))) = true := by rw [decide_eq_false h0]; rfl
        rw [e] at this; exact this
      · rw [decide_eq_true (show (pp.length : Int) = 0 by omega)]; exact Tends.const _
    · have hI : Tends (fun K => if (mv.length : Int) = 0 then if (tt.length : Int) = 0 then some (decide ((pp.length : Int) = 0)) else some false else some false) false := by
        by_cases a1 : mv.length = 0
        · by_cases a2 : tt.length = 0
          · have a3 : ¬ pp.length = 0 := fun h => ha ⟨a1, a2, h⟩
            refine Tends.pos (by omega) (Tends.pos (by omega) ?_)
            rw [decide_eq_false (show ¬ (pp.length : Int) = 0 by omega)]; exact Tends.const _
          · exact Tends.pos (by omega) (Tends.neg (by omega) (Tends.const _))
        · exact Tends.neg (by omega) (Tends.const _)
      refine ⟨false, Tends.pos rfl (Tends.pos rfl ?_), Tends.pos rfl (Tends.pos rfl (Tends.neg h0 hI))⟩
      by_cases h40 : 40 < mv.length
      · exact Tends.pos (by omega) (Tends.const _)
      refine Tends.neg (by omega) ?_
      by_cases hl : tt.length = pp.length
      rotate_left
      · exact Tends.neg (by omega) (Tends.const _)
      refine Tends.pos (by omega) ?_
      by_cases h8 : 8 < tt.length
      · exact Tends.pos (by omega) (Tends.const _)
      refine Tends.neg (by omega) ?_
      have := (s1 hl).diag
      rw [decide_eq_false h0, w64_id (by omega) (by omega), decide_eq_false (show ¬ ((mv.length : Int) + (tt.length : Int) = 0) by omega), Bool.or_false, Bool.and_false, Bool.and_false] at this
      exact this
end Go.Proofs.YtkmeepgpmppibaaGreatDoor
