/-
  The text of a move is empty at the same moves; plain certificates.
-/
import Derived.Test.YtkmeepgpmppibaaGreatDoorPlB2
set_option linter.unusedVariables false
set_option linter.unusedSimpArgs false
namespace Go.Proofs.YtkmeepgpmppibaaGreatDoor
open Go.RowKit
theorem bJ (a : ByteArray) : seq a a = true := by unfold seq; exact beq_self_eq_true _
theorem mZ {t : ByteArray} (h : 0 < t.size) : seq t ByteArray.empty = false := by
  unfold seq
  rw [ByteArray.toList_eq, ByteArray.toList_eq]
  cases ht : t.data.toList with
  | nil => exact absurd (show t.data.size = 0 by rw [← Array.length_toList, ht]; rfl) (by have : t.data.size = t.size := rfl; omega)
  | cons a l => rfl
theorem Sd (n : Nat) (h : n ≤ 7) : ∃ d : ByteArray, d.size ≤ 20 ∧ Ab (fun K => Jp.f K (n : Int)) d := by
  refine ⟨(Jp.f 1 (n : Int)).getD ByteArray.empty, ?_, 1, fun K hK => ?_⟩
  · match n, h with
    | 0, _ | 1, _ | 2, _ | 3, _ | 4, _ | 5, _ | 6, _ | 7, _ => exact of_decide_eq_true (by decide +kernel)
  · obtain ⟨k, rfl⟩ : ∃ k, K = k + 1 := ⟨K - 1, by omega⟩
    match n, h with
    | 0, _ | 1, _ | 2, _ | 3, _ | 4, _ | 5, _ | 6, _ | 7, _ => rfl
theorem Tg (kd : Int) (b : Bool) {v : Int} (h : (if b = true then (3 : Int) else if kd = 2 then 5 else if kd = 3 then 0 else -1) = v) : Ab (fun K => Eo.j1 K K kd b) v :=
  (Ac.of (F := fun K k => Eo.j1 K k kd b) fun K k => by
    show Eo.j1 K (k + 1) kd b = some v
    rw [Eo.j1, ← h]
    split
    · rfl
    · split
      · rfl
      · split <;> rfl).Ib
theorem Wo (kd : Int) (b : Bool) {v : Int} (h : (if b = true then (4 : Int) else if kd = 2 then 6 else if kd = 3 then 1 else 0) = v) : Ab (fun K => Fy.j1 K K kd b) v :=
  (Ac.of (F := fun K k => Fy.j1 K k kd b) fun K k => by
    show Fy.j1 K (k + 1) kd b = some v
    rw [Fy.j1, ← h]
    split
    · rfl
    · split
      · rfl
      · split <;> rfl).Ib
theorem gU (kd : Int) : ∃ m : Int, Ab (fun K => Eo.f K kd) m ∧ Ab (fun K => Fy.f K kd) (m + 1) ∧ ((1 ≤ kd ∧ kd ≤ 4 ∧ 0 ≤ m ∧ m ≤ 5) ∨ m = -1) := by
  unfold Eo.f Fy.f
  by_cases h1 : kd = 1
  · exact ⟨3, Ab.pos h1 (Tg _ _ (if_pos (decide_eq_true h1))), Ab.pos h1 (Wo _ _ (if_pos (decide_eq_true h1))), .inl (by omega)⟩
  by_cases h4 : kd = 4
  · exact ⟨3, Ab.neg h1 (Tg _ _ (if_pos (decide_eq_true h4))), Ab.neg h1 (Wo _ _ (if_pos (decide_eq_true h4))), .inl (by omega)⟩
  have hd : ¬ decide (kd = 4) = true := by rw [decide_eq_true_eq]; exact h4
  by_cases h2 : kd = 2
  · exact ⟨5, Ab.neg h1 (Tg _ _ (by rw [if_neg hd, if_pos h2])), Ab.neg h1 (Wo _ _ (by rw [if_neg hd, if_pos h2]; rfl)), .inl (by omega)⟩
  by_cases h3 : kd = 3
  · exact ⟨0, Ab.neg h1 (Tg _ _ (by rw [if_neg hd, if_neg h2, if_pos h3])), Ab.neg h1 (Wo _ _ (by rw [if_neg hd, if_neg h2, if_pos h3]; rfl)), .inl (by omega)⟩
  exact ⟨-1, Ab.neg h1 (Tg _ _ (by rw [if_neg hd, if_neg h2, if_neg h3])), Ab.neg h1 (Wo _ _ (by rw [if_neg hd, if_neg h2, if_neg h3]; rfl)), .inr rfl⟩
theorem dA (j : Nat) : (([(⟨#[50, 51]⟩ : ByteArray), (⟨#[51, 50]⟩ : ByteArray), (⟨#[49, 52]⟩ : ByteArray), (⟨#[52, 49]⟩ : ByteArray)] : List ByteArray).getD j ByteArray.empty).size ≤ 2 := by
  match j with
  | 0 | 1 | 2 | 3 => exact Nat.le_refl 2
  | _ + 4 => exact Nat.zero_le 2
theorem mE (a b : Nat) : ((⟨#[50, 51, 51, 50, 49, 52, 52, 49]⟩ : ByteArray).extract a b).size ≤ 8 := by
  rw [ByteArray.size_extract]
  have : (⟨#[50, 51, 51, 50, 49, 52, 52, 49]⟩ : ByteArray).size = 8 := rfl
  omega
theorem Om : (⟨#[32]⟩ : ByteArray).size = 1 := rfl
theorem Xw (kd tet ix : Int) : ∃ t t', Ab (fun K => Jk.f K kd tet ix) t ∧ Ab (fun K => Jm.f K kd tet ix) t' ∧ seq t ByteArray.empty = seq t' ByteArray.empty := by
  obtain ⟨m, tm, ti, hm⟩ := gU kd
  unfold Jk.f Jm.f
  simp only [bN, O0, Option.bind_some, Kz.f, Jl.f]
  by_cases ht : 0 ≤ tet ∧ tet ≤ 7
  rotate_left
  · rw [decide_eq_false ht]
    refine ⟨ByteArray.empty, ByteArray.empty, Ab.bind tm ?_, Ab.neg (by decide) (Ab.const _), rfl⟩
    by_cases hn : m < 0
    · exact Ab.pos hn (Ab.const _)
    · exact Ab.neg hn (Ab.neg (by decide) (Ab.const _))
  rw [decide_eq_true ht]
  rcases hm with ⟨k1, k2, m0, m1⟩ | rfl
  rotate_left
  · refine ⟨ByteArray.empty, ByteArray.empty, Ab.bind tm (Ab.pos (by decide) (Ab.const _)), Ab.pos rfl (Ab.bind ti (Ab.neg ?_ (Ab.const _))), rfl⟩
    rw [decide_eq_true_eq]
    have : w64 ((-1 : Int) + 1 - 1) = -1 := by decide
    rw [this]; omega
  have em : w64 (m + 1 - 1) = m := by rw [H8 (by omega) (by omega)]; omega
  by_cases hi : 0 ≤ ix ∧ ix ≤ m
  rotate_left
  · exact ⟨ByteArray.empty, ByteArray.empty, Ab.bind tm (Ab.neg (by omega) (Ab.pos rfl (Ab.bind tm (Ab.neg (by rw [decide_eq_true_eq]; exact hi) (Ab.const _))))), Ab.pos rfl (Ab.bind ti (Ab.neg (by rw [decide_eq_true_eq, em]; exact hi) (Ab.const _))), rfl⟩
  have e1 : w64 (kd - 1) = kd - 1 := H8 (by omega) (by omega)
  have e2 : w64 (2 * kd) = 2 * kd := H8 (by omega) (by omega)
  have e3 : w64 (2 * kd - 2) = 2 * kd - 2 := H8 (by omega) (by omega)
  obtain ⟨n1, rfl⟩ : ∃ n : Nat, tet = n := ⟨tet.toNat, by omega⟩
  obtain ⟨n2, rfl⟩ : ∃ n : Nat, ix = n := ⟨ix.toNat, by omega⟩
  obtain ⟨d1, s1, t1⟩ := Sd n1 (by omega)
  obtain ⟨d2, s2, t2⟩ := Sd n2 (by omega)
  have z8 : ((⟨#[50, 51, 51, 50, 49, 52, 52, 49]⟩ : ByteArray).size : Int) = 8 := rfl
  have zn := dA (kd - 1).toNat
  have zc := mE (2 * kd - 2).toNat (2 * kd).toNat
  simp only [e1, e2, e3]
  refine ⟨_, _, Ab.bind tm (Ab.neg (by omega) (Ab.pos trivial (Ab.bind tm (Ab.pos (decide_eq_true hi) (Ab.pos ⟨by omega, by show kd - 1 < 4; omega⟩ (Ab.pos ?_ (Ab.pos ?_ (Ab.pos ?_ (Ab.pos ?_ (Ab.const _)))))))))),
    Ab.pos trivial (Ab.bind ti (Ab.pos (by rw [decide_eq_true_eq, em]; exact hi) (Ab.pos (by omega) (Ab.pos (by rw [z8]; omega) (Ab.pos ?_ (Ab.bind t1 (Ab.pos ?_ (Ab.pos ?_ (Ab.bind t2 (Ab.pos ?_ (Ab.const _))))))))))), ?_⟩
  · rw [Om]; omega
  · rw [ByteArray.size_append, strOfNums_size, Om]; simp only [List.length_cons, List.length_nil]; omega
  · rw [ByteArray.size_append, ByteArray.size_append, strOfNums_size, Om]; simp only [List.length_cons, List.length_nil]; omega
  · rw [ByteArray.size_append, ByteArray.size_append, ByteArray.size_append, strOfNums_size, strOfNums_size, Om]; simp only [List.length_cons, List.length_nil]; omega
  · rw [Om]; omega
  · rw [ByteArray.size_append, Om]; omega
  · rw [ByteArray.size_append, ByteArray.size_append, Om]; omega
  · rw [ByteArray.size_append, ByteArray.size_append, ByteArray.size_append, Om]; omega
  · rw [mZ (by simp only [ByteArray.size_append, Om]; omega), mZ (by simp only [ByteArray.size_append, Om]; omega)]
theorem bX (cn ct : Int) (mv : List Ci) (tt pp : List Int) (h1 : mv.length ≤ 2000000) (h2 : tt.length ≤ 2000000) (h3 : pp.length ≤ 2000000) : ∃ b, Ab (fun K => Bn.f K cn ct mv tt pp) b ∧ Ab (fun K => Gz.f K cn ct mv tt pp) b := by
  obtain ⟨PM, hPM⟩ : ∃ PM : Nat → Bool, ∀ i, ∃ t t', Ab (fun K => Jk.f K (mv.getD i He).Kind (mv.getD i He).Tet (mv.getD i He).Index) t ∧ Ab (fun K => Jm.f K (mv.getD i He).Kind (mv.getD i He).Tet (mv.getD i He).Index) t' ∧ seq t ByteArray.empty = !PM i ∧ seq t' ByteArray.empty = !PM i := by
    refine ⟨fun i => !seq (Classical.choose (Xw (mv.getD i He).Kind (mv.getD i He).Tet (mv.getD i He).Index)) ByteArray.empty, fun i => ?_⟩
    obtain ⟨t', a, b, c⟩ := Classical.choose_spec (Xw (mv.getD i He).Kind (mv.getD i He).Tet (mv.getD i He).Index)
    exact ⟨_, t', a, b, by rw [Bool.not_not], by rw [Bool.not_not]; exact c.symm⟩
  let PT : Nat → Bool := fun i => decide (0 ≤ tt.getD i 0 ∧ tt.getD i 0 ≤ 7)
  let PP : Nat → Bool := fun i => decide (0 ≤ pp.getD i 0 ∧ pp.getD i 0 ≤ 23)
  have valid : ∀ p, Hw.f p = some (decide (0 ≤ p ∧ p ≤ 23)) := fun p => by
    unfold Hw.f
    by_cases h : 0 ≤ p
    · rw [if_pos h]; congr 1; apply decide_eq_decide.2; omega
    · rw [if_neg h, decide_eq_false (by omega)]
  have s4 : tt.length = pp.length → Ac (fun K k => Bn.l4 K k ct mv tt pp 0) (J7 tt.length (fun i => PT i && PP i) && (decide (ct = 0) || decide (w64 ((mv.length : Int) + (tt.length : Int)) = 0))) := fun hl =>
    Lx (l := fun K k i => Bn.l4 K k ct mv tt pp (i : Int)) (fun i hi hp v hv => Ac.step (fun K k => by
        rw [Bool.and_eq_true] at hp
        rw [Bn.l4, if_pos (by omega), if_pos (by omega), Int.toNat_natCast, Um, Option.bind_some, if_pos hp.1, if_pos (by omega), valid, Option.bind_some, if_pos hp.2, Cc (by omega)]) hv)
      (fun i hi hp => Ac.of fun K k => by
        rw [Bn.l4, if_pos (by omega), if_pos (by omega), Int.toNat_natCast, Um, Option.bind_some]
        cases ha : PT i with
        | false => rw [if_neg (by show ¬ PT i = true; rw [ha]; decide)]
        | true =>
          have hb : PP i = false := by rw [ha] at hp; exact hp
          rw [if_pos ha, if_pos (by omega), valid, Option.bind_some, if_neg (by show ¬ PP i = true; rw [hb]; decide)])
      (Ac.of fun K k => by
        rw [Bn.l4, if_neg (by omega)]
        by_cases h : ct = 0
        · rw [if_pos h, decide_eq_true h]; rfl
        · rw [if_neg h, decide_eq_false h]; rfl)
  have s1 : tt.length = pp.length → Ac (fun K k => Bn.l1 K k ct mv tt pp 0) (J7 mv.length PM && (J7 tt.length (fun i => PT i && PP i) && (decide (ct = 0) || decide (w64 ((mv.length : Int) + (tt.length : Int)) = 0)))) := fun hl => by
    refine Lx (l := fun K k i => Bn.l1 K k ct mv tt pp (i : Int)) (fun i hi hp v hv => ?_) (fun i hi hp => ?_) ?_
    · obtain ⟨t, t', a, _, c, _⟩ := hPM i
      refine Ac.step (fun K k => ?_) (Ac.bind (G := fun K k t => if seq t ByteArray.empty = true then some false else Bn.l1 K k ct mv tt pp (w64 ((i : Int) + 1))) a.two (Ac.neg (by rw [c, hp]; decide) (by rw [Cc (by omega)]; exact hv)))
      rw [Bn.l1, if_pos (by omega), if_pos (by omega), Int.toNat_natCast, Fe]
    · obtain ⟨t, t', a, _, c, _⟩ := hPM i
      refine Ac.step (fun K k => ?_) (Ac.bind (G := fun K k t => if seq t ByteArray.empty = true then some false else Bn.l1 K k ct mv tt pp (w64 ((i : Int) + 1))) a.two (Ac.pos (by rw [c, hp]; rfl) (Ac.const _)))
      rw [Bn.l1, if_pos (by omega), if_pos (by omega), Int.toNat_natCast, Fe]
    · refine Ac.step (fun K k => ?_) (s4 hl)
      rw [Bn.l1, if_neg (by omega)]
  obtain ⟨v1, t1, e1⟩ := Pn (l := fun K k i => Ay.l1 K k mv (i : Int)) (n := mv.length) (P := PM) (fun i hi hp v hv => by
      obtain ⟨t, t', _, a, _, c⟩ := hPM i
      have fn : Ab (fun K => Iz.f K (mv.getD i He).Kind (mv.getD i He).Tet (mv.getD i He).Index) (seq t' ByteArray.empty) := Ab.bind a (Ab.const _)
      refine Ac.step (fun K k => ?_) (Ac.bind (G := fun K k b => if b = true then some (i : Int) else Ay.l1 K k mv (w64 ((i : Int) + 1))) fn.two (Ac.neg (by rw [c, hp]; decide) (by rw [Cc (by omega)]; exact hv)))
      rw [Ay.l1, if_pos (by omega), if_pos (by omega), Int.toNat_natCast, Fe])
    (fun i hi hp => by
      obtain ⟨t, t', _, a, _, c⟩ := hPM i
      have fn : Ab (fun K => Iz.f K (mv.getD i He).Kind (mv.getD i He).Tet (mv.getD i He).Index) (seq t' ByteArray.empty) := Ab.bind a (Ab.const _)
      refine Ac.step (fun K k => ?_) (Ac.bind (G := fun K k b => if b = true then some (i : Int) else Ay.l1 K k mv (w64 ((i : Int) + 1))) fn.two (Ac.pos (by rw [c, hp]; rfl) (Ac.const _)))
      rw [Ay.l1, if_pos (by omega), if_pos (by omega), Int.toNat_natCast, Fe])
    (Ac.of fun K k => by rw [Ay.l1, if_neg (by omega)])
  obtain ⟨v2, t2, e2⟩ := Pn (l := fun K k i => Bl.l1 K k tt (i : Int)) (n := tt.length) (P := PT) (fun i hi hp v hv => Ac.step (fun K k => by
      rw [Bl.l1, if_pos (by omega), if_pos (by omega), Int.toNat_natCast, Iq.f, O0, Option.bind_some, Option.bind_some, if_neg (by show ¬ (!PT i) = true; rw [hp]; decide), Cc (by omega)]) hv)
    (fun i hi hp => Ac.of fun K k => by rw [Bl.l1, if_pos (by omega), if_pos (by omega), Int.toNat_natCast, Iq.f, O0, Option.bind_some, Option.bind_some, if_pos (by show (!PT i) = true; rw [hp]; rfl)])
    (Ac.of fun K k => by rw [Bl.l1, if_neg (by omega)])
  obtain ⟨v3, t3, e3⟩ := Pn (l := fun K k i => Bj.l1 K k pp (i : Int)) (n := pp.length) (P := PP) (fun i hi hp v hv => Ac.step (fun K k => by
      rw [Bj.l1, if_pos (by omega), if_pos (by omega), Int.toNat_natCast, Iy.f, I4.f, O0, Option.bind_some, Option.bind_some, Option.bind_some, if_neg (by show ¬ (!PP i) = true; rw [hp]; decide), Cc (by omega)]) hv)
    (fun i hi hp => Ac.of fun K k => by rw [Bj.l1, if_pos (by omega), if_pos (by omega), Int.toNat_natCast, Iy.f, I4.f, O0, Option.bind_some, Option.bind_some, Option.bind_some, if_pos (by show (!PP i) = true; rw [hp]; rfl)])
    (Ac.of fun K k => by rw [Bj.l1, if_neg (by omega)])
  have c1 : Ab (fun K => Bw.f K mv) (!J7 mv.length PM) := by
    rw [← e1]; exact Ab.bind (F := fun K => Ay.f K mv) t1.Ib (Ab.const _)
  have c2 : Ab (fun K => Co.f K tt) (!J7 tt.length PT) := by
    rw [← e2]; exact Ab.bind (F := fun K => Bl.f K tt) t2.Ib (Ab.const _)
  have c3 : Ab (fun K => Cx.f K pp) (!J7 pp.length PP) := by
    rw [← e3]; exact Ab.bind (F := fun K => Bj.f K pp) t3.Ib (Ab.const _)
  unfold Bn.f Gz.f Kh.f La.f
  simp only [Um, O0, Option.bind_some]
  by_cases hn : 0 ≤ cn ∧ cn ≤ 4
  rotate_left
  · rw [decide_eq_false hn]; exact ⟨false, Ab.neg (by decide) (Ab.const _), Ab.neg (by decide) (Ab.const _)⟩
  by_cases ht : 0 ≤ ct ∧ ct ≤ 4
  rotate_left
  · rw [decide_eq_true hn, decide_eq_false ht]; exact ⟨false, Ab.pos rfl (Ab.neg (by decide) (Ab.const _)), Ab.pos rfl (Ab.neg (by decide) (Ab.const _))⟩
  rw [decide_eq_true hn, decide_eq_true ht]
  by_cases h0 : ct = 0
  · -- the trait 0: the same tests in another order
    by_cases h40 : 40 < mv.length
    · exact ⟨false, Ab.pos rfl (Ab.pos rfl (Ab.pos (by omega) (Ab.const _))), Ab.pos rfl (Ab.pos rfl (Ab.pos h0 (Ab.neg (by omega) (Ab.const _))))⟩
    by_cases hl : tt.length = pp.length
    rotate_left
    · refine ⟨false, Ab.pos rfl (Ab.pos rfl (Ab.neg (by omega) (Ab.neg (by omega) (Ab.const _)))), Ab.pos rfl (Ab.pos rfl (Ab.pos h0 (Ab.pos (by omega) (Ab.bind c1 ?_))))⟩
      cases J7 mv.length PM with
      | true => exact Ab.neg (by decide) (Ab.neg (by omega) (Ab.const _))
      | false => exact Ab.pos rfl (Ab.const _)
    by_cases h8 : 8 < tt.length
    · refine ⟨false, Ab.pos rfl (Ab.pos rfl (Ab.neg (by omega) (Ab.pos (by omega) (Ab.pos (by omega) (Ab.const _))))), Ab.pos rfl (Ab.pos rfl (Ab.pos h0 (Ab.pos (by omega) (Ab.bind c1 ?_))))⟩
      cases J7 mv.length PM with
      | true => exact Ab.neg (by decide) (Ab.pos (by omega) (Ab.neg (by omega) (Ab.const _)))
      | false => exact Ab.pos rfl (Ab.const _)
    refine ⟨_, Ab.pos rfl (Ab.pos rfl (Ab.neg (by omega) (Ab.pos (by omega) (Ab.neg (by omega) (s1 hl).Ib)))), Ab.pos rfl (Ab.pos rfl (Ab.pos h0 (Ab.pos (by omega) (Ab.bind c1 ?_))))⟩
    rw [decide_eq_true h0, Bool.true_or, Bool.and_true]
    cases hM : J7 mv.length PM with
    | false => exact Ab.pos rfl (Ab.const _)
    | true =>
      refine Ab.neg (by decide) (Ab.pos (by omega) (Ab.pos (by omega) (Ab.bind c2 ?_)))
      rw [Bool.true_and]
      cases hT : J7 tt.length PT with
      | false =>
        have : J7 tt.length (fun i => PT i && PP i) = false := by
          cases hx : J7 tt.length (fun i => PT i && PP i) with
          | false => rfl
          | true =>
            have := Rs (n := tt.length) (P := PT) fun j hj => by have := Qt hx hj; rw [Bool.and_eq_true] at this; exact this.1
            rw [hT] at this; cases this
        rw [this]; exact Ab.pos rfl (Ab.const _)
      | true =>
        refine Ab.neg (by decide) (Ab.bind c3 ?_)
        have : J7 tt.length (fun i => PT i && PP i) = J7 pp.length PP := by
          rw [← hl]; exact dB fun j hj => by show (PT j && PP j) = PP j; rw [Qt hT hj, Bool.true_and]
        rw [this, Bool.not_not]; exact Ab.const _
  · -- any other trait: nothing but the name and the trait
    by_cases ha : mv.length = 0 ∧ tt.length = 0 ∧ pp.length = 0
    · obtain ⟨a1, a2, a3⟩ := ha
      refine ⟨true, Ab.pos rfl (Ab.pos rfl (Ab.neg (by omega) (Ab.pos (by omega) (Ab.neg (by omega) ?_)))), Ab.pos rfl (Ab.pos rfl (Ab.neg h0 (Ab.pos (by omega) (Ab.pos (by omega) ?_))))⟩
      · have := (s1 (by omega)).Ib
        rw [a1, a2] at this
        have e : (J7 0 PM && (J7 0 (fun i => PT i && PP i) && (decide (ct = 0) || decide (w64 (((0 : Nat) : Int) + ((0 : Nat) : Int)) = 0)))) = true := by rw [decide_eq_false h0]; rfl
        rw [e] at this; exact this
      · rw [decide_eq_true (show (pp.length : Int) = 0 by omega)]; exact Ab.const _
    · have hI : Ab (fun K => if (mv.length : Int) = 0 then if (tt.length : Int) = 0 then some (decide ((pp.length : Int) = 0)) else some false else some false) false := by
        by_cases a1 : mv.length = 0
        · by_cases a2 : tt.length = 0
          · have a3 : ¬ pp.length = 0 := fun h => ha ⟨a1, a2, h⟩
            refine Ab.pos (by omega) (Ab.pos (by omega) ?_)
            rw [decide_eq_false (show ¬ (pp.length : Int) = 0 by omega)]; exact Ab.const _
          · exact Ab.pos (by omega) (Ab.neg (by omega) (Ab.const _))
        · exact Ab.neg (by omega) (Ab.const _)
      refine ⟨false, Ab.pos rfl (Ab.pos rfl ?_), Ab.pos rfl (Ab.pos rfl (Ab.neg h0 hI))⟩
      by_cases h40 : 40 < mv.length
      · exact Ab.pos (by omega) (Ab.const _)
      refine Ab.neg (by omega) ?_
      by_cases hl : tt.length = pp.length
      rotate_left
      · exact Ab.neg (by omega) (Ab.const _)
      refine Ab.pos (by omega) ?_
      by_cases h8 : 8 < tt.length
      · exact Ab.pos (by omega) (Ab.const _)
      refine Ab.neg (by omega) ?_
      have := (s1 hl).Ib
      rw [decide_eq_false h0, H8 (by omega) (by omega), decide_eq_false (show ¬ ((mv.length : Int) + (tt.length : Int) = 0) by omega), Bool.or_false, Bool.and_false, Bool.and_false] at this
      exact this
end Go.Proofs.YtkmeepgpmppibaaGreatDoor
