/-
  The numbers of the parts, and the whole: the program's drawing is there if and only if the reference calls the diagram one.
-/
import Derived.Test.YtkmeepgpmppibaaGreatDoorPlG
set_option linter.unusedVariables false
set_option linter.unusedSimpArgs false
set_option linter.unusedSectionVars false
namespace Go.Proofs.YtkmeepgpmppibaaGreatDoor
open Go.RowKit
theorem mget_mput : ∀ (m : List (Int × Int)) (k v k' : Int), mget (mput m k v) k' = if k' = k then some v else mget m k'
  | [], k, v, k' => by simp [mput, mget]
  | p :: r, k, v, k' => by
    unfold mput
    by_cases h : k = p.1
    · rw [if_pos h]
      unfold mget
      by_cases h2 : k' = k
      · simp [h2]
      · rw [if_neg h2, if_neg h2, if_neg (fun e => h2 (e.trans h.symm))]
    · rw [if_neg h]
      unfold mget
      by_cases h2 : k' = p.1
      · rw [if_pos h2, if_neg (fun e => h (e.symm.trans h2)), if_pos h2]
      · rw [if_neg h2, mget_mput r k v k', if_neg h2]
theorem mput_length : ∀ (m : List (Int × Int)) (k v : Int), mget m k = none → (mput m k v).length = m.length + 1
  | [], _, _, _ => rfl
  | p :: r, k, v, h => by
    unfold mget at h
    by_cases h2 : k = p.1
    · rw [if_pos h2] at h; cases h
    · rw [if_neg h2] at h
      unfold mput
      rw [if_neg h2, List.length_cons, mput_length r k v h, List.length_cons]
structure Num (s : List Int) (i : Nat) (m : List (Int × Int)) (o : List Int) : Prop where
  len : o.length = i
  cnt : m.length = firstN s i
  seen : ∀ key, (mget m key).isSome = true ↔ ∃ j, j < i ∧ s.getD j 0 = key
  vals : ∀ key v, mget m key = some v → 0 ≤ v ∧ v < (m.length : Int)
  rng : ∀ j, j < i → o.getD j 0 < (m.length : Int)
  top : 0 < m.length → ∃ j, j < i ∧ o.getD j 0 = (m.length : Int) - 1
theorem getD_snoc {o : List Int} {i j : Nat} {v : Int} (hl : o.length = i) : (o ++ [v]).getD j 0 = if j < i then o.getD j 0 else if j = i then v else 0 := by
  rw [List.getD_eq_getElem?_getD, List.getElem?_append, hl]
  by_cases h : j < i
  · rw [if_pos h, if_pos h, ← List.getD_eq_getElem?_getD]
  · rw [if_neg h, if_neg h]
    by_cases h2 : j = i
    · subst h2; simp
    · rw [if_neg h2, List.getElem?_eq_none (by simp; omega)]; rfl
theorem Num.old {s : List Int} {i : Nat} {m : List (Int × Int)} {o : List Int} (h : Num s i m o) {v : Int} (hv : mget m (s.getD i 0) = some v) : Num s (i + 1) m (o ++ [v]) := by
  obtain ⟨j0, hj0, he0⟩ := (h.seen (s.getD i 0)).1 (by rw [hv]; rfl)
  have hnf : ¬ isFirst s i = true := fun hf => isFirst_iff.1 hf j0 hj0 he0
  have hvv := h.vals _ _ hv
  refine ⟨by simp [h.len], by rw [firstN, if_neg hnf]; exact h.cnt, fun key => ?_, h.vals, fun j hj => ?_, fun h0 => ?_⟩
  · rw [h.seen key]
    constructor
    · rintro ⟨j, hj, he⟩; exact ⟨j, by omega, he⟩
    · rintro ⟨j, hj, he⟩
      by_cases hji : j < i
      · exact ⟨j, hji, he⟩
      · obtain rfl : j = i := by omega
        exact ⟨j0, hj0, he0.trans he⟩
  · rw [getD_snoc h.len]
    by_cases hji : j < i
    · rw [if_pos hji]; exact h.rng j hji
    · rw [if_neg hji, if_pos (by omega)]; exact hvv.2
  · obtain ⟨j, hj, he⟩ := h.top h0
    exact ⟨j, by omega, by rw [getD_snoc h.len, if_pos hj]; exact he⟩
theorem Num.new {s : List Int} {i : Nat} {m : List (Int × Int)} {o : List Int} (h : Num s i m o) (hv : mget m (s.getD i 0) = none) : Num s (i + 1) (mput m (s.getD i 0) (m.length : Int)) (o ++ [(m.length : Int)]) := by
  have hlen := mput_length m (s.getD i 0) (m.length : Int) hv
  have hf : isFirst s i = true := isFirst_iff.2 (fun j hj e => by
    have := (h.seen (s.getD i 0)).2 ⟨j, hj, e⟩
    rw [hv] at this
    cases this)
  refine ⟨by simp [h.len], by rw [hlen, firstN, if_pos hf, h.cnt], fun key => ?_, fun key v hk => ?_, fun j hj => ?_, fun _ => ?_⟩
  · rw [mget_mput]
    by_cases hk : key = s.getD i 0
    · rw [if_pos hk]
      exact ⟨fun _ => ⟨i, by omega, hk.symm⟩, fun _ => rfl⟩
    · rw [if_neg hk, h.seen key]
      constructor
      · rintro ⟨j, hj, he⟩; exact ⟨j, by omega, he⟩
      · rintro ⟨j, hj, he⟩
        by_cases hji : j < i
        · exact ⟨j, hji, he⟩
        · obtain rfl : j = i := by omega
          exact absurd he.symm hk
  · rw [mget_mput] at hk
    rw [hlen]
    by_cases hkk : key = s.getD i 0
    · rw [if_pos hkk] at hk
      obtain rfl := Option.some.inj hk
      omega
    · rw [if_neg hkk] at hk
      have := h.vals _ _ hk
      omega
  · rw [getD_snoc h.len, hlen]
    by_cases hji : j < i
    · rw [if_pos hji]; have := h.rng j hji; omega
    · rw [if_neg hji, if_pos (by omega)]; omega
  · refine ⟨i, by omega, ?_⟩
    rw [getD_snoc h.len, if_neg (by omega), if_pos rfl, hlen]
    omega
theorem numbered_l1 {s : List Int} (hn : s.length ≤ 10) : ∀ (d i : Nat) (m : List (Int × Int)) (o : List Int), s.length - i = d → i ≤ s.length → Num s i m o → ∃ m' o', Num s s.length m' o' ∧ Tends2 (fun K k => impl_numbered.l1 K k s m o (i : Int)) o'
  | 0, i, m, o, hd, hi, h => by
    obtain rfl : i = s.length := by omega
    refine ⟨m, o, h, Tends2.succ (Tends2.congr (fun K k => ?_) (Tends2.const _))⟩
    rw [impl_numbered.l1, if_neg (by omega)]
  | d + 1, i, m, o, hd, hi, h => by
    cases hv : mget m (s.getD i 0) with
    | some v =>
      obtain ⟨m', o', h1, h2⟩ := numbered_l1 hn d (i + 1) _ _ (by omega) (by omega) (h.old hv)
      refine ⟨m', o', h1, Tends2.succ (Tends2.congr (G := fun K k => impl_numbered.j4 K k s o (i : Int) m) (fun K k => ?_) (Tends2.succ (Tends2.congr (fun K k => ?_) h2)))⟩
      · rw [impl_numbered.l1, if_pos (by omega), if_pos (by omega), Int.toNat_natCast, hv, if_pos (show (some v).isSome = true from rfl)]
      · rw [impl_numbered.j4, if_pos (by rw [h.len]; omega), Int.toNat_natCast, hv, w64_succ (by omega)]
        rfl
    | none =>
      obtain ⟨m', o', h1, h2⟩ := numbered_l1 hn d (i + 1) _ _ (by omega) (by omega) (h.new hv)
      refine ⟨m', o', h1, Tends2.succ (Tends2.congr (G := fun K k => impl_numbered.j4 K k s o (i : Int) (mput m (s.getD i 0) (m.length : Int))) (fun K k => ?_) (Tends2.succ (Tends2.congr (fun K k => ?_) h2)))⟩
      · rw [impl_numbered.l1, if_pos (by omega), if_pos (by omega), Int.toNat_natCast, hv, if_neg (by decide)]
      · rw [impl_numbered.j4, if_pos (by rw [h.len]; omega), Int.toNat_natCast, mget_mput, if_pos rfl, w64_succ (by omega)]
        rfl
theorem numbered {s : List Int} (hn : s.length ≤ 10) : ∃ m o, Num s s.length m o ∧ Tends (fun K => impl_numbered.f K s) o := by
  obtain ⟨m, o, h1, h2⟩ := numbered_l1 hn s.length 0 [] [] rfl (by omega) ⟨rfl, rfl, (fun key => ⟨(fun h => nomatch h), (fun ⟨j, hj, _⟩ => absurd hj (Nat.not_lt_zero _))⟩), (fun key v h => nomatch h), (fun j hj => absurd hj (Nat.not_lt_zero _)), (fun h => absurd h (Nat.lt_irrefl _))⟩
  exact ⟨m, o, h1, Tends.congr (fun K => rfl) h2.diag⟩
theorem max_l2 {x : List Int} (hn : x.length ≤ 10) : ∀ (d i : Nat) (m : Int), x.length - i = d → (∀ j, j < i → x.getD j 0 ≤ m) → (∃ j, j < x.length ∧ x.getD j 0 = m) →
    ∃ M, Tends2 (fun K k => slices_Max_int64_int64.l2 K k x m (i : Int)) M ∧ (∀ j, j < x.length → x.getD j 0 ≤ M) ∧ ∃ j, j < x.length ∧ x.getD j 0 = M
  | 0, i, m, hd, h1, h2 => by
    refine ⟨m, Tends2.succ (Tends2.congr (fun K k => ?_) (Tends2.const _)), fun j hj => h1 j (by omega), h2⟩
    rw [slices_Max_int64_int64.l2, if_neg (by omega)]
  | d + 1, i, m, hd, h1, h2 => by
    have hstep : ∀ M, Tends2 (fun K k => slices_Max_int64_int64.l2 K k x (if x.getD i 0 > m then x.getD i 0 else m) ((i + 1 : Nat) : Int)) M → Tends2 (fun K k => slices_Max_int64_int64.l2 K k x m (i : Int)) M := fun M h => by
      refine Tends2.succ (Tends2.congr (fun K k => ?_) h)
      rw [slices_Max_int64_int64.l2, if_pos (by omega), if_pos (by omega), Int.toNat_natCast, w64_succ (by omega)]
    obtain ⟨M, g1, g2, g3⟩ := max_l2 hn d (i + 1) (if x.getD i 0 > m then x.getD i 0 else m) (by omega) (fun j hj => by
      by_cases hji : j < i
      · have := h1 j hji
        split <;> omega
      · obtain rfl : j = i := by omega
        split <;> omega) (by
      split
      · exact ⟨i, by omega, rfl⟩
      · exact h2)
    exact ⟨M, hstep M g1, g2, g3⟩
theorem classCount {s : List Int} (hn : s.length ≤ 10) {m : List (Int × Int)} {o : List Int} (h : Num s s.length m o) : Tends (fun K => impl_classCount.f K o) (firstN s s.length : Int) := by
  unfold impl_classCount.f
  by_cases h0 : s.length = 0
  · refine Tends.pos (by rw [h.len]; omega) (Tends.congr (fun K => ?_) (Tends.const _))
    rw [h0]; rfl
  · have hol : o.length = s.length := h.len
    have hfirst : 0 < firstN s s.length := by
      have : ∀ i, 0 < i → 0 < firstN s i := fun i => by
        induction i with
        | zero => intro h; omega
        | succ i ih =>
          intro _
          rw [firstN]
          by_cases hi : i = 0
          · subst hi
            have : isFirst s 0 = true := isFirst_iff.2 (fun j hj => by omega)
            rw [if_pos this]; omega
          · have := ih (by omega); omega
      exact this _ (by omega)
    obtain ⟨M, g1, g2, j0, g3, g4⟩ := max_l2 (x := o) (by omega) (o.length - 1) 1 (o.getD 0 0) rfl (fun j hj => (by have h0 : j = 0 := (by omega); rw [h0]; exact Int.le_refl _)) ⟨0, by omega, rfl⟩
    obtain ⟨j1, k1, k2⟩ := h.top (by rw [h.cnt]; exact hfirst)
    have e1 := g2 j1 (by omega)
    have e2 := h.rng j0 (by omega)
    have hc := h.cnt
    have hM : M = (firstN s s.length : Int) - 1 := by omega
    have hle := firstN_le s s.length
    refine Tends.neg (by omega) (Tends.bind (a := M) (Tends.congr (fun K => ?_) g1.diag) (Tends.congr (fun K => ?_) (Tends.const _)))
    · rw [slices_Max_int64_int64.f, if_neg (by omega), if_pos (by omega)]
      rfl
    · rw [w64_id (by omega) (by omega)]
      congr 1
      omega
theorem partCount_l1 {o : List Int} (hn : o.length ≤ 10) : ∀ (d i : Nat), o.length - i = d → i ≤ o.length → Tends2 (fun K k => spec_l25PartCount.l1 K k o (fixN o i : Int) (i : Int)) (fixN o o.length : Int)
  | 0, i, hd, hi => by
    obtain rfl : i = o.length := by omega
    refine Tends2.succ (Tends2.congr (fun K k => ?_) (Tends2.const _))
    rw [spec_l25PartCount.l1, if_neg (by omega)]
  | d + 1, i, hd, hi => by
    have hle := fixN_le o i
    refine Tends2.succ (Tends2.congr (fun K k => ?_) (partCount_l1 hn d (i + 1) (by omega) (by omega)))
    rw [spec_l25PartCount.l1, if_pos (by omega), if_pos (by omega), Int.toNat_natCast, w64_succ (by omega), w64_succ (by omega), fixN]
    by_cases hc : o.getD i 0 = (i : Int)
    · rw [if_pos hc, if_pos hc]
    · rw [if_neg hc, if_neg hc]; rfl
section
variable {xs : List GCrossing} (hn : xs.length ≤ 10) (cs : Int) (hs : Signs xs) {f t : List GEnd} (hg : Good xs f t)
include hn hs hg
theorem parts_count : ∃ (C : Int) (o : List Int), Tends (fun K => spec_l25PartCount.f K xs cs) C ∧ Tends (fun K => impl_Diagram_parts.f K xs cs f t) o ∧ Tends (fun K => impl_classCount.f K o) C := by
  obtain ⟨s', o', h1, h2, h3, h4, h5⟩ := parts_both hn cs hs hg (2 * xs.length) 0 (upto xs.length) (upto xs.length) (by omega) (by omega) (upto_length _) (fun _ _ _ _ => Iff.rfl) (upto_least _)
  obtain ⟨m, o, k1, k2⟩ := numbered (s := s') (by omega)
  have k3 := classCount (by omega) k1
  refine ⟨_, o, ?_, ?_, k3⟩
  · have hp := parts_l1 hn cs (R := o') h4 xs.length 0 rfl (by omega)
    have hc := partCount_l1 (o := o') (by rw [h3.len]; exact hn) o'.length 0 rfl (by omega)
    have he : fixN o' o'.length = firstN s' s'.length := by rw [h3.len, h1, fixN_first h3 _ (Nat.le_refl _), firstN_same h2 _ (Nat.le_refl _)]
    rw [he] at hc
    refine Tends.bind (G := fun K t3 => spec_l25PartCount.l1 K K t3 0 0) (Tends.congr (fun K => rfl) hp.diag) hc.diag
  · refine Tends.bind (a := (xs.length : Int)) (F := fun _ => impl_size_impl_Crossing.f xs) (G := fun K t5 => (impl_counting.f K t5).bind fun t9 => impl_Diagram_parts.l1 K K f t t9 0) (Tends.const _) ?_
    refine Tends.bind (a := upto xs.length) (G := fun K t9 => impl_Diagram_parts.l1 K K f t t9 0) (Tends.congr (fun K => rfl) (counting_l1 hn xs.length 0 rfl (by omega)).diag) (h5 o k2).diag
end
theorem okSign_iff {x : GCrossing} : okSign x = true ↔ (x.Sign = 1 ∨ x.Sign = -1) := by unfold okSign; exact decide_eq_true_iff
theorem drawings (xs : List GCrossing) (hx : xs.length ≤ 2000000) (cs : Int) :
    (Tends (fun K => spec_IsDiagram.f K xs cs) false ∧ Tends (fun K => impl_Diagram_drawing.f K xs cs) ([], [], false)) ∨
    (xs.length ≤ 10 ∧ Signs xs ∧ ∃ f t, Good xs f t ∧ Tends (fun K => spec_IsDiagram.f K xs cs) true ∧ Tends (fun K => impl_Diagram_drawing.f K xs cs) (f, t, true)) := by
  unfold spec_IsDiagram.f impl_Diagram_drawing.f impl_size_impl_Crossing.f
  simp only [Option.bind_some]
  by_cases h10 : 10 < xs.length
  · exact .inl ⟨Tends.pos (by omega) (Tends.const _), Tends.pos (by omega) (Tends.const _)⟩
  have hn : xs.length ≤ 10 := by omega
  have hin : spec_l01In.f cs 0 8 = some (decide (0 ≤ cs ∧ cs ≤ 8)) := by
    unfold spec_l01In.f
    by_cases h : 0 ≤ cs <;> simp [h]
  have hir : impl_inRange.f cs 0 8 = some (decide (0 ≤ cs ∧ cs ≤ 8)) := by
    unfold impl_inRange.f
    by_cases h : 0 ≤ cs <;> simp [h]
  rw [hin, hir]
  simp only [Option.bind_some]
  by_cases hc : 0 ≤ cs ∧ cs ≤ 8
  · rw [decide_eq_true hc]
    by_cases hb : ∀ c, c < xs.length → okSign (xs.getD c z_GCrossing) = true
    · have hs : Signs xs := fun c h => okSign_iff.1 (hb c h)
      have hcon := contains_good hn hb
      rcases scans hn cs hs with ⟨h1, f, t, h2, _⟩ | ⟨h1, f, t, h2, hg⟩
      · refine .inl ⟨Tends.neg (by omega) (Tends.pos rfl (Tends.bind h1 (Tends.neg (by decide) (Tends.const _)))), Tends.neg (by omega) (Tends.pos rfl (Tends.bind hcon (Tends.neg (by decide) (Tends.bind3 h2 (Tends.neg (by decide) (Tends.const _))))))⟩
      · obtain ⟨R, _, r1, r2⟩ := regions hn hs hg cs
        obtain ⟨C, o, p1, p2, p3⟩ := parts_count hn cs hs hg
        have hS : Tends (fun K => if 10 < (xs.length : Int) then some false else if true = true then (spec_l25Counts.f K xs cs).bind fun t19 => if t19 = true then (spec_l25Regions.f K xs cs).bind fun t24 => (spec_l25PartCount.f K xs cs).bind fun t31 => some (decide ((t24.length : Int) = w64 ((xs.length : Int) + w64 (2 * t31)))) else some false else some false) (decide ((R.length : Int) = w64 ((xs.length : Int) + w64 (2 * C)))) :=
          Tends.neg (by omega) (Tends.pos rfl (Tends.bind h1 (Tends.pos rfl (Tends.bind r1 (Tends.bind p1 (Tends.const _))))))
        by_cases he : (R.length : Int) = w64 ((xs.length : Int) + w64 (2 * C))
        · rw [decide_eq_true he] at hS
          refine .inr ⟨hn, hs, f, t, hg, hS, ?_⟩
          exact Tends.neg (by omega) (Tends.pos rfl (Tends.bind hcon (Tends.neg (by decide) (Tends.bind3 h2 (Tends.pos rfl (Tends.bind r2 (Tends.bind (a := (R.length : Int)) (Tends.const _) (Tends.bind p2 (Tends.bind p3 (Tends.pos he (Tends.const _)))))))))))
        · rw [decide_eq_false he] at hS
          refine .inl ⟨hS, ?_⟩
          exact Tends.neg (by omega) (Tends.pos rfl (Tends.bind hcon (Tends.neg (by decide) (Tends.bind3 h2 (Tends.pos rfl (Tends.bind r2 (Tends.bind (a := (R.length : Int)) (Tends.const _) (Tends.bind p2 (Tends.bind p3 (Tends.neg he (Tends.const _)))))))))))
    · obtain ⟨c0, hc0⟩ := Classical.not_forall.1 hb
      obtain ⟨hlt, hbad⟩ := Classical.not_imp.1 hc0
      have hbad' : okSign (xs.getD c0 z_GCrossing) = false := by cases h : okSign (xs.getD c0 z_GCrossing) <;> simp_all
      refine .inl ⟨Tends.neg (by omega) (Tends.pos rfl (Tends.bind (counts_bad_f hn cs hlt hbad') (Tends.neg (by decide) (Tends.const _)))), Tends.neg (by omega) (Tends.pos rfl (Tends.bind (contains_bad hn hlt hbad') (Tends.pos rfl (Tends.const _))))⟩
  · rw [decide_eq_false hc]
    exact .inl ⟨Tends.neg (by omega) (Tends.neg (by decide) (Tends.const _)), Tends.neg (by omega) (Tends.neg (by decide) (Tends.const _))⟩
end Go.Proofs.YtkmeepgpmppibaaGreatDoor
