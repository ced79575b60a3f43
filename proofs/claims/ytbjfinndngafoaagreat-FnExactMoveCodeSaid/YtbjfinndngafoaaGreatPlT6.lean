/-
  Joining and numbering: the program's way and the reference's way.
-/
import Derived.Test.YtbjfinndngafoaaGreatPlT5
set_option linter.unusedVariables false
set_option linter.unusedSimpArgs false
set_option linter.unusedSectionVars false
namespace Go.Proofs.YtbjfinndngafoaaGreat
open Go.RowKit
theorem Parted.joinPQ {n : Nat} {J : List (Nat × Nat)} {s : List Int} (h : Parted n J s) {i k : Nat} (hi : i < n) (hk : k < n) {p q : Int} (hpq : (p = s.getD i 0 ∧ q = s.getD k 0) ∨ (p = s.getD k 0 ∧ q = s.getD i 0)) : Parted n (J ++ [(i, k)]) (s.map (repl p q)) := by
  have hg : ∀ x, x < n → (s.map (repl p q)).getD x 0 = repl p q (s.getD x 0) := fun x hx => getD_map (by rw [h.len]; exact hx)
  refine ⟨by rw [List.length_map]; exact h.len, fun x hx => ?_, fun x hx => ?_, fun Q hQ a b ha hb hab => ?_⟩
  · rcases List.mem_append.1 hx with hx | hx
    · exact h.inn x hx
    · rw [List.mem_singleton.1 hx]; exact ⟨hi, hk⟩
  · rcases List.mem_append.1 hx with hx | hx
    · have := h.inn x hx
      rw [hg _ this.1, hg _ this.2, h.one x hx]
    · rw [List.mem_singleton.1 hx, hg _ hi, hg _ hk, repl_eq]
      rcases hpq with ⟨rfl, rfl⟩ | ⟨rfl, rfl⟩
      · exact .inr ⟨.inl rfl, .inr rfl⟩
      · exact .inr ⟨.inr rfl, .inl rfl⟩
  · have hm := h.min Q (fun x hx => hQ x (List.mem_append_left _ hx))
    have hik : Q i ↔ Q k := hQ (i, k) (List.mem_append_right _ (List.mem_singleton.2 rfl))
    rw [hg _ ha, hg _ hb, repl_eq] at hab
    rcases hab with hab | ⟨h1, h2⟩
    · exact hm a b ha hb hab
    · have key : ∀ x, x < n → (s.getD x 0 = p ∨ s.getD x 0 = q) → (Q x ↔ Q i) := fun x hx hxx => by
        have : s.getD x 0 = s.getD i 0 ∨ s.getD x 0 = s.getD k 0 := by
          rcases hpq with ⟨rfl, rfl⟩ | ⟨rfl, rfl⟩
          · exact hxx
          · exact hxx.symm
        rcases this with e | e
        · exact hm x i hx hi e
        · exact (hm x k hx hk e).trans hik.symm
      exact (key a ha h1).trans (key b hb h2).symm
theorem union_l1 {s : List Int} (hn : s.length ≤ 100) {i k : Int} : ∀ (d j : Nat) (s' : List Int), s.length - j = d → s'.length = s.length → (∀ i', i' < j → s'[i']? = (s.map (repl (s.getD k.toNat 0) (s.getD i.toNat 0)))[i']?) → (∀ i', j ≤ i' → s'[i']? = s[i']?) →
    Tends2 (fun K k' => impl_union.l1 K k' s i k s' (j : Int)) (s.map (repl (s.getD k.toNat 0) (s.getD i.toNat 0)))
  | 0, j, s', hd, hl, h1, h2 => by
    refine Tends2.succ (Tends2.congr (fun K k' => ?_) (Tends2.const _))
    rw [impl_union.l1, if_neg (by omega), list_half hl h1 (by omega)]
  | d + 1, j, s', hd, hl, h1, h2 => by
    obtain ⟨g1, g2, g3⟩ := half_step hl (show j < s.length by omega) h1 h2 _ rfl
    have ih := union_l1 hn d (j + 1) _ (by omega) g1 g2 g3
    refine Tends2.succ (Tends2.congr (fun K k' => ?_) ih)
    rw [impl_union.l1, if_pos (by omega), if_pos (by omega), Int.toNat_natCast, w64_succ (by omega)]
    by_cases hc : s'.getD j 0 = s.getD k.toNat 0
    · rw [if_pos hc, decide_eq_true hc]; rfl
    · rw [if_neg hc, decide_eq_false hc]; rfl
theorem unionP {n : Nat} {J : List (Nat × Nat)} {s : List Int} (hn : n ≤ 100) (h : Parted n J s) {i k : Nat} (hi : i < n) (hk : k < n) : ∃ s', Tends (fun K => impl_union.f K s (i : Int) (k : Int)) s' ∧ s'.length = s.length ∧ Parted n (J ++ [(i, k)]) s' := by
  have hl := h.len
  refine ⟨_, Tends.congr (fun K => ?_) (union_l1 (by omega) (i := (i : Int)) (k := (k : Int)) s.length 0 s rfl rfl (fun i' h => by omega) (fun _ _ => rfl)).diag, by rw [List.length_map], ?_⟩
  · rw [impl_union.f, if_pos (by omega), if_pos (by omega)]; rfl
  · rw [Int.toNat_natCast, Int.toNat_natCast]
    exact h.joinPQ hi hk (.inr ⟨rfl, rfl⟩)
theorem join_l1 {s : List Int} (hn : s.length ≤ 100) {i k : Nat} {p q : Int} (hp : p = if s.getD k 0 > s.getD i 0 then s.getD k 0 else s.getD i 0) (hq : q = if s.getD k 0 < s.getD i 0 then s.getD k 0 else s.getD i 0) : ∀ (d j : Nat) (s' : List Int), s.length - j = d → s'.length = s.length → (∀ i', i' < j → s'[i']? = (s.map (repl p q))[i']?) → (∀ i', j ≤ i' → s'[i']? = s[i']?) →
    Tends2 (fun K k' => spec_l08Join.l1 K k' s (i : Int) (k : Int) s' (j : Int)) (s.map (repl p q))
  | 0, j, s', hd, hl, h1, h2 => by
    refine Tends2.succ (Tends2.congr (fun K k' => ?_) (Tends2.const _))
    rw [spec_l08Join.l1, if_neg (by omega), list_half hl h1 (by omega)]
  | d + 1, j, s', hd, hl, h1, h2 => by
    obtain ⟨g1, g2, g3⟩ := half_step hl (show j < s.length by omega) h1 h2 _ rfl
    have ih := join_l1 hn hp hq d (j + 1) _ (by omega) g1 g2 g3
    refine Tends2.succ (Tends2.congr (fun K k' => ?_) ih)
    rw [spec_l08Join.l1, if_pos (by omega), if_pos (by omega), Int.toNat_natCast, Int.toNat_natCast, Int.toNat_natCast, w64_succ (by omega), ← hp, ← hq]
    by_cases hc : s'.getD j 0 = p
    · rw [if_pos hc, decide_eq_true hc]; rfl
    · rw [if_neg hc, decide_eq_false hc]; rfl
theorem joinP {n : Nat} {J : List (Nat × Nat)} {s : List Int} (hn : n ≤ 100) (h : Parted n J s) (hL : Least n s) {i k : Nat} (hi : i < n) (hk : k < n) : ∃ s', Tends (fun K => spec_l08Join.f K s (i : Int) (k : Int)) s' ∧ s'.length = s.length ∧ Parted n (J ++ [(i, k)]) s' ∧ Least n s' := by
  have hl := h.len
  obtain ⟨p, hp⟩ : ∃ p, p = if s.getD k 0 > s.getD i 0 then s.getD k 0 else s.getD i 0 := ⟨_, rfl⟩
  obtain ⟨q, hq⟩ : ∃ q, q = if s.getD k 0 < s.getD i 0 then s.getD k 0 else s.getD i 0 := ⟨_, rfl⟩
  have hpq : (p = s.getD i 0 ∧ q = s.getD k 0) ∨ (p = s.getD k 0 ∧ q = s.getD i 0) := by
    by_cases h3 : s.getD k 0 > s.getD i 0
    · rw [if_pos h3] at hp; rw [if_neg (by omega)] at hq; exact .inr ⟨hp, hq⟩
    · rw [if_neg h3] at hp
      by_cases h4 : s.getD k 0 < s.getD i 0
      · rw [if_pos h4] at hq; exact .inl ⟨hp, hq⟩
      · rw [if_neg h4] at hq; exact .inl ⟨hp, by omega⟩
  have hle : q ≤ p := by rw [hp, hq]; split <;> split <;> omega
  refine ⟨_, Tends.congr (fun K => ?_) (join_l1 (by omega) hp hq s.length 0 s rfl rfl (fun i' h => by omega) (fun _ _ => rfl)).diag, by rw [List.length_map], h.joinPQ hi hk hpq, ?_⟩
  · rw [spec_l08Join.f, if_pos (by omega), if_pos (by omega)]; rfl
  · rcases hpq with ⟨h1, h2⟩ | ⟨h1, h2⟩
    · exact hL.join hi hk (.inl ⟨h1, h2⟩) hle
    · exact hL.join hi hk (.inr ⟨h1, h2⟩) hle
noncomputable def fo (s : List Int) (i : Nat) : Nat := Classical.choose (first_of s i)
theorem fo_spec (s : List Int) (i : Nat) : fo s i ≤ i ∧ isFirst s (fo s i) = true ∧ s.getD (fo s i) 0 = s.getD i 0 := Classical.choose_spec (first_of s i)
theorem fo_uniq {s : List Int} {i j : Nat} (hf : isFirst s j = true) (he : s.getD j 0 = s.getD i 0) : fo s i = j := by
  obtain ⟨h1, h2, h3⟩ := fo_spec s i
  rcases Nat.lt_trichotomy (fo s i) j with h | h | h
  · exact absurd (h3.trans he.symm) (isFirst_iff.1 hf _ h)
  · exact h
  · exact absurd (he.trans h3.symm) (isFirst_iff.1 h2 _ h)
noncomputable def cn (s : List Int) (i : Nat) : Int := (firstN s (fo s i) : Int)
noncomputable def CN (n : Nat) (s : List Int) : List Int := (List.range n).map (cn s)
theorem CN_len (n : Nat) (s : List Int) : (CN n s).length = n := by simp [CN]
theorem CN_get {n : Nat} {s : List Int} {i : Nat} (hi : i < n) : (CN n s).getD i 0 = cn s i := by
  unfold CN
  rw [List.getD_eq_getElem?_getD, List.getElem?_map, List.getElem?_range hi]; rfl
theorem CN_num (n : Nat) (s : List Int) : IsNum n s (CN n s) := ⟨CN_len n s, fun i hi hf => by rw [CN_get hi, cn, fo_uniq hf rfl], fun i j hi hj he => by
  rw [CN_get hi, CN_get hj, cn, cn, fo_uniq (fo_spec s j).2.1 ((fo_spec s j).2.2.trans he.symm)]⟩
theorem CN_same {n : Nat} {s o : List Int} (h : SameParts n s o) : CN n s = CN n o := ((CN_num n s).congr h).uniq (CN_num n o)
theorem mget_mput (k v k' : Int) : ∀ m : List (Int × Int), mget (mput m k v) k' = if k' = k then some v else mget m k'
  | [] => by unfold mput mget mget; rfl
  | p :: r => by
    unfold mput
    by_cases h : k = p.1
    · rw [if_pos h]
      unfold mget
      by_cases h2 : k' = k
      · rw [if_pos h2, if_pos h2]
      · rw [if_neg h2, if_neg h2, if_neg (by rw [← h]; exact h2)]
    · rw [if_neg h]
      unfold mget
      by_cases h2 : k' = p.1
      · rw [if_pos h2, if_pos h2, if_neg (by rw [h2]; exact fun e => h e.symm)]
      · rw [if_neg h2, if_neg h2, mget_mput k v k' r]
theorem mput_len {k v : Int} : ∀ {m : List (Int × Int)}, mget m k = none → (mput m k v).length = m.length + 1
  | [], _ => rfl
  | p :: r, h => by
    unfold mget at h
    by_cases hk : k = p.1
    · rw [if_pos hk] at h; cases h
    · rw [if_neg hk] at h
      unfold mput
      rw [if_neg hk, List.length_cons, List.length_cons, mput_len h]
theorem CN_succ (s : List Int) (x : Nat) : CN (x + 1) s = CN x s ++ [cn s x] := by unfold CN; rw [List.range_succ, List.map_append]; rfl
theorem numbered_l1 {s : List Int} (hn : s.length ≤ 100) : ∀ (d x : Nat) (m : List (Int × Int)), s.length - x = d → x ≤ s.length → (∀ j, j < x → isFirst s j = true → mget m (s.getD j 0) = some (firstN s j : Int)) → (∀ v, (∀ j, j < x → s.getD j 0 ≠ v) → mget m v = none) → m.length = firstN s x →
    Tends2 (fun K k => impl_numbered.l1 K k s m (CN x s) (x : Int)) (CN s.length s)
  | 0, x, m, hd, hx, h1, h2, h3 => by
    obtain rfl : x = s.length := by omega
    refine Tends2.of fun K k => ?_
    rw [impl_numbered.l1, if_neg (by omega)]
  | d + 1, x, m, hd, hx, h1, h2, h3 => by
    have hxl : x < s.length := by omega
    have hlen := CN_len x s
    cases hf : isFirst s x with
    | true =>
      have hno : mget m (s.getD x 0) = none := h2 _ (fun j hj => isFirst_iff.1 hf j hj)
      have hcn : cn s x = (firstN s x : Int) := by rw [cn, fo_uniq hf rfl]
      have ih := numbered_l1 hn d (x + 1) (mput m (s.getD x 0) (m.length : Int)) (by omega) (by omega) (fun j hj hfj => by
          rw [mget_mput]
          by_cases e : j = x
          · subst e; rw [if_pos rfl, h3]
          · rw [if_neg (isFirst_iff.1 hf j (by omega)), h1 j (by omega) hfj]) (fun v hv => by
          rw [mget_mput, if_neg (fun e => hv x (by omega) e.symm)]
          exact h2 v (fun j hj => hv j (by omega))) (by rw [mput_len hno, h3, firstN, if_pos hf])
      refine Tends2.step (G := fun K k => impl_numbered.j4 K k s (CN x s) (x : Int) (mput m (s.getD x 0) (m.length : Int))) (fun K k => ?_) (Tends2.step (fun K k => ?_) ih)
      · rw [impl_numbered.l1, if_pos (by omega), if_pos (by omega), Int.toNat_natCast, hno, if_neg (by decide)]
      · rw [impl_numbered.j4, if_pos (by omega), Int.toNat_natCast, mget_mput, if_pos rfl, w64_succ (by omega), CN_succ, hcn, h3]
        rfl
    | false =>
      obtain ⟨g1, g2, g3⟩ := fo_spec s x
      have hlt : fo s x < x := by
        rcases Nat.lt_or_eq_of_le g1 with h | h
        · exact h
        · rw [h, hf] at g2; cases g2
      have hyes : mget m (s.getD x 0) = some (firstN s (fo s x) : Int) := by rw [← g3]; exact h1 _ hlt g2
      have ih := numbered_l1 hn d (x + 1) m (by omega) (by omega) (fun j hj hfj => by
          by_cases e : j = x
          · subst e; rw [hf] at hfj; cases hfj
          · exact h1 j (by omega) hfj) (fun v hv => h2 v (fun j hj => hv j (by omega))) (by rw [firstN, if_neg (by rw [hf]; decide), h3]; rfl)
      refine Tends2.step (G := fun K k => impl_numbered.j4 K k s (CN x s) (x : Int) m) (fun K k => ?_) (Tends2.step (fun K k => ?_) ih)
      · rw [impl_numbered.l1, if_pos (by omega), if_pos (by omega), Int.toNat_natCast, hyes, if_pos (by rfl)]
      · rw [impl_numbered.j4, if_pos (by omega), Int.toNat_natCast, hyes, w64_succ (by omega), CN_succ, cn]
        rfl
theorem numbered {s : List Int} (hn : s.length ≤ 100) : Tends (fun K => impl_numbered.f K s) (CN s.length s) :=
  (numbered_l1 hn s.length 0 [] (by omega) (by omega) (fun j hj => by omega) (fun v _ => rfl) rfl).diag
end Go.Proofs.YtbjfinndngafoaaGreat
