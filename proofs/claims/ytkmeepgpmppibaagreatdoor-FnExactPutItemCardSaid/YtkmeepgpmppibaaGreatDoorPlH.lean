/-
  The numbers of the parts, and the whole: the program's drawing is there if and only if the reference calls the diagram one.
-/
import Derived.Test.YtkmeepgpmppibaaGreatDoorPlG
set_option linter.unusedVariables false
set_option linter.unusedSimpArgs false
set_option linter.unusedSectionVars false
namespace Go.Proofs.YtkmeepgpmppibaaGreatDoor
open Go.RowKit
theorem Rw : ∀ (m : List (Int × Int)) (k v k' : Int), Mx (Nv m k v) k' = if k' = k then some v else Mx m k'
  | [], k, v, k' => by simp [Nv, Mx]
  | p :: r, k, v, k' => by
    unfold Nv
    by_cases h : k = p.1
    · rw [if_pos h]
      unfold Mx
      by_cases h2 : k' = k
      · simp [h2]
      · rw [if_neg h2, if_neg h2, if_neg (fun e => h2 (e.trans h.symm))]
    · rw [if_neg h]
      unfold Mx
      by_cases h2 : k' = p.1
      · rw [if_pos h2, if_neg (fun e => h (e.symm.trans h2)), if_pos h2]
      · rw [if_neg h2, Rw r k v k', if_neg h2]
theorem U3 : ∀ (m : List (Int × Int)) (k v : Int), Mx m k = none → (Nv m k v).length = m.length + 1
  | [], _, _, _ => rfl
  | p :: r, k, v, h => by
    unfold Mx at h
    by_cases h2 : k = p.1
    · rw [if_pos h2] at h; cases h
    · rw [if_neg h2] at h
      unfold Nv
      rw [if_neg h2, List.length_cons, U3 r k v h, List.length_cons]
structure Num (s : List Int) (i : Nat) (m : List (Int × Int)) (o : List Int) : Prop where
  len : o.length = i
  cnt : m.length = M4 s i
  seen : ∀ key, (Mx m key).isSome = true ↔ ∃ j, j < i ∧ s.getD j 0 = key
  vals : ∀ key v, Mx m key = some v → 0 ≤ v ∧ v < (m.length : Int)
  rng : ∀ j, j < i → o.getD j 0 < (m.length : Int)
  top : 0 < m.length → ∃ j, j < i ∧ o.getD j 0 = (m.length : Int) - 1
theorem Rx {o : List Int} {i j : Nat} {v : Int} (hl : o.length = i) : (o ++ [v]).getD j 0 = if j < i then o.getD j 0 else if j = i then v else 0 := by
  rw [List.getD_eq_getElem?_getD, List.getElem?_append, hl]
  by_cases h : j < i
  · rw [if_pos h, if_pos h, ← List.getD_eq_getElem?_getD]
  · rw [if_neg h, if_neg h]
    by_cases h2 : j = i
    · subst h2; simp
    · rw [if_neg h2, List.getElem?_eq_none (by simp; omega)]; rfl
theorem Num.old {s : List Int} {i : Nat} {m : List (Int × Int)} {o : List Int} (h : Num s i m o) {v : Int} (hv : Mx m (s.getD i 0) = some v) : Num s (i + 1) m (o ++ [v]) := by
  obtain ⟨j0, hj0, he0⟩ := (h.seen (s.getD i 0)).1 (by rw [hv]; rfl)
  have hnf : ¬ isFirst s i = true := fun hf => Ny.1 hf j0 hj0 he0
  have hvv := h.vals _ _ hv
  refine ⟨by simp [h.len], by rw [M4, if_neg hnf]; exact h.cnt, fun key => ?_, h.vals, fun j hj => ?_, fun h0 => ?_⟩
  · rw [h.seen key]
    constructor
    · rintro ⟨j, hj, he⟩; exact ⟨j, by omega, he⟩
    · rintro ⟨j, hj, he⟩
      by_cases hji : j < i
      · exact ⟨j, hji, he⟩
      · obtain rfl : j = i := by omega
        exact ⟨j0, hj0, he0.trans he⟩
  · rw [Rx h.len]
    by_cases hji : j < i
    · rw [if_pos hji]; exact h.rng j hji
    · rw [if_neg hji, if_pos (by omega)]; exact hvv.2
  · obtain ⟨j, hj, he⟩ := h.top h0
    exact ⟨j, by omega, by rw [Rx h.len, if_pos hj]; exact he⟩
theorem Num.new {s : List Int} {i : Nat} {m : List (Int × Int)} {o : List Int} (h : Num s i m o) (hv : Mx m (s.getD i 0) = none) : Num s (i + 1) (Nv m (s.getD i 0) (m.length : Int)) (o ++ [(m.length : Int)]) := by
  have hlen := U3 m (s.getD i 0) (m.length : Int) hv
  have hf : isFirst s i = true := Ny.2 (fun j hj e => by
    have := (h.seen (s.getD i 0)).2 ⟨j, hj, e⟩
    rw [hv] at this
    cases this)
  refine ⟨by simp [h.len], by rw [hlen, M4, if_pos hf, h.cnt], fun key => ?_, fun key v hk => ?_, fun j hj => ?_, fun _ => ?_⟩
  · rw [Rw]
    by_cases hk : key = s.getD i 0
    · rw [if_pos hk]
      exact ⟨fun _ => ⟨i, by omega, hk.symm⟩, fun _ => rfl⟩
    · rw [if_neg hk, h.seen key]
      constructor
      · rintro ⟨j, hj, he⟩; exact ⟨j, by omega, he⟩
      · rintro ⟨j, hj, he⟩
        by_cases hji : j < i
        · exact ⟨j, hji, he⟩
        · obtain rfl : j = i := by omega
          exact absurd he.symm hk
  · rw [Rw] at hk
    rw [hlen]
    by_cases hkk : key = s.getD i 0
    · rw [if_pos hkk] at hk
      obtain rfl := Option.some.inj hk
      omega
    · rw [if_neg hkk] at hk
      have := h.vals _ _ hk
      omega
  · rw [Rx h.len, hlen]
    by_cases hji : j < i
    · rw [if_pos hji]; have := h.rng j hji; omega
    · rw [if_neg hji, if_pos (by omega)]; omega
  · refine ⟨i, by omega, ?_⟩
    rw [Rx h.len, if_neg (by omega), if_pos rfl, hlen]
    omega
theorem Rp {s : List Int} (hn : s.length ≤ 10) : ∀ (d i : Nat) (m : List (Int × Int)) (o : List Int), s.length - i = d → i ≤ s.length → Num s i m o → ∃ m' o', Num s s.length m' o' ∧ Ac (fun K k => Cz.l1 K k s m o (i : Int)) o'
  | 0, i, m, o, hd, hi, h => by
    obtain rfl : i = s.length := by omega
    refine ⟨m, o, h, Ac.succ (Ac.congr (fun K k => ?_) (Ac.const _))⟩
    rw [Cz.l1, if_neg (by omega)]
  | d + 1, i, m, o, hd, hi, h => by
    cases hv : Mx m (s.getD i 0) with
    | some v =>
      obtain ⟨m', o', h1, h2⟩ := Rp hn d (i + 1) _ _ (by omega) (by omega) (h.old hv)
      refine ⟨m', o', h1, Ac.succ (Ac.congr (G := fun K k => Cz.j4 K k s o (i : Int) m) (fun K k => ?_) (Ac.succ (Ac.congr (fun K k => ?_) h2)))⟩
      · rw [Cz.l1, if_pos (by omega), if_pos (by omega), Int.toNat_natCast, hv, if_pos (show (some v).isSome = true from rfl)]
      · rw [Cz.j4, if_pos (by rw [h.len]; omega), Int.toNat_natCast, hv, Cc (by omega)]
        rfl
    | none =>
      obtain ⟨m', o', h1, h2⟩ := Rp hn d (i + 1) _ _ (by omega) (by omega) (h.new hv)
      refine ⟨m', o', h1, Ac.succ (Ac.congr (G := fun K k => Cz.j4 K k s o (i : Int) (Nv m (s.getD i 0) (m.length : Int))) (fun K k => ?_) (Ac.succ (Ac.congr (fun K k => ?_) h2)))⟩
      · rw [Cz.l1, if_pos (by omega), if_pos (by omega), Int.toNat_natCast, hv, if_neg (by decide)]
      · rw [Cz.j4, if_pos (by rw [h.len]; omega), Int.toNat_natCast, Rw, if_pos rfl, Cc (by omega)]
        rfl
theorem numbered {s : List Int} (hn : s.length ≤ 10) : ∃ m o, Num s s.length m o ∧ Ab (fun K => Cz.f K s) o := by
  obtain ⟨m, o, h1, h2⟩ := Rp hn s.length 0 [] [] rfl (by omega) ⟨rfl, rfl, (fun key => ⟨(fun h => nomatch h), (fun ⟨j, hj, _⟩ => absurd hj (Nat.not_lt_zero _))⟩), (fun key v h => nomatch h), (fun j hj => absurd hj (Nat.not_lt_zero _)), (fun h => absurd h (Nat.lt_irrefl _))⟩
  exact ⟨m, o, h1, Ab.congr (fun K => rfl) h2.Ib⟩
theorem mP {x : List Int} (hn : x.length ≤ 10) : ∀ (d i : Nat) (m : Int), x.length - i = d → (∀ j, j < i → x.getD j 0 ≤ m) → (∃ j, j < x.length ∧ x.getD j 0 = m) →
    ∃ M, Ac (fun K k => Cm.l2 K k x m (i : Int)) M ∧ (∀ j, j < x.length → x.getD j 0 ≤ M) ∧ ∃ j, j < x.length ∧ x.getD j 0 = M
  | 0, i, m, hd, h1, h2 => by
    refine ⟨m, Ac.succ (Ac.congr (fun K k => ?_) (Ac.const _)), fun j hj => h1 j (by omega), h2⟩
    rw [Cm.l2, if_neg (by omega)]
  | d + 1, i, m, hd, h1, h2 => by
    have hstep : ∀ M, Ac (fun K k => Cm.l2 K k x (if x.getD i 0 > m then x.getD i 0 else m) ((i + 1 : Nat) : Int)) M → Ac (fun K k => Cm.l2 K k x m (i : Int)) M := fun M h => by
      refine Ac.succ (Ac.congr (fun K k => ?_) h)
      rw [Cm.l2, if_pos (by omega), if_pos (by omega), Int.toNat_natCast, Cc (by omega)]
    obtain ⟨M, g1, g2, g3⟩ := mP hn d (i + 1) (if x.getD i 0 > m then x.getD i 0 else m) (by omega) (fun j hj => by
      by_cases hji : j < i
      · have := h1 j hji
        split <;> omega
      · obtain rfl : j = i := by omega
        split <;> omega) (by
      split
      · exact ⟨i, by omega, rfl⟩
      · exact h2)
    exact ⟨M, hstep M g1, g2, g3⟩
theorem bW {s : List Int} (hn : s.length ≤ 10) {m : List (Int × Int)} {o : List Int} (h : Num s s.length m o) : Ab (fun K => Ik.f K o) (M4 s s.length : Int) := by
  unfold Ik.f
  by_cases h0 : s.length = 0
  · refine Ab.pos (by rw [h.len]; omega) (Ab.congr (fun K => ?_) (Ab.const _))
    rw [h0]; rfl
  · have hol : o.length = s.length := h.len
    have hfirst : 0 < M4 s s.length := by
      have : ∀ i, 0 < i → 0 < M4 s i := fun i => by
        induction i with
        | zero => intro h; omega
        | succ i ih =>
          intro _
          rw [M4]
          by_cases hi : i = 0
          · subst hi
            have : isFirst s 0 = true := Ny.2 (fun j hj => by omega)
            rw [if_pos this]; omega
          · have := ih (by omega); omega
      exact this _ (by omega)
    obtain ⟨M, g1, g2, j0, g3, g4⟩ := mP (x := o) (by omega) (o.length - 1) 1 (o.getD 0 0) rfl (fun j hj => (by have h0 : j = 0 := (by omega); rw [h0]; exact Int.le_refl _)) ⟨0, by omega, rfl⟩
    obtain ⟨j1, k1, k2⟩ := h.top (by rw [h.cnt]; exact hfirst)
    have e1 := g2 j1 (by omega)
    have e2 := h.rng j0 (by omega)
    have hc := h.cnt
    have hM : M = (M4 s s.length : Int) - 1 := by omega
    have hle := X5 s s.length
    refine Ab.neg (by omega) (Ab.bind (a := M) (Ab.congr (fun K => ?_) g1.Ib) (Ab.congr (fun K => ?_) (Ab.const _)))
    · rw [Cm.f, if_neg (by omega), if_pos (by omega)]
      rfl
    · rw [H8 (by omega) (by omega)]
      congr 1
      omega
theorem Sv {o : List Int} (hn : o.length ≤ 10) : ∀ (d i : Nat), o.length - i = d → i ≤ o.length → Ac (fun K k => Dc.l1 K k o (Zy o i : Int) (i : Int)) (Zy o o.length : Int)
  | 0, i, hd, hi => by
    obtain rfl : i = o.length := by omega
    refine Ac.succ (Ac.congr (fun K k => ?_) (Ac.const _))
    rw [Dc.l1, if_neg (by omega)]
  | d + 1, i, hd, hi => by
    have hle := fF o i
    refine Ac.succ (Ac.congr (fun K k => ?_) (Sv hn d (i + 1) (by omega) (by omega)))
    rw [Dc.l1, if_pos (by omega), if_pos (by omega), Int.toNat_natCast, Cc (by omega), Cc (by omega), Zy]
    by_cases hc : o.getD i 0 = (i : Int)
    · rw [if_pos hc, if_pos hc]
    · rw [if_neg hc, if_neg hc]; rfl
section
variable {xs : List Al} (hn : xs.length ≤ 10) (cs : Int) (hs : Sz xs) {f t : List Fv} (hg : Good xs f t)
include hn hs hg
theorem aR : ∃ (C : Int) (o : List Int), Ab (fun K => Dc.f K xs cs) C ∧ Ab (fun K => C9.f K xs cs f t) o ∧ Ab (fun K => Ik.f K o) C := by
  obtain ⟨s', o', h1, h2, h3, h4, h5⟩ := Wz hn cs hs hg (2 * xs.length) 0 (upto xs.length) (upto xs.length) (by omega) (by omega) (Pw _) (fun _ _ _ _ => Iff.rfl) (bO _)
  obtain ⟨m, o, k1, k2⟩ := numbered (s := s') (by omega)
  have k3 := bW (by omega) k1
  refine ⟨_, o, ?_, ?_, k3⟩
  · have hp := aU hn cs (R := o') h4 xs.length 0 rfl (by omega)
    have hc := Sv (o := o') (by rw [h3.len]; exact hn) o'.length 0 rfl (by omega)
    have he : Zy o' o'.length = M4 s' s'.length := by rw [h3.len, h1, Wv h3 _ (Nat.le_refl _), U6 h2 _ (Nat.le_refl _)]
    rw [he] at hc
    refine Ab.bind (G := fun K t3 => Dc.l1 K K t3 0 0) (Ab.congr (fun K => rfl) hp.Ib) hc.Ib
  · refine Ab.bind (a := (xs.length : Int)) (F := fun _ => Em.f xs) (G := fun K t5 => (Fz.f K t5).bind fun t9 => C9.l1 K K f t t9 0) (Ab.const _) ?_
    refine Ab.bind (a := upto xs.length) (G := fun K t9 => C9.l1 K K f t t9 0) (Ab.congr (fun K => rfl) (Uy hn xs.length 0 rfl (by omega)).Ib) (h5 o k2).Ib
end
theorem dM {x : Al} : Nn x = true ↔ (x.Sign = 1 ∨ x.Sign = -1) := by unfold Nn; exact decide_eq_true_iff
theorem kZ (xs : List Al) (hx : xs.length ≤ 2000000) (cs : Int) :
    (Ab (fun K => Ic.f K xs cs) false ∧ Ab (fun K => Gb.f K xs cs) ([], [], false)) ∨
    (xs.length ≤ 10 ∧ Sz xs ∧ ∃ f t, Good xs f t ∧ Ab (fun K => Ic.f K xs cs) true ∧ Ab (fun K => Gb.f K xs cs) (f, t, true)) := by
  unfold Ic.f Gb.f Em.f
  simp only [Option.bind_some]
  by_cases h10 : 10 < xs.length
  · exact .inl ⟨Ab.pos (by omega) (Ab.const _), Ab.pos (by omega) (Ab.const _)⟩
  have hn : xs.length ≤ 10 := by omega
  have hin : Dx.f cs 0 8 = some (decide (0 ≤ cs ∧ cs ≤ 8)) := by
    unfold Dx.f
    by_cases h : 0 ≤ cs <;> simp [h]
  have hir : Ct.f cs 0 8 = some (decide (0 ≤ cs ∧ cs ≤ 8)) := by
    unfold Ct.f
    by_cases h : 0 ≤ cs <;> simp [h]
  rw [hin, hir]
  simp only [Option.bind_some]
  by_cases hc : 0 ≤ cs ∧ cs ≤ 8
  · rw [decide_eq_true hc]
    by_cases hb : ∀ c, c < xs.length → Nn (xs.getD c Au) = true
    · have hs : Sz xs := fun c h => dM.1 (hb c h)
      have hcon := Xj hn hb
      rcases scans hn cs hs with ⟨h1, f, t, h2, _⟩ | ⟨h1, f, t, h2, hg⟩
      · refine .inl ⟨Ab.neg (by omega) (Ab.pos rfl (Ab.bind h1 (Ab.neg (by decide) (Ab.const _)))), Ab.neg (by omega) (Ab.pos rfl (Ab.bind hcon (Ab.neg (by decide) (Ab.M8 h2 (Ab.neg (by decide) (Ab.const _))))))⟩
      · obtain ⟨R, _, r1, r2⟩ := regions hn hs hg cs
        obtain ⟨C, o, p1, p2, p3⟩ := aR hn cs hs hg
        have hS : Ab (fun K => if 10 < (xs.length : Int) then some false else if true = true then (Bf.f K xs cs).bind fun t19 => if t19 = true then (Cj.f K xs cs).bind fun t24 => (Dc.f K xs cs).bind fun t31 => some (decide ((t24.length : Int) = w64 ((xs.length : Int) + w64 (2 * t31)))) else some false else some false) (decide ((R.length : Int) = w64 ((xs.length : Int) + w64 (2 * C)))) :=
          Ab.neg (by omega) (Ab.pos rfl (Ab.bind h1 (Ab.pos rfl (Ab.bind r1 (Ab.bind p1 (Ab.const _))))))
        by_cases he : (R.length : Int) = w64 ((xs.length : Int) + w64 (2 * C))
        · rw [decide_eq_true he] at hS
          refine .inr ⟨hn, hs, f, t, hg, hS, ?_⟩
          exact Ab.neg (by omega) (Ab.pos rfl (Ab.bind hcon (Ab.neg (by decide) (Ab.M8 h2 (Ab.pos rfl (Ab.bind r2 (Ab.bind (a := (R.length : Int)) (Ab.const _) (Ab.bind p2 (Ab.bind p3 (Ab.pos he (Ab.const _)))))))))))
        · rw [decide_eq_false he] at hS
          refine .inl ⟨hS, ?_⟩
          exact Ab.neg (by omega) (Ab.pos rfl (Ab.bind hcon (Ab.neg (by decide) (Ab.M8 h2 (Ab.pos rfl (Ab.bind r2 (Ab.bind (a := (R.length : Int)) (Ab.const _) (Ab.bind p2 (Ab.bind p3 (Ab.neg he (Ab.const _)))))))))))
    · obtain ⟨c0, hc0⟩ := Classical.not_forall.1 hb
      obtain ⟨hlt, hbad⟩ := Classical.not_imp.1 hc0
      have hbad' : Nn (xs.getD c0 Au) = false := by cases h : Nn (xs.getD c0 Au) <;> simp_all
      refine .inl ⟨Ab.neg (by omega) (Ab.pos rfl (Ab.bind (Z6 hn cs hlt hbad') (Ab.neg (by decide) (Ab.const _)))), Ab.neg (by omega) (Ab.pos rfl (Ab.bind (Z8 hn hlt hbad') (Ab.pos rfl (Ab.const _))))⟩
  · rw [decide_eq_false hc]
    exact .inl ⟨Ab.neg (by omega) (Ab.neg (by decide) (Ab.const _)), Ab.neg (by omega) (Ab.neg (by decide) (Ab.const _))⟩
end Go.Proofs.YtkmeepgpmppibaaGreatDoor
