/-
  Triangulations: the ring around an edge's class that touches no boundary.
-/
import Derived.Test.YtbjfinndngafoaaGreatPlT18
set_option linter.unusedVariables false
set_option linter.unusedSimpArgs false
set_option linter.unusedSectionVars false
namespace Go.Proofs.YtbjfinndngafoaaGreat
open Go.RowKit
theorem pigeon : ∀ (N : Nat) (f : Nat → Nat), (∀ i, i ≤ N → f i < N) → ∃ i j, i < j ∧ j ≤ N ∧ f i = f j
  | 0, f, h => by have := h 0 (Nat.le_refl _); omega
  | N + 1, f, h => by
    by_cases hx : ∃ i, i ≤ N ∧ f i = f (N + 1)
    · obtain ⟨i, hi, e⟩ := hx
      exact ⟨i, N + 1, by omega, by omega, e⟩
    · have hne : ∀ i, i ≤ N → f i ≠ f (N + 1) := fun i hi e => hx ⟨i, hi, e⟩
      have hl := h (N + 1) (Nat.le_refl _)
      obtain ⟨i, j, h1, h2, h3⟩ := pigeon N (fun i => if f i > f (N + 1) then f i - 1 else f i) (fun i hi => by
        have h1 := h i (by omega)
        have h2 := hne i hi
        show (if f i > f (N + 1) then f i - 1 else f i) < N
        split <;> omega)
      refine ⟨i, j, h1, by omega, ?_⟩
      have e1 := hne i (by omega)
      have e2 := hne j h2
      have h3 : (if f i > f (N + 1) then f i - 1 else f i) = (if f j > f (N + 1) then f j - 1 else f j) := h3
      split at h3 <;> split at h3 <;> omega
def it (ts : List (List GFace)) (c : Nat × Nat) : Nat → Nat × Nat
  | 0 => c
  | k + 1 => (nx ts (it ts c k)).getD c
def eo (c : Nat × Nat) : Nat := 6 * c.1 + EE (PA c.2 0) (PA c.2 1)
def crn (c : Nat × Nat) : GFace := ⟨c.1, c.2⟩
def crns (ts : List (List GFace)) (c : Nat × Nat) (k : Nat) : List GFace := (List.range k).map fun i => crn (it ts c i)
theorem crns_len (ts : List (List GFace)) (c : Nat × Nat) (k : Nat) : (crns ts c k).length = k := by simp [crns]
theorem crns_get {ts : List (List GFace)} {c : Nat × Nat} {k i : Nat} (h : i < k) : (crns ts c k).getD i z_GFace = crn (it ts c i) := by
  rw [crns, List.getD_eq_getElem?_getD, List.getElem?_map, List.getElem?_range h]; rfl
theorem crns_succ (ts : List (List GFace)) (c : Nat × Nat) (k : Nat) : crns ts c (k + 1) = crns ts c k ++ [crn (it ts c k)] := by unfold crns; rw [List.range_succ, List.map_append]; rfl
structure Cor (ts : List (List GFace)) (C : List Int) (cl : Int) (c : Nat × Nat) : Prop where
  tet : c.1 < ts.length
  perm : c.2 < 24
  at_ : C.getD (eo c) 0 = cl
theorem eo_of {c : Nat × Nat} (hp : c.2 < 24) : PA c.2 0 < 4 ∧ PA c.2 1 < 4 ∧ PA c.2 0 ≠ PA c.2 1 ∧ EE (PA c.2 0) (PA c.2 1) < 6 ∧ eo c / 6 = c.1 ∧ eo c % 6 = EE (PA c.2 0) (PA c.2 1) := by
  have h0 : PA c.2 0 < 4 := PA_lt hp (by omega)
  have h1 : PA c.2 1 < 4 := PA_lt hp (by omega)
  have hne : PA c.2 0 ≠ PA c.2 1 := PA_ne hp (by omega) (by omega) (by omega)
  have he := (EE_of h0 h1 hne).1
  exact ⟨h0, h1, hne, he, (de6 he).1, (de6 he).2⟩
section
variable {ts : List (List GFace)} (hv : Val ts)
include hv
theorem nbr_corner {a f b q u v : Nat} (hq : q < 24) (hu : u < 4) (hw : v < 4) (huv : u ≠ v) (h1 : f ≠ u) (h2 : f ≠ v) (hx : face ts a f = ⟨b, q⟩) : ∃ fl, nbr ts (6 * a + EE u v) f = some (6 * b + EE (PA q u) (PA q v), fl) := by
  obtain ⟨he, hm, hM⟩ := EE_of hu hw huv
  obtain ⟨n1, n2⟩ := EE_ne hu hw huv h1 h2
  have key := nbr_glued hv he n1 n2 hx
  rw [hm, hM] at key
  have hE : EE (PA q (min u v)) (PA q (max u v)) = EE (PA q u) (PA q v) := by
    by_cases h : u ≤ v
    · rw [Nat.min_eq_left h, Nat.max_eq_right h]
    · rw [Nat.min_eq_right (by omega), Nat.max_eq_left (by omega)]
      exact EE_comm (PA_lt hq hw) (PA_lt hq hu)
  rw [hE] at key
  exact ⟨_, key⟩
variable {s : List Int} (hP : Parted (6 * ts.length) (JE ts) s) {cl : Int} (hI : Inner ts (CN (6 * ts.length) s) cl)
include hP hI
theorem nx_cor {c : Nat × Nat} (hc : Cor ts (CN (6 * ts.length) s) cl c) : ∃ c', nx ts c = some c' ∧ Cor ts (CN (6 * ts.length) s) cl c' ∧ (∃ fl, nbr ts (eo c) (PA c.2 2) = some (eo c', fl)) ∧ (∃ fl, nbr ts (eo c') (PA c'.2 3) = some (eo c, fl)) := by
  obtain ⟨a, p⟩ := c
  obtain ⟨ha, hp, hat⟩ := hc
  have ha : a < ts.length := ha
  have hp : p < 24 := hp
  obtain ⟨h0, h1, hne, he, d1, d2⟩ := eo_of (c := (a, p)) hp
  have h0 : PA p 0 < 4 := h0
  have h1 : PA p 1 < 4 := h1
  have hne : PA p 0 ≠ PA p 1 := hne
  have h20 : PA p 2 ≠ PA p 0 := PA_ne hp (by omega) (by omega) (by omega)
  have h21 : PA p 2 ≠ PA p 1 := PA_ne hp (by omega) (by omega) (by omega)
  have h2 : PA p 2 < 4 := PA_lt hp (by omega)
  have hlt : eo (a, p) < 6 * ts.length := mul_lt ha he
  rcases nx_cases hv ha hp with ⟨g1, g2⟩ | ⟨g1, b, q, hb, hq, g2, g3, g4⟩
  · refine (hI.no _ hlt hat (PA p 2) ?_).elim
    unfold bdE
    rw [d1, d2]
    obtain ⟨n1, n2⟩ := EE_ne h0 h1 hne h20 h21
    exact ⟨h2, n1, n2, g1⟩
  · obtain ⟨m0, m1, m2, m3, m4⟩ := NP_of hp hq
    have e1 : eo (b, NP q p) = 6 * b + EE (PA q (PA p 0)) (PA q (PA p 1)) := by
      show 6 * b + EE (PA (NP q p) 0) (PA (NP q p) 1) = _
      rw [m1, m2]
    obtain ⟨fl, hn⟩ := nbr_corner hv hq h0 h1 hne h20 h21 g2
    have hn : nbr ts (eo (a, p)) (PA p 2) = some (eo (b, NP q p), fl) := by rw [e1]; exact hn
    obtain ⟨fl', hn'⟩ := nbr_corner hv (PI_lt hq) (PA_lt hq h0) (PA_lt hq h1) (PA_ne hq h0 h1 hne) (PA_ne hq h2 h0 h20) (PA_ne hq h2 h1 h21) g3.2.2.2.1
    rw [PI_PA hq h0, PI_PA hq h1] at hn'
    refine ⟨(b, NP q p), g4, ⟨hb, m0, ?_⟩, ⟨fl, hn⟩, ⟨fl', ?_⟩⟩
    · rw [(CN_nbr hv hP _ _ _ _ hlt h2 hn).2]; exact hat
    · show nbr ts (eo (b, NP q p)) (PA (NP q p) 3) = _
      rw [m4, e1]; exact hn'
theorem it_cor {c : Nat × Nat} (hc : Cor ts (CN (6 * ts.length) s) cl c) : ∀ k, Cor ts (CN (6 * ts.length) s) cl (it ts c k)
  | 0 => hc
  | k + 1 => by
    obtain ⟨c', h1, h2, _⟩ := nx_cor hv hP hI (it_cor hc k)
    rw [it, h1]; exact h2
theorem it_nx {c : Nat × Nat} (hc : Cor ts (CN (6 * ts.length) s) cl c) (k : Nat) : nx ts (it ts c k) = some (it ts c (k + 1)) ∧ (∃ fl, nbr ts (eo (it ts c k)) (PA (it ts c k).2 2) = some (eo (it ts c (k + 1)), fl)) ∧ (∃ fl, nbr ts (eo (it ts c (k + 1))) (PA (it ts c (k + 1)).2 3) = some (eo (it ts c k), fl)) := by
  obtain ⟨c', h1, h2, h3, h4⟩ := nx_cor hv hP hI (it_cor hv hP hI hc k)
  have e : it ts c (k + 1) = c' := by rw [it, h1]; rfl
  rw [e]
  exact ⟨h1, h3, h4⟩
theorem it_back {c : Nat × Nat} (hc : Cor ts (CN (6 * ts.length) s) cl c) : ∀ i j, it ts c i = it ts c (i + j) → it ts c j = c
  | 0, j, h => by rw [Nat.zero_add] at h; exact h.symm
  | i + 1, j, h => by
    refine it_back hc i j ?_
    have c1 := it_cor hv hP hI hc i
    have c2 := it_cor hv hP hI hc (i + j)
    have n1 := (it_nx hv hP hI hc i).1
    have n2 := (it_nx hv hP hI hc (i + j)).1
    rw [h, show i + 1 + j = i + j + 1 by omega] at n1
    obtain ⟨e1, e2⟩ := nx_inj hv c1.tet c1.perm c2.tet c2.perm n1 n2
    exact Prod.ext e1 e2
theorem orbit {c : Nat × Nat} (hc : Cor ts (CN (6 * ts.length) s) cl c) : ∃ m, 1 ≤ m ∧ m ≤ 192 ∧ it ts c m = c ∧ ∀ j, 0 < j → j < m → it ts c j ≠ c := by
  have h8 := hv.le
  obtain ⟨i, j, h1, h2, h3⟩ := pigeon 192 (fun k => 24 * (it ts c k).1 + (it ts c k).2) (fun i _ => by
    have c1 := it_cor hv hP hI hc i
    have := c1.tet
    have := c1.perm
    show 24 * (it ts c i).1 + (it ts c i).2 < 192
    omega)
  have hex : ∃ m, 1 ≤ m ∧ m ≤ 192 ∧ it ts c m = c := by
    refine ⟨j - i, by omega, by omega, it_back hv hP hI hc i (j - i) ?_⟩
    rw [show i + (j - i) = j by omega]
    have c1 := (it_cor hv hP hI hc i).perm
    have c2 := (it_cor hv hP hI hc j).perm
    have h3 : 24 * (it ts c i).1 + (it ts c i).2 = 24 * (it ts c j).1 + (it ts c j).2 := h3
    exact Prod.ext (by omega) (by omega)
  have least : ∀ n m, m ≤ n → 1 ≤ m → m ≤ 192 → it ts c m = c → ∃ m, 1 ≤ m ∧ m ≤ 192 ∧ it ts c m = c ∧ ∀ j, 0 < j → j < m → it ts c j ≠ c := by
    intro n
    induction n with
    | zero => intro m h1 h2; omega
    | succ n ih =>
      intro m h1 h2 h3 h4
      by_cases hx : ∃ j, 0 < j ∧ j < m ∧ it ts c j = c
      · obtain ⟨j, k1, k2, k3⟩ := hx
        exact ih j (by omega) (by omega) (by omega) k3
      · exact ⟨m, h2, h3, h4, fun j k1 k2 k3 => hx ⟨j, k1, k2, k3⟩⟩
  obtain ⟨m, h4, h5, h6⟩ := hex
  exact least m m (Nat.le_refl _) h4 h5 h6
theorem ring_i {c : Nat × Nat} (hc : Cor ts (CN (6 * ts.length) s) cl c) {m : Nat} (hm : m ≤ 192) (hmc : it ts c m = c) (hno : ∀ j, 0 < j → j < m → it ts c j ≠ c) : ∀ (d k : Nat), m - (k + 1) = d → k < m → Tends2 (fun K f => impl_Triangulation_ring.l1 K f ts (c.1 : Int) (c.2 : Int) (crns ts c (k + 1))) (crns ts c m)
  | d, k, hd, hk => by
    have hk1 := it_cor hv hP hI hc k
    have hn := (it_nx hv hP hI hc k).1
    have aft1 := after_i hv hk1.tet hk1.perm
    rw [hn] at aft1
    have hw : w64 (((k + 1 : Nat) : Int) - 1) = (k : Int) := by rw [w64_id (by omega) (by omega)]; omega
    refine Tends2.step (G := fun K f => Go.Proofs.YtbjfinndngafoaaGreat.bind3 (impl_Triangulation_after.f K ts ((it ts c k).1 : Int) ((it ts c k).2 : Int)) (fun t64 t65 t66 => (if t66 = true then (if (t64, t65) = ((c.1 : Int), (c.2 : Int)) then (some (crns ts c (k + 1))) else (if ((crns ts c (k + 1)).length + 1) * 16 ≤ 140737488355328 then (impl_Triangulation_ring.l1 K f ts (c.1 : Int) (c.2 : Int) ((crns ts c (k + 1)) ++ [(⟨t64, t65⟩ : GFace)])) else none)) else (some (crns ts c (k + 1)))))) (fun K f => ?_) ?_
    · rw [impl_Triangulation_ring.l1, crns_len, hw, if_pos (by omega), Int.toNat_natCast, crns_get (by omega)]; rfl
    · refine Tends2.bind3 (a := ((it ts c (k + 1)).1 : Int)) (b := ((it ts c (k + 1)).2 : Int)) (c := true) aft1.two (Tends2.pos rfl ?_)
      by_cases e : k + 1 = m
      · subst e
        refine Tends2.pos ?_ (Tends2.const _)
        rw [hmc]
      · have h2 : ¬ (((it ts c (k + 1)).1 : Int), ((it ts c (k + 1)).2 : Int)) = ((c.1 : Int), (c.2 : Int)) := fun h => by
          injection h with h1 h2
          exact hno (k + 1) (by omega) (by omega) (Prod.ext (by omega) (by omega))
        refine Tends2.neg h2 (Tends2.pos (by rw [crns_len]; omega) ?_)
        have := ring_i hc hm hmc hno (d - 1) (k + 1) (by omega) (by omega)
        rw [crns_succ ts c (k + 1)] at this
        exact this
theorem ring_s {c : Nat × Nat} (hc : Cor ts (CN (6 * ts.length) s) cl c) {m : Nat} (hm : m ≤ 192) (hmc : it ts c m = c) (hno : ∀ j, 0 < j → j < m → it ts c j ≠ c) : ∀ (d k : Nat), m - (k + 1) = d → k < m → Tends2 (fun K f => spec_l08Ring.l1 K f ts (c.1 : Int) (c.2 : Int) (crns ts c (k + 1))) (crns ts c m)
  | d, k, hd, hk => by
    have hk1 := it_cor hv hP hI hc k
    have hn := (it_nx hv hP hI hc k).1
    have aft1 := after_s hv hk1.tet hk1.perm
    rw [hn] at aft1
    have hw : w64 (((k + 1 : Nat) : Int) - 1) = (k : Int) := by rw [w64_id (by omega) (by omega)]; omega
    refine Tends2.step (G := fun K f => Go.Proofs.YtbjfinndngafoaaGreat.bind3 (spec_l08After.f K ts ((it ts c k).1 : Int) ((it ts c k).2 : Int)) (fun t64 t65 t66 => (if t66 = true then (if (t64, t65) = ((c.1 : Int), (c.2 : Int)) then (some (crns ts c (k + 1))) else (if ((crns ts c (k + 1)).length + 1) * 16 ≤ 140737488355328 then (spec_l08Ring.l1 K f ts (c.1 : Int) (c.2 : Int) ((crns ts c (k + 1)) ++ [(⟨t64, t65⟩ : GFace)])) else none)) else (some (crns ts c (k + 1)))))) (fun K f => ?_) ?_
    · rw [spec_l08Ring.l1, crns_len, hw, if_pos (by omega), Int.toNat_natCast, crns_get (by omega)]; rfl
    · refine Tends2.bind3 (a := ((it ts c (k + 1)).1 : Int)) (b := ((it ts c (k + 1)).2 : Int)) (c := true) aft1.two (Tends2.pos rfl ?_)
      by_cases e : k + 1 = m
      · subst e
        refine Tends2.pos ?_ (Tends2.const _)
        rw [hmc]
      · have h2 : ¬ (((it ts c (k + 1)).1 : Int), ((it ts c (k + 1)).2 : Int)) = ((c.1 : Int), (c.2 : Int)) := fun h => by
          injection h with h1 h2
          exact hno (k + 1) (by omega) (by omega) (Prod.ext (by omega) (by omega))
        refine Tends2.neg h2 (Tends2.pos (by rw [crns_len]; omega) ?_)
        have := ring_s hc hm hmc hno (d - 1) (k + 1) (by omega) (by omega)
        rw [crns_succ ts c (k + 1)] at this
        exact this
theorem ring_all {c : Nat × Nat} (hc : Cor ts (CN (6 * ts.length) s) cl c) {m : Nat} (hm : 1 ≤ m) (hmc : it ts c m = c) {j : Nat} (hj : j < 6 * ts.length) : (CN (6 * ts.length) s).getD j 0 = cl ↔ ∃ k, k < m ∧ j = eo (it ts c k) := by
  have lt : ∀ k, eo (it ts c k) < 6 * ts.length := fun k => by
    have h := it_cor hv hP hI hc k
    exact mul_lt h.tet (eo_of h.perm).2.2.2.1
  constructor
  · intro hcl
    have nxt : ∀ k, k < m → ∃ k', k' < m ∧ eo (it ts c (k + 1)) = eo (it ts c k') := fun k hk => by
      by_cases e : k + 1 = m
      · exact ⟨0, by omega, by rw [e, hmc]; rfl⟩
      · exact ⟨k + 1, by omega, rfl⟩
    have one : ∀ x y f fl, f < 4 → nbr ts x f = some (y, fl) → (∃ k, k < m ∧ x = eo (it ts c k)) → ∃ k, k < m ∧ y = eo (it ts c k) := fun x y f fl hf hn ⟨k, hk, hx⟩ => by
      have hck := it_cor hv hP hI hc k
      have hp := hck.perm
      obtain ⟨h0, h1, hne, he, d1, d2⟩ := eo_of (c := it ts c k) hp
      rw [hx] at hn
      obtain ⟨b, q, _, _, _, _, n1, n2, _⟩ := nbr_some hv (lt k) hf hn
      rw [d2] at n1 n2
      obtain ⟨_, e1, e2⟩ := EE_of h0 h1 hne
      rw [e1] at n1
      rw [e2] at n2
      have h2 : PA (it ts c k).2 2 < 4 := PA_lt hp (by omega)
      have h3 : PA (it ts c k).2 3 < 4 := PA_lt hp (by omega)
      have h02 : PA (it ts c k).2 0 ≠ PA (it ts c k).2 2 := PA_ne hp (by omega) (by omega) (by omega)
      have h03 : PA (it ts c k).2 0 ≠ PA (it ts c k).2 3 := PA_ne hp (by omega) (by omega) (by omega)
      have h12 : PA (it ts c k).2 1 ≠ PA (it ts c k).2 2 := PA_ne hp (by omega) (by omega) (by omega)
      have h13 : PA (it ts c k).2 1 ≠ PA (it ts c k).2 3 := PA_ne hp (by omega) (by omega) (by omega)
      have h23 : PA (it ts c k).2 2 ≠ PA (it ts c k).2 3 := PA_ne hp (by omega) (by omega) (by omega)
      have hf23 : f = PA (it ts c k).2 2 ∨ f = PA (it ts c k).2 3 := by omega
      rcases hf23 with hf2 | hf3
      · obtain ⟨fl', hn'⟩ := (it_nx hv hP hI hc k).2.1
        rw [hf2, hn'] at hn
        injection hn with hn
        injection hn with hn _
        obtain ⟨k', a1, a2⟩ := nxt k hk
        exact ⟨k', a1, by rw [← hn]; exact a2⟩
      · obtain ⟨k', a1, a2⟩ : ∃ k', k' < m ∧ it ts c (k' + 1) = it ts c k := by
          by_cases e : k = 0
          · exact ⟨m - 1, by omega, by rw [show m - 1 + 1 = m by omega, hmc, e]; rfl⟩
          · exact ⟨k - 1, by omega, by rw [show k - 1 + 1 = k by omega]⟩
        obtain ⟨fl', hn'⟩ := (it_nx hv hP hI hc k').2.2
        rw [a2, ← hf3, hn] at hn'
        injection hn' with hn'
        injection hn' with hn' _
        exact ⟨k', a1, hn'⟩
    have hQ : ∀ p, p ∈ JE ts → ((∃ k, k < m ∧ p.1 = eo (it ts c k)) ↔ (∃ k, k < m ∧ p.2 = eo (it ts c k))) := fun p hp => by
      obtain ⟨x, y⟩ := p
      obtain ⟨hx, f, fl, hf, hn⟩ := JE_nbr hv hp
      refine ⟨one x y f fl hf hn, fun h => ?_⟩
      obtain ⟨f', fl', hf', hn'⟩ := nbr_symm hv hx hf hn
      exact one y x f' fl' hf' hn' h
    have e0 : s.getD (eo (it ts c 0)) 0 = s.getD j 0 := (CN_num _ s).inj (lt 0) hj (hc.at_.trans hcl.symm)
    exact (hP.min (fun x => ∃ k, k < m ∧ x = eo (it ts c k)) hQ _ _ (lt 0) hj e0).1 ⟨0, by omega, rfl⟩
  · rintro ⟨k, hk, rfl⟩
    exact (it_cor hv hP hI hc k).at_
end
end Go.Proofs.YtbjfinndngafoaaGreat
