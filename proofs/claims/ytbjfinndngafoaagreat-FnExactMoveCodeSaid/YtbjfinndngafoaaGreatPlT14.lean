/-
  How many classes; which are reversed; which lie on the boundary.
-/
import Derived.Test.YtbjfinndngafoaaGreatPlT13
set_option linter.unusedVariables false
set_option linter.unusedSimpArgs false
set_option linter.unusedSectionVars false
namespace Go.Proofs.YtbjfinndngafoaaGreat
open Go.RowKit
theorem max_l2 {x : List Int} (hl : x.length ≤ 100) (hb : ∀ i, i < x.length → 0 ≤ x.getD i 0 ∧ x.getD i 0 < 1000) : ∀ (d i : Nat) (m : Int), x.length - i = d → i ≤ x.length → 0 < i → (∃ j, j < i ∧ x.getD j 0 = m) → (∀ j, j < i → x.getD j 0 ≤ m) →
    ∃ m', Tends2 (fun K k => slices_Max_int64_int64.l2 K k x m (i : Int)) m' ∧ (∃ j, j < x.length ∧ x.getD j 0 = m') ∧ ∀ j, j < x.length → x.getD j 0 ≤ m'
  | 0, i, m, hd, hi, h0, h1, h2 => by
    obtain rfl : i = x.length := by omega
    exact ⟨m, Tends2.of fun K k => by rw [slices_Max_int64_int64.l2, if_neg (by omega)], h1, h2⟩
  | d + 1, i, m, hd, hi, h0, ⟨j, hj, he⟩, h2 => by
    have hlt : i < x.length := by omega
    obtain ⟨m', t, g1, g2⟩ := max_l2 hl hb d (i + 1) (if x.getD i 0 > m then x.getD i 0 else m) (by omega) (by omega) (by omega) (by
        by_cases hc : x.getD i 0 > m
        · rw [if_pos hc]; exact ⟨i, by omega, rfl⟩
        · rw [if_neg hc]; exact ⟨j, by omega, he⟩) (fun k hk => by
        by_cases e : k = i
        · subst e; split <;> omega
        · have := h2 k (by omega); split <;> omega)
    refine ⟨m', Tends2.step (fun K k => ?_) t, g1, g2⟩
    rw [slices_Max_int64_int64.l2, if_pos (by omega), if_pos (by omega), Int.toNat_natCast, w64_succ (by omega)]
section
variable {ts : List (List GFace)} (hv : Val ts) {s : List Int} {N : Nat} (hN : N ≤ 100)
include hN
theorem cn_range {i : Nat} (hi : i < N) : 0 ≤ (CN N s).getD i 0 ∧ (CN N s).getD i 0 < (firstN s N : Int) ∧ firstN s N ≤ N := ⟨((CN_num N s).range hi).1, ((CN_num N s).range hi).2, firstN_le s N⟩
theorem count_c : Tends (fun K => impl_classCount.f K (CN N s)) (firstN s N : Int) := by
  have hl := CN_len N s
  have hle := firstN_le s N
  by_cases h0 : N = 0
  · subst h0
    refine Tends.pos (by rw [hl]; rfl) ?_
    exact Tends.const _
  · refine Tends.neg (by omega) ?_
    obtain ⟨m', t, ⟨j, hj, he⟩, h2⟩ := max_l2 (x := CN N s) (by omega) (fun i hi => by have := cn_range (s := s) hN (i := i) (by omega); omega) (N - 1) 1 ((CN N s).getD 0 0) (by omega) (by omega) (by omega) ⟨0, by omega, rfl⟩ (fun j hj => by
      have e : j = 0 := by omega
      rw [e]; exact Int.le_refl _)
    have hpos : 0 < firstN s N := by
      have := cn_range (s := s) hN (i := 0) (by omega); omega
    obtain ⟨i, hi, _, hc⟩ := (CN_num N s).onto (Nat.le_refl N) (show firstN s N - 1 < firstN s N by omega)
    have h3 := h2 i (by omega)
    have h4 := cn_range (s := s) hN (i := j) (by omega)
    have hm : m' = (firstN s N : Int) - 1 := by omega
    refine Tends.bind (a := m') (Tends.congr (fun K => ?_) t.diag) ?_
    · show slices_Max_int64_int64.f K (CN N s) = _
      rw [slices_Max_int64_int64.f, if_neg (by omega), if_pos (by omega)]
      rfl
    · rw [hm, w64_id (by omega) (by omega), show (firstN s N : Int) - 1 + 1 = (firstN s N : Int) by omega]
      exact Tends.const _
theorem rev_l1 {Sg : List Int} (hS : Sg.length = N) : ∀ (d i : Nat) (o : List Bool), N - i = d → i ≤ N → o.length = firstN s N → (∀ c : Nat, o.getD c false = true → ∃ j, j < i ∧ (CN N s).getD j 0 = (c : Int)) → (∀ (c : Nat) j, j < i → (CN N s).getD j 0 = (c : Int) → ∃ j', j' < i ∧ (CN N s).getD j' 0 = (c : Int) ∧ o.getD c false = decide (Sg.getD j' 0 = 0)) →
    ∃ o', Tends2 (fun K k => impl_Triangulation_reversedEdges.l1 K k (CN N s) Sg o (i : Int)) o' ∧ o'.length = firstN s N ∧ ∀ j, j < N → ∃ j', j' < N ∧ (CN N s).getD j' 0 = (CN N s).getD j 0 ∧ o'.getD ((CN N s).getD j 0).toNat false = decide (Sg.getD j' 0 = 0)
  | 0, i, o, hd, hi, hl, h1, h2 => by
    obtain rfl : i = N := by omega
    refine ⟨o, Tends2.of fun K k => by rw [impl_Triangulation_reversedEdges.l1, if_neg (by omega)], hl, fun j hj => ?_⟩
    have := cn_range (s := s) hN hj
    have e : (CN i s).getD j 0 = (((CN i s).getD j 0).toNat : Int) := by omega
    obtain ⟨j', a, b, c⟩ := h2 _ j hj e
    exact ⟨j', a, b.trans e.symm, c⟩
  | d + 1, i, o, hd, hi, hl, h1, h2 => by
    have hlt : i < N := by omega
    have hCl := CN_len N s
    have hr := cn_range (s := s) hN hlt
    obtain ⟨c, hc⟩ : ∃ c : Nat, (CN N s).getD i 0 = (c : Int) := ⟨((CN N s).getD i 0).toNat, by omega⟩
    obtain ⟨o', t, g1, g2⟩ := rev_l1 hS d (i + 1) (o.set c (decide (Sg.getD i 0 = 0))) (by omega) (by omega) (by rw [List.length_set]; exact hl) (fun c' hc' => by
        rw [setB (by omega)] at hc'
        by_cases e : c = c'
        · exact ⟨i, by omega, by rw [← e]; exact hc⟩
        · rw [if_neg e] at hc'
          obtain ⟨j, a, b⟩ := h1 c' hc'
          exact ⟨j, by omega, b⟩) (fun c' j hj he => by
        rw [setB (by omega)]
        by_cases e : c = c'
        · exact ⟨i, by omega, by rw [← e]; exact hc, by rw [if_pos e]⟩
        · rw [if_neg e]
          have hji : j ≠ i := fun e2 => e (by rw [e2, hc] at he; omega)
          obtain ⟨j', a, b, c⟩ := h2 c' j (by omega) he
          exact ⟨j', by omega, b, c⟩)
    refine ⟨o', Tends2.step (fun K k => ?_) t, g1, g2⟩
    rw [impl_Triangulation_reversedEdges.l1, if_pos (by omega), if_pos (by omega), if_pos (by omega), Int.toNat_natCast, hc, if_pos (by omega), Int.toNat_natCast, w64_succ (by omega)]
end
def bdE (ts : List (List GFace)) (i f : Nat) : Prop := f < 4 ∧ EA (i % 6) ≠ f ∧ EB (i % 6) ≠ f ∧ (face ts (i / 6) f).Tet < 0
section
variable {ts : List (List GFace)} (hv : Val ts) {s : List Int} (hP : Parted (6 * ts.length) (JE ts) s) (hc : Tends (fun K => impl_Triangulation_edgeClasses.f K ts) (CN (6 * ts.length) s))
include hv hP hc
theorem reversed_t {Sg : List Int} (hS : Sg.length = 6 * ts.length) (hz : ∀ i j, i < 6 * ts.length → j < 6 * ts.length → (CN (6 * ts.length) s).getD i 0 = (CN (6 * ts.length) s).getD j 0 → (Sg.getD i 0 = 0 ↔ Sg.getD j 0 = 0)) (hs : Tends (fun K => impl_Triangulation_edgeSigns.f K ts) Sg) :
    ∃ o : List Bool, Tends (fun K => impl_Triangulation_reversedEdges.f K ts) o ∧ o.length = firstN s (6 * ts.length) ∧ ∀ j, j < 6 * ts.length → o.getD ((CN (6 * ts.length) s).getD j 0).toNat false = decide (Sg.getD j 0 = 0) := by
  have h8 := hv.le
  have hle := firstN_le s (6 * ts.length)
  have hrep : ∀ (m j : Nat), (List.replicate m false).getD j false = false := fun m j => by rw [List.getD_eq_getElem?_getD, List.getElem?_replicate]; split <;> rfl
  obtain ⟨o, t, l, h⟩ := rev_l1 (s := s) (N := 6 * ts.length) (by omega) hS (6 * ts.length) 0 (List.replicate (firstN s (6 * ts.length)) false) (by omega) (by omega) (by simp) (fun c hc' => by rw [hrep] at hc'; cases hc') (fun c j hj => by omega)
  refine ⟨o, Tends.bind hc (Tends.bind (count_c (by omega)) (Tends.pos (by omega) (Tends.pos (by omega) (Tends.bind hs ?_)))), l, fun j hj => ?_⟩
  · rw [Int.toNat_natCast]; exact t.diag
  · obtain ⟨j', a, b, c⟩ := h j hj
    rw [c]
    exact decide_eq_decide.2 (hz j' j a hj b)
theorem bd_l4 {i : Nat} (hi : i < 6 * ts.length) {f g : Nat} (ho : OT [EA (i % 6), EB (i % 6)] = [f, g]) {c : Nat} (hci : (CN (6 * ts.length) s).getD i 0 = (c : Int)) (hcl : c < firstN s (6 * ts.length)) {o : List Bool} (hl : o.length = firstN s (6 * ts.length)) :
    ∃ o', o'.length = firstN s (6 * ts.length) ∧ (∀ c', c' ≠ c → o'.getD c' false = o.getD c' false) ∧ (o'.getD c false = true ↔ o.getD c false = true ∨ ∃ f, bdE ts i f) ∧
      ∀ R, Tends2 (fun K k => impl_Triangulation_boundaryEdges.l1 K k ts (CN (6 * ts.length) s) o' ((i + 1 : Nat) : Int)) R → Tends2 (fun K k => impl_Triangulation_boundaryEdges.l4 K k ts (CN (6 * ts.length) s) (i : Int) (ints (OT [EA (i % 6), EB (i % 6)])) o 0) R := by
  have h8 := hv.le
  have hle := firstN_le s (6 * ts.length)
  have he : i % 6 < 6 := by omega
  have hw : w64 ((i : Int).tdiv 6) = ((i / 6 : Nat) : Int) := by rw [tdiv6, w64_id (by omega) (by omega)]
  have h4 := hv.four (i / 6) (by omega)
  obtain ⟨f', g', ho', hf, hg, a1, a2, b1, b2⟩ := OT_two he
  rw [ho] at ho'
  injection ho' with e1 e2
  injection e2 with e2 _
  subst e1; subst e2
  -- one face
  have one : ∀ (x y : Nat) (o : List Bool), x < 2 → [f, g].getD x 0 = y → y < 4 → o.length = firstN s (6 * ts.length) → ∃ o', o'.length = firstN s (6 * ts.length) ∧ (∀ c', c' ≠ c → o'.getD c' false = o.getD c' false) ∧ (o'.getD c false = true ↔ o.getD c false = true ∨ (face ts (i / 6) y).Tet < 0) ∧
      ∀ R, Tends2 (fun K k => impl_Triangulation_boundaryEdges.l4 K k ts (CN (6 * ts.length) s) (i : Int) (ints [f, g]) o' ((x + 1 : Nat) : Int)) R → Tends2 (fun K k => impl_Triangulation_boundaryEdges.l4 K k ts (CN (6 * ts.length) s) (i : Int) (ints [f, g]) o (x : Int)) R := by
    intro x y o hx hy hy4 hl
    have hxy : (ints [f, g]).getD x 0 = (y : Int) := by rw [ints_get (by simpa using hx), hy]
    have hlen : (ints [f, g]).length = 2 := rfl
    by_cases hc1 : o.getD c false = true
    · refine ⟨o.set c true, by rw [List.length_set]; exact hl, fun c' hc' => by rw [setB (by omega), if_neg (fun e => hc' e.symm)], by rw [setB (by omega), if_pos rfl]; exact ⟨fun _ => .inl hc1, fun _ => rfl⟩, fun R hR => Tends2.step (fun K k => ?_) hR⟩
      rw [impl_Triangulation_boundaryEdges.l4, if_pos (by omega), if_pos (by omega), Int.toNat_natCast, hci, if_pos (by omega), Int.toNat_natCast, if_pos hc1, w64_succ (by omega)]
    · refine ⟨o.set c (decide ((face ts (i / 6) y).Tet < 0)), by rw [List.length_set]; exact hl, fun c' hc' => by rw [setB (by omega), if_neg (fun e => hc' e.symm)], by rw [setB (by omega), if_pos rfl, decide_eq_true_eq]; exact ⟨fun h => .inr h, fun h => h.resolve_left hc1⟩, fun R hR => Tends2.step (fun K k => ?_) hR⟩
      rw [impl_Triangulation_boundaryEdges.l4, if_pos (by omega), if_pos (by omega), Int.toNat_natCast, hci, if_pos (by omega), Int.toNat_natCast, if_neg hc1, hw, Int.toNat_natCast, if_pos (by omega), Int.toNat_natCast, hxy, Int.toNat_natCast, if_pos (by omega), bnd_eq, w64_succ (by omega)]
      rfl
  obtain ⟨o1, l1, p1, q1, t1⟩ := one 0 f o (by decide) rfl hf hl
  obtain ⟨o2, l2, p2, q2, t2⟩ := one 1 g o1 (by decide) rfl hg l1
  refine ⟨o2, l2, fun c' hc' => (p2 c' hc').trans (p1 c' hc'), ?_, fun R hR => ?_⟩
  · rw [q2, q1]
    constructor
    · rintro ((h | h) | h)
      · exact .inl h
      · exact .inr ⟨f, hf, a1, a2, h⟩
      · exact .inr ⟨g, hg, b1, b2, h⟩
    · rintro (h | ⟨x, hx, n1, n2, h⟩)
      · exact .inl (.inl h)
      · have hmem : x ∈ OT [EA (i % 6), EB (i % 6)] := by
          unfold OT
          refine List.mem_filter.2 ⟨?_, ?_⟩
          · have : x = 0 ∨ x = 1 ∨ x = 2 ∨ x = 3 := by omega
            rcases this with rfl | rfl | rfl | rfl <;> decide
          · simp [n1.symm, n2.symm]
        rw [ho] at hmem
        rcases List.mem_cons.1 hmem with e | hmem
        · subst e; exact .inl (.inr h)
        · rw [List.mem_singleton.1 hmem] at h; exact .inr h
  · rw [ho]
    refine t1 R (t2 R (Tends2.step (fun K k => ?_) hR))
    have hlen : (ints [f, g]).length = 2 := rfl
    rw [impl_Triangulation_boundaryEdges.l4, if_neg (by rw [hlen]; decide), w64_succ (by omega)]
theorem bd_l1 : ∀ (d i : Nat) (o : List Bool), 6 * ts.length - i = d → i ≤ 6 * ts.length → o.length = firstN s (6 * ts.length) → (∀ c : Nat, o.getD c false = true ↔ ∃ j, j < i ∧ (CN (6 * ts.length) s).getD j 0 = (c : Int) ∧ ∃ f, bdE ts j f) →
    ∃ o', Tends2 (fun K k => impl_Triangulation_boundaryEdges.l1 K k ts (CN (6 * ts.length) s) o (i : Int)) o' ∧ o'.length = firstN s (6 * ts.length) ∧ ∀ c : Nat, o'.getD c false = true ↔ ∃ j, j < 6 * ts.length ∧ (CN (6 * ts.length) s).getD j 0 = (c : Int) ∧ ∃ f, bdE ts j f
  | 0, i, o, hd, hi, hl, h => by
    obtain rfl : i = 6 * ts.length := by omega
    have hCl := CN_len (6 * ts.length) s
    exact ⟨o, Tends2.of fun K k => by rw [impl_Triangulation_boundaryEdges.l1, if_neg (by omega)], hl, h⟩
  | d + 1, i, o, hd, hi, hl, h => by
    have h8 := hv.le
    have hlt : i < 6 * ts.length := by omega
    have hCl := CN_len (6 * ts.length) s
    have hr := cn_range (s := s) (N := 6 * ts.length) (by omega) hlt
    obtain ⟨c, hcc⟩ : ∃ c : Nat, (CN (6 * ts.length) s).getD i 0 = (c : Int) := ⟨((CN (6 * ts.length) s).getD i 0).toNat, by omega⟩
    have he : i % 6 < 6 := by omega
    obtain ⟨q1, q2, q3⟩ := EAB he
    obtain ⟨f, g, ho, _⟩ := OT_two he
    obtain ⟨o1, l1, p1, p2, t1⟩ := bd_l4 hv hP hc hlt ho hcc (by omega) hl
    obtain ⟨o', t, g1, g2⟩ := bd_l1 d (i + 1) o1 (by omega) (by omega) l1 (fun c' => by
      by_cases e : c' = c
      · subst e
        rw [p2, h]
        constructor
        · rintro (⟨j, a, b⟩ | b)
          · exact ⟨j, by omega, b⟩
          · exact ⟨i, by omega, hcc, b⟩
        · rintro ⟨j, a, b, b'⟩
          by_cases e2 : j = i
          · subst e2; exact .inr b'
          · exact .inl ⟨j, by omega, b, b'⟩
      · rw [p1 c' e, h]
        constructor
        · rintro ⟨j, a, b⟩; exact ⟨j, by omega, b⟩
        · rintro ⟨j, a, b, b'⟩
          have : j ≠ i := fun e2 => e (by rw [e2, hcc] at b; omega)
          exact ⟨j, by omega, b, b'⟩)
    have ha4 : EA (i % 6) < 4 := by omega
    have hne : EA (i % 6) ≠ EB (i % 6) := by omega
    refine ⟨o', Tends2.step (fun K k => ?_) (Tends2.bind2 (F := fun K _ => impl_ends.f K ((i % 6 : Nat) : Int)) (G := fun K k t139 t140 => (impl_others.f K ([t139, t140] : List Int)).bind fun t146 => impl_Triangulation_boundaryEdges.l4 K k ts (CN (6 * ts.length) s) (i : Int) t146 o 0) (ends_t he).two (Tends2.bind (others2_t ha4 q2 hne).two (t1 _ t))), g1, g2⟩
    rw [impl_Triangulation_boundaryEdges.l1, if_pos (by omega), if_pos (by omega), tmod6]
theorem boundary_t : ∃ o : List Bool, Tends (fun K => impl_Triangulation_boundaryEdges.f K ts) o ∧ o.length = firstN s (6 * ts.length) ∧ ∀ c : Nat, o.getD c false = true ↔ ∃ j, j < 6 * ts.length ∧ (CN (6 * ts.length) s).getD j 0 = (c : Int) ∧ ∃ f, bdE ts j f := by
  have h8 := hv.le
  have hle := firstN_le s (6 * ts.length)
  have hrep : ∀ (m j : Nat), (List.replicate m false).getD j false = false := fun m j => by rw [List.getD_eq_getElem?_getD, List.getElem?_replicate]; split <;> rfl
  obtain ⟨o, t, l, h⟩ := bd_l1 hv hP hc (6 * ts.length) 0 (List.replicate (firstN s (6 * ts.length)) false) (by omega) (by omega) (by simp) (fun c => by rw [hrep]; exact ⟨fun h => (by cases h), fun ⟨j, hj, _⟩ => by omega⟩)
  refine ⟨o, Tends.bind hc (Tends.bind (count_c (by omega)) (Tends.pos (by omega) (Tends.pos (by omega) ?_))), l, h⟩
  rw [Int.toNat_natCast]; exact t.diag
end
end Go.Proofs.YtbjfinndngafoaaGreat
