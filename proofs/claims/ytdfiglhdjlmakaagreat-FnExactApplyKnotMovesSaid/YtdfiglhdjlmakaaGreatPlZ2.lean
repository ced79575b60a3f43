/-
  The circles that a removal leaves; the whole of both removals.
-/
import Derived.Test.YtdfiglhdjlmakaaGreatPlZ
set_option linter.unusedVariables false
set_option linter.unusedSimpArgs false
set_option linter.unusedSectionVars false
namespace Go.Proofs.YtdfiglhdjlmakaaGreat
open Go.RowKit
def allGone (o : List Bool) (f : List GEnd) (l : List Int) : Bool := l.all fun v => goneTo o f v.toNat
section
variable {xs : List GCrossing} (hn : xs.length ≤ 10) (hs : Signs xs) {f t : List GEnd} (hg : Good xs f t) (o : List Bool)
include hn hs hg
theorem on_all {b : Nat} (hb : b < 2 * xs.length) : On (2 * xs.length) (goneTo o t) (goneTo o f) (onArc xs t) (onArc xs t b) ↔ On (2 * xs.length) (goneTo o t) (goneTo o f) (onArc xs t) b := by
  have hw := on_wire hn hs hg o
  cases hG : goneTo o t b with
  | true => exact on_next hw hb hG
  | false =>
    have hf := on_fwd hn hs hg o hb
    exact ⟨fun _ => on_end hw hb hG, fun _ => ⟨onArc xs t b, 0, ⟨hf.1, hf.2.1.trans hG⟩, .refl⟩⟩
theorem on_it {a : Nat} (ha : a < 2 * xs.length) : ∀ i, On (2 * xs.length) (goneTo o t) (goneTo o f) (onArc xs t) (it (onArc xs t) i a) ↔ On (2 * xs.length) (goneTo o t) (goneTo o f) (onArc xs t) a
  | 0 => Iff.rfl
  | i + 1 => (on_all hn hs hg o (it_lt (on_turn hn hs hg) ha i)).trans (on_it ha i)
theorem cycle_start {a m s : Nat} (ha : a < 2 * xs.length) (h0 : 0 < m) (hm : it (onArc xs t) m a = a) (hs' : s < 2 * xs.length) : ∀ {i b : Nat}, Way (goneTo o t) (onArc xs t) s i b → (∃ j, j < m ∧ b = it (onArc xs t) j a) → ∃ j, j < m ∧ s = it (onArc xs t) j a
  | 0, b, h, hb => by rw [← h.zero]; exact hb
  | i + 1, b, h, hb => by
    obtain ⟨c, h1, h2, rfl⟩ := h.succ
    exact cycle_start ha h0 hm hs' h1 (cycle_back (on_turn hn hs hg) ha h0 hm (h1.lt (on_wire hn hs hg o) hs') hb)
theorem cycle_gone {a m : Nat} (ha : a < 2 * xs.length) (h0 : 0 < m) (hm : it (onArc xs t) m a = a) : allGone o f (cyc (onArc xs t) m a) = true ↔ ¬ On (2 * xs.length) (goneTo o t) (goneTo o f) (onArc xs t) a := by
  have hmem : allGone o f (cyc (onArc xs t) m a) = true ↔ ∀ j, j < m → goneTo o f (it (onArc xs t) j a) = true := by
    unfold allGone cyc
    rw [List.all_eq_true]
    constructor
    · intro h j hj
      have := h _ (List.mem_map.2 ⟨j, List.mem_range.2 hj, rfl⟩)
      simpa using this
    · intro h v hv
      obtain ⟨j, hj, rfl⟩ := List.mem_map.1 hv
      rw [Int.toNat_natCast]
      exact h j (List.mem_range.1 hj)
  rw [hmem]
  constructor
  · rintro h ⟨s, i, hst, hway⟩
    obtain ⟨j, hj, e⟩ := cycle_start hn hs hg o ha h0 hm hst.1 hway ⟨0, h0, rfl⟩
    have := h j hj
    rw [← e, hst.2] at this
    cases this
  · intro h j hj
    cases hx : goneTo o f (it (onArc xs t) j a) with
    | true => rfl
    | false => exact absurd ((on_it hn hs hg o ha j).1 ⟨_, 0, ⟨it_lt (on_turn hn hs hg) ha j, hx⟩, .refl⟩) h
theorem circ_outer {A : List Int} (hA : A.length = 2 * xs.length) (hnA : ∀ a, a < 2 * xs.length → A.getD a 0 = (onArc xs t a : Int)) (name : List Int) (cs : Int) :
    ∀ (d a : Nat) (seen used : List Bool) (out : List (List Int)), 2 * xs.length - a = d → a ≤ 2 * xs.length → out.length ≤ a → seen.length = 2 * xs.length → used.length = 2 * xs.length → (∀ b, b < 2 * xs.length → seen.getD (onArc xs t b) false = seen.getD b false) →
      (∀ b, b < 2 * xs.length → (used.getD b false = true ↔ (seen.getD b false = true ∨ On (2 * xs.length) (goneTo o t) (goneTo o f) (onArc xs t) b))) →
      ∃ T : List (List Int), T.length ≤ d ∧ (∀ l, l ∈ T → l.length ≤ 1000 ∧ ∀ v, v ∈ l → ∃ b : Nat, v = (b : Int) ∧ b < 2 * xs.length) ∧ Tends2 (fun K k => impl_Diagram_strands.l1 K k xs cs f t out seen (a : Int)) (out ++ T) ∧
        ∀ (circ : Int) (F : List GCrossing × Int), Tends2 (fun K k => spec_l28Unite.l21 K k xs o name (addW circ (T.countP (allGone o f))) ([] : List GCrossing) 0) F → Tends2 (fun K k => spec_l28Unite.l15 K k xs o A name circ used (a : Int)) F
  | 0, a, seen, used, out, hd, ha, ho, hsl, hul, hcl, hus => by
    obtain rfl : a = 2 * xs.length := by omega
    have htl : t.length = 2 * xs.length := hg.tlen
    have hw2 : w64 (2 * (xs.length : Int)) = 2 * (xs.length : Int) := w64_id (by omega) (by omega)
    refine ⟨[], Nat.le_refl _, fun l h => absurd h (by simp), Tends2.succ (Tends2.congr (fun K k => ?_) (Tends2.const _)), fun circ F h => Tends2.succ (Tends2.congr (fun K k => ?_) h)⟩
    · rw [impl_Diagram_strands.l1, if_neg (by rw [List.length_replicate, htl]; omega), List.append_nil]
    · rw [spec_l28Unite.l15, hw2, if_neg (by omega)]
      rfl
  | d + 1, a, seen, used, out, hd, ha, ho, hsl, hul, hcl, hus => by
    have hal : a < 2 * xs.length := by omega
    have htl : t.length = 2 * xs.length := hg.tlen
    have hw2 : w64 (2 * (xs.length : Int)) = 2 * (xs.length : Int) := w64_id (by omega) (by omega)
    have hT := on_turn hn hs hg
    have hs1 : ∀ {F : List (List Int)}, Tends2 (fun K k => impl_Diagram_strands.l4 K k xs cs f t out (a : Int) seen ([] : List Int) (a : Int)) F → Tends2 (fun K k => impl_Diagram_strands.l1 K k xs cs f t out seen (a : Int)) F := fun h => by
      refine Tends2.succ (Tends2.congr (fun K k => ?_) h)
      rw [impl_Diagram_strands.l1, if_pos (by rw [List.length_replicate, htl]; omega)]
    have hsk : used.getD a false = true → ∀ {circ : Int} {F : List GCrossing × Int}, Tends2 (fun K k => spec_l28Unite.l15 K k xs o A name circ used ((a + 1 : Nat) : Int)) F → Tends2 (fun K k => spec_l28Unite.l15 K k xs o A name circ used (a : Int)) F := fun hu circ F h => by
      refine Tends2.succ (Tends2.congr (fun K k => ?_) h)
      rw [spec_l28Unite.l15, hw2, if_pos (by omega), if_pos (by omega), Int.toNat_natCast, if_pos hu, w64_succ (by omega)]
    by_cases hse : seen.getD a false = true
    · obtain ⟨T, h1, h2, h3, h4⟩ := circ_outer hA hnA name cs d (a + 1) seen used out (by omega) (by omega) (by omega) hsl hul hcl hus
      refine ⟨T, by omega, h2, hs1 (Tends2.succ (Tends2.congr (fun K k => ?_) h3)), fun circ F h => hsk ((hus a hal).2 (.inl hse)) (h4 circ F h)⟩
      rw [impl_Diagram_strands.l4, if_pos (by omega), Int.toNat_natCast, if_pos hse, if_neg (by simp), w64_succ (by omega)]
    · obtain ⟨m, h0, hmN, hm, hone⟩ := period hT hal
      have hun : ∀ j, seen.getD (it (onArc xs t) j a) false = false := by
        intro j
        induction j with
        | zero =>
          show seen.getD a false = false
          cases hx : seen.getD a false with
          | false => rfl
          | true => exact absurd hx hse
        | succ j ih => exact (hcl _ (it_lt hT hal j)).trans ih
      obtain ⟨new, hM⟩ := Marked.all hT hal hsl m
      have hclN : ∀ b, b < 2 * xs.length → new.getD (onArc xs t b) false = new.getD b false := fun b hb => by
        have hb' := (hT.fwd b hb).1
        have e1 := hM.2 b hb
        have e2 := hM.2 _ hb'
        rw [hcl b hb] at e2
        have e3 : new.getD (onArc xs t b) false = true ↔ new.getD b false = true := by
          rw [e1, e2]
          exact ⟨fun h => h.imp id (cycle_back hT hal h0 hm hb), fun h => h.imp id (cycle_on hT h0 hm)⟩
        cases hx : new.getD (onArc xs t b) false <;> cases hy : new.getD b false
        · rfl
        · exact absurd (e3.2 hy) (by rw [hx]; decide)
        · exact absurd (e3.1 hx) (by rw [hy]; decide)
        · rfl
      have hcycl : (cyc (onArc xs t) m a).length ≤ 1000 ∧ ∀ v, v ∈ cyc (onArc xs t) m a → ∃ b : Nat, v = (b : Int) ∧ b < 2 * xs.length := by
        refine ⟨by unfold cyc; simp only [List.length_map, List.length_range]; omega, fun v hv => ?_⟩
        obtain ⟨j, _, rfl⟩ := List.mem_map.1 hv
        exact ⟨_, rfl, it_lt hT hal j⟩
      by_cases hon : On (2 * xs.length) (goneTo o t) (goneTo o f) (onArc xs t) a
      · obtain ⟨T, h1, h2, h3, h4⟩ := circ_outer hA hnA name cs d (a + 1) new used (out ++ [cyc (onArc xs t) m a]) (by omega) (by omega) (by simp only [List.length_append, List.length_singleton]; omega) hM.1 hul hclN (fun b hb => by
          rw [hus b hb, hM.2 b hb]
          constructor
          · rintro (h | h)
            · exact .inl (.inl h)
            · exact .inr h
          · rintro ((h | ⟨j, hj, rfl⟩) | h)
            · exact .inl h
            · exact .inr ((on_it hn hs hg o hal j).2 hon)
            · exact .inr h)
        have hnot : ¬ allGone o f (cyc (onArc xs t) m a) = true := fun h => (cycle_gone hn hs hg o hal h0 hm).1 h hon
        refine ⟨cyc (onArc xs t) m a :: T, by simp only [List.length_cons]; omega, fun l hl => ?_, hs1 ?_, fun circ F h => hsk ((hus a hal).2 (.inr hon)) (h4 circ F ?_)⟩
        · rcases List.mem_cons.1 hl with rfl | hl
          · exact hcycl
          · exact h2 l hl
        · refine strand_in hn hs hg hal h0 hmN hm hone (by omega) (fun j _ => hun j) (fun new' hM' => ?_) m 0 seen rfl (Nat.zero_le _) (Marked.none hsl)
          rw [hM'.unique hM]
          rw [List.append_assoc] at h3
          exact h3
        · rw [List.countP_cons_of_neg hnot] at h
          exact h
      · have hua : ¬ used.getD a false = true := fun h => ((hus a hal).1 h).elim hse hon
        have huu : ∀ j, used.getD (it (onArc xs t) j a) false = false := fun j => by
          cases hx : used.getD (it (onArc xs t) j a) false with
          | false => rfl
          | true =>
            rcases (hus _ (it_lt hT hal j)).1 hx with h | h
            · rw [hun j] at h; cases h
            · exact absurd ((on_it hn hs hg o hal j).1 h) hon
        obtain ⟨newU, hMU⟩ := Marked.all hT hal hul m
        obtain ⟨T, h1, h2, h3, h4⟩ := circ_outer hA hnA name cs d (a + 1) new newU (out ++ [cyc (onArc xs t) m a]) (by omega) (by omega) (by simp only [List.length_append, List.length_singleton]; omega) hM.1 hMU.1 hclN (fun b hb => by
          rw [hMU.2 b hb, hus b hb, hM.2 b hb]
          constructor
          · rintro ((h | h) | h)
            · exact .inl (.inl h)
            · exact .inr h
            · exact .inl (.inr h)
          · rintro ((h | h) | h)
            · exact .inl (.inl h)
            · exact .inr h
            · exact .inl (.inr h))
        have hall : allGone o f (cyc (onArc xs t) m a) = true := (cycle_gone hn hs hg o hal h0 hm).2 hon
        refine ⟨cyc (onArc xs t) m a :: T, by simp only [List.length_cons]; omega, fun l hl => ?_, hs1 ?_, fun circ F h => ?_⟩
        · rcases List.mem_cons.1 hl with rfl | hl
          · exact hcycl
          · exact h2 l hl
        · refine strand_in hn hs hg hal h0 hmN hm hone (by omega) (fun j _ => hun j) (fun new' hM' => ?_) m 0 seen rfl (Nat.zero_le _) (Marked.none hsl)
          rw [hM'.unique hM]
          rw [List.append_assoc] at h3
          exact h3
        · rw [List.countP_cons_of_pos hall] at h
          have hc := circle_in hn hs hg hA hnA (o := o) (name := name) (circ := circ) hal h0 hm hone (fun j _ => huu j) (F := F) (fun new' hM' => by
            rw [hM'.unique hMU]
            exact h4 _ F h) m 0 used rfl (Nat.zero_le _) (Marked.none hul)
          refine Tends2.succ (Tends2.congr (fun K k => ?_) hc)
          rw [spec_l28Unite.l15, hw2, if_pos (by omega), if_pos (by omega), Int.toNat_natCast, if_neg hua]
          rfl
variable {cr : List Int} (hcr : ∀ c, c < xs.length → Tends (fun K => slices_Contains_int64_int64.f K cr (c : Int)) (o.getD c false))
include hcr
theorem fn2_f {b : Nat} (hb : b < 2 * xs.length) : Tends (fun K => impl_Diagram_without_fn2_free.f K (b : Int) cr f t) (!goneTo o f b) := by
  obtain ⟨c, p, hc, hp, _, hog, hfe, _, _⟩ := place_from hn hs hg 0 (o := o) hb
  have hfl : (f.length : Int) = 2 * (xs.length : Int) := by rw [hg.flen]; omega
  unfold impl_Diagram_without_fn2_free.f
  refine Tends.pos (by omega) ?_
  rw [Int.toNat_natCast, hfe]
  refine Tends.bind (a := goneTo o f b) (Tends.bind (hcr c hc) (Tends.congr (fun K => congrArg some hog) (Tends.const _))) (Tends.const _)
theorem idx135 {l : List Int} (hl : l.length ≤ 1000) (hv : ∀ v, v ∈ l → ∃ b : Nat, v = (b : Int) ∧ b < 2 * xs.length) : ∀ (d i : Nat), l.length - i = d → i ≤ l.length → (∀ v, v ∈ l.take i → goneTo o f v.toNat = true) →
    ∃ r : Int, Tends2 (fun K k => slices_IndexFunc_int64_int64_135.l1 K k l cr f t (i : Int)) r ∧ (0 ≤ r ↔ allGone o f l = false)
  | 0, i, hd, hi, hm => by
    obtain rfl : i = l.length := by omega
    refine ⟨-1, Tends2.succ (Tends2.congr (fun K k => ?_) (Tends2.const _)), ?_⟩
    · rw [slices_IndexFunc_int64_int64_135.l1, if_neg (by omega)]
    · rw [List.take_length] at hm
      have : allGone o f l = true := List.all_eq_true.2 hm
      rw [this]
      exact ⟨fun h => absurd h (by decide), fun h => Bool.noConfusion h⟩
  | d + 1, i, hd, hi, hm => by
    have hlt : i < l.length := by omega
    have hmem : l.getD i 0 ∈ l := by rw [List.getD_eq_getElem?_getD, List.getElem?_eq_getElem hlt]; exact List.getElem_mem _
    obtain ⟨b, hb, hb2⟩ := hv _ hmem
    have hstep : ∀ K k, slices_IndexFunc_int64_int64_135.l1 K (k + 1) l cr f t (i : Int) = (impl_Diagram_without_fn2_free.f K (b : Int) cr f t).bind fun t18 => if t18 = true then some (i : Int) else slices_IndexFunc_int64_int64_135.l1 K k l cr f t ((i + 1 : Nat) : Int) := fun K k => by
      rw [slices_IndexFunc_int64_int64_135.l1, if_pos (by omega), if_pos (by omega), Int.toNat_natCast, hb, w64_succ (by omega)]
    cases hx : goneTo o f b with
    | false =>
      refine ⟨(i : Int), Tends2.succ (Tends2.congr hstep (Tends2.bind (fn2_f hn hs hg o hcr hb2).two ?_)), ?_⟩
      · rw [hx]; exact Tends2.pos rfl (Tends2.const _)
      · refine ⟨fun _ => ?_, fun _ => by omega⟩
        cases hal : allGone o f l with
        | false => rfl
        | true =>
          have := List.all_eq_true.1 hal _ hmem
          rw [hb, Int.toNat_natCast, hx] at this
          cases this
    | true =>
      obtain ⟨r, h1, h2⟩ := idx135 hl hv d (i + 1) (by omega) (by omega) (fun v hvm => by
        rw [List.take_add_one, List.mem_append] at hvm
        rcases hvm with h | h
        · exact hm v h
        · rw [List.getElem?_eq_getElem hlt] at h
          have : v = l[i] := by simpa using h
          have e : l[i] = (b : Int) := by rw [← hb, List.getD_eq_getElem?_getD, List.getElem?_eq_getElem hlt]; rfl
          rw [this, e, Int.toNat_natCast]; exact hx)
      refine ⟨r, Tends2.succ (Tends2.congr hstep (Tends2.bind (fn2_f hn hs hg o hcr hb2).two ?_)), h2⟩
      rw [hx]; exact Tends2.neg (by decide) h1
theorem count_l16 {T : List (List Int)} (hTl : T.length ≤ 1000) (hTm : ∀ l, l ∈ T → l.length ≤ 1000 ∧ ∀ v, v ∈ l → ∃ b : Nat, v = (b : Int) ∧ b < 2 * xs.length) (R : List GCrossing) :
    ∀ (d i : Nat) (circ : Int), T.length - i = d → i ≤ T.length → Tends2 (fun K k => impl_Diagram_without.l16 K k f t cr R T circ (i : Int)) (R, addW circ ((T.drop i).countP (allGone o f)))
  | 0, i, circ, hd, hi => by
    obtain rfl : i = T.length := by omega
    refine Tends2.succ (Tends2.congr (fun K k => ?_) (Tends2.const _))
    rw [impl_Diagram_without.l16, if_neg (by omega), List.drop_length]
    rfl
  | d + 1, i, circ, hd, hi => by
    have hlt : i < T.length := by omega
    have hmem : T.getD i [] ∈ T := by rw [List.getD_eq_getElem?_getD, List.getElem?_eq_getElem hlt]; exact List.getElem_mem _
    obtain ⟨hl1, hl2⟩ := hTm _ hmem
    obtain ⟨r, h1, h2⟩ := idx135 hn hs hg o hcr hl1 hl2 (T.getD i []).length 0 rfl (Nat.zero_le _) (fun v h => absurd h (by simp))
    have hdr : T.drop i = T.getD i [] :: T.drop (i + 1) := by
      rw [List.drop_eq_getElem_cons hlt, List.getD_eq_getElem?_getD, List.getElem?_eq_getElem hlt]; rfl
    have hcf : Tends (fun K => slices_ContainsFunc_int64_int64_135.f K (T.getD i []) cr f t) (decide (0 ≤ r)) := Tends.bind (a := r) (Tends.congr (fun K => rfl) h1.diag) (Tends.const _)
    have hstep : ∀ K k, impl_Diagram_without.l16 K (k + 1) f t cr R T circ (i : Int) = (slices_ContainsFunc_int64_int64_135.f K (T.getD i []) cr f t).bind fun t772 => if t772 = true then impl_Diagram_without.l16 K k f t cr R T circ ((i + 1 : Nat) : Int) else impl_Diagram_without.l16 K k f t cr R T (w64 (circ + 1)) ((i + 1 : Nat) : Int) := fun K k => by
      rw [impl_Diagram_without.l16, if_pos (by omega), if_pos (by omega), Int.toNat_natCast, w64_succ (j := i) (by omega)]
    refine Tends2.succ (Tends2.congr hstep (Tends2.bind hcf.two ?_))
    rw [hdr]
    cases hal : allGone o f (T.getD i []) with
    | false =>
      rw [List.countP_cons_of_neg (by rw [hal]; decide)]
      exact Tends2.pos (decide_eq_true (h2.2 hal)) (count_l16 hTl hTm R d (i + 1) circ (by omega) (by omega))
    | true =>
      rw [List.countP_cons_of_pos hal]
      refine Tends2.neg ?_ (count_l16 hTl hTm R d (i + 1) (w64 (circ + 1)) (by omega) (by omega))
      intro h
      have := h2.1 (of_decide_eq_true h)
      rw [hal] at this
      cases this
theorem removals (ho : o.length = xs.length) (cs : Int) : ∃ (ys : List GCrossing) (c' : Int), ys.length ≤ xs.length ∧ Tends (fun K => impl_Diagram_without.f K xs cs f t cr) (ys, c') ∧ ∀ {A : List Int}, A.length = 2 * xs.length → (∀ a, a < 2 * xs.length → A.getD a 0 = (onArc xs t a : Int)) → Tends (fun K => spec_l28Unite.f K xs cs o A) (ys, c') := by
  have hw := on_wire hn hs hg o
  have hfl : (f.length : Int) = 2 * (xs.length : Int) := by rw [hg.flen]; omega
  have htl : t.length = 2 * xs.length := hg.tlen
  -- which circles there are does not hang on the names
  have hcirc : ∃ T : List (List Int), T.length ≤ 2 * xs.length ∧ (∀ l, l ∈ T → l.length ≤ 1000 ∧ ∀ v, v ∈ l → ∃ b : Nat, v = (b : Int) ∧ b < 2 * xs.length) ∧ Tends (fun K => impl_Diagram_strands.f K xs cs f t) T ∧
      ∀ {A : List Int}, A.length = 2 * xs.length → (∀ a, a < 2 * xs.length → A.getD a 0 = (onArc xs t a : Int)) → ∀ name used, Named xs (goneTo o t) (goneTo o f) (onArc xs t) (On (2 * xs.length) (goneTo o t) (goneTo o f) (onArc xs t)) name used → ∀ (F : List GCrossing × Int), Tends2 (fun K k => spec_l28Unite.l21 K k xs o name (addW cs (T.countP (allGone o f))) ([] : List GCrossing) 0) F → Tends2 (fun K k => spec_l28Unite.l15 K k xs o A name cs used 0) F := by
    have hrep : ∀ b, b < 2 * xs.length → (List.replicate (2 * xs.length) false).getD (onArc xs t b) false = (List.replicate (2 * xs.length) false).getD b false := fun b hb => by rw [getD_repB, getD_repB]
    -- a list of the arcs straight on
    let A0 : List Int := (List.range (2 * xs.length)).map fun a => (onArc xs t a : Int)
    have hA0 : A0.length = 2 * xs.length := by simp [A0]
    have hA0n : ∀ a, a < 2 * xs.length → A0.getD a 0 = (onArc xs t a : Int) := fun a ha => by
      rw [List.getD_eq_getElem?_getD, List.getElem?_map, List.getElem?_range ha]; rfl
    have hmk : ∀ (name : List Int) (used : List Bool), used.length = 2 * xs.length → (∀ b, b < 2 * xs.length → (used.getD b false = true ↔ On (2 * xs.length) (goneTo o t) (goneTo o f) (onArc xs t) b)) → ∀ {A : List Int}, A.length = 2 * xs.length → (∀ a, a < 2 * xs.length → A.getD a 0 = (onArc xs t a : Int)) → _ := fun name used hul hus A hA hnA => circ_outer hn hs hg o hA hnA name cs (2 * xs.length) 0 (List.replicate (2 * xs.length) false) used [] rfl (Nat.zero_le _) (Nat.le_refl _) (by simp) hul hrep (fun b hb => by
      rw [hus b hb, getD_repB]
      exact ⟨.inr, fun h => h.elim (fun h => Bool.noConfusion h) id⟩)
    obtain ⟨U, hUl, hU⟩ : ∃ U : List Bool, U.length = 2 * xs.length ∧ ∀ b, b < 2 * xs.length → (U.getD b false = true ↔ On (2 * xs.length) (goneTo o t) (goneTo o f) (onArc xs t) b) := by
      classical
      refine ⟨(List.range (2 * xs.length)).map fun b => decide (On (2 * xs.length) (goneTo o t) (goneTo o f) (onArc xs t) b), by simp, fun b hb => ?_⟩
      rw [List.getD_eq_getElem?_getD, List.getElem?_map, List.getElem?_range hb]
      simp
    obtain ⟨T, h1, h2, h3, _⟩ := hmk [] U hUl hU hA0 hA0n
    refine ⟨T, h1, h2, ?_, fun {A} hA hnA name used hnm F h => ?_⟩
    · unfold impl_Diagram_strands.f
      refine Tends.pos (by omega) (Tends.pos (by omega) ?_)
      rw [Int.toNat_natCast, htl]
      exact h3.diag
    · obtain ⟨T', h1', h2', h3', h4'⟩ := hmk name used hnm.ulen hnm.use hA hnA
      have e : T' = T := by
        obtain ⟨n1, e1⟩ := h3
        obtain ⟨n2, e2⟩ := h3'
        have := (e1 (n1 + n2) (n1 + n2) (by omega) (by omega)).symm.trans (e2 (n1 + n2) (n1 + n2) (by omega) (by omega))
        simpa using this.symm
      rw [e] at h4'
      exact h4' cs F h
  obtain ⟨T, hT1, hT2, hT3, hT4⟩ := hcirc
  have hrl := rest_len (xs := xs) (o := o) (2 * xs.length) (goneTo o t) (goneTo o f) (onArc xs t) xs.length
  refine ⟨rest xs o (2 * xs.length) (goneTo o t) (goneTo o f) (onArc xs t) xs.length, addW cs (T.countP (allGone o f)), hrl, ?_, fun {A} hA hnA => ?_⟩
  · unfold impl_Diagram_without.f impl_size_impl_end.f
    refine Tends.bind2 (a := xs) (b := cs) (Tends.congr (fun K => ?_) (Tends.const _)) ?_
    · unfold impl_copyDiagram.f
      rw [clone_eq (xs := xs) (by omega)]
      rfl
    · rw [hfl]
      refine Tends.bind (repeat_int (-1) hn) (Tends.some_ ?_)
      have e : 2 * (xs.length : Int) = (t.length : Int) := by rw [hg.tlen]; omega
      rw [e]
      have h := without_l1 hn hs hg ho hw hcr (fun cs a ha _ => next_impl hn hs hg cs ha) (cs := cs) (F := (rest xs o (2 * xs.length) (goneTo o t) (goneTo o f) (onArc xs t) xs.length, addW cs (T.countP (allGone o f)))) (fun work numbers hm => ?_) (2 * xs.length) 0 xs (List.replicate (2 * xs.length) (-1)) rfl (Nat.zero_le _) ⟨by simp, ⟨rfl, fun _ _ => rfl⟩, fun s h _ => absurd h (Nat.not_lt_zero _), fun _ _ _ => rfl, fun q s i _ _ h => absurd h (Nat.not_lt_zero _)⟩
      · exact h.diag
      · refine without_l13 hn hs hg ho hw hcr (fun cs a ha _ => next_impl hn hs hg cs ha) hm ?_ xs.length 0 rfl (Nat.zero_le _)
        refine Tends2.bind (Tends.two hT3) ?_
        have hc := count_l16 hn hs hg o hcr (T := T) (by omega) hT2 (rest xs o (2 * xs.length) (goneTo o t) (goneTo o f) (onArc xs t) xs.length) T.length 0 cs rfl (Nat.zero_le _)
        exact hc
  · refine unite_f hn hs hg ho hA hw (fun a ha _ => hnA a ha) (fun name used hnm => hT4 hA hnA name used hnm _ ?_)
    exact unite_l21 hn hs hg ho hA hw (fun a ha _ => hnA a ha) hnm _ xs.length 0 rfl (Nat.zero_le _)
end
end Go.Proofs.YtdfiglhdjlmakaaGreat
