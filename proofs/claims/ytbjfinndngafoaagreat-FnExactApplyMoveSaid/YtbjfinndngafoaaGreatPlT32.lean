/-
  A change, as the program makes it: the outer faces.
  A change in both: the same triangulation.
  The changes of the four kinds of moves.
  The changes of the moves 3-2 and 4-1.
  ApplyMove in both.
  Marks of lists, in general: what marking leaves is found again.
  Marks of triangulations: what marking leaves is found again.
-/
import Derived.Test.YtbjfinndngafoaaGreatPlT38
set_option linter.unusedVariables false
set_option linter.unusedSimpArgs false
set_option linter.unusedSectionVars false
namespace Go.Proofs.YtbjfinndngafoaaGreat
open Go.RowKit
theorem Ul : ∀ (l : List En) (m : List (Gd × Dn)) (x f : Nat), (∀ e e', e ∈ l → e' ∈ l → e.x = e'.x → e.f = e'.f → e = e') →
    (∀ e, e ∈ l → e.x = x → e.f = f → Iu ((l.map En.g).foldl I4 m) ⟨(x : Int), (f : Int)⟩ = some ⟨(e.i : Int), (e.p : Int)⟩) ∧ ((∀ e, e ∈ l → ¬ (e.x = x ∧ e.f = f)) → Iu ((l.map En.g).foldl I4 m) ⟨(x : Int), (f : Int)⟩ = Iu m ⟨(x : Int), (f : Int)⟩)
  | [], m, x, f, _ => ⟨fun e h => (List.not_mem_nil h).elim, fun _ => rfl⟩
  | a :: l, m, x, f, hk => by
    obtain ⟨h1, h2⟩ := Ul l (I4 m a.g) x f (fun e e' h h' => hk e e' (List.mem_cons_of_mem _ h) (List.mem_cons_of_mem _ h'))
    have hput : Iu (I4 m a.g) ⟨(x : Int), (f : Int)⟩ = if x = a.x ∧ f = a.f then some ⟨(a.i : Int), (a.p : Int)⟩ else Iu m ⟨(x : Int), (f : Int)⟩ := by
      unfold I4 En.g
      rw [Np]
      by_cases e : x = a.x ∧ f = a.f
      · rw [if_pos e, if_pos (by rw [e.1, e.2])]
      · rw [if_neg e, if_neg (fun q => by
          injection q with q1 q2
          have q1 : (x : Int) = (a.x : Int) := q1
          have q2 : (f : Int) = (a.f : Int) := q2
          exact e ⟨by omega, by omega⟩)]
    refine ⟨fun e he hx hf => ?_, fun hn => ?_⟩
    · show Iu ((l.map En.g).foldl I4 (I4 m a.g)) _ = _
      by_cases hin : ∃ e', e' ∈ l ∧ e'.x = x ∧ e'.f = f
      · obtain ⟨e', k1, k2, k3⟩ := hin
        rw [h1 e' k1 k2 k3, hk e' e (List.mem_cons_of_mem _ k1) he (by omega) (by omega)]
      · rw [h2 (fun e' k1 k2 => hin ⟨e', k1, k2⟩), hput]
        rcases List.mem_cons.1 he with rfl | he
        · rw [if_pos ⟨hx.symm, hf.symm⟩]
        · exact (hin ⟨e, he, hx, hf⟩).elim
    · show Iu ((l.map En.g).foldl I4 (I4 m a.g)) _ = _
      rw [h2 (fun e' k1 => hn e' (List.mem_cons_of_mem _ k1)), hput, if_neg (fun q => hn a (List.mem_cons_self ..) ⟨q.1.symm, q.2.symm⟩)]
def Pi (ts : List (List Ab)) (old : List Nat) (es : List En) (x f r c : Nat) : Prop :=
  ∃ x' f' p', (x < x' ∨ (x = x' ∧ f ≤ f')) ∧ x' < ts.length ∧ f' < 4 ∧ plc ts.length old es x' f' = some (r, p') ∧ c = PA p' f' ∧ ¬ (Bv ts x' f').Tet < 0
section
variable {ts : List (List Ab)} (hv : Val ts) {old : List Nat} {es : List En} {fr : List (List Ab)} {inn : List Fg} {nf : Nat} (hol : old.length ≤ 10) (hn4 : nf ≤ 4) (hg : Chg ts old es nf)
include hv hol hn4 hg
theorem Zf {x f r p : Nat} (hx : x < ts.length) (h : plc ts.length old es x f = some (r, p)) : Cj.f (x : Int) (f : Int) (ints old) ((es.map En.g).foldl I4 []) (nf : Int) inn (kept old ts.length : Int) (yL old ts.length ts.length) = some ((r : Int), (p : Int)) := by
  have h8 := hv.le
  have hkn := Ju old ts.length
  obtain ⟨m1, m2⟩ := Ul es [] x f hg.key
  unfold Cj.f
  simp only [Fv]
  rcases Jh hg h with ⟨a1, a2, a3⟩ | ⟨e, a1, a2, a3, a4, a5⟩
  · have hno : ∀ e, e ∈ es → ¬ (e.x = x ∧ e.f = f) := fun e he q => a1 (by rw [← q.1]; exact (hg.en e he).1)
    rw [m2 hno]
    show (if false = true then _ else _) = _
    rw [if_neg (by decide), if_pos (by rw [M7]; omega), Int.toNat_natCast, Pt hx, if_pos ⟨hx, a1⟩, a2, a3]; rfl
  · have hi := (hg.en e a1).2.2.1
    rw [m1 e a1 a2 a3]
    show (if true = true then some (w64 ((kept old ts.length : Int) + (e.i : Int)), (e.p : Int)) else _) = _
    rw [if_pos rfl, Gh (by omega) (by omega), a4, a5, show (kept old ts.length : Int) + (e.i : Int) = ((kept old ts.length + e.i : Nat) : Int) by omega]
theorem Qs {x : Nat} (hx : x < ts.length) : ∀ (d f : Nat) (L : List (List Ab)), 4 - f = d → f ≤ 4 → Shape L (kept old ts.length + nf) → (∀ r c, r < kept old ts.length + nf → c < 4 → Ex ts old es fr r c (Bv L r c) ∨ Pi ts old es x f r c) →
    ∃ L', Shape L' (kept old ts.length + nf) ∧ (∀ r c, r < kept old ts.length + nf → c < 4 → Ex ts old es fr r c (Bv L' r c) ∨ Pi ts old es (x + 1) 0 r c) ∧ ∀ R, Aa (fun K k => Ae.Sw K k ts (ints old) ((es.map En.g).foldl I4 []) (nf : Int) inn (yL old ts.length ts.length) (kept old ts.length : Int) (ts.length : Int) L' ((x + 1 : Nat) : Int)) R →
      Aa (fun K k => Ae.Sa K k ts (ints old) ((es.map En.g).foldl I4 []) (nf : Int) inn (yL old ts.length ts.length) (kept old ts.length : Int) (ts.length : Int) (x : Int) L (f : Int)) R
  | 0, f, L, hd, hf, hs, hL => by
    have h8 := hv.le
    refine ⟨L, hs, fun r c hr hc => (hL r c hr hc).imp id ?_, fun R h => Aa.step (fun K k => ?_) h⟩
    · rintro ⟨x', f', p', h1, h2, h3, h4⟩
      exact ⟨x', f', p', by omega, h2, h3, h4⟩
    · rw [Ae.Sa, if_neg (by omega), Ba (by omega)]
  | d + 1, f, L, hd, hf, hs, hL => by
    have h8 := hv.le
    have hkn := Ju old ts.length
    have hf4 : f < 4 := by omega
    have hr4 := hv.four x hx
    -- skipping: nothing that is pending is lost
    have skip : ((Bv ts x f).Tet < 0 ∨ plc ts.length old es x f = none) → ∀ r c, r < kept old ts.length + nf → c < 4 → Ex ts old es fr r c (Bv L r c) ∨ Pi ts old es x (f + 1) r c := fun hn r c hr hc => (hL r c hr hc).imp id (by
      rintro ⟨x', f', p', h1, h2, h3, h4, h5, h6⟩
      refine ⟨x', f', p', ?_, h2, h3, h4, h5, h6⟩
      by_cases e : x = x' ∧ f = f'
      · obtain ⟨e1, e2⟩ := e
        subst e1; subst e2
        rcases hn with hn | hn
        · exact (h6 hn).elim
        · rw [hn] at h4; cases h4
      · omega)
    by_cases hn : (Bv ts x f).Tet < 0
    · obtain ⟨L', k1, k2, k3⟩ := Qs hx d (f + 1) L (by omega) (by omega) hs (skip (.inl hn))
      refine ⟨L', k1, k2, fun R h => ?_⟩
      have := k3 R h
      refine Aa.succ ?_
      simp only [Ae.Sa, Int.toNat_natCast, Fv]
      refine Aa.pos (by omega) (Aa.pos (by omega) (Aa.pos (by omega) ?_))
      refine Aa.bind (a := true) (Aa.congr (G := fun _ _ => some true) (fun K k => congrArg some (decide_eq_true hn)) (Aa.const _)) (Aa.pos rfl ?_)
      refine Aa.step (fun K k => ?_) this
      rw [Ae.Sv, if_pos rfl, Ba (by omega)]
    · have hb0 : ∀ (K : Nat), Bn.f ((ts.getD x []).getD f Bb).Tet ((ts.getD x []).getD f Bb).Perm = some false := fun K => congrArg some (decide_eq_false hn)
      -- the entry into the step, with the flag
      have enter : ∀ (R : List (List Ab)) (fl : Bool), fl = decide (plc ts.length old es x f = none) → Aa (fun K k => Ae.Sv K k ts (ints old) ((es.map En.g).foldl I4 []) (nf : Int) inn (yL old ts.length ts.length) (kept old ts.length : Int) (ts.length : Int) (x : Int) L (f : Int) ((ts.getD x []).getD f Bb) fl) R →
          Aa (fun K k => Ae.Sa K k ts (ints old) ((es.map En.g).foldl I4 []) (nf : Int) inn (yL old ts.length ts.length) (kept old ts.length : Int) (ts.length : Int) (x : Int) L (f : Int)) R := fun R fl hfl h => by
        refine Aa.succ ?_
        simp only [Ae.Sa, Int.toNat_natCast, Fv]
        refine Aa.pos (by omega) (Aa.pos (by omega) (Aa.pos (by omega) ?_))
        refine Aa.bind (a := false) (Aa.congr (G := fun _ _ => some false) (fun K k => hb0 K) (Aa.const _)) (Aa.neg (by decide) ?_)
        refine Aa.bind (Po (by omega) x).two ?_
        obtain ⟨m1, m2⟩ := Ul es [] x f hg.key
        by_cases hin : x ∈ old
        · refine Aa.pos (decide_eq_true hin) ?_
          cases hp : plc ts.length old es x f with
          | none =>
            rw [m2 (Wj hg hp).2]
            rw [hp] at hfl
            subst hfl
            exact h
          | some rp =>
            obtain ⟨r, p⟩ := rp
            rcases Jh hg hp with ⟨a1, _⟩ | ⟨e, a1, a2, a3, _⟩
            · exact (a1 hin).elim
            · rw [m1 e a1 a2 a3]
              rw [hp] at hfl
              subst hfl
              exact h
        · refine Aa.neg (by rw [decide_eq_true_eq]; exact hin) ?_
          rw [Lt hin] at hfl
          subst hfl
          exact h
      cases hp : plc ts.length old es x f with
      | none =>
        obtain ⟨L', k1, k2, k3⟩ := Qs hx d (f + 1) L (by omega) (by omega) hs (skip (.inr hp))
        refine ⟨L', k1, k2, fun R h => enter R true (by rw [hp]; rfl) ?_⟩
        refine Aa.step (fun K k => ?_) (k3 R h)
        rw [Ae.Sv, if_pos rfl, Ba (by omega)]
      | some rp =>
        obtain ⟨r, p⟩ := rp
        rcases Ea hv hx hf4 with ⟨c1, _⟩ | ⟨_, b, q, hb, hq, g2, hG⟩
        · exact (hn c1).elim
        obtain ⟨r', p', q1, q2, q3, q4, q5, q6, q7⟩ := partner hv hg hx hf4 hp hG
        obtain ⟨m1, m2, m3⟩ := PM3 q2 hq q3
        have hpf := D6 q2 hf4
        have hsl := hs.len
        have hsr := hs.row r q4
        have g4 := Rj (p := p) hf4
        rw [Int.toNat_natCast] at g4
        obtain ⟨L', k1, k2, k3⟩ := Qs hx d (f + 1) (Ow L r (PA p f) ⟨(r' : Int), (PM (PM (PI p) q) p' : Nat)⟩) (by omega) (by omega) (I7 hs) (fun r2 c2 hr2 hc2 => by
          rw [Mc hs q4 hpf]
          by_cases e : r2 = r ∧ c2 = PA p f
          · rw [if_pos e]
            exact .inl (.inl ⟨x, f, p, hx, hf4, by rw [e.1]; exact hp, e.2, q6.symm⟩)
          · rw [if_neg e]
            refine (hL r2 c2 hr2 hc2).imp id ?_
            rintro ⟨x', f', p1, h1, h2, h3, h4, h5, h6⟩
            refine ⟨x', f', p1, ?_, h2, h3, h4, h5, h6⟩
            by_cases e2 : x = x' ∧ f = f'
            · obtain ⟨e3, e4⟩ := e2
              subst e3; subst e4
              rw [hp] at h4
              injection h4 with h4
              injection h4 with h4 h7
              subst h7
              exact (e ⟨h4.symm, h5⟩).elim
            · omega)
        refine ⟨L', k1, k2, fun R h => enter R false (by rw [hp]; rfl) ?_⟩
        have := k3 R h
        have g2' : (ts.getD x []).getD f Bb = ⟨b, q⟩ := g2
        rw [g2']
        refine Aa.succ ?_
        simp only [Ae.Sv]
        refine Aa.neg (by decide) ?_
        refine Aa.Eg (a := (r : Int)) (b := (p : Int)) (Aa.congr (G := fun _ _ => some ((r : Int), (p : Int))) (fun K k => Zf hv hol hn4 hg hx hp) (Aa.const _)) ?_
        refine Aa.bind (Rl (b : Int) hq hf4).two ?_
        refine Aa.Eg (a := (r' : Int)) (b := (p' : Int)) (Aa.congr (G := fun _ _ => some ((r' : Int), (p' : Int))) (fun K k => Zf hv hol hn4 hg hb q1) (Aa.const _)) ?_
        refine Aa.Eb (J9 q2).two ?_
        refine Aa.pos (by omega) (Aa.pos (by omega) ?_)
        refine Aa.bind (K3 q2).two ?_
        refine Aa.bind (Md (G9 q2) hq).two ?_
        refine Aa.bind (Md (Lc (G9 q2) hq) q3).two ?_
        simp only [Int.toNat_natCast, g4]
        refine Aa.pos (by omega) ?_
        rw [Ba (by omega)]
        exact this
theorem Y5 : ∀ (d x : Nat) (L : List (List Ab)), ts.length - x = d → x ≤ ts.length → Shape L (kept old ts.length + nf) → (∀ r c, r < kept old ts.length + nf → c < 4 → Ex ts old es fr r c (Bv L r c) ∨ Pi ts old es x 0 r c) →
    ∃ L', Shape L' (kept old ts.length + nf) ∧ (∀ r c, r < kept old ts.length + nf → c < 4 → Ex ts old es fr r c (Bv L' r c)) ∧ ∀ R, Aa (fun K k => Ae.U4 K k inn (kept old ts.length : Int) L' 0) R →
      Aa (fun K k => Ae.Sw K k ts (ints old) ((es.map En.g).foldl I4 []) (nf : Int) inn (yL old ts.length ts.length) (kept old ts.length : Int) (ts.length : Int) L (x : Int)) R
  | 0, x, L, hd, hx, hs, hL => by
    have h8 := hv.le
    refine ⟨L, hs, fun r c hr hc => (hL r c hr hc).resolve_right ?_, fun R h => Aa.step (fun K k => ?_) h⟩
    · rintro ⟨x', f', p', h1, h2, _⟩; omega
    · rw [Ae.Sw, if_neg (by omega)]
  | d + 1, x, L, hd, hx, hs, hL => by
    have h8 := hv.le
    obtain ⟨L1, a1, a2, a3⟩ := Qs (inn := inn) hv hol hn4 hg (show x < ts.length by omega) 4 0 L (by omega) (by omega) hs hL
    obtain ⟨L', k1, k2, k3⟩ := Y5 d (x + 1) L1 (by omega) (by omega) a1 a2
    refine ⟨L', k1, k2, fun R h => Aa.step (fun K k => ?_) (a3 R (k3 R h))⟩
    rw [Ae.Sw, if_pos (by omega)]; rfl
end
def En.a (e : En) : Fg := ⟨e.x, e.f, e.i, e.p⟩
structure Inn (fr : List (List Ab)) (W : List En) (nf : Nat) : Prop where
  ok : ∀ w, w ∈ W → w.x < nf ∧ w.f < 4 ∧ w.i < nf ∧ w.p < 24 ∧ Bv fr w.x w.f = ⟨(w.i : Int), (w.p : Int)⟩ ∧ Bv fr w.i (PA w.p w.f) = ⟨(w.x : Int), (PI w.p : Int)⟩
  all : ∀ i c, i < nf → c < 4 → 0 ≤ (Bv fr i c).Tet → ∃ w, w ∈ W ∧ ((w.x = i ∧ w.f = c) ∨ (w.i = i ∧ PA w.p w.f = c))
theorem En.uO {es : List En} {t : Nat} {e : En} (h : es[t]? = some e) : (es.map En.a).getD t bV = e.a := by rw [List.getD_eq_getElem?_getD, List.getElem?_map, h]; rfl
theorem Shape.ext {L L' : List (List Ab)} {m : Nat} (h : Shape L m) (h' : Shape L' m) (he : ∀ r c, r < m → c < 4 → Bv L r c = Bv L' r c) : L = L' := by
  have l1 := h.len
  have l2 := h'.len
  refine List.ext_getElem? fun r => ?_
  by_cases hr : r < m
  · rw [List.getElem?_eq_getElem (by omega), List.getElem?_eq_getElem (by omega)]
    congr 1
    have r1 := h.row r hr
    have r2 := h'.row r hr
    have e1 : L.getD r [] = L[r] := by rw [List.getD_eq_getElem?_getD, List.getElem?_eq_getElem (by omega)]; rfl
    have e2 : L'.getD r [] = L'[r] := by rw [List.getD_eq_getElem?_getD, List.getElem?_eq_getElem (by omega)]; rfl
    refine List.ext_getElem? fun c => ?_
    rw [e1] at r1
    rw [e2] at r2
    by_cases hc : c < 4
    · have := he r c hr hc
      unfold Bv at this
      rw [e1, e2, List.getD_eq_getElem?_getD, List.getD_eq_getElem?_getD, List.getElem?_eq_getElem (by omega), List.getElem?_eq_getElem (by omega)] at this
      rw [List.getElem?_eq_getElem (by omega), List.getElem?_eq_getElem (by omega)]
      exact congrArg some this
    · rw [List.getElem?_eq_none (by omega), List.getElem?_eq_none (by omega)]
  · rw [List.getElem?_eq_none (by omega), List.getElem?_eq_none (by omega)]
section
variable {ts : List (List Ab)} (hv : Val ts) {old : List Nat} {es : List En} {fr : List (List Ab)} {W : List En} {nf : Nat} (hol : old.length ≤ 10) (hn4 : nf ≤ 4) (hg : Chg ts old es nf) (hw : Inn fr W nf) (hwl : W.length ≤ 100)
include hv hol hn4 hg hw hwl
theorem Y0 : ∀ (d j : Nat) (L : List (List Ab)), W.length - j = d → j ≤ W.length → Shape L (kept old ts.length + nf) → (∀ r c, r < kept old ts.length + nf → c < 4 → Ex ts old es fr r c (Bv L r c) ∨ ∃ (t : Nat) (w : En), j ≤ t ∧ W[t]? = some w ∧ ((r = kept old ts.length + w.x ∧ c = w.f) ∨ (r = kept old ts.length + w.i ∧ c = PA w.p w.f))) →
    ∃ L', Shape L' (kept old ts.length + nf) ∧ (∀ r c, r < kept old ts.length + nf → c < 4 → Ex ts old es fr r c (Bv L' r c)) ∧ Aa (fun K k => Ae.U4 K k (W.map En.a) (kept old ts.length : Int) L (j : Int)) L'
  | 0, j, L, hd, hj, hs, hx => by
    refine ⟨L, hs, fun r c hr hc => (hx r c hr hc).resolve_right ?_, Aa.of fun K k => ?_⟩
    · rintro ⟨t, w, h1, h2, _⟩
      have := (En.get h2).1
      omega
    · rw [Ae.U4, List.length_map, if_neg (by omega)]
  | d + 1, j, L, hd, hj, hs, hx => by
    have h8 := hv.le
    have hkn := Ju old ts.length
    have hjl : j < W.length := by omega
    have hej : W[j]? = some W[j] := List.getElem?_eq_getElem hjl
    have hgt := En.uO hej
    have hmem : W[j] ∈ W := List.getElem_mem hjl
    generalize W[j] = w at hej hgt hmem
    obtain ⟨w1, w2, w3, w4, w5, w6⟩ := hw.ok w hmem
    have hpf := D6 w4 w2
    have q4 : kept old ts.length + w.x < kept old ts.length + nf := by omega
    have q5 : kept old ts.length + w.i < kept old ts.length + nf := by omega
    have hs2 : Shape (Ow (Ow L (kept old ts.length + w.x) w.f ⟨(kept old ts.length + w.i : Nat), (w.p : Int)⟩) (kept old ts.length + w.i) (PA w.p w.f) ⟨(kept old ts.length + w.x : Nat), (PI w.p : Nat)⟩) (kept old ts.length + nf) := I7 (I7 hs)
    obtain ⟨L', k1, k2, k3⟩ := Y0 d (j + 1) _ (by omega) (by omega) hs2 (fun r c hr hc => by
      rw [Mc (I7 hs) q5 hpf, Mc hs q4 w2]
      by_cases c1 : r = kept old ts.length + w.i ∧ c = PA w.p w.f
      · rw [if_pos c1]
        refine .inl (.inr (.inl ⟨by omega, ?_, ?_⟩)) <;> rw [c1.1, c1.2, show kept old ts.length + w.i - kept old ts.length = w.i by omega, w6]
        · show 0 ≤ (w.x : Int); omega
        · rw [show ((kept old ts.length + w.x : Nat) : Int) = (kept old ts.length : Int) + (w.x : Int) by omega]
      · rw [if_neg c1]
        by_cases c2 : r = kept old ts.length + w.x ∧ c = w.f
        · rw [if_pos c2]
          refine .inl (.inr (.inl ⟨by omega, ?_, ?_⟩)) <;> rw [c2.1, c2.2, show kept old ts.length + w.x - kept old ts.length = w.x by omega, w5]
          · show 0 ≤ (w.i : Int); omega
          · rw [show ((kept old ts.length + w.i : Nat) : Int) = (kept old ts.length : Int) + (w.i : Int) by omega]
        · rw [if_neg c2]
          refine (hx r c hr hc).imp id ?_
          rintro ⟨t, w', h1, h2, h3⟩
          refine ⟨t, w', ?_, h2, h3⟩
          by_cases e1 : t = j
          · subst e1
            rw [hej] at h2
            injection h2 with h2
            subst h2
            rcases h3 with h3 | h3
            · exact (c2 h3).elim
            · exact (c1 h3).elim
          · omega)
    refine ⟨L', k1, k2, ?_⟩
    have v1 : w64 ((kept old ts.length : Int) + (w.x : Int)) = ((kept old ts.length + w.x : Nat) : Int) := by rw [Gh (by omega) (by omega)]; omega
    have v2 : w64 ((kept old ts.length : Int) + (w.i : Int)) = ((kept old ts.length + w.i : Nat) : Int) := by rw [Gh (by omega) (by omega)]; omega
    refine Aa.succ ?_
    simp only [Ae.U4, List.length_map, Int.toNat_natCast, hgt, Fv, En.a, v1, v2]
    refine Aa.pos (by omega) (Aa.pos (by omega) ?_)
    refine Aa.bind (pF hs q4 w2 q5 w4).two ?_
    refine Aa.pos (by rw [hs2.len, hs.len]) ?_
    rw [Ba (by omega)]; exact k3
theorem aI : ∃ L, Shape L (kept old ts.length + nf) ∧ (∀ r c, r < kept old ts.length + nf → c < 4 → Ex ts old es fr r c (Bv L r c)) ∧ Ac (fun K => Ae.f K ts (ints old) ((es.map En.g).foldl I4 []) (nf : Int) (W.map En.a)) L := by
  have h8 := hv.le
  have hfr0 : ∀ i c, i < nf → c < 4 → (Bv (List.replicate nf Iq) i c).Tet < 0 := fun i c hi hc => by
    unfold Bv
    rw [List.getD_eq_getElem?_getD (l := List.replicate nf Iq), List.getElem?_replicate, if_pos hi, Option.getD_some, Nq hc]; decide
  obtain ⟨R1, a1, a2, a3⟩ := fE (m := (es.map En.g).foldl I4 []) (inn := W.map En.a) hv hol hn4 ts.length 0 [] rfl (by omega) ⟨rfl, fun r hr => by rw [kept] at hr; omega⟩ (fun y c hy => by omega)
  obtain ⟨R2, b1, b2, b3, b4⟩ := Zh (m := (es.map En.g).foldl I4 []) (inn := W.map En.a) hv hol hn4 nf 0 R1 rfl (by omega) a1 a2 (fun j c hj => by omega)
  obtain ⟨R3, c1, c2, c3⟩ := Y5 (fr := List.replicate nf Iq) (inn := W.map En.a) hv hol hn4 hg ts.length 0 R2 rfl (by omega) b1 (fun r c hr hc => by
    by_cases hrk : r < kept old ts.length
    · obtain ⟨x, x1, x2, x3⟩ := Rt hrk
      subst x3
      have hpl := Lt (n := ts.length) (es := es) (f := c) x2
      rw [b2 x c x1 x2 hc]
      rcases Ea hv x1 hc with ⟨g1, g3⟩ | ⟨g1, _⟩
      · refine .inl (.inl ⟨x, c, 0, x1, hc, hpl, (Mm hg hc).symm, ?_⟩)
        unfold val
        rw [if_pos g1, g3]
      · exact .inr ⟨x, c, 0, by omega, x1, hc, hpl, (Mm hg hc).symm, g1⟩
    · obtain ⟨i, hi⟩ : ∃ i, r = kept old ts.length + i := ⟨r - kept old ts.length, by omega⟩
      subst hi
      have hin : i < nf := by omega
      rw [b3 i c hin hc]
      by_cases hex : ∃ e, e ∈ es ∧ e.i = i ∧ PA e.p e.f = c
      · obtain ⟨e, z1, z2, z3⟩ := hex
        obtain ⟨eo, ef, ei, ep⟩ := hg.en e z1
        have hxn := hg.Xu _ eo
        have hpl := Yc hg (n := ts.length) z1
        by_cases g1 : (Bv ts e.x e.f).Tet < 0
        · refine .inl (.inl ⟨e.x, e.f, e.p, hxn, ef, by rw [hpl, z2], z3.symm, ?_⟩)
          unfold val
          rw [if_pos g1]
        · exact .inr ⟨e.x, e.f, e.p, by omega, hxn, ef, by rw [hpl, z2], z3.symm, g1⟩
      · refine .inl (.inr (.inr ⟨by omega, ?_, fun e he h => hex ⟨e, he, by omega, h.2⟩, rfl⟩))
        rw [show kept old ts.length + i - kept old ts.length = i by omega]; exact hfr0 i c hin hc)
  obtain ⟨L, d1, d2, d3⟩ := Y0 hv hol hn4 hg hw hwl W.length 0 R3 rfl (by omega) c1 (fun r c hr hc => by
    by_cases hin : kept old ts.length ≤ r ∧ 0 ≤ (Bv fr (r - kept old ts.length) c).Tet
    · obtain ⟨w, w1, w2⟩ := hw.all (r - kept old ts.length) c (by omega) hc hin.2
      obtain ⟨t, ht, h4⟩ := List.getElem_of_mem w1
      exact .inr ⟨t, w, Nat.zero_le _, by rw [List.getElem?_eq_getElem ht, h4], by omega⟩
    · left
      rcases c2 r c hr hc with h | ⟨h1, h2, h3⟩ | ⟨h1, h2, h3, h4⟩
      · exact .inl h
      · have := hfr0 (r - kept old ts.length) c (by omega) hc
        omega
      · exact .inr (.inr ⟨h1, by omega, h3, h4⟩))
  refine ⟨L, d1, d2, Ac.pos (by omega) (Ac.pos (by omega) ?_)⟩
  have := (a3 _ (b4 _ (c3 _ d3))).G8
  rw [gB] at this
  rw [Int.toNat_natCast]
  exact this
theorem Vs (hel : es.length ≤ 100) (hfs : Shape fr nf) (hff : ∀ i c, i < nf → c < 4 → (Bv fr i c).Tet < nf) (hfe : ∀ e, e ∈ es → (Bv fr e.i (PA e.p e.f)).Tet < 0) :
    ∃ L, Shape L (kept old ts.length + nf) ∧ (∀ r c, r < kept old ts.length + nf → c < 4 → Ex ts old es fr r c (Bv L r c)) ∧ Ac (fun K => Ao.f K ts (ints old) fr (es.map En.g)) L ∧ Ac (fun K => Ae.f K ts (ints old) ((es.map En.g).foldl I4 []) (nf : Int) (W.map En.a)) L := by
  obtain ⟨L1, a1, a2, a3⟩ := Z8 hv hol hn4 hel hg hfs hff hfe
  obtain ⟨L2, b1, b2, b3⟩ := aI hv hol hn4 hg hw hwl
  have e : L1 = L2 := a1.ext b1 fun r c hr hc => Ex.det hg hfe (a2 r c hr hc) (b2 r c hr hc)
  rw [← e] at b3
  exact ⟨L1, a1, a2, a3, b3⟩
end
structure Sch (S : List En) (k nf : Nat) : Prop where
  en : ∀ e, e ∈ S → e.x < k ∧ e.f < 4 ∧ e.i < nf ∧ e.p < 24
  key : ∀ e, e ∈ S → ∀ e', e' ∈ S → e.x = e'.x → e.f = e'.f → e = e'
  pos : ∀ e, e ∈ S → ∀ e', e' ∈ S → e.i = e'.i → PA e.p e.f = PA e'.p e'.f → e = e'
def O6 (T : Nat → Nat) (S : List En) : List En := S.map fun e => ⟨T e.x, e.f, e.i, e.p⟩
theorem Wi {l : List Nat} {y : Nat} (hy : y ∉ l) : ∀ n, kept (l ++ [y]) n + (if y < n then 1 else 0) = kept l n
  | 0 => rfl
  | n + 1 => by
    have ih := Wi hy n
    have hm : n ∈ l ++ [y] ↔ n ∈ l ∨ n = y := by rw [List.mem_append, List.mem_singleton]
    rw [kept, kept]
    by_cases e : n = y
    · subst e
      rw [if_pos (hm.2 (.inr rfl)), if_neg hy, if_pos (by omega)]
      rw [if_neg (by omega)] at ih
      omega
    · by_cases h : n ∈ l
      · rw [if_pos (hm.2 (.inl h)), if_pos h]
        by_cases h2 : y < n
        · rw [if_pos h2] at ih; rw [if_pos (by omega)]; omega
        · rw [if_neg h2] at ih; rw [if_neg (by omega)]; omega
      · rw [if_neg (fun q => (hm.1 q).elim h e), if_neg h]
        by_cases h2 : y < n
        · rw [if_pos h2] at ih; rw [if_pos (by omega)]; omega
        · rw [if_neg h2] at ih; rw [if_neg (by omega)]; omega
theorem Ta : ∀ n, kept [] n = n
  | 0 => rfl
  | n + 1 => by rw [kept, Ta n, if_neg (by simp)]
theorem Wz {T : Nat → Nat} {n : Nat} : ∀ k, (∀ s s', s < k → s' < k → T s = T s' → s = s') → (∀ s, s < k → T s < n) → kept ((List.range k).map T) n + k = n
  | 0, _, _ => by
    show kept [] n + 0 = n
    rw [Ta]; rfl
  | k + 1, h1, h2 => by
    have ih := Wz k (fun s s' a b => h1 s s' (by omega) (by omega)) (fun s a => h2 s (by omega))
    have := Wi (l := (List.range k).map T) (y := T k) (fun q => by
      obtain ⟨s, a, b⟩ := List.mem_map.1 q
      have a := List.mem_range.1 a
      have := h1 s k (by omega) (by omega) b
      omega) n
    rw [if_pos (h2 k (by omega))] at this
    rw [List.range_succ, List.map_append]
    show kept ((List.range k).map T ++ [T k]) n + (k + 1) = n
    omega
theorem Sch.chg {ts : List (List Ab)} {S : List En} {k nf : Nat} (h : Sch S k nf) {T : Nat → Nat} (hT : ∀ s s', s < k → s' < k → T s = T s' → s = s') (hlt : ∀ s, s < k → T s < ts.length)
    (hinn : ∀ s f, s < k → f < 4 → (∀ e, e ∈ S → ¬ (e.x = s ∧ e.f = f)) → ∃ b q, Jr ts (T s) f b q ∧ ∃ s', s' < k ∧ b = T s' ∧ ∀ e, e ∈ S → ¬ (e.x = s' ∧ e.f = PA q f)) : Chg ts ((List.range k).map T) (O6 T S) nf ∧ kept ((List.range k).map T) ts.length + k = ts.length := by
  refine ⟨?_, Wz k hT hlt⟩
  have mem : ∀ e, e ∈ O6 T S → ∃ e0, e0 ∈ S ∧ e = ⟨T e0.x, e0.f, e0.i, e0.p⟩ := fun e he => by
    obtain ⟨e0, h1, h2⟩ := List.mem_map.1 he
    exact ⟨e0, h1, h2.symm⟩
  refine ⟨fun x hx => ?_, fun e he => ?_, fun e e' he he' hx hf => ?_, fun e e' he he' hi hp => ?_, fun x f hx hf hno => ?_⟩
  · obtain ⟨s, h1, h2⟩ := List.mem_map.1 hx
    rw [← h2]; exact hlt s (List.mem_range.1 h1)
  · obtain ⟨e0, h1, rfl⟩ := mem e he
    obtain ⟨a, b⟩ := h.en e0 h1
    exact ⟨List.mem_map.2 ⟨e0.x, List.mem_range.2 a, rfl⟩, b⟩
  · obtain ⟨e0, h1, rfl⟩ := mem e he
    obtain ⟨e1, h2, rfl⟩ := mem e' he'
    rw [h.key e0 h1 e1 h2 (hT _ _ (h.en e0 h1).1 (h.en e1 h2).1 hx) hf]
  · obtain ⟨e0, h1, rfl⟩ := mem e he
    obtain ⟨e1, h2, rfl⟩ := mem e' he'
    rw [h.pos e0 h1 e1 h2 hi hp]
  · obtain ⟨s, h1, rfl⟩ := List.mem_map.1 hx
    have hs := List.mem_range.1 h1
    obtain ⟨b, q, g, s', k1, k2, k3⟩ := hinn s f hs hf (fun e he q => hno ⟨T e.x, e.f, e.i, e.p⟩ (List.mem_map.2 ⟨e, he, rfl⟩) ⟨by rw [← q.1], q.2⟩)
    refine ⟨b, q, g, by rw [k2]; exact List.mem_map.2 ⟨s', List.mem_range.2 k1, rfl⟩, fun e he q' => ?_⟩
    obtain ⟨e0, h3, rfl⟩ := mem e he
    exact k3 e0 h3 ⟨hT _ _ (h.en e0 h3).1 k1 (q'.1.trans k2), q'.2⟩
theorem Inn.of {fr : List (List Ab)} {W : List En} {nf : Nat} (h1 : ∀ w, w ∈ W → w.x < nf ∧ w.f < 4 ∧ w.i < nf ∧ w.p < 24 ∧ Bv fr w.x w.f = ⟨(w.i : Int), (w.p : Int)⟩ ∧ Bv fr w.i (PA w.p w.f) = ⟨(w.x : Int), (PI w.p : Int)⟩)
    (h2 : ∀ i, i < nf → ∀ c, c < 4 → 0 ≤ (Bv fr i c).Tet → (W.any fun w => decide ((w.x = i ∧ w.f = c) ∨ (w.i = i ∧ PA w.p w.f = c))) = true) : Inn fr W nf :=
  ⟨h1, fun i c hi hc h => by
    obtain ⟨w, a, b⟩ := List.any_eq_true.1 (h2 i hi c hc h)
    exact ⟨w, a, of_decide_eq_true b⟩⟩
def S23 (A q : Nat) : List En := (List.range 3).flatMap fun i =>
  [⟨0, (OT [A]).getD i 0, i, MP [A, (OT [A]).getD ((i + 1) % 3) 0, (OT [A]).getD ((i + 2) % 3) 0, (OT [A]).getD i 0] [0, 2, 3, 1]⟩,
   ⟨1, PA q ((OT [A]).getD i 0), i, MP [PA q A, PA q ((OT [A]).getD ((i + 1) % 3) 0), PA q ((OT [A]).getD ((i + 2) % 3) 0), PA q ((OT [A]).getD i 0)] [1, 2, 3, 0]⟩]
def W23 : List En := [⟨0, 2, 1, 1⟩, ⟨1, 2, 2, 1⟩, ⟨2, 2, 0, 1⟩]
theorem jP : ∀ A, A < 4 → ∀ q, q < 24 → ∀ e, e ∈ S23 A q → e.x < 2 ∧ e.f < 4 ∧ e.i < 3 ∧ e.p < 24 := by decide +kernel
theorem fM : ∀ A, A < 4 → ∀ q, q < 24 → ∀ e, e ∈ S23 A q → ∀ e', e' ∈ S23 A q → e.x = e'.x → e.f = e'.f → e = e' := by decide +kernel
theorem gY : ∀ A, A < 4 → ∀ q, q < 24 → ∀ e, e ∈ S23 A q → ∀ e', e' ∈ S23 A q → e.i = e'.i → PA e.p e.f = PA e'.p e'.f → e = e' := by decide +kernel
theorem jC : ∀ A, A < 4 → ∀ q, q < 24 → ∀ t, t < 8 → ((S23 A q).any fun e => decide (e.x = t / 4 ∧ e.f = t % 4)) = true ∨ t = A ∨ t = 4 + PA q A := by decide +kernel
theorem jF : ∀ A, A < 4 → ∀ q, q < 24 → ∀ e, e ∈ S23 A q → ¬ (e.x = 1 ∧ e.f = PA q A) := by decide +kernel
theorem gG : ∀ A, A < 4 → ∀ q, q < 24 → ∀ e, e ∈ S23 A q → ¬ (e.x = 0 ∧ e.f = A) := by decide +kernel
theorem fU : ∀ A, A < 4 → ∀ q, q < 24 → ∀ e, e ∈ S23 A q → (Bv Wv e.i (PA e.p e.f)).Tet < 0 := by decide +kernel
theorem jO : Shape Wv 3 := ⟨rfl, fun r hr => by
  rcases (by omega : r = 0 ∨ r = 1 ∨ r = 2) with rfl | rfl | rfl <;> rfl⟩
theorem uR : ∀ i, i < 3 → ∀ c, c < 4 → (Bv Wv i c).Tet < 3 := by decide +kernel
theorem uL : Inn Wv W23 3 := Inn.of (fun w hw => by
  simp only [W23, List.mem_cons, List.not_mem_nil, or_false] at hw
  rcases hw with rfl | rfl | rfl <;> exact ⟨by decide, by decide, by decide, by decide, by kernel_rfl, by kernel_rfl⟩) (by decide +kernel)
def T2 (a b s : Nat) : Nat := if s = 0 then a else b
theorem qW {ts : List (List Ab)} (hv : Val ts) {a b A q : Nat} (ha : a < ts.length) (hA : A < 4) (hG : Jr ts a A b q) (hab : b ≠ a) : Chg ts ((List.range 2).map (T2 a b)) (O6 (T2 a b) (S23 A q)) 3 ∧ kept ((List.range 2).map (T2 a b)) ts.length + 2 = ts.length := by
  have t1 := jP A hA q hG.2.1
  have t2 := fM A hA q hG.2.1
  have t3 := gY A hA q hG.2.1
  have t4 := jC A hA q hG.2.1
  have t5 := jF A hA q hG.2.1
  have t6 := gG A hA q hG.2.1
  refine Sch.chg ⟨t1, t2, t3⟩ (fun s s' hs hs' h => ?_) (fun s hs => ?_) (fun s f hs hf hno => ?_)
  · rcases (by omega : s = 0 ∨ s = 1) with rfl | rfl <;> rcases (by omega : s' = 0 ∨ s' = 1) with rfl | rfl
    · rfl
    · exact (hab h.symm).elim
    · exact (hab h).elim
    · rfl
  · rcases (by omega : s = 0 ∨ s = 1) with rfl | rfl
    · exact ha
    · exact hG.1
  · have t4 : (s = 0 ∧ f = A) ∨ (s = 1 ∧ f = PA q A) := by
      have hqA := D6 hG.2.1 hA
      rcases t4 (4 * s + f) (by omega) with h | h | h
      · obtain ⟨e, a, b⟩ := List.any_eq_true.1 h
        have b := of_decide_eq_true b
        exact (hno e a ⟨by omega, by omega⟩).elim
      · exact .inl (by omega)
      · exact .inr (by omega)
    rcases t4 with ⟨rfl, rfl⟩ | ⟨rfl, rfl⟩
    · exact ⟨b, q, hG, 1, by omega, rfl, t5⟩
    · refine ⟨a, PI q, ⟨ha, G9 hG.2.1, hG.2.2.2.1, ?_, ?_⟩, 0, by omega, rfl, ?_⟩
      · rw [J6 hG.2.1 hA, Wu hG.2.1]; exact hG.2.2.1
      · rw [J6 hG.2.1 hA]; exact fun h => hab h.1.symm
      · rw [J6 hG.2.1 hA]; exact t6
def S14 : List En := [⟨0, 0, 0, 0⟩, ⟨0, 1, 1, 0⟩, ⟨0, 2, 2, 0⟩, ⟨0, 3, 3, 0⟩]
def W14 : List En := [⟨1, 0, 0, 6⟩, ⟨2, 0, 0, 14⟩, ⟨2, 1, 1, 2⟩, ⟨3, 0, 0, 21⟩, ⟨3, 1, 1, 5⟩, ⟨3, 2, 2, 1⟩]
theorem jV : ∀ e, e ∈ S14 → e.x < 1 ∧ e.f < 4 ∧ e.i < 4 ∧ e.p < 24 := by decide +kernel
theorem iH : ∀ e, e ∈ S14 → ∀ e', e' ∈ S14 → e.x = e'.x → e.f = e'.f → e = e' := by decide +kernel
theorem iD : ∀ e, e ∈ S14 → ∀ e', e' ∈ S14 → e.i = e'.i → PA e.p e.f = PA e'.p e'.f → e = e' := by decide +kernel
theorem jS : ∀ s, s < 1 → ∀ f, f < 4 → ¬ (∀ e, e ∈ S14 → ¬ (e.x = s ∧ e.f = f)) := by decide +kernel
theorem iZ : ∀ e, e ∈ S14 → (Bv X4 e.i (PA e.p e.f)).Tet < 0 := by decide +kernel
theorem jD : Shape X4 4 := ⟨rfl, fun r hr => by
  rcases (by omega : r = 0 ∨ r = 1 ∨ r = 2 ∨ r = 3) with rfl | rfl | rfl | rfl <;> rfl⟩
theorem uY : ∀ i, i < 4 → ∀ c, c < 4 → (Bv X4 i c).Tet < 4 := by decide +kernel
theorem sO : Inn X4 W14 4 := Inn.of (fun w hw => by
  simp only [W14, List.mem_cons, List.not_mem_nil, or_false] at hw
  rcases hw with rfl | rfl | rfl | rfl | rfl | rfl <;> exact ⟨by decide, by decide, by decide, by decide, by kernel_rfl, by kernel_rfl⟩) (by decide +kernel)
theorem rZ {ts : List (List Ab)} {a : Nat} (ha : a < ts.length) : Chg ts ((List.range 1).map fun _ => a) (O6 (fun _ => a) S14) 4 ∧ kept ((List.range 1).map fun _ => a) ts.length + 1 = ts.length := by
  exact Sch.chg ⟨jV, iH, iD⟩ (fun s s' hs hs' h => by omega) (fun s hs => ha) (fun s f hs hf hno => (jS s hs f hf hno).elim)
def S32 (P : Nat → Nat) : List En := (List.range 3).flatMap fun s => [⟨s, PA (P s) 1, 0, X32 s (P s)⟩, ⟨s, PA (P s) 0, 1, Y32 s (P s)⟩]
theorem Vy {s p : Nat} (hs : s < 3) (hp : p < 24) : X32 s p < 24 ∧ PA (X32 s p) (PA p 1) = 1 + (s + 2) % 3 ∧ Y32 s p < 24 ∧ PA (Y32 s p) (PA p 0) = 1 + (s + 2) % 3 := by
  have : ∀ s, s < 3 → ∀ p, p < 24 → X32 s p < 24 ∧ PA (X32 s p) (PA p 1) = 1 + (s + 2) % 3 ∧ Y32 s p < 24 ∧ PA (Y32 s p) (PA p 0) = 1 + (s + 2) % 3 := by decide +kernel
  exact this s hs p hp
theorem Ml {P : Nat → Nat} {e : En} (h : e ∈ S32 P) : ∃ s, s < 3 ∧ (e = ⟨s, PA (P s) 1, 0, X32 s (P s)⟩ ∨ e = ⟨s, PA (P s) 0, 1, Y32 s (P s)⟩) := by
  obtain ⟨s, h1, h2⟩ := List.mem_flatMap.1 h
  refine ⟨s, List.mem_range.1 h1, ?_⟩
  simpa using h2
theorem iG {P : Nat → Nat} {s : Nat} (hs : s < 3) : (⟨s, PA (P s) 1, 0, X32 s (P s)⟩ : En) ∈ S32 P ∧ (⟨s, PA (P s) 0, 1, Y32 s (P s)⟩ : En) ∈ S32 P :=
  ⟨List.mem_flatMap.2 ⟨s, List.mem_range.2 hs, by simp⟩, List.mem_flatMap.2 ⟨s, List.mem_range.2 hs, by simp⟩⟩
theorem qC {P : Nat → Nat} (hP : ∀ s, s < 3 → P s < 24) : Sch (S32 P) 3 2 := by
  refine ⟨fun e he => ?_, fun e he e' he' hx hf => ?_, fun e he e' he' hi hp => ?_⟩
  · obtain ⟨s, hs, rfl | rfl⟩ := Ml he
    · exact ⟨hs, D6 (hP s hs) (by omega), by show 0 < 2; omega, (Vy hs (hP s hs)).1⟩
    · exact ⟨hs, D6 (hP s hs) (by omega), by show 1 < 2; omega, (Vy hs (hP s hs)).2.2.1⟩
  · obtain ⟨s, hs, rfl | rfl⟩ := Ml he <;> obtain ⟨s', hs', rfl | rfl⟩ := Ml he'
    · have hx : s = s' := hx
      subst hx; rfl
    · have hx : s = s' := hx
      subst hx
      exact (Io (hP s hs) (show 1 < 4 by omega) (show 0 < 4 by omega) (by omega) hf).elim
    · have hx : s = s' := hx
      subst hx
      exact (Io (hP s hs) (show 0 < 4 by omega) (show 1 < 4 by omega) (by omega) hf).elim
    · have hx : s = s' := hx
      subst hx; rfl
  · obtain ⟨s, hs, rfl | rfl⟩ := Ml he <;> obtain ⟨s', hs', rfl | rfl⟩ := Ml he'
    · have h1 := (Vy hs (hP s hs)).2.1
      have h2 := (Vy hs' (hP s' hs')).2.1
      have hp : PA (X32 s (P s)) (PA (P s) 1) = PA (X32 s' (P s')) (PA (P s') 1) := hp
      obtain rfl : s = s' := by omega
      rfl
    · have hi : (0 : Nat) = 1 := hi
      omega
    · have hi : (1 : Nat) = 0 := hi
      omega
    · have h1 := (Vy hs (hP s hs)).2.2.2
      have h2 := (Vy hs' (hP s' hs')).2.2.2
      have hp : PA (Y32 s (P s)) (PA (P s) 0) = PA (Y32 s' (P s')) (PA (P s') 0) := hp
      obtain rfl : s = s' := by omega
      rfl
theorem Yv {P : Nat → Nat} {s f : Nat} (h1 : f ≠ PA (P s) 1) (h0 : f ≠ PA (P s) 0) : ∀ e, e ∈ S32 P → ¬ (e.x = s ∧ e.f = f) := fun e he h => by
  obtain ⟨s', hs', rfl | rfl⟩ := Ml he
  · obtain ⟨a, b⟩ := h
    have a : s' = s := a
    subst a
    exact h1 b.symm
  · obtain ⟨a, b⟩ := h
    have a : s' = s := a
    subst a
    exact h0 b.symm
theorem Jr.rev {ts : List (List Ab)} {a f b q : Nat} (ha : a < ts.length) (hf : f < 4) (h : Jr ts a f b q) : Jr ts b (PA q f) a (PI q) := by
  refine ⟨ha, G9 h.2.1, h.2.2.2.1, ?_, ?_⟩
  · rw [J6 h.2.1 hf, Wu h.2.1]; exact h.2.2.1
  · rw [J6 h.2.1 hf]; exact fun q => h.2.2.2.2 ⟨q.1.symm, q.2.symm⟩
theorem qU {ts : List (List Ab)} (hv : Val ts) {T P : Nat → Nat} (hlt : ∀ s, s < 3 → T s < ts.length) (hP : ∀ s, s < 3 → P s < 24) (hT : ∀ s s', s < 3 → s' < 3 → T s = T s' → s = s') (hn : ∀ s, s < 3 → nx ts (T s, P s) = some (T ((s + 1) % 3), P ((s + 1) % 3))) :
    Chg ts ((List.range 3).map T) (O6 T (S32 P)) 2 ∧ kept ((List.range 3).map T) ts.length + 3 = ts.length := by
  have step : ∀ s, s < 3 → ∃ q, Jr ts (T s) (PA (P s) 2) (T ((s + 1) % 3)) q ∧ PA q (PA (P s) 2) = PA (P ((s + 1) % 3)) 3 := fun s hs => by
    rcases Ma hv (hlt s hs) (hP s hs) with ⟨g1, g2⟩ | ⟨g1, b, q, hb, hq, g2, g3, g4⟩
    · rw [hn s hs] at g2; cases g2
    · rw [hn s hs] at g4
      injection g4 with g4
      injection g4 with g5 g6
      refine ⟨q, by rw [g5]; exact g3, ?_⟩
      rw [g6, (Zz (hP s hs) hq).2.2.2.2]
  refine (qC hP).chg hT hlt fun s f hs hf hno => ?_
  have hp := hP s hs
  obtain ⟨m1, m2⟩ := iG (P := P) hs
  have n1 : f ≠ PA (P s) 1 := fun e => hno _ m1 ⟨rfl, e.symm⟩
  have n0 : f ≠ PA (P s) 0 := fun e => hno _ m2 ⟨rfl, e.symm⟩
  have b0 : PA (P s) 0 < 4 := D6 hp (by omega)
  have b1 : PA (P s) 1 < 4 := D6 hp (by omega)
  have b2 : PA (P s) 2 < 4 := D6 hp (by omega)
  have b3 : PA (P s) 3 < 4 := D6 hp (by omega)
  have d01 := Io hp (show 0 < 4 by omega) (show 1 < 4 by omega) (by omega)
  have d02 := Io hp (show 0 < 4 by omega) (show 2 < 4 by omega) (by omega)
  have d03 := Io hp (show 0 < 4 by omega) (show 3 < 4 by omega) (by omega)
  have d12 := Io hp (show 1 < 4 by omega) (show 2 < 4 by omega) (by omega)
  have d13 := Io hp (show 1 < 4 by omega) (show 3 < 4 by omega) (by omega)
  have d23 := Io hp (show 2 < 4 by omega) (show 3 < 4 by omega) (by omega)
  have hf23 : f = PA (P s) 2 ∨ f = PA (P s) 3 := by omega
  rcases hf23 with rfl | rfl
  · obtain ⟨q, hG, hq3⟩ := step s hs
    refine ⟨_, q, hG, (s + 1) % 3, by omega, rfl, ?_⟩
    rw [hq3]
    have hp1 := hP ((s + 1) % 3) (by omega)
    exact Yv (Io hp1 (by omega) (by omega) (by omega)) (Io hp1 (by omega) (by omega) (by omega))
  · obtain ⟨q, hG, hq3⟩ := step ((s + 2) % 3) (by omega)
    have es : ((s + 2) % 3 + 1) % 3 = s := by omega
    rw [es] at hG hq3
    have hp1 := hP ((s + 2) % 3) (by omega)
    have hG' := hG.rev (hlt _ (by omega)) (D6 hp1 (by omega))
    rw [hq3] at hG'
    refine ⟨_, PI q, hG', (s + 2) % 3, by omega, rfl, ?_⟩
    rw [← hq3, J6 hG.2.1 (D6 hp1 (by omega))]
    exact Yv (Io hp1 (by omega) (by omega) (by omega)) (Io hp1 (by omega) (by omega) (by omega))
def W32 : List En := [⟨0, 0, 1, 0⟩]
theorem jI : Shape Vm 2 := ⟨rfl, fun r hr => by
  rcases (by omega : r = 0 ∨ r = 1) with rfl | rfl <;> rfl⟩
theorem uZ : ∀ i, i < 2 → ∀ c, c < 4 → (Bv Vm i c).Tet < 2 := by decide +kernel
theorem uK : ∀ i, i < 2 → ∀ c, c < 3 → (Bv Vm i (1 + c)).Tet < 0 := by decide +kernel
theorem rY : Inn Vm W32 2 := Inn.of (fun w hw => by
  simp only [W32, List.mem_cons, List.not_mem_nil, or_false] at hw
  subst hw
  exact ⟨by decide, by decide, by decide, by decide, by kernel_rfl, by kernel_rfl⟩) (by decide +kernel)
def S41 (P : Nat → Nat) : List En := (List.range 4).map fun s => ⟨s, PA (PI (P s)) s, 0, P s⟩
theorem Mj {P : Nat → Nat} {e : En} (h : e ∈ S41 P) : ∃ s, s < 4 ∧ e = ⟨s, PA (PI (P s)) s, 0, P s⟩ := by
  obtain ⟨s, h1, h2⟩ := List.mem_map.1 h
  exact ⟨s, List.mem_range.1 h1, h2.symm⟩
theorem pM {s y : Nat} (hs : s < 4) (hy : y < 4) (h : s ≠ y) : PA (EXC s y) y = s := by
  have : ∀ s, s < 4 → ∀ y, y < 4 → s ≠ y → PA (EXC s y) y = s := by decide +kernel
  exact this s hs y hy h
theorem sZ {ts : List (List Ab)} (hv : Val ts) {T P : Nat → Nat} (hlt : ∀ s, s < 4 → T s < ts.length) (hP : ∀ s, s < 4 → P s < 24) (hok : (Jp 4 fun x => Jp 4 (okB ts T P x)) = true) : Chg ts ((List.range 4).map T) (O6 T (S41 P)) 1 ∧ kept ((List.range 4).map T) ts.length + 4 = ts.length := by
  have ok : ∀ s y, s < 4 → y < 4 → s ≠ y → (Bv ts (T s) (PA (PI (P s)) y)).Tet = (T y : Int) ∧ T s ≠ T y ∧ PM (PM (PI (P s)) (Bv ts (T s) (PA (PI (P s)) y)).Perm.toNat) (P y) = EXC s y := fun s y hs hy h => by
    have := Nh (Nh hok hs) hy
    exact (of_decide_eq_true this).resolve_left h
  refine Sch.chg ⟨fun e he => ?_, fun e he e' he' hx hf => ?_, fun e he e' he' hi hp => ?_⟩ (fun s s' hs hs' h => ?_) hlt fun s f hs hf hno => ?_
  · obtain ⟨s, hs, rfl⟩ := Mj he
    exact ⟨hs, D6 (G9 (hP s hs)) hs, by show 0 < 1; omega, hP s hs⟩
  · obtain ⟨s, hs, rfl⟩ := Mj he
    obtain ⟨s', hs', rfl⟩ := Mj he'
    have hx : s = s' := hx
    subst hx; rfl
  · obtain ⟨s, hs, rfl⟩ := Mj he
    obtain ⟨s', hs', rfl⟩ := Mj he'
    have hp : PA (P s) (PA (PI (P s)) s) = PA (P s') (PA (PI (P s')) s') := hp
    rw [Xj (hP s hs) hs, Xj (hP s' hs') hs'] at hp
    subst hp; rfl
  · by_cases e : s = s'
    · exact e
    · exact ((ok s s' hs hs' e).2.1 h).elim
  · have hp := hP s hs
    have hy := D6 hp hf
    have hfy : PA (PI (P s)) (PA (P s) f) = f := J6 hp hf
    have hne : s ≠ PA (P s) f := fun e => hno ⟨s, PA (PI (P s)) s, 0, P s⟩ (List.mem_map.2 ⟨s, List.mem_range.2 hs, rfl⟩) ⟨rfl, by
      show PA (PI (P s)) s = f
      rw [← hfy, ← e]⟩
    obtain ⟨o1, o2, o3⟩ := ok s (PA (P s) f) hs hy hne
    rw [hfy] at o1 o3
    have hpy := hP _ hy
    rcases Ea hv (hlt s hs) hf with ⟨c1, _⟩ | ⟨_, b, q, hb, hq, c2, hG⟩
    · omega
    · rw [c2] at o1 o3
      have o1 : (b : Int) = (T (PA (P s) f) : Int) := o1
      have o3 : PM (PM (PI (P s)) q) (P (PA (P s) f)) = EXC s (PA (P s) f) := by simpa using o3
      refine ⟨b, q, hG, PA (P s) f, hy, by omega, fun e he h => ?_⟩
      obtain ⟨s', hs', rfl⟩ := Mj he
      obtain ⟨h1, h2⟩ := h
      have h1 : s' = PA (P s) f := h1
      subst h1
      have h2 : PA (PI (P (PA (P s) f))) (PA (P s) f) = PA q f := h2
      have key := (PM3 hp hq hpy).2.1 f hf
      rw [o3, pM hs hy hne, ← h2, Xj hpy hy] at key
      exact hne key
theorem jT : Shape [Iq] 1 := ⟨rfl, fun r hr => by
  obtain rfl : r = 0 := by omega
  rfl⟩
theorem pW : ∀ i, i < 1 → ∀ c, c < 4 → (Bv [Iq] i c).Tet < 0 := by decide +kernel
theorem sP : Inn [Iq] [] 1 := ⟨fun w hw => (List.not_mem_nil hw).elim, fun i c hi hc h => by have := pW i hi c hc; omega⟩
theorem Ac.uniq {α : Type} {F : Nat → Option α} {a b : α} (h : Ac F a) (g : Ac F b) : a = b := by
  obtain ⟨n, hn⟩ := h
  obtain ⟨m, hm⟩ := g
  have h1 := hn (n + m) (by omega)
  rw [hm (n + m) (by omega)] at h1
  exact (Option.some.inj h1).symm
def T3 (a b c s : Nat) : Nat := if s = 0 then a else if s = 1 then b else c
theorem three {p : Nat → Prop} (h0 : p 0) (h1 : p 1) (h2 : p 2) : ∀ s, s < 3 → p s
  | 0, _ => h0 | 1, _ => h1 | 2, _ => h2 | n + 3, h => absurd h (by omega)
section
variable {ts : List (List Ab)} (hv : Val ts) (hT : Ac (fun K => Ah.f K ts) true)
include hv hT
theorem iC {kind : Int} {a A : Nat} (ha : a < ts.length) (hA : (A : Int) < most kind) {c : List Int × List (Gd × Dn) × Int × List Fg} {o : List Int} {f : List (List Ab)} {u : List Ap}
    (h1 : Ac (fun K => Dp.f K ts kind (a : Int) (A : Int)) (some c)) (h2 : Ac (fun K => Gz.f K ts kind (a : Int) (A : Int)) (o, f, u, true)) :
    ∃ old es fr W nf, (Chg ts old es nf ∧ kept old ts.length + old.length = ts.length) ∧ Inn fr W nf ∧ old.length ≤ 10 ∧ nf ≤ 4 ∧ es.length ≤ 100 ∧ W.length ≤ 100 ∧ Shape fr nf ∧ (∀ i c, i < nf → c < 4 → (Bv fr i c).Tet < nf) ∧ (∀ e, e ∈ es → (Bv fr e.i (PA e.p e.f)).Tet < 0) ∧
      o = ints old ∧ f = fr ∧ u = es.map En.g ∧ c = (ints old, (es.map En.g).foldl I4 [], (nf : Int), W.map En.a) ∧ (∀ w, w ∈ W → w.x ≠ w.i) ∧ (kind = 4 ∨ kind = 2 → nf < old.length) := by
  unfold most at hA
  by_cases k1 : kind = 1
  · rw [if_pos (.inl k1)] at hA
    rcases kZ hv ha (show A < 4 by omega) with ⟨c1, c2⟩ | ⟨b, q, hb, hq, hf, hab, c1, c2⟩
    · have := h1.uniq (Ac.pos k1 (Ac.bind c1 (Ac.const _)))
      cases this
    · have e1 := h1.uniq (Ac.pos k1 (Ac.bind c1 (Ac.const _)))
      have e2 := h2.uniq (Ac.pos k1 (Ac.Eb c2 (Ac.const _)))
      injection e1 with e1
      injection e2 with e2 e3
      injection e3 with e3 e4
      injection e4 with e4 _
      have hG : Jr ts a A b q := by
        rcases Ea hv ha (show A < 4 by omega) with ⟨g1, _⟩ | ⟨_, b', q', _, _, g2, g3⟩
        · rw [hf] at g1
          have g1 : (b : Int) < 0 := g1
          omega
        · rw [hf] at g2
          injection g2 with g2 g4
          have g2 : b = b' := by omega
          have g4 : q = q' := by omega
          rw [g2, g4]; exact g3
      refine ⟨(List.range 2).map (T2 a b), O6 (T2 a b) (S23 A q), Wv, W23, 3, qW hv ha (by omega) hG hab, uL, by simp, by omega, ?_, by decide, jO, fun i c hi hc => uR i hi c hc, fun e he => ?_, e2, e3, e4, e1, by decide, fun h => by omega⟩
      · have : (S23 A q).length = 6 := rfl
        unfold O6
        rw [List.length_map]; omega
      · obtain ⟨e0, z1, rfl⟩ := List.mem_map.1 he
        exact fU A (by omega) q hq e0 z1
  by_cases k4 : kind = 4
  · rw [if_pos (.inr k4)] at hA
    have k2 : ¬ kind = 2 := by omega
    have k3 : ¬ kind = 3 := by omega
    rcases kS hv ha (show A < 4 by omega) with ⟨c1, c2⟩ | ⟨hR, hok, c1, c2⟩
    · have := h1.uniq (Ac.neg k1 (Ac.neg k2 (Ac.neg k3 (Ac.bind c1 (Ac.const _)))))
      cases this
    · have e1 := h1.uniq (Ac.neg k1 (Ac.neg k2 (Ac.neg k3 (Ac.bind c1 (Ac.const _)))))
      have e2 := h2.uniq (Ac.neg k1 (Ac.neg k2 (Ac.neg k3 (Ac.Eb c2 (Ac.const _)))))
      injection e1 with e1
      injection e2 with e2 e3
      injection e3 with e3 e4
      injection e4 with e4 _
      obtain ⟨r1, r2⟩ := Ww hv ha (show A < 4 by omega) hR
      refine ⟨(List.range 4).map (stT ts a A), O6 (stT ts a A) (S41 (stP ts a A)), [Iq], [], 1, sZ hv r1 r2 hok, sP, by simp, by omega, ?_, by decide, jT, fun i c hi hc => by have := pW i hi c hc; omega, fun e he => ?_, e2, e3, e4, e1, by decide, fun _ => by simp⟩
      · unfold O6 S41
        simp
      · obtain ⟨e0, z1, rfl⟩ := List.mem_map.1 he
        obtain ⟨s, hs, rfl⟩ := Mj z1
        exact pW 0 (by omega) _ (D6 (r2 s hs) (D6 (G9 (r2 s hs)) hs))
  rw [if_neg (fun h => h.elim k1 k4)] at hA
  by_cases k2 : kind = 2
  · rw [if_pos k2] at hA
    rcases kG hv hT ha (show A < 6 by omega) with ⟨c1, c2⟩ | ⟨c0, c1', c2', ⟨x0, y0⟩, ⟨x1, y1⟩, ⟨x2, y2⟩, n0, n1, n2, d1, d2, d3, c1, c2⟩
    · have := h1.uniq (Ac.neg k1 (Ac.pos k2 (Ac.bind c1 (Ac.const _))))
      cases this
    · have e1 := h1.uniq (Ac.neg k1 (Ac.pos k2 (Ac.bind c1 (Ac.const _))))
      have e2 := h2.uniq (Ac.neg k1 (Ac.pos k2 (Ac.Eb c2 (Ac.const _))))
      injection e1 with e1
      injection e2 with e2 e3
      injection e3 with e3 e4
      injection e4 with e4 _
      have hP : ∀ s, s < 3 → T3 c0.2 c1'.2 c2'.2 s < 24 := three y0 y1 y2
      refine ⟨(List.range 3).map (T3 c0.1 c1'.1 c2'.1), O6 (T3 c0.1 c1'.1 c2'.1) (S32 (T3 c0.2 c1'.2 c2'.2)), Vm, W32, 2, qU hv (three x0 x1 x2) hP (fun s s' hs hs' h => ?_) (three n0 n1 n2), rY, by simp, by omega, ?_, by decide, jI, fun i c hi hc => uZ i hi c hc, fun e he => ?_, e2, e3, e4, e1, by decide, fun _ => by simp⟩
      · rcases (by omega : s = 0 ∨ s = 1 ∨ s = 2) with rfl | rfl | rfl <;> rcases (by omega : s' = 0 ∨ s' = 1 ∨ s' = 2) with rfl | rfl | rfl
        · rfl
        · exact (d1 h).elim
        · exact (d3 h).elim
        · exact (d1 h.symm).elim
        · rfl
        · exact (d2 h).elim
        · exact (d3 h.symm).elim
        · exact (d2 h.symm).elim
        · rfl
      · have : (S32 (T3 c0.2 c1'.2 c2'.2)).length = 6 := rfl
        unfold O6
        rw [List.length_map]; omega
      · obtain ⟨e0, z1, rfl⟩ := List.mem_map.1 he
        obtain ⟨s, hs, rfl | rfl⟩ := Ml z1
        · show (Bv Vm 0 (PA (X32 s _) (PA _ 1))).Tet < 0
          rw [(Vy hs (hP s hs)).2.1]; exact uK 0 (by omega) _ (by omega)
        · show (Bv Vm 1 (PA (Y32 s _) (PA _ 0))).Tet < 0
          rw [(Vy hs (hP s hs)).2.2.2]; exact uK 1 (by omega) _ (by omega)
  rw [if_neg k2] at hA
  by_cases k3 : kind = 3
  · have e1 := h1.uniq (Ac.neg k1 (Ac.neg k2 (Ac.pos k3 (Ac.Eb (lJ (a : Int)) (Ac.const _)))))
    have e2 := h2.uniq (Ac.neg k1 (Ac.neg k2 (Ac.pos k3 (Ac.Ik (kD (a : Int)) (Ac.const _)))))
    injection e1 with e1
    injection e2 with e2 e3
    injection e3 with e3 e4
    injection e4 with e4 _
    refine ⟨(List.range 1).map fun _ => a, O6 (fun _ => a) S14, X4, W14, 4, rZ ha, sO, by simp, by omega, by show 4 ≤ 100; omega, by decide, jD, fun i c hi hc => uY i hi c hc, fun e he => ?_, e2, e3, e4, e1, by decide, fun h => by omega⟩
    obtain ⟨e0, z1, rfl⟩ := List.mem_map.1 he
    exact iZ e0 z1
  · rw [if_neg k3] at hA; omega
end
theorem Xl (ts : List (List Ab)) (hn : ts.length ≤ 2000000) (kind tet ix : Int) : ∃ L code, (∃ m, m ≤ 12 ∧ Shape L m) ∧ Ac (fun K => Ho.f K ts kind tet ix) (L, code) ∧ Ac (fun K => Gm.f K ts kind tet ix) (L, code) := by
  have nil : ∃ m, m ≤ 12 ∧ Shape [] m := ⟨0, by omega, rfl, fun r hr => by omega⟩
  obtain ⟨b, h1, h2, h3⟩ := bJ ts hn
  cases b with
  | false => exact ⟨[], 1, nil, Ac.Eb (a := []) (b := []) (c := []) (d := 1) (Ac.bind h2 (Ac.neg (by decide) (Ac.const _))) (Ac.neg (by decide) (Ac.const _)), Ac.bind h3 (Ac.neg (by decide) (Ac.const _))⟩
  | true =>
    obtain ⟨r, code, pl, c1, c2, c3⟩ := pV (h1 rfl) h2 kind tet ix
    by_cases h0 : code = 0
    · obtain ⟨c, rfl, _, a, A, rfl, rfl, ha, hA, t1, t2, _⟩ := c3 h0
      obtain ⟨old, es, fr, W, nf, ⟨hg, _⟩, hw, l1, l2, l3, l4, f1, f2, f3, e1, e2, e3, e4, _⟩ := iC (h1 rfl) h2 ha hA t1 t2
      obtain ⟨L, s1, s2, s3, s4⟩ := Vs (h1 rfl) l1 l2 hg hw l4 l3 f1 f2 f3
      have hk := Ju old ts.length
      have h8 := (h1 rfl).le
      rw [e1, e2, e3] at c2
      rw [e4] at c1
      exact ⟨L, 0, ⟨_, by omega, s1⟩, Ac.Eb c2 (Ac.pos h0 (Ac.bind s3 (Ac.const _))), Ac.bind h3 (Ac.pos rfl (Ac.Eg c1 (Ac.pos h0 (Ac.bind s4 (Ac.const _)))))⟩
    · exact ⟨[], code, nil, Ac.Eb c2 (Ac.neg h0 (Ac.const _)), Ac.bind h3 (Ac.pos rfl (Ac.Eg c1 (Ac.neg h0 (Ac.const _))))⟩
def Mx (f : Nat → Nat) : Nat → Nat → Nat
  | _, 0 => 0
  | i, m + 1 => f i + Mx f (i + 1) m
def Xz : Int := 1000000000000000
theorem Xe {α : Type} {xs : List α} {i : Nat} {x z : α} (h : i < xs.length) : (xs.set i x).getD i z = x := by
  rw [List.getD_eq_getElem?_getD, List.getElem?_set_self h]; rfl
theorem aQ {α : Type} {xs : List α} {i j : Nat} {x z : α} (h : i ≠ j) : (xs.set i x).getD j z = xs.getD j z := by
  rw [List.getD_eq_getElem?_getD, List.getElem?_set_ne h, ← List.getD_eq_getElem?_getD]
theorem Tx {α : Type} {xs : List α} {z : α} {l : Nat → Nat → List α → Int → Nat → Option (Int × List α)} {l' : Nat → Nat → List α → Int → Nat → Option Int} {cnt : Nat → Nat}
    (he : ∀ K k ys kk, ys.length = xs.length → l K (k + 1) ys kk xs.length = some (kk, ys)) (he' : ∀ K k ys kk, ys.length = xs.length → l' K (k + 1) ys kk xs.length = some kk)
    (h1 : ∀ i, i < xs.length → ∀ kk : Int, 0 ≤ kk → kk + (cnt i : Int) ≤ Xz → ∃ y,
      (∀ ys r, ys.length = xs.length → ys.getD i z = xs.getD i z → Aa (fun K k => l K k (ys.set i y) (kk + (cnt i : Int)) (i + 1)) r → Aa (fun K k => l K k ys kk i) r) ∧
      (∀ ys r, ys.length = xs.length → ys.getD i z = y → Aa (fun K k => l' K k ys (kk + (cnt i : Int)) (i + 1)) r → Aa (fun K k => l' K k ys kk i) r)) :
    ∀ (m i : Nat) (ys : List α) (kk : Int), xs.length - i = m → i ≤ xs.length → ys.length = xs.length → (∀ j, i ≤ j → j < xs.length → ys.getD j z = xs.getD j z) → 0 ≤ kk → kk + (Mx cnt i m : Int) ≤ Xz →
      ∃ zs, zs.length = xs.length ∧ (∀ j, j < i → zs.getD j z = ys.getD j z) ∧ Aa (fun K k => l K k ys kk i) (kk + (Mx cnt i m : Int), zs) ∧ Aa (fun K k => l' K k zs kk i) (kk + (Mx cnt i m : Int))
  | 0, i, ys, kk, hm, hi, hy, hg, h0, hb => by
    obtain rfl : i = xs.length := by omega
    refine ⟨ys, hy, fun _ _ => rfl, Aa.of fun K k => ?_, Aa.of fun K k => ?_⟩
    · rw [he K k ys kk hy]; simp [Mx]
    · rw [he' K k ys kk hy]; simp [Mx]
  | m + 1, i, ys, kk, hm, hi, hy, hg, h0, hb => by
    have hlt : i < xs.length := by omega
    have hs : (Mx cnt i (m + 1) : Int) = (cnt i : Int) + (Mx cnt (i + 1) m : Int) := by rw [Mx]; omega
    obtain ⟨y, a, b⟩ := h1 i hlt kk h0 (by omega)
    obtain ⟨zs, z1, z2, z3, z4⟩ := Tx he he' h1 m (i + 1) (ys.set i y) (kk + (cnt i : Int)) (by omega) (by omega) (by rw [List.length_set]; exact hy) (fun j hj hj' => by rw [aQ (by omega)]; exact hg j (by omega) hj') (by omega) (by omega)
    have hk : kk + (Mx cnt i (m + 1) : Int) = kk + (cnt i : Int) + (Mx cnt (i + 1) m : Int) := by omega
    rw [hk]
    refine ⟨zs, z1, fun j hj => ?_, a ys _ hy (hg i (Nat.le_refl _) hlt) z3, b zs _ z1 ?_ z4⟩
    · rw [z2 j (by omega), aQ (by omega)]
    · rw [z2 i (by omega), Xe (by omega)]
def N9 {β : Type} (mark : Nat → List β → Int → Option (Int × List β)) (held : Nat → List β → Int → Option Int) (xs : List β) (c : Nat) : Prop :=
  ∀ kk : Int, 0 ≤ kk → kk + (c : Int) ≤ Xz → ∃ ys, ys.length = xs.length ∧ Ac (fun K => mark K xs kk) (kk + (c : Int), ys) ∧ Ac (fun K => held K ys kk) (kk + (c : Int))
theorem N9.of {α : Type} {xs : List α} {z : α} {mark : Nat → List α → Int → Option (Int × List α)} {held : Nat → List α → Int → Option Int} {l : Nat → Nat → List α → Int → Int → Option (Int × List α)} {l' : Nat → Nat → List α → Int → Int → Option Int} {cnt : Nat → Nat}
    (hm : ∀ K xs kk, mark K xs kk = l K K xs kk 0) (hh : ∀ K xs kk, held K xs kk = l' K K xs kk 0)
    (he : ∀ K k ys kk, ys.length = xs.length → l K (k + 1) ys kk (xs.length : Int) = some (kk, ys)) (he' : ∀ K k ys kk, ys.length = xs.length → l' K (k + 1) ys kk (xs.length : Int) = some kk)
    (h1 : ∀ i, i < xs.length → ∀ kk : Int, 0 ≤ kk → kk + (cnt i : Int) ≤ Xz → ∃ y,
      (∀ ys r, ys.length = xs.length → ys.getD i z = xs.getD i z → Aa (fun K k => l K k (ys.set i y) (kk + (cnt i : Int)) ((i + 1 : Nat) : Int)) r → Aa (fun K k => l K k ys kk (i : Int)) r) ∧
      (∀ ys r, ys.length = xs.length → ys.getD i z = y → Aa (fun K k => l' K k ys (kk + (cnt i : Int)) ((i + 1 : Nat) : Int)) r → Aa (fun K k => l' K k ys kk (i : Int)) r)) : N9 mark held xs (Mx cnt 0 xs.length) := fun kk h0 hb => by
  obtain ⟨zs, z1, _, z3, z4⟩ := Tx (l := fun K k ys kk i => l K k ys kk (i : Int)) (l' := fun K k ys kk i => l' K k ys kk (i : Int)) he he' h1 xs.length 0 xs kk (by omega) (by omega) rfl (fun _ _ _ => rfl) h0 hb
  exact ⟨zs, z1, Ac.congr (fun K => hm K xs kk) z3.G8, Ac.congr (fun K => hh K zs kk) z4.G8⟩
theorem R9 (c : Nat) : ∀ m i, Mx (fun _ => c) i m = c * m
  | 0, _ => rfl
  | m + 1, i => by rw [Mx, R9 c m, Nat.mul_succ, Nat.add_comm]
section
variable {kk : Int}
theorem w1 (h0 : 0 ≤ kk) (h1 : kk ≤ Xz + 10) : w64 (kk + 1) = kk + 1 := by unfold Xz at h1; exact Gh (by omega) (by omega)
end
theorem N9.rows {β : Type} {xs : List (List β)} {mark : Nat → List β → Int → Option (Int × List β)} {held : Nat → List β → Int → Option Int} {markS : Nat → List (List β) → Int → Option (Int × List (List β))} {heldS : Nat → List (List β) → Int → Option Int}
    {l : Nat → Nat → List (List β) → Int → Int → Option (Int × List (List β))} {l' : Nat → Nat → List (List β) → Int → Int → Option Int} {cnt : Nat → Nat} (hn : xs.length ≤ 2000000)
    (hm : ∀ K xs kk, markS K xs kk = l K K xs kk 0) (hh : ∀ K xs kk, heldS K xs kk = l' K K xs kk 0)
    (hl : ∀ K k ys kk i, l K (k + 1) ys kk i = if i < (ys.length : Int) then (if 0 ≤ i ∧ i < (ys.length : Int) then Eg (mark K (ys.getD i.toNat []) kk) (fun a b => if b.length = (ys.getD i.toNat []).length then l K k (ys.set i.toNat b) a (w64 (i + 1)) else none) else none) else some (kk, ys))
    (hl' : ∀ K k ys kk i, l' K (k + 1) ys kk i = if i < (ys.length : Int) then (if 0 ≤ i ∧ i < (ys.length : Int) then (held K (ys.getD i.toNat []) kk).bind (fun t => if t < 0 then some (-1) else l' K k ys t (w64 (i + 1))) else none) else some kk)
    (h1 : ∀ i, i < xs.length → N9 mark held (xs.getD i []) (cnt i)) : N9 markS heldS xs (Mx cnt 0 xs.length) :=
  N9.of (z := []) hm hh (fun K k ys kk hy => by rw [hl, if_neg (by omega)]) (fun K k ys kk hy => by rw [hl', if_neg (by omega)]) fun i hi kk h0 hb => by
    obtain ⟨y, y1, y2, y3⟩ := h1 i hi kk h0 hb
    refine ⟨y, fun ys r hy hg h => ?_, fun ys r hy hg h => ?_⟩
    · refine Aa.step (fun K k => ?_) (Aa.Eg (G := fun K k a b => if b.length = (xs.getD i []).length then l K k (ys.set i b) a ((i + 1 : Nat) : Int) else none) y2.two (Aa.pos y1 h))
      rw [hl, if_pos (by omega), if_pos (by omega), Int.toNat_natCast, hg, Ba (by omega)]
    · refine Aa.step (fun K k => ?_) (Aa.bind (G := fun K k t => if t < 0 then some (-1) else l' K k ys t ((i + 1 : Nat) : Int)) y3.two (Aa.neg (by omega) h))
      rw [hl', if_pos (by omega), if_pos (by omega), Int.toNat_natCast, hg, Ba (by omega)]
theorem Zm {f : Nat → Nat} {B : Nat} : ∀ (m i : Nat), (∀ j, i ≤ j → j < i + m → f j ≤ B) → Mx f i m ≤ B * m
  | 0, _, _ => Nat.le_refl _
  | m + 1, i, h => by
    have h1 := h i (Nat.le_refl _) (by omega)
    have h2 := Zm m (i + 1) (fun j a b => h j (by omega) (by omega))
    rw [Mx, Nat.mul_succ]; omega
theorem Z7 {xs : List Ab} (hn : xs.length ≤ 2000000) : N9 Dz.f D5.f xs (2 * xs.length) := by
  have h := N9.of (xs := xs) (z := Bb) (mark := Dz.f) (held := D5.f) (l := Dz.l1) (l' := D5.l1) (cnt := fun _ => 2) (fun _ _ _ => rfl) (fun _ _ _ => rfl)
    (fun K k ys kk hy => by rw [Dz.l1, if_neg (by omega)]) (fun K k ys kk hy => by rw [D5.l1, if_neg (by omega)]) (fun i hi kk h0 hb => ⟨⟨kk, kk + 1⟩, fun ys r hy hg h => Aa.step (fun K k => ?_) h, fun ys r hy hg h => Aa.step (fun K k => ?_) h⟩)
  · rw [R9] at h; exact h
  · have e1 := w1 h0 (by omega)
    have e2 : w64 (kk + 1 + 1) = kk + 2 := (w1 (by omega) (by omega)).trans (by omega)
    rw [Dz.l1, if_pos (by omega), if_pos (by omega), Int.toNat_natCast]
    simp only [Fv, List.length_set, if_pos (show 0 ≤ (i : Int) ∧ (i : Int) < (ys.length : Int) by omega), Xe (show i < ys.length by omega), List.set_set, e1, e2, Ba (show i < 4611686018427387904 by omega)]
    rfl
  · have e1 := w1 h0 (by omega)
    have e2 : w64 (kk + 1 + 1) = kk + 2 := (w1 (by omega) (by omega)).trans (by omega)
    rw [D5.l1, if_pos (by omega), if_pos (by omega), Int.toNat_natCast, hg, Fv, if_pos rfl, e1, if_pos rfl, e2, Ba (by omega)]; rfl
def cF (xs : List (List Ab)) : Nat := Mx (fun i => 2 * (xs.getD i []).length) 0 xs.length
theorem Yh {xs : List (List Ab)} (hn : xs.length ≤ 2000000) (h : ∀ j, j < xs.length → (xs.getD j []).length ≤ 2000000) : N9 Er.f Eh.f xs (cF xs) :=
  N9.rows (mark := Dz.f) (held := D5.f) (l := Er.l1) (l' := Eh.l1) hn (fun _ _ _ => rfl) (fun _ _ _ => rfl) (fun _ _ _ _ _ => rfl) (fun _ _ _ _ _ => rfl) (fun i hi => Z7 (h i hi))
theorem Yz {xs : List (List Ab)} (hn : xs.length ≤ 2000000) (h : ∀ j, j < xs.length → (xs.getD j []).length ≤ 2000000) : ∃ (q : Int) (ys : List (List Ab)), (0 ≤ q ∧ q ≤ 100000000000000) ∧ ys.length = xs.length ∧ Ac (fun K => Et.f K xs 1) (q, ys) ∧ Ac (fun K => Eh.f K ys 1) q := by
  have hc : cF xs ≤ 4000000 * xs.length := by
    unfold cF
    exact Zm xs.length 0 (fun j _ hj => by have := h j (by omega); show 2 * (xs.getD j []).length ≤ 4000000; omega)
  obtain ⟨ys, y1, y2, y3⟩ := Yh hn h 1 (by decide) (by unfold Xz; omega)
  exact ⟨1 + (cF xs : Int), ys, ⟨by omega, by omega⟩, y1, Ac.Eg y2 (Ac.pos y1 (Ac.const _)), y3⟩
end Go.Proofs.YtbjfinndngafoaaGreat
