/-
  Triangulations: both look at the same faces in the same order.
-/
import Derived.Test.YtkmeepgpmppibaaGreatDoorPlB4
set_option linter.unusedVariables false
set_option linter.unusedSimpArgs false
set_option linter.unusedSectionVars false
namespace Go.Proofs.YtkmeepgpmppibaaGreatDoor
open Go.RowKit
theorem valid_eq (p : Int) : Hw.f p = some (decide (0 ≤ p ∧ p ≤ 23)) := by
  unfold Hw.f
  by_cases h : 0 ≤ p
  · rw [if_pos h]; congr 1; apply decide_eq_decide.2; omega
  · rw [if_neg h, decide_eq_false (by omega)]
section
variable {ts : List (List Bt)} (h8 : ts.length ≤ 8) (h4 : ∀ i, i < ts.length → (ts.getD i []).length = 4)
include h8 h4
theorem Y2 (v : Int) : Ei.f ts v = some (decide (0 ≤ v ∧ v ≤ (ts.length : Int) - 1)) := by
  unfold Ei.f F5.f
  rw [Option.bind_some, O0, Option.bind_some, H8 (by omega) (by omega)]
theorem Xr {a f : Nat} (ha : a < ts.length) (hf : f < 4) : ∃ b, Ab (fun K => Dv.f K ts (a : Int) (f : Int)) b ∧
    (b = true → ∀ v, Ac (fun K k => Ar.l37 K k ts (a : Int) ((f + 1 : Nat) : Int)) v → Ac (fun K k => Ar.l37 K k ts (a : Int) (f : Int)) v) ∧
    (b = false → Ac (fun K k => Ar.l37 K k ts (a : Int) (f : Int)) false) := by
  have hr := h4 a ha
  generalize hx : (ts.getD a []).getD f Ko = x
  have enter : ∀ (c : Bool) (v : Bool), (x.Tet = -1 → c = decide (x.Perm = 0)) → (x.Tet ≠ -1 → c = false) → Ac (fun K k => Ar.j40 K k ts (a : Int) (f : Int) x c) v → Ac (fun K k => Ar.l37 K k ts (a : Int) (f : Int)) v := fun c v c1 c2 h => by
    refine Ac.step (fun K k => ?_) h
    rw [Ar.l37, if_pos (by omega), if_pos (by omega), Int.toNat_natCast, if_pos (by omega), Int.toNat_natCast, hx, Fe]
    by_cases ht : x.Tet = -1
    · rw [if_pos ht, ← c1 ht]
    · rw [if_neg ht, c2 ht]
  have no : ∀ c : Bool, (c = true → False) → (0 ≤ x.Tet ∧ x.Tet ≤ (ts.length : Int) - 1 → 0 ≤ x.Perm ∧ x.Perm ≤ 23 → False) → Ac (fun K k => Ar.j40 K k ts (a : Int) (f : Int) x c) false := fun c hc h => by
    refine Ac.of fun K k => ?_
    rw [Ar.j40, if_neg (fun e => hc e), Gm.f, Option.bind_some, bN, Option.bind_some, H8 (by omega) (by omega)]
    by_cases h1 : 0 ≤ x.Tet ∧ x.Tet ≤ (ts.length : Int) - 1
    · rw [decide_eq_true h1, if_pos rfl, valid_eq, Option.bind_some, if_neg (by rw [decide_eq_true_eq]; exact h h1)]
    · rw [decide_eq_false h1, if_neg (by decide)]
  have impl0 : ∀ b : Bool, Ab (fun K => if x.Tet = (-1) then (some (decide (x.Perm = 0))) else ((Ei.f ts x.Tet).bind fun t20 => (if t20 = true then ((I4.f x.Perm).bind fun t25 => (if t25 = true then ((Hy.f K x.Tet x.Perm f).bind fun t30 => (if 0 ≤ x.Tet ∧ x.Tet < (ts.length : Int) then (if 0 ≤ t30 ∧ t30 < ((ts.getD x.Tet.toNat []).length : Int) then (bnd ((ts.getD x.Tet.toNat []).getD t30.toNat Ko) (fun e36 => Ed (Gn.f K x.Tet x.Perm a) (fun t38 t39 => (if (e36.Tet, e36.Perm) = (t38, t39) then (if x.Tet = (a : Int) then (some (!(decide (t30 = f)))) else (some true)) else (some false))))) else none) else none)) else (some false))) else (some false)))) b → Ab (fun K => Dv.f K ts (a : Int) (f : Int)) b := fun b h => by
    refine Ab.congr (fun K => ?_) h
    rw [Dv.f, if_pos (by omega), Int.toNat_natCast, if_pos (by omega), Int.toNat_natCast, hx, Fe]
  by_cases ht : x.Tet = -1
  · refine ⟨decide (x.Perm = 0), impl0 _ (Ab.pos ht (Ab.const _)), fun hb v hv => ?_, fun hb => ?_⟩
    · refine enter true v (fun _ => hb.symm) (fun h => absurd ht h) (Ac.step (fun K k => ?_) hv)
      rw [Ar.j40, if_pos rfl, Cc (by omega)]
    · exact enter false false (fun _ => hb.symm) (fun h => absurd ht h) (no false (by decide) (fun h => by omega))
  · by_cases h1 : 0 ≤ x.Tet ∧ x.Tet ≤ (ts.length : Int) - 1
    rotate_left
    · refine ⟨false, impl0 _ (Ab.neg ht ?_), (fun h => by cases h), fun _ => enter false false (fun h => absurd h ht) (fun _ => rfl) (no false (by decide) (fun h => absurd h h1))⟩
      rw [Y2 h8 h4, decide_eq_false h1]; exact Ab.const _
    by_cases h2 : 0 ≤ x.Perm ∧ x.Perm ≤ 23
    rotate_left
    · refine ⟨false, impl0 _ (Ab.neg ht ?_), (fun h => by cases h), fun _ => enter false false (fun h => absurd h ht) (fun _ => rfl) (no false (by decide) (fun _ h => absurd h h2))⟩
      rw [Y2 h8 h4, decide_eq_true h1]
      refine Ab.bind (Ab.const true) (Ab.pos rfl ?_)
      unfold I4.f
      rw [O0, decide_eq_false h2]; exact Ab.const _
    obtain ⟨u, hu⟩ : ∃ u : Nat, x.Tet = u := ⟨x.Tet.toNat, by omega⟩
    obtain ⟨q, hq⟩ : ∃ q : Nat, x.Perm = q := ⟨x.Perm.toNat, by omega⟩
    have hq24 : q < 24 := by omega
    have hs := jB q hq24 f hf
    have h4u := h4 u (by omega)
    have tA : Ab (fun K => K3.f K x.Perm (f : Int)) (atP q f) := by rw [hq]; exact Ab.Zj (qP hq24 hf)
    have tB : Ab (fun K => Gh.f K x.Perm) (Vp q) := by rw [hq]; exact Ab.Zj (iO hq24)
    have iA : Ab (fun K => Hy.f K x.Tet x.Perm (f : Int)) (atP q f) := by rw [hq]; exact Ab.Zj (funext fun K => congrFun (congrFun (qH hq24 hf) K) x.Tet)
    have iB : Ab (fun K => Gn.f K x.Tet x.Perm (a : Int)) ((a : Int), Vp q) := by
      rw [hq]; exact Ab.bind (Ab.Zj (iV hq24)) (Ab.const _)
    generalize hy : (ts.getD x.Tet.toNat []).getD (atP q f).toNat Ko = y
    have hut : (ts.getD x.Tet.toNat []).length = 4 := by rw [hu, Int.toNat_natCast]; exact h4u
    let c : Bool := decide ((y.Tet, y.Perm) = ((a : Int), Vp q)) && !(decide (x.Tet = (a : Int)) && decide (atP q f = (f : Int)))
    have hspec : ∀ v r : Bool, (c = true → Ac (fun K k => Ar.l37 K k ts (a : Int) ((f + 1 : Nat) : Int)) v ∧ r = v) → (c = false → r = false) → Ac (fun K k => Ar.j40 K k ts (a : Int) (f : Int) x false) r := fun v r g1 g2 => by
      refine Ac.step (G := fun K k => (K3.f K x.Perm (f : Int)).bind fun t1613 => (Gh.f K x.Perm).bind fun t1617 => (if 0 ≤ x.Tet ∧ x.Tet < (ts.length : Int) then (if 0 ≤ t1613 ∧ t1613 < ((ts.getD x.Tet.toNat []).length : Int) then (bnd ((ts.getD x.Tet.toNat []).getD t1613.toNat Ko) (fun e1626 => if (e1626.Tet, e1626.Perm) = ((a : Int), t1617) then (if x.Tet = (a : Int) then (if t1613 = (f : Int) then (some false) else (Ar.l37 K k ts (a : Int) (w64 ((f : Int) + 1)))) else (Ar.l37 K k ts (a : Int) (w64 ((f : Int) + 1)))) else (some false))) else none) else none)) (fun K k => ?_) ?_
      · rw [Ar.j40, if_neg (by decide), Gm.f, Option.bind_some, bN, Option.bind_some, H8 (by omega) (by omega), decide_eq_true h1, if_pos rfl, valid_eq, Option.bind_some, decide_eq_true h2, if_pos rfl]
      · refine Ac.bind tA.two (Ac.bind tB.two (Ac.pos (by omega) (Ac.pos (by rw [hut]; omega) ?_)))
        rw [hy]
        simp only [Fe, Cc (show f < 4611686018427387904 by omega)]
        by_cases e1 : (y.Tet, y.Perm) = ((a : Int), Vp q)
        · refine Ac.pos e1 ?_
          by_cases e2 : x.Tet = (a : Int)
          · by_cases e3 : atP q f = (f : Int)
            · have : c = false := by show (_ && _) = false; rw [decide_eq_true e1, decide_eq_true e2, decide_eq_true e3]; rfl
              rw [g2 this]; exact Ac.pos e2 (Ac.pos e3 (Ac.const _))
            · have : c = true := by show (_ && _) = true; rw [decide_eq_true e1, decide_eq_true e2, decide_eq_false e3]; rfl
              rw [(g1 this).2]; exact Ac.pos e2 (Ac.neg e3 (g1 this).1)
          · have : c = true := by show (_ && _) = true; rw [decide_eq_true e1, decide_eq_false e2]; rfl
            rw [(g1 this).2]; exact Ac.neg e2 (g1 this).1
        · have : c = false := by show (_ && _) = false; rw [decide_eq_false e1]; rfl
          rw [g2 this]; exact Ac.neg e1 (Ac.const _)
    refine ⟨c, impl0 _ (Ab.neg ht ?_), fun hb v hv => enter false v (fun h => absurd h ht) (fun _ => rfl) (hspec v v (fun _ => ⟨hv, rfl⟩) (fun h => by rw [hb] at h; cases h)), fun hb => enter false false (fun h => absurd h ht) (fun _ => rfl) (hspec false false (fun h => by rw [hb] at h; cases h) (fun _ => rfl))⟩
    rw [Y2 h8 h4, decide_eq_true h1]
    refine Ab.bind (Ab.const true) (Ab.pos rfl ?_)
    unfold I4.f
    rw [O0, decide_eq_true h2]
    refine Ab.bind (a := true) (Ab.const _) (Ab.pos rfl <| Ab.bind iA (Ab.pos (by omega) (Ab.pos (by rw [hut]; omega) ?_)))
    rw [hy]
    simp only [Fe]
    refine Ab.Ed iB ?_
    by_cases e1 : (y.Tet, y.Perm) = ((a : Int), Vp q)
    · refine Ab.pos e1 ?_
      by_cases e2 : x.Tet = (a : Int)
      · refine Ab.pos e2 ?_
        have : c = !decide (atP q f = (f : Int)) := by show (_ && _) = _; rw [decide_eq_true e1, decide_eq_true e2]; simp
        rw [this]; exact Ab.const _
      · have : c = true := by show (_ && _) = true; rw [decide_eq_true e1, decide_eq_false e2]; rfl
        rw [this]; exact Ab.neg e2 (Ab.const _)
    · have : c = false := by show (_ && _) = false; rw [decide_eq_false e1]; rfl
      rw [this]; exact Ab.neg e1 (Ab.const _)
theorem V8 : ∀ m a, ts.length - a = m → a ≤ ts.length → ∃ b, Ac (fun K k => Ar.l28 K k ts (a : Int)) b ∧ Ac (fun K k => Bp.l1 K k ts (ts.length : Int) (a : Int)) b
  | 0, a, hm, hi => ⟨true, Ac.of fun K k => by rw [Ar.l28, Gm.f, Option.bind_some, if_neg (by omega)], Ac.of fun K k => by rw [Bp.l1, if_neg (by omega)]⟩
  | m + 1, a, hm, hi => by
    obtain ⟨b', t1, t2⟩ := V8 m (a + 1) (by omega) (by omega)
    have ha : a < ts.length := by omega
    obtain ⟨G, hG⟩ : ∃ G : Nat → Bool, ∀ f : Nat, f < 4 → Ab (fun K => Dv.f K ts (a : Int) (f : Int)) (G f) ∧
        (G f = true → ∀ v, Ac (fun K k => Ar.l37 K k ts (a : Int) ((f + 1 : Nat) : Int)) v → Ac (fun K k => Ar.l37 K k ts (a : Int) (f : Int)) v) ∧
        (G f = false → Ac (fun K k => Ar.l37 K k ts (a : Int) (f : Int)) false) :=
      ⟨fun f => if h : f < 4 then Classical.choose (Xr h8 h4 ha h) else false, fun f h => by simp only [dif_pos h]; exact Classical.choose_spec (Xr h8 h4 ha h)⟩
    have s := Lx (l := fun K k i => Ar.l37 K k ts (a : Int) (i : Int)) (n := 4) (P := G) (r := b') (fun i hi hp v hv => (hG i hi).2.1 hp v hv) (fun i hi hp => (hG i hi).2.2 hp)
      (Ac.step (fun K k => by rw [Ar.l37, if_neg (by decide), Cc (by omega)]) t1)
    have i := Lx (l := fun K k i => Bp.l4 K k ts (ts.length : Int) (a : Int) (i : Int)) (n := 4) (P := G) (r := b') (fun i hi hp v hv => by
        refine Ac.step (fun K k => ?_) (Ac.bind (G := fun K k t => if t = true then Bp.l4 K k ts (ts.length : Int) (a : Int) (w64 ((i : Int) + 1)) else some false) (hG i hi).1.two (Ac.pos hp (by rw [Cc (by omega)]; exact hv)))
        rw [Bp.l4, if_pos (by omega)])
      (fun i hi hp => by
        refine Ac.step (fun K k => ?_) (Ac.bind (G := fun K k t => if t = true then Bp.l4 K k ts (ts.length : Int) (a : Int) (w64 ((i : Int) + 1)) else some false) (hG i hi).1.two (Ac.neg (by rw [hp]; decide) (Ac.const _)))
        rw [Bp.l4, if_pos (by omega)])
      (Ac.step (fun K k => by rw [Bp.l4, if_neg (by decide), Cc (by omega)]) t2)
    exact ⟨_, Ac.step (fun K k => by rw [Ar.l28, Gm.f, Option.bind_some, if_pos (by omega)]; rfl) s, Ac.step (fun K k => by rw [Bp.l1, if_pos (by omega)]; rfl) i⟩
end
theorem gQ {α : Type} {l : Nat → Nat → Nat → Option α} {n : Nat} {P : Nat → Bool} {no : α} (go : ∀ i, i < n → P i = true → ∀ v, Ac (fun K k => l K k (i + 1)) v → Ac (fun K k => l K k i) v)
    (stop : ∀ i, i < n → P i = false → Ac (fun K k => l K k i) no) (h : J7 n P = false) : Ac (fun K k => l K k 0) no := by
  have main : ∀ m i, n - i = m → (∃ j, i ≤ j ∧ j < n ∧ P j = false) → Ac (fun K k => l K k i) no := by
    intro m
    induction m with
    | zero => intro i hm ⟨j, h1, h2, _⟩; omega
    | succ m ih =>
      intro i hm ⟨j, h1, h2, h3⟩
      cases hp : P i with
      | false => exact stop i (by omega) hp
      | true => exact go i (by omega) hp _ (ih (i + 1) (by omega) ⟨j, by
          by_cases e : j = i
          · subst e; rw [hp] at h3; cases h3
          · omega, h2, h3⟩)
  unfold J7 at h
  rw [List.all_eq_false] at h
  obtain ⟨j, hj, hn⟩ := h
  exact main n 0 (by omega) ⟨j, Nat.zero_le _, List.mem_range.1 hj, Bool.eq_false_iff.2 hn⟩
theorem jZ (ts : List (List Bt)) (hn : ts.length ≤ 2000000) : ∃ b, Ab (fun K => Ar.f K ts) b ∧ Ab (fun K => Bp.f K ts) b := by
  unfold Ar.f Bp.f F5.f Gm.f
  simp only [Option.bind_some]
  by_cases h8 : 8 < ts.length
  · exact ⟨false, Ab.pos (by omega) (Ab.const _), Ab.pos (by omega) (Ab.const _)⟩
  let P : Nat → Bool := fun i => decide (((ts.getD i []).length : Int) = 4)
  obtain ⟨v, t, e⟩ := Pn (l := fun K k i => Aw.l1 K k ts (i : Int)) (n := ts.length) (P := P) (fun i hi hp v hv => Ac.step (fun K k => by
      rw [Aw.l1, if_pos (by omega), if_pos (by omega), Int.toNat_natCast, Fp.f, Option.bind_some, if_neg (by show ¬ (!P i) = true; rw [hp]; decide), Cc (by omega)]) hv)
    (fun i hi hp => Ac.of fun K k => by rw [Aw.l1, if_pos (by omega), if_pos (by omega), Int.toNat_natCast, Fp.f, Option.bind_some, if_pos (by show (!P i) = true; rw [hp]; rfl)])
    (Ac.of fun K k => by rw [Aw.l1, if_neg (by omega)])
  have tc : Ab (fun K => Cf.f K ts) (!J7 ts.length P) := by
    rw [← e]; exact Ab.bind (F := fun K => Aw.f K ts) t.Ib (Ab.const _)
  cases hA : J7 ts.length P with
  | false =>
    rw [hA] at tc
    refine ⟨false, Ab.neg (by omega) (gQ (l := fun K k i => Ar.l1 K k ts (i : Int)) (n := ts.length) (P := P) (fun i hi hp v hv => Ac.step (fun K k => by
        rw [Ar.l1, if_pos (by omega), if_pos (by omega), Int.toNat_natCast, if_pos (of_decide_eq_true hp), Cc (by omega)]) hv)
      (fun i hi hp => Ac.of fun K k => by rw [Ar.l1, if_pos (by omega), if_pos (by omega), Int.toNat_natCast, if_neg (of_decide_eq_false hp)]) hA).Ib, Ab.neg (by omega) (Ab.bind tc (Ab.pos rfl (Ab.const _)))⟩
  | true =>
    rw [hA] at tc
    have h4 : ∀ i, i < ts.length → (ts.getD i []).length = 4 := fun i hi => by
      have := of_decide_eq_true (Qt hA hi)
      omega
    obtain ⟨b, t1, t2⟩ := V8 (by omega) h4 ts.length 0 (by omega) (by omega)
    have hs := Lx (l := fun K k i => Ar.l1 K k ts (i : Int)) (n := ts.length) (P := P) (r := b) (fun i hi hp v hv => Ac.step (fun K k => by
        rw [Ar.l1, if_pos (by omega), if_pos (by omega), Int.toNat_natCast, if_pos (of_decide_eq_true hp), Cc (by omega)]) hv)
      (fun i hi hp => Ac.of fun K k => by rw [Ar.l1, if_pos (by omega), if_pos (by omega), Int.toNat_natCast, if_neg (of_decide_eq_false hp)])
      (Ac.step (fun K k => by rw [Ar.l1, if_neg (by omega)]; rfl) t1)
    rw [hA, Bool.true_and] at hs
    exact ⟨b, Ab.neg (by omega) hs.Ib, Ab.neg (by omega) (Ab.bind tc (Ab.neg (by decide) t2.Ib))⟩
end Go.Proofs.YtkmeepgpmppibaaGreatDoor
