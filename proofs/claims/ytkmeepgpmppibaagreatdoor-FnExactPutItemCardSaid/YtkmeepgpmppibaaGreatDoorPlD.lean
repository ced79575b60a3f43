/-
  The scan of all positions: the program's lists of ends and the reference's marks run in step; when both go through, every arc has its one way in and its one way out.
-/
import Derived.Test.YtkmeepgpmppibaaGreatDoorPlC
set_option linter.unusedVariables false
set_option linter.unusedSimpArgs false
set_option linter.unusedSectionVars false
namespace Go.Proofs.YtkmeepgpmppibaaGreatDoor
open Go.RowKit
theorem count_set : ∀ (l : List Bool) (i : Nat), l[i]? = some false → (l.set i true).count true = l.count true + 1
  | b :: r, 0, h => by
    obtain rfl : b = false := by simpa using h
    simp
  | b :: r, i + 1, h => by
    have := count_set r i (by simpa using h)
    rw [List.set_cons_succ, List.count_cons, List.count_cons, this]
    omega
def Tc (xs : List Al) : Nat → Nat
  | 0 => 0
  | q + 1 => Tc xs q + (if Kn xs q = true then 1 else 0)
def Sz (xs : List Al) : Prop := ∀ c, c < xs.length → (xs.getD c Au).Sign = 1 ∨ (xs.getD c Au).Sign = -1
theorem yJ {x : Al} (h : x.Sign = 1 ∨ x.Sign = -1) : (if ent x 0 = true then 1 else 0) + (if ent x 1 = true then 1 else 0) + (if ent x 2 = true then 1 else 0) + (if ent x 3 = true then 1 else 0) = 2 := by
  unfold ent
  rcases h with h | h <;> rw [h] <;> decide
theorem X7 {xs : List Al} (hs : Sz xs) : ∀ c, c ≤ xs.length → Tc xs (4 * c) = 2 * c
  | 0, _ => rfl
  | c + 1, h => by
    have h1 := X7 hs c (by omega)
    have h2 := yJ (hs c (by omega))
    have e0 : Kn xs (4 * c) = ent (xs.getD c Au) 0 := Ot xs (c := c) (p := 0) (by omega)
    have e1 := Ot xs (c := c) (p := 1) (by omega)
    have e2 := Ot xs (c := c) (p := 2) (by omega)
    have e3 := Ot xs (c := c) (p := 3) (by omega)
    show Tc xs (4 * c + 1 + 1 + 1 + 1) = _
    simp only [Tc]
    rw [show 4 * c + 1 + 1 + 1 = 4 * c + 3 by omega, show 4 * c + 1 + 1 = 4 * c + 2 by omega, e0, e1, e2, e3]
    rw [h1]
    omega
theorem Uq {x : Al} (h : x.Sign = 1 ∨ x.Sign = -1) {p : Nat} (hp : p < 4) : Fu.f x.A x.B x.C x.D x.Sign (p : Int) = some (ent x p) := by
  unfold Fu.f ent
  have hw : w64 (2 + x.Sign) = 2 + x.Sign := H8 (by omega) (by omega)
  rw [hw]
  match p, hp with
  | 0, _ => rfl
  | 1, _ => rcases h with h | h <;> rw [h] <;> decide
  | 2, _ => rcases h with h | h <;> rw [h] <;> decide
  | 3, _ => rcases h with h | h <;> rw [h] <;> decide
theorem uV (a : Int) (n : Nat) (hn : n ≤ 2000000) : Dx.f a 0 (w64 (w64 (2 * (n : Int)) - 1)) = some (decide (0 ≤ a ∧ a < 2 * (n : Int))) := by
  rw [H8 (x := 2 * (n : Int)) (by omega) (by omega), H8 (by omega) (by omega)]
  unfold Dx.f
  by_cases h : 0 ≤ a
  · rw [if_pos h]
    congr 1
    rw [decide_eq_decide]
    omega
  · rw [if_neg h]
    congr 1
    exact (decide_eq_false (by omega)).symm
theorem has_eq (l : List Fv) (a : Int) (hl : l.length ≤ 4000000) : Du.f l a = some (decide (0 ≤ a ∧ a < (l.length : Int))) := by
  unfold Du.f Ih.f Ct.f
  rw [Option.bind_some, H8 (by omega) (by omega)]
  by_cases h : 0 ≤ a
  · rw [if_pos h, Option.bind_some]
    congr 1
    rw [decide_eq_decide]
    omega
  · rw [if_neg h, Option.bind_some]
    congr 1
    exact (decide_eq_false (by omega)).symm
def N9 (q : Nat) : Fv := ⟨((q / 4 : Nat) : Int), ((q % 4 : Nat) : Int)⟩
structure Side (xs : List Al) (b : Bool) (q : Nat) (l : List Fv) (t : List Bool) : Prop where
  len : l.length = 2 * xs.length
  Tp : t.length = 2 * xs.length
  has : ∀ q', q' < q → Kn xs q' = b → 0 ≤ Gj xs q' ∧ Gj xs q' < 2 * (xs.length : Int) ∧ l[(Gj xs q').toNat]? = some (N9 q')
  back : ∀ i, i < 2 * xs.length → 0 ≤ (l.getD i Jf).crossing → ∃ q', q' < q ∧ Kn xs q' = b ∧ Gj xs q' = (i : Int)
  mark : ∀ i, i < 2 * xs.length → t.getD i false = decide (0 ≤ (l.getD i Jf).crossing)
theorem Side.skip {xs : List Al} {b : Bool} {q : Nat} {l : List Fv} {t : List Bool} (h : Side xs b q l t) (hb : Kn xs q ≠ b) : Side xs b (q + 1) l t :=
  ⟨h.len, h.Tp, fun q' hq he => by
    rcases Nat.lt_or_ge q' q with h1 | h1
    · exact h.has q' h1 he
    · obtain rfl : q' = q := by omega
      exact absurd he hb, fun i hi hc => by
    obtain ⟨q', h1, h2⟩ := h.back i hi hc
    exact ⟨q', by omega, h2⟩, h.mark⟩
theorem Side.put {xs : List Al} {b : Bool} {q : Nat} {l : List Fv} {t : List Bool} (h : Side xs b q l t) (hb : Kn xs q = b) (h0 : 0 ≤ Gj xs q) (h1 : Gj xs q < 2 * (xs.length : Int)) (hfree : ¬ 0 ≤ (l.getD (Gj xs q).toNat Jf).crossing) :
    Side xs b (q + 1) (l.set (Gj xs q).toNat (N9 q)) (t.set (Gj xs q).toNat true) := by
  have hi : (Gj xs q).toNat < 2 * xs.length := by omega
  have hget : ∀ i, i < 2 * xs.length → (l.set (Gj xs q).toNat (N9 q)).getD i Jf = if (Gj xs q).toNat = i then N9 q else l.getD i Jf := fun i hi' => by
    rw [List.getD_eq_getElem?_getD, List.getElem?_set]
    by_cases he : (Gj xs q).toNat = i
    · subst he; simp [h.len, hi]
    · simp [he]
  have hc0 : 0 ≤ (N9 q).crossing := by unfold N9; exact Int.natCast_nonneg _
  refine ⟨by rw [List.length_set]; exact h.len, by rw [List.length_set]; exact h.Tp, fun q' hq he => ?_, fun i hi' hc => ?_, fun i hi' => ?_⟩
  · rcases Nat.lt_or_ge q' q with hlt | hge
    · obtain ⟨p0, p1, p2⟩ := h.has q' hlt he
      refine ⟨p0, p1, ?_⟩
      have hne : (Gj xs q).toNat ≠ (Gj xs q').toNat := fun e => hfree (by rw [e, List.getD_eq_getElem?_getD, p2]; exact Int.natCast_nonneg _)
      rw [List.getElem?_set_ne hne]
      exact p2
    · obtain rfl : q' = q := by omega
      exact ⟨h0, h1, List.getElem?_set_self (by rw [h.len]; exact hi)⟩
  · rw [hget i hi'] at hc
    by_cases he : (Gj xs q).toNat = i
    · exact ⟨q, by omega, hb, by omega⟩
    · rw [if_neg he] at hc
      obtain ⟨q', h1', h2'⟩ := h.back i hi' hc
      exact ⟨q', by omega, h2'⟩
  · rw [hget i hi', List.getD_eq_getElem?_getD, List.getElem?_set]
    by_cases he : (Gj xs q).toNat = i
    · subst he; simp [h.Tp, hi, hc0]
    · simp only [he, if_false]
      rw [← List.getD_eq_getElem?_getD]
      exact h.mark i hi'
structure Both (xs : List Al) (q : Nat) (f t : List Fv) (tin tout : List Bool) : Prop where
  inn : Side xs true q t tin
  out : Side xs false q f tout
  cin : tin.count true = Tc xs q
  cout : tout.count true + Tc xs q = q
structure Good (xs : List Al) (f t : List Fv) : Prop where
  qB : f.length = 2 * xs.length
  Tp : t.length = 2 * xs.length
  tin : ∀ q, q < 4 * xs.length → Kn xs q = true → 0 ≤ Gj xs q ∧ Gj xs q < 2 * (xs.length : Int) ∧ t[(Gj xs q).toNat]? = some (N9 q)
  jR : ∀ q, q < 4 * xs.length → Kn xs q = false → 0 ≤ Gj xs q ∧ Gj xs q < 2 * (xs.length : Int) ∧ f[(Gj xs q).toNat]? = some (N9 q)
  wS : ∀ i, i < 2 * xs.length → ∃ q, q < 4 * xs.length ∧ Kn xs q = true ∧ Gj xs q = (i : Int)
  fall : ∀ i, i < 2 * xs.length → ∃ q, q < 4 * xs.length ∧ Kn xs q = false ∧ Gj xs q = (i : Int)
theorem Tn {l : List Bool} (h : l.count true = l.length) {i : Nat} (hi : i < l.length) : l.getD i false = true := by
  have := List.count_eq_length.1 h (l[i]) (List.getElem_mem hi)
  rw [List.getD_eq_getElem?_getD, List.getElem?_eq_getElem hi]
  exact this.symm
theorem Both.good {xs : List Al} {f t : List Fv} {tin tout : List Bool} (hs : Sz xs) (h : Both xs (4 * xs.length) f t tin tout) : Good xs f t := by
  have he := X7 hs xs.length (Nat.le_refl _)
  refine ⟨h.out.len, h.inn.len, fun q hq hb => h.inn.has q hq hb, fun q hq hb => h.out.has q hq hb, fun i hi => ?_, fun i hi => ?_⟩
  · have hm := h.inn.mark i hi
    rw [Tn (by rw [h.cin, he, h.inn.Tp]) (by rw [h.inn.Tp]; exact hi)] at hm
    exact h.inn.back i hi (of_decide_eq_true hm.symm)
  · have hm := h.out.mark i hi
    have hc := h.cout
    rw [Tn (by rw [h.out.Tp]; omega) (by rw [h.out.Tp]; exact hi)] at hm
    exact h.out.back i hi (of_decide_eq_true hm.symm)
structure Inj (xs : List Al) : Prop where
  range : ∀ q, q < 4 * xs.length → 0 ≤ Gj xs q ∧ Gj xs q < 2 * (xs.length : Int)
  one : ∀ q q', q < 4 * xs.length → q' < 4 * xs.length → Gj xs q = Gj xs q' → Kn xs q = Kn xs q' → q = q'
section
variable {xs : List Al} (hn : xs.length ≤ 10) (hs : Sz xs)
include hn
theorem Nf {c : Nat} (hc : c < xs.length) (hs : (xs.getD c Au).Sign = 1 ∨ (xs.getD c Au).Sign = -1) {tin tout : List Bool} {r : Bool} (h : Ac (fun K k => Bf.l13 K k xs (c : Int) (xs.getD c Au) tin tout 0) r) :
    Ac (fun K k => Bf.l1 K k xs tin tout (c : Int)) r := by
  refine Ac.succ (Ac.congr (G := fun K k => Bf.j12 K k xs tin tout (c : Int) (xs.getD c Au) false) (fun K k => ?_) (Ac.succ (Ac.congr (fun K k => ?_) h)))
  · rw [Bf.l1, if_pos (by omega), if_pos (by omega), Fe, Int.toNat_natCast]
    rcases hs with h1 | h1
    · rw [if_pos h1]
    · rw [if_neg (by omega), h1]; rfl
  · rw [Bf.j12, if_neg (by decide)]
theorem O5 {c : Nat} (hc : c < xs.length) {f t : List Fv} {r} (h : Ac (fun K k => Bg.l10 K k xs (c : Int) (xs.getD c Au) (xs.getD c Au).A (xs.getD c Au).B (xs.getD c Au).C (xs.getD c Au).D f t 0) r) :
    Ac (fun K k => Bg.l1 K k xs f t (c : Int)) r := by
  refine Ac.succ (Ac.congr (fun K k => ?_) h)
  rw [Bg.l1, if_pos (by omega), if_pos (by omega), Fe, Int.toNat_natCast]
  rfl
include hs
theorem scan : ∀ (m c p : Nat) (f t : List Fv) (tin tout : List Bool), 5 * c + p + m = 5 * xs.length → p ≤ 4 → c < xs.length → Both xs (4 * c + p) f t tin tout →
    (Ac (fun K k => Bf.l13 K k xs (c : Int) (xs.getD c Au) tin tout (p : Int)) false ∧ ∃ f' t', Ac (fun K k => Bg.l10 K k xs (c : Int) (xs.getD c Au) (xs.getD c Au).A (xs.getD c Au).B (xs.getD c Au).C (xs.getD c Au).D f t (p : Int)) (f', t', false) ∧ ¬ Inj xs) ∨
    (Ac (fun K k => Bf.l13 K k xs (c : Int) (xs.getD c Au) tin tout (p : Int)) true ∧ ∃ f' t', Ac (fun K k => Bg.l10 K k xs (c : Int) (xs.getD c Au) (xs.getD c Au).A (xs.getD c Au).B (xs.getD c Au).C (xs.getD c Au).D f t (p : Int)) (f', t', true) ∧ Good xs f' t')
  | 0, c, p, f, t, tin, tout, hm, hp, hc, hB => by omega
  | m + 1, c, p, f, t, tin, tout, hm, hp, hc, hB => by
    by_cases h4 : p < 4
    · have hE := Tj xs (c := c) h4
      have hN := Ot xs (c := c) h4
      have hget : ([(xs.getD c Au).A, (xs.getD c Au).B, (xs.getD c Au).C, (xs.getD c Au).D] : List Int).getD p 0 = Gj xs (4 * c + p) := by rw [hE]; rfl
      have hend : (⟨(c : Int), (p : Int)⟩ : Fv) = N9 (4 * c + p) := by unfold N9; rw [Y1 h4, Y5 h4]
      generalize ha : Gj xs (4 * c + p) = a at *
      -- both ways' first steps
      have hS : ∀ K k, Bf.l13 K (k + 1) xs (c : Int) (xs.getD c Au) tin tout (p : Int) = if decide (0 ≤ a ∧ a < 2 * (xs.length : Int)) = true then (if Kn xs (4 * c + p) = true then (if 0 ≤ a ∧ a < (tin.length : Int) then (if (tin.getD a.toNat false) = true then some false else Bf.l13 K k xs (c : Int) (xs.getD c Au) (tin.set a.toNat true) tout ((p + 1 : Nat) : Int)) else none) else (if 0 ≤ a ∧ a < (tout.length : Int) then (if (tout.getD a.toNat false) = true then some false else Bf.l13 K k xs (c : Int) (xs.getD c Au) tin (tout.set a.toNat true) ((p + 1 : Nat) : Int)) else none)) else some false := fun K k => by
        rw [Bf.l13, if_pos (by omega), Y7 _ h4, ← hE, Option.bind_some, uV _ _ (by omega), Option.bind_some, Ry _ h4, ← hN, Option.bind_some, Cc (by omega)]
      have hI : ∀ K k, Bg.l10 K (k + 1) xs (c : Int) (xs.getD c Au) (xs.getD c Au).A (xs.getD c Au).B (xs.getD c Au).C (xs.getD c Au).D f t (p : Int) = if Kn xs (4 * c + p) = true then (if decide (0 ≤ a ∧ a < (t.length : Int)) = true then (if 0 ≤ a ∧ a < (t.length : Int) then (if 0 ≤ (t.getD a.toNat Jf).crossing then some (f, t, false) else Bg.l10 K k xs (c : Int) (xs.getD c Au) (xs.getD c Au).A (xs.getD c Au).B (xs.getD c Au).C (xs.getD c Au).D f (t.set a.toNat (N9 (4 * c + p))) ((p + 1 : Nat) : Int)) else none) else some (f, t, false)) else (if decide (0 ≤ a ∧ a < (f.length : Int)) = true then (if 0 ≤ a ∧ a < (f.length : Int) then (if 0 ≤ (f.getD a.toNat Jf).crossing then some (f, t, false) else Bg.l10 K k xs (c : Int) (xs.getD c Au) (xs.getD c Au).A (xs.getD c Au).B (xs.getD c Au).C (xs.getD c Au).D (f.set a.toNat (N9 (4 * c + p))) t ((p + 1 : Nat) : Int)) else none) else some (f, t, false)) := fun K k => by
        rw [Bg.l10, if_pos (by omega), if_pos (by omega), Uq (hs c hc) h4, ← hN, Option.bind_some, Int.toNat_natCast, hget, has_eq _ _ (by rw [hB.inn.len]; omega), has_eq _ _ (by rw [hB.out.len]; omega), Option.bind_some, Option.bind_some, Fe, Fe, Cc (by omega), hend]
      by_cases hr : 0 ≤ a ∧ a < 2 * (xs.length : Int)
      · have hti : (tin.length : Int) = 2 * (xs.length : Int) := by rw [hB.inn.Tp]; omega
        have hto : (tout.length : Int) = 2 * (xs.length : Int) := by rw [hB.out.Tp]; omega
        have hfl : (f.length : Int) = 2 * (xs.length : Int) := by rw [hB.out.len]; omega
        have htl : (t.length : Int) = 2 * (xs.length : Int) := by rw [hB.inn.len]; omega
        have hia : a.toNat < 2 * xs.length := by omega
        cases hb : Kn xs (4 * c + p) with
        | true =>
          have hmk := hB.inn.mark a.toNat hia
          by_cases hu : 0 ≤ (t.getD a.toNat Jf).crossing
          · rw [decide_eq_true hu] at hmk
            refine .inl ⟨Ac.succ (Ac.congr hS ?_), f, t, Ac.succ (Ac.congr hI ?_), fun hj => (by obtain ⟨q', k1, k2, k3⟩ := hB.inn.back a.toNat hia hu; have := hj.one q' (4 * c + p) (by omega) (by omega) (by omega) (by rw [k2, hb]); omega)⟩
            · rw [hb]
              exact Ac.pos (decide_eq_true hr) (Ac.pos rfl (Ac.pos (by rw [hti]; exact hr) (Ac.pos hmk (Ac.const _))))
            · rw [hb]
              exact Ac.pos rfl (Ac.pos (decide_eq_true (by rw [htl]; exact hr)) (Ac.pos (by rw [htl]; exact hr) (Ac.pos hu (Ac.const _))))
          · rw [decide_eq_false hu] at hmk
            have hB' : Both xs (4 * c + (p + 1)) f (t.set a.toNat (N9 (4 * c + p))) (tin.set a.toNat true) tout := by
              refine ⟨?_, hB.out.skip (by rw [hb]; decide), ?_, ?_⟩
              · have := hB.inn.put hb (by rw [ha]; exact hr.1) (by rw [ha]; exact hr.2) (by rw [ha]; exact hu)
                rw [ha] at this
                exact this
              · rw [count_set _ _ (by rw [← hmk]; exact getD_some (by rw [hB.inn.Tp]; exact hia)), hB.cin]
                show _ = Tc xs (4 * c + p + 1)
                rw [Tc, if_pos hb]
              · show _ + Tc xs (4 * c + p + 1) = _
                rw [Tc, if_pos hb]
                have := hB.cout
                omega
            have ih := scan m c (p + 1) f _ _ tout (by omega) (by omega) hc hB'
            have gS : ∀ {r}, Ac (fun K k => Bf.l13 K k xs (c : Int) (xs.getD c Au) (tin.set a.toNat true) tout ((p + 1 : Nat) : Int)) r → Ac (fun K k => Bf.l13 K k xs (c : Int) (xs.getD c Au) tin tout (p : Int)) r := fun h => by
              refine Ac.succ (Ac.congr hS ?_)
              rw [hb]
              exact Ac.pos (decide_eq_true hr) (Ac.pos rfl (Ac.pos (by rw [hti]; exact hr) (Ac.neg (by rw [hmk]; decide) h)))
            have gI : ∀ {r}, Ac (fun K k => Bg.l10 K k xs (c : Int) (xs.getD c Au) (xs.getD c Au).A (xs.getD c Au).B (xs.getD c Au).C (xs.getD c Au).D f (t.set a.toNat (N9 (4 * c + p))) ((p + 1 : Nat) : Int)) r → Ac (fun K k => Bg.l10 K k xs (c : Int) (xs.getD c Au) (xs.getD c Au).A (xs.getD c Au).B (xs.getD c Au).C (xs.getD c Au).D f t (p : Int)) r := fun h => by
              refine Ac.succ (Ac.congr hI ?_)
              rw [hb]
              exact Ac.pos rfl (Ac.pos (decide_eq_true (by rw [htl]; exact hr)) (Ac.pos (by rw [htl]; exact hr) (Ac.neg hu h)))
            rcases ih with ⟨h1, f', t', h2, h3⟩ | ⟨h1, f', t', h2, h3⟩
            · exact .inl ⟨gS h1, f', t', gI h2, h3⟩
            · exact .inr ⟨gS h1, f', t', gI h2, h3⟩
        | false =>
          have hmk := hB.out.mark a.toNat hia
          by_cases hu : 0 ≤ (f.getD a.toNat Jf).crossing
          · rw [decide_eq_true hu] at hmk
            refine .inl ⟨Ac.succ (Ac.congr hS ?_), f, t, Ac.succ (Ac.congr hI ?_), fun hj => (by obtain ⟨q', k1, k2, k3⟩ := hB.out.back a.toNat hia hu; have := hj.one q' (4 * c + p) (by omega) (by omega) (by omega) (by rw [k2, hb]); omega)⟩
            · rw [hb]
              exact Ac.pos (decide_eq_true hr) (Ac.neg (by decide) (Ac.pos (by rw [hto]; exact hr) (Ac.pos hmk (Ac.const _))))
            · rw [hb]
              exact Ac.neg (by decide) (Ac.pos (decide_eq_true (by rw [hfl]; exact hr)) (Ac.pos (by rw [hfl]; exact hr) (Ac.pos hu (Ac.const _))))
          · rw [decide_eq_false hu] at hmk
            have hB' : Both xs (4 * c + (p + 1)) (f.set a.toNat (N9 (4 * c + p))) t tin (tout.set a.toNat true) := by
              refine ⟨hB.inn.skip (by rw [hb]; decide), ?_, ?_, ?_⟩
              · have := hB.out.put hb (by rw [ha]; exact hr.1) (by rw [ha]; exact hr.2) (by rw [ha]; exact hu)
                rw [ha] at this
                exact this
              · show _ = Tc xs (4 * c + p + 1)
                rw [Tc, if_neg (by rw [hb]; decide)]
                exact hB.cin
              · rw [count_set _ _ (by rw [← hmk]; exact getD_some (by rw [hB.out.Tp]; exact hia))]
                show _ + Tc xs (4 * c + p + 1) = _
                rw [Tc, if_neg (by rw [hb]; decide)]
                have := hB.cout
                omega
            have ih := scan m c (p + 1) _ t tin _ (by omega) (by omega) hc hB'
            have gS : ∀ {r}, Ac (fun K k => Bf.l13 K k xs (c : Int) (xs.getD c Au) tin (tout.set a.toNat true) ((p + 1 : Nat) : Int)) r → Ac (fun K k => Bf.l13 K k xs (c : Int) (xs.getD c Au) tin tout (p : Int)) r := fun h => by
              refine Ac.succ (Ac.congr hS ?_)
              rw [hb]
              exact Ac.pos (decide_eq_true hr) (Ac.neg (by decide) (Ac.pos (by rw [hto]; exact hr) (Ac.neg (by rw [hmk]; decide) h)))
            have gI : ∀ {r}, Ac (fun K k => Bg.l10 K k xs (c : Int) (xs.getD c Au) (xs.getD c Au).A (xs.getD c Au).B (xs.getD c Au).C (xs.getD c Au).D (f.set a.toNat (N9 (4 * c + p))) t ((p + 1 : Nat) : Int)) r → Ac (fun K k => Bg.l10 K k xs (c : Int) (xs.getD c Au) (xs.getD c Au).A (xs.getD c Au).B (xs.getD c Au).C (xs.getD c Au).D f t (p : Int)) r := fun h => by
              refine Ac.succ (Ac.congr hI ?_)
              rw [hb]
              exact Ac.neg (by decide) (Ac.pos (decide_eq_true (by rw [hfl]; exact hr)) (Ac.pos (by rw [hfl]; exact hr) (Ac.neg hu h)))
            rcases ih with ⟨h1, f', t', h2, h3⟩ | ⟨h1, f', t', h2, h3⟩
            · exact .inl ⟨gS h1, f', t', gI h2, h3⟩
            · exact .inr ⟨gS h1, f', t', gI h2, h3⟩
      · refine .inl ⟨Ac.succ (Ac.congr hS (Ac.neg (by rw [decide_eq_false hr]; decide) (Ac.const _))), f, t, Ac.succ (Ac.congr hI ?_), fun hj => hr (by have := hj.range (4 * c + p) (by omega); rw [ha] at this; exact this)⟩
        have hrt : ¬ (0 ≤ a ∧ a < (t.length : Int)) := by rw [hB.inn.len]; omega
        have hrf : ¬ (0 ≤ a ∧ a < (f.length : Int)) := by rw [hB.out.len]; omega
        cases hb : Kn xs (4 * c + p) with
        | true => exact Ac.pos rfl (Ac.neg (by rw [decide_eq_false hrt]; decide) (Ac.const _))
        | false => exact Ac.neg (by decide) (Ac.neg (by rw [decide_eq_false hrf]; decide) (Ac.const _))
    · obtain rfl : p = 4 := by omega
      have gS : ∀ {r}, Ac (fun K k => Bf.l1 K k xs tin tout ((c + 1 : Nat) : Int)) r → Ac (fun K k => Bf.l13 K k xs (c : Int) (xs.getD c Au) tin tout ((4 : Nat) : Int)) r := fun h => by
        refine Ac.succ (Ac.congr (fun K k => ?_) h)
        rw [Bf.l13, if_neg (by omega), Cc (by omega)]
      have gI : ∀ {r}, Ac (fun K k => Bg.l1 K k xs f t ((c + 1 : Nat) : Int)) r → Ac (fun K k => Bg.l10 K k xs (c : Int) (xs.getD c Au) (xs.getD c Au).A (xs.getD c Au).B (xs.getD c Au).C (xs.getD c Au).D f t ((4 : Nat) : Int)) r := fun h => by
        refine Ac.succ (Ac.congr (fun K k => ?_) h)
        rw [Bg.l10, if_neg (by omega), Cc (by omega)]
      by_cases hc1 : c + 1 < xs.length
      · have ih := scan m (c + 1) 0 f t tin tout (by omega) (by omega) hc1 (by rw [show 4 * (c + 1) + 0 = 4 * c + 4 by omega]; exact hB)
        rcases ih with ⟨h1, f', t', h2, h3⟩ | ⟨h1, f', t', h2, h3⟩
        · exact .inl ⟨gS (Nf hn hc1 (hs _ hc1) h1), f', t', gI (O5 hn hc1 h2), h3⟩
        · exact .inr ⟨gS (Nf hn hc1 (hs _ hc1) h1), f', t', gI (O5 hn hc1 h2), h3⟩
      · have hB' : Both xs (4 * xs.length) f t tin tout := by rw [show 4 * xs.length = 4 * c + 4 by omega]; exact hB
        refine .inr ⟨gS (Ac.succ (Ac.congr (fun K k => ?_) (Ac.const true))), f, t, gI (Ac.succ (Ac.congr (fun K k => ?_) (Ac.const (f, t, true)))), hB'.good hs⟩
        · rw [Bf.l1, if_neg (by omega)]
        · rw [Bg.l1, if_neg (by omega)]
end
end Go.Proofs.YtkmeepgpmppibaaGreatDoor
