/-
  The classes of vertices, edges and faces: both sides join the same pairs.
-/
import Derived.Test.YtbjfinndngafoaaGreatPlT7
set_option linter.unusedVariables false
set_option linter.unusedSimpArgs false
set_option linter.unusedSectionVars false
namespace Go.Proofs.YtbjfinndngafoaaGreat
open Go.RowKit
def LJ (F : Nat → List (Nat × Nat)) : Nat → List (Nat × Nat)
  | 0 => []
  | i + 1 => LJ F i ++ F i
theorem LJ_mem {F : Nat → List (Nat × Nat)} {p : Nat × Nat} : ∀ {m : Nat}, p ∈ LJ F m ↔ ∃ i, i < m ∧ p ∈ F i
  | 0 => ⟨fun h => (List.not_mem_nil h).elim, fun ⟨i, h, _⟩ => by omega⟩
  | m + 1 => by
    rw [LJ, List.mem_append, LJ_mem]
    constructor
    · rintro (⟨i, h1, h2⟩ | h)
      · exact ⟨i, by omega, h2⟩
      · exact ⟨m, by omega, h⟩
    · rintro ⟨i, h1, h2⟩
      by_cases e : i = m
      · subst e; exact .inr h2
      · exact .inl ⟨i, by omega, h2⟩
def je (x : GFace) (a f e : Nat) : List (Nat × Nat) := if EA e = f ∨ EB e = f then [] else [(6 * a + e, 6 * x.Tet.toNat + EE (PA x.Perm.toNat (EA e)) (PA x.Perm.toNat (EB e)))]
def jv (x : GFace) (a f v : Nat) : List (Nat × Nat) := if v = f then [] else [(4 * a + v, 4 * x.Tet.toNat + PA x.Perm.toNat v)]
def jf (x : GFace) (a f : Nat) : List (Nat × Nat) := [(4 * a + f, 4 * x.Tet.toNat + PA x.Perm.toNat f)]
def JEf (ts : List (List GFace)) (a f : Nat) : List (Nat × Nat) := if (face ts a f).Tet < 0 then [] else LJ (je (face ts a f) a f) 6
def JVf (ts : List (List GFace)) (a f : Nat) : List (Nat × Nat) := if (face ts a f).Tet < 0 then [] else LJ (jv (face ts a f) a f) 4
def JFf (ts : List (List GFace)) (a f : Nat) : List (Nat × Nat) := if (face ts a f).Tet < 0 then [] else jf (face ts a f) a f
def JE (ts : List (List GFace)) : List (Nat × Nat) := LJ (fun a => LJ (JEf ts a) 4) ts.length
def JV (ts : List (List GFace)) : List (Nat × Nat) := LJ (fun a => LJ (JVf ts a) 4) ts.length
def JF (ts : List (List GFace)) : List (Nat × Nat) := LJ (fun a => LJ (JFf ts a) 4) ts.length
theorem w6 {c a e : Nat} (hc : c ≤ 6) (ha : a ≤ 8) (he : e ≤ 6) : w64 ((w64 ((c : Int) * (a : Int))) + (e : Int)) = ((c * a + e : Nat) : Int) := by
  have : c * a ≤ 6 * 8 := Nat.mul_le_mul hc ha
  have h2 : (c : Int) * (a : Int) = ((c * a : Nat) : Int) := by simp
  rw [h2, w64_id (x := ((c * a : Nat) : Int)) (by omega) (by omega), w64_id (by omega) (by omega)]
  omega
theorem w6' {c a : Nat} (hc : c ≤ 6) (ha : a ≤ 8) : w64 ((c : Int) * (a : Int)) = ((c * a : Nat) : Int) := by
  have : c * a ≤ 6 * 8 := Nat.mul_le_mul hc ha
  have h2 : (c : Int) * (a : Int) = ((c * a : Nat) : Int) := by simp
  rw [h2, w64_id (by omega) (by omega)]
theorem mul_lt {c a e n : Nat} (ha : a < n) (he : e < c) : c * a + e < c * n := by
  have : c * (a + 1) ≤ c * n := Nat.mul_le_mul_left c ha
  rw [Nat.mul_succ] at this; omega
theorem get4 {p k : Nat} (hk : k < 4) : ([(PA p 0 : Int), (PA p 1 : Int), (PA p 2 : Int), (PA p 3 : Int)] : List Int).getD (k : Int).toNat 0 = (PA p k : Int) := by
  rw [Int.toNat_natCast]
  exact getD4 (f := PA p) rfl rfl rfl rfl hk
theorem edge_img {p e : Nat} (hp : p < 24) (he : e < 6) : PA p (EA e) < 4 ∧ PA p (EB e) < 4 ∧ PA p (EA e) ≠ PA p (EB e) ∧ EE (PA p (EA e)) (PA p (EB e)) < 6 := by
  obtain ⟨h1, h2, h3⟩ := EAB he
  have g1 := PA_lt hp (show EA e < 4 by omega)
  have g2 := PA_lt hp h2
  have g3 : PA p (EA e) ≠ PA p (EB e) := fun h => by have := PA_inj hp (by omega) h2 h; omega
  exact ⟨g1, g2, g3, (EE_of g1 g2 g3).1⟩
section
variable {n : Nat} (hn : n ≤ 8) {a f b p : Nat} (ha : a < n) (hf : f < 4) (hb : b < n) (hp : p < 24) {J : List (Nat × Nat)}
include hn ha hf hb hp
theorem ec_l1 : ∀ (d e : Nat) (s : List Int), 6 - e = d → e ≤ 6 → Parted (6 * n) (J ++ LJ (je ⟨b, p⟩ a f) e) s →
    ∃ s', Tends2 (fun K k => impl_Triangulation_edgeClasses_fn1_free.l1 K k (a : Int) (f : Int) (b : Int) (PA p 0 : Int) (PA p 1 : Int) (PA p 2 : Int) (PA p 3 : Int) s (e : Int)) s' ∧ s'.length = s.length ∧ Parted (6 * n) (J ++ LJ (je ⟨b, p⟩ a f) 6) s'
  | 0, e, s, hd, he, hs => by
    obtain rfl : e = 6 := by omega
    exact ⟨s, Tends2.of fun K k => by rw [impl_Triangulation_edgeClasses_fn1_free.l1, if_neg (by decide)], rfl, hs⟩
  | d + 1, e, s, hd, he, hs => by
    have he6 : e < 6 := by omega
    obtain ⟨q1, q2, q3⟩ := EAB he6
    obtain ⟨g1, g2, g3, g4⟩ := edge_img hp he6
    by_cases hc : EA e = f ∨ EB e = f
    · have hs' : Parted (6 * n) (J ++ LJ (je ⟨b, p⟩ a f) (e + 1)) s := by rw [LJ, je, if_pos hc, List.append_nil]; exact hs
      obtain ⟨s', t, l, h⟩ := ec_l1 d (e + 1) s (by omega) (by omega) hs'
      refine ⟨s', Tends2.step (fun K k => by rw [impl_Triangulation_edgeClasses_fn1_free.l1, if_pos (by omega), w64_succ (by omega)]) (Tends2.bind2 (ends_t he6).two ?_), l, h⟩
      by_cases h1 : EA e = f
      · exact Tends2.pos (by omega) t
      · exact Tends2.neg (by omega) (Tends2.pos (by omega) t)
    · obtain ⟨s1, t1, l1, h1⟩ := unionP (by omega) hs (i := 6 * a + e) (k := 6 * b + EE (PA p (EA e)) (PA p (EB e))) (mul_lt ha he6) (mul_lt hb g4)
      have hs' : Parted (6 * n) (J ++ LJ (je ⟨b, p⟩ a f) (e + 1)) s1 := by
        rw [LJ, je, if_neg hc, ← List.append_assoc]
        exact h1
      obtain ⟨s', t, l, h⟩ := ec_l1 d (e + 1) s1 (by omega) (by omega) hs'
      refine ⟨s', Tends2.step (fun K k => by rw [impl_Triangulation_edgeClasses_fn1_free.l1, if_pos (by omega), w64_succ (by omega)]) (Tends2.bind2 (ends_t he6).two ?_), l.trans l1, h⟩
      refine Tends2.neg (by omega) (Tends2.neg (by omega) (Tends2.pos (by omega) (Tends2.pos (by omega) (Tends2.bind (a := ((EE (PA p (EA e)) (PA p (EB e)) : Nat) : Int)) ?_ (Tends2.bind (a := s1) ?_ (Tends2.pos l1 t))))))
      · refine Tends2.congr (fun K k => ?_) (edge_t g1 g2 g3).two
        rw [get4 (by omega), get4 q2]
      · refine Tends2.congr (fun K k => ?_) t1.two
        have e1 := w6 (c := 6) (a := a) (e := e) (by decide) (by omega) (by omega)
        have e2 := w6 (c := 6) (a := b) (e := EE (PA p (EA e)) (PA p (EB e))) (by decide) (by omega) (by omega)
        rw [← e1, ← e2]
        rfl
end
section
variable {ts : List (List GFace)} (hv : Val ts)
include hv
theorem isB (a f : Nat) : impl_Face_isBoundary.f (face ts a f).Tet (face ts a f).Perm = some (decide ((face ts a f).Tet < 0)) := rfl
theorem face_cases {a f : Nat} (ha : a < ts.length) (hf : f < 4) : ((face ts a f).Tet < 0 ∧ face ts a f = ⟨-1, 0⟩) ∨ (¬ (face ts a f).Tet < 0 ∧ ∃ b p : Nat, b < ts.length ∧ p < 24 ∧ face ts a f = ⟨b, p⟩ ∧ Glued ts a f b p) := by
  rcases hv.ok a f ha hf with h | ⟨b, p, h⟩
  · left; rw [show face ts a f = ⟨-1, 0⟩ from h]; exact ⟨by decide, rfl⟩
  · right
    have h2 := h.2.2.1
    rw [h2]
    exact ⟨by show ¬ (b : Int) < 0; omega, b, p, h.1, h.2.1, rfl, h⟩
theorem gl_l4 {a : Nat} (ha : a < ts.length) {J : List (Nat × Nat)} : ∀ (d f : Nat) (s : List Int), 4 - f = d → f ≤ 4 → Parted (6 * ts.length) (J ++ LJ (JEf ts a) f) s →
    ∃ s', s'.length = s.length ∧ Parted (6 * ts.length) (J ++ LJ (JEf ts a) 4) s' ∧ ∀ R, Tends2 (fun K k => impl_Triangulation_glued_Triangulation_edgeClasses_fn1.l1 K k ts s' ((a + 1 : Nat) : Int)) R → Tends2 (fun K k => impl_Triangulation_glued_Triangulation_edgeClasses_fn1.l4 K k ts (a : Int) s (f : Int)) R
  | 0, f, s, hd, hf, hs => by
    obtain rfl : f = 4 := by omega
    refine ⟨s, rfl, hs, fun R hR => Tends2.step (fun K k => ?_) hR⟩
    have := hv.four a ha
    have := hv.le
    rw [impl_Triangulation_glued_Triangulation_edgeClasses_fn1.l4, Int.toNat_natCast, if_neg (by omega), w64_succ (by omega)]
  | d + 1, f, s, hd, hf, hs => by
    have h4 := hv.four a ha
    have h8 := hv.le
    rcases face_cases hv ha (show f < 4 by omega) with ⟨h1, h2⟩ | ⟨h1, b, p, hb, hp, h2, _⟩
    · obtain ⟨s', l, h, c⟩ := gl_l4 ha d (f + 1) s (by omega) (by omega) (by rw [LJ, JEf, if_pos h1, List.append_nil]; exact hs)
      refine ⟨s', l, h, fun R hR => Tends2.step (fun K k => ?_) (c R hR)⟩
      rw [impl_Triangulation_glued_Triangulation_edgeClasses_fn1.l4, Int.toNat_natCast, if_pos (by omega), if_pos (by omega), Int.toNat_natCast, bnd_eq, w64_succ (by omega)]
      show (impl_Face_isBoundary.f (face ts a f).Tet (face ts a f).Perm).bind _ = _
      rw [isB hv, Option.bind_some, decide_eq_true h1, if_pos rfl]
    · obtain ⟨s1, t1, l1, g1⟩ := ec_l1 hv.le ha (show f < 4 by omega) hb hp 6 0 s (by omega) (by omega) (by rw [LJ, List.append_nil]; exact hs)
      obtain ⟨s', l, h, c⟩ := gl_l4 ha d (f + 1) s1 (by omega) (by omega) (by rw [LJ, JEf, if_neg h1, h2, ← List.append_assoc]; exact g1)
      refine ⟨s', l.trans l1, h, fun R hR => Tends2.step (fun K k => ?_) (Tends2.bind4 (F := fun K _ => impl_perm.f K (p : Int)) (G := fun K k i0 i1 i2 i3 => (impl_Triangulation_edgeClasses_fn1_free.f K (a : Int) (f : Int) (b : Int) (p : Int) i0 i1 i2 i3 s).bind fun t228 => if t228.length = s.length then impl_Triangulation_glued_Triangulation_edgeClasses_fn1.l4 K k ts (a : Int) t228 ((f + 1 : Nat) : Int) else none) (perm_t hp).two (Tends2.bind t1.diag.two (Tends2.pos l1 (c R hR))))⟩
      rw [impl_Triangulation_glued_Triangulation_edgeClasses_fn1.l4, Int.toNat_natCast, if_pos (by omega), if_pos (by omega), Int.toNat_natCast, bnd_eq, w64_succ (by omega)]
      show (impl_Face_isBoundary.f (face ts a f).Tet (face ts a f).Perm).bind _ = _
      rw [isB hv, Option.bind_some, decide_eq_false h1, if_neg (by decide)]
      show bind4 (impl_perm.f K (face ts a f).Perm) (fun t221 t222 t223 t224 => (impl_Triangulation_edgeClasses_fn1_free.f K (a : Int) (f : Int) (face ts a f).Tet (face ts a f).Perm t221 t222 t223 t224 s).bind _) = _
      rw [h2]
theorem gl_l1 : ∀ (d a : Nat) (s : List Int), ts.length - a = d → a ≤ ts.length → Parted (6 * ts.length) (LJ (fun a => LJ (JEf ts a) 4) a) s →
    ∃ s', Tends2 (fun K k => impl_Triangulation_glued_Triangulation_edgeClasses_fn1.l1 K k ts s (a : Int)) s' ∧ s'.length = s.length ∧ Parted (6 * ts.length) (JE ts) s'
  | 0, a, s, hd, ha, hs => by
    obtain rfl : a = ts.length := by omega
    exact ⟨s, Tends2.of fun K k => by rw [impl_Triangulation_glued_Triangulation_edgeClasses_fn1.l1, if_neg (by omega)], rfl, hs⟩
  | d + 1, a, s, hd, ha, hs => by
    have hlt : a < ts.length := by omega
    obtain ⟨s1, l1, g1, c⟩ := gl_l4 hv hlt 4 0 s (by omega) (by omega) (by rw [LJ, List.append_nil]; exact hs)
    obtain ⟨s', t, l, h⟩ := gl_l1 d (a + 1) s1 (by omega) (by omega) (by rw [LJ]; exact g1)
    refine ⟨s', Tends2.step (fun K k => ?_) (c s' t), l.trans l1, h⟩
    rw [impl_Triangulation_glued_Triangulation_edgeClasses_fn1.l1, if_pos (by omega), if_pos (by omega)]
    rfl
theorem counting_l1 {N : Nat} (hN : N ≤ 100) : ∀ (d c : Nat), N - c = d → c ≤ N → Tends2 (fun K k => impl_counting.l1 K k (N : Int) (upto c) (c : Int)) (upto N)
  | 0, c, hd, hc => by
    obtain rfl : c = N := by omega
    refine Tends2.of fun K k => ?_
    rw [impl_counting.l1, if_neg (by omega)]
  | d + 1, c, hd, hc => by
    refine Tends2.step (fun K k => ?_) (counting_l1 hN d (c + 1) (by omega) (by omega))
    rw [impl_counting.l1, if_pos (by omega), if_pos (by rw [upto_length]; omega), w64_succ (by omega), upto_succ]
theorem fresh_l1 {N : Nat} (hN : N ≤ 100) : ∀ (d c : Nat), N - c = d → c ≤ N → Tends2 (fun K k => spec_l08Fresh.l1 K k (N : Int) (upto c) (c : Int)) (upto N)
  | 0, c, hd, hc => by
    obtain rfl : c = N := by omega
    refine Tends2.of fun K k => ?_
    rw [spec_l08Fresh.l1, if_neg (by omega)]
  | d + 1, c, hd, hc => by
    refine Tends2.step (fun K k => ?_) (fresh_l1 hN d (c + 1) (by omega) (by omega))
    rw [spec_l08Fresh.l1, if_pos (by omega), if_pos (by rw [upto_length]; omega), w64_succ (by omega), upto_succ]
theorem edgeClasses_t : ∃ s, Parted (6 * ts.length) (JE ts) s ∧ Tends (fun K => impl_Triangulation_edgeClasses.f K ts) (CN (6 * ts.length) s) := by
  have h8 := hv.le
  obtain ⟨s', t, l, h⟩ := gl_l1 hv ts.length 0 (upto (6 * ts.length)) (by omega) (by omega) (parted_upto _)
  refine ⟨s', h, Tends.eqBind (x := (ts.length : Int)) rfl (Tends.bind (a := upto (6 * ts.length)) ?_ (Tends.bind t.diag (Tends.pos l (Tends.bind (a := CN (6 * ts.length) s') ?_ (Tends.const _)))))⟩
  · refine Tends.congr (fun K => ?_) (counting_l1 hv (N := 6 * ts.length) (by omega) _ 0 rfl (Nat.zero_le _)).diag
    have e1 := w6' (c := 6) (a := ts.length) (by decide) (by omega)
    rw [← e1]
    rfl
  · have := numbered (s := s') (by rw [h.len]; omega)
    rw [h.len] at this
    exact this
end
end Go.Proofs.YtbjfinndngafoaaGreat
