/-
  Triangulations: where the ring around an edge's class begins.
-/
import Derived.Test.YtbjfinndngafoaaGreatPlT17
set_option linter.unusedVariables false
set_option linter.unusedSimpArgs false
set_option linter.unusedSectionVars false
namespace Go.Proofs.YtbjfinndngafoaaGreat
open Go.RowKit
def ST (e : Nat) : Nat := [0, 2, 4, 8, 10, 16].getD e 0
theorem ST_of {e : Nat} (he : e < 6) : ST e < 24 ∧ PA (ST e) 0 = EA e ∧ PA (ST e) 1 = EB e ∧ EE (PA (ST e) 0) (PA (ST e) 1) = e := by
  have : ∀ e, e < 6 → ST e < 24 ∧ PA (ST e) 0 = EA e ∧ PA (ST e) 1 = EB e ∧ EE (PA (ST e) 0) (PA (ST e) 1) = e := by decide +kernel
  exact this e he
theorem start_tab : (fun (K : Nat) (r : Int) => (List.range 6).map fun e : Nat => Go.Proofs.YtbjfinndngafoaaGreat.bind2 (impl_ends.f (K + 150) (e : Int)) (fun t412 t413 => ((impl_others.f (K + 150) ([t412, t413] : List Int)).bind fun t419 => (if 0 ≤ (0 : Int) ∧ (0 : Int) < (t419.length : Int) then (if 0 ≤ (1 : Int) ∧ (1 : Int) < (t419.length : Int) then ((impl_indexOf.f (K + 150) t412 t413 (t419.getD 0 0) (t419.getD 1 0)).bind fun t429 => (some (r, t429))) else none) else none)))) = fun K r => (List.range 6).map fun e : Nat => some (r, (ST e : Int)) := by kernel_rfl
theorem start_i {e : Nat} (he : e < 6) (r : Int) : Tends (fun K => Go.Proofs.YtbjfinndngafoaaGreat.bind2 (impl_ends.f K (e : Int)) (fun t412 t413 => ((impl_others.f K ([t412, t413] : List Int)).bind fun t419 => (if 0 ≤ (0 : Int) ∧ (0 : Int) < (t419.length : Int) then (if 0 ≤ (1 : Int) ∧ (1 : Int) < (t419.length : Int) then ((impl_indexOf.f K t412 t413 (t419.getD 0 0) (t419.getD 1 0)).bind fun t429 => (some (r, t429))) else none) else none)))) (r, (ST e : Int)) :=
  tab (F := fun K e => Go.Proofs.YtbjfinndngafoaaGreat.bind2 (impl_ends.f K (e : Int)) (fun t412 t413 => ((impl_others.f K ([t412, t413] : List Int)).bind fun t419 => (if 0 ≤ (0 : Int) ∧ (0 : Int) < (t419.length : Int) then (if 0 ≤ (1 : Int) ∧ (1 : Int) < (t419.length : Int) then ((impl_indexOf.f K t412 t413 (t419.getD 0 0) (t419.getD 1 0)).bind fun t429 => (some (r, t429))) else none) else none)))) (g := fun e => (r, (ST e : Int))) (m := 150) (n := 6) (funext fun K => congrFun (congrFun start_tab K) r) he
theorem ext_t {e : Nat} (he : e < 6) : Tends (fun K => spec_ExtendPerm4.f K [0, 1] [(EA e : Int), (EB e : Int)]) ((ST e : Int), true) :=
  tab (F := fun K e => spec_ExtendPerm4.f K [0, 1] [(EA e : Int), (EB e : Int)]) (g := fun e => ((ST e : Int), true)) (m := 120) (n := 6) (by kernel_rfl) he
theorem index_l1 {l : List Int} (hl : l.length ≤ 1000) {v : Int} {j0 : Nat} (hj : j0 < l.length) (h0 : l.getD j0 0 = v) (h1 : ∀ j, j < j0 → l.getD j 0 ≠ v) : ∀ (d j : Nat), j0 - j = d → j ≤ j0 → Tends2 (fun K k => slices_Index_int64_int64.l1 K k l v (j : Int)) (j0 : Int)
  | 0, j, hd, hle => by
    obtain rfl : j = j0 := by omega
    refine Tends2.of fun K k => ?_
    rw [slices_Index_int64_int64.l1, if_pos (by omega), if_pos (by omega), Int.toNat_natCast, if_pos h0.symm]
  | d + 1, j, hd, hle => by
    refine Tends2.step (fun K k => ?_) (index_l1 hl hj h0 h1 d (j + 1) (by omega) (by omega))
    rw [slices_Index_int64_int64.l1, if_pos (by omega), if_pos (by omega), Int.toNat_natCast, if_neg (fun e => h1 j (by omega) e.symm), w64_succ (by omega)]
theorem EE_ne {a b : Nat} (ha : a < 4) (hb : b < 4) (h : a ≠ b) {f : Nat} (hfa : f ≠ a) (hfb : f ≠ b) : EA (EE a b) ≠ f ∧ EB (EE a b) ≠ f := by
  obtain ⟨_, h1, h2⟩ := EE_of ha hb h
  rw [h1, h2]; omega
structure Inner (ts : List (List GFace)) (C : List Int) (cl : Int) : Prop where
  no : ∀ j, j < 6 * ts.length → C.getD j 0 = cl → ∀ f, ¬ bdE ts j f
section
variable {ts : List (List GFace)} (hv : Val ts) {C : List Int} {cl : Int} (hI : Inner ts C cl)
include hv hI
theorem start_l4 {a : Nat} (ha : a < ts.length) {R : Int × Int} (hR : Tends2 (fun K k => spec_l08Start.l1 K k ts cl (rowsOf C 6 ts.length) ((a + 1 : Nat) : Int)) R) : ∀ (d p : Nat), 24 - p = d → p ≤ 24 → Tends2 (fun K k => spec_l08Start.l4 K k ts cl (rowsOf C 6 ts.length) (a : Int) (p : Int)) R
  | 0, p, hd, hp => by
    have h8 := hv.le
    refine Tends2.step (fun K k => ?_) hR
    rw [spec_l08Start.l4, if_neg (by omega), w64_succ (by omega)]
  | d + 1, p, hd, hp => by
    have h8 := hv.le
    have hp : p < 24 := by omega
    have h0 : PA p 0 < 4 := PA_lt hp (by omega)
    have h1 : PA p 1 < 4 := PA_lt hp (by omega)
    have h3 : PA p 3 < 4 := PA_lt hp (by omega)
    have hne : PA p 0 ≠ PA p 1 := PA_ne hp (by omega) (by omega) (by omega)
    have he := (EE_of h0 h1 hne).1
    have ih := start_l4 ha hR d (p + 1) (by omega) (by omega)
    have hr := hv.four a ha
    refine Tends2.step (G := fun K k => (spec_l06At.f K (p : Int) ((0 : Nat) : Int)).bind fun t387 => ((spec_l06At.f K (p : Int) ((1 : Nat) : Int)).bind fun t391 => ((spec_l08Edge.f K t387 t391).bind fun t395 => (if 0 ≤ (a : Int) ∧ (a : Int) < ((rowsOf C 6 ts.length).length : Int) then (if 0 ≤ t395 ∧ t395 < (((rowsOf C 6 ts.length).getD a []).length : Int) then (if ((rowsOf C 6 ts.length).getD a []).getD t395.toNat 0 = cl then (if 0 ≤ (a : Int) ∧ (a : Int) < (ts.length : Int) then ((spec_l06At.f K (p : Int) ((3 : Nat) : Int)).bind fun t415 => (if 0 ≤ t415 ∧ t415 < ((ts.getD a []).length : Int) then (if ((ts.getD a []).getD t415.toNat z_GFace).Tet < 0 then (some ((a : Int), (p : Int))) else (spec_l08Start.l4 K k ts cl (rowsOf C 6 ts.length) (a : Int) ((p + 1 : Nat) : Int))) else none)) else none) else (spec_l08Start.l4 K k ts cl (rowsOf C 6 ts.length) (a : Int) ((p + 1 : Nat) : Int))) else none) else none)))) (fun K k => ?_) ?_
    · rw [spec_l08Start.l4, if_pos (by omega), w64_succ (by omega)]; rfl
    · refine Tends2.bind (at_t hp (by omega)).two ?_
      refine Tends2.bind (at_t hp (by omega)).two ?_
      refine Tends2.bind (edge8_t h0 h1 hne).two ?_
      refine Tends2.pos (by rw [rowsOf_len]; omega) ?_
      rw [rowsOf_get ha]
      refine Tends2.pos (by rw [rowAt_len]; omega) ?_
      rw [Int.toNat_natCast, rowAt_get he]
      by_cases hcl : C.getD (6 * a + EE (PA p 0) (PA p 1)) 0 = cl
      · refine Tends2.pos hcl (Tends2.pos (by omega) ?_)
        refine Tends2.bind (at_t hp (by omega)).two (Tends2.pos (by omega) ?_)
        rw [Int.toNat_natCast]
        refine Tends2.neg (fun hlt => ?_) ih
        refine hI.no _ (mul_lt ha he) hcl (PA p 3) ?_
        unfold bdE
        rw [(de6 he).1, (de6 he).2]
        obtain ⟨n1, n2⟩ := EE_ne h0 h1 hne (f := PA p 3) (PA_ne hp (by omega) (by omega) (by omega)) (PA_ne hp (by omega) (by omega) (by omega))
        exact ⟨h3, n1, n2, hlt⟩
      · exact Tends2.neg hcl ih
theorem start_l1 {R : Int × Int} (hR : Tends (fun K => Go.Proofs.YtbjfinndngafoaaGreat.bind2 (spec_l08First.f K ts cl) (fun t424 t425 => (Go.Proofs.YtbjfinndngafoaaGreat.bind2 (spec_l08Ends.f t425) (fun t429 t430 => (Go.Proofs.YtbjfinndngafoaaGreat.bind2 (spec_ExtendPerm4.f K ([0, 1] : List Int) ([t429, t430] : List Int)) (fun t438 t439 => (some (t424, t438)))))))) R) : ∀ (d a : Nat), ts.length - a = d → a ≤ ts.length → Tends2 (fun K k => spec_l08Start.l1 K k ts cl (rowsOf C 6 ts.length) (a : Int)) R
  | 0, a, hd, ha => by
    have h8 := hv.le
    refine Tends2.step (fun K k => ?_) hR.two
    rw [spec_l08Start.l1, spec_l07Tets.f, Option.bind_some, if_neg (by omega)]
  | d + 1, a, hd, ha => by
    have h8 := hv.le
    refine Tends2.step (fun K k => ?_) (start_l4 hv hI (show a < ts.length by omega) (start_l1 hR d (a + 1) (by omega) (by omega)) 24 0 (by omega) (by omega))
    rw [spec_l08Start.l1, spec_l07Tets.f, Option.bind_some, if_pos (by omega)]
    rfl
end
section
variable {ts : List (List GFace)} (hv : Val ts) {C : List Int} {cl : Int} {j0 : Nat} (hj : j0 < 6 * ts.length) (h0 : C.getD j0 0 = cl) (h1 : ∀ j, j < j0 → C.getD j 0 ≠ cl)
include hv hj h0 h1
theorem first_l4 : ∀ (d a e : Nat), 7 * (j0 / 6) + j0 % 6 - (7 * a + e) = d → a ≤ j0 / 6 → e ≤ 6 → 6 * a + e ≤ j0 → Tends2 (fun K k => spec_l08First.l4 K k cl (rowsOf C 6 ts.length) (a : Int) (e : Int)) (((j0 / 6 : Nat) : Int), ((j0 % 6 : Nat) : Int))
  | 0, a, e, hd, ha, he, hle => by
    have h8 := hv.le
    have ha' : a = j0 / 6 := by omega
    have he' : e = j0 % 6 := by omega
    have hlt : a < ts.length := by omega
    refine Tends2.of fun K k => ?_
    rw [spec_l08First.l4, if_pos (by omega), if_pos (by rw [rowsOf_len]; omega), Int.toNat_natCast, rowsOf_get hlt, if_pos (by rw [rowAt_len]; omega), Int.toNat_natCast, rowAt_get (by omega), if_pos (by rw [show 6 * a + e = j0 by omega]; exact h0), ha', he']
  | d + 1, a, e, hd, ha, he, hle => by
    have h8 := hv.le
    have hlt : a < ts.length := by omega
    by_cases h6 : e = 6
    · refine Tends2.step (G := fun K k => spec_l08First.l1 K k cl (rowsOf C 6 ts.length) ((a + 1 : Nat) : Int)) (fun K k => ?_) (Tends2.step (fun K k => ?_) (first_l4 d (a + 1) 0 (by omega) (by omega) (by omega) (by omega)))
      · rw [spec_l08First.l4, if_neg (by omega), w64_succ (by omega)]
      · rw [spec_l08First.l1, if_pos (by rw [rowsOf_len]; omega)]; rfl
    · refine Tends2.step (fun K k => ?_) (first_l4 d a (e + 1) (by omega) (by omega) (by omega) (by omega))
      rw [spec_l08First.l4, if_pos (by omega), if_pos (by rw [rowsOf_len]; omega), Int.toNat_natCast, rowsOf_get hlt, if_pos (by rw [rowAt_len]; omega), Int.toNat_natCast, rowAt_get (by omega), if_neg (h1 _ (by omega)), w64_succ (by omega)]
theorem first_l1 : Tends2 (fun K k => spec_l08First.l1 K k cl (rowsOf C 6 ts.length) 0) (((j0 / 6 : Nat) : Int), ((j0 % 6 : Nat) : Int)) := by
  refine Tends2.step (fun K k => ?_) (first_l4 hv hj h0 h1 _ 0 0 rfl (by omega) (by omega) (by omega))
  rw [spec_l08First.l1, if_pos (by rw [rowsOf_len]; omega)]; rfl
end
section
variable {ts : List (List GFace)} (hv : Val ts) {s : List Int} (hP : Parted (6 * ts.length) (JE ts) s) (hc : Tends (fun K => impl_Triangulation_edgeClasses.f K ts) (CN (6 * ts.length) s))
  {vr fr : List (List Int)} {nn : List Int} (hcnt : Tends (fun K => spec_l08Count.f K ts) (vr, rowsOf (CN (6 * ts.length) s) 6 ts.length, fr, nn))
  {o : List Bool} (hbt : Tends (fun K => impl_Triangulation_boundaryEdges.f K ts) o) (hbl : o.length = firstN s (6 * ts.length)) (hbb : ∀ c : Nat, o.getD c false = true ↔ ∃ j, j < 6 * ts.length ∧ (CN (6 * ts.length) s).getD j 0 = (c : Int) ∧ ∃ f, bdE ts j f)
include hv hP hc hcnt hbt hbl hbb
theorem start_both {c j0 : Nat} (hj : j0 < 6 * ts.length) (h0 : (CN (6 * ts.length) s).getD j0 0 = (c : Int)) (h1 : ∀ j, j < j0 → (CN (6 * ts.length) s).getD j 0 ≠ (c : Int)) (hno : o.getD c false = false) :
    Inner ts (CN (6 * ts.length) s) (c : Int) ∧ Tends (fun K => impl_Triangulation_firstCorner.f K ts (c : Int)) (((j0 / 6 : Nat) : Int), (ST (j0 % 6) : Int)) ∧ Tends (fun K => spec_l08Start.f K ts (c : Int)) (((j0 / 6 : Nat) : Int), (ST (j0 % 6) : Int)) := by
  have h8 := hv.le
  have he : j0 % 6 < 6 := by omega
  have hI : Inner ts (CN (6 * ts.length) s) (c : Int) := ⟨fun j hj' hcl f hbd => by
    have := (hbb c).2 ⟨j, hj', hcl, f, hbd⟩
    rw [hno] at this; cases this⟩
  have hr := cn_range (s := s) (N := 6 * ts.length) (by omega) hj
  refine ⟨hI, ?_, ?_⟩
  · refine Tends.bind hc (Tends.bind hbt (Tends.pos (by omega) ?_))
    rw [Int.toNat_natCast]
    refine Tends.neg (by rw [hno]; decide) (Tends.bind (a := (j0 : Int)) (index_l1 (by rw [CN_len]; omega) (by rw [CN_len]; exact hj) h0 h1 _ 0 rfl (by omega)).diag ?_)
    have e1 : (j0 : Int).tmod 6 = ((j0 % 6 : Nat) : Int) := by rw [Int.tmod_eq_emod_of_nonneg (by omega)]; omega
    have e2 : w64 ((j0 : Int).tdiv 6) = ((j0 / 6 : Nat) : Int) := by rw [Int.tdiv_eq_ediv_of_nonneg (by omega), w64_id (by omega) (by omega)]; omega
    rw [e1, e2]
    exact start_i he _
  · refine Tends.bind4 hcnt ?_
    refine Tends2.diag (F := fun K k => spec_l08Start.l1 K k ts (c : Int) (rowsOf (CN (6 * ts.length) s) 6 ts.length) ((0 : Nat) : Int)) ?_
    refine start_l1 hv hI ?_ _ 0 rfl (by omega)
    have hf : Tends (fun K => spec_l08First.f K ts (c : Int)) (((j0 / 6 : Nat) : Int), ((j0 % 6 : Nat) : Int)) := Tends.bind4 hcnt (first_l1 hv hj h0 h1).diag
    refine Tends.bind2 hf ?_
    refine Tends.bind2 (a := (EA (j0 % 6) : Int)) (b := (EB (j0 % 6) : Int)) (Tends.congr (fun K => ends8_t he) (Tends.const _)) ?_
    exact Tends.bind2 (ext_t he) (Tends.const _)
end
end Go.Proofs.YtbjfinndngafoaaGreat
