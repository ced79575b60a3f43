/-
  The statement FnExactJoinDiagrams out of its one pure sentence: for every input, in some number of rounds, the list function of the law says true.
-/
import Derived.Test.YtdafmbaeiefacaaRows
import Derived.Test.YtdafmbaeiefacaaAlW3
import Derived.Test.YtdafmbaeiefacaaSlR
import Derived.WalkKit
import Derived.ProofKit
import Derived.OpenShut
import Derived.ShutString
import Derived.ChangeOld
import Derived.Below
import Derived.SizedLaws
set_option linter.unusedVariables false
namespace Go.Proofs.Ytdafmbaeiefacaa
open Go.ChangeShapes Go.WideShapes Go.ChangeAt Go.RowKit Go.Joins Go.Deep
theorem fnExactJoinDiagrams_own : ownKnob Try.prog.godebug = none := by kernel_rfl
theorem fnExactJoinDiagrams_laidOut : laidOutB Try.prog = true := by kernel_rfl
def fnExactJoinDiagrams_pure : Prop := ∀ (x0 : List GCrossing) (k0 : Int) (k1 : Int) (x2 : List GCrossing) (k2 : Int) (k3 : Int), x0.length ≤ 9223372036854775807 → (∀ y ∈ x0, ∃ f : Nat → Int, y = (⟨f 0, f 1, f 2, f 3, f 4⟩ : GCrossing) ∧ ∀ j, j < 5 → (Lit.int .i64 (f j)).wf = true) → (Lit.int .i64 k0).wf = true → (Lit.int .i64 k1).wf = true → x2.length ≤ 9223372036854775807 → (∀ y ∈ x2, ∃ f : Nat → Int, y = (⟨f 0, f 1, f 2, f 3, f 4⟩ : GCrossing) ∧ ∀ j, j < 5 → (Lit.int .i64 (f j)).wf = true) → (Lit.int .i64 k2).wf = true → (Lit.int .i64 k3).wf = true → ∃ K, laws_FnExactJoinDiagrams.f K x0 k0 k1 x2 k2 k3 = some true
set_option maxRecDepth 100000 in
theorem fnExactJoinDiagrams_lifted (pure : fnExactJoinDiagrams_pure) (os : Os) (started : os.Started) (H : Type) (enc : TypeId × Value → H) :
    ReturnsInHanded {} Try.checked os 4 .any (Rows.fnExactJoinDiagramsSpec.pre6 enc Try.prog Try.f4 Rows.fnExactJoinDiagramsRow.domain false) (Rows.fnExactJoinDiagramsSpec.post enc Try.prog Try.f4 false true false false) := by
  refine returnsInHanded_of_change_sized (C := Try.checked) fnExactJoinDiagrams_own started (by kernel_rfl) Try.func4
    (ChangeSpec.witness6 (enc := enc) (C := Try.checked) false ⟨#[], #[.agg #[.slice none 0 0, .int .i64 0], .int .i64 0, .agg #[.slice none 0 0, .int .i64 0], .int .i64 0], []⟩ 8 (by kernel_rfl) (by kernel_rfl) (by kernel_rfl) (by kernel_rfl)) ?_
  intro W base args ds gs before hval0 hW hcnd hsz0 _
  have hval : ∀ (j : Nat) t v, Try.f4.params[j]? = some t → args[j]? = some v → Value.okWide Try.prog W .any base t v := hval0
  have hW' := hW
  obtain ⟨p, q, hA0, hV, rfl, hfz, hnd⟩ := hW
  have hA : DataW.TrodAll enc Try.prog W 0 (fun _ => true) true Try.f4.params.toList args.toList ds p := hA0
  rw [Try.params4] at hA hval
  obtain ⟨v0, vs0, d0, ds0, p0, q0, hargs, rfl, rfl, h0, r0⟩ := trodAll_cons hA
  obtain ⟨v1, vs1, d1, ds1, p1, q1, rfl, rfl, rfl, h1, r1⟩ := trodAll_cons r0
  obtain ⟨v2, vs2, d2, ds2, p2, q2, rfl, rfl, rfl, h2, r2⟩ := trodAll_cons r1
  obtain ⟨v3, vs3, d3, ds3, p3, q3, rfl, rfl, rfl, h3, r3⟩ := trodAll_cons r2
  obtain ⟨rfl, rfl, rfl⟩ := trodAll_nil r3
  obtain rfl : args = #[v0, v1, v2, v3] := by cases args; simp_all
  obtain ⟨rfl, rfl⟩ := trodVars_none hV
  have t0 := h0
  have lt0 : ∀ x ∈ p0, x.block < W.heap.size := by obtain ⟨m, hm⟩ := t0; exact DataW.trod_lt m _ _ _ hm
  obtain ⟨a0, b0, y0, z0, n0, rfl, hd0, hp0, s0, g0⟩ := open_agg2 Try.underlying24 (by kernel_rfl) (by kernel_rfl) (hval 0 24 v0 rfl rfl) h0
  obtain ⟨A0, c0, x0, hx0, hr0, wx0⟩ := read_structs (ec := fun x : GCrossing => [.int .i64 x.A, .int .i64 x.B, .int .i64 x.C, .int .i64 x.D, .int .i64 x.Sign]) (hl := fun _ => rfl) (h1 := fun x u h => by simp only [List.mem_cons, List.not_mem_nil, or_false] at h; rcases h with rfl | rfl | rfl | rfl | rfl <;> rfl) Try.underlying22 Try.underlying122 (by kernel_rfl) (by kernel_rfl) (fun j f hj => by match j, hj with | 0, hj | 1, hj | 2, hj | 3, hj | 4, hj => cases hj; exact Try.underlying2) rfl (by decide) (fun f => (⟨f 0, f 1, f 2, f 3, f 4⟩ : GCrossing)) (fun _ => rfl) s0
  obtain ⟨k0, hk0, _, w0⟩ := DataW.trod_int Try.underlying2 g0
  obtain rfl : a0 = .slice A0 x0.length c0 := by simpa using hx0
  obtain rfl : b0 = .int .i64 k0 := by simpa using hk0
  obtain ⟨k1, rfl, rfl, rfl, w1⟩ := open_int Try.underlying2 (hval 1 2 v1 rfl rfl) h1
  have t2 := h2
  have lt2 : ∀ x ∈ p2, x.block < W.heap.size := by obtain ⟨m, hm⟩ := t2; exact DataW.trod_lt m _ _ _ hm
  obtain ⟨a2, b2, y2, z2, n2, rfl, hd2, hp2, s2, g2⟩ := open_agg2 Try.underlying24 (by kernel_rfl) (by kernel_rfl) (hval 2 24 v2 rfl rfl) h2
  obtain ⟨A2, c2, x2, hx2, hr2, wx2⟩ := read_structs (ec := fun x : GCrossing => [.int .i64 x.A, .int .i64 x.B, .int .i64 x.C, .int .i64 x.D, .int .i64 x.Sign]) (hl := fun _ => rfl) (h1 := fun x u h => by simp only [List.mem_cons, List.not_mem_nil, or_false] at h; rcases h with rfl | rfl | rfl | rfl | rfl <;> rfl) Try.underlying22 Try.underlying122 (by kernel_rfl) (by kernel_rfl) (fun j f hj => by match j, hj with | 0, hj | 1, hj | 2, hj | 3, hj | 4, hj => cases hj; exact Try.underlying2) rfl (by decide) (fun f => (⟨f 0, f 1, f 2, f 3, f 4⟩ : GCrossing)) (fun _ => rfl) s2
  obtain ⟨k2, hk2, _, w2⟩ := DataW.trod_int Try.underlying2 g2
  obtain rfl : a2 = .slice A2 x2.length c2 := by simpa using hx2
  obtain rfl : b2 = .int .i64 k2 := by simpa using hk2
  obtain ⟨k3, rfl, rfl, rfl, w3⟩ := open_int Try.underlying2 (hval 3 2 v3 rfl rfl) h3
  clear hA0 hval0 hsz0
  obtain ⟨K, hK⟩ := pure x0 k0 k1 x2 k2 k3 (Nat.le_trans hr0.1 hr0.2.1) wx0 w0 w1 (Nat.le_trans hr2.1 hr2.2.1) wx2 w2 w3
  refine (laws_FnExactJoinDiagrams.calls (St.refl W) (RdIn.old (T := T_GCrossing) hr0) (RdIn.old (T := T_GCrossing) hr2) hK).mono fun e W' ⟨he, bel0⟩ => ?_
  have bel := bel0.below
  subst he
  exact ⟨_, rfl, _, _, _, [], _, [], hW', trodAll_mk1 (shut_bool Try.underlying4 _), (trodAll_cons_mk (Below.trod fnExactJoinDiagrams_laidOut (by kernel_rfl) (of_decide_eq_true (by kernel_rfl)) t0 bel lt0) (trodAll_cons_mk (shut_int Try.underlying2 w1) (trodAll_cons_mk (Below.trod fnExactJoinDiagrams_laidOut (by kernel_rfl) (of_decide_eq_true (by kernel_rfl)) t2 bel lt2) (trodAll_cons_mk (shut_int Try.underlying2 w3) trodAll_mk0)))), rfl, bel.frame _, fun h => by cases h⟩
theorem fnExactJoinDiagrams_of (pure : fnExactJoinDiagrams_pure) : Rows.FnExactJoinDiagramsSaid :=
  OpenClaim.holds_of_wide 4 Try.f4 rfl rfl rfl rfl rfl rfl rfl ⟨rfl, rfl, rfl, rfl, rfl⟩ rfl rfl rfl rfl rfl (by kernel_rfl) Try.func4 (by kernel_rfl)
    (of_decide_eq_true (by kernel_rfl)) (by unfold Func.isWrapper; first | (rw [if_pos (by decide +kernel)]; kernel_rfl) | (rw [if_neg (by decide +kernel)]; exact ⟨rfl, rfl⟩))
    (fun os started H enc _ => fnExactJoinDiagrams_lifted pure os started H enc)
end Go.Proofs.Ytdafmbaeiefacaa
