/-
  The statement FnExactInverseMove out of its one pure sentence: for every input, in some number of rounds, the list function of the law says true.
-/
import Derived.Test.YtbjfinndngafoaaGreatRows
import Derived.Test.YtbjfinndngafoaaGreatAlW1
import Derived.Test.YtbjfinndngafoaaGreatAlW2
import Derived.Test.YtbjfinndngafoaaGreatAlW3
import Derived.Test.YtbjfinndngafoaaGreatAlW4
import Derived.Test.YtbjfinndngafoaaGreatAlW6
import Derived.Test.YtbjfinndngafoaaGreatAlW9
import Derived.Test.YtbjfinndngafoaaGreatSlS
import Derived.ChangeMaps5
import Derived.WalkKit
import Derived.ProofKit
import Derived.OpenShut
import Derived.ShutString
import Derived.ChangeOld
import Derived.Below
import Derived.SizedLaws
set_option linter.unusedVariables false
namespace Go.Proofs.YtbjfinndngafoaaGreat
open Go.ChangeShapes Go.WideShapes Go.ChangeAt Go.RowKit Go.Joins Go.Deep
structure Ja where
  N8 : List (List Ab)
abbrev Pj : Ty Ja := Ty.iso (Ty.slice 89 (Ty.slice 142 Ae)) (fun x => (x.N8)) 1 rfl
theorem Kn : Reads Tryz.prog Ae (fun x => ((Lit.int .i64 x.Tet).wf = true ∧ (Lit.int .i64 x.Perm).wf = true)) 142 := Reads.bB (T := (Ty.pair (Aq .i64) (Aq .i64))) (enc := fun x : Ab => [.int .i64 x.Tet, .int .i64 x.Perm]) (fun x : Ab => (x.Tet, x.Perm)) (fun y => (⟨y.1, y.2⟩ : Ab)) (fun _ => rfl) (fun _ _ => rfl) (Reads.raw Tryz.underlying142 (by kernel_rfl) (Ka.cons rfl rfl (by kernel_rfl) (Reads.int Tryz.underlying2) (Ka.last rfl rfl (by kernel_rfl) rfl (Reads.int Tryz.underlying2))))
theorem Ky : Reads Tryz.prog Pj (fun x => ((x.N8.length ≤ 9223372036854775807 ∧ ∀ y0 ∈ x.N8, (y0.length ≤ 9223372036854775807 ∧ ∀ y1 ∈ y0, ((Lit.int .i64 y1.Tet).wf = true ∧ (Lit.int .i64 y1.Perm).wf = true))))) 24 := Reads.oP (T := (Ty.slice 89 (Ty.slice 142 Ae))) (U := (Ty.slice 89 (Ty.slice 142 Ae))) (h := fun x : Ja => x.N8) (n := 1) (hn := rfl) (fun x : Ja => x.N8) (fun l => l) (fun y => (⟨y⟩ : Ja)) (fun _ => rfl) (fun _ _ => rfl) (fun _ _ _ h => h) (Reads.raw Tryz.underlying24 (by kernel_rfl) (Ka.last rfl rfl (by kernel_rfl) rfl (Reads.slice ⟨none, 0, (fun _ => ())⟩ Tryz.underlying22 (by kernel_rfl) rfl (Reads.slice () Tryz.underlying89 (by kernel_rfl) rfl Kn))))
theorem Kv : Reads Tryz.prog eH (fun x => ((Lit.int .i64 x.Kind).wf = true ∧ (Lit.int .i64 x.Tet).wf = true ∧ (Lit.int .i64 x.Index).wf = true)) 26 := Reads.bB (T := (Ty.pair (Aq .i64) (Ty.pair (Aq .i64) (Aq .i64)))) (enc := fun x : Vu => [.int .i64 x.Kind, .int .i64 x.Tet, .int .i64 x.Index]) (fun x : Vu => (x.Kind, x.Tet, x.Index)) (fun y => (⟨y.1, y.2.1, y.2.2⟩ : Vu)) (fun _ => rfl) (fun _ _ => rfl) (Reads.raw Tryz.underlying26 (by kernel_rfl) (Ka.cons rfl rfl (by kernel_rfl) (Reads.int Tryz.underlying2) (Ka.cons rfl rfl (by kernel_rfl) (Reads.int Tryz.underlying2) (Ka.last rfl rfl (by kernel_rfl) rfl (Reads.int Tryz.underlying2)))))
theorem Mi : ownKnob Tryz.prog.godebug = none := by kernel_rfl
theorem Jc : laidOutB Tryz.prog = true := by kernel_rfl
def Js : Prop := ∀ (x0 : Ja) (x1 : Vu), ((x0.N8.length ≤ 9223372036854775807 ∧ ∀ y0 ∈ x0.N8, (y0.length ≤ 9223372036854775807 ∧ ∀ y1 ∈ y0, ((Lit.int .i64 y1.Tet).wf = true ∧ (Lit.int .i64 y1.Perm).wf = true)))) → ((Lit.int .i64 x1.Kind).wf = true ∧ (Lit.int .i64 x1.Tet).wf = true ∧ (Lit.int .i64 x1.Index).wf = true) → ∃ K, E8.f K x0.N8 x1.Kind x1.Tet x1.Index = some true
set_option maxRecDepth 100000 in
theorem K6 (pure : Js) (os : Os) (started : os.Started) (H : Type) (enc : TypeId × Value → H) :
    ReturnsInHanded {} Tryz.checked os 5 .any (Rows.fnExactInverseMoveSpec.pre6 enc Tryz.prog Tryz.f5 Rows.fnExactInverseMoveRow.domain false) (Rows.fnExactInverseMoveSpec.post enc Tryz.prog Tryz.f5 false true false false) := by
  refine returnsInHanded_of_change_sized (C := Tryz.checked) Mi started (by kernel_rfl) Tryz.func5
    (ChangeSpec.witness6 (enc := enc) (C := Tryz.checked) false ⟨#[], #[.agg #[.slice none 0 0], .agg #[.int .i64 0, .int .i64 0, .int .i64 0]], []⟩ 8 (by kernel_rfl) (by kernel_rfl) (by kernel_rfl) (by kernel_rfl)) ?_
  intro W base args ds gs before hval0 hW hcnd hsz0 _
  have hval : ∀ (j : Nat) t v, Tryz.f5.params[j]? = some t → args[j]? = some v → Value.okWide Tryz.prog W .any base t v := hval0
  have hW' := hW
  obtain ⟨p, q, hA0, hV, rfl, hfz, hnd⟩ := hW
  have hA : DataW.TrodAll enc Tryz.prog W 0 (fun _ => true) true Tryz.f5.params.toList args.toList ds p := hA0
  rw [Tryz.params5] at hA hval
  obtain ⟨v0, vs0, d0, ds0, p0, q0, hargs, rfl, rfl, h0, r0⟩ := trodAll_cons hA
  obtain ⟨v1, vs1, d1, ds1, p1, q1, rfl, rfl, rfl, h1, r1⟩ := trodAll_cons r0
  obtain ⟨rfl, rfl, rfl⟩ := trodAll_nil r1
  obtain rfl : args = #[v0, v1] := by cases args; simp_all
  obtain ⟨rfl, rfl⟩ := trodVars_none hV
  have t0 := h0
  have lt0 : ∀ x ∈ p0, x.block < W.heap.size := by obtain ⟨m, hm⟩ := t0; exact DataW.trod_lt m _ _ _ hm
  obtain ⟨l0, x0, rfl, k0, w0⟩ := Rp Ky Tryz.underlying24 (hval 0 24 v0 rfl rfl) h0
  have t1 := h1
  have lt1 : ∀ x ∈ p1, x.block < W.heap.size := by obtain ⟨m, hm⟩ := t1; exact DataW.trod_lt m _ _ _ hm
  obtain ⟨l1, x1, rfl, k1, w1⟩ := Rp Kv Tryz.underlying26 (hval 1 26 v1 rfl rfl) h1
  clear hA0 hval0 hsz0
  obtain ⟨K, hK⟩ := pure x0 x1 w0 w1
  refine (E8.calls (St.refl W) (Cf.old k0) hK).mono fun e W' ⟨he, bel0⟩ => ?_
  have bel := bel0.below
  subst he
  exact ⟨_, rfl, _, _, _, [], _, [], hW', trodAll_mk1 (shut_bool Tryz.underlying4 _), (trodAll_cons_mk (Below.trod Jc (by kernel_rfl) (of_decide_eq_true (by kernel_rfl)) t0 bel lt0) (trodAll_cons_mk (Below.trod Jc (by kernel_rfl) (of_decide_eq_true (by kernel_rfl)) t1 bel lt1) trodAll_mk0)), rfl, bel.frame _, fun h => by cases h⟩
set_option maxHeartbeats 40000000 in
theorem K4 : joinedFacts Tryz.pinned.checked.prog 5 Tryz.f5 Rows.fnExactInverseMoveSpec Rows.fnExactInverseMoveRow = true := by
  unfold joinedFacts
  simp only [Bool.and_eq_true]
  repeat' apply And.intro
  all_goals as_aux_lemma => kernel_rfl
theorem Kh : Tryz.pinned.checked.prog.funcNamed Rows.fnExactInverseMoveRow.func = some 5 := by kernel_rfl
theorem Lm : Tryz.f5.isInstance Tryz.pinned.checked.prog Rows.fnExactInverseMoveRow.origin Rows.fnExactInverseMoveRow.targs := of_decide_eq_true (by kernel_rfl)
theorem Lp : Tryz.f5.isWrapper Tryz.pinned.checked.prog Rows.fnExactInverseMoveRow.wrapper Rows.fnExactInverseMoveRow.mainSum := by unfold Func.isWrapper; first | (rw [if_pos (by decide +kernel)]; kernel_rfl) | (rw [if_neg (by decide +kernel)]; exact ⟨rfl, rfl⟩)
theorem Mt (pure : Js) : Rows.FnExactInverseMoveSaid :=
  OpenClaim.holds_of_wide 5 Tryz.f5 rfl rfl rfl rfl rfl rfl rfl ⟨rfl, rfl, rfl, rfl, rfl⟩ rfl rfl rfl rfl rfl Kh Tryz.func5 K4
    Lm Lp
    (fun os started H enc _ => K6 pure os started H enc)
end Go.Proofs.YtbjfinndngafoaaGreat
