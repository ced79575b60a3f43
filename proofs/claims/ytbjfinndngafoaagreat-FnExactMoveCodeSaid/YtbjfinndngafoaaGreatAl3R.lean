/-
  The statement FnExactMoveCode out of its one pure sentence: for every input, in some number of rounds, the list function of the law says true.
-/
import Derived.Test.YtbjfinndngafoaaGreatRows
import Derived.Test.YtbjfinndngafoaaGreatAlW4
import Derived.Test.YtbjfinndngafoaaGreatSlS
import Derived.ChangeMaps5
import Derived.WalkKit
import Derived.ProofKit
import Derived.OpenShut
import Derived.ShutString
import Derived.ChangeOld
import Derived.Below
import Derived.SizedLaws
set_option linter.unusedVariables false
namespace Go.Proofs.YtbjfinndngafoaaGreat
open Go.ChangeShapes Go.WideShapes Go.ChangeAt Go.RowKit Go.Joins Go.Deep
structure GTriangulation where
  Tets : List (List GFace)
abbrev T_GTriangulation : Ty GTriangulation := Ty.iso (Ty.slice 89 (Ty.slice 142 T_GFace)) (fun x => (x.Tets)) 1 rfl
structure GMove where
  Kind : Int
  Tet : Int
  Index : Int
  deriving DecidableEq
def T_GMove : Ty GMove := Ty.flat 3 (fun x => [.int .i64 x.Kind, .int .i64 x.Tet, .int .i64 x.Index]) (fun _ => rfl) (fun x u h => by simp only [List.mem_cons, List.not_mem_nil, or_false] at h; rcases h with rfl | rfl | rfl <;> rfl)
theorem fnExactMoveCode_reads142 : Reads Tryz.prog T_GFace (fun x => ((Lit.int .i64 x.Tet).wf = true ∧ (Lit.int .i64 x.Perm).wf = true)) 142 := Reads.toFlat (T := (Ty.pair (TInt .i64) (TInt .i64))) (enc := fun x : GFace => [.int .i64 x.Tet, .int .i64 x.Perm]) (fun x : GFace => (x.Tet, x.Perm)) (fun y => (⟨y.1, y.2⟩ : GFace)) (fun _ => rfl) (fun _ _ => rfl) (Reads.raw Tryz.underlying142 (by kernel_rfl) (ReadsF.cons rfl rfl (by kernel_rfl) (Reads.int Tryz.underlying2) (ReadsF.last rfl rfl (by kernel_rfl) rfl (Reads.int Tryz.underlying2))))
theorem fnExactMoveCode_reads24 : Reads Tryz.prog T_GTriangulation (fun x => ((x.Tets.length ≤ 9223372036854775807 ∧ ∀ y0 ∈ x.Tets, (y0.length ≤ 9223372036854775807 ∧ ∀ y1 ∈ y0, ((Lit.int .i64 y1.Tet).wf = true ∧ (Lit.int .i64 y1.Perm).wf = true))))) 24 := Reads.toIso (T := (Ty.slice 89 (Ty.slice 142 T_GFace))) (U := (Ty.slice 89 (Ty.slice 142 T_GFace))) (h := fun x : GTriangulation => x.Tets) (n := 1) (hn := rfl) (fun x : GTriangulation => x.Tets) (fun l => l) (fun y => (⟨y⟩ : GTriangulation)) (fun _ => rfl) (fun _ _ => rfl) (fun _ _ _ h => h) (Reads.raw Tryz.underlying24 (by kernel_rfl) (ReadsF.last rfl rfl (by kernel_rfl) rfl (Reads.slice ⟨none, 0, (fun _ => ())⟩ Tryz.underlying22 (by kernel_rfl) rfl (Reads.slice () Tryz.underlying89 (by kernel_rfl) rfl fnExactMoveCode_reads142))))
theorem fnExactMoveCode_reads26 : Reads Tryz.prog T_GMove (fun x => ((Lit.int .i64 x.Kind).wf = true ∧ (Lit.int .i64 x.Tet).wf = true ∧ (Lit.int .i64 x.Index).wf = true)) 26 := Reads.toFlat (T := (Ty.pair (TInt .i64) (Ty.pair (TInt .i64) (TInt .i64)))) (enc := fun x : GMove => [.int .i64 x.Kind, .int .i64 x.Tet, .int .i64 x.Index]) (fun x : GMove => (x.Kind, x.Tet, x.Index)) (fun y => (⟨y.1, y.2.1, y.2.2⟩ : GMove)) (fun _ => rfl) (fun _ _ => rfl) (Reads.raw Tryz.underlying26 (by kernel_rfl) (ReadsF.cons rfl rfl (by kernel_rfl) (Reads.int Tryz.underlying2) (ReadsF.cons rfl rfl (by kernel_rfl) (Reads.int Tryz.underlying2) (ReadsF.last rfl rfl (by kernel_rfl) rfl (Reads.int Tryz.underlying2)))))
theorem fnExactMoveCode_own : ownKnob Tryz.prog.godebug = none := by kernel_rfl
theorem fnExactMoveCode_laidOut : laidOutB Tryz.prog = true := by kernel_rfl
def fnExactMoveCode_pure : Prop := ∀ (x0 : GTriangulation) (x1 : GMove), ((x0.Tets.length ≤ 9223372036854775807 ∧ ∀ y0 ∈ x0.Tets, (y0.length ≤ 9223372036854775807 ∧ ∀ y1 ∈ y0, ((Lit.int .i64 y1.Tet).wf = true ∧ (Lit.int .i64 y1.Perm).wf = true)))) → ((Lit.int .i64 x1.Kind).wf = true ∧ (Lit.int .i64 x1.Tet).wf = true ∧ (Lit.int .i64 x1.Index).wf = true) → ∃ K, laws_FnExactMoveCode.f K x0.Tets x1.Kind x1.Tet x1.Index = some true
set_option maxRecDepth 100000 in
theorem fnExactMoveCode_lifted (pure : fnExactMoveCode_pure) (os : Os) (started : os.Started) (H : Type) (enc : TypeId × Value → H) :
    ReturnsInHanded {} Tryz.checked os 3 .any (Rows.fnExactMoveCodeSpec.pre6 enc Tryz.prog Tryz.f3 Rows.fnExactMoveCodeRow.domain false) (Rows.fnExactMoveCodeSpec.post enc Tryz.prog Tryz.f3 false true false false) := by
  refine returnsInHanded_of_change_sized (C := Tryz.checked) fnExactMoveCode_own started (by kernel_rfl) Tryz.func3
    (ChangeSpec.witness6 (enc := enc) (C := Tryz.checked) false ⟨#[], #[.agg #[.slice none 0 0], .agg #[.int .i64 0, .int .i64 0, .int .i64 0]], []⟩ 8 (by kernel_rfl) (by kernel_rfl) (by kernel_rfl) (by kernel_rfl)) ?_
  intro W base args ds gs before hval0 hW hcnd hsz0 _
  have hval : ∀ (j : Nat) t v, Tryz.f3.params[j]? = some t → args[j]? = some v → Value.okWide Tryz.prog W .any base t v := hval0
  have hW' := hW
  obtain ⟨p, q, hA0, hV, rfl, hfz, hnd⟩ := hW
  have hA : DataW.TrodAll enc Tryz.prog W 0 (fun _ => true) true Tryz.f3.params.toList args.toList ds p := hA0
  rw [Tryz.params3] at hA hval
  obtain ⟨v0, vs0, d0, ds0, p0, q0, hargs, rfl, rfl, h0, r0⟩ := trodAll_cons hA
  obtain ⟨v1, vs1, d1, ds1, p1, q1, rfl, rfl, rfl, h1, r1⟩ := trodAll_cons r0
  obtain ⟨rfl, rfl, rfl⟩ := trodAll_nil r1
  obtain rfl : args = #[v0, v1] := by cases args; simp_all
  obtain ⟨rfl, rfl⟩ := trodVars_none hV
  have t0 := h0
  have lt0 : ∀ x ∈ p0, x.block < W.heap.size := by obtain ⟨m, hm⟩ := t0; exact DataW.trod_lt m _ _ _ hm
  obtain ⟨l0, x0, rfl, k0, w0⟩ := arg_struct fnExactMoveCode_reads24 Tryz.underlying24 (hval 0 24 v0 rfl rfl) h0
  have t1 := h1
  have lt1 : ∀ x ∈ p1, x.block < W.heap.size := by obtain ⟨m, hm⟩ := t1; exact DataW.trod_lt m _ _ _ hm
  obtain ⟨l1, x1, rfl, k1, w1⟩ := arg_struct fnExactMoveCode_reads26 Tryz.underlying26 (hval 1 26 v1 rfl rfl) h1
  clear hA0 hval0 hsz0
  obtain ⟨K, hK⟩ := pure x0 x1 w0 w1
  refine (laws_FnExactMoveCode.calls (St.refl W) (RdIn.old k0) hK).mono fun e W' ⟨he, bel0⟩ => ?_
  have bel := bel0.below
  subst he
  exact ⟨_, rfl, _, _, _, [], _, [], hW', trodAll_mk1 (shut_bool Tryz.underlying4 _), (trodAll_cons_mk (Below.trod fnExactMoveCode_laidOut (by kernel_rfl) (of_decide_eq_true (by kernel_rfl)) t0 bel lt0) (trodAll_cons_mk (Below.trod fnExactMoveCode_laidOut (by kernel_rfl) (of_decide_eq_true (by kernel_rfl)) t1 bel lt1) trodAll_mk0)), rfl, bel.frame _, fun h => by cases h⟩
set_option maxHeartbeats 40000000 in
theorem fnExactMoveCode_joined : joinedFacts Tryz.pinned.checked.prog 3 Tryz.f3 Rows.fnExactMoveCodeSpec Rows.fnExactMoveCodeRow = true := by
  unfold joinedFacts
  simp only [Bool.and_eq_true]
  repeat' apply And.intro
  all_goals as_aux_lemma => kernel_rfl
theorem fnExactMoveCode_funcNamed : Tryz.pinned.checked.prog.funcNamed Rows.fnExactMoveCodeRow.func = some 3 := by kernel_rfl
theorem fnExactMoveCode_inst : Tryz.f3.isInstance Tryz.pinned.checked.prog Rows.fnExactMoveCodeRow.origin Rows.fnExactMoveCodeRow.targs := of_decide_eq_true (by kernel_rfl)
theorem fnExactMoveCode_wrap : Tryz.f3.isWrapper Tryz.pinned.checked.prog Rows.fnExactMoveCodeRow.wrapper Rows.fnExactMoveCodeRow.mainSum := by unfold Func.isWrapper; first | (rw [if_pos (by decide +kernel)]; kernel_rfl) | (rw [if_neg (by decide +kernel)]; exact ⟨rfl, rfl⟩)
theorem fnExactMoveCode_of (pure : fnExactMoveCode_pure) : Rows.FnExactMoveCodeSaid :=
  OpenClaim.holds_of_wide 3 Tryz.f3 rfl rfl rfl rfl rfl rfl rfl ⟨rfl, rfl, rfl, rfl, rfl⟩ rfl rfl rfl rfl rfl fnExactMoveCode_funcNamed Tryz.func3 fnExactMoveCode_joined
    fnExactMoveCode_inst fnExactMoveCode_wrap
    (fun os started H enc _ => fnExactMoveCode_lifted pure os started H enc)
end Go.Proofs.YtbjfinndngafoaaGreat
