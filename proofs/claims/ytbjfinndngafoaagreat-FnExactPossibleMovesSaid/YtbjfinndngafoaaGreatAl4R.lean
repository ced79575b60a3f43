/-
  The statement FnExactPossibleMoves out of its one pure sentence: for every input, in some number of rounds, the list function of the law says true.
-/
import Derived.Test.YtbjfinndngafoaaGreatRows
import Derived.Test.YtbjfinndngafoaaGreatAlW4
import Derived.Test.YtbjfinndngafoaaGreatSlS
import Derived.ChangeMaps5
import Derived.WalkKit
import Derived.ProofKit
import Derived.OpenShut
import Derived.ShutString
import Derived.ChangeOld
import Derived.Below
import Derived.SizedLaws
set_option linter.unusedVariables false
namespace Go.Proofs.YtbjfinndngafoaaGreat
open Go.ChangeShapes Go.WideShapes Go.ChangeAt Go.RowKit Go.Joins Go.Deep
structure GTriangulation where
  Tets : List (List GFace)
abbrev T_GTriangulation : Ty GTriangulation := Ty.iso (Ty.slice 89 (Ty.slice 142 T_GFace)) (fun x => (x.Tets)) 1 rfl
theorem fnExactPossibleMoves_reads142 : Reads Tryz.prog T_GFace (fun x => ((Lit.int .i64 x.Tet).wf = true ∧ (Lit.int .i64 x.Perm).wf = true)) 142 := Reads.toFlat (T := (Ty.pair (TInt .i64) (TInt .i64))) (enc := fun x : GFace => [.int .i64 x.Tet, .int .i64 x.Perm]) (fun x : GFace => (x.Tet, x.Perm)) (fun y => (⟨y.1, y.2⟩ : GFace)) (fun _ => rfl) (fun _ _ => rfl) (Reads.raw Tryz.underlying142 (by kernel_rfl) (ReadsF.cons rfl rfl (by kernel_rfl) (Reads.int Tryz.underlying2) (ReadsF.last rfl rfl (by kernel_rfl) rfl (Reads.int Tryz.underlying2))))
theorem fnExactPossibleMoves_reads24 : Reads Tryz.prog T_GTriangulation (fun x => ((x.Tets.length ≤ 9223372036854775807 ∧ ∀ y0 ∈ x.Tets, (y0.length ≤ 9223372036854775807 ∧ ∀ y1 ∈ y0, ((Lit.int .i64 y1.Tet).wf = true ∧ (Lit.int .i64 y1.Perm).wf = true))))) 24 := Reads.toIso (T := (Ty.slice 89 (Ty.slice 142 T_GFace))) (U := (Ty.slice 89 (Ty.slice 142 T_GFace))) (h := fun x : GTriangulation => x.Tets) (n := 1) (hn := rfl) (fun x : GTriangulation => x.Tets) (fun l => l) (fun y => (⟨y⟩ : GTriangulation)) (fun _ => rfl) (fun _ _ => rfl) (fun _ _ _ h => h) (Reads.raw Tryz.underlying24 (by kernel_rfl) (ReadsF.last rfl rfl (by kernel_rfl) rfl (Reads.slice ⟨none, 0, (fun _ => ())⟩ Tryz.underlying22 (by kernel_rfl) rfl (Reads.slice () Tryz.underlying89 (by kernel_rfl) rfl fnExactPossibleMoves_reads142))))
theorem fnExactPossibleMoves_own : ownKnob Tryz.prog.godebug = none := by kernel_rfl
theorem fnExactPossibleMoves_laidOut : laidOutB Tryz.prog = true := by kernel_rfl
def fnExactPossibleMoves_pure : Prop := ∀ (x0 : GTriangulation), ((x0.Tets.length ≤ 9223372036854775807 ∧ ∀ y0 ∈ x0.Tets, (y0.length ≤ 9223372036854775807 ∧ ∀ y1 ∈ y0, ((Lit.int .i64 y1.Tet).wf = true ∧ (Lit.int .i64 y1.Perm).wf = true)))) → ∃ K, laws_FnExactPossibleMoves.f K x0.Tets = some true
set_option maxRecDepth 100000 in
theorem fnExactPossibleMoves_lifted (pure : fnExactPossibleMoves_pure) (os : Os) (started : os.Started) (H : Type) (enc : TypeId × Value → H) :
    ReturnsInHanded {} Tryz.checked os 4 .any (Rows.fnExactPossibleMovesSpec.pre6 enc Tryz.prog Tryz.f4 Rows.fnExactPossibleMovesRow.domain false) (Rows.fnExactPossibleMovesSpec.post enc Tryz.prog Tryz.f4 false true false false) := by
  refine returnsInHanded_of_change_sized (C := Tryz.checked) fnExactPossibleMoves_own started (by kernel_rfl) Tryz.func4
    (ChangeSpec.witness6 (enc := enc) (C := Tryz.checked) false ⟨#[], #[.agg #[.slice none 0 0]], []⟩ 8 (by kernel_rfl) (by kernel_rfl) (by kernel_rfl) (by kernel_rfl)) ?_
  intro W base args ds gs before hval0 hW hcnd hsz0 _
  have hval : ∀ (j : Nat) t v, Tryz.f4.params[j]? = some t → args[j]? = some v → Value.okWide Tryz.prog W .any base t v := hval0
  have hW' := hW
  obtain ⟨p, q, hA0, hV, rfl, hfz, hnd⟩ := hW
  have hA : DataW.TrodAll enc Tryz.prog W 0 (fun _ => true) true Tryz.f4.params.toList args.toList ds p := hA0
  rw [Tryz.params4] at hA hval
  obtain ⟨v0, vs0, d0, ds0, p0, q0, hargs, rfl, rfl, h0, r0⟩ := trodAll_cons hA
  obtain ⟨rfl, rfl, rfl⟩ := trodAll_nil r0
  obtain rfl : args = #[v0] := by cases args; simp_all
  obtain ⟨rfl, rfl⟩ := trodVars_none hV
  have t0 := h0
  have lt0 : ∀ x ∈ p0, x.block < W.heap.size := by obtain ⟨m, hm⟩ := t0; exact DataW.trod_lt m _ _ _ hm
  obtain ⟨l0, x0, rfl, k0, w0⟩ := arg_struct fnExactPossibleMoves_reads24 Tryz.underlying24 (hval 0 24 v0 rfl rfl) h0
  clear hA0 hval0 hsz0
  obtain ⟨K, hK⟩ := pure x0 w0
  refine (laws_FnExactPossibleMoves.calls (St.refl W) (RdIn.old k0) hK).mono fun e W' ⟨he, bel0⟩ => ?_
  have bel := bel0.below
  subst he
  exact ⟨_, rfl, _, _, _, [], _, [], hW', trodAll_mk1 (shut_bool Tryz.underlying4 _), (trodAll_cons_mk (Below.trod fnExactPossibleMoves_laidOut (by kernel_rfl) (of_decide_eq_true (by kernel_rfl)) t0 bel lt0) trodAll_mk0), rfl, bel.frame _, fun h => by cases h⟩
set_option maxHeartbeats 40000000 in
theorem fnExactPossibleMoves_joined : joinedFacts Tryz.pinned.checked.prog 4 Tryz.f4 Rows.fnExactPossibleMovesSpec Rows.fnExactPossibleMovesRow = true := by
  unfold joinedFacts
  simp only [Bool.and_eq_true]
  repeat' apply And.intro
  all_goals as_aux_lemma => kernel_rfl
theorem fnExactPossibleMoves_funcNamed : Tryz.pinned.checked.prog.funcNamed Rows.fnExactPossibleMovesRow.func = some 4 := by kernel_rfl
theorem fnExactPossibleMoves_inst : Tryz.f4.isInstance Tryz.pinned.checked.prog Rows.fnExactPossibleMovesRow.origin Rows.fnExactPossibleMovesRow.targs := of_decide_eq_true (by kernel_rfl)
theorem fnExactPossibleMoves_wrap : Tryz.f4.isWrapper Tryz.pinned.checked.prog Rows.fnExactPossibleMovesRow.wrapper Rows.fnExactPossibleMovesRow.mainSum := by unfold Func.isWrapper; first | (rw [if_pos (by decide +kernel)]; kernel_rfl) | (rw [if_neg (by decide +kernel)]; exact ⟨rfl, rfl⟩)
theorem fnExactPossibleMoves_of (pure : fnExactPossibleMoves_pure) : Rows.FnExactPossibleMovesSaid :=
  OpenClaim.holds_of_wide 4 Tryz.f4 rfl rfl rfl rfl rfl rfl rfl ⟨rfl, rfl, rfl, rfl, rfl⟩ rfl rfl rfl rfl rfl fnExactPossibleMoves_funcNamed Tryz.func4 fnExactPossibleMoves_joined
    fnExactPossibleMoves_inst fnExactPossibleMoves_wrap
    (fun os started H enc _ => fnExactPossibleMoves_lifted pure os started H enc)
end Go.Proofs.YtbjfinndngafoaaGreat
