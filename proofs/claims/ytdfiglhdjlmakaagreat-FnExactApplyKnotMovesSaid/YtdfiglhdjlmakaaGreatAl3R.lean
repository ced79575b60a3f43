/-
  The statement FnExactApplyKnotMoves out of its one pure sentence: for every input, in some number of rounds, the list function of the law says true.
-/
import Derived.Test.YtdfiglhdjlmakaaGreatRows
import Derived.Test.YtdfiglhdjlmakaaGreatAlW4
import Derived.Test.YtdfiglhdjlmakaaGreatSlS
import Derived.WalkKit
import Derived.ProofKit
import Derived.OpenShut
import Derived.ShutString
import Derived.ChangeOld
import Derived.Below
import Derived.SizedLaws
set_option linter.unusedVariables false
namespace Go.Proofs.YtdfiglhdjlmakaaGreat
open Go.ChangeShapes Go.WideShapes Go.ChangeAt Go.RowKit Go.Joins Go.Deep
structure GDiagram where
  Crossings : List GCrossing
  Circles : Int
abbrev T_GDiagram : Ty GDiagram := Ty.iso (Ty.pair (Ty.slice 63 T_GCrossing) (TInt .i64)) (fun x => (x.Crossings, x.Circles)) 2 rfl
theorem fnExactApplyKnotMoves_reads63 : Reads Tryz.prog T_GCrossing (fun x => ((Lit.int .i64 x.A).wf = true ∧ (Lit.int .i64 x.B).wf = true ∧ (Lit.int .i64 x.C).wf = true ∧ (Lit.int .i64 x.D).wf = true ∧ (Lit.int .i64 x.Sign).wf = true)) 63 := Reads.toFlat (T := (Ty.pair (TInt .i64) (Ty.pair (TInt .i64) (Ty.pair (TInt .i64) (Ty.pair (TInt .i64) (TInt .i64)))))) (enc := fun x : GCrossing => [.int .i64 x.A, .int .i64 x.B, .int .i64 x.C, .int .i64 x.D, .int .i64 x.Sign]) (fun x : GCrossing => (x.A, x.B, x.C, x.D, x.Sign)) (fun y => (⟨y.1, y.2.1, y.2.2.1, y.2.2.2.1, y.2.2.2.2⟩ : GCrossing)) (fun _ => rfl) (fun _ _ => rfl) (Reads.raw Tryz.underlying63 (by kernel_rfl) (ReadsF.cons rfl rfl (by kernel_rfl) (Reads.int Tryz.underlying2) (ReadsF.cons rfl rfl (by kernel_rfl) (Reads.int Tryz.underlying2) (ReadsF.cons rfl rfl (by kernel_rfl) (Reads.int Tryz.underlying2) (ReadsF.cons rfl rfl (by kernel_rfl) (Reads.int Tryz.underlying2) (ReadsF.last rfl rfl (by kernel_rfl) rfl (Reads.int Tryz.underlying2)))))))
theorem fnExactApplyKnotMoves_reads24 : Reads Tryz.prog T_GDiagram (fun x => ((x.Crossings.length ≤ 9223372036854775807 ∧ ∀ y0 ∈ x.Crossings, ((Lit.int .i64 y0.A).wf = true ∧ (Lit.int .i64 y0.B).wf = true ∧ (Lit.int .i64 y0.C).wf = true ∧ (Lit.int .i64 y0.D).wf = true ∧ (Lit.int .i64 y0.Sign).wf = true)) ∧ (Lit.int .i64 x.Circles).wf = true)) 24 := Reads.toIso (T := (Ty.pair (Ty.slice 63 T_GCrossing) (TInt .i64))) (U := (Ty.pair (Ty.slice 63 T_GCrossing) (TInt .i64))) (h := fun x : GDiagram => (x.Crossings, x.Circles)) (n := 2) (hn := rfl) (fun x : GDiagram => (x.Crossings, x.Circles)) (fun l => (l.1, l.2)) (fun y => (⟨y.1, y.2⟩ : GDiagram)) (fun _ => rfl) (fun _ _ => rfl) (fun _ _ _ h => ⟨h.1, h.2⟩) (Reads.raw Tryz.underlying24 (by kernel_rfl) (ReadsF.cons rfl rfl (by kernel_rfl) (Reads.slice () Tryz.underlying22 (by kernel_rfl) rfl fnExactApplyKnotMoves_reads63) (ReadsF.last rfl rfl (by kernel_rfl) rfl (Reads.int Tryz.underlying2))))
theorem fnExactApplyKnotMoves_reads49 : Reads Tryz.prog T_GKnotMove (fun x => ((Lit.int .i64 x.Kind).wf = true ∧ (Lit.int .i64 x.I).wf = true ∧ (Lit.int .i64 x.J).wf = true)) 49 := Reads.toFlat (T := (Ty.pair (TInt .i64) (Ty.pair (TInt .i64) (TInt .i64)))) (enc := fun x : GKnotMove => [.int .i64 x.Kind, .int .i64 x.I, .int .i64 x.J]) (fun x : GKnotMove => (x.Kind, x.I, x.J)) (fun y => (⟨y.1, y.2.1, y.2.2⟩ : GKnotMove)) (fun _ => rfl) (fun _ _ => rfl) (Reads.raw Tryz.underlying49 (by kernel_rfl) (ReadsF.cons rfl rfl (by kernel_rfl) (Reads.int Tryz.underlying2) (ReadsF.cons rfl rfl (by kernel_rfl) (Reads.int Tryz.underlying2) (ReadsF.last rfl rfl (by kernel_rfl) rfl (Reads.int Tryz.underlying2)))))
theorem fnExactApplyKnotMoves_own : ownKnob Tryz.prog.godebug = none := by kernel_rfl
theorem fnExactApplyKnotMoves_laidOut : laidOutB Tryz.prog = true := by kernel_rfl
def fnExactApplyKnotMoves_pure : Prop := ∀ (x0 : GDiagram) (x1 : List GKnotMove), ((x0.Crossings.length ≤ 9223372036854775807 ∧ ∀ y0 ∈ x0.Crossings, ((Lit.int .i64 y0.A).wf = true ∧ (Lit.int .i64 y0.B).wf = true ∧ (Lit.int .i64 y0.C).wf = true ∧ (Lit.int .i64 y0.D).wf = true ∧ (Lit.int .i64 y0.Sign).wf = true)) ∧ (Lit.int .i64 x0.Circles).wf = true) → (x1.length ≤ 9223372036854775807 ∧ ∀ y0 ∈ x1, ((Lit.int .i64 y0.Kind).wf = true ∧ (Lit.int .i64 y0.I).wf = true ∧ (Lit.int .i64 y0.J).wf = true)) → ∃ K, laws_FnExactApplyKnotMoves.f K x0.Crossings x0.Circles x1 = some true
set_option maxRecDepth 100000 in
theorem fnExactApplyKnotMoves_lifted (pure : fnExactApplyKnotMoves_pure) (os : Os) (started : os.Started) (H : Type) (enc : TypeId × Value → H) :
    ReturnsInHanded {} Tryz.checked os 3 .any (Rows.fnExactApplyKnotMovesSpec.pre6 enc Tryz.prog Tryz.f3 Rows.fnExactApplyKnotMovesRow.domain false) (Rows.fnExactApplyKnotMovesSpec.post enc Tryz.prog Tryz.f3 false true false false) := by
  refine returnsInHanded_of_change_sized (C := Tryz.checked) fnExactApplyKnotMoves_own started (by kernel_rfl) Tryz.func3
    (ChangeSpec.witness6 (enc := enc) (C := Tryz.checked) false ⟨#[], #[.agg #[.slice none 0 0, .int .i64 0], .slice none 0 0], []⟩ 8 (by kernel_rfl) (by kernel_rfl) (by kernel_rfl) (by kernel_rfl)) ?_
  intro W base args ds gs before hval0 hW hcnd hsz0 _
  have hval : ∀ (j : Nat) t v, Tryz.f3.params[j]? = some t → args[j]? = some v → Value.okWide Tryz.prog W .any base t v := hval0
  have hW' := hW
  obtain ⟨p, q, hA0, hV, rfl, hfz, hnd⟩ := hW
  have hA : DataW.TrodAll enc Tryz.prog W 0 (fun _ => true) true Tryz.f3.params.toList args.toList ds p := hA0
  rw [Tryz.params3] at hA hval
  obtain ⟨v0, vs0, d0, ds0, p0, q0, hargs, rfl, rfl, h0, r0⟩ := trodAll_cons hA
  obtain ⟨v1, vs1, d1, ds1, p1, q1, rfl, rfl, rfl, h1, r1⟩ := trodAll_cons r0
  obtain ⟨rfl, rfl, rfl⟩ := trodAll_nil r1
  obtain rfl : args = #[v0, v1] := by cases args; simp_all
  obtain ⟨rfl, rfl⟩ := trodVars_none hV
  have t0 := h0
  have lt0 : ∀ x ∈ p0, x.block < W.heap.size := by obtain ⟨m, hm⟩ := t0; exact DataW.trod_lt m _ _ _ hm
  obtain ⟨l0, x0, rfl, k0, w0⟩ := arg_struct fnExactApplyKnotMoves_reads24 Tryz.underlying24 (hval 0 24 v0 rfl rfl) h0
  have t1 := h1
  have lt1 : ∀ x ∈ p1, x.block < W.heap.size := by obtain ⟨m, hm⟩ := t1; exact DataW.trod_lt m _ _ _ hm
  obtain ⟨l1, x1, rfl, k1, w1⟩ := arg_slice (Reads.slice () Tryz.underlying25 (by kernel_rfl) rfl fnExactApplyKnotMoves_reads49) Tryz.underlying25 (hval 1 25 v1 rfl rfl) h1
  clear hA0 hval0 hsz0
  obtain ⟨K, hK⟩ := pure x0 x1 w0 w1
  refine (laws_FnExactApplyKnotMoves.calls (St.refl W) (RdIn.old k0.1) (RdIn.old k1) hK).mono fun e W' ⟨he, bel0⟩ => ?_
  have bel := bel0.below
  subst he
  exact ⟨_, rfl, _, _, _, [], _, [], hW', trodAll_mk1 (shut_bool Tryz.underlying4 _), (trodAll_cons_mk (Below.trod fnExactApplyKnotMoves_laidOut (by kernel_rfl) (of_decide_eq_true (by kernel_rfl)) t0 bel lt0) (trodAll_cons_mk (Below.trod fnExactApplyKnotMoves_laidOut (by kernel_rfl) (of_decide_eq_true (by kernel_rfl)) t1 bel lt1) trodAll_mk0)), rfl, bel.frame _, fun h => by cases h⟩
theorem fnExactApplyKnotMoves_of (pure : fnExactApplyKnotMoves_pure) : Rows.FnExactApplyKnotMovesSaid :=
  OpenClaim.holds_of_wide 3 Tryz.f3 rfl rfl rfl rfl rfl rfl rfl ⟨rfl, rfl, rfl, rfl, rfl⟩ rfl rfl rfl rfl rfl (by kernel_rfl) Tryz.func3 (by kernel_rfl)
    (of_decide_eq_true (by kernel_rfl)) (by unfold Func.isWrapper; first | (rw [if_pos (by decide +kernel)]; kernel_rfl) | (rw [if_neg (by decide +kernel)]; exact ⟨rfl, rfl⟩))
    (fun os started H enc _ => fnExactApplyKnotMoves_lifted pure os started H enc)
end Go.Proofs.YtdfiglhdjlmakaaGreat
