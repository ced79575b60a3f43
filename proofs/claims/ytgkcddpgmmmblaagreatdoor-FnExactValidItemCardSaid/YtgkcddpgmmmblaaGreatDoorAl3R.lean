/-
  The statement FnExactValidItem out of its one pure sentence: for every input, in some number of rounds, the list function of the law says true.
-/
import Derived.Test.YtgkcddpgmmmblaaGreatDoorRows
import Derived.Test.YtgkcddpgmmmblaaGreatDoorAlW4
import Derived.Test.YtgkcddpgmmmblaaGreatDoorSlS
import Derived.WalkKit
import Derived.ProofKit
import Derived.OpenShut
import Derived.ShutString
import Derived.ChangeOld
import Derived.Below
import Derived.SizedLaws
import Derived.LaidMore
import Derived.Lay
import Derived.Stop.Joined
set_option linter.unusedVariables false
namespace Go.Proofs.YtgkcddpgmmmblaaGreatDoor
open Go.ChangeShapes Go.WideShapes Go.ChangeAt Go.RowKit Go.Joins Go.Deep
structure GItem where
  Name : ByteArray
  Kind : Int
  Triangulation_Tets : List (List GFace)
  Diagram_Crossings : List GCrossing
  Diagram_Circles : Int
  Braid_Strands : Int
  Braid_Word : List Int
  Certificate_Name : Int
  Certificate_Trait : Int
  Certificate_Moves : List GMove
  Certificate_Tets : List Int
  Certificate_Perms : List Int
abbrev T_GItem : Ty GItem := Ty.iso (Ty.pair TStr (Ty.pair (TInt .i64) (Ty.pair (Ty.slice 215 (Ty.slice 265 T_GFace)) (Ty.pair (Ty.slice 225 T_GCrossing) (Ty.pair (TInt .i64) (Ty.pair (TInt .i64) (Ty.pair (Ty.slice 2 (TInt .i64)) (Ty.pair (TInt .i64) (Ty.pair (TInt .i64) (Ty.pair (Ty.slice 227 T_GMove) (Ty.pair (Ty.slice 2 (TInt .i64)) (Ty.slice 2 (TInt .i64))))))))))))) (fun x => (x.Name, x.Kind, x.Triangulation_Tets, x.Diagram_Crossings, x.Diagram_Circles, x.Braid_Strands, x.Braid_Word, x.Certificate_Name, x.Certificate_Trait, x.Certificate_Moves, x.Certificate_Tets, x.Certificate_Perms)) 12 rfl
theorem fnExactValidItem_reads265 : Reads Tryz.prog T_GFace (fun x => ((Lit.int .i64 x.Tet).wf = true ∧ (Lit.int .i64 x.Perm).wf = true)) 265 := Reads.toFlat (T := (Ty.pair (TInt .i64) (TInt .i64))) (enc := fun x : GFace => [.int .i64 x.Tet, .int .i64 x.Perm]) (fun x : GFace => (x.Tet, x.Perm)) (fun y => (⟨y.1, y.2⟩ : GFace)) (fun _ => rfl) (fun _ _ => rfl) (Reads.raw Tryz.underlying265 (by kernel_rfl) (ReadsF.cons rfl rfl (by kernel_rfl) (Reads.int Tryz.underlying2) (ReadsF.last rfl rfl (by kernel_rfl) rfl (Reads.int Tryz.underlying2))))
theorem fnExactValidItem_reads225 : Reads Tryz.prog T_GCrossing (fun x => ((Lit.int .i64 x.A).wf = true ∧ (Lit.int .i64 x.B).wf = true ∧ (Lit.int .i64 x.C).wf = true ∧ (Lit.int .i64 x.D).wf = true ∧ (Lit.int .i64 x.Sign).wf = true)) 225 := Reads.toFlat (T := (Ty.pair (TInt .i64) (Ty.pair (TInt .i64) (Ty.pair (TInt .i64) (Ty.pair (TInt .i64) (TInt .i64)))))) (enc := fun x : GCrossing => [.int .i64 x.A, .int .i64 x.B, .int .i64 x.C, .int .i64 x.D, .int .i64 x.Sign]) (fun x : GCrossing => (x.A, x.B, x.C, x.D, x.Sign)) (fun y => (⟨y.1, y.2.1, y.2.2.1, y.2.2.2.1, y.2.2.2.2⟩ : GCrossing)) (fun _ => rfl) (fun _ _ => rfl) (Reads.raw Tryz.underlying225 (by kernel_rfl) (ReadsF.cons rfl rfl (by kernel_rfl) (Reads.int Tryz.underlying2) (ReadsF.cons rfl rfl (by kernel_rfl) (Reads.int Tryz.underlying2) (ReadsF.cons rfl rfl (by kernel_rfl) (Reads.int Tryz.underlying2) (ReadsF.cons rfl rfl (by kernel_rfl) (Reads.int Tryz.underlying2) (ReadsF.last rfl rfl (by kernel_rfl) rfl (Reads.int Tryz.underlying2)))))))
theorem fnExactValidItem_reads227 : Reads Tryz.prog T_GMove (fun x => ((Lit.int .i64 x.Kind).wf = true ∧ (Lit.int .i64 x.Tet).wf = true ∧ (Lit.int .i64 x.Index).wf = true)) 227 := Reads.toFlat (T := (Ty.pair (TInt .i64) (Ty.pair (TInt .i64) (TInt .i64)))) (enc := fun x : GMove => [.int .i64 x.Kind, .int .i64 x.Tet, .int .i64 x.Index]) (fun x : GMove => (x.Kind, x.Tet, x.Index)) (fun y => (⟨y.1, y.2.1, y.2.2⟩ : GMove)) (fun _ => rfl) (fun _ _ => rfl) (Reads.raw Tryz.underlying227 (by kernel_rfl) (ReadsF.cons rfl rfl (by kernel_rfl) (Reads.int Tryz.underlying2) (ReadsF.cons rfl rfl (by kernel_rfl) (Reads.int Tryz.underlying2) (ReadsF.last rfl rfl (by kernel_rfl) rfl (Reads.int Tryz.underlying2)))))
theorem fnExactValidItem_reads35 : Reads Tryz.prog T_GItem (fun x => (x.Name.size ≤ 9223372036854775807 ∧ (Lit.int .i64 x.Kind).wf = true ∧ ((x.Triangulation_Tets.length ≤ 9223372036854775807 ∧ ∀ y0 ∈ x.Triangulation_Tets, (y0.length ≤ 9223372036854775807 ∧ ∀ y1 ∈ y0, ((Lit.int .i64 y1.Tet).wf = true ∧ (Lit.int .i64 y1.Perm).wf = true)))) ∧ ((x.Diagram_Crossings.length ≤ 9223372036854775807 ∧ ∀ y0 ∈ x.Diagram_Crossings, ((Lit.int .i64 y0.A).wf = true ∧ (Lit.int .i64 y0.B).wf = true ∧ (Lit.int .i64 y0.C).wf = true ∧ (Lit.int .i64 y0.D).wf = true ∧ (Lit.int .i64 y0.Sign).wf = true)) ∧ (Lit.int .i64 x.Diagram_Circles).wf = true) ∧ ((Lit.int .i64 x.Braid_Strands).wf = true ∧ (x.Braid_Word.length ≤ 9223372036854775807 ∧ ∀ y0 ∈ x.Braid_Word, (Lit.int .i64 y0).wf = true)) ∧ ((Lit.int .i64 x.Certificate_Name).wf = true ∧ (Lit.int .i64 x.Certificate_Trait).wf = true ∧ (x.Certificate_Moves.length ≤ 9223372036854775807 ∧ ∀ y0 ∈ x.Certificate_Moves, ((Lit.int .i64 y0.Kind).wf = true ∧ (Lit.int .i64 y0.Tet).wf = true ∧ (Lit.int .i64 y0.Index).wf = true)) ∧ (x.Certificate_Tets.length ≤ 9223372036854775807 ∧ ∀ y0 ∈ x.Certificate_Tets, (Lit.int .i64 y0).wf = true) ∧ (x.Certificate_Perms.length ≤ 9223372036854775807 ∧ ∀ y0 ∈ x.Certificate_Perms, (Lit.int .i64 y0).wf = true)))) 35 := Reads.toIso (T := (Ty.pair TStr (Ty.pair (TInt .i64) (Ty.pair (Ty.slice 215 (Ty.slice 265 T_GFace)) (Ty.pair (Ty.pair (Ty.slice 225 T_GCrossing) (TInt .i64)) (Ty.pair (Ty.pair (TInt .i64) (Ty.slice 2 (TInt .i64))) (Ty.pair (TInt .i64) (Ty.pair (TInt .i64) (Ty.pair (Ty.slice 227 T_GMove) (Ty.pair (Ty.slice 2 (TInt .i64)) (Ty.slice 2 (TInt .i64)))))))))))) (U := (Ty.pair TStr (Ty.pair (TInt .i64) (Ty.pair (Ty.slice 215 (Ty.slice 265 T_GFace)) (Ty.pair (Ty.slice 225 T_GCrossing) (Ty.pair (TInt .i64) (Ty.pair (TInt .i64) (Ty.pair (Ty.slice 2 (TInt .i64)) (Ty.pair (TInt .i64) (Ty.pair (TInt .i64) (Ty.pair (Ty.slice 227 T_GMove) (Ty.pair (Ty.slice 2 (TInt .i64)) (Ty.slice 2 (TInt .i64)))))))))))))) (h := fun x : GItem => (x.Name, x.Kind, x.Triangulation_Tets, x.Diagram_Crossings, x.Diagram_Circles, x.Braid_Strands, x.Braid_Word, x.Certificate_Name, x.Certificate_Trait, x.Certificate_Moves, x.Certificate_Tets, x.Certificate_Perms)) (n := 12) (hn := rfl) (fun x : GItem => (x.Name, x.Kind, x.Triangulation_Tets, (x.Diagram_Crossings, x.Diagram_Circles), (x.Braid_Strands, x.Braid_Word), (x.Certificate_Name, x.Certificate_Trait, x.Certificate_Moves, x.Certificate_Tets, x.Certificate_Perms))) (fun l => (l.1, l.2.1, l.2.2.1, l.2.2.2.1.1, l.2.2.2.1.2, l.2.2.2.2.1.1, l.2.2.2.2.1.2, l.2.2.2.2.2.1, l.2.2.2.2.2.2.1, l.2.2.2.2.2.2.2.1, l.2.2.2.2.2.2.2.2.1, l.2.2.2.2.2.2.2.2.2)) (fun y => (⟨y.1, y.2.1, y.2.2.1, y.2.2.2.1.1, y.2.2.2.1.2, y.2.2.2.2.1.1, y.2.2.2.2.1.2, y.2.2.2.2.2.1, y.2.2.2.2.2.2.1, y.2.2.2.2.2.2.2.1, y.2.2.2.2.2.2.2.2.1, y.2.2.2.2.2.2.2.2.2⟩ : GItem)) (fun _ => rfl) (fun _ _ => rfl) (fun _ _ _ h => ⟨h.1, h.2.1, h.2.2.1, h.2.2.2.1.1, h.2.2.2.1.2, h.2.2.2.2.1.1, h.2.2.2.2.1.2, h.2.2.2.2.2.1, h.2.2.2.2.2.2.1, h.2.2.2.2.2.2.2.1, h.2.2.2.2.2.2.2.2.1, h.2.2.2.2.2.2.2.2.2⟩) (Reads.raw Tryz.underlying35 (by kernel_rfl) (ReadsF.cons rfl rfl (by kernel_rfl) (Reads.str Tryz.underlying9) (ReadsF.cons rfl rfl (by kernel_rfl) (Reads.int Tryz.underlying2) (ReadsF.cons rfl rfl (by kernel_rfl) (Reads.raw Tryz.underlying24 (by kernel_rfl) (ReadsF.last rfl rfl (by kernel_rfl) rfl (Reads.slice ⟨none, 0, (fun _ => ())⟩ Tryz.underlying22 (by kernel_rfl) rfl (Reads.slice () Tryz.underlying215 (by kernel_rfl) rfl fnExactValidItem_reads265)))) (ReadsF.cons rfl rfl (by kernel_rfl) (Reads.raw Tryz.underlying27 (by kernel_rfl) (ReadsF.cons rfl rfl (by kernel_rfl) (Reads.slice () Tryz.underlying25 (by kernel_rfl) rfl fnExactValidItem_reads225) (ReadsF.last rfl rfl (by kernel_rfl) rfl (Reads.int Tryz.underlying2)))) (ReadsF.cons rfl rfl (by kernel_rfl) (Reads.raw Tryz.underlying30 (by kernel_rfl) (ReadsF.cons rfl rfl (by kernel_rfl) (Reads.int Tryz.underlying2) (ReadsF.last rfl rfl (by kernel_rfl) rfl (Reads.slice () Tryz.underlying28 (by kernel_rfl) rfl (Reads.int Tryz.underlying2))))) (ReadsF.last rfl rfl (by kernel_rfl) rfl (Reads.raw Tryz.underlying33 (by kernel_rfl) (ReadsF.cons rfl rfl (by kernel_rfl) (Reads.int Tryz.underlying2) (ReadsF.cons rfl rfl (by kernel_rfl) (Reads.int Tryz.underlying2) (ReadsF.cons rfl rfl (by kernel_rfl) (Reads.slice () Tryz.underlying31 (by kernel_rfl) rfl fnExactValidItem_reads227) (ReadsF.cons rfl rfl (by kernel_rfl) (Reads.slice () Tryz.underlying28 (by kernel_rfl) rfl (Reads.int Tryz.underlying2)) (ReadsF.last rfl rfl (by kernel_rfl) rfl (Reads.slice () Tryz.underlying28 (by kernel_rfl) rfl (Reads.int Tryz.underlying2)))))))))))))))
theorem fnExactValidItem_own : ownKnob Tryz.prog.godebug = none := by kernel_rfl
theorem fnExactValidItem_laidOut : laidOutB Tryz.prog = true := by kernel_rfl
def fnExactValidItem_pure : Prop := ∀ (x0 : GItem), (x0.Name.size ≤ 9223372036854775807 ∧ (Lit.int .i64 x0.Kind).wf = true ∧ ((x0.Triangulation_Tets.length ≤ 9223372036854775807 ∧ ∀ y0 ∈ x0.Triangulation_Tets, (y0.length ≤ 9223372036854775807 ∧ ∀ y1 ∈ y0, ((Lit.int .i64 y1.Tet).wf = true ∧ (Lit.int .i64 y1.Perm).wf = true)))) ∧ ((x0.Diagram_Crossings.length ≤ 9223372036854775807 ∧ ∀ y0 ∈ x0.Diagram_Crossings, ((Lit.int .i64 y0.A).wf = true ∧ (Lit.int .i64 y0.B).wf = true ∧ (Lit.int .i64 y0.C).wf = true ∧ (Lit.int .i64 y0.D).wf = true ∧ (Lit.int .i64 y0.Sign).wf = true)) ∧ (Lit.int .i64 x0.Diagram_Circles).wf = true) ∧ ((Lit.int .i64 x0.Braid_Strands).wf = true ∧ (x0.Braid_Word.length ≤ 9223372036854775807 ∧ ∀ y0 ∈ x0.Braid_Word, (Lit.int .i64 y0).wf = true)) ∧ ((Lit.int .i64 x0.Certificate_Name).wf = true ∧ (Lit.int .i64 x0.Certificate_Trait).wf = true ∧ (x0.Certificate_Moves.length ≤ 9223372036854775807 ∧ ∀ y0 ∈ x0.Certificate_Moves, ((Lit.int .i64 y0.Kind).wf = true ∧ (Lit.int .i64 y0.Tet).wf = true ∧ (Lit.int .i64 y0.Index).wf = true)) ∧ (x0.Certificate_Tets.length ≤ 9223372036854775807 ∧ ∀ y0 ∈ x0.Certificate_Tets, (Lit.int .i64 y0).wf = true) ∧ (x0.Certificate_Perms.length ≤ 9223372036854775807 ∧ ∀ y0 ∈ x0.Certificate_Perms, (Lit.int .i64 y0).wf = true))) → ∃ K, laws_FnExactValidItem.f K x0.Name x0.Kind x0.Triangulation_Tets x0.Diagram_Crossings x0.Diagram_Circles x0.Braid_Strands x0.Braid_Word x0.Certificate_Name x0.Certificate_Trait x0.Certificate_Moves x0.Certificate_Tets x0.Certificate_Perms = some true
abbrev fnExactValidItem_laid : List (String × DataW Unit) := Rows.fnExactValidItemRow.laid
set_option maxRecDepth 100000 in
theorem fnExactValidItem_lifted (pure : fnExactValidItem_pure) (os : Os) (started : os.Started) (H : Type) (enc : TypeId × Value → H) :
    ReturnsInHanded {} Tryz.checked os 3 .any (fun w args => (Rows.fnExactValidItemSpec.pre enc Tryz.prog Tryz.f3 Rows.fnExactValidItemRow.domain false w args ∧ laidMetH Tryz.prog fnExactValidItem_laid w) ∧ sizedMet enc Tryz.prog Tryz.f3 (OpenSpec.ofChange Rows.fnExactValidItemSpec) false w args) (Rows.fnExactValidItemSpec.post enc Tryz.prog Tryz.f3 false true false false) := by
  refine returnsInHanded_of_change_and (C := Tryz.checked) (X := fun w _ => laidMetH Tryz.prog fnExactValidItem_laid w) (fun _ _ _ hh h => h.of_heap hh) fnExactValidItem_own started (by kernel_rfl) Tryz.func3
    (ChangeSpec.witness_shaped (enc := enc) (C := Tryz.checked) (os := os) (X := fun w _ => laidMetH Tryz.prog fnExactValidItem_laid w) false (World.laidAll Tryz.prog os fnExactValidItem_laid) #[.agg #[.string ByteArray.empty, .int .i64 0, .slice none 0 0, .slice none 0 0, .int .i64 0, .int .i64 0, .slice none 0 0, .int .i64 0, .int .i64 0, .slice none 0 0, .slice none 0 0, .slice none 0 0]] 8 (World.laidAll_os _ _ _)
      (World.shaped_of_ZipB (by kernel_rfl) (by kernel_rfl)) (by kernel_rfl) (by kernel_rfl) (by kernel_rfl)
      (by rw [MakeChecks.laidMetH_plain _ _ _ (by kernel_rfl)]; exact laidMet_laidAll _ (by kernel_rfl) (by kernel_rfl))) ?_
  intro W base args ds gs before hval0 hW hcnd hsz0 _ _
  have hval : ∀ (j : Nat) t v, Tryz.f3.params[j]? = some t → args[j]? = some v → Value.okWide Tryz.prog W .any base t v := hval0
  have hW' := hW
  obtain ⟨p, q, hA0, hV, rfl, hfz, hnd⟩ := hW
  have hA : DataW.TrodAll enc Tryz.prog W 0 (fun _ => true) true Tryz.f3.params.toList args.toList ds p := hA0
  rw [Tryz.params3] at hA hval
  obtain ⟨v0, vs0, d0, ds0, p0, q0, hargs, rfl, rfl, h0, r0⟩ := trodAll_cons hA
  obtain ⟨rfl, rfl, rfl⟩ := trodAll_nil r0
  obtain rfl : args = #[v0] := by cases args; simp_all
  obtain ⟨rfl, rfl⟩ := trodVars_none hV
  have t0 := h0
  have lt0 : ∀ x ∈ p0, x.block < W.heap.size := by obtain ⟨m, hm⟩ := t0; exact DataW.trod_lt m _ _ _ hm
  obtain ⟨l0, x0, rfl, k0, w0⟩ := arg_struct fnExactValidItem_reads35 Tryz.underlying35 (hval 0 35 v0 rfl rfl) h0
  clear hA0 hval0 hsz0
  obtain ⟨K, hK⟩ := pure x0 w0
  refine (laws_FnExactValidItem.calls (St.refl W) (RdIn.old k0.2.2.1) (RdIn.old k0.2.2.2.1) (RdIn.old k0.2.2.2.2.2.2.1) (RdIn.old k0.2.2.2.2.2.2.2.2.2.1) (RdIn.old k0.2.2.2.2.2.2.2.2.2.2.1) (RdIn.old k0.2.2.2.2.2.2.2.2.2.2.2) hK).mono fun e W' ⟨he, bel0⟩ => ?_
  have bel := bel0.below
  subst he
  exact ⟨_, rfl, _, _, _, [], _, [], hW', trodAll_mk1 (shut_bool Tryz.underlying4 _), (trodAll_cons_mk (Below.trod fnExactValidItem_laidOut (by kernel_rfl) (of_decide_eq_true (by kernel_rfl)) t0 bel lt0) trodAll_mk0), rfl, bel.frame _, fun h => by cases h⟩
set_option maxHeartbeats 40000000 in
theorem fnExactValidItem_joined : joinedFacts Tryz.pinned.checked.prog 3 Tryz.f3 Rows.fnExactValidItemSpec Rows.fnExactValidItemRow = true := by
  unfold joinedFacts
  simp only [Bool.and_eq_true]
  repeat' apply And.intro
  all_goals as_aux_lemma => kernel_rfl
theorem fnExactValidItem_funcNamed : Tryz.pinned.checked.prog.funcNamed Rows.fnExactValidItemRow.func = some 3 := by kernel_rfl
theorem fnExactValidItem_inst : Tryz.f3.isInstance Tryz.pinned.checked.prog Rows.fnExactValidItemRow.origin Rows.fnExactValidItemRow.targs := of_decide_eq_true (by kernel_rfl)
theorem fnExactValidItem_wrap : Tryz.f3.isWrapper Tryz.pinned.checked.prog Rows.fnExactValidItemRow.wrapper Rows.fnExactValidItemRow.mainSum := by unfold Func.isWrapper; first | (rw [if_pos (by decide +kernel)]; kernel_rfl) | (rw [if_neg (by decide +kernel)]; exact ⟨rfl, rfl⟩)
theorem fnExactValidItem_of (pure : fnExactValidItem_pure) : Rows.FnExactValidItemSaid :=
  OpenClaim.holds_of_wide 3 Tryz.f3 rfl rfl rfl rfl rfl rfl rfl ⟨rfl, rfl, rfl, rfl, rfl⟩ rfl rfl rfl rfl rfl fnExactValidItem_funcNamed Tryz.func3 fnExactValidItem_joined
    fnExactValidItem_inst fnExactValidItem_wrap
    (fun os started H enc _ => fnExactValidItem_lifted pure os started H enc)
end Go.Proofs.YtgkcddpgmmmblaaGreatDoor
