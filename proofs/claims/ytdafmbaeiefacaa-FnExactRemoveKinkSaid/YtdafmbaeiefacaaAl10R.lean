/-
  The statement FnExactRemoveKink out of its one pure sentence: for every input, in some number of rounds, the list function of the law says true.
-/
import Derived.Test.YtdafmbaeiefacaaRows
import Derived.Test.YtdafmbaeiefacaaAlW4
import Derived.Test.YtdafmbaeiefacaaSlR
import Derived.WalkKit
import Derived.ProofKit
import Derived.OpenShut
import Derived.ShutString
import Derived.ChangeOld
import Derived.Below
import Derived.SizedLaws
set_option linter.unusedVariables false
namespace Go.Proofs.Ytdafmbaeiefacaa
open Go.ChangeShapes Go.WideShapes Go.ChangeAt Go.RowKit Go.Joins Go.Deep
theorem fnExactRemoveKink_own : ownKnob Try.prog.godebug = none := by kernel_rfl
theorem fnExactRemoveKink_laidOut : laidOutB Try.prog = true := by kernel_rfl
def fnExactRemoveKink_pure : Prop := ∀ (x0 : List GCrossing) (k0 : Int) (k1 : Int), x0.length ≤ 9223372036854775807 → (∀ y ∈ x0, ∃ f : Nat → Int, y = (⟨f 0, f 1, f 2, f 3, f 4⟩ : GCrossing) ∧ ∀ j, j < 5 → (Lit.int .i64 (f j)).wf = true) → (Lit.int .i64 k0).wf = true → (Lit.int .i64 k1).wf = true → ∃ K, laws_FnExactRemoveKink.f K x0 k0 k1 = some true
set_option maxRecDepth 100000 in
theorem fnExactRemoveKink_lifted (pure : fnExactRemoveKink_pure) (os : Os) (started : os.Started) (H : Type) (enc : TypeId × Value → H) :
    ReturnsInHanded {} Try.checked os 10 .any (Rows.fnExactRemoveKinkSpec.pre6 enc Try.prog Try.f10 Rows.fnExactRemoveKinkRow.domain false) (Rows.fnExactRemoveKinkSpec.post enc Try.prog Try.f10 false true false false) := by
  refine returnsInHanded_of_change_sized (C := Try.checked) fnExactRemoveKink_own started (by kernel_rfl) Try.func10
    (ChangeSpec.witness6 (enc := enc) (C := Try.checked) false ⟨#[], #[.agg #[.slice none 0 0, .int .i64 0], .int .i64 0], []⟩ 8 (by kernel_rfl) (by kernel_rfl) (by kernel_rfl) (by kernel_rfl)) ?_
  intro W base args ds gs before hval0 hW hcnd hsz0 _
  have hval : ∀ (j : Nat) t v, Try.f10.params[j]? = some t → args[j]? = some v → Value.okWide Try.prog W .any base t v := hval0
  have hW' := hW
  obtain ⟨p, q, hA0, hV, rfl, hfz, hnd⟩ := hW
  have hA : DataW.TrodAll enc Try.prog W 0 (fun _ => true) true Try.f10.params.toList args.toList ds p := hA0
  rw [Try.params10] at hA hval
  obtain ⟨v0, vs0, d0, ds0, p0, q0, hargs, rfl, rfl, h0, r0⟩ := trodAll_cons hA
  obtain ⟨v1, vs1, d1, ds1, p1, q1, rfl, rfl, rfl, h1, r1⟩ := trodAll_cons r0
  obtain ⟨rfl, rfl, rfl⟩ := trodAll_nil r1
  obtain rfl : args = #[v0, v1] := by cases args; simp_all
  obtain ⟨rfl, rfl⟩ := trodVars_none hV
  have t0 := h0
  have lt0 : ∀ x ∈ p0, x.block < W.heap.size := by obtain ⟨m, hm⟩ := t0; exact DataW.trod_lt m _ _ _ hm
  obtain ⟨a0, b0, y0, z0, n0, rfl, hd0, hp0, s0, g0⟩ := open_agg2 Try.underlying24 (by kernel_rfl) (by kernel_rfl) (hval 0 24 v0 rfl rfl) h0
  obtain ⟨A0, c0, x0, hx0, hr0, wx0⟩ := read_structs (ec := fun x : GCrossing => [.int .i64 x.A, .int .i64 x.B, .int .i64 x.C, .int .i64 x.D, .int .i64 x.Sign]) (hl := fun _ => rfl) (h1 := fun x u h => by simp only [List.mem_cons, List.not_mem_nil, or_false] at h; rcases h with rfl | rfl | rfl | rfl | rfl <;> rfl) Try.underlying22 Try.underlying122 (by kernel_rfl) (by kernel_rfl) (fun j f hj => by match j, hj with | 0, hj | 1, hj | 2, hj | 3, hj | 4, hj => cases hj; exact Try.underlying2) rfl (by decide) (fun f => (⟨f 0, f 1, f 2, f 3, f 4⟩ : GCrossing)) (fun _ => rfl) s0
  obtain ⟨k0, hk0, _, w0⟩ := DataW.trod_int Try.underlying2 g0
  obtain rfl : a0 = .slice A0 x0.length c0 := by simpa using hx0
  obtain rfl : b0 = .int .i64 k0 := by simpa using hk0
  obtain ⟨k1, rfl, rfl, rfl, w1⟩ := open_int Try.underlying2 (hval 1 2 v1 rfl rfl) h1
  clear hA0 hval0 hsz0
  obtain ⟨K, hK⟩ := pure x0 k0 k1 (Nat.le_trans hr0.1 hr0.2.1) wx0 w0 w1
  refine (laws_FnExactRemoveKink.calls (St.refl W) (RdIn.old (T := T_GCrossing) hr0) hK).mono fun e W' ⟨he, bel0⟩ => ?_
  have bel := bel0.below
  subst he
  exact ⟨_, rfl, _, _, _, [], _, [], hW', trodAll_mk1 (shut_bool Try.underlying4 _), (trodAll_cons_mk (Below.trod fnExactRemoveKink_laidOut (by kernel_rfl) (of_decide_eq_true (by kernel_rfl)) t0 bel lt0) (trodAll_cons_mk (shut_int Try.underlying2 w1) trodAll_mk0)), rfl, bel.frame _, fun h => by cases h⟩
theorem fnExactRemoveKink_of (pure : fnExactRemoveKink_pure) : Rows.FnExactRemoveKinkSaid :=
  OpenClaim.holds_of_wide 10 Try.f10 rfl rfl rfl rfl rfl rfl rfl ⟨rfl, rfl, rfl, rfl, rfl⟩ rfl rfl rfl rfl rfl (by kernel_rfl) Try.func10 (by kernel_rfl)
    (of_decide_eq_true (by kernel_rfl)) (by unfold Func.isWrapper; first | (rw [if_pos (by decide +kernel)]; kernel_rfl) | (rw [if_neg (by decide +kernel)]; exact ⟨rfl, rfl⟩))
    (fun os started H enc _ => fnExactRemoveKink_lifted pure os started H enc)
end Go.Proofs.Ytdafmbaeiefacaa
