/-
  A place at a crossing gets another arc, in the reference's words.
-/
import Derived.Test.YtdfiglhdjlmakaaGreatPlM
set_option linter.unusedVariables false
set_option linter.unusedSimpArgs false
set_option linter.unusedSectionVars false
namespace Go.Proofs.YtdfiglhdjlmakaaGreat
open Go.RowKit
theorem With_eq (x : GCrossing) {p : Nat} (h : p < 4) (a : Int) : spec_l25With.f x.A x.B x.C x.D x.Sign (p : Int) a = some ((withArc x p a).A, (withArc x p a).B, (withArc x p a).C, (withArc x p a).D, (withArc x p a).Sign) := by
  match p, h with
  | 0, _ | 1, _ | 2, _ | 3, _ => rfl
end Go.Proofs.YtdfiglhdjlmakaaGreat
