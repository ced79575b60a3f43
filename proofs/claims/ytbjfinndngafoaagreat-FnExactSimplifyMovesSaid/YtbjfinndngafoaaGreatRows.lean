/-
  No cell of these rows narrows 'for every input' (looked for: loops, veiled, ifaces, maps, wideKeys, modest, calm, conditions, laid).
  DERIVED. THE GIVEN ROWS OF THIS SEAT. 7 by the template 'for every input the law returns true; each argument reads behind the call as it read before'; 0 by the template 'total and deterministic' (their statements: YtbjfinndngafoaaGreatTotals.lean).
  GIVEN WITH THE SEED: the statements are not yours to turn. If you find one false, say at which input.
  Laid BY PROGRAM, IN A SANDBOX (cutbox-rows.mjs): the forced cells as the released guide's own fill.sh prints them over the translation 361bb3b13b362fe1… (all of the seat's roots in one cut). By AI agents, Wed Nov 11 2026. No macro, syntax, notation, axiom, sorry.
-/
import Derived.Test.YtbjfinndngafoaaGreatChecked
import GoSem.Claim
import GoSem.ClaimJoined
import GoSem.ClaimMapViews
import Derived.JoinedTies
import Derived.KernelRfl
namespace Go.Proofs.YtbjfinndngafoaaGreat
/- THE CELL 'sum', in the pinned program and in every row, IS THE sha256 OF THE DUMP (.gsa) THAT YtbjfinndngafoaaGreatProg.lean LOADS. Nothing in Lean hashes anything: it is a label: what it is worth is what the hold of that sum in a sandbox is worth. -/
noncomputable def Tryz.pinned : Pinned := { name := "ytbjfinndngafoaagreat", sum := "361bb3b13b362fe1a1c1fe0347e7340a7dc03e5597f07e7ab1e5fc784ffee158", checked := Tryz.checked }
namespace Rows
def none {H : Type} : Left H := { results := [], args := [] }

/-- 'laws.FnExactMoveCode': WHATEVER THE INPUT: true; the input reads as it did. -/
def fnExactMoveCodeSpec : ChangeSpec := { name := "fnExactMoveCode", fn := fun _ => fun
  | [d1, d2] => { results := [.lit (.bool true)], args := [d1, d2] }
  | _ => none }
def fnExactMoveCodeRow : OpenClaim := { program := "ytbjfinndngafoaagreat", sum := "361bb3b13b362fe1a1c1fe0347e7340a7dc03e5597f07e7ab1e5fc784ffee158", func := "loop.example/g00870/laws.FnExactMoveCode", spec := "fnExactMoveCode", unfollowed := true, recurses := true, plainKeys := false, apart := false }
def FnExactMoveCodeSaid : Prop := fnExactMoveCodeRow.holds Tryz.pinned (OpenSpec.ofChange fnExactMoveCodeSpec)

/-- ITS FALSE NEIGHBOUR: 'it returns false'. Refute it at one input. -/
def fnExactMoveCodeWrong : ChangeSpec := { name := "fnExactMoveCode", fn := fun _ => fun
  | [d1, d2] => { results := [.lit (.bool false)], args := [d1, d2] }
  | _ => none }
def FnExactMoveCodeWrongFalsely : Prop := fnExactMoveCodeRow.holds Tryz.pinned (OpenSpec.ofChange fnExactMoveCodeWrong)

/-- 'laws.FnExactPossibleMoves': WHATEVER THE INPUT: true; the input reads as it did. -/
def fnExactPossibleMovesSpec : ChangeSpec := { name := "fnExactPossibleMoves", fn := fun _ => fun
  | [d] => { results := [.lit (.bool true)], args := [d] }
  | _ => none }
def fnExactPossibleMovesRow : OpenClaim := { program := "ytbjfinndngafoaagreat", sum := "361bb3b13b362fe1a1c1fe0347e7340a7dc03e5597f07e7ab1e5fc784ffee158", func := "loop.example/g00870/laws.FnExactPossibleMoves", spec := "fnExactPossibleMoves", unfollowed := true, recurses := true, plainKeys := false, apart := false }
def FnExactPossibleMovesSaid : Prop := fnExactPossibleMovesRow.holds Tryz.pinned (OpenSpec.ofChange fnExactPossibleMovesSpec)

/-- ITS FALSE NEIGHBOUR: 'it returns false'. Refute it at one input. -/
def fnExactPossibleMovesWrong : ChangeSpec := { name := "fnExactPossibleMoves", fn := fun _ => fun
  | [d] => { results := [.lit (.bool false)], args := [d] }
  | _ => none }
def FnExactPossibleMovesWrongFalsely : Prop := fnExactPossibleMovesRow.holds Tryz.pinned (OpenSpec.ofChange fnExactPossibleMovesWrong)

/-- 'laws.FnExactInverseMove': WHATEVER THE INPUT: true; the input reads as it did. -/
def fnExactInverseMoveSpec : ChangeSpec := { name := "fnExactInverseMove", fn := fun _ => fun
  | [d1, d2] => { results := [.lit (.bool true)], args := [d1, d2] }
  | _ => none }
def fnExactInverseMoveRow : OpenClaim := { program := "ytbjfinndngafoaagreat", sum := "361bb3b13b362fe1a1c1fe0347e7340a7dc03e5597f07e7ab1e5fc784ffee158", func := "loop.example/g00870/laws.FnExactInverseMove", spec := "fnExactInverseMove", unfollowed := true, recurses := true, plainKeys := false, apart := false }
def FnExactInverseMoveSaid : Prop := fnExactInverseMoveRow.holds Tryz.pinned (OpenSpec.ofChange fnExactInverseMoveSpec)

/-- ITS FALSE NEIGHBOUR: 'it returns false'. Refute it at one input. -/
def fnExactInverseMoveWrong : ChangeSpec := { name := "fnExactInverseMove", fn := fun _ => fun
  | [d1, d2] => { results := [.lit (.bool false)], args := [d1, d2] }
  | _ => none }
def FnExactInverseMoveWrongFalsely : Prop := fnExactInverseMoveRow.holds Tryz.pinned (OpenSpec.ofChange fnExactInverseMoveWrong)

/-- 'laws.FnExactApplyMove': WHATEVER THE INPUT: true; the input reads as it did. -/
def fnExactApplyMoveSpec : ChangeSpec := { name := "fnExactApplyMove", fn := fun _ => fun
  | [d1, d2] => { results := [.lit (.bool true)], args := [d1, d2] }
  | _ => none }
def fnExactApplyMoveRow : OpenClaim := { program := "ytbjfinndngafoaagreat", sum := "361bb3b13b362fe1a1c1fe0347e7340a7dc03e5597f07e7ab1e5fc784ffee158", func := "loop.example/g00870/laws.FnExactApplyMove", spec := "fnExactApplyMove", unfollowed := true, recurses := true, plainKeys := false, apart := false }
def FnExactApplyMoveSaid : Prop := fnExactApplyMoveRow.holds Tryz.pinned (OpenSpec.ofChange fnExactApplyMoveSpec)

/-- ITS FALSE NEIGHBOUR: 'it returns false'. Refute it at one input. -/
def fnExactApplyMoveWrong : ChangeSpec := { name := "fnExactApplyMove", fn := fun _ => fun
  | [d1, d2] => { results := [.lit (.bool false)], args := [d1, d2] }
  | _ => none }
def FnExactApplyMoveWrongFalsely : Prop := fnExactApplyMoveRow.holds Tryz.pinned (OpenSpec.ofChange fnExactApplyMoveWrong)

/-- 'laws.FnExactApplyMoves': WHATEVER THE INPUT: true; the input reads as it did. -/
def fnExactApplyMovesSpec : ChangeSpec := { name := "fnExactApplyMoves", fn := fun _ => fun
  | [d1, d2] => { results := [.lit (.bool true)], args := [d1, d2] }
  | _ => none }
def fnExactApplyMovesRow : OpenClaim := { program := "ytbjfinndngafoaagreat", sum := "361bb3b13b362fe1a1c1fe0347e7340a7dc03e5597f07e7ab1e5fc784ffee158", func := "loop.example/g00870/laws.FnExactApplyMoves", spec := "fnExactApplyMoves", unfollowed := true, recurses := true, plainKeys := false, apart := false }
def FnExactApplyMovesSaid : Prop := fnExactApplyMovesRow.holds Tryz.pinned (OpenSpec.ofChange fnExactApplyMovesSpec)

/-- ITS FALSE NEIGHBOUR: 'it returns false'. Refute it at one input. -/
def fnExactApplyMovesWrong : ChangeSpec := { name := "fnExactApplyMoves", fn := fun _ => fun
  | [d1, d2] => { results := [.lit (.bool false)], args := [d1, d2] }
  | _ => none }
def FnExactApplyMovesWrongFalsely : Prop := fnExactApplyMovesRow.holds Tryz.pinned (OpenSpec.ofChange fnExactApplyMovesWrong)

/-- 'laws.FnExactSimplifyMoves': WHATEVER THE INPUT: true; the input reads as it did. -/
def fnExactSimplifyMovesSpec : ChangeSpec := { name := "fnExactSimplifyMoves", fn := fun _ => fun
  | [d] => { results := [.lit (.bool true)], args := [d] }
  | _ => none }
def fnExactSimplifyMovesRow : OpenClaim := { program := "ytbjfinndngafoaagreat", sum := "361bb3b13b362fe1a1c1fe0347e7340a7dc03e5597f07e7ab1e5fc784ffee158", func := "loop.example/g00870/laws.FnExactSimplifyMoves", spec := "fnExactSimplifyMoves", unfollowed := true, recurses := true, plainKeys := false, apart := false }
def FnExactSimplifyMovesSaid : Prop := fnExactSimplifyMovesRow.holds Tryz.pinned (OpenSpec.ofChange fnExactSimplifyMovesSpec)

/-- ITS FALSE NEIGHBOUR: 'it returns false'. Refute it at one input. -/
def fnExactSimplifyMovesWrong : ChangeSpec := { name := "fnExactSimplifyMoves", fn := fun _ => fun
  | [d] => { results := [.lit (.bool false)], args := [d] }
  | _ => none }
def FnExactSimplifyMovesWrongFalsely : Prop := fnExactSimplifyMovesRow.holds Tryz.pinned (OpenSpec.ofChange fnExactSimplifyMovesWrong)

/-- 'laws.FnExactWalkMoves': WHATEVER THE INPUT: true; the input reads as it did. -/
def fnExactWalkMovesSpec : ChangeSpec := { name := "fnExactWalkMoves", fn := fun _ => fun
  | [d1, d2] => { results := [.lit (.bool true)], args := [d1, d2] }
  | _ => none }
def fnExactWalkMovesRow : OpenClaim := { program := "ytbjfinndngafoaagreat", sum := "361bb3b13b362fe1a1c1fe0347e7340a7dc03e5597f07e7ab1e5fc784ffee158", func := "loop.example/g00870/laws.FnExactWalkMoves", spec := "fnExactWalkMoves", unfollowed := true, recurses := true, plainKeys := false, apart := false }
def FnExactWalkMovesSaid : Prop := fnExactWalkMovesRow.holds Tryz.pinned (OpenSpec.ofChange fnExactWalkMovesSpec)

/-- ITS FALSE NEIGHBOUR: 'it returns false'. Refute it at one input. -/
def fnExactWalkMovesWrong : ChangeSpec := { name := "fnExactWalkMoves", fn := fun _ => fun
  | [d1, d2] => { results := [.lit (.bool false)], args := [d1, d2] }
  | _ => none }
def FnExactWalkMovesWrongFalsely : Prop := fnExactWalkMovesRow.holds Tryz.pinned (OpenSpec.ofChange fnExactWalkMovesWrong)

/- THE SECOND FORM. 'bulk': how many values and letters a reading holds, each counted each time it is reached (what is shared counts as often as it is met; a slice's spare places count too). A statement '..UptoSaid' is the law's where the arguments, and the package variables that the reading takes, are together of bulk at most 1048576: NARROWER than '..Said'. Prove '..Said' where nothing that the law and all that it calls make is longer than what came in: it says more and counts as full. Else prove '..UptoSaid'. A law counts once. -/
mutual
def uptoBulk {H : Type} : DataW H → Nat
  | .lit (.string bytes) => bytes.length + 1
  | .lit _ => 1
  | .nil => 1
  | .ptr d => uptoBulk d + 1
  | .slice elems spare => uptoBulkAll elems + uptoBulkAll spare + 1
  | .agg parts => uptoBulkAll parts + 1
  | .iface _ d => uptoBulk d + 1
  | .map entries => uptoBulkEntries entries + 1
  | .held _ => 1
def uptoBulkAll {H : Type} : List (DataW H) → Nat
  | [] => 0
  | d :: r => uptoBulk d + uptoBulkAll r
def uptoBulkEntries {H : Type} : List (Lit × DataW H) → Nat
  | [] => 0
  | x :: r => uptoBulkEntry x + uptoBulkEntries r
def uptoBulkEntry {H : Type} : Lit × DataW H → Nat
  | (.string bytes, d) => bytes.length + uptoBulk d + 1
  | (_, d) => uptoBulk d + 1
 end
def uptoSmall : (H : Type) → List (DataW H) → Bool := fun _ ds => decide (uptoBulkAll ds ≤ 1048576)
def OpenSpec.upto (s : _root_.Go.ChangeSpec) : _root_.Go.OpenSpec := { _root_.Go.OpenSpec.ofChange s with cond := some uptoSmall }

/-- 'laws.FnExactMoveCode', WHERE WHAT IT READS IS OF BULK AT MOST 1048576: true; the input reads as it did. -/
def fnExactMoveCodeUptoRow : OpenClaim := { program := "ytbjfinndngafoaagreat", sum := "361bb3b13b362fe1a1c1fe0347e7340a7dc03e5597f07e7ab1e5fc784ffee158", func := "loop.example/g00870/laws.FnExactMoveCode", spec := "fnExactMoveCode", unfollowed := true, recurses := true, plainKeys := false, apart := false, narrowed := true }
def FnExactMoveCodeUptoSaid : Prop := fnExactMoveCodeUptoRow.holds Tryz.pinned (OpenSpec.upto fnExactMoveCodeSpec)

/-- 'laws.FnExactPossibleMoves', WHERE WHAT IT READS IS OF BULK AT MOST 1048576: true; the input reads as it did. -/
def fnExactPossibleMovesUptoRow : OpenClaim := { program := "ytbjfinndngafoaagreat", sum := "361bb3b13b362fe1a1c1fe0347e7340a7dc03e5597f07e7ab1e5fc784ffee158", func := "loop.example/g00870/laws.FnExactPossibleMoves", spec := "fnExactPossibleMoves", unfollowed := true, recurses := true, plainKeys := false, apart := false, narrowed := true }
def FnExactPossibleMovesUptoSaid : Prop := fnExactPossibleMovesUptoRow.holds Tryz.pinned (OpenSpec.upto fnExactPossibleMovesSpec)

/-- 'laws.FnExactInverseMove', WHERE WHAT IT READS IS OF BULK AT MOST 1048576: true; the input reads as it did. -/
def fnExactInverseMoveUptoRow : OpenClaim := { program := "ytbjfinndngafoaagreat", sum := "361bb3b13b362fe1a1c1fe0347e7340a7dc03e5597f07e7ab1e5fc784ffee158", func := "loop.example/g00870/laws.FnExactInverseMove", spec := "fnExactInverseMove", unfollowed := true, recurses := true, plainKeys := false, apart := false, narrowed := true }
def FnExactInverseMoveUptoSaid : Prop := fnExactInverseMoveUptoRow.holds Tryz.pinned (OpenSpec.upto fnExactInverseMoveSpec)

/-- 'laws.FnExactApplyMove', WHERE WHAT IT READS IS OF BULK AT MOST 1048576: true; the input reads as it did. -/
def fnExactApplyMoveUptoRow : OpenClaim := { program := "ytbjfinndngafoaagreat", sum := "361bb3b13b362fe1a1c1fe0347e7340a7dc03e5597f07e7ab1e5fc784ffee158", func := "loop.example/g00870/laws.FnExactApplyMove", spec := "fnExactApplyMove", unfollowed := true, recurses := true, plainKeys := false, apart := false, narrowed := true }
def FnExactApplyMoveUptoSaid : Prop := fnExactApplyMoveUptoRow.holds Tryz.pinned (OpenSpec.upto fnExactApplyMoveSpec)

/-- 'laws.FnExactApplyMoves', WHERE WHAT IT READS IS OF BULK AT MOST 1048576: true; the input reads as it did. -/
def fnExactApplyMovesUptoRow : OpenClaim := { program := "ytbjfinndngafoaagreat", sum := "361bb3b13b362fe1a1c1fe0347e7340a7dc03e5597f07e7ab1e5fc784ffee158", func := "loop.example/g00870/laws.FnExactApplyMoves", spec := "fnExactApplyMoves", unfollowed := true, recurses := true, plainKeys := false, apart := false, narrowed := true }
def FnExactApplyMovesUptoSaid : Prop := fnExactApplyMovesUptoRow.holds Tryz.pinned (OpenSpec.upto fnExactApplyMovesSpec)

/-- 'laws.FnExactSimplifyMoves', WHERE WHAT IT READS IS OF BULK AT MOST 1048576: true; the input reads as it did. -/
def fnExactSimplifyMovesUptoRow : OpenClaim := { program := "ytbjfinndngafoaagreat", sum := "361bb3b13b362fe1a1c1fe0347e7340a7dc03e5597f07e7ab1e5fc784ffee158", func := "loop.example/g00870/laws.FnExactSimplifyMoves", spec := "fnExactSimplifyMoves", unfollowed := true, recurses := true, plainKeys := false, apart := false, narrowed := true }
def FnExactSimplifyMovesUptoSaid : Prop := fnExactSimplifyMovesUptoRow.holds Tryz.pinned (OpenSpec.upto fnExactSimplifyMovesSpec)

/-- 'laws.FnExactWalkMoves', WHERE WHAT IT READS IS OF BULK AT MOST 1048576: true; the input reads as it did. -/
def fnExactWalkMovesUptoRow : OpenClaim := { program := "ytbjfinndngafoaagreat", sum := "361bb3b13b362fe1a1c1fe0347e7340a7dc03e5597f07e7ab1e5fc784ffee158", func := "loop.example/g00870/laws.FnExactWalkMoves", spec := "fnExactWalkMoves", unfollowed := true, recurses := true, plainKeys := false, apart := false, narrowed := true }
def FnExactWalkMovesUptoSaid : Prop := fnExactWalkMovesUptoRow.holds Tryz.pinned (OpenSpec.upto fnExactWalkMovesSpec)

end Rows
end Go.Proofs.YtbjfinndngafoaaGreat
