/-
  No cell of these rows narrows 'for every input' (looked for: loops, veiled, ifaces, maps, wideKeys, modest, calm, conditions, laid).
  DERIVED. THE GIVEN ROWS OF THIS SEAT. 9 by the template 'for every input the law returns true; each argument reads behind the call as it read before'; 0 by the template 'total and deterministic' (their statements: YtdafmbaeiefacaaTotals.lean).
  GIVEN WITH THE SEED: the statements are not yours to turn. If you find one false, say at which input.
  Laid BY PROGRAM, IN A SANDBOX (cutbox-rows.mjs): the forced cells as the released guide's own fill.sh prints them over the translation 3f2510f25a1bcbf3… (all of the seat's roots in one cut). By AI agents, Wed Nov 11 2026. No macro, syntax, notation, axiom, sorry.
-/
import Derived.Test.YtdafmbaeiefacaaChecked
import GoSem.Claim
import GoSem.ClaimJoined
import GoSem.ClaimMapViews
import Derived.JoinedTies
import Derived.KernelRfl
namespace Go.Proofs.Ytdafmbaeiefacaa
/- THE CELL 'sum', in the pinned program and in every row, IS THE sha256 OF THE DUMP (.gsa) THAT YtdafmbaeiefacaaProg.lean LOADS. Nothing in Lean hashes anything: it is a label: what it is worth is what the hold of that sum in a sandbox is worth. -/
noncomputable def Try.pinned : Pinned := { name := "ytdafmbaeiefacaa", sum := "3f2510f25a1bcbf3da7be731300df548503f74e0421385582d8d3e08b9a6a8a3", checked := Try.checked }
namespace Rows
def none {H : Type} : Left H := { results := [], args := [] }

/-- 'laws.FnExactAddKink': WHATEVER THE INPUT: true; the input reads as it did. -/
def fnExactAddKinkSpec : ChangeSpec := { name := "fnExactAddKink", fn := fun _ => fun
  | [d1, d2, d3] => { results := [.lit (.bool true)], args := [d1, d2, d3] }
  | _ => none }
def fnExactAddKinkRow : OpenClaim := { program := "ytdafmbaeiefacaa", sum := "3f2510f25a1bcbf3da7be731300df548503f74e0421385582d8d3e08b9a6a8a3", func := "loop.example/g00870/laws.FnExactAddKink", spec := "fnExactAddKink", unfollowed := true, recurses := true, apart := false }
def FnExactAddKinkSaid : Prop := fnExactAddKinkRow.holds Try.pinned (OpenSpec.ofChange fnExactAddKinkSpec)

/-- ITS FALSE NEIGHBOUR: 'it returns false'. Refute it at one input. -/
def fnExactAddKinkWrong : ChangeSpec := { name := "fnExactAddKink", fn := fun _ => fun
  | [d1, d2, d3] => { results := [.lit (.bool false)], args := [d1, d2, d3] }
  | _ => none }
def FnExactAddKinkWrongFalsely : Prop := fnExactAddKinkRow.holds Try.pinned (OpenSpec.ofChange fnExactAddKinkWrong)

/-- 'laws.FnExactJoinDiagrams': WHATEVER THE INPUT: true; the input reads as it did. -/
def fnExactJoinDiagramsSpec : ChangeSpec := { name := "fnExactJoinDiagrams", fn := fun _ => fun
  | [d1, d2, d3, d4] => { results := [.lit (.bool true)], args := [d1, d2, d3, d4] }
  | _ => none }
def fnExactJoinDiagramsRow : OpenClaim := { program := "ytdafmbaeiefacaa", sum := "3f2510f25a1bcbf3da7be731300df548503f74e0421385582d8d3e08b9a6a8a3", func := "loop.example/g00870/laws.FnExactJoinDiagrams", spec := "fnExactJoinDiagrams", unfollowed := true, recurses := true, apart := false }
def FnExactJoinDiagramsSaid : Prop := fnExactJoinDiagramsRow.holds Try.pinned (OpenSpec.ofChange fnExactJoinDiagramsSpec)

/-- ITS FALSE NEIGHBOUR: 'it returns false'. Refute it at one input. -/
def fnExactJoinDiagramsWrong : ChangeSpec := { name := "fnExactJoinDiagrams", fn := fun _ => fun
  | [d1, d2, d3, d4] => { results := [.lit (.bool false)], args := [d1, d2, d3, d4] }
  | _ => none }
def FnExactJoinDiagramsWrongFalsely : Prop := fnExactJoinDiagramsRow.holds Try.pinned (OpenSpec.ofChange fnExactJoinDiagramsWrong)

/-- 'laws.FnExactAddBigon': WHATEVER THE INPUT: true; the input reads as it did. -/
def fnExactAddBigonSpec : ChangeSpec := { name := "fnExactAddBigon", fn := fun _ => fun
  | [d1, d2, d3] => { results := [.lit (.bool true)], args := [d1, d2, d3] }
  | _ => none }
def fnExactAddBigonRow : OpenClaim := { program := "ytdafmbaeiefacaa", sum := "3f2510f25a1bcbf3da7be731300df548503f74e0421385582d8d3e08b9a6a8a3", func := "loop.example/g00870/laws.FnExactAddBigon", spec := "fnExactAddBigon", unfollowed := true, recurses := true, apart := false }
def FnExactAddBigonSaid : Prop := fnExactAddBigonRow.holds Try.pinned (OpenSpec.ofChange fnExactAddBigonSpec)

/-- ITS FALSE NEIGHBOUR: 'it returns false'. Refute it at one input. -/
def fnExactAddBigonWrong : ChangeSpec := { name := "fnExactAddBigon", fn := fun _ => fun
  | [d1, d2, d3] => { results := [.lit (.bool false)], args := [d1, d2, d3] }
  | _ => none }
def FnExactAddBigonWrongFalsely : Prop := fnExactAddBigonRow.holds Try.pinned (OpenSpec.ofChange fnExactAddBigonWrong)

/-- 'laws.FnExactSmoothCrossing': WHATEVER THE INPUT: true; the input reads as it did. -/
def fnExactSmoothCrossingSpec : ChangeSpec := { name := "fnExactSmoothCrossing", fn := fun _ => fun
  | [d1, d2] => { results := [.lit (.bool true)], args := [d1, d2] }
  | _ => none }
def fnExactSmoothCrossingRow : OpenClaim := { program := "ytdafmbaeiefacaa", sum := "3f2510f25a1bcbf3da7be731300df548503f74e0421385582d8d3e08b9a6a8a3", func := "loop.example/g00870/laws.FnExactSmoothCrossing", spec := "fnExactSmoothCrossing", unfollowed := true, recurses := true, apart := false }
def FnExactSmoothCrossingSaid : Prop := fnExactSmoothCrossingRow.holds Try.pinned (OpenSpec.ofChange fnExactSmoothCrossingSpec)

/-- ITS FALSE NEIGHBOUR: 'it returns false'. Refute it at one input. -/
def fnExactSmoothCrossingWrong : ChangeSpec := { name := "fnExactSmoothCrossing", fn := fun _ => fun
  | [d1, d2] => { results := [.lit (.bool false)], args := [d1, d2] }
  | _ => none }
def FnExactSmoothCrossingWrongFalsely : Prop := fnExactSmoothCrossingRow.holds Try.pinned (OpenSpec.ofChange fnExactSmoothCrossingWrong)

/-- 'laws.FnExactSlideTriangle': WHATEVER THE INPUT: true; the input reads as it did. -/
def fnExactSlideTriangleSpec : ChangeSpec := { name := "fnExactSlideTriangle", fn := fun _ => fun
  | [d1, d2] => { results := [.lit (.bool true)], args := [d1, d2] }
  | _ => none }
def fnExactSlideTriangleRow : OpenClaim := { program := "ytdafmbaeiefacaa", sum := "3f2510f25a1bcbf3da7be731300df548503f74e0421385582d8d3e08b9a6a8a3", func := "loop.example/g00870/laws.FnExactSlideTriangle", spec := "fnExactSlideTriangle", unfollowed := true, recurses := true, apart := false }
def FnExactSlideTriangleSaid : Prop := fnExactSlideTriangleRow.holds Try.pinned (OpenSpec.ofChange fnExactSlideTriangleSpec)

/-- ITS FALSE NEIGHBOUR: 'it returns false'. Refute it at one input. -/
def fnExactSlideTriangleWrong : ChangeSpec := { name := "fnExactSlideTriangle", fn := fun _ => fun
  | [d1, d2] => { results := [.lit (.bool false)], args := [d1, d2] }
  | _ => none }
def FnExactSlideTriangleWrongFalsely : Prop := fnExactSlideTriangleRow.holds Try.pinned (OpenSpec.ofChange fnExactSlideTriangleWrong)

/-- 'laws.FnExactRemoveBigon': WHATEVER THE INPUT: true; the input reads as it did. -/
def fnExactRemoveBigonSpec : ChangeSpec := { name := "fnExactRemoveBigon", fn := fun _ => fun
  | [d1, d2, d3] => { results := [.lit (.bool true)], args := [d1, d2, d3] }
  | _ => none }
def fnExactRemoveBigonRow : OpenClaim := { program := "ytdafmbaeiefacaa", sum := "3f2510f25a1bcbf3da7be731300df548503f74e0421385582d8d3e08b9a6a8a3", func := "loop.example/g00870/laws.FnExactRemoveBigon", spec := "fnExactRemoveBigon", unfollowed := true, recurses := true, apart := false }
def FnExactRemoveBigonSaid : Prop := fnExactRemoveBigonRow.holds Try.pinned (OpenSpec.ofChange fnExactRemoveBigonSpec)

/-- ITS FALSE NEIGHBOUR: 'it returns false'. Refute it at one input. -/
def fnExactRemoveBigonWrong : ChangeSpec := { name := "fnExactRemoveBigon", fn := fun _ => fun
  | [d1, d2, d3] => { results := [.lit (.bool false)], args := [d1, d2, d3] }
  | _ => none }
def FnExactRemoveBigonWrongFalsely : Prop := fnExactRemoveBigonRow.holds Try.pinned (OpenSpec.ofChange fnExactRemoveBigonWrong)

/-- 'laws.FnExactDiagramSignature': WHATEVER THE INPUT: true; the input reads as it did. -/
def fnExactDiagramSignatureSpec : ChangeSpec := { name := "fnExactDiagramSignature", fn := fun _ => fun
  | [d] => { results := [.lit (.bool true)], args := [d] }
  | _ => none }
def fnExactDiagramSignatureRow : OpenClaim := { program := "ytdafmbaeiefacaa", sum := "3f2510f25a1bcbf3da7be731300df548503f74e0421385582d8d3e08b9a6a8a3", func := "loop.example/g00870/laws.FnExactDiagramSignature", spec := "fnExactDiagramSignature", unfollowed := true, recurses := true, apart := false }
def FnExactDiagramSignatureSaid : Prop := fnExactDiagramSignatureRow.holds Try.pinned (OpenSpec.ofChange fnExactDiagramSignatureSpec)

/-- ITS FALSE NEIGHBOUR: 'it returns false'. Refute it at one input. -/
def fnExactDiagramSignatureWrong : ChangeSpec := { name := "fnExactDiagramSignature", fn := fun _ => fun
  | [d] => { results := [.lit (.bool false)], args := [d] }
  | _ => none }
def FnExactDiagramSignatureWrongFalsely : Prop := fnExactDiagramSignatureRow.holds Try.pinned (OpenSpec.ofChange fnExactDiagramSignatureWrong)

/-- 'laws.FnExactRemoveKink': WHATEVER THE INPUT: true; the input reads as it did. -/
def fnExactRemoveKinkSpec : ChangeSpec := { name := "fnExactRemoveKink", fn := fun _ => fun
  | [d1, d2] => { results := [.lit (.bool true)], args := [d1, d2] }
  | _ => none }
def fnExactRemoveKinkRow : OpenClaim := { program := "ytdafmbaeiefacaa", sum := "3f2510f25a1bcbf3da7be731300df548503f74e0421385582d8d3e08b9a6a8a3", func := "loop.example/g00870/laws.FnExactRemoveKink", spec := "fnExactRemoveKink", unfollowed := true, recurses := true, apart := false }
def FnExactRemoveKinkSaid : Prop := fnExactRemoveKinkRow.holds Try.pinned (OpenSpec.ofChange fnExactRemoveKinkSpec)

/-- ITS FALSE NEIGHBOUR: 'it returns false'. Refute it at one input. -/
def fnExactRemoveKinkWrong : ChangeSpec := { name := "fnExactRemoveKink", fn := fun _ => fun
  | [d1, d2] => { results := [.lit (.bool false)], args := [d1, d2] }
  | _ => none }
def FnExactRemoveKinkWrongFalsely : Prop := fnExactRemoveKinkRow.holds Try.pinned (OpenSpec.ofChange fnExactRemoveKinkWrong)

/-- 'laws.FnExactDiagramOfGauss': WHATEVER THE INPUT: true; the input reads as it did. -/
def fnExactDiagramOfGaussSpec : ChangeSpec := { name := "fnExactDiagramOfGauss", fn := fun _ => fun
  | [d] => { results := [.lit (.bool true)], args := [d] }
  | _ => none }
def fnExactDiagramOfGaussRow : OpenClaim := { program := "ytdafmbaeiefacaa", sum := "3f2510f25a1bcbf3da7be731300df548503f74e0421385582d8d3e08b9a6a8a3", func := "loop.example/g00870/laws.FnExactDiagramOfGauss", spec := "fnExactDiagramOfGauss", unfollowed := true, recurses := true, apart := false }
def FnExactDiagramOfGaussSaid : Prop := fnExactDiagramOfGaussRow.holds Try.pinned (OpenSpec.ofChange fnExactDiagramOfGaussSpec)

/-- ITS FALSE NEIGHBOUR: 'it returns false'. Refute it at one input. -/
def fnExactDiagramOfGaussWrong : ChangeSpec := { name := "fnExactDiagramOfGauss", fn := fun _ => fun
  | [d] => { results := [.lit (.bool false)], args := [d] }
  | _ => none }
def FnExactDiagramOfGaussWrongFalsely : Prop := fnExactDiagramOfGaussRow.holds Try.pinned (OpenSpec.ofChange fnExactDiagramOfGaussWrong)

/- THE SECOND FORM. 'bulk': how many values and letters a reading holds, each counted each time it is reached (what is shared counts as often as it is met; a slice's spare places count too). A statement '..UptoSaid' is the law's where the arguments, and the package variables that the reading takes, are together of bulk at most 1048576: NARROWER than '..Said'. Prove '..Said' where nothing that the law and all that it calls make is longer than what came in: it says more and counts as full. Else prove '..UptoSaid'. A law counts once. -/
mutual
def uptoBulk {H : Type} : DataW H → Nat
  | .lit (.string bytes) => bytes.length + 1
  | .lit _ => 1
  | .nil => 1
  | .ptr d => uptoBulk d + 1
  | .slice elems spare => uptoBulkAll elems + uptoBulkAll spare + 1
  | .agg parts => uptoBulkAll parts + 1
  | .iface _ d => uptoBulk d + 1
  | .map entries => uptoBulkEntries entries + 1
  | .held _ => 1
def uptoBulkAll {H : Type} : List (DataW H) → Nat
  | [] => 0
  | d :: r => uptoBulk d + uptoBulkAll r
def uptoBulkEntries {H : Type} : List (Lit × DataW H) → Nat
  | [] => 0
  | x :: r => uptoBulkEntry x + uptoBulkEntries r
def uptoBulkEntry {H : Type} : Lit × DataW H → Nat
  | (.string bytes, d) => bytes.length + uptoBulk d + 1
  | (_, d) => uptoBulk d + 1
 end
def uptoSmall : (H : Type) → List (DataW H) → Bool := fun _ ds => decide (uptoBulkAll ds ≤ 1048576)
def OpenSpec.upto (s : _root_.Go.ChangeSpec) : _root_.Go.OpenSpec := { _root_.Go.OpenSpec.ofChange s with cond := some uptoSmall }

/-- 'laws.FnExactAddKink', WHERE WHAT IT READS IS OF BULK AT MOST 1048576: true; the input reads as it did. -/
def fnExactAddKinkUptoRow : OpenClaim := { program := "ytdafmbaeiefacaa", sum := "3f2510f25a1bcbf3da7be731300df548503f74e0421385582d8d3e08b9a6a8a3", func := "loop.example/g00870/laws.FnExactAddKink", spec := "fnExactAddKink", unfollowed := true, recurses := true, apart := false, narrowed := true }
def FnExactAddKinkUptoSaid : Prop := fnExactAddKinkUptoRow.holds Try.pinned (OpenSpec.upto fnExactAddKinkSpec)

/-- 'laws.FnExactJoinDiagrams', WHERE WHAT IT READS IS OF BULK AT MOST 1048576: true; the input reads as it did. -/
def fnExactJoinDiagramsUptoRow : OpenClaim := { program := "ytdafmbaeiefacaa", sum := "3f2510f25a1bcbf3da7be731300df548503f74e0421385582d8d3e08b9a6a8a3", func := "loop.example/g00870/laws.FnExactJoinDiagrams", spec := "fnExactJoinDiagrams", unfollowed := true, recurses := true, apart := false, narrowed := true }
def FnExactJoinDiagramsUptoSaid : Prop := fnExactJoinDiagramsUptoRow.holds Try.pinned (OpenSpec.upto fnExactJoinDiagramsSpec)

/-- 'laws.FnExactAddBigon', WHERE WHAT IT READS IS OF BULK AT MOST 1048576: true; the input reads as it did. -/
def fnExactAddBigonUptoRow : OpenClaim := { program := "ytdafmbaeiefacaa", sum := "3f2510f25a1bcbf3da7be731300df548503f74e0421385582d8d3e08b9a6a8a3", func := "loop.example/g00870/laws.FnExactAddBigon", spec := "fnExactAddBigon", unfollowed := true, recurses := true, apart := false, narrowed := true }
def FnExactAddBigonUptoSaid : Prop := fnExactAddBigonUptoRow.holds Try.pinned (OpenSpec.upto fnExactAddBigonSpec)

/-- 'laws.FnExactSmoothCrossing', WHERE WHAT IT READS IS OF BULK AT MOST 1048576: true; the input reads as it did. -/
def fnExactSmoothCrossingUptoRow : OpenClaim := { program := "ytdafmbaeiefacaa", sum := "3f2510f25a1bcbf3da7be731300df548503f74e0421385582d8d3e08b9a6a8a3", func := "loop.example/g00870/laws.FnExactSmoothCrossing", spec := "fnExactSmoothCrossing", unfollowed := true, recurses := true, apart := false, narrowed := true }
def FnExactSmoothCrossingUptoSaid : Prop := fnExactSmoothCrossingUptoRow.holds Try.pinned (OpenSpec.upto fnExactSmoothCrossingSpec)

/-- 'laws.FnExactSlideTriangle', WHERE WHAT IT READS IS OF BULK AT MOST 1048576: true; the input reads as it did. -/
def fnExactSlideTriangleUptoRow : OpenClaim := { program := "ytdafmbaeiefacaa", sum := "3f2510f25a1bcbf3da7be731300df548503f74e0421385582d8d3e08b9a6a8a3", func := "loop.example/g00870/laws.FnExactSlideTriangle", spec := "fnExactSlideTriangle", unfollowed := true, recurses := true, apart := false, narrowed := true }
def FnExactSlideTriangleUptoSaid : Prop := fnExactSlideTriangleUptoRow.holds Try.pinned (OpenSpec.upto fnExactSlideTriangleSpec)

/-- 'laws.FnExactRemoveBigon', WHERE WHAT IT READS IS OF BULK AT MOST 1048576: true; the input reads as it did. -/
def fnExactRemoveBigonUptoRow : OpenClaim := { program := "ytdafmbaeiefacaa", sum := "3f2510f25a1bcbf3da7be731300df548503f74e0421385582d8d3e08b9a6a8a3", func := "loop.example/g00870/laws.FnExactRemoveBigon", spec := "fnExactRemoveBigon", unfollowed := true, recurses := true, apart := false, narrowed := true }
def FnExactRemoveBigonUptoSaid : Prop := fnExactRemoveBigonUptoRow.holds Try.pinned (OpenSpec.upto fnExactRemoveBigonSpec)

/-- 'laws.FnExactDiagramSignature', WHERE WHAT IT READS IS OF BULK AT MOST 1048576: true; the input reads as it did. -/
def fnExactDiagramSignatureUptoRow : OpenClaim := { program := "ytdafmbaeiefacaa", sum := "3f2510f25a1bcbf3da7be731300df548503f74e0421385582d8d3e08b9a6a8a3", func := "loop.example/g00870/laws.FnExactDiagramSignature", spec := "fnExactDiagramSignature", unfollowed := true, recurses := true, apart := false, narrowed := true }
def FnExactDiagramSignatureUptoSaid : Prop := fnExactDiagramSignatureUptoRow.holds Try.pinned (OpenSpec.upto fnExactDiagramSignatureSpec)

/-- 'laws.FnExactRemoveKink', WHERE WHAT IT READS IS OF BULK AT MOST 1048576: true; the input reads as it did. -/
def fnExactRemoveKinkUptoRow : OpenClaim := { program := "ytdafmbaeiefacaa", sum := "3f2510f25a1bcbf3da7be731300df548503f74e0421385582d8d3e08b9a6a8a3", func := "loop.example/g00870/laws.FnExactRemoveKink", spec := "fnExactRemoveKink", unfollowed := true, recurses := true, apart := false, narrowed := true }
def FnExactRemoveKinkUptoSaid : Prop := fnExactRemoveKinkUptoRow.holds Try.pinned (OpenSpec.upto fnExactRemoveKinkSpec)

/-- 'laws.FnExactDiagramOfGauss', WHERE WHAT IT READS IS OF BULK AT MOST 1048576: true; the input reads as it did. -/
def fnExactDiagramOfGaussUptoRow : OpenClaim := { program := "ytdafmbaeiefacaa", sum := "3f2510f25a1bcbf3da7be731300df548503f74e0421385582d8d3e08b9a6a8a3", func := "loop.example/g00870/laws.FnExactDiagramOfGauss", spec := "fnExactDiagramOfGauss", unfollowed := true, recurses := true, apart := false, narrowed := true }
def FnExactDiagramOfGaussUptoSaid : Prop := fnExactDiagramOfGaussUptoRow.holds Try.pinned (OpenSpec.upto fnExactDiagramOfGaussSpec)

end Rows
end Go.Proofs.Ytdafmbaeiefacaa
