/-
  No cell of these rows narrows 'for every input' (looked for: loops, veiled, ifaces, maps, wideKeys, modest, calm, conditions, laid).
  DERIVED. THE GIVEN ROWS OF THIS SEAT. 5 by the template 'for every input the law returns true; each argument reads behind the call as it read before'; 0 by the template 'total and deterministic' (their statements: YtgkgmhkgahalgaaGreatTotals.lean).
  GIVEN WITH THE SEED: the statements are not yours to turn. If you find one false, say at which input.
  Laid BY PROGRAM, IN A SANDBOX (cutbox-rows.mjs): the forced cells as the released guide's own fill.sh prints them over the translation f82ed2ec771749d1… (all of the seat's roots in one cut). By AI agents, Wed Nov 11 2026. No macro, syntax, notation, axiom, sorry.
-/
import Derived.Test.YtgkgmhkgahalgaaGreatChecked
import GoSem.Claim
import GoSem.ClaimJoined
import GoSem.ClaimMapViews
import Derived.JoinedTies
import Derived.KernelRfl
namespace Go.Proofs.YtgkgmhkgahalgaaGreat
/- THE CELL 'sum', in the pinned program and in every row, IS THE sha256 OF THE DUMP (.gsa) THAT YtgkgmhkgahalgaaGreatProg.lean LOADS. Nothing in Lean hashes anything: it is a label: what it is worth is what the hold of that sum in a sandbox is worth. -/
noncomputable def Tryz.pinned : Pinned := { name := "ytgkgmhkgahalgaagreat", sum := "f82ed2ec771749d1f02dbd415dfd6673b3e4955036a7342d914af6575a4301b4", checked := Tryz.checked }
namespace Rows
def none {H : Type} : Left H := { results := [], args := [] }

/-- 'laws.FnExactHomologyAt': WHATEVER THE INPUT: true; the input reads as it did. -/
def fnExactHomologyAtSpec : ChangeSpec := { name := "fnExactHomologyAt", fn := fun _ => fun
  | [d1, d2] => { results := [.lit (.bool true)], args := [d1, d2] }
  | _ => none }
def fnExactHomologyAtRow : OpenClaim := { program := "ytgkgmhkgahalgaagreat", sum := "f82ed2ec771749d1f02dbd415dfd6673b3e4955036a7342d914af6575a4301b4", func := "loop.example/g00870/laws.FnExactHomologyAt", spec := "fnExactHomologyAt", unfollowed := true, recurses := true, apart := false }
def FnExactHomologyAtSaid : Prop := fnExactHomologyAtRow.holds Tryz.pinned (OpenSpec.ofChange fnExactHomologyAtSpec)

/-- ITS FALSE NEIGHBOUR: 'it returns false'. Refute it at one input. -/
def fnExactHomologyAtWrong : ChangeSpec := { name := "fnExactHomologyAt", fn := fun _ => fun
  | [d1, d2] => { results := [.lit (.bool false)], args := [d1, d2] }
  | _ => none }
def FnExactHomologyAtWrongFalsely : Prop := fnExactHomologyAtRow.holds Tryz.pinned (OpenSpec.ofChange fnExactHomologyAtWrong)

/-- 'laws.FnExactSameHomology': WHATEVER THE INPUT: true; the input reads as it did. -/
def fnExactSameHomologySpec : ChangeSpec := { name := "fnExactSameHomology", fn := fun _ => fun
  | [d1, d2] => { results := [.lit (.bool true)], args := [d1, d2] }
  | _ => none }
def fnExactSameHomologyRow : OpenClaim := { program := "ytgkgmhkgahalgaagreat", sum := "f82ed2ec771749d1f02dbd415dfd6673b3e4955036a7342d914af6575a4301b4", func := "loop.example/g00870/laws.FnExactSameHomology", spec := "fnExactSameHomology", unfollowed := true, recurses := true, apart := false }
def FnExactSameHomologySaid : Prop := fnExactSameHomologyRow.holds Tryz.pinned (OpenSpec.ofChange fnExactSameHomologySpec)

/-- ITS FALSE NEIGHBOUR: 'it returns false'. Refute it at one input. -/
def fnExactSameHomologyWrong : ChangeSpec := { name := "fnExactSameHomology", fn := fun _ => fun
  | [d1, d2] => { results := [.lit (.bool false)], args := [d1, d2] }
  | _ => none }
def FnExactSameHomologyWrongFalsely : Prop := fnExactSameHomologyRow.holds Tryz.pinned (OpenSpec.ofChange fnExactSameHomologyWrong)

/-- 'laws.FnExactBettiNumbers': WHATEVER THE INPUT: true; the input reads as it did. -/
def fnExactBettiNumbersSpec : ChangeSpec := { name := "fnExactBettiNumbers", fn := fun _ => fun
  | [d] => { results := [.lit (.bool true)], args := [d] }
  | _ => none }
def fnExactBettiNumbersRow : OpenClaim := { program := "ytgkgmhkgahalgaagreat", sum := "f82ed2ec771749d1f02dbd415dfd6673b3e4955036a7342d914af6575a4301b4", func := "loop.example/g00870/laws.FnExactBettiNumbers", spec := "fnExactBettiNumbers", unfollowed := true, recurses := true, apart := false }
def FnExactBettiNumbersSaid : Prop := fnExactBettiNumbersRow.holds Tryz.pinned (OpenSpec.ofChange fnExactBettiNumbersSpec)

/-- ITS FALSE NEIGHBOUR: 'it returns false'. Refute it at one input. -/
def fnExactBettiNumbersWrong : ChangeSpec := { name := "fnExactBettiNumbers", fn := fun _ => fun
  | [d] => { results := [.lit (.bool false)], args := [d] }
  | _ => none }
def FnExactBettiNumbersWrongFalsely : Prop := fnExactBettiNumbersRow.holds Tryz.pinned (OpenSpec.ofChange fnExactBettiNumbersWrong)

/-- 'laws.FnExactAllHomology': WHATEVER THE INPUT: true; the input reads as it did. -/
def fnExactAllHomologySpec : ChangeSpec := { name := "fnExactAllHomology", fn := fun _ => fun
  | [d] => { results := [.lit (.bool true)], args := [d] }
  | _ => none }
def fnExactAllHomologyRow : OpenClaim := { program := "ytgkgmhkgahalgaagreat", sum := "f82ed2ec771749d1f02dbd415dfd6673b3e4955036a7342d914af6575a4301b4", func := "loop.example/g00870/laws.FnExactAllHomology", spec := "fnExactAllHomology", unfollowed := true, recurses := true, apart := false }
def FnExactAllHomologySaid : Prop := fnExactAllHomologyRow.holds Tryz.pinned (OpenSpec.ofChange fnExactAllHomologySpec)

/-- ITS FALSE NEIGHBOUR: 'it returns false'. Refute it at one input. -/
def fnExactAllHomologyWrong : ChangeSpec := { name := "fnExactAllHomology", fn := fun _ => fun
  | [d] => { results := [.lit (.bool false)], args := [d] }
  | _ => none }
def FnExactAllHomologyWrongFalsely : Prop := fnExactAllHomologyRow.holds Tryz.pinned (OpenSpec.ofChange fnExactAllHomologyWrong)

/-- 'laws.FnExactAbelianizedGroup': WHATEVER THE INPUT: true; the input reads as it did. -/
def fnExactAbelianizedGroupSpec : ChangeSpec := { name := "fnExactAbelianizedGroup", fn := fun _ => fun
  | [d] => { results := [.lit (.bool true)], args := [d] }
  | _ => none }
def fnExactAbelianizedGroupRow : OpenClaim := { program := "ytgkgmhkgahalgaagreat", sum := "f82ed2ec771749d1f02dbd415dfd6673b3e4955036a7342d914af6575a4301b4", func := "loop.example/g00870/laws.FnExactAbelianizedGroup", spec := "fnExactAbelianizedGroup", unfollowed := true, recurses := true, apart := false }
def FnExactAbelianizedGroupSaid : Prop := fnExactAbelianizedGroupRow.holds Tryz.pinned (OpenSpec.ofChange fnExactAbelianizedGroupSpec)

/-- ITS FALSE NEIGHBOUR: 'it returns false'. Refute it at one input. -/
def fnExactAbelianizedGroupWrong : ChangeSpec := { name := "fnExactAbelianizedGroup", fn := fun _ => fun
  | [d] => { results := [.lit (.bool false)], args := [d] }
  | _ => none }
def FnExactAbelianizedGroupWrongFalsely : Prop := fnExactAbelianizedGroupRow.holds Tryz.pinned (OpenSpec.ofChange fnExactAbelianizedGroupWrong)

/- THE SECOND FORM. 'bulk': how many values and letters a reading holds, each counted each time it is reached (what is shared counts as often as it is met; a slice's spare places count too). A statement '..UptoSaid' is the law's where the arguments, and the package variables that the reading takes, are together of bulk at most 1048576: NARROWER than '..Said'. Prove '..Said' where nothing that the law and all that it calls make is longer than what came in: it says more and counts as full. Else prove '..UptoSaid'. A law counts once. -/
mutual
def uptoBulk {H : Type} : DataW H → Nat
  | .lit (.string bytes) => bytes.length + 1
  | .lit _ => 1
  | .nil => 1
  | .ptr d => uptoBulk d + 1
  | .slice elems spare => uptoBulkAll elems + uptoBulkAll spare + 1
  | .agg parts => uptoBulkAll parts + 1
  | .iface _ d => uptoBulk d + 1
  | .map entries => uptoBulkEntries entries + 1
  | .held _ => 1
def uptoBulkAll {H : Type} : List (DataW H) → Nat
  | [] => 0
  | d :: r => uptoBulk d + uptoBulkAll r
def uptoBulkEntries {H : Type} : List (Lit × DataW H) → Nat
  | [] => 0
  | x :: r => uptoBulkEntry x + uptoBulkEntries r
def uptoBulkEntry {H : Type} : Lit × DataW H → Nat
  | (.string bytes, d) => bytes.length + uptoBulk d + 1
  | (_, d) => uptoBulk d + 1
 end
def uptoSmall : (H : Type) → List (DataW H) → Bool := fun _ ds => decide (uptoBulkAll ds ≤ 1048576)
def OpenSpec.upto (s : _root_.Go.ChangeSpec) : _root_.Go.OpenSpec := { _root_.Go.OpenSpec.ofChange s with cond := some uptoSmall }

/-- 'laws.FnExactHomologyAt', WHERE WHAT IT READS IS OF BULK AT MOST 1048576: true; the input reads as it did. -/
def fnExactHomologyAtUptoRow : OpenClaim := { program := "ytgkgmhkgahalgaagreat", sum := "f82ed2ec771749d1f02dbd415dfd6673b3e4955036a7342d914af6575a4301b4", func := "loop.example/g00870/laws.FnExactHomologyAt", spec := "fnExactHomologyAt", unfollowed := true, recurses := true, apart := false, narrowed := true }
def FnExactHomologyAtUptoSaid : Prop := fnExactHomologyAtUptoRow.holds Tryz.pinned (OpenSpec.upto fnExactHomologyAtSpec)

/-- 'laws.FnExactSameHomology', WHERE WHAT IT READS IS OF BULK AT MOST 1048576: true; the input reads as it did. -/
def fnExactSameHomologyUptoRow : OpenClaim := { program := "ytgkgmhkgahalgaagreat", sum := "f82ed2ec771749d1f02dbd415dfd6673b3e4955036a7342d914af6575a4301b4", func := "loop.example/g00870/laws.FnExactSameHomology", spec := "fnExactSameHomology", unfollowed := true, recurses := true, apart := false, narrowed := true }
def FnExactSameHomologyUptoSaid : Prop := fnExactSameHomologyUptoRow.holds Tryz.pinned (OpenSpec.upto fnExactSameHomologySpec)

/-- 'laws.FnExactBettiNumbers', WHERE WHAT IT READS IS OF BULK AT MOST 1048576: true; the input reads as it did. -/
def fnExactBettiNumbersUptoRow : OpenClaim := { program := "ytgkgmhkgahalgaagreat", sum := "f82ed2ec771749d1f02dbd415dfd6673b3e4955036a7342d914af6575a4301b4", func := "loop.example/g00870/laws.FnExactBettiNumbers", spec := "fnExactBettiNumbers", unfollowed := true, recurses := true, apart := false, narrowed := true }
def FnExactBettiNumbersUptoSaid : Prop := fnExactBettiNumbersUptoRow.holds Tryz.pinned (OpenSpec.upto fnExactBettiNumbersSpec)

/-- 'laws.FnExactAllHomology', WHERE WHAT IT READS IS OF BULK AT MOST 1048576: true; the input reads as it did. -/
def fnExactAllHomologyUptoRow : OpenClaim := { program := "ytgkgmhkgahalgaagreat", sum := "f82ed2ec771749d1f02dbd415dfd6673b3e4955036a7342d914af6575a4301b4", func := "loop.example/g00870/laws.FnExactAllHomology", spec := "fnExactAllHomology", unfollowed := true, recurses := true, apart := false, narrowed := true }
def FnExactAllHomologyUptoSaid : Prop := fnExactAllHomologyUptoRow.holds Tryz.pinned (OpenSpec.upto fnExactAllHomologySpec)

/-- 'laws.FnExactAbelianizedGroup', WHERE WHAT IT READS IS OF BULK AT MOST 1048576: true; the input reads as it did. -/
def fnExactAbelianizedGroupUptoRow : OpenClaim := { program := "ytgkgmhkgahalgaagreat", sum := "f82ed2ec771749d1f02dbd415dfd6673b3e4955036a7342d914af6575a4301b4", func := "loop.example/g00870/laws.FnExactAbelianizedGroup", spec := "fnExactAbelianizedGroup", unfollowed := true, recurses := true, apart := false, narrowed := true }
def FnExactAbelianizedGroupUptoSaid : Prop := fnExactAbelianizedGroupUptoRow.holds Tryz.pinned (OpenSpec.upto fnExactAbelianizedGroupSpec)

end Rows
end Go.Proofs.YtgkgmhkgahalgaaGreat
