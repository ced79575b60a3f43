/-
  NARROWER THAN 'FOR EVERY INPUT', by the rows' own cells (each row's printed sentence says how): FnExactValidItem: laid · FnExactValidBench: laid · FnExactFindItem: laid · FnExactItemText: laid · FnExactUndoBench: laid · FnExactRedoBench: laid · FnExactDropItem: laid · FnExactChangeLine: laid · FnExactBenchText: laid · FnExactPutItem: laid · FnExactApplyChange: laid · FnBenchUndo: laid.
  DERIVED. THE GIVEN ROWS OF THIS SEAT. 12 by the template 'for every input the law returns true; each argument reads behind the call as it read before'; 0 by the template 'total and deterministic' (their statements: YtgkcddpgmmmblaaGreatDoorTotals.lean).
  GIVEN WITH THE SEED: the statements are not yours to turn. If you find one false, say at which input.
  Laid BY PROGRAM, IN A SANDBOX (cutbox-rows.mjs): the forced cells as the released guide's own fill.sh prints them over the translation 383667bd06330f0c… (all of the seat's roots in one cut). By AI agents, Wed Nov 11 2026. No macro, syntax, notation, axiom, sorry.
-/
import Derived.Test.YtgkcddpgmmmblaaGreatDoorChecked
import GoSem.PinnedTables
import GoSem.Claim
import GoSem.ClaimJoined
import GoSem.ClaimMapViews
import Derived.JoinedTies
import Derived.KernelRfl
namespace Go.Proofs.YtgkcddpgmmmblaaGreatDoor
/- THE CELL 'sum', in the pinned program and in every row, IS THE sha256 OF THE DUMP (.gsa) THAT YtgkcddpgmmmblaaGreatDoorProg.lean LOADS. Nothing in Lean hashes anything: it is a label: what it is worth is what the hold of that sum in a sandbox is worth. -/
noncomputable def Tryz.pinned : Pinned := { name := "ytgkcddpgmmmblaagreatdoor", sum := "383667bd06330f0ca32aa868f2d80b57f302f9c39627289c9c92a1f3c1d5a31d", checked := Tryz.checked }
namespace Rows
def none {H : Type} : Left H := { results := [], args := [] }

/- WHAT THE LISTED PACKAGE-LEVEL VARIABLES READ AS WHEN THE CALL BEGINS. Each datum BY PROGRAM (the guide's laid-datum.mjs) off the statement by which the dump's own 'gosem.cut.vars' lays the variable. In a bare row this is a premise. The card (YtgkcddpgmmmblaaGreatDoorCards.lean) ties it to the program's text. -/
def laid_math_bits_deBruijn32tab {H : Type} : DataW H := .agg [.lit (.int .u8 0), .lit (.int .u8 1), .lit (.int .u8 28), .lit (.int .u8 2), .lit (.int .u8 29), .lit (.int .u8 14), .lit (.int .u8 24), .lit (.int .u8 3), .lit (.int .u8 30), .lit (.int .u8 22), .lit (.int .u8 20), .lit (.int .u8 15), .lit (.int .u8 25), .lit (.int .u8 17), .lit (.int .u8 4), .lit (.int .u8 8), .lit (.int .u8 31), .lit (.int .u8 27), .lit (.int .u8 13), .lit (.int .u8 23), .lit (.int .u8 21), .lit (.int .u8 19), .lit (.int .u8 16), .lit (.int .u8 7), .lit (.int .u8 26), .lit (.int .u8 12), .lit (.int .u8 18), .lit (.int .u8 6), .lit (.int .u8 11), .lit (.int .u8 5), .lit (.int .u8 10), .lit (.int .u8 9)]
def laid_math_bits_deBruijn64tab {H : Type} : DataW H := .agg [.lit (.int .u8 0), .lit (.int .u8 1), .lit (.int .u8 56), .lit (.int .u8 2), .lit (.int .u8 57), .lit (.int .u8 49), .lit (.int .u8 28), .lit (.int .u8 3), .lit (.int .u8 61), .lit (.int .u8 58), .lit (.int .u8 42), .lit (.int .u8 50), .lit (.int .u8 38), .lit (.int .u8 29), .lit (.int .u8 17), .lit (.int .u8 4), .lit (.int .u8 62), .lit (.int .u8 47), .lit (.int .u8 59), .lit (.int .u8 36), .lit (.int .u8 45), .lit (.int .u8 43), .lit (.int .u8 51), .lit (.int .u8 22), .lit (.int .u8 53), .lit (.int .u8 39), .lit (.int .u8 33), .lit (.int .u8 30), .lit (.int .u8 24), .lit (.int .u8 18), .lit (.int .u8 12), .lit (.int .u8 5), .lit (.int .u8 63), .lit (.int .u8 55), .lit (.int .u8 48), .lit (.int .u8 27), .lit (.int .u8 60), .lit (.int .u8 41), .lit (.int .u8 37), .lit (.int .u8 16), .lit (.int .u8 46), .lit (.int .u8 35), .lit (.int .u8 44), .lit (.int .u8 21), .lit (.int .u8 52), .lit (.int .u8 32), .lit (.int .u8 23), .lit (.int .u8 11), .lit (.int .u8 54), .lit (.int .u8 26), .lit (.int .u8 40), .lit (.int .u8 15), .lit (.int .u8 34), .lit (.int .u8 20), .lit (.int .u8 31), .lit (.int .u8 10), .lit (.int .u8 25), .lit (.int .u8 14), .lit (.int .u8 19), .lit (.int .u8 9), .lit (.int .u8 13), .lit (.int .u8 8), .lit (.int .u8 7), .lit (.int .u8 6)]
def laid_internal_strconv_uint64pow10 {H : Type} : DataW H := .agg [.lit (.int .u64 1), .lit (.int .u64 10), .lit (.int .u64 100), .lit (.int .u64 1000), .lit (.int .u64 10000), .lit (.int .u64 100000), .lit (.int .u64 1000000), .lit (.int .u64 10000000), .lit (.int .u64 100000000), .lit (.int .u64 1000000000), .lit (.int .u64 10000000000), .lit (.int .u64 100000000000), .lit (.int .u64 1000000000000), .lit (.int .u64 10000000000000), .lit (.int .u64 100000000000000), .lit (.int .u64 1000000000000000), .lit (.int .u64 10000000000000000), .lit (.int .u64 100000000000000000), .lit (.int .u64 1000000000000000000), .lit (.int .u64 10000000000000000000)]
def laid_unicode_utf8_acceptRanges {H : Type} : DataW H := .agg [.agg [.lit (.int .u8 128), .lit (.int .u8 191)], .agg [.lit (.int .u8 160), .lit (.int .u8 191)], .agg [.lit (.int .u8 128), .lit (.int .u8 159)], .agg [.lit (.int .u8 144), .lit (.int .u8 191)], .agg [.lit (.int .u8 128), .lit (.int .u8 143)], .agg [.lit (.int .u8 0), .lit (.int .u8 0)], .agg [.lit (.int .u8 0), .lit (.int .u8 0)], .agg [.lit (.int .u8 0), .lit (.int .u8 0)], .agg [.lit (.int .u8 0), .lit (.int .u8 0)], .agg [.lit (.int .u8 0), .lit (.int .u8 0)], .agg [.lit (.int .u8 0), .lit (.int .u8 0)], .agg [.lit (.int .u8 0), .lit (.int .u8 0)], .agg [.lit (.int .u8 0), .lit (.int .u8 0)], .agg [.lit (.int .u8 0), .lit (.int .u8 0)], .agg [.lit (.int .u8 0), .lit (.int .u8 0)], .agg [.lit (.int .u8 0), .lit (.int .u8 0)]]
def laid_loop_example_g00870_impl_nameTexts {H : Type} : DataW H := .agg [.lit (.string [98, 97, 108, 108]), .lit (.string [115, 112, 104, 101, 114, 101]), .lit (.string [115, 111, 108, 105, 100, 32, 116, 111, 114, 117, 115]), .lit (.string [108, 101, 110, 115, 32, 52, 32, 49]), .lit (.string [108, 101, 110, 115, 32, 53, 32, 50])]
def laid_loop_example_g00870_impl_kindWords {H : Type} : DataW H := .agg [.lit (.string [116, 114, 105]), .lit (.string [100, 105, 97, 103, 114, 97, 109]), .lit (.string [98, 114, 97, 105, 100]), .lit (.string [99, 101, 114, 116])]
/-- One of Go's own tables, pinned by name: the form's constant. -/
def laid_unicode_utf8_first : DataW Unit := Go.Pinned.utf8First

/-- 'laws.FnExactValidItem': WHATEVER THE INPUT: true; the input reads as it did. -/
def fnExactValidItemSpec : ChangeSpec := { name := "fnExactValidItem", fn := fun _ => fun
  | [d] => { results := [.lit (.bool true)], args := [d] }
  | _ => none }
def fnExactValidItemRow : OpenClaim := { program := "ytgkcddpgmmmblaagreatdoor", sum := "383667bd06330f0ca32aa868f2d80b57f302f9c39627289c9c92a1f3c1d5a31d", func := "loop.example/g00870/laws.FnExactValidItem", spec := "fnExactValidItem", unfollowed := true, recurses := true, named := ["internal/strconv.uint64pow10", "math/bits.deBruijn32tab", "math/bits.deBruijn64tab"], apart := false, laid := [("math/bits.deBruijn32tab", laid_math_bits_deBruijn32tab), ("math/bits.deBruijn64tab", laid_math_bits_deBruijn64tab), ("internal/strconv.uint64pow10", laid_internal_strconv_uint64pow10)] }
def FnExactValidItemSaid : Prop := fnExactValidItemRow.holds Tryz.pinned (OpenSpec.ofChange fnExactValidItemSpec)

/-- ITS FALSE NEIGHBOUR: 'it returns false'. Refute it at one input. -/
def fnExactValidItemWrong : ChangeSpec := { name := "fnExactValidItem", fn := fun _ => fun
  | [d] => { results := [.lit (.bool false)], args := [d] }
  | _ => none }
def FnExactValidItemWrongFalsely : Prop := fnExactValidItemRow.holds Tryz.pinned (OpenSpec.ofChange fnExactValidItemWrong)

/-- 'laws.FnExactValidBench': WHATEVER THE INPUT: true; the input reads as it did. -/
def fnExactValidBenchSpec : ChangeSpec := { name := "fnExactValidBench", fn := fun _ => fun
  | [d] => { results := [.lit (.bool true)], args := [d] }
  | _ => none }
def fnExactValidBenchRow : OpenClaim := { program := "ytgkcddpgmmmblaagreatdoor", sum := "383667bd06330f0ca32aa868f2d80b57f302f9c39627289c9c92a1f3c1d5a31d", func := "loop.example/g00870/laws.FnExactValidBench", spec := "fnExactValidBench", unfollowed := true, recurses := true, named := ["internal/strconv.uint64pow10", "math/bits.deBruijn32tab", "math/bits.deBruijn64tab"], apart := false, laid := [("math/bits.deBruijn32tab", laid_math_bits_deBruijn32tab), ("math/bits.deBruijn64tab", laid_math_bits_deBruijn64tab), ("internal/strconv.uint64pow10", laid_internal_strconv_uint64pow10)] }
def FnExactValidBenchSaid : Prop := fnExactValidBenchRow.holds Tryz.pinned (OpenSpec.ofChange fnExactValidBenchSpec)

/-- ITS FALSE NEIGHBOUR: 'it returns false'. Refute it at one input. -/
def fnExactValidBenchWrong : ChangeSpec := { name := "fnExactValidBench", fn := fun _ => fun
  | [d] => { results := [.lit (.bool false)], args := [d] }
  | _ => none }
def FnExactValidBenchWrongFalsely : Prop := fnExactValidBenchRow.holds Tryz.pinned (OpenSpec.ofChange fnExactValidBenchWrong)

/-- 'laws.FnExactFindItem': WHATEVER THE INPUT: true; the input reads as it did. -/
def fnExactFindItemSpec : ChangeSpec := { name := "fnExactFindItem", fn := fun _ => fun
  | [d1, d2] => { results := [.lit (.bool true)], args := [d1, d2] }
  | _ => none }
def fnExactFindItemRow : OpenClaim := { program := "ytgkcddpgmmmblaagreatdoor", sum := "383667bd06330f0ca32aa868f2d80b57f302f9c39627289c9c92a1f3c1d5a31d", func := "loop.example/g00870/laws.FnExactFindItem", spec := "fnExactFindItem", inPlace := ["internal/bytealg.abigen_runtime_cmpstring"], unfollowed := true, recurses := true, named := ["internal/strconv.uint64pow10", "math/bits.deBruijn32tab", "math/bits.deBruijn64tab"], apart := false, laid := [("math/bits.deBruijn32tab", laid_math_bits_deBruijn32tab), ("math/bits.deBruijn64tab", laid_math_bits_deBruijn64tab), ("internal/strconv.uint64pow10", laid_internal_strconv_uint64pow10)] }
def FnExactFindItemSaid : Prop := fnExactFindItemRow.holds Tryz.pinned (OpenSpec.ofChange fnExactFindItemSpec)

/-- ITS FALSE NEIGHBOUR: 'it returns false'. Refute it at one input. -/
def fnExactFindItemWrong : ChangeSpec := { name := "fnExactFindItem", fn := fun _ => fun
  | [d1, d2] => { results := [.lit (.bool false)], args := [d1, d2] }
  | _ => none }
def FnExactFindItemWrongFalsely : Prop := fnExactFindItemRow.holds Tryz.pinned (OpenSpec.ofChange fnExactFindItemWrong)

/-- 'laws.FnExactItemText': WHATEVER THE INPUT: true; the input reads as it did. -/
def fnExactItemTextSpec : ChangeSpec := { name := "fnExactItemText", vars := ["loop.example/g00870/impl.kindWords", "loop.example/g00870/impl.nameTexts"], fn := fun _ => fun
  | [d, g1, g2] => { results := [.lit (.bool true)], args := [d], vars := [g1, g2] }
  | _ => none }
def fnExactItemTextRow : OpenClaim := { program := "ytgkcddpgmmmblaagreatdoor", sum := "383667bd06330f0ca32aa868f2d80b57f302f9c39627289c9c92a1f3c1d5a31d", func := "loop.example/g00870/laws.FnExactItemText", spec := "fnExactItemText", inPlace := ["internal/abi.NoEscape", "internal/bytealg.MakeNoZero", "internal/bytealg.CountString", "internal/bytealg.IndexByteString", "internal/bytealg.IndexString"], unfollowed := true, recurses := true, named := ["internal/strconv.uint64pow10", "math/bits.deBruijn32tab", "math/bits.deBruijn64tab", "loop.example/g00870/impl.kindWords", "internal/bytealg.MaxLen", "unicode/utf8.first", "unicode/utf8.acceptRanges", "loop.example/g00870/impl.nameTexts"], apart := false, laid := [("math/bits.deBruijn32tab", laid_math_bits_deBruijn32tab), ("math/bits.deBruijn64tab", laid_math_bits_deBruijn64tab), ("internal/strconv.uint64pow10", laid_internal_strconv_uint64pow10), ("unicode/utf8.acceptRanges", laid_unicode_utf8_acceptRanges), ("loop.example/g00870/impl.nameTexts", laid_loop_example_g00870_impl_nameTexts), ("loop.example/g00870/impl.kindWords", laid_loop_example_g00870_impl_kindWords), ("unicode/utf8.first", laid_unicode_utf8_first)] }
def FnExactItemTextSaid : Prop := fnExactItemTextRow.holds Tryz.pinned (OpenSpec.ofChange fnExactItemTextSpec)

/-- ITS FALSE NEIGHBOUR: 'it returns false'. Refute it at one input. -/
def fnExactItemTextWrong : ChangeSpec := { name := "fnExactItemText", vars := ["loop.example/g00870/impl.kindWords", "loop.example/g00870/impl.nameTexts"], fn := fun _ => fun
  | [d, g1, g2] => { results := [.lit (.bool false)], args := [d], vars := [g1, g2] }
  | _ => none }
def FnExactItemTextWrongFalsely : Prop := fnExactItemTextRow.holds Tryz.pinned (OpenSpec.ofChange fnExactItemTextWrong)

/-- 'laws.FnExactUndoBench': WHATEVER THE INPUT: true; the input reads as it did. -/
def fnExactUndoBenchSpec : ChangeSpec := { name := "fnExactUndoBench", fn := fun _ => fun
  | [d] => { results := [.lit (.bool true)], args := [d] }
  | _ => none }
def fnExactUndoBenchRow : OpenClaim := { program := "ytgkcddpgmmmblaagreatdoor", sum := "383667bd06330f0ca32aa868f2d80b57f302f9c39627289c9c92a1f3c1d5a31d", func := "loop.example/g00870/laws.FnExactUndoBench", spec := "fnExactUndoBench", unfollowed := true, recurses := true, named := ["internal/strconv.uint64pow10", "math/bits.deBruijn32tab", "math/bits.deBruijn64tab"], apart := false, laid := [("math/bits.deBruijn32tab", laid_math_bits_deBruijn32tab), ("math/bits.deBruijn64tab", laid_math_bits_deBruijn64tab), ("internal/strconv.uint64pow10", laid_internal_strconv_uint64pow10)] }
def FnExactUndoBenchSaid : Prop := fnExactUndoBenchRow.holds Tryz.pinned (OpenSpec.ofChange fnExactUndoBenchSpec)

/-- ITS FALSE NEIGHBOUR: 'it returns false'. Refute it at one input. -/
def fnExactUndoBenchWrong : ChangeSpec := { name := "fnExactUndoBench", fn := fun _ => fun
  | [d] => { results := [.lit (.bool false)], args := [d] }
  | _ => none }
def FnExactUndoBenchWrongFalsely : Prop := fnExactUndoBenchRow.holds Tryz.pinned (OpenSpec.ofChange fnExactUndoBenchWrong)

/-- 'laws.FnExactRedoBench': WHATEVER THE INPUT: true; the input reads as it did. -/
def fnExactRedoBenchSpec : ChangeSpec := { name := "fnExactRedoBench", fn := fun _ => fun
  | [d] => { results := [.lit (.bool true)], args := [d] }
  | _ => none }
def fnExactRedoBenchRow : OpenClaim := { program := "ytgkcddpgmmmblaagreatdoor", sum := "383667bd06330f0ca32aa868f2d80b57f302f9c39627289c9c92a1f3c1d5a31d", func := "loop.example/g00870/laws.FnExactRedoBench", spec := "fnExactRedoBench", unfollowed := true, recurses := true, named := ["internal/strconv.uint64pow10", "math/bits.deBruijn32tab", "math/bits.deBruijn64tab"], apart := false, laid := [("math/bits.deBruijn32tab", laid_math_bits_deBruijn32tab), ("math/bits.deBruijn64tab", laid_math_bits_deBruijn64tab), ("internal/strconv.uint64pow10", laid_internal_strconv_uint64pow10)] }
def FnExactRedoBenchSaid : Prop := fnExactRedoBenchRow.holds Tryz.pinned (OpenSpec.ofChange fnExactRedoBenchSpec)

/-- ITS FALSE NEIGHBOUR: 'it returns false'. Refute it at one input. -/
def fnExactRedoBenchWrong : ChangeSpec := { name := "fnExactRedoBench", fn := fun _ => fun
  | [d] => { results := [.lit (.bool false)], args := [d] }
  | _ => none }
def FnExactRedoBenchWrongFalsely : Prop := fnExactRedoBenchRow.holds Tryz.pinned (OpenSpec.ofChange fnExactRedoBenchWrong)

/-- 'laws.FnExactDropItem': WHATEVER THE INPUT: true; the input reads as it did. -/
def fnExactDropItemSpec : ChangeSpec := { name := "fnExactDropItem", fn := fun _ => fun
  | [d1, d2] => { results := [.lit (.bool true)], args := [d1, d2] }
  | _ => none }
def fnExactDropItemRow : OpenClaim := { program := "ytgkcddpgmmmblaagreatdoor", sum := "383667bd06330f0ca32aa868f2d80b57f302f9c39627289c9c92a1f3c1d5a31d", func := "loop.example/g00870/laws.FnExactDropItem", spec := "fnExactDropItem", inPlace := ["internal/bytealg.abigen_runtime_cmpstring"], unfollowed := true, recurses := true, named := ["internal/strconv.uint64pow10", "math/bits.deBruijn32tab", "math/bits.deBruijn64tab"], apart := false, laid := [("math/bits.deBruijn32tab", laid_math_bits_deBruijn32tab), ("math/bits.deBruijn64tab", laid_math_bits_deBruijn64tab), ("internal/strconv.uint64pow10", laid_internal_strconv_uint64pow10)] }
def FnExactDropItemSaid : Prop := fnExactDropItemRow.holds Tryz.pinned (OpenSpec.ofChange fnExactDropItemSpec)

/-- ITS FALSE NEIGHBOUR: 'it returns false'. Refute it at one input. -/
def fnExactDropItemWrong : ChangeSpec := { name := "fnExactDropItem", fn := fun _ => fun
  | [d1, d2] => { results := [.lit (.bool false)], args := [d1, d2] }
  | _ => none }
def FnExactDropItemWrongFalsely : Prop := fnExactDropItemRow.holds Tryz.pinned (OpenSpec.ofChange fnExactDropItemWrong)

/-- 'laws.FnExactChangeLine': WHATEVER THE INPUT: true; the input reads as it did. -/
def fnExactChangeLineSpec : ChangeSpec := { name := "fnExactChangeLine", vars := ["loop.example/g00870/impl.kindWords", "loop.example/g00870/impl.nameTexts"], fn := fun _ => fun
  | [d, g1, g2] => { results := [.lit (.bool true)], args := [d], vars := [g1, g2] }
  | _ => none }
def fnExactChangeLineRow : OpenClaim := { program := "ytgkcddpgmmmblaagreatdoor", sum := "383667bd06330f0ca32aa868f2d80b57f302f9c39627289c9c92a1f3c1d5a31d", func := "loop.example/g00870/laws.FnExactChangeLine", spec := "fnExactChangeLine", inPlace := ["internal/abi.NoEscape", "internal/bytealg.MakeNoZero", "internal/bytealg.CountString", "internal/bytealg.IndexByteString", "internal/bytealg.IndexString"], unfollowed := true, recurses := true, named := ["internal/strconv.uint64pow10", "math/bits.deBruijn32tab", "math/bits.deBruijn64tab", "loop.example/g00870/impl.kindWords", "internal/bytealg.MaxLen", "unicode/utf8.first", "unicode/utf8.acceptRanges", "loop.example/g00870/impl.nameTexts"], apart := false, laid := [("math/bits.deBruijn32tab", laid_math_bits_deBruijn32tab), ("math/bits.deBruijn64tab", laid_math_bits_deBruijn64tab), ("internal/strconv.uint64pow10", laid_internal_strconv_uint64pow10), ("unicode/utf8.acceptRanges", laid_unicode_utf8_acceptRanges), ("loop.example/g00870/impl.nameTexts", laid_loop_example_g00870_impl_nameTexts), ("loop.example/g00870/impl.kindWords", laid_loop_example_g00870_impl_kindWords), ("unicode/utf8.first", laid_unicode_utf8_first)] }
def FnExactChangeLineSaid : Prop := fnExactChangeLineRow.holds Tryz.pinned (OpenSpec.ofChange fnExactChangeLineSpec)

/-- ITS FALSE NEIGHBOUR: 'it returns false'. Refute it at one input. -/
def fnExactChangeLineWrong : ChangeSpec := { name := "fnExactChangeLine", vars := ["loop.example/g00870/impl.kindWords", "loop.example/g00870/impl.nameTexts"], fn := fun _ => fun
  | [d, g1, g2] => { results := [.lit (.bool false)], args := [d], vars := [g1, g2] }
  | _ => none }
def FnExactChangeLineWrongFalsely : Prop := fnExactChangeLineRow.holds Tryz.pinned (OpenSpec.ofChange fnExactChangeLineWrong)

/-- 'laws.FnExactBenchText': WHATEVER THE INPUT: true; the input reads as it did. -/
def fnExactBenchTextSpec : ChangeSpec := { name := "fnExactBenchText", vars := ["loop.example/g00870/impl.kindWords", "loop.example/g00870/impl.nameTexts"], fn := fun _ => fun
  | [d, g1, g2] => { results := [.lit (.bool true)], args := [d], vars := [g1, g2] }
  | _ => none }
def fnExactBenchTextRow : OpenClaim := { program := "ytgkcddpgmmmblaagreatdoor", sum := "383667bd06330f0ca32aa868f2d80b57f302f9c39627289c9c92a1f3c1d5a31d", func := "loop.example/g00870/laws.FnExactBenchText", spec := "fnExactBenchText", inPlace := ["internal/abi.NoEscape", "internal/bytealg.MakeNoZero", "internal/bytealg.CountString", "internal/bytealg.IndexByteString", "internal/bytealg.IndexString"], unfollowed := true, recurses := true, named := ["internal/strconv.uint64pow10", "math/bits.deBruijn32tab", "math/bits.deBruijn64tab", "loop.example/g00870/impl.kindWords", "internal/bytealg.MaxLen", "unicode/utf8.first", "unicode/utf8.acceptRanges", "loop.example/g00870/impl.nameTexts"], apart := false, laid := [("math/bits.deBruijn32tab", laid_math_bits_deBruijn32tab), ("math/bits.deBruijn64tab", laid_math_bits_deBruijn64tab), ("internal/strconv.uint64pow10", laid_internal_strconv_uint64pow10), ("unicode/utf8.acceptRanges", laid_unicode_utf8_acceptRanges), ("loop.example/g00870/impl.nameTexts", laid_loop_example_g00870_impl_nameTexts), ("loop.example/g00870/impl.kindWords", laid_loop_example_g00870_impl_kindWords), ("unicode/utf8.first", laid_unicode_utf8_first)] }
def FnExactBenchTextSaid : Prop := fnExactBenchTextRow.holds Tryz.pinned (OpenSpec.ofChange fnExactBenchTextSpec)

/-- ITS FALSE NEIGHBOUR: 'it returns false'. Refute it at one input. -/
def fnExactBenchTextWrong : ChangeSpec := { name := "fnExactBenchText", vars := ["loop.example/g00870/impl.kindWords", "loop.example/g00870/impl.nameTexts"], fn := fun _ => fun
  | [d, g1, g2] => { results := [.lit (.bool false)], args := [d], vars := [g1, g2] }
  | _ => none }
def FnExactBenchTextWrongFalsely : Prop := fnExactBenchTextRow.holds Tryz.pinned (OpenSpec.ofChange fnExactBenchTextWrong)

/-- 'laws.FnExactPutItem': WHATEVER THE INPUT: true; the input reads as it did. -/
def fnExactPutItemSpec : ChangeSpec := { name := "fnExactPutItem", fn := fun _ => fun
  | [d1, d2] => { results := [.lit (.bool true)], args := [d1, d2] }
  | _ => none }
def fnExactPutItemRow : OpenClaim := { program := "ytgkcddpgmmmblaagreatdoor", sum := "383667bd06330f0ca32aa868f2d80b57f302f9c39627289c9c92a1f3c1d5a31d", func := "loop.example/g00870/laws.FnExactPutItem", spec := "fnExactPutItem", inPlace := ["internal/bytealg.abigen_runtime_cmpstring", "slices.overlaps[loop.example/g00870/impl.Item]"], unfollowed := true, recurses := true, named := ["internal/strconv.uint64pow10", "math/bits.deBruijn32tab", "math/bits.deBruijn64tab"], apart := false, laid := [("math/bits.deBruijn32tab", laid_math_bits_deBruijn32tab), ("math/bits.deBruijn64tab", laid_math_bits_deBruijn64tab), ("internal/strconv.uint64pow10", laid_internal_strconv_uint64pow10)] }
def FnExactPutItemSaid : Prop := fnExactPutItemRow.holds Tryz.pinned (OpenSpec.ofChange fnExactPutItemSpec)

/-- ITS FALSE NEIGHBOUR: 'it returns false'. Refute it at one input. -/
def fnExactPutItemWrong : ChangeSpec := { name := "fnExactPutItem", fn := fun _ => fun
  | [d1, d2] => { results := [.lit (.bool false)], args := [d1, d2] }
  | _ => none }
def FnExactPutItemWrongFalsely : Prop := fnExactPutItemRow.holds Tryz.pinned (OpenSpec.ofChange fnExactPutItemWrong)

/-- 'laws.FnExactApplyChange': WHATEVER THE INPUT: true; the input reads as it did. -/
def fnExactApplyChangeSpec : ChangeSpec := { name := "fnExactApplyChange", fn := fun _ => fun
  | [d1, d2] => { results := [.lit (.bool true)], args := [d1, d2] }
  | _ => none }
def fnExactApplyChangeRow : OpenClaim := { program := "ytgkcddpgmmmblaagreatdoor", sum := "383667bd06330f0ca32aa868f2d80b57f302f9c39627289c9c92a1f3c1d5a31d", func := "loop.example/g00870/laws.FnExactApplyChange", spec := "fnExactApplyChange", inPlace := ["internal/bytealg.abigen_runtime_cmpstring", "slices.overlaps[loop.example/g00870/impl.Item]"], unfollowed := true, recurses := true, named := ["internal/strconv.uint64pow10", "math/bits.deBruijn32tab", "math/bits.deBruijn64tab"], apart := false, laid := [("math/bits.deBruijn32tab", laid_math_bits_deBruijn32tab), ("math/bits.deBruijn64tab", laid_math_bits_deBruijn64tab), ("internal/strconv.uint64pow10", laid_internal_strconv_uint64pow10)] }
def FnExactApplyChangeSaid : Prop := fnExactApplyChangeRow.holds Tryz.pinned (OpenSpec.ofChange fnExactApplyChangeSpec)

/-- ITS FALSE NEIGHBOUR: 'it returns false'. Refute it at one input. -/
def fnExactApplyChangeWrong : ChangeSpec := { name := "fnExactApplyChange", fn := fun _ => fun
  | [d1, d2] => { results := [.lit (.bool false)], args := [d1, d2] }
  | _ => none }
def FnExactApplyChangeWrongFalsely : Prop := fnExactApplyChangeRow.holds Tryz.pinned (OpenSpec.ofChange fnExactApplyChangeWrong)

/-- 'laws.FnBenchUndo': WHATEVER THE INPUT: true; the input reads as it did. -/
def fnBenchUndoSpec : ChangeSpec := { name := "fnBenchUndo", vars := ["loop.example/g00870/impl.kindWords", "loop.example/g00870/impl.nameTexts"], fn := fun _ => fun
  | [d, g1, g2] => { results := [.lit (.bool true)], args := [d], vars := [g1, g2] }
  | _ => none }
def fnBenchUndoRow : OpenClaim := { program := "ytgkcddpgmmmblaagreatdoor", sum := "383667bd06330f0ca32aa868f2d80b57f302f9c39627289c9c92a1f3c1d5a31d", func := "loop.example/g00870/laws.FnBenchUndo", spec := "fnBenchUndo", inPlace := ["internal/bytealg.abigen_runtime_cmpstring", "slices.overlaps[loop.example/g00870/impl.Item]", "internal/abi.NoEscape", "internal/bytealg.MakeNoZero", "internal/bytealg.CountString", "internal/bytealg.IndexByteString", "internal/bytealg.IndexString"], unfollowed := true, recurses := true, named := ["internal/strconv.uint64pow10", "math/bits.deBruijn32tab", "math/bits.deBruijn64tab", "loop.example/g00870/impl.kindWords", "internal/bytealg.MaxLen", "unicode/utf8.first", "unicode/utf8.acceptRanges", "loop.example/g00870/impl.nameTexts"], apart := false, laid := [("math/bits.deBruijn32tab", laid_math_bits_deBruijn32tab), ("math/bits.deBruijn64tab", laid_math_bits_deBruijn64tab), ("internal/strconv.uint64pow10", laid_internal_strconv_uint64pow10), ("unicode/utf8.acceptRanges", laid_unicode_utf8_acceptRanges), ("loop.example/g00870/impl.nameTexts", laid_loop_example_g00870_impl_nameTexts), ("loop.example/g00870/impl.kindWords", laid_loop_example_g00870_impl_kindWords), ("unicode/utf8.first", laid_unicode_utf8_first)] }
def FnBenchUndoSaid : Prop := fnBenchUndoRow.holds Tryz.pinned (OpenSpec.ofChange fnBenchUndoSpec)

/-- ITS FALSE NEIGHBOUR: 'it returns false'. Refute it at one input. -/
def fnBenchUndoWrong : ChangeSpec := { name := "fnBenchUndo", vars := ["loop.example/g00870/impl.kindWords", "loop.example/g00870/impl.nameTexts"], fn := fun _ => fun
  | [d, g1, g2] => { results := [.lit (.bool false)], args := [d], vars := [g1, g2] }
  | _ => none }
def FnBenchUndoWrongFalsely : Prop := fnBenchUndoRow.holds Tryz.pinned (OpenSpec.ofChange fnBenchUndoWrong)

/- THE SECOND FORM. 'bulk': how many values and letters a reading holds, each counted each time it is reached (what is shared counts as often as it is met; a slice's spare places count too). A statement '..UptoSaid' is the law's where the arguments, and the package variables that the reading takes, are together of bulk at most 1048576: NARROWER than '..Said'. Prove '..Said' where nothing that the law and all that it calls make is longer than what came in: it says more and counts as full. Else prove '..UptoSaid'. A law counts once. -/
mutual
def uptoBulk {H : Type} : DataW H → Nat
  | .lit (.string bytes) => bytes.length + 1
  | .lit _ => 1
  | .nil => 1
  | .ptr d => uptoBulk d + 1
  | .slice elems spare => uptoBulkAll elems + uptoBulkAll spare + 1
  | .agg parts => uptoBulkAll parts + 1
  | .iface _ d => uptoBulk d + 1
  | .map entries => uptoBulkEntries entries + 1
  | .held _ => 1
def uptoBulkAll {H : Type} : List (DataW H) → Nat
  | [] => 0
  | d :: r => uptoBulk d + uptoBulkAll r
def uptoBulkEntries {H : Type} : List (Lit × DataW H) → Nat
  | [] => 0
  | x :: r => uptoBulkEntry x + uptoBulkEntries r
def uptoBulkEntry {H : Type} : Lit × DataW H → Nat
  | (.string bytes, d) => bytes.length + uptoBulk d + 1
  | (_, d) => uptoBulk d + 1
 end
def uptoSmall : (H : Type) → List (DataW H) → Bool := fun _ ds => decide (uptoBulkAll ds ≤ 1048576)
def OpenSpec.upto (s : _root_.Go.ChangeSpec) : _root_.Go.OpenSpec := { _root_.Go.OpenSpec.ofChange s with cond := some uptoSmall }

/-- 'laws.FnExactValidItem', WHERE WHAT IT READS IS OF BULK AT MOST 1048576: true; the input reads as it did. -/
def fnExactValidItemUptoRow : OpenClaim := { program := "ytgkcddpgmmmblaagreatdoor", sum := "383667bd06330f0ca32aa868f2d80b57f302f9c39627289c9c92a1f3c1d5a31d", func := "loop.example/g00870/laws.FnExactValidItem", spec := "fnExactValidItem", unfollowed := true, recurses := true, named := ["internal/strconv.uint64pow10", "math/bits.deBruijn32tab", "math/bits.deBruijn64tab"], apart := false, laid := [("math/bits.deBruijn32tab", laid_math_bits_deBruijn32tab), ("math/bits.deBruijn64tab", laid_math_bits_deBruijn64tab), ("internal/strconv.uint64pow10", laid_internal_strconv_uint64pow10)], narrowed := true }
def FnExactValidItemUptoSaid : Prop := fnExactValidItemUptoRow.holds Tryz.pinned (OpenSpec.upto fnExactValidItemSpec)

/-- 'laws.FnExactValidBench', WHERE WHAT IT READS IS OF BULK AT MOST 1048576: true; the input reads as it did. -/
def fnExactValidBenchUptoRow : OpenClaim := { program := "ytgkcddpgmmmblaagreatdoor", sum := "383667bd06330f0ca32aa868f2d80b57f302f9c39627289c9c92a1f3c1d5a31d", func := "loop.example/g00870/laws.FnExactValidBench", spec := "fnExactValidBench", unfollowed := true, recurses := true, named := ["internal/strconv.uint64pow10", "math/bits.deBruijn32tab", "math/bits.deBruijn64tab"], apart := false, laid := [("math/bits.deBruijn32tab", laid_math_bits_deBruijn32tab), ("math/bits.deBruijn64tab", laid_math_bits_deBruijn64tab), ("internal/strconv.uint64pow10", laid_internal_strconv_uint64pow10)], narrowed := true }
def FnExactValidBenchUptoSaid : Prop := fnExactValidBenchUptoRow.holds Tryz.pinned (OpenSpec.upto fnExactValidBenchSpec)

/-- 'laws.FnExactFindItem', WHERE WHAT IT READS IS OF BULK AT MOST 1048576: true; the input reads as it did. -/
def fnExactFindItemUptoRow : OpenClaim := { program := "ytgkcddpgmmmblaagreatdoor", sum := "383667bd06330f0ca32aa868f2d80b57f302f9c39627289c9c92a1f3c1d5a31d", func := "loop.example/g00870/laws.FnExactFindItem", spec := "fnExactFindItem", inPlace := ["internal/bytealg.abigen_runtime_cmpstring"], unfollowed := true, recurses := true, named := ["internal/strconv.uint64pow10", "math/bits.deBruijn32tab", "math/bits.deBruijn64tab"], apart := false, laid := [("math/bits.deBruijn32tab", laid_math_bits_deBruijn32tab), ("math/bits.deBruijn64tab", laid_math_bits_deBruijn64tab), ("internal/strconv.uint64pow10", laid_internal_strconv_uint64pow10)], narrowed := true }
def FnExactFindItemUptoSaid : Prop := fnExactFindItemUptoRow.holds Tryz.pinned (OpenSpec.upto fnExactFindItemSpec)

/-- 'laws.FnExactItemText', WHERE WHAT IT READS IS OF BULK AT MOST 1048576: true; the input reads as it did. -/
def fnExactItemTextUptoRow : OpenClaim := { program := "ytgkcddpgmmmblaagreatdoor", sum := "383667bd06330f0ca32aa868f2d80b57f302f9c39627289c9c92a1f3c1d5a31d", func := "loop.example/g00870/laws.FnExactItemText", spec := "fnExactItemText", inPlace := ["internal/abi.NoEscape", "internal/bytealg.MakeNoZero", "internal/bytealg.CountString", "internal/bytealg.IndexByteString", "internal/bytealg.IndexString"], unfollowed := true, recurses := true, named := ["internal/strconv.uint64pow10", "math/bits.deBruijn32tab", "math/bits.deBruijn64tab", "loop.example/g00870/impl.kindWords", "internal/bytealg.MaxLen", "unicode/utf8.first", "unicode/utf8.acceptRanges", "loop.example/g00870/impl.nameTexts"], apart := false, laid := [("math/bits.deBruijn32tab", laid_math_bits_deBruijn32tab), ("math/bits.deBruijn64tab", laid_math_bits_deBruijn64tab), ("internal/strconv.uint64pow10", laid_internal_strconv_uint64pow10), ("unicode/utf8.acceptRanges", laid_unicode_utf8_acceptRanges), ("loop.example/g00870/impl.nameTexts", laid_loop_example_g00870_impl_nameTexts), ("loop.example/g00870/impl.kindWords", laid_loop_example_g00870_impl_kindWords), ("unicode/utf8.first", laid_unicode_utf8_first)], narrowed := true }
def FnExactItemTextUptoSaid : Prop := fnExactItemTextUptoRow.holds Tryz.pinned (OpenSpec.upto fnExactItemTextSpec)

/-- 'laws.FnExactUndoBench', WHERE WHAT IT READS IS OF BULK AT MOST 1048576: true; the input reads as it did. -/
def fnExactUndoBenchUptoRow : OpenClaim := { program := "ytgkcddpgmmmblaagreatdoor", sum := "383667bd06330f0ca32aa868f2d80b57f302f9c39627289c9c92a1f3c1d5a31d", func := "loop.example/g00870/laws.FnExactUndoBench", spec := "fnExactUndoBench", unfollowed := true, recurses := true, named := ["internal/strconv.uint64pow10", "math/bits.deBruijn32tab", "math/bits.deBruijn64tab"], apart := false, laid := [("math/bits.deBruijn32tab", laid_math_bits_deBruijn32tab), ("math/bits.deBruijn64tab", laid_math_bits_deBruijn64tab), ("internal/strconv.uint64pow10", laid_internal_strconv_uint64pow10)], narrowed := true }
def FnExactUndoBenchUptoSaid : Prop := fnExactUndoBenchUptoRow.holds Tryz.pinned (OpenSpec.upto fnExactUndoBenchSpec)

/-- 'laws.FnExactRedoBench', WHERE WHAT IT READS IS OF BULK AT MOST 1048576: true; the input reads as it did. -/
def fnExactRedoBenchUptoRow : OpenClaim := { program := "ytgkcddpgmmmblaagreatdoor", sum := "383667bd06330f0ca32aa868f2d80b57f302f9c39627289c9c92a1f3c1d5a31d", func := "loop.example/g00870/laws.FnExactRedoBench", spec := "fnExactRedoBench", unfollowed := true, recurses := true, named := ["internal/strconv.uint64pow10", "math/bits.deBruijn32tab", "math/bits.deBruijn64tab"], apart := false, laid := [("math/bits.deBruijn32tab", laid_math_bits_deBruijn32tab), ("math/bits.deBruijn64tab", laid_math_bits_deBruijn64tab), ("internal/strconv.uint64pow10", laid_internal_strconv_uint64pow10)], narrowed := true }
def FnExactRedoBenchUptoSaid : Prop := fnExactRedoBenchUptoRow.holds Tryz.pinned (OpenSpec.upto fnExactRedoBenchSpec)

/-- 'laws.FnExactDropItem', WHERE WHAT IT READS IS OF BULK AT MOST 1048576: true; the input reads as it did. -/
def fnExactDropItemUptoRow : OpenClaim := { program := "ytgkcddpgmmmblaagreatdoor", sum := "383667bd06330f0ca32aa868f2d80b57f302f9c39627289c9c92a1f3c1d5a31d", func := "loop.example/g00870/laws.FnExactDropItem", spec := "fnExactDropItem", inPlace := ["internal/bytealg.abigen_runtime_cmpstring"], unfollowed := true, recurses := true, named := ["internal/strconv.uint64pow10", "math/bits.deBruijn32tab", "math/bits.deBruijn64tab"], apart := false, laid := [("math/bits.deBruijn32tab", laid_math_bits_deBruijn32tab), ("math/bits.deBruijn64tab", laid_math_bits_deBruijn64tab), ("internal/strconv.uint64pow10", laid_internal_strconv_uint64pow10)], narrowed := true }
def FnExactDropItemUptoSaid : Prop := fnExactDropItemUptoRow.holds Tryz.pinned (OpenSpec.upto fnExactDropItemSpec)

/-- 'laws.FnExactChangeLine', WHERE WHAT IT READS IS OF BULK AT MOST 1048576: true; the input reads as it did. -/
def fnExactChangeLineUptoRow : OpenClaim := { program := "ytgkcddpgmmmblaagreatdoor", sum := "383667bd06330f0ca32aa868f2d80b57f302f9c39627289c9c92a1f3c1d5a31d", func := "loop.example/g00870/laws.FnExactChangeLine", spec := "fnExactChangeLine", inPlace := ["internal/abi.NoEscape", "internal/bytealg.MakeNoZero", "internal/bytealg.CountString", "internal/bytealg.IndexByteString", "internal/bytealg.IndexString"], unfollowed := true, recurses := true, named := ["internal/strconv.uint64pow10", "math/bits.deBruijn32tab", "math/bits.deBruijn64tab", "loop.example/g00870/impl.kindWords", "internal/bytealg.MaxLen", "unicode/utf8.first", "unicode/utf8.acceptRanges", "loop.example/g00870/impl.nameTexts"], apart := false, laid := [("math/bits.deBruijn32tab", laid_math_bits_deBruijn32tab), ("math/bits.deBruijn64tab", laid_math_bits_deBruijn64tab), ("internal/strconv.uint64pow10", laid_internal_strconv_uint64pow10), ("unicode/utf8.acceptRanges", laid_unicode_utf8_acceptRanges), ("loop.example/g00870/impl.nameTexts", laid_loop_example_g00870_impl_nameTexts), ("loop.example/g00870/impl.kindWords", laid_loop_example_g00870_impl_kindWords), ("unicode/utf8.first", laid_unicode_utf8_first)], narrowed := true }
def FnExactChangeLineUptoSaid : Prop := fnExactChangeLineUptoRow.holds Tryz.pinned (OpenSpec.upto fnExactChangeLineSpec)

/-- 'laws.FnExactBenchText', WHERE WHAT IT READS IS OF BULK AT MOST 1048576: true; the input reads as it did. -/
def fnExactBenchTextUptoRow : OpenClaim := { program := "ytgkcddpgmmmblaagreatdoor", sum := "383667bd06330f0ca32aa868f2d80b57f302f9c39627289c9c92a1f3c1d5a31d", func := "loop.example/g00870/laws.FnExactBenchText", spec := "fnExactBenchText", inPlace := ["internal/abi.NoEscape", "internal/bytealg.MakeNoZero", "internal/bytealg.CountString", "internal/bytealg.IndexByteString", "internal/bytealg.IndexString"], unfollowed := true, recurses := true, named := ["internal/strconv.uint64pow10", "math/bits.deBruijn32tab", "math/bits.deBruijn64tab", "loop.example/g00870/impl.kindWords", "internal/bytealg.MaxLen", "unicode/utf8.first", "unicode/utf8.acceptRanges", "loop.example/g00870/impl.nameTexts"], apart := false, laid := [("math/bits.deBruijn32tab", laid_math_bits_deBruijn32tab), ("math/bits.deBruijn64tab", laid_math_bits_deBruijn64tab), ("internal/strconv.uint64pow10", laid_internal_strconv_uint64pow10), ("unicode/utf8.acceptRanges", laid_unicode_utf8_acceptRanges), ("loop.example/g00870/impl.nameTexts", laid_loop_example_g00870_impl_nameTexts), ("loop.example/g00870/impl.kindWords", laid_loop_example_g00870_impl_kindWords), ("unicode/utf8.first", laid_unicode_utf8_first)], narrowed := true }
def FnExactBenchTextUptoSaid : Prop := fnExactBenchTextUptoRow.holds Tryz.pinned (OpenSpec.upto fnExactBenchTextSpec)

/-- 'laws.FnExactPutItem', WHERE WHAT IT READS IS OF BULK AT MOST 1048576: true; the input reads as it did. -/
def fnExactPutItemUptoRow : OpenClaim := { program := "ytgkcddpgmmmblaagreatdoor", sum := "383667bd06330f0ca32aa868f2d80b57f302f9c39627289c9c92a1f3c1d5a31d", func := "loop.example/g00870/laws.FnExactPutItem", spec := "fnExactPutItem", inPlace := ["internal/bytealg.abigen_runtime_cmpstring", "slices.overlaps[loop.example/g00870/impl.Item]"], unfollowed := true, recurses := true, named := ["internal/strconv.uint64pow10", "math/bits.deBruijn32tab", "math/bits.deBruijn64tab"], apart := false, laid := [("math/bits.deBruijn32tab", laid_math_bits_deBruijn32tab), ("math/bits.deBruijn64tab", laid_math_bits_deBruijn64tab), ("internal/strconv.uint64pow10", laid_internal_strconv_uint64pow10)], narrowed := true }
def FnExactPutItemUptoSaid : Prop := fnExactPutItemUptoRow.holds Tryz.pinned (OpenSpec.upto fnExactPutItemSpec)

/-- 'laws.FnExactApplyChange', WHERE WHAT IT READS IS OF BULK AT MOST 1048576: true; the input reads as it did. -/
def fnExactApplyChangeUptoRow : OpenClaim := { program := "ytgkcddpgmmmblaagreatdoor", sum := "383667bd06330f0ca32aa868f2d80b57f302f9c39627289c9c92a1f3c1d5a31d", func := "loop.example/g00870/laws.FnExactApplyChange", spec := "fnExactApplyChange", inPlace := ["internal/bytealg.abigen_runtime_cmpstring", "slices.overlaps[loop.example/g00870/impl.Item]"], unfollowed := true, recurses := true, named := ["internal/strconv.uint64pow10", "math/bits.deBruijn32tab", "math/bits.deBruijn64tab"], apart := false, laid := [("math/bits.deBruijn32tab", laid_math_bits_deBruijn32tab), ("math/bits.deBruijn64tab", laid_math_bits_deBruijn64tab), ("internal/strconv.uint64pow10", laid_internal_strconv_uint64pow10)], narrowed := true }
def FnExactApplyChangeUptoSaid : Prop := fnExactApplyChangeUptoRow.holds Tryz.pinned (OpenSpec.upto fnExactApplyChangeSpec)

/-- 'laws.FnBenchUndo', WHERE WHAT IT READS IS OF BULK AT MOST 1048576: true; the input reads as it did. -/
def fnBenchUndoUptoRow : OpenClaim := { program := "ytgkcddpgmmmblaagreatdoor", sum := "383667bd06330f0ca32aa868f2d80b57f302f9c39627289c9c92a1f3c1d5a31d", func := "loop.example/g00870/laws.FnBenchUndo", spec := "fnBenchUndo", inPlace := ["internal/bytealg.abigen_runtime_cmpstring", "slices.overlaps[loop.example/g00870/impl.Item]", "internal/abi.NoEscape", "internal/bytealg.MakeNoZero", "internal/bytealg.CountString", "internal/bytealg.IndexByteString", "internal/bytealg.IndexString"], unfollowed := true, recurses := true, named := ["internal/strconv.uint64pow10", "math/bits.deBruijn32tab", "math/bits.deBruijn64tab", "loop.example/g00870/impl.kindWords", "internal/bytealg.MaxLen", "unicode/utf8.first", "unicode/utf8.acceptRanges", "loop.example/g00870/impl.nameTexts"], apart := false, laid := [("math/bits.deBruijn32tab", laid_math_bits_deBruijn32tab), ("math/bits.deBruijn64tab", laid_math_bits_deBruijn64tab), ("internal/strconv.uint64pow10", laid_internal_strconv_uint64pow10), ("unicode/utf8.acceptRanges", laid_unicode_utf8_acceptRanges), ("loop.example/g00870/impl.nameTexts", laid_loop_example_g00870_impl_nameTexts), ("loop.example/g00870/impl.kindWords", laid_loop_example_g00870_impl_kindWords), ("unicode/utf8.first", laid_unicode_utf8_first)], narrowed := true }
def FnBenchUndoUptoSaid : Prop := fnBenchUndoUptoRow.holds Tryz.pinned (OpenSpec.upto fnBenchUndoSpec)

end Rows
end Go.Proofs.YtgkcddpgmmmblaaGreatDoor
