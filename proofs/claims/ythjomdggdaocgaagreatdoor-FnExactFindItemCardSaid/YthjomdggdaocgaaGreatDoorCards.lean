/-
  DERIVED. GIVEN WITH THE SEED: THE CARDS: each row of YthjomdggdaocgaaGreatDoorRows.lean that lists a variable, with what it lists TIED to the program's text (the seventh form; the later family's looks); each row that meets fmt, with fmt's text TOLD by the authors' own Lean function (tested against real Go, not proved from fmt's source: count such statements apart). THE CARD IS WHAT COUNTS. Prove the row's statement (the work); the ties are given (YthjomdggdaocgaaGreatDoorTie.lean); close each card by the builder's one call (the guide's Derived/Test/ToyasCard.lean, 'card_holds'). Laid BY PROGRAM, IN A SANDBOX (cutbox-door.mjs). By AI agents, Wed Nov 11 2026. No macro, syntax, notation, axiom, sorry.
-/
import Derived.Test.YthjomdggdaocgaaGreatDoorRows
import GoSem.ClaimSeven
namespace Go.Proofs.YthjomdggdaocgaaGreatDoor
namespace Rows

/-- THE TIED CARD OF 'laws.FnExactValidBench'. -/
def fnExactValidBenchCard : Claim7 := { stood := { row := fnExactValidBenchRow, standIns := [], harness := (true, "34ef26a42d93b114369c43cdec1644d91d47406c27d289d7c8eb66c01df82186"), looks := false }, kinds := [], alts := [], laidByText := true, laidKinds := [.data, .data, .data], laidTests := true, laidLooks := .later }
def FnExactValidBenchCardSaid : Prop := Claim7.holds Tryz.pinned (.plain (OpenSpec.ofChange fnExactValidBenchSpec)) fnExactValidBenchCard

/-- THE TIED CARD OF 'laws.FnExactFindItem'. -/
def fnExactFindItemCard : Claim7 := { stood := { row := fnExactFindItemRow, standIns := [], harness := (true, "34ef26a42d93b114369c43cdec1644d91d47406c27d289d7c8eb66c01df82186"), looks := false }, kinds := [], alts := [], laidByText := true, laidKinds := [.data, .data, .data], laidTests := true, laidLooks := .later }
def FnExactFindItemCardSaid : Prop := Claim7.holds Tryz.pinned (.plain (OpenSpec.ofChange fnExactFindItemSpec)) fnExactFindItemCard

/-- THE TIED CARD OF 'laws.FnExactUndoBench'. -/
def fnExactUndoBenchCard : Claim7 := { stood := { row := fnExactUndoBenchRow, standIns := [], harness := (true, "34ef26a42d93b114369c43cdec1644d91d47406c27d289d7c8eb66c01df82186"), looks := false }, kinds := [], alts := [], laidByText := true, laidKinds := [.data, .data, .data], laidTests := true, laidLooks := .later }
def FnExactUndoBenchCardSaid : Prop := Claim7.holds Tryz.pinned (.plain (OpenSpec.ofChange fnExactUndoBenchSpec)) fnExactUndoBenchCard

/-- THE TIED CARD OF 'laws.FnExactRedoBench'. -/
def fnExactRedoBenchCard : Claim7 := { stood := { row := fnExactRedoBenchRow, standIns := [], harness := (true, "34ef26a42d93b114369c43cdec1644d91d47406c27d289d7c8eb66c01df82186"), looks := false }, kinds := [], alts := [], laidByText := true, laidKinds := [.data, .data, .data], laidTests := true, laidLooks := .later }
def FnExactRedoBenchCardSaid : Prop := Claim7.holds Tryz.pinned (.plain (OpenSpec.ofChange fnExactRedoBenchSpec)) fnExactRedoBenchCard

/-- THE SECOND FORM's CARD OF 'laws.FnExactValidBench'. -/
def fnExactValidBenchUptoCard : Claim7 := { stood := { row := fnExactValidBenchUptoRow, standIns := [], harness := (true, "34ef26a42d93b114369c43cdec1644d91d47406c27d289d7c8eb66c01df82186"), looks := false }, kinds := [], alts := [], laidByText := true, laidKinds := [.data, .data, .data], laidTests := true, laidLooks := .later }
def FnExactValidBenchUptoCardSaid : Prop := Claim7.holds Tryz.pinned (.plain (OpenSpec.upto fnExactValidBenchSpec)) fnExactValidBenchUptoCard

/-- THE SECOND FORM's CARD OF 'laws.FnExactFindItem'. -/
def fnExactFindItemUptoCard : Claim7 := { stood := { row := fnExactFindItemUptoRow, standIns := [], harness := (true, "34ef26a42d93b114369c43cdec1644d91d47406c27d289d7c8eb66c01df82186"), looks := false }, kinds := [], alts := [], laidByText := true, laidKinds := [.data, .data, .data], laidTests := true, laidLooks := .later }
def FnExactFindItemUptoCardSaid : Prop := Claim7.holds Tryz.pinned (.plain (OpenSpec.upto fnExactFindItemSpec)) fnExactFindItemUptoCard

/-- THE SECOND FORM's CARD OF 'laws.FnExactUndoBench'. -/
def fnExactUndoBenchUptoCard : Claim7 := { stood := { row := fnExactUndoBenchUptoRow, standIns := [], harness := (true, "34ef26a42d93b114369c43cdec1644d91d47406c27d289d7c8eb66c01df82186"), looks := false }, kinds := [], alts := [], laidByText := true, laidKinds := [.data, .data, .data], laidTests := true, laidLooks := .later }
def FnExactUndoBenchUptoCardSaid : Prop := Claim7.holds Tryz.pinned (.plain (OpenSpec.upto fnExactUndoBenchSpec)) fnExactUndoBenchUptoCard

/-- THE SECOND FORM's CARD OF 'laws.FnExactRedoBench'. -/
def fnExactRedoBenchUptoCard : Claim7 := { stood := { row := fnExactRedoBenchUptoRow, standIns := [], harness := (true, "34ef26a42d93b114369c43cdec1644d91d47406c27d289d7c8eb66c01df82186"), looks := false }, kinds := [], alts := [], laidByText := true, laidKinds := [.data, .data, .data], laidTests := true, laidLooks := .later }
def FnExactRedoBenchUptoCardSaid : Prop := Claim7.holds Tryz.pinned (.plain (OpenSpec.upto fnExactRedoBenchSpec)) fnExactRedoBenchUptoCard
end Rows
end Go.Proofs.YthjomdggdaocgaaGreatDoor
