/-
  DERIVED. GIVEN WITH THE SEED: THE CARDS: each row of YtkmeepgpmppibaaGreatDoorRows.lean that lists a variable, with what it lists TIED to the program's text (the seventh form; the later family's looks); each row that meets fmt, with fmt's text TOLD by the authors' own Lean function (tested against real Go, not proved from fmt's source: count such statements apart). THE CARD IS WHAT COUNTS. Prove the row's statement (the work); the ties are given (YtkmeepgpmppibaaGreatDoorTie.lean); close each card by the builder's one call (the guide's Derived/Test/ToyasCard.lean, 'card_holds'). Laid BY PROGRAM, IN A SANDBOX (cutbox-door.mjs). By AI agents, Wed Nov 11 2026. No macro, syntax, notation, axiom, sorry.
-/
import Derived.Test.YtkmeepgpmppibaaGreatDoorRows
import GoSem.ClaimSeven
namespace Go.Proofs.YtkmeepgpmppibaaGreatDoor
namespace Rows

/-- THE TIED CARD OF 'laws.FnExactDropItem'. -/
def fnExactDropItemCard : Claim7 := { stood := { row := fnExactDropItemRow, standIns := [], harness := (true, "b7f65034f28931b283f271af8e1d3e3b6f8741036be94f5f34674382be633ff2"), looks := false }, kinds := [], alts := [], laidByText := true, laidKinds := [.data, .data, .data], laidTests := true, laidLooks := .later }
def FnExactDropItemCardSaid : Prop := Claim7.holds Tryz.pinned (.plain (OpenSpec.ofChange fnExactDropItemSpec)) fnExactDropItemCard

/-- THE TIED CARD OF 'laws.FnExactPutItem'. -/
def fnExactPutItemCard : Claim7 := { stood := { row := fnExactPutItemRow, standIns := [], harness := (true, "b7f65034f28931b283f271af8e1d3e3b6f8741036be94f5f34674382be633ff2"), looks := false }, kinds := [], alts := [], laidByText := true, laidKinds := [.data, .data, .data], laidTests := true, laidLooks := .later }
def FnExactPutItemCardSaid : Prop := Claim7.holds Tryz.pinned (.plain (OpenSpec.ofChange fnExactPutItemSpec)) fnExactPutItemCard

/-- THE SECOND FORM's CARD OF 'laws.FnExactDropItem'. -/
def fnExactDropItemUptoCard : Claim7 := { stood := { row := fnExactDropItemUptoRow, standIns := [], harness := (true, "b7f65034f28931b283f271af8e1d3e3b6f8741036be94f5f34674382be633ff2"), looks := false }, kinds := [], alts := [], laidByText := true, laidKinds := [.data, .data, .data], laidTests := true, laidLooks := .later }
def FnExactDropItemUptoCardSaid : Prop := Claim7.holds Tryz.pinned (.plain (OpenSpec.upto fnExactDropItemSpec)) fnExactDropItemUptoCard

/-- THE SECOND FORM's CARD OF 'laws.FnExactPutItem'. -/
def fnExactPutItemUptoCard : Claim7 := { stood := { row := fnExactPutItemUptoRow, standIns := [], harness := (true, "b7f65034f28931b283f271af8e1d3e3b6f8741036be94f5f34674382be633ff2"), looks := false }, kinds := [], alts := [], laidByText := true, laidKinds := [.data, .data, .data], laidTests := true, laidLooks := .later }
def FnExactPutItemUptoCardSaid : Prop := Claim7.holds Tryz.pinned (.plain (OpenSpec.upto fnExactPutItemSpec)) fnExactPutItemUptoCard
end Rows
end Go.Proofs.YtkmeepgpmppibaaGreatDoor
