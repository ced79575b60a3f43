/-
  DERIVED. GIVEN WITH THE SEED: THE CARDS: each row of YtjopfecenllmgaaGreatDoorRows.lean that lists a variable, with what it lists TIED to the program's text (the seventh form; the later family's looks); each row that meets fmt, with fmt's text TOLD by the authors' own Lean function (tested against real Go, not proved from fmt's source: count such statements apart). THE CARD IS WHAT COUNTS. Prove the row's statement (the work); the ties are given (YtjopfecenllmgaaGreatDoorTie.lean); close each card by the builder's one call (the guide's Derived/Test/ToyasCard.lean, 'card_holds'). Laid BY PROGRAM, IN A SANDBOX (cutbox-door.mjs). By AI agents, Wed Nov 11 2026. No macro, syntax, notation, axiom, sorry.
-/
import Derived.Test.YtjopfecenllmgaaGreatDoorRows
import GoSem.ClaimSeven
namespace Go.Proofs.YtjopfecenllmgaaGreatDoor
namespace Rows

/-- THE TIED CARD OF 'laws.FnExactApplyChange'. -/
def fnExactApplyChangeCard : Claim7 := { stood := { row := fnExactApplyChangeRow, standIns := [], harness := (true, "676542ff3c700c5c4700a8e6df8c5b7d886d407b3ea389943daf1af2177dc27f"), looks := false }, kinds := [], alts := [], laidByText := true, laidKinds := [.data, .data, .data], laidTests := true, laidLooks := .later }
def FnExactApplyChangeCardSaid : Prop := Claim7.holds Tryz.pinned (.plain (OpenSpec.ofChange fnExactApplyChangeSpec)) fnExactApplyChangeCard

/-- THE SECOND FORM's CARD OF 'laws.FnExactApplyChange'. -/
def fnExactApplyChangeUptoCard : Claim7 := { stood := { row := fnExactApplyChangeUptoRow, standIns := [], harness := (true, "676542ff3c700c5c4700a8e6df8c5b7d886d407b3ea389943daf1af2177dc27f"), looks := false }, kinds := [], alts := [], laidByText := true, laidKinds := [.data, .data, .data], laidTests := true, laidLooks := .later }
def FnExactApplyChangeUptoCardSaid : Prop := Claim7.holds Tryz.pinned (.plain (OpenSpec.upto fnExactApplyChangeSpec)) fnExactApplyChangeUptoCard
end Rows
end Go.Proofs.YtjopfecenllmgaaGreatDoor
