/-
  DERIVED. GIVEN WITH THE SEED: THE CARDS: each row of YtgkcddpgmmmblaaGreatDoorRows.lean that lists a variable, with what it lists TIED to the program's text (the seventh form; the later family's looks); each row that meets fmt, with fmt's text TOLD by the authors' own Lean function (tested against real Go, not proved from fmt's source: count such statements apart). THE CARD IS WHAT COUNTS. Prove the row's statement (the work); the ties are given (YtgkcddpgmmmblaaGreatDoorTie.lean); close each card by the builder's one call (the guide's Derived/Test/ToyasCard.lean, 'card_holds'). Laid BY PROGRAM, IN A SANDBOX (cutbox-door.mjs). By AI agents, Wed Nov 11 2026. No macro, syntax, notation, axiom, sorry.
-/
import Derived.Test.YtgkcddpgmmmblaaGreatDoorRows
import GoSem.ClaimSeven
namespace Go.Proofs.YtgkcddpgmmmblaaGreatDoor
namespace Rows

/-- THE TIED CARD OF 'laws.FnExactValidItem'. -/
def fnExactValidItemCard : Claim7 := { stood := { row := fnExactValidItemRow, standIns := [], harness := (true, "61dba4e27860d5a07cc5fbf1a7fa521819c883e32315bf8bb94d81f210ffe8a4"), looks := false }, kinds := [], alts := [], laidByText := true, laidKinds := [.data, .data, .data], laidTests := true, laidLooks := .later }
def FnExactValidItemCardSaid : Prop := Claim7.holds Tryz.pinned (.plain (OpenSpec.ofChange fnExactValidItemSpec)) fnExactValidItemCard

/-- THE TIED CARD OF 'laws.FnExactValidBench'. -/
def fnExactValidBenchCard : Claim7 := { stood := { row := fnExactValidBenchRow, standIns := [], harness := (true, "61dba4e27860d5a07cc5fbf1a7fa521819c883e32315bf8bb94d81f210ffe8a4"), looks := false }, kinds := [], alts := [], laidByText := true, laidKinds := [.data, .data, .data], laidTests := true, laidLooks := .later }
def FnExactValidBenchCardSaid : Prop := Claim7.holds Tryz.pinned (.plain (OpenSpec.ofChange fnExactValidBenchSpec)) fnExactValidBenchCard

/-- THE TIED CARD OF 'laws.FnExactFindItem'. -/
def fnExactFindItemCard : Claim7 := { stood := { row := fnExactFindItemRow, standIns := [], harness := (true, "61dba4e27860d5a07cc5fbf1a7fa521819c883e32315bf8bb94d81f210ffe8a4"), looks := false }, kinds := [], alts := [], laidByText := true, laidKinds := [.data, .data, .data], laidTests := true, laidLooks := .later }
def FnExactFindItemCardSaid : Prop := Claim7.holds Tryz.pinned (.plain (OpenSpec.ofChange fnExactFindItemSpec)) fnExactFindItemCard

/-- THE TIED CARD OF 'laws.FnExactItemText'. -/
def fnExactItemTextCard : Claim7 := { stood := { row := fnExactItemTextRow, standIns := [], harness := (true, "61dba4e27860d5a07cc5fbf1a7fa521819c883e32315bf8bb94d81f210ffe8a4"), looks := false }, kinds := [], alts := [], laidByText := true, laidKinds := [.data, .data, .data, .data, .data, .data, .pinned], laidTests := true, laidLooks := .later }
def FnExactItemTextCardSaid : Prop := Claim7.holds Tryz.pinned (.plain (OpenSpec.ofChange fnExactItemTextSpec)) fnExactItemTextCard

/-- THE TIED CARD OF 'laws.FnExactUndoBench'. -/
def fnExactUndoBenchCard : Claim7 := { stood := { row := fnExactUndoBenchRow, standIns := [], harness := (true, "61dba4e27860d5a07cc5fbf1a7fa521819c883e32315bf8bb94d81f210ffe8a4"), looks := false }, kinds := [], alts := [], laidByText := true, laidKinds := [.data, .data, .data], laidTests := true, laidLooks := .later }
def FnExactUndoBenchCardSaid : Prop := Claim7.holds Tryz.pinned (.plain (OpenSpec.ofChange fnExactUndoBenchSpec)) fnExactUndoBenchCard

/-- THE TIED CARD OF 'laws.FnExactRedoBench'. -/
def fnExactRedoBenchCard : Claim7 := { stood := { row := fnExactRedoBenchRow, standIns := [], harness := (true, "61dba4e27860d5a07cc5fbf1a7fa521819c883e32315bf8bb94d81f210ffe8a4"), looks := false }, kinds := [], alts := [], laidByText := true, laidKinds := [.data, .data, .data], laidTests := true, laidLooks := .later }
def FnExactRedoBenchCardSaid : Prop := Claim7.holds Tryz.pinned (.plain (OpenSpec.ofChange fnExactRedoBenchSpec)) fnExactRedoBenchCard

/-- THE TIED CARD OF 'laws.FnExactDropItem'. -/
def fnExactDropItemCard : Claim7 := { stood := { row := fnExactDropItemRow, standIns := [], harness := (true, "61dba4e27860d5a07cc5fbf1a7fa521819c883e32315bf8bb94d81f210ffe8a4"), looks := false }, kinds := [], alts := [], laidByText := true, laidKinds := [.data, .data, .data], laidTests := true, laidLooks := .later }
def FnExactDropItemCardSaid : Prop := Claim7.holds Tryz.pinned (.plain (OpenSpec.ofChange fnExactDropItemSpec)) fnExactDropItemCard

/-- THE TIED CARD OF 'laws.FnExactChangeLine'. -/
def fnExactChangeLineCard : Claim7 := { stood := { row := fnExactChangeLineRow, standIns := [], harness := (true, "61dba4e27860d5a07cc5fbf1a7fa521819c883e32315bf8bb94d81f210ffe8a4"), looks := false }, kinds := [], alts := [], laidByText := true, laidKinds := [.data, .data, .data, .data, .data, .data, .pinned], laidTests := true, laidLooks := .later }
def FnExactChangeLineCardSaid : Prop := Claim7.holds Tryz.pinned (.plain (OpenSpec.ofChange fnExactChangeLineSpec)) fnExactChangeLineCard

/-- THE TIED CARD OF 'laws.FnExactBenchText'. -/
def fnExactBenchTextCard : Claim7 := { stood := { row := fnExactBenchTextRow, standIns := [], harness := (true, "61dba4e27860d5a07cc5fbf1a7fa521819c883e32315bf8bb94d81f210ffe8a4"), looks := false }, kinds := [], alts := [], laidByText := true, laidKinds := [.data, .data, .data, .data, .data, .data, .pinned], laidTests := true, laidLooks := .later }
def FnExactBenchTextCardSaid : Prop := Claim7.holds Tryz.pinned (.plain (OpenSpec.ofChange fnExactBenchTextSpec)) fnExactBenchTextCard

/-- THE TIED CARD OF 'laws.FnExactPutItem'. -/
def fnExactPutItemCard : Claim7 := { stood := { row := fnExactPutItemRow, standIns := [], harness := (true, "61dba4e27860d5a07cc5fbf1a7fa521819c883e32315bf8bb94d81f210ffe8a4"), looks := false }, kinds := [], alts := [], laidByText := true, laidKinds := [.data, .data, .data], laidTests := true, laidLooks := .later }
def FnExactPutItemCardSaid : Prop := Claim7.holds Tryz.pinned (.plain (OpenSpec.ofChange fnExactPutItemSpec)) fnExactPutItemCard

/-- THE TIED CARD OF 'laws.FnExactApplyChange'. -/
def fnExactApplyChangeCard : Claim7 := { stood := { row := fnExactApplyChangeRow, standIns := [], harness := (true, "61dba4e27860d5a07cc5fbf1a7fa521819c883e32315bf8bb94d81f210ffe8a4"), looks := false }, kinds := [], alts := [], laidByText := true, laidKinds := [.data, .data, .data], laidTests := true, laidLooks := .later }
def FnExactApplyChangeCardSaid : Prop := Claim7.holds Tryz.pinned (.plain (OpenSpec.ofChange fnExactApplyChangeSpec)) fnExactApplyChangeCard

/-- THE TIED CARD OF 'laws.FnBenchUndo'. -/
def fnBenchUndoCard : Claim7 := { stood := { row := fnBenchUndoRow, standIns := [], harness := (true, "61dba4e27860d5a07cc5fbf1a7fa521819c883e32315bf8bb94d81f210ffe8a4"), looks := false }, kinds := [], alts := [], laidByText := true, laidKinds := [.data, .data, .data, .data, .data, .data, .pinned], laidTests := true, laidLooks := .later }
def FnBenchUndoCardSaid : Prop := Claim7.holds Tryz.pinned (.plain (OpenSpec.ofChange fnBenchUndoSpec)) fnBenchUndoCard

/-- THE SECOND FORM's CARD OF 'laws.FnExactValidItem'. -/
def fnExactValidItemUptoCard : Claim7 := { stood := { row := fnExactValidItemUptoRow, standIns := [], harness := (true, "61dba4e27860d5a07cc5fbf1a7fa521819c883e32315bf8bb94d81f210ffe8a4"), looks := false }, kinds := [], alts := [], laidByText := true, laidKinds := [.data, .data, .data], laidTests := true, laidLooks := .later }
def FnExactValidItemUptoCardSaid : Prop := Claim7.holds Tryz.pinned (.plain (OpenSpec.upto fnExactValidItemSpec)) fnExactValidItemUptoCard

/-- THE SECOND FORM's CARD OF 'laws.FnExactValidBench'. -/
def fnExactValidBenchUptoCard : Claim7 := { stood := { row := fnExactValidBenchUptoRow, standIns := [], harness := (true, "61dba4e27860d5a07cc5fbf1a7fa521819c883e32315bf8bb94d81f210ffe8a4"), looks := false }, kinds := [], alts := [], laidByText := true, laidKinds := [.data, .data, .data], laidTests := true, laidLooks := .later }
def FnExactValidBenchUptoCardSaid : Prop := Claim7.holds Tryz.pinned (.plain (OpenSpec.upto fnExactValidBenchSpec)) fnExactValidBenchUptoCard

/-- THE SECOND FORM's CARD OF 'laws.FnExactFindItem'. -/
def fnExactFindItemUptoCard : Claim7 := { stood := { row := fnExactFindItemUptoRow, standIns := [], harness := (true, "61dba4e27860d5a07cc5fbf1a7fa521819c883e32315bf8bb94d81f210ffe8a4"), looks := false }, kinds := [], alts := [], laidByText := true, laidKinds := [.data, .data, .data], laidTests := true, laidLooks := .later }
def FnExactFindItemUptoCardSaid : Prop := Claim7.holds Tryz.pinned (.plain (OpenSpec.upto fnExactFindItemSpec)) fnExactFindItemUptoCard

/-- THE SECOND FORM's CARD OF 'laws.FnExactItemText'. -/
def fnExactItemTextUptoCard : Claim7 := { stood := { row := fnExactItemTextUptoRow, standIns := [], harness := (true, "61dba4e27860d5a07cc5fbf1a7fa521819c883e32315bf8bb94d81f210ffe8a4"), looks := false }, kinds := [], alts := [], laidByText := true, laidKinds := [.data, .data, .data, .data, .data, .data, .pinned], laidTests := true, laidLooks := .later }
def FnExactItemTextUptoCardSaid : Prop := Claim7.holds Tryz.pinned (.plain (OpenSpec.upto fnExactItemTextSpec)) fnExactItemTextUptoCard

/-- THE SECOND FORM's CARD OF 'laws.FnExactUndoBench'. -/
def fnExactUndoBenchUptoCard : Claim7 := { stood := { row := fnExactUndoBenchUptoRow, standIns := [], harness := (true, "61dba4e27860d5a07cc5fbf1a7fa521819c883e32315bf8bb94d81f210ffe8a4"), looks := false }, kinds := [], alts := [], laidByText := true, laidKinds := [.data, .data, .data], laidTests := true, laidLooks := .later }
def FnExactUndoBenchUptoCardSaid : Prop := Claim7.holds Tryz.pinned (.plain (OpenSpec.upto fnExactUndoBenchSpec)) fnExactUndoBenchUptoCard

/-- THE SECOND FORM's CARD OF 'laws.FnExactRedoBench'. -/
def fnExactRedoBenchUptoCard : Claim7 := { stood := { row := fnExactRedoBenchUptoRow, standIns := [], harness := (true, "61dba4e27860d5a07cc5fbf1a7fa521819c883e32315bf8bb94d81f210ffe8a4"), looks := false }, kinds := [], alts := [], laidByText := true, laidKinds := [.data, .data, .data], laidTests := true, laidLooks := .later }
def FnExactRedoBenchUptoCardSaid : Prop := Claim7.holds Tryz.pinned (.plain (OpenSpec.upto fnExactRedoBenchSpec)) fnExactRedoBenchUptoCard

/-- THE SECOND FORM's CARD OF 'laws.FnExactDropItem'. -/
def fnExactDropItemUptoCard : Claim7 := { stood := { row := fnExactDropItemUptoRow, standIns := [], harness := (true, "61dba4e27860d5a07cc5fbf1a7fa521819c883e32315bf8bb94d81f210ffe8a4"), looks := false }, kinds := [], alts := [], laidByText := true, laidKinds := [.data, .data, .data], laidTests := true, laidLooks := .later }
def FnExactDropItemUptoCardSaid : Prop := Claim7.holds Tryz.pinned (.plain (OpenSpec.upto fnExactDropItemSpec)) fnExactDropItemUptoCard

/-- THE SECOND FORM's CARD OF 'laws.FnExactChangeLine'. -/
def fnExactChangeLineUptoCard : Claim7 := { stood := { row := fnExactChangeLineUptoRow, standIns := [], harness := (true, "61dba4e27860d5a07cc5fbf1a7fa521819c883e32315bf8bb94d81f210ffe8a4"), looks := false }, kinds := [], alts := [], laidByText := true, laidKinds := [.data, .data, .data, .data, .data, .data, .pinned], laidTests := true, laidLooks := .later }
def FnExactChangeLineUptoCardSaid : Prop := Claim7.holds Tryz.pinned (.plain (OpenSpec.upto fnExactChangeLineSpec)) fnExactChangeLineUptoCard

/-- THE SECOND FORM's CARD OF 'laws.FnExactBenchText'. -/
def fnExactBenchTextUptoCard : Claim7 := { stood := { row := fnExactBenchTextUptoRow, standIns := [], harness := (true, "61dba4e27860d5a07cc5fbf1a7fa521819c883e32315bf8bb94d81f210ffe8a4"), looks := false }, kinds := [], alts := [], laidByText := true, laidKinds := [.data, .data, .data, .data, .data, .data, .pinned], laidTests := true, laidLooks := .later }
def FnExactBenchTextUptoCardSaid : Prop := Claim7.holds Tryz.pinned (.plain (OpenSpec.upto fnExactBenchTextSpec)) fnExactBenchTextUptoCard

/-- THE SECOND FORM's CARD OF 'laws.FnExactPutItem'. -/
def fnExactPutItemUptoCard : Claim7 := { stood := { row := fnExactPutItemUptoRow, standIns := [], harness := (true, "61dba4e27860d5a07cc5fbf1a7fa521819c883e32315bf8bb94d81f210ffe8a4"), looks := false }, kinds := [], alts := [], laidByText := true, laidKinds := [.data, .data, .data], laidTests := true, laidLooks := .later }
def FnExactPutItemUptoCardSaid : Prop := Claim7.holds Tryz.pinned (.plain (OpenSpec.upto fnExactPutItemSpec)) fnExactPutItemUptoCard

/-- THE SECOND FORM's CARD OF 'laws.FnExactApplyChange'. -/
def fnExactApplyChangeUptoCard : Claim7 := { stood := { row := fnExactApplyChangeUptoRow, standIns := [], harness := (true, "61dba4e27860d5a07cc5fbf1a7fa521819c883e32315bf8bb94d81f210ffe8a4"), looks := false }, kinds := [], alts := [], laidByText := true, laidKinds := [.data, .data, .data], laidTests := true, laidLooks := .later }
def FnExactApplyChangeUptoCardSaid : Prop := Claim7.holds Tryz.pinned (.plain (OpenSpec.upto fnExactApplyChangeSpec)) fnExactApplyChangeUptoCard

/-- THE SECOND FORM's CARD OF 'laws.FnBenchUndo'. -/
def fnBenchUndoUptoCard : Claim7 := { stood := { row := fnBenchUndoUptoRow, standIns := [], harness := (true, "61dba4e27860d5a07cc5fbf1a7fa521819c883e32315bf8bb94d81f210ffe8a4"), looks := false }, kinds := [], alts := [], laidByText := true, laidKinds := [.data, .data, .data, .data, .data, .data, .pinned], laidTests := true, laidLooks := .later }
def FnBenchUndoUptoCardSaid : Prop := Claim7.holds Tryz.pinned (.plain (OpenSpec.upto fnBenchUndoSpec)) fnBenchUndoUptoCard
end Rows
end Go.Proofs.YtgkcddpgmmmblaaGreatDoor
