/-
  DERIVED. GIVEN WITH THE SEED: THE CARDS: each row of YtaadjlpfdajggaaGreatDoorRows.lean that lists a variable, with what it lists TIED to the program's text (the seventh form; the later family's looks); each row that meets fmt, with fmt's text TOLD by the authors' own Lean function (tested against real Go, not proved from fmt's source: count such statements apart). THE CARD IS WHAT COUNTS. Prove the row's statement (the work); the ties are given (YtaadjlpfdajggaaGreatDoorTie.lean); close each card by the builder's one call (the guide's Derived/Test/ToyasCard.lean, 'card_holds'). Laid BY PROGRAM, IN A SANDBOX (cutbox-door.mjs). By AI agents, Wed Nov 11 2026. No macro, syntax, notation, axiom, sorry.
-/
import Derived.Test.YtaadjlpfdajggaaGreatDoorRows
import GoSem.ClaimSeven
namespace Go.Proofs.YtaadjlpfdajggaaGreatDoor
namespace Rows

/-- THE TIED CARD OF 'clewlaw08.ShowSets'. -/
def showSetsCard : Claim7 := { stood := { row := showSetsRow, standIns := [], harness := (true, "db52fddb1ebf2abc718ab557cf4f4ec4100c244f255c4d4d215458592656043c"), looks := true }, kinds := [], alts := [], laidByText := true, laidKinds := [.data, .data, .data], laidTests := true, laidLooks := .later }
def ShowSetsCardSaid : Prop := Claim7.holds Tryz.pinned (.plain (OpenSpec.ofChange showSetsSpec)) showSetsCard

/-- THE TIED CARD OF 'clewlaw14.BoundTells'. -/
def boundTellsCard : Claim7 := { stood := { row := boundTellsRow, standIns := [], harness := (true, "db52fddb1ebf2abc718ab557cf4f4ec4100c244f255c4d4d215458592656043c"), looks := true }, kinds := [], alts := [], laidByText := true, laidKinds := [.data], laidTests := true, laidLooks := .later }
def BoundTellsCardSaid : Prop := Claim7.holds Tryz.pinned (.plain (OpenSpec.ofChange boundTellsSpec)) boundTellsCard

/-- THE TIED CARD OF 'clewlaw09.FactsTell'. -/
def factsTellCard : Claim7 := { stood := { row := factsTellRow, standIns := [], harness := (true, "db52fddb1ebf2abc718ab557cf4f4ec4100c244f255c4d4d215458592656043c"), looks := true }, kinds := [], alts := [], laidByText := true, laidKinds := [.data], laidTests := true, laidLooks := .later }
def FactsTellCardSaid : Prop := Claim7.holds Tryz.pinned (.plain (OpenSpec.ofChange factsTellSpec)) factsTellCard

/-- THE TIED CARD OF 'clewlaw09.FactsOut'. -/
def factsOutCard : Claim7 := { stood := { row := factsOutRow, standIns := [], harness := (true, "db52fddb1ebf2abc718ab557cf4f4ec4100c244f255c4d4d215458592656043c"), looks := true }, kinds := [], alts := [], laidByText := true, laidKinds := [.data], laidTests := true, laidLooks := .later }
def FactsOutCardSaid : Prop := Claim7.holds Tryz.pinned (.plain (OpenSpec.ofChange factsOutSpec)) factsOutCard

/-- THE TIED CARD OF 'clewlaw09.FactsRest'. -/
def factsRestCard : Claim7 := { stood := { row := factsRestRow, standIns := [], harness := (true, "db52fddb1ebf2abc718ab557cf4f4ec4100c244f255c4d4d215458592656043c"), looks := true }, kinds := [], alts := [], laidByText := true, laidKinds := [.data], laidTests := true, laidLooks := .later }
def FactsRestCardSaid : Prop := Claim7.holds Tryz.pinned (.plain (OpenSpec.ofChange factsRestSpec)) factsRestCard

/-- THE TIED CARD OF 'clewlaw09.FactsTurns'. -/
def factsTurnsCard : Claim7 := { stood := { row := factsTurnsRow, standIns := [], harness := (true, "db52fddb1ebf2abc718ab557cf4f4ec4100c244f255c4d4d215458592656043c"), looks := true }, kinds := [], alts := [], laidByText := true, laidKinds := [.data], laidTests := true, laidLooks := .later }
def FactsTurnsCardSaid : Prop := Claim7.holds Tryz.pinned (.plain (OpenSpec.ofChange factsTurnsSpec)) factsTurnsCard

/-- THE TIED CARD OF 'clewlaw09.FactsLong'. -/
def factsLongCard : Claim7 := { stood := { row := factsLongRow, standIns := [], harness := (true, "db52fddb1ebf2abc718ab557cf4f4ec4100c244f255c4d4d215458592656043c"), looks := true }, kinds := [], alts := [], laidByText := true, laidKinds := [.data], laidTests := true, laidLooks := .later }
def FactsLongCardSaid : Prop := Claim7.holds Tryz.pinned (.plain (OpenSpec.ofChange factsLongSpec)) factsLongCard

/-- THE TIED CARD OF 'clewlaw14.BoundGrows'. -/
def boundGrowsCard : Claim7 := { stood := { row := boundGrowsRow, standIns := [], harness := (true, "db52fddb1ebf2abc718ab557cf4f4ec4100c244f255c4d4d215458592656043c"), looks := true }, kinds := [], alts := [], laidByText := true, laidKinds := [.data], laidTests := true, laidLooks := .later }
def BoundGrowsCardSaid : Prop := Claim7.holds Tryz.pinned (.plain (OpenSpec.ofChange boundGrowsSpec)) boundGrowsCard

/-- THE TIED CARD OF 'clewlaw14.BoundAdds'. -/
def boundAddsCard : Claim7 := { stood := { row := boundAddsRow, standIns := [], harness := (true, "db52fddb1ebf2abc718ab557cf4f4ec4100c244f255c4d4d215458592656043c"), looks := true }, kinds := [], alts := [], laidByText := true, laidKinds := [.data], laidTests := true, laidLooks := .later }
def BoundAddsCardSaid : Prop := Claim7.holds Tryz.pinned (.plain (OpenSpec.ofChange boundAddsSpec)) boundAddsCard

/-- THE TIED CARD OF 'clewlaw09.FactsCats'. -/
def factsCatsCard : Claim7 := { stood := { row := factsCatsRow, standIns := [], harness := (true, "db52fddb1ebf2abc718ab557cf4f4ec4100c244f255c4d4d215458592656043c"), looks := true }, kinds := [], alts := [], laidByText := true, laidKinds := [.data], laidTests := true, laidLooks := .later }
def FactsCatsCardSaid : Prop := Claim7.holds Tryz.pinned (.plain (OpenSpec.ofChange factsCatsSpec)) factsCatsCard

/-- THE TIED CARD OF 'clewlaw08.ShowBack'. -/
def showBackCard : Claim7 := { stood := { row := showBackRow, standIns := [], harness := (true, "db52fddb1ebf2abc718ab557cf4f4ec4100c244f255c4d4d215458592656043c"), looks := true }, kinds := [], alts := [], laidByText := true, laidKinds := [.data, .data, .data], laidTests := true, laidLooks := .later }
def ShowBackCardSaid : Prop := Claim7.holds Tryz.pinned (.plain (OpenSpec.ofChange showBackSpec)) showBackCard

/-- THE TIED CARD OF 'clewlaw08.ShowPatterns'. -/
def showPatternsCard : Claim7 := { stood := { row := showPatternsRow, standIns := [], harness := (true, "db52fddb1ebf2abc718ab557cf4f4ec4100c244f255c4d4d215458592656043c"), looks := true }, kinds := [], alts := [], laidByText := true, laidKinds := [.data, .data, .data], laidTests := true, laidLooks := .later }
def ShowPatternsCardSaid : Prop := Claim7.holds Tryz.pinned (.plain (OpenSpec.ofChange showPatternsSpec)) showPatternsCard

/-- THE SECOND FORM's CARD OF 'clewlaw08.ShowSets'. -/
def showSetsUptoCard : Claim7 := { stood := { row := showSetsUptoRow, standIns := [], harness := (true, "db52fddb1ebf2abc718ab557cf4f4ec4100c244f255c4d4d215458592656043c"), looks := true }, kinds := [], alts := [], laidByText := true, laidKinds := [.data, .data, .data], laidTests := true, laidLooks := .later }
def ShowSetsUptoCardSaid : Prop := Claim7.holds Tryz.pinned (.plain (OpenSpec.upto showSetsSpec)) showSetsUptoCard

/-- THE SECOND FORM's CARD OF 'clewlaw14.BoundTells'. -/
def boundTellsUptoCard : Claim7 := { stood := { row := boundTellsUptoRow, standIns := [], harness := (true, "db52fddb1ebf2abc718ab557cf4f4ec4100c244f255c4d4d215458592656043c"), looks := true }, kinds := [], alts := [], laidByText := true, laidKinds := [.data], laidTests := true, laidLooks := .later }
def BoundTellsUptoCardSaid : Prop := Claim7.holds Tryz.pinned (.plain (OpenSpec.upto boundTellsSpec)) boundTellsUptoCard

/-- THE SECOND FORM's CARD OF 'clewlaw09.FactsTell'. -/
def factsTellUptoCard : Claim7 := { stood := { row := factsTellUptoRow, standIns := [], harness := (true, "db52fddb1ebf2abc718ab557cf4f4ec4100c244f255c4d4d215458592656043c"), looks := true }, kinds := [], alts := [], laidByText := true, laidKinds := [.data], laidTests := true, laidLooks := .later }
def FactsTellUptoCardSaid : Prop := Claim7.holds Tryz.pinned (.plain (OpenSpec.upto factsTellSpec)) factsTellUptoCard

/-- THE SECOND FORM's CARD OF 'clewlaw09.FactsOut'. -/
def factsOutUptoCard : Claim7 := { stood := { row := factsOutUptoRow, standIns := [], harness := (true, "db52fddb1ebf2abc718ab557cf4f4ec4100c244f255c4d4d215458592656043c"), looks := true }, kinds := [], alts := [], laidByText := true, laidKinds := [.data], laidTests := true, laidLooks := .later }
def FactsOutUptoCardSaid : Prop := Claim7.holds Tryz.pinned (.plain (OpenSpec.upto factsOutSpec)) factsOutUptoCard

/-- THE SECOND FORM's CARD OF 'clewlaw09.FactsRest'. -/
def factsRestUptoCard : Claim7 := { stood := { row := factsRestUptoRow, standIns := [], harness := (true, "db52fddb1ebf2abc718ab557cf4f4ec4100c244f255c4d4d215458592656043c"), looks := true }, kinds := [], alts := [], laidByText := true, laidKinds := [.data], laidTests := true, laidLooks := .later }
def FactsRestUptoCardSaid : Prop := Claim7.holds Tryz.pinned (.plain (OpenSpec.upto factsRestSpec)) factsRestUptoCard

/-- THE SECOND FORM's CARD OF 'clewlaw09.FactsTurns'. -/
def factsTurnsUptoCard : Claim7 := { stood := { row := factsTurnsUptoRow, standIns := [], harness := (true, "db52fddb1ebf2abc718ab557cf4f4ec4100c244f255c4d4d215458592656043c"), looks := true }, kinds := [], alts := [], laidByText := true, laidKinds := [.data], laidTests := true, laidLooks := .later }
def FactsTurnsUptoCardSaid : Prop := Claim7.holds Tryz.pinned (.plain (OpenSpec.upto factsTurnsSpec)) factsTurnsUptoCard

/-- THE SECOND FORM's CARD OF 'clewlaw09.FactsLong'. -/
def factsLongUptoCard : Claim7 := { stood := { row := factsLongUptoRow, standIns := [], harness := (true, "db52fddb1ebf2abc718ab557cf4f4ec4100c244f255c4d4d215458592656043c"), looks := true }, kinds := [], alts := [], laidByText := true, laidKinds := [.data], laidTests := true, laidLooks := .later }
def FactsLongUptoCardSaid : Prop := Claim7.holds Tryz.pinned (.plain (OpenSpec.upto factsLongSpec)) factsLongUptoCard

/-- THE SECOND FORM's CARD OF 'clewlaw14.BoundGrows'. -/
def boundGrowsUptoCard : Claim7 := { stood := { row := boundGrowsUptoRow, standIns := [], harness := (true, "db52fddb1ebf2abc718ab557cf4f4ec4100c244f255c4d4d215458592656043c"), looks := true }, kinds := [], alts := [], laidByText := true, laidKinds := [.data], laidTests := true, laidLooks := .later }
def BoundGrowsUptoCardSaid : Prop := Claim7.holds Tryz.pinned (.plain (OpenSpec.upto boundGrowsSpec)) boundGrowsUptoCard

/-- THE SECOND FORM's CARD OF 'clewlaw14.BoundAdds'. -/
def boundAddsUptoCard : Claim7 := { stood := { row := boundAddsUptoRow, standIns := [], harness := (true, "db52fddb1ebf2abc718ab557cf4f4ec4100c244f255c4d4d215458592656043c"), looks := true }, kinds := [], alts := [], laidByText := true, laidKinds := [.data], laidTests := true, laidLooks := .later }
def BoundAddsUptoCardSaid : Prop := Claim7.holds Tryz.pinned (.plain (OpenSpec.upto boundAddsSpec)) boundAddsUptoCard

/-- THE SECOND FORM's CARD OF 'clewlaw09.FactsCats'. -/
def factsCatsUptoCard : Claim7 := { stood := { row := factsCatsUptoRow, standIns := [], harness := (true, "db52fddb1ebf2abc718ab557cf4f4ec4100c244f255c4d4d215458592656043c"), looks := true }, kinds := [], alts := [], laidByText := true, laidKinds := [.data], laidTests := true, laidLooks := .later }
def FactsCatsUptoCardSaid : Prop := Claim7.holds Tryz.pinned (.plain (OpenSpec.upto factsCatsSpec)) factsCatsUptoCard

/-- THE SECOND FORM's CARD OF 'clewlaw08.ShowBack'. -/
def showBackUptoCard : Claim7 := { stood := { row := showBackUptoRow, standIns := [], harness := (true, "db52fddb1ebf2abc718ab557cf4f4ec4100c244f255c4d4d215458592656043c"), looks := true }, kinds := [], alts := [], laidByText := true, laidKinds := [.data, .data, .data], laidTests := true, laidLooks := .later }
def ShowBackUptoCardSaid : Prop := Claim7.holds Tryz.pinned (.plain (OpenSpec.upto showBackSpec)) showBackUptoCard

/-- THE SECOND FORM's CARD OF 'clewlaw08.ShowPatterns'. -/
def showPatternsUptoCard : Claim7 := { stood := { row := showPatternsUptoRow, standIns := [], harness := (true, "db52fddb1ebf2abc718ab557cf4f4ec4100c244f255c4d4d215458592656043c"), looks := true }, kinds := [], alts := [], laidByText := true, laidKinds := [.data, .data, .data], laidTests := true, laidLooks := .later }
def ShowPatternsUptoCardSaid : Prop := Claim7.holds Tryz.pinned (.plain (OpenSpec.upto showPatternsSpec)) showPatternsUptoCard
end Rows
end Go.Proofs.YtaadjlpfdajggaaGreatDoor
