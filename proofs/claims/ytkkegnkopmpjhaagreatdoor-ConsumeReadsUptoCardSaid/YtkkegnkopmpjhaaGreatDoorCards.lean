/-
  DERIVED. GIVEN WITH THE SEED: THE CARDS: each row of YtkkegnkopmpjhaaGreatDoorRows.lean that lists a variable, with what it lists TIED to the program's text (the seventh form; the later family's looks); each row that meets fmt, with fmt's text TOLD by the authors' own Lean function (tested against real Go, not proved from fmt's source: count such statements apart). THE CARD IS WHAT COUNTS. Prove the row's statement (the work); the ties are given (YtkkegnkopmpjhaaGreatDoorTie.lean); close each card by the builder's one call (the guide's Derived/Test/ToyasCard.lean, 'card_holds'). Laid BY PROGRAM, IN A SANDBOX (cutbox-door.mjs). By AI agents, Wed Nov 11 2026. No macro, syntax, notation, axiom, sorry.
-/
import Derived.Test.YtkkegnkopmpjhaaGreatDoorRows
import GoSem.ClaimSeven
namespace Go.Proofs.YtkkegnkopmpjhaaGreatDoor
namespace Rows

/-- THE TIED CARD OF 'taplinelaw26.ConsumeFormats'. -/
def consumeFormatsCard : Claim7 := { stood := { row := consumeFormatsRow, standIns := [], harness := (true, "4fbfc133f41f0a607b959f57b19cdaf155c9a27a4c284124dcb92c7e24358506"), looks := true }, kinds := [], alts := [], laidByText := true, laidKinds := [.data, .data, .data, .data, .sentinel, .sentinel, .widerDeep, .widerDeep, .data, .pinned], laidTests := true, laidLooks := .later }
def ConsumeFormatsCardSaid : Prop := Claim7.holds Tryz.pinned (.plain (OpenSpec.ofChange consumeFormatsSpec)) consumeFormatsCard

/-- THE TIED CARD OF 'taplinelaw26.ConsumeReads'. -/
def consumeReadsCard : Claim7 := { stood := { row := consumeReadsRow, standIns := [], harness := (true, "4fbfc133f41f0a607b959f57b19cdaf155c9a27a4c284124dcb92c7e24358506"), looks := true }, kinds := [], alts := [], laidByText := true, laidKinds := [.data, .data, .data, .data, .sentinel, .sentinel, .widerDeep, .widerDeep, .data, .pinned], laidTests := true, laidLooks := .later }
def ConsumeReadsCardSaid : Prop := Claim7.holds Tryz.pinned (.plain (OpenSpec.ofChange consumeReadsSpec)) consumeReadsCard

/-- THE TIED CARD OF 'taplinelaw26.ConsumeJoins'. -/
def consumeJoinsCard : Claim7 := { stood := { row := consumeJoinsRow, standIns := [], harness := (true, "4fbfc133f41f0a607b959f57b19cdaf155c9a27a4c284124dcb92c7e24358506"), looks := true }, kinds := [], alts := [], laidByText := true, laidKinds := [.data, .data, .data, .data, .sentinel, .sentinel, .widerDeep, .widerDeep, .data, .pinned], laidTests := true, laidLooks := .later }
def ConsumeJoinsCardSaid : Prop := Claim7.holds Tryz.pinned (.plain (OpenSpec.ofChange consumeJoinsSpec)) consumeJoinsCard

/-- THE TIED CARD OF 'taplinelaw26.ConsumeSaved'. -/
def consumeSavedCard : Claim7 := { stood := { row := consumeSavedRow, standIns := [], harness := (true, "4fbfc133f41f0a607b959f57b19cdaf155c9a27a4c284124dcb92c7e24358506"), looks := true }, kinds := [], alts := [], laidByText := true, laidKinds := [.data, .data, .data, .data, .sentinel, .sentinel, .widerDeep, .widerDeep, .data, .pinned], laidTests := true, laidLooks := .later }
def ConsumeSavedCardSaid : Prop := Claim7.holds Tryz.pinned (.plain (OpenSpec.ofChange consumeSavedSpec)) consumeSavedCard

/-- THE TIED CARD OF 'taplinelaw26.ConsumeNumbers'. -/
def consumeNumbersCard : Claim7 := { stood := { row := consumeNumbersRow, standIns := [], harness := (true, "4fbfc133f41f0a607b959f57b19cdaf155c9a27a4c284124dcb92c7e24358506"), looks := true }, kinds := [], alts := [], laidByText := true, laidKinds := [.data, .data, .data, .data, .sentinel, .sentinel, .widerDeep, .widerDeep, .data, .pinned], laidTests := true, laidLooks := .later }
def ConsumeNumbersCardSaid : Prop := Claim7.holds Tryz.pinned (.plain (OpenSpec.ofChange consumeNumbersSpec)) consumeNumbersCard

/-- THE TIED CARD OF 'taplinelaw26.ConsumeCounts'. -/
def consumeCountsCard : Claim7 := { stood := { row := consumeCountsRow, standIns := [], harness := (true, "4fbfc133f41f0a607b959f57b19cdaf155c9a27a4c284124dcb92c7e24358506"), looks := true }, kinds := [], alts := [], laidByText := true, laidKinds := [.data, .data, .data, .data, .sentinel, .sentinel, .widerDeep, .widerDeep, .data, .pinned], laidTests := true, laidLooks := .later }
def ConsumeCountsCardSaid : Prop := Claim7.holds Tryz.pinned (.plain (OpenSpec.ofChange consumeCountsSpec)) consumeCountsCard

/-- THE TIED CARD OF 'taplinelaw26.ConsumeSelected'. -/
def consumeSelectedCard : Claim7 := { stood := { row := consumeSelectedRow, standIns := [], harness := (true, "4fbfc133f41f0a607b959f57b19cdaf155c9a27a4c284124dcb92c7e24358506"), looks := true }, kinds := [], alts := [], laidByText := true, laidKinds := [.data, .data, .data, .data, .sentinel, .sentinel, .widerDeep, .widerDeep, .data, .pinned], laidTests := true, laidLooks := .later }
def ConsumeSelectedCardSaid : Prop := Claim7.holds Tryz.pinned (.plain (OpenSpec.ofChange consumeSelectedSpec)) consumeSelectedCard

/-- THE SECOND FORM's CARD OF 'taplinelaw26.ConsumeFormats'. -/
def consumeFormatsUptoCard : Claim7 := { stood := { row := consumeFormatsUptoRow, standIns := [], harness := (true, "4fbfc133f41f0a607b959f57b19cdaf155c9a27a4c284124dcb92c7e24358506"), looks := true }, kinds := [], alts := [], laidByText := true, laidKinds := [.data, .data, .data, .data, .sentinel, .sentinel, .widerDeep, .widerDeep, .data, .pinned], laidTests := true, laidLooks := .later }
def ConsumeFormatsUptoCardSaid : Prop := Claim7.holds Tryz.pinned (.plain (OpenSpec.upto consumeFormatsSpec)) consumeFormatsUptoCard

/-- THE SECOND FORM's CARD OF 'taplinelaw26.ConsumeReads'. -/
def consumeReadsUptoCard : Claim7 := { stood := { row := consumeReadsUptoRow, standIns := [], harness := (true, "4fbfc133f41f0a607b959f57b19cdaf155c9a27a4c284124dcb92c7e24358506"), looks := true }, kinds := [], alts := [], laidByText := true, laidKinds := [.data, .data, .data, .data, .sentinel, .sentinel, .widerDeep, .widerDeep, .data, .pinned], laidTests := true, laidLooks := .later }
def ConsumeReadsUptoCardSaid : Prop := Claim7.holds Tryz.pinned (.plain (OpenSpec.upto consumeReadsSpec)) consumeReadsUptoCard

/-- THE SECOND FORM's CARD OF 'taplinelaw26.ConsumeJoins'. -/
def consumeJoinsUptoCard : Claim7 := { stood := { row := consumeJoinsUptoRow, standIns := [], harness := (true, "4fbfc133f41f0a607b959f57b19cdaf155c9a27a4c284124dcb92c7e24358506"), looks := true }, kinds := [], alts := [], laidByText := true, laidKinds := [.data, .data, .data, .data, .sentinel, .sentinel, .widerDeep, .widerDeep, .data, .pinned], laidTests := true, laidLooks := .later }
def ConsumeJoinsUptoCardSaid : Prop := Claim7.holds Tryz.pinned (.plain (OpenSpec.upto consumeJoinsSpec)) consumeJoinsUptoCard

/-- THE SECOND FORM's CARD OF 'taplinelaw26.ConsumeSaved'. -/
def consumeSavedUptoCard : Claim7 := { stood := { row := consumeSavedUptoRow, standIns := [], harness := (true, "4fbfc133f41f0a607b959f57b19cdaf155c9a27a4c284124dcb92c7e24358506"), looks := true }, kinds := [], alts := [], laidByText := true, laidKinds := [.data, .data, .data, .data, .sentinel, .sentinel, .widerDeep, .widerDeep, .data, .pinned], laidTests := true, laidLooks := .later }
def ConsumeSavedUptoCardSaid : Prop := Claim7.holds Tryz.pinned (.plain (OpenSpec.upto consumeSavedSpec)) consumeSavedUptoCard

/-- THE SECOND FORM's CARD OF 'taplinelaw26.ConsumeNumbers'. -/
def consumeNumbersUptoCard : Claim7 := { stood := { row := consumeNumbersUptoRow, standIns := [], harness := (true, "4fbfc133f41f0a607b959f57b19cdaf155c9a27a4c284124dcb92c7e24358506"), looks := true }, kinds := [], alts := [], laidByText := true, laidKinds := [.data, .data, .data, .data, .sentinel, .sentinel, .widerDeep, .widerDeep, .data, .pinned], laidTests := true, laidLooks := .later }
def ConsumeNumbersUptoCardSaid : Prop := Claim7.holds Tryz.pinned (.plain (OpenSpec.upto consumeNumbersSpec)) consumeNumbersUptoCard

/-- THE SECOND FORM's CARD OF 'taplinelaw26.ConsumeCounts'. -/
def consumeCountsUptoCard : Claim7 := { stood := { row := consumeCountsUptoRow, standIns := [], harness := (true, "4fbfc133f41f0a607b959f57b19cdaf155c9a27a4c284124dcb92c7e24358506"), looks := true }, kinds := [], alts := [], laidByText := true, laidKinds := [.data, .data, .data, .data, .sentinel, .sentinel, .widerDeep, .widerDeep, .data, .pinned], laidTests := true, laidLooks := .later }
def ConsumeCountsUptoCardSaid : Prop := Claim7.holds Tryz.pinned (.plain (OpenSpec.upto consumeCountsSpec)) consumeCountsUptoCard

/-- THE SECOND FORM's CARD OF 'taplinelaw26.ConsumeSelected'. -/
def consumeSelectedUptoCard : Claim7 := { stood := { row := consumeSelectedUptoRow, standIns := [], harness := (true, "4fbfc133f41f0a607b959f57b19cdaf155c9a27a4c284124dcb92c7e24358506"), looks := true }, kinds := [], alts := [], laidByText := true, laidKinds := [.data, .data, .data, .data, .sentinel, .sentinel, .widerDeep, .widerDeep, .data, .pinned], laidTests := true, laidLooks := .later }
def ConsumeSelectedUptoCardSaid : Prop := Claim7.holds Tryz.pinned (.plain (OpenSpec.upto consumeSelectedSpec)) consumeSelectedUptoCard
end Rows
end Go.Proofs.YtkkegnkopmpjhaaGreatDoor
