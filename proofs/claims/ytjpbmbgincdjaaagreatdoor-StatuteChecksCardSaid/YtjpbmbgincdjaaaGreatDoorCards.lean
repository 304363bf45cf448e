/-
  DERIVED. GIVEN WITH THE SEED: THE CARDS: each row of YtjpbmbgincdjaaaGreatDoorRows.lean that lists a variable, with what it lists TIED to the program's text (the seventh form; the later family's looks); each row that meets fmt, with fmt's text TOLD by the authors' own Lean function (tested against real Go, not proved from fmt's source: count such statements apart). THE CARD IS WHAT COUNTS. Prove the row's statement (the work); the ties are given (YtjpbmbgincdjaaaGreatDoorTie.lean); close each card by the builder's one call (the guide's Derived/Test/ToyasCard.lean, 'card_holds'). Laid BY PROGRAM, IN A SANDBOX (cutbox-door.mjs). By AI agents, Wed Nov 11 2026. No macro, syntax, notation, axiom, sorry.
-/
import Derived.Test.YtjpbmbgincdjaaaGreatDoorRows
import GoSem.ClaimSeven
namespace Go.Proofs.YtjpbmbgincdjaaaGreatDoor
namespace Rows

/-- THE TIED CARD OF 'tithinglaw11.StatuteChecks'. -/
def statuteChecksCard : Claim7 := { stood := { row := statuteChecksRow, standIns := [], harness := (true, "fa4a77e8b8b5107c5bcda6d62fe96de52ee504ed5fefdaef968b3b20dea99dec"), looks := true }, kinds := [], alts := [], laidByText := true, laidKinds := [.data, .data, .data, .data, .sentinel, .sentinel, .widerDeep, .data, .data, .data, .data, .data, .pinned], laidTests := true, laidLooks := .later }
def StatuteChecksCardSaid : Prop := Claim7.holds Tryz.pinned (.plain (OpenSpec.ofChange statuteChecksSpec)) statuteChecksCard

/-- THE TIED CARD OF 'tithinglaw11.StatuteParses'. -/
def statuteParsesCard : Claim7 := { stood := { row := statuteParsesRow, standIns := [], harness := (true, "fa4a77e8b8b5107c5bcda6d62fe96de52ee504ed5fefdaef968b3b20dea99dec"), looks := true }, kinds := [], alts := [], laidByText := true, laidKinds := [.data, .data, .data, .data, .sentinel, .sentinel, .widerDeep, .data, .data, .data, .data, .data, .pinned], laidTests := true, laidLooks := .later }
def StatuteParsesCardSaid : Prop := Claim7.holds Tryz.pinned (.plain (OpenSpec.ofChange statuteParsesSpec)) statuteParsesCard

/-- THE SECOND FORM's CARD OF 'tithinglaw11.StatuteChecks'. -/
def statuteChecksUptoCard : Claim7 := { stood := { row := statuteChecksUptoRow, standIns := [], harness := (true, "fa4a77e8b8b5107c5bcda6d62fe96de52ee504ed5fefdaef968b3b20dea99dec"), looks := true }, kinds := [], alts := [], laidByText := true, laidKinds := [.data, .data, .data, .data, .sentinel, .sentinel, .widerDeep, .data, .data, .data, .data, .data, .pinned], laidTests := true, laidLooks := .later }
def StatuteChecksUptoCardSaid : Prop := Claim7.holds Tryz.pinned (.plain (OpenSpec.upto statuteChecksSpec)) statuteChecksUptoCard

/-- THE SECOND FORM's CARD OF 'tithinglaw11.StatuteParses'. -/
def statuteParsesUptoCard : Claim7 := { stood := { row := statuteParsesUptoRow, standIns := [], harness := (true, "fa4a77e8b8b5107c5bcda6d62fe96de52ee504ed5fefdaef968b3b20dea99dec"), looks := true }, kinds := [], alts := [], laidByText := true, laidKinds := [.data, .data, .data, .data, .sentinel, .sentinel, .widerDeep, .data, .data, .data, .data, .data, .pinned], laidTests := true, laidLooks := .later }
def StatuteParsesUptoCardSaid : Prop := Claim7.holds Tryz.pinned (.plain (OpenSpec.upto statuteParsesSpec)) statuteParsesUptoCard
end Rows
end Go.Proofs.YtjpbmbgincdjaaaGreatDoor
