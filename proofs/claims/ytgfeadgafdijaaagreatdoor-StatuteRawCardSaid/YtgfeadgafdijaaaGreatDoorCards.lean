/-
  DERIVED. GIVEN WITH THE SEED: THE CARDS: each row of YtgfeadgafdijaaaGreatDoorRows.lean that lists a variable, with what it lists TIED to the program's text (the seventh form; the later family's looks); each row that meets fmt, with fmt's text TOLD by the authors' own Lean function (tested against real Go, not proved from fmt's source: count such statements apart). THE CARD IS WHAT COUNTS. Prove the row's statement (the work); the ties are given (YtgfeadgafdijaaaGreatDoorTie.lean); close each card by the builder's one call (the guide's Derived/Test/ToyasCard.lean, 'card_holds'). Laid BY PROGRAM, IN A SANDBOX (cutbox-door.mjs). By AI agents, Wed Nov 11 2026. No macro, syntax, notation, axiom, sorry.
-/
import Derived.Test.YtgfeadgafdijaaaGreatDoorRows
import GoSem.ClaimSeven
namespace Go.Proofs.YtgfeadgafdijaaaGreatDoor
namespace Rows

/-- THE TIED CARD OF 'tithinglaw11.StatuteRaw'. -/
def statuteRawCard : Claim7 := { stood := { row := statuteRawRow, standIns := [], harness := (true, "2f17ee3968a93cbd5bff8e646bfcd0c0c4f501440c4dab41daf42972d2c351d3"), looks := true }, kinds := [], alts := [], laidByText := true, laidKinds := [.data, .data, .data, .data, .sentinel, .sentinel, .widerDeep, .data, .data, .data, .data, .data, .pinned], laidTests := true, laidLooks := .later }
def StatuteRawCardSaid : Prop := Claim7.holds Tryz.pinned (.plain (OpenSpec.ofChange statuteRawSpec)) statuteRawCard

/-- THE SECOND FORM's CARD OF 'tithinglaw11.StatuteRaw'. -/
def statuteRawUptoCard : Claim7 := { stood := { row := statuteRawUptoRow, standIns := [], harness := (true, "2f17ee3968a93cbd5bff8e646bfcd0c0c4f501440c4dab41daf42972d2c351d3"), looks := true }, kinds := [], alts := [], laidByText := true, laidKinds := [.data, .data, .data, .data, .sentinel, .sentinel, .widerDeep, .data, .data, .data, .data, .data, .pinned], laidTests := true, laidLooks := .later }
def StatuteRawUptoCardSaid : Prop := Claim7.holds Tryz.pinned (.plain (OpenSpec.upto statuteRawSpec)) statuteRawUptoCard
end Rows
end Go.Proofs.YtgfeadgafdijaaaGreatDoor
