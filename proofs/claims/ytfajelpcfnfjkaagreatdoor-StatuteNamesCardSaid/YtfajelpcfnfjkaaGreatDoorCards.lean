/-
  DERIVED. GIVEN WITH THE SEED: THE CARDS: each row of YtfajelpcfnfjkaaGreatDoorRows.lean that lists a variable, with what it lists TIED to the program's text (the seventh form; the later family's looks); each row that meets fmt, with fmt's text TOLD by the authors' own Lean function (tested against real Go, not proved from fmt's source: count such statements apart). THE CARD IS WHAT COUNTS. Prove the row's statement (the work); the ties are given (YtfajelpcfnfjkaaGreatDoorTie.lean); close each card by the builder's one call (the guide's Derived/Test/ToyasCard.lean, 'card_holds'). Laid BY PROGRAM, IN A SANDBOX (cutbox-door.mjs). By AI agents, Wed Nov 11 2026. No macro, syntax, notation, axiom, sorry.
-/
import Derived.Test.YtfajelpcfnfjkaaGreatDoorRows
import GoSem.ClaimSeven
namespace Go.Proofs.YtfajelpcfnfjkaaGreatDoor
namespace Rows

/-- THE TIED CARD OF 'tithinglaw11.StatuteNames'. -/
def statuteNamesCard : Claim7 := { stood := { row := statuteNamesRow, standIns := [], harness := (true, "16fabbf716110ae7ffb0256529c508e79a851f91ed8013a28eaf8f9b7217c541"), looks := true }, kinds := [], alts := [], laidByText := true, laidKinds := [.data, .data, .data, .data, .sentinel, .sentinel, .widerDeep, .data, .data, .data, .data, .data, .pinned], laidTests := true, laidLooks := .later }
def StatuteNamesCardSaid : Prop := Claim7.holds Tryz.pinned (.plain (OpenSpec.ofChange statuteNamesSpec)) statuteNamesCard

/-- THE SECOND FORM's CARD OF 'tithinglaw11.StatuteNames'. -/
def statuteNamesUptoCard : Claim7 := { stood := { row := statuteNamesUptoRow, standIns := [], harness := (true, "16fabbf716110ae7ffb0256529c508e79a851f91ed8013a28eaf8f9b7217c541"), looks := true }, kinds := [], alts := [], laidByText := true, laidKinds := [.data, .data, .data, .data, .sentinel, .sentinel, .widerDeep, .data, .data, .data, .data, .data, .pinned], laidTests := true, laidLooks := .later }
def StatuteNamesUptoCardSaid : Prop := Claim7.holds Tryz.pinned (.plain (OpenSpec.upto statuteNamesSpec)) statuteNamesUptoCard
end Rows
end Go.Proofs.YtfajelpcfnfjkaaGreatDoor
