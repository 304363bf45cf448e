/-
  DERIVED. GIVEN WITH THE SEED: THE CARDS: each row of YtmmbjngbeiokeaaGreatDoorRows.lean that lists a variable, with what it lists TIED to the program's text (the seventh form; the later family's looks); each row that meets fmt, with fmt's text TOLD by the authors' own Lean function (tested against real Go, not proved from fmt's source: count such statements apart). THE CARD IS WHAT COUNTS. Prove the row's statement (the work); the ties are given (YtmmbjngbeiokeaaGreatDoorTie.lean); close each card by the builder's one call (the guide's Derived/Test/ToyasCard.lean, 'card_holds'). Laid BY PROGRAM, IN A SANDBOX (cutbox-door.mjs). By AI agents, Wed Nov 11 2026. No macro, syntax, notation, axiom, sorry.
-/
import Derived.Test.YtmmbjngbeiokeaaGreatDoorRows
import GoSem.ClaimSeven
namespace Go.Proofs.YtmmbjngbeiokeaaGreatDoor
namespace Rows

/-- THE TIED CARD OF 'tithinglaw11.StatuteFinds'. -/
def statuteFindsCard : Claim7 := { stood := { row := statuteFindsRow, standIns := [], harness := (true, "fd23f52e50685a1c2b1fe68e9158c0c62c552c7b2f5a6284a33640844c334b51"), looks := true }, kinds := [], alts := [], laidByText := true, laidKinds := [.data, .data, .data, .data, .sentinel, .sentinel, .widerDeep, .data, .data, .data, .data, .data, .pinned], laidTests := true, laidLooks := .later }
def StatuteFindsCardSaid : Prop := Claim7.holds Tryz.pinned (.plain (OpenSpec.ofChange statuteFindsSpec)) statuteFindsCard

/-- THE SECOND FORM's CARD OF 'tithinglaw11.StatuteFinds'. -/
def statuteFindsUptoCard : Claim7 := { stood := { row := statuteFindsUptoRow, standIns := [], harness := (true, "fd23f52e50685a1c2b1fe68e9158c0c62c552c7b2f5a6284a33640844c334b51"), looks := true }, kinds := [], alts := [], laidByText := true, laidKinds := [.data, .data, .data, .data, .sentinel, .sentinel, .widerDeep, .data, .data, .data, .data, .data, .pinned], laidTests := true, laidLooks := .later }
def StatuteFindsUptoCardSaid : Prop := Claim7.holds Tryz.pinned (.plain (OpenSpec.upto statuteFindsSpec)) statuteFindsUptoCard
end Rows
end Go.Proofs.YtmmbjngbeiokeaaGreatDoor
