/-
  DERIVED. GIVEN WITH THE SEED: THE CARDS: each row of YtbicehdehiakgaaGreatDoorRows.lean that lists a variable, with what it lists TIED to the program's text (the seventh form; the later family's looks); each row that meets fmt, with fmt's text TOLD by the authors' own Lean function (tested against real Go, not proved from fmt's source: count such statements apart). THE CARD IS WHAT COUNTS. Prove the row's statement (the work); the ties are given (YtbicehdehiakgaaGreatDoorTie.lean); close each card by the builder's one call (the guide's Derived/Test/ToyasCard.lean, 'card_holds'). Laid BY PROGRAM, IN A SANDBOX (cutbox-door.mjs). By AI agents, Wed Nov 11 2026. No macro, syntax, notation, axiom, sorry.
-/
import Derived.Test.YtbicehdehiakgaaGreatDoorRows
import GoSem.ClaimSeven
namespace Go.Proofs.YtbicehdehiakgaaGreatDoor
namespace Rows

/-- THE TIED CARD OF 'tithinglaw07.ExprRaw'. -/
def exprRawCard : Claim7 := { stood := { row := exprRawRow, standIns := [], harness := (true, "5f70a338a8994597ff250436bc8f8e885a24d96815a3a45ab443e51dbdd2c716"), looks := true }, kinds := [], alts := [], laidByText := true, laidKinds := [.data, .data, .data, .data, .sentinel, .sentinel, .widerDeep, .pinned], laidTests := true, laidLooks := .later }
def ExprRawCardSaid : Prop := Claim7.holds Tryz.pinned (.plain (OpenSpec.ofChange exprRawSpec)) exprRawCard

/-- THE TIED CARD OF 'tithinglaw07.ExprNear'. -/
def exprNearCard : Claim7 := { stood := { row := exprNearRow, standIns := [], harness := (true, "5f70a338a8994597ff250436bc8f8e885a24d96815a3a45ab443e51dbdd2c716"), looks := true }, kinds := [], alts := [], laidByText := true, laidKinds := [.data, .data, .data, .data, .sentinel, .sentinel, .widerDeep, .pinned], laidTests := true, laidLooks := .later }
def ExprNearCardSaid : Prop := Claim7.holds Tryz.pinned (.plain (OpenSpec.ofChange exprNearSpec)) exprNearCard

/-- THE TIED CARD OF 'tithinglaw07.ExprParses'. -/
def exprParsesCard : Claim7 := { stood := { row := exprParsesRow, standIns := [], harness := (true, "5f70a338a8994597ff250436bc8f8e885a24d96815a3a45ab443e51dbdd2c716"), looks := true }, kinds := [], alts := [], laidByText := true, laidKinds := [.data, .data, .data, .data, .sentinel, .sentinel, .widerDeep, .pinned], laidTests := true, laidLooks := .later }
def ExprParsesCardSaid : Prop := Claim7.holds Tryz.pinned (.plain (OpenSpec.ofChange exprParsesSpec)) exprParsesCard

/-- THE TIED CARD OF 'tithinglaw07.ExprTexts'. -/
def exprTextsCard : Claim7 := { stood := { row := exprTextsRow, standIns := [], harness := (true, "5f70a338a8994597ff250436bc8f8e885a24d96815a3a45ab443e51dbdd2c716"), looks := true }, kinds := [], alts := [], laidByText := true, laidKinds := [.data, .data, .data, .data, .sentinel, .sentinel, .widerDeep, .pinned], laidTests := true, laidLooks := .later }
def ExprTextsCardSaid : Prop := Claim7.holds Tryz.pinned (.plain (OpenSpec.ofChange exprTextsSpec)) exprTextsCard

/-- THE TIED CARD OF 'tithinglaw07.ExprArgs'. -/
def exprArgsCard : Claim7 := { stood := { row := exprArgsRow, standIns := [], harness := (true, "5f70a338a8994597ff250436bc8f8e885a24d96815a3a45ab443e51dbdd2c716"), looks := true }, kinds := [], alts := [], laidByText := true, laidKinds := [.data, .data, .data, .data, .sentinel, .sentinel, .widerDeep, .pinned], laidTests := true, laidLooks := .later }
def ExprArgsCardSaid : Prop := Claim7.holds Tryz.pinned (.plain (OpenSpec.ofChange exprArgsSpec)) exprArgsCard

/-- THE TIED CARD OF 'tithinglaw07.ExprRefs'. -/
def exprRefsCard : Claim7 := { stood := { row := exprRefsRow, standIns := [], harness := (true, "5f70a338a8994597ff250436bc8f8e885a24d96815a3a45ab443e51dbdd2c716"), looks := true }, kinds := [], alts := [], laidByText := true, laidKinds := [.data, .data, .data, .data, .sentinel, .sentinel, .widerDeep, .pinned], laidTests := true, laidLooks := .later }
def ExprRefsCardSaid : Prop := Claim7.holds Tryz.pinned (.plain (OpenSpec.ofChange exprRefsSpec)) exprRefsCard

/-- THE TIED CARD OF 'tithinglaw07.ExprSubsts'. -/
def exprSubstsCard : Claim7 := { stood := { row := exprSubstsRow, standIns := [], harness := (true, "5f70a338a8994597ff250436bc8f8e885a24d96815a3a45ab443e51dbdd2c716"), looks := true }, kinds := [], alts := [], laidByText := true, laidKinds := [.data, .data, .data, .data, .sentinel, .sentinel, .widerDeep, .pinned], laidTests := true, laidLooks := .later }
def ExprSubstsCardSaid : Prop := Claim7.holds Tryz.pinned (.plain (OpenSpec.ofChange exprSubstsSpec)) exprSubstsCard

/-- THE TIED CARD OF 'tithinglaw07.ExprSwaps'. -/
def exprSwapsCard : Claim7 := { stood := { row := exprSwapsRow, standIns := [], harness := (true, "5f70a338a8994597ff250436bc8f8e885a24d96815a3a45ab443e51dbdd2c716"), looks := true }, kinds := [], alts := [], laidByText := true, laidKinds := [.data, .data, .data, .data, .sentinel, .sentinel, .widerDeep, .pinned], laidTests := true, laidLooks := .later }
def ExprSwapsCardSaid : Prop := Claim7.holds Tryz.pinned (.plain (OpenSpec.ofChange exprSwapsSpec)) exprSwapsCard

/-- THE TIED CARD OF 'tithinglaw07.ExprLong'. -/
def exprLongCard : Claim7 := { stood := { row := exprLongRow, standIns := [], harness := (true, "5f70a338a8994597ff250436bc8f8e885a24d96815a3a45ab443e51dbdd2c716"), looks := true }, kinds := [], alts := [], laidByText := true, laidKinds := [.data, .data, .data, .data, .sentinel, .sentinel, .widerDeep, .pinned], laidTests := true, laidLooks := .later }
def ExprLongCardSaid : Prop := Claim7.holds Tryz.pinned (.plain (OpenSpec.ofChange exprLongSpec)) exprLongCard

/-- THE SECOND FORM's CARD OF 'tithinglaw07.ExprRaw'. -/
def exprRawUptoCard : Claim7 := { stood := { row := exprRawUptoRow, standIns := [], harness := (true, "5f70a338a8994597ff250436bc8f8e885a24d96815a3a45ab443e51dbdd2c716"), looks := true }, kinds := [], alts := [], laidByText := true, laidKinds := [.data, .data, .data, .data, .sentinel, .sentinel, .widerDeep, .pinned], laidTests := true, laidLooks := .later }
def ExprRawUptoCardSaid : Prop := Claim7.holds Tryz.pinned (.plain (OpenSpec.upto exprRawSpec)) exprRawUptoCard

/-- THE SECOND FORM's CARD OF 'tithinglaw07.ExprNear'. -/
def exprNearUptoCard : Claim7 := { stood := { row := exprNearUptoRow, standIns := [], harness := (true, "5f70a338a8994597ff250436bc8f8e885a24d96815a3a45ab443e51dbdd2c716"), looks := true }, kinds := [], alts := [], laidByText := true, laidKinds := [.data, .data, .data, .data, .sentinel, .sentinel, .widerDeep, .pinned], laidTests := true, laidLooks := .later }
def ExprNearUptoCardSaid : Prop := Claim7.holds Tryz.pinned (.plain (OpenSpec.upto exprNearSpec)) exprNearUptoCard

/-- THE SECOND FORM's CARD OF 'tithinglaw07.ExprParses'. -/
def exprParsesUptoCard : Claim7 := { stood := { row := exprParsesUptoRow, standIns := [], harness := (true, "5f70a338a8994597ff250436bc8f8e885a24d96815a3a45ab443e51dbdd2c716"), looks := true }, kinds := [], alts := [], laidByText := true, laidKinds := [.data, .data, .data, .data, .sentinel, .sentinel, .widerDeep, .pinned], laidTests := true, laidLooks := .later }
def ExprParsesUptoCardSaid : Prop := Claim7.holds Tryz.pinned (.plain (OpenSpec.upto exprParsesSpec)) exprParsesUptoCard

/-- THE SECOND FORM's CARD OF 'tithinglaw07.ExprTexts'. -/
def exprTextsUptoCard : Claim7 := { stood := { row := exprTextsUptoRow, standIns := [], harness := (true, "5f70a338a8994597ff250436bc8f8e885a24d96815a3a45ab443e51dbdd2c716"), looks := true }, kinds := [], alts := [], laidByText := true, laidKinds := [.data, .data, .data, .data, .sentinel, .sentinel, .widerDeep, .pinned], laidTests := true, laidLooks := .later }
def ExprTextsUptoCardSaid : Prop := Claim7.holds Tryz.pinned (.plain (OpenSpec.upto exprTextsSpec)) exprTextsUptoCard

/-- THE SECOND FORM's CARD OF 'tithinglaw07.ExprArgs'. -/
def exprArgsUptoCard : Claim7 := { stood := { row := exprArgsUptoRow, standIns := [], harness := (true, "5f70a338a8994597ff250436bc8f8e885a24d96815a3a45ab443e51dbdd2c716"), looks := true }, kinds := [], alts := [], laidByText := true, laidKinds := [.data, .data, .data, .data, .sentinel, .sentinel, .widerDeep, .pinned], laidTests := true, laidLooks := .later }
def ExprArgsUptoCardSaid : Prop := Claim7.holds Tryz.pinned (.plain (OpenSpec.upto exprArgsSpec)) exprArgsUptoCard

/-- THE SECOND FORM's CARD OF 'tithinglaw07.ExprRefs'. -/
def exprRefsUptoCard : Claim7 := { stood := { row := exprRefsUptoRow, standIns := [], harness := (true, "5f70a338a8994597ff250436bc8f8e885a24d96815a3a45ab443e51dbdd2c716"), looks := true }, kinds := [], alts := [], laidByText := true, laidKinds := [.data, .data, .data, .data, .sentinel, .sentinel, .widerDeep, .pinned], laidTests := true, laidLooks := .later }
def ExprRefsUptoCardSaid : Prop := Claim7.holds Tryz.pinned (.plain (OpenSpec.upto exprRefsSpec)) exprRefsUptoCard

/-- THE SECOND FORM's CARD OF 'tithinglaw07.ExprSubsts'. -/
def exprSubstsUptoCard : Claim7 := { stood := { row := exprSubstsUptoRow, standIns := [], harness := (true, "5f70a338a8994597ff250436bc8f8e885a24d96815a3a45ab443e51dbdd2c716"), looks := true }, kinds := [], alts := [], laidByText := true, laidKinds := [.data, .data, .data, .data, .sentinel, .sentinel, .widerDeep, .pinned], laidTests := true, laidLooks := .later }
def ExprSubstsUptoCardSaid : Prop := Claim7.holds Tryz.pinned (.plain (OpenSpec.upto exprSubstsSpec)) exprSubstsUptoCard

/-- THE SECOND FORM's CARD OF 'tithinglaw07.ExprSwaps'. -/
def exprSwapsUptoCard : Claim7 := { stood := { row := exprSwapsUptoRow, standIns := [], harness := (true, "5f70a338a8994597ff250436bc8f8e885a24d96815a3a45ab443e51dbdd2c716"), looks := true }, kinds := [], alts := [], laidByText := true, laidKinds := [.data, .data, .data, .data, .sentinel, .sentinel, .widerDeep, .pinned], laidTests := true, laidLooks := .later }
def ExprSwapsUptoCardSaid : Prop := Claim7.holds Tryz.pinned (.plain (OpenSpec.upto exprSwapsSpec)) exprSwapsUptoCard

/-- THE SECOND FORM's CARD OF 'tithinglaw07.ExprLong'. -/
def exprLongUptoCard : Claim7 := { stood := { row := exprLongUptoRow, standIns := [], harness := (true, "5f70a338a8994597ff250436bc8f8e885a24d96815a3a45ab443e51dbdd2c716"), looks := true }, kinds := [], alts := [], laidByText := true, laidKinds := [.data, .data, .data, .data, .sentinel, .sentinel, .widerDeep, .pinned], laidTests := true, laidLooks := .later }
def ExprLongUptoCardSaid : Prop := Claim7.holds Tryz.pinned (.plain (OpenSpec.upto exprLongSpec)) exprLongUptoCard
end Rows
end Go.Proofs.YtbicehdehiakgaaGreatDoor
