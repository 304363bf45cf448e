/-
  DERIVED. GIVEN WITH THE SEED: THE CARDS: each row of YtimokmplkpbmdaaGreatDoorRows.lean that lists a variable, with what it lists TIED to the program's text (the seventh form; the later family's looks); each row that meets fmt, with fmt's text TOLD by the authors' own Lean function (tested against real Go, not proved from fmt's source: count such statements apart). THE CARD IS WHAT COUNTS. Prove the row's statement (the work); the ties are given (YtimokmplkpbmdaaGreatDoorTie.lean); close each card by the builder's one call (the guide's Derived/Test/ToyasCard.lean, 'card_holds'). Laid BY PROGRAM, IN A SANDBOX (cutbox-door.mjs). By AI agents, Wed Nov 11 2026. No macro, syntax, notation, axiom, sorry.
-/
import Derived.Test.YtimokmplkpbmdaaGreatDoorRows
import GoSem.ClaimSeven
namespace Go.Proofs.YtimokmplkpbmdaaGreatDoor
namespace Rows

/-- THE TIED CARD OF 'tithinglaw11.StatuteLess'. -/
def statuteLessCard : Claim7 := { stood := { row := statuteLessRow, standIns := [], harness := (true, "785287f310eb35d1b9dfb3560ceb894c93867f6a6425c64a3f3b3448a7de26a8"), looks := true }, kinds := [], alts := [], laidByText := true, laidKinds := [.data, .data, .data, .data, .sentinel, .sentinel, .widerDeep, .data, .data, .data, .data, .data, .pinned], laidTests := true, laidLooks := .later }
def StatuteLessCardSaid : Prop := Claim7.holds Tryz.pinned (.plain (OpenSpec.ofChange statuteLessSpec)) statuteLessCard

/-- THE TIED CARD OF 'tithinglaw11.StatuteTexts'. -/
def statuteTextsCard : Claim7 := { stood := { row := statuteTextsRow, standIns := [], harness := (true, "785287f310eb35d1b9dfb3560ceb894c93867f6a6425c64a3f3b3448a7de26a8"), looks := true }, kinds := [], alts := [], laidByText := true, laidKinds := [.data, .data, .data, .data, .sentinel, .sentinel, .widerDeep, .data, .data, .data, .data, .data, .pinned], laidTests := true, laidLooks := .later }
def StatuteTextsCardSaid : Prop := Claim7.holds Tryz.pinned (.plain (OpenSpec.ofChange statuteTextsSpec)) statuteTextsCard

/-- THE TIED CARD OF 'tithinglaw11.StatuteSame'. -/
def statuteSameCard : Claim7 := { stood := { row := statuteSameRow, standIns := [], harness := (true, "785287f310eb35d1b9dfb3560ceb894c93867f6a6425c64a3f3b3448a7de26a8"), looks := true }, kinds := [], alts := [], laidByText := true, laidKinds := [.data, .data, .data, .data, .sentinel, .sentinel, .widerDeep, .data, .data, .data, .data, .data, .pinned], laidTests := true, laidLooks := .later }
def StatuteSameCardSaid : Prop := Claim7.holds Tryz.pinned (.plain (OpenSpec.ofChange statuteSameSpec)) statuteSameCard

/-- THE SECOND FORM's CARD OF 'tithinglaw11.StatuteLess'. -/
def statuteLessUptoCard : Claim7 := { stood := { row := statuteLessUptoRow, standIns := [], harness := (true, "785287f310eb35d1b9dfb3560ceb894c93867f6a6425c64a3f3b3448a7de26a8"), looks := true }, kinds := [], alts := [], laidByText := true, laidKinds := [.data, .data, .data, .data, .sentinel, .sentinel, .widerDeep, .data, .data, .data, .data, .data, .pinned], laidTests := true, laidLooks := .later }
def StatuteLessUptoCardSaid : Prop := Claim7.holds Tryz.pinned (.plain (OpenSpec.upto statuteLessSpec)) statuteLessUptoCard

/-- THE SECOND FORM's CARD OF 'tithinglaw11.StatuteTexts'. -/
def statuteTextsUptoCard : Claim7 := { stood := { row := statuteTextsUptoRow, standIns := [], harness := (true, "785287f310eb35d1b9dfb3560ceb894c93867f6a6425c64a3f3b3448a7de26a8"), looks := true }, kinds := [], alts := [], laidByText := true, laidKinds := [.data, .data, .data, .data, .sentinel, .sentinel, .widerDeep, .data, .data, .data, .data, .data, .pinned], laidTests := true, laidLooks := .later }
def StatuteTextsUptoCardSaid : Prop := Claim7.holds Tryz.pinned (.plain (OpenSpec.upto statuteTextsSpec)) statuteTextsUptoCard

/-- THE SECOND FORM's CARD OF 'tithinglaw11.StatuteSame'. -/
def statuteSameUptoCard : Claim7 := { stood := { row := statuteSameUptoRow, standIns := [], harness := (true, "785287f310eb35d1b9dfb3560ceb894c93867f6a6425c64a3f3b3448a7de26a8"), looks := true }, kinds := [], alts := [], laidByText := true, laidKinds := [.data, .data, .data, .data, .sentinel, .sentinel, .widerDeep, .data, .data, .data, .data, .data, .pinned], laidTests := true, laidLooks := .later }
def StatuteSameUptoCardSaid : Prop := Claim7.holds Tryz.pinned (.plain (OpenSpec.upto statuteSameSpec)) statuteSameUptoCard
end Rows
end Go.Proofs.YtimokmplkpbmdaaGreatDoor
