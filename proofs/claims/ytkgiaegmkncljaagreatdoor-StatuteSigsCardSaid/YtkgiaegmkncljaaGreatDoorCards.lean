/-
  DERIVED. GIVEN WITH THE SEED: THE CARDS: each row of YtkgiaegmkncljaaGreatDoorRows.lean that lists a variable, with what it lists TIED to the program's text (the seventh form; the later family's looks); each row that meets fmt, with fmt's text TOLD by the authors' own Lean function (tested against real Go, not proved from fmt's source: count such statements apart). THE CARD IS WHAT COUNTS. Prove the row's statement (the work); the ties are given (YtkgiaegmkncljaaGreatDoorTie.lean); close each card by the builder's one call (the guide's Derived/Test/ToyasCard.lean, 'card_holds'). Laid BY PROGRAM, IN A SANDBOX (cutbox-door.mjs). By AI agents, Wed Nov 11 2026. No macro, syntax, notation, axiom, sorry.
-/
import Derived.Test.YtkgiaegmkncljaaGreatDoorRows
import GoSem.ClaimSeven
namespace Go.Proofs.YtkgiaegmkncljaaGreatDoor
namespace Rows

/-- THE TIED CARD OF 'tithinglaw11.StatuteSigs'. -/
def statuteSigsCard : Claim7 := { stood := { row := statuteSigsRow, standIns := [], harness := (true, "a9eb7dd045c84de8a78ba619609738ada6b46f585373e689bcf5c8be530f4dbd"), looks := true }, kinds := [], alts := [], laidByText := true, laidKinds := [.data, .data, .data, .data, .sentinel, .sentinel, .widerDeep, .data, .data, .data, .data, .data, .pinned], laidTests := true, laidLooks := .later }
def StatuteSigsCardSaid : Prop := Claim7.holds Tryz.pinned (.plain (OpenSpec.ofChange statuteSigsSpec)) statuteSigsCard

/-- THE TIED CARD OF 'tithinglaw11.StatuteLess'. -/
def statuteLessCard : Claim7 := { stood := { row := statuteLessRow, standIns := [], harness := (true, "a9eb7dd045c84de8a78ba619609738ada6b46f585373e689bcf5c8be530f4dbd"), looks := true }, kinds := [], alts := [], laidByText := true, laidKinds := [.data, .data, .data, .data, .sentinel, .sentinel, .widerDeep, .data, .data, .data, .data, .data, .pinned], laidTests := true, laidLooks := .later }
def StatuteLessCardSaid : Prop := Claim7.holds Tryz.pinned (.plain (OpenSpec.ofChange statuteLessSpec)) statuteLessCard

/-- THE TIED CARD OF 'tithinglaw11.StatuteChecks'. -/
def statuteChecksCard : Claim7 := { stood := { row := statuteChecksRow, standIns := [], harness := (true, "a9eb7dd045c84de8a78ba619609738ada6b46f585373e689bcf5c8be530f4dbd"), looks := true }, kinds := [], alts := [], laidByText := true, laidKinds := [.data, .data, .data, .data, .sentinel, .sentinel, .widerDeep, .data, .data, .data, .data, .data, .pinned], laidTests := true, laidLooks := .later }
def StatuteChecksCardSaid : Prop := Claim7.holds Tryz.pinned (.plain (OpenSpec.ofChange statuteChecksSpec)) statuteChecksCard

/-- THE TIED CARD OF 'tithinglaw11.StatuteTexts'. -/
def statuteTextsCard : Claim7 := { stood := { row := statuteTextsRow, standIns := [], harness := (true, "a9eb7dd045c84de8a78ba619609738ada6b46f585373e689bcf5c8be530f4dbd"), looks := true }, kinds := [], alts := [], laidByText := true, laidKinds := [.data, .data, .data, .data, .sentinel, .sentinel, .widerDeep, .data, .data, .data, .data, .data, .pinned], laidTests := true, laidLooks := .later }
def StatuteTextsCardSaid : Prop := Claim7.holds Tryz.pinned (.plain (OpenSpec.ofChange statuteTextsSpec)) statuteTextsCard

/-- THE TIED CARD OF 'tithinglaw11.StatuteSame'. -/
def statuteSameCard : Claim7 := { stood := { row := statuteSameRow, standIns := [], harness := (true, "a9eb7dd045c84de8a78ba619609738ada6b46f585373e689bcf5c8be530f4dbd"), looks := true }, kinds := [], alts := [], laidByText := true, laidKinds := [.data, .data, .data, .data, .sentinel, .sentinel, .widerDeep, .data, .data, .data, .data, .data, .pinned], laidTests := true, laidLooks := .later }
def StatuteSameCardSaid : Prop := Claim7.holds Tryz.pinned (.plain (OpenSpec.ofChange statuteSameSpec)) statuteSameCard

/-- THE TIED CARD OF 'tithinglaw11.StatuteParses'. -/
def statuteParsesCard : Claim7 := { stood := { row := statuteParsesRow, standIns := [], harness := (true, "a9eb7dd045c84de8a78ba619609738ada6b46f585373e689bcf5c8be530f4dbd"), looks := true }, kinds := [], alts := [], laidByText := true, laidKinds := [.data, .data, .data, .data, .sentinel, .sentinel, .widerDeep, .data, .data, .data, .data, .data, .pinned], laidTests := true, laidLooks := .later }
def StatuteParsesCardSaid : Prop := Claim7.holds Tryz.pinned (.plain (OpenSpec.ofChange statuteParsesSpec)) statuteParsesCard

/-- THE SECOND FORM's CARD OF 'tithinglaw11.StatuteSigs'. -/
def statuteSigsUptoCard : Claim7 := { stood := { row := statuteSigsUptoRow, standIns := [], harness := (true, "a9eb7dd045c84de8a78ba619609738ada6b46f585373e689bcf5c8be530f4dbd"), looks := true }, kinds := [], alts := [], laidByText := true, laidKinds := [.data, .data, .data, .data, .sentinel, .sentinel, .widerDeep, .data, .data, .data, .data, .data, .pinned], laidTests := true, laidLooks := .later }
def StatuteSigsUptoCardSaid : Prop := Claim7.holds Tryz.pinned (.plain (OpenSpec.upto statuteSigsSpec)) statuteSigsUptoCard

/-- THE SECOND FORM's CARD OF 'tithinglaw11.StatuteLess'. -/
def statuteLessUptoCard : Claim7 := { stood := { row := statuteLessUptoRow, standIns := [], harness := (true, "a9eb7dd045c84de8a78ba619609738ada6b46f585373e689bcf5c8be530f4dbd"), looks := true }, kinds := [], alts := [], laidByText := true, laidKinds := [.data, .data, .data, .data, .sentinel, .sentinel, .widerDeep, .data, .data, .data, .data, .data, .pinned], laidTests := true, laidLooks := .later }
def StatuteLessUptoCardSaid : Prop := Claim7.holds Tryz.pinned (.plain (OpenSpec.upto statuteLessSpec)) statuteLessUptoCard

/-- THE SECOND FORM's CARD OF 'tithinglaw11.StatuteChecks'. -/
def statuteChecksUptoCard : Claim7 := { stood := { row := statuteChecksUptoRow, standIns := [], harness := (true, "a9eb7dd045c84de8a78ba619609738ada6b46f585373e689bcf5c8be530f4dbd"), looks := true }, kinds := [], alts := [], laidByText := true, laidKinds := [.data, .data, .data, .data, .sentinel, .sentinel, .widerDeep, .data, .data, .data, .data, .data, .pinned], laidTests := true, laidLooks := .later }
def StatuteChecksUptoCardSaid : Prop := Claim7.holds Tryz.pinned (.plain (OpenSpec.upto statuteChecksSpec)) statuteChecksUptoCard

/-- THE SECOND FORM's CARD OF 'tithinglaw11.StatuteTexts'. -/
def statuteTextsUptoCard : Claim7 := { stood := { row := statuteTextsUptoRow, standIns := [], harness := (true, "a9eb7dd045c84de8a78ba619609738ada6b46f585373e689bcf5c8be530f4dbd"), looks := true }, kinds := [], alts := [], laidByText := true, laidKinds := [.data, .data, .data, .data, .sentinel, .sentinel, .widerDeep, .data, .data, .data, .data, .data, .pinned], laidTests := true, laidLooks := .later }
def StatuteTextsUptoCardSaid : Prop := Claim7.holds Tryz.pinned (.plain (OpenSpec.upto statuteTextsSpec)) statuteTextsUptoCard

/-- THE SECOND FORM's CARD OF 'tithinglaw11.StatuteSame'. -/
def statuteSameUptoCard : Claim7 := { stood := { row := statuteSameUptoRow, standIns := [], harness := (true, "a9eb7dd045c84de8a78ba619609738ada6b46f585373e689bcf5c8be530f4dbd"), looks := true }, kinds := [], alts := [], laidByText := true, laidKinds := [.data, .data, .data, .data, .sentinel, .sentinel, .widerDeep, .data, .data, .data, .data, .data, .pinned], laidTests := true, laidLooks := .later }
def StatuteSameUptoCardSaid : Prop := Claim7.holds Tryz.pinned (.plain (OpenSpec.upto statuteSameSpec)) statuteSameUptoCard

/-- THE SECOND FORM's CARD OF 'tithinglaw11.StatuteParses'. -/
def statuteParsesUptoCard : Claim7 := { stood := { row := statuteParsesUptoRow, standIns := [], harness := (true, "a9eb7dd045c84de8a78ba619609738ada6b46f585373e689bcf5c8be530f4dbd"), looks := true }, kinds := [], alts := [], laidByText := true, laidKinds := [.data, .data, .data, .data, .sentinel, .sentinel, .widerDeep, .data, .data, .data, .data, .data, .pinned], laidTests := true, laidLooks := .later }
def StatuteParsesUptoCardSaid : Prop := Claim7.holds Tryz.pinned (.plain (OpenSpec.upto statuteParsesSpec)) statuteParsesUptoCard
end Rows
end Go.Proofs.YtkgiaegmkncljaaGreatDoor
