/-
  DERIVED. GIVEN WITH THE SEED: THE CARDS: each row of YtchhknkflhikmaaDoorRows.lean that lists a variable, with what it lists TIED to the program's text (the seventh form; the later family's looks); each row that meets fmt, with fmt's text TOLD by the authors' own Lean function (tested against real Go, not proved from fmt's source: count such statements apart). THE CARD IS WHAT COUNTS. Prove the row's statement (the work); the ties are given (YtchhknkflhikmaaDoorTie.lean); close each card by the builder's one call (the guide's Derived/Test/ToyasCard.lean, 'card_holds'). Laid BY PROGRAM, IN A SANDBOX (cutbox-door.mjs). By AI agents, Wed Nov 11 2026. No macro, syntax, notation, axiom, sorry.
-/
import Derived.Test.YtchhknkflhikmaaDoorRows
import GoSem.ClaimSeven
namespace Go.Proofs.YtchhknkflhikmaaDoor
namespace Rows

/-- THE TIED CARD OF 'junctionlaw1.ArithDivides'. -/
def arithDividesCard : Claim7 := { stood := { row := arithDividesRow, standIns := [], harness := (true, "f2d69021a3fd85c6f6351f73a5432a6f148c4739f01e8f76728a55f1817f8f8e"), looks := false }, kinds := [], alts := [], laidByText := true, laidKinds := [.data], laidTests := true, laidLooks := .later }
def ArithDividesCardSaid : Prop := Claim7.holds Tryd.pinned (.plain (OpenSpec.ofChange arithDividesSpec)) arithDividesCard

/-- THE TIED CARD OF 'junctionlaw1.ArithOps'. -/
def arithOpsCard : Claim7 := { stood := { row := arithOpsRow, standIns := [], harness := (true, "f2d69021a3fd85c6f6351f73a5432a6f148c4739f01e8f76728a55f1817f8f8e"), looks := false }, kinds := [], alts := [], laidByText := true, laidKinds := [.data], laidTests := true, laidLooks := .later }
def ArithOpsCardSaid : Prop := Claim7.holds Tryd.pinned (.plain (OpenSpec.ofChange arithOpsSpec)) arithOpsCard

/-- THE TIED CARD OF 'junctionlaw1.ArithRing'. -/
def arithRingCard : Claim7 := { stood := { row := arithRingRow, standIns := [], harness := (true, "f2d69021a3fd85c6f6351f73a5432a6f148c4739f01e8f76728a55f1817f8f8e"), looks := false }, kinds := [], alts := [], laidByText := true, laidKinds := [.data], laidTests := true, laidLooks := .later }
def ArithRingCardSaid : Prop := Claim7.holds Tryd.pinned (.plain (OpenSpec.ofChange arithRingSpec)) arithRingCard

/-- THE TIED CARD OF 'junctionlaw1.ArithOrder'. -/
def arithOrderCard : Claim7 := { stood := { row := arithOrderRow, standIns := [], harness := (true, "f2d69021a3fd85c6f6351f73a5432a6f148c4739f01e8f76728a55f1817f8f8e"), looks := false }, kinds := [], alts := [], laidByText := true, laidKinds := [.data], laidTests := true, laidLooks := .later }
def ArithOrderCardSaid : Prop := Claim7.holds Tryd.pinned (.plain (OpenSpec.ofChange arithOrderSpec)) arithOrderCard

/-- THE TIED CARD OF 'junctionlaw1.ArithTexts'. -/
def arithTextsCard : Claim7 := { stood := { row := arithTextsRow, standIns := [], harness := (true, "f2d69021a3fd85c6f6351f73a5432a6f148c4739f01e8f76728a55f1817f8f8e"), looks := false }, kinds := [], alts := [], laidByText := true, laidKinds := [.data, .data, .data], laidTests := true, laidLooks := .later }
def ArithTextsCardSaid : Prop := Claim7.holds Tryd.pinned (.plain (OpenSpec.ofChange arithTextsSpec)) arithTextsCard

/-- THE SECOND FORM's CARD OF 'junctionlaw1.ArithDivides'. -/
def arithDividesUptoCard : Claim7 := { stood := { row := arithDividesUptoRow, standIns := [], harness := (true, "f2d69021a3fd85c6f6351f73a5432a6f148c4739f01e8f76728a55f1817f8f8e"), looks := false }, kinds := [], alts := [], laidByText := true, laidKinds := [.data], laidTests := true, laidLooks := .later }
def ArithDividesUptoCardSaid : Prop := Claim7.holds Tryd.pinned (.plain (OpenSpec.upto arithDividesSpec)) arithDividesUptoCard

/-- THE SECOND FORM's CARD OF 'junctionlaw1.ArithOps'. -/
def arithOpsUptoCard : Claim7 := { stood := { row := arithOpsUptoRow, standIns := [], harness := (true, "f2d69021a3fd85c6f6351f73a5432a6f148c4739f01e8f76728a55f1817f8f8e"), looks := false }, kinds := [], alts := [], laidByText := true, laidKinds := [.data], laidTests := true, laidLooks := .later }
def ArithOpsUptoCardSaid : Prop := Claim7.holds Tryd.pinned (.plain (OpenSpec.upto arithOpsSpec)) arithOpsUptoCard

/-- THE SECOND FORM's CARD OF 'junctionlaw1.ArithRing'. -/
def arithRingUptoCard : Claim7 := { stood := { row := arithRingUptoRow, standIns := [], harness := (true, "f2d69021a3fd85c6f6351f73a5432a6f148c4739f01e8f76728a55f1817f8f8e"), looks := false }, kinds := [], alts := [], laidByText := true, laidKinds := [.data], laidTests := true, laidLooks := .later }
def ArithRingUptoCardSaid : Prop := Claim7.holds Tryd.pinned (.plain (OpenSpec.upto arithRingSpec)) arithRingUptoCard

/-- THE SECOND FORM's CARD OF 'junctionlaw1.ArithOrder'. -/
def arithOrderUptoCard : Claim7 := { stood := { row := arithOrderUptoRow, standIns := [], harness := (true, "f2d69021a3fd85c6f6351f73a5432a6f148c4739f01e8f76728a55f1817f8f8e"), looks := false }, kinds := [], alts := [], laidByText := true, laidKinds := [.data], laidTests := true, laidLooks := .later }
def ArithOrderUptoCardSaid : Prop := Claim7.holds Tryd.pinned (.plain (OpenSpec.upto arithOrderSpec)) arithOrderUptoCard

/-- THE SECOND FORM's CARD OF 'junctionlaw1.ArithTexts'. -/
def arithTextsUptoCard : Claim7 := { stood := { row := arithTextsUptoRow, standIns := [], harness := (true, "f2d69021a3fd85c6f6351f73a5432a6f148c4739f01e8f76728a55f1817f8f8e"), looks := false }, kinds := [], alts := [], laidByText := true, laidKinds := [.data, .data, .data], laidTests := true, laidLooks := .later }
def ArithTextsUptoCardSaid : Prop := Claim7.holds Tryd.pinned (.plain (OpenSpec.upto arithTextsSpec)) arithTextsUptoCard
end Rows
end Go.Proofs.YtchhknkflhikmaaDoor
