/-
  DERIVED. GIVEN WITH THE SEED: THE CARDS: each row of YtfllibbkmpkaiaaDoorRows.lean that lists a variable, with what it lists TIED to the program's text (the seventh form; the later family's looks); each row that meets fmt, with fmt's text TOLD by the authors' own Lean function (tested against real Go, not proved from fmt's source: count such statements apart). THE CARD IS WHAT COUNTS. Prove the row's statement (the work); the ties are given (YtfllibbkmpkaiaaDoorTie.lean); close each card by the builder's one call (the guide's Derived/Test/ToyasCard.lean, 'card_holds'). Laid BY PROGRAM, IN A SANDBOX (cutbox-door.mjs). By AI agents, Wed Nov 11 2026. No macro, syntax, notation, axiom, sorry.
-/
import Derived.Test.YtfllibbkmpkaiaaDoorRows
import GoSem.ClaimSeven
namespace Go.Proofs.YtfllibbkmpkaiaaDoor
namespace Rows

/-- THE TIED CARD OF 'junctionlaw18.TableDates'. -/
def tableDatesCard : Claim7 := { stood := { row := tableDatesRow, standIns := [], harness := (true, "951c152a004c770e956953e2c973e55ef74cbec542116c58c3445cf6f421ff98"), looks := true }, kinds := [], alts := [], laidByText := true, laidKinds := [.data], laidTests := true, laidLooks := .later }
def TableDatesCardSaid : Prop := Claim7.holds Tryd.pinned (.plain (OpenSpec.ofChange tableDatesSpec)) tableDatesCard

/-- THE TIED CARD OF 'junctionlaw18.TableCalendar'. -/
def tableCalendarCard : Claim7 := { stood := { row := tableCalendarRow, standIns := [], harness := (true, "951c152a004c770e956953e2c973e55ef74cbec542116c58c3445cf6f421ff98"), looks := true }, kinds := [], alts := [], laidByText := true, laidKinds := [.data], laidTests := true, laidLooks := .later }
def TableCalendarCardSaid : Prop := Claim7.holds Tryd.pinned (.plain (OpenSpec.ofChange tableCalendarSpec)) tableCalendarCard

/-- THE TIED CARD OF 'junctionlaw18.TableParses'. -/
def tableParsesCard : Claim7 := { stood := { row := tableParsesRow, standIns := [], harness := (true, "951c152a004c770e956953e2c973e55ef74cbec542116c58c3445cf6f421ff98"), looks := true }, kinds := [], alts := [], laidByText := true, laidKinds := [.data, .data, .pinned], laidTests := true, laidLooks := .later }
def TableParsesCardSaid : Prop := Claim7.holds Tryd.pinned (.plain (OpenSpec.ofChange tableParsesSpec)) tableParsesCard

/-- THE TIED CARD OF 'junctionlaw18.TablePrints'. -/
def tablePrintsCard : Claim7 := { stood := { row := tablePrintsRow, standIns := [], harness := (true, "951c152a004c770e956953e2c973e55ef74cbec542116c58c3445cf6f421ff98"), looks := true }, kinds := [], alts := [], laidByText := true, laidKinds := [.data, .data, .data, .data], laidTests := true, laidLooks := .later }
def TablePrintsCardSaid : Prop := Claim7.holds Tryd.pinned (.plain (OpenSpec.ofChange tablePrintsSpec)) tablePrintsCard

/-- THE SECOND FORM's CARD OF 'junctionlaw18.TableDates'. -/
def tableDatesUptoCard : Claim7 := { stood := { row := tableDatesUptoRow, standIns := [], harness := (true, "951c152a004c770e956953e2c973e55ef74cbec542116c58c3445cf6f421ff98"), looks := true }, kinds := [], alts := [], laidByText := true, laidKinds := [.data], laidTests := true, laidLooks := .later }
def TableDatesUptoCardSaid : Prop := Claim7.holds Tryd.pinned (.plain (OpenSpec.upto tableDatesSpec)) tableDatesUptoCard

/-- THE SECOND FORM's CARD OF 'junctionlaw18.TableCalendar'. -/
def tableCalendarUptoCard : Claim7 := { stood := { row := tableCalendarUptoRow, standIns := [], harness := (true, "951c152a004c770e956953e2c973e55ef74cbec542116c58c3445cf6f421ff98"), looks := true }, kinds := [], alts := [], laidByText := true, laidKinds := [.data], laidTests := true, laidLooks := .later }
def TableCalendarUptoCardSaid : Prop := Claim7.holds Tryd.pinned (.plain (OpenSpec.upto tableCalendarSpec)) tableCalendarUptoCard

/-- THE SECOND FORM's CARD OF 'junctionlaw18.TableParses'. -/
def tableParsesUptoCard : Claim7 := { stood := { row := tableParsesUptoRow, standIns := [], harness := (true, "951c152a004c770e956953e2c973e55ef74cbec542116c58c3445cf6f421ff98"), looks := true }, kinds := [], alts := [], laidByText := true, laidKinds := [.data, .data, .pinned], laidTests := true, laidLooks := .later }
def TableParsesUptoCardSaid : Prop := Claim7.holds Tryd.pinned (.plain (OpenSpec.upto tableParsesSpec)) tableParsesUptoCard

/-- THE SECOND FORM's CARD OF 'junctionlaw18.TablePrints'. -/
def tablePrintsUptoCard : Claim7 := { stood := { row := tablePrintsUptoRow, standIns := [], harness := (true, "951c152a004c770e956953e2c973e55ef74cbec542116c58c3445cf6f421ff98"), looks := true }, kinds := [], alts := [], laidByText := true, laidKinds := [.data, .data, .data, .data], laidTests := true, laidLooks := .later }
def TablePrintsUptoCardSaid : Prop := Claim7.holds Tryd.pinned (.plain (OpenSpec.upto tablePrintsSpec)) tablePrintsUptoCard
end Rows
end Go.Proofs.YtfllibbkmpkaiaaDoor
