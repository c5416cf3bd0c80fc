/-
  DERIVED. GIVEN WITH THE SEED: THE CARDS: each row of YtindglcpailjgaaDoorRows.lean that lists a variable, with what it lists TIED to the program's text (the seventh form; the later family's looks); each row that meets fmt, with fmt's text TOLD by the authors' own Lean function (tested against real Go, not proved from fmt's source: count such statements apart). THE CARD IS WHAT COUNTS. Prove the row's statement (the work); the ties are given (YtindglcpailjgaaDoorTie.lean); close each card by the builder's one call (the guide's Derived/Test/ToyasCard.lean, 'card_holds'). Laid BY PROGRAM, IN A SANDBOX (cutbox-door.mjs). By AI agents, Wed Nov 11 2026. No macro, syntax, notation, axiom, sorry.
-/
import Derived.Test.YtindglcpailjgaaDoorRows
import GoSem.ClaimSeven
namespace Go.Proofs.YtindglcpailjgaaDoor
namespace Rows

/-- THE TIED CARD OF 'junctionlaw17.WireStuffs'. -/
def wireStuffsCard : Claim7 := { stood := { row := wireStuffsRow, standIns := [], harness := (true, "a859476292576190aef945d6b162fca3d4a08aabfe076ea2c1c8e6be9ad3cea1"), looks := false }, kinds := [], alts := [], laidByText := true, laidKinds := [.data], laidTests := true, laidLooks := .later }
def WireStuffsCardSaid : Prop := Claim7.holds Tryd.pinned (.plain (OpenSpec.ofChange wireStuffsSpec)) wireStuffsCard

/-- THE TIED CARD OF 'junctionlaw17.WireFrames'. -/
def wireFramesCard : Claim7 := { stood := { row := wireFramesRow, standIns := [], harness := (true, "a859476292576190aef945d6b162fca3d4a08aabfe076ea2c1c8e6be9ad3cea1"), looks := false }, kinds := [], alts := [], laidByText := true, laidKinds := [.data], laidTests := true, laidLooks := .later }
def WireFramesCardSaid : Prop := Claim7.holds Tryd.pinned (.plain (OpenSpec.ofChange wireFramesSpec)) wireFramesCard

/-- THE TIED CARD OF 'junctionlaw17.WireBurst'. -/
def wireBurstCard : Claim7 := { stood := { row := wireBurstRow, standIns := [], harness := (true, "a859476292576190aef945d6b162fca3d4a08aabfe076ea2c1c8e6be9ad3cea1"), looks := false }, kinds := [], alts := [], laidByText := true, laidKinds := [.data], laidTests := true, laidLooks := .later }
def WireBurstCardSaid : Prop := Claim7.holds Tryd.pinned (.plain (OpenSpec.ofChange wireBurstSpec)) wireBurstCard

/-- THE TIED CARD OF 'junctionlaw17.WireBack'. -/
def wireBackCard : Claim7 := { stood := { row := wireBackRow, standIns := [], harness := (true, "a859476292576190aef945d6b162fca3d4a08aabfe076ea2c1c8e6be9ad3cea1"), looks := false }, kinds := [], alts := [], laidByText := true, laidKinds := [.data], laidTests := true, laidLooks := .later }
def WireBackCardSaid : Prop := Claim7.holds Tryd.pinned (.plain (OpenSpec.ofChange wireBackSpec)) wireBackCard

/-- THE TIED CARD OF 'junctionlaw17.WireDelivers'. -/
def wireDeliversCard : Claim7 := { stood := { row := wireDeliversRow, standIns := [], harness := (true, "a859476292576190aef945d6b162fca3d4a08aabfe076ea2c1c8e6be9ad3cea1"), looks := false }, kinds := [], alts := [], laidByText := true, laidKinds := [.data], laidTests := true, laidLooks := .later }
def WireDeliversCardSaid : Prop := Claim7.holds Tryd.pinned (.plain (OpenSpec.ofChange wireDeliversSpec)) wireDeliversCard

/-- THE TIED CARD OF 'junctionlaw17.WireEnds'. -/
def wireEndsCard : Claim7 := { stood := { row := wireEndsRow, standIns := [], harness := (true, "a859476292576190aef945d6b162fca3d4a08aabfe076ea2c1c8e6be9ad3cea1"), looks := false }, kinds := [], alts := [], laidByText := true, laidKinds := [.data], laidTests := true, laidLooks := .later }
def WireEndsCardSaid : Prop := Claim7.holds Tryd.pinned (.plain (OpenSpec.ofChange wireEndsSpec)) wireEndsCard

/-- THE TIED CARD OF 'junctionlaw17.WireUploads'. -/
def wireUploadsCard : Claim7 := { stood := { row := wireUploadsRow, standIns := [], harness := (true, "a859476292576190aef945d6b162fca3d4a08aabfe076ea2c1c8e6be9ad3cea1"), looks := false }, kinds := [], alts := [], laidByText := true, laidKinds := [.data], laidTests := true, laidLooks := .later }
def WireUploadsCardSaid : Prop := Claim7.holds Tryd.pinned (.plain (OpenSpec.ofChange wireUploadsSpec)) wireUploadsCard

/-- THE SECOND FORM's CARD OF 'junctionlaw17.WireStuffs'. -/
def wireStuffsUptoCard : Claim7 := { stood := { row := wireStuffsUptoRow, standIns := [], harness := (true, "a859476292576190aef945d6b162fca3d4a08aabfe076ea2c1c8e6be9ad3cea1"), looks := false }, kinds := [], alts := [], laidByText := true, laidKinds := [.data], laidTests := true, laidLooks := .later }
def WireStuffsUptoCardSaid : Prop := Claim7.holds Tryd.pinned (.plain (OpenSpec.upto wireStuffsSpec)) wireStuffsUptoCard

/-- THE SECOND FORM's CARD OF 'junctionlaw17.WireFrames'. -/
def wireFramesUptoCard : Claim7 := { stood := { row := wireFramesUptoRow, standIns := [], harness := (true, "a859476292576190aef945d6b162fca3d4a08aabfe076ea2c1c8e6be9ad3cea1"), looks := false }, kinds := [], alts := [], laidByText := true, laidKinds := [.data], laidTests := true, laidLooks := .later }
def WireFramesUptoCardSaid : Prop := Claim7.holds Tryd.pinned (.plain (OpenSpec.upto wireFramesSpec)) wireFramesUptoCard

/-- THE SECOND FORM's CARD OF 'junctionlaw17.WireBurst'. -/
def wireBurstUptoCard : Claim7 := { stood := { row := wireBurstUptoRow, standIns := [], harness := (true, "a859476292576190aef945d6b162fca3d4a08aabfe076ea2c1c8e6be9ad3cea1"), looks := false }, kinds := [], alts := [], laidByText := true, laidKinds := [.data], laidTests := true, laidLooks := .later }
def WireBurstUptoCardSaid : Prop := Claim7.holds Tryd.pinned (.plain (OpenSpec.upto wireBurstSpec)) wireBurstUptoCard

/-- THE SECOND FORM's CARD OF 'junctionlaw17.WireBack'. -/
def wireBackUptoCard : Claim7 := { stood := { row := wireBackUptoRow, standIns := [], harness := (true, "a859476292576190aef945d6b162fca3d4a08aabfe076ea2c1c8e6be9ad3cea1"), looks := false }, kinds := [], alts := [], laidByText := true, laidKinds := [.data], laidTests := true, laidLooks := .later }
def WireBackUptoCardSaid : Prop := Claim7.holds Tryd.pinned (.plain (OpenSpec.upto wireBackSpec)) wireBackUptoCard

/-- THE SECOND FORM's CARD OF 'junctionlaw17.WireDelivers'. -/
def wireDeliversUptoCard : Claim7 := { stood := { row := wireDeliversUptoRow, standIns := [], harness := (true, "a859476292576190aef945d6b162fca3d4a08aabfe076ea2c1c8e6be9ad3cea1"), looks := false }, kinds := [], alts := [], laidByText := true, laidKinds := [.data], laidTests := true, laidLooks := .later }
def WireDeliversUptoCardSaid : Prop := Claim7.holds Tryd.pinned (.plain (OpenSpec.upto wireDeliversSpec)) wireDeliversUptoCard

/-- THE SECOND FORM's CARD OF 'junctionlaw17.WireEnds'. -/
def wireEndsUptoCard : Claim7 := { stood := { row := wireEndsUptoRow, standIns := [], harness := (true, "a859476292576190aef945d6b162fca3d4a08aabfe076ea2c1c8e6be9ad3cea1"), looks := false }, kinds := [], alts := [], laidByText := true, laidKinds := [.data], laidTests := true, laidLooks := .later }
def WireEndsUptoCardSaid : Prop := Claim7.holds Tryd.pinned (.plain (OpenSpec.upto wireEndsSpec)) wireEndsUptoCard

/-- THE SECOND FORM's CARD OF 'junctionlaw17.WireUploads'. -/
def wireUploadsUptoCard : Claim7 := { stood := { row := wireUploadsUptoRow, standIns := [], harness := (true, "a859476292576190aef945d6b162fca3d4a08aabfe076ea2c1c8e6be9ad3cea1"), looks := false }, kinds := [], alts := [], laidByText := true, laidKinds := [.data], laidTests := true, laidLooks := .later }
def WireUploadsUptoCardSaid : Prop := Claim7.holds Tryd.pinned (.plain (OpenSpec.upto wireUploadsSpec)) wireUploadsUptoCard
end Rows
end Go.Proofs.YtindglcpailjgaaDoor
