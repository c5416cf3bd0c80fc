/-
  NARROWER THAN 'FOR EVERY INPUT', by the rows' own cells (each row's printed sentence says how): WireStuffs: laid · WireFrames: laid · WireBurst: laid · WireBack: laid · WireDelivers: laid · WireEnds: laid · WireUploads: laid.
  DERIVED. THE GIVEN ROWS OF THIS SEAT. 7 by the template 'for every input the law returns true; each argument reads behind the call as it read before'; 0 by the template 'total and deterministic' (their statements: YtindglcpailjgaaDoorTotals.lean).
  GIVEN WITH THE SEED: the statements are not yours to turn. If you find one false, say at which input.
  Laid BY PROGRAM, IN A SANDBOX (cutbox-rows.mjs): the forced cells as the released guide's own fill.sh prints them over the translation b589daa333edfeb4… (all of the seat's roots in one cut). By AI agents, Wed Nov 11 2026. No macro, syntax, notation, axiom, sorry.
-/
import Derived.Test.YtindglcpailjgaaDoorChecked
import GoSem.Claim
import GoSem.ClaimJoined
import GoSem.ClaimMapViews
import Derived.JoinedTies
import Derived.KernelRfl
namespace Go.Proofs.YtindglcpailjgaaDoor
/- THE CELL 'sum', in the pinned program and in every row, IS THE sha256 OF THE DUMP (.gsa) THAT YtindglcpailjgaaDoorProg.lean LOADS. Nothing in Lean hashes anything: it is a label: what it is worth is what the hold of that sum in a sandbox is worth. -/
noncomputable def Tryd.pinned : Pinned := { name := "ytindglcpailjgaadoor", sum := "b589daa333edfeb4ff24c390dc46f365397fc218ce325114d66c9a9509c13169", checked := Tryd.checked }
namespace Rows
def none {H : Type} : Left H := { results := [], args := [] }

/- WHAT THE LISTED PACKAGE-LEVEL VARIABLES READ AS WHEN THE CALL BEGINS. Each datum BY PROGRAM (the guide's laid-datum.mjs) off the statement by which the dump's own 'gosem.cut.vars' lays the variable. In a bare row this is a premise. The card (YtindglcpailjgaaDoorCards.lean) ties it to the program's text. -/
def laid_junction_wire_table {H : Type} : DataW H := .agg [.lit (.int .u16 0), .lit (.int .u16 4225), .lit (.int .u16 8450), .lit (.int .u16 12675), .lit (.int .u16 16900), .lit (.int .u16 21125), .lit (.int .u16 25350), .lit (.int .u16 29575), .lit (.int .u16 33800), .lit (.int .u16 38025), .lit (.int .u16 42250), .lit (.int .u16 46475), .lit (.int .u16 50700), .lit (.int .u16 54925), .lit (.int .u16 59150), .lit (.int .u16 63375)]

/-- 'junctionlaw17.WireStuffs': WHATEVER THE INPUT: true; the input reads as it did. -/
def wireStuffsSpec : ChangeSpec := { name := "wireStuffs", fn := fun _ => fun
  | [d] => { results := [.lit (.bool true)], args := [d] }
  | _ => none }
def wireStuffsRow : OpenClaim := { program := "ytindglcpailjgaadoor", sum := "b589daa333edfeb4ff24c390dc46f365397fc218ce325114d66c9a9509c13169", func := "junction/junctionlaw17.WireStuffs", spec := "wireStuffs", named := ["junction/wire.table"], apart := false, laid := [("junction/wire.table", laid_junction_wire_table)] }
def WireStuffsSaid : Prop := wireStuffsRow.holds Tryd.pinned (OpenSpec.ofChange wireStuffsSpec)

/-- ITS FALSE NEIGHBOUR: 'it returns false'. Refute it at one input. -/
def wireStuffsWrong : ChangeSpec := { name := "wireStuffs", fn := fun _ => fun
  | [d] => { results := [.lit (.bool false)], args := [d] }
  | _ => none }
def WireStuffsWrongFalsely : Prop := wireStuffsRow.holds Tryd.pinned (OpenSpec.ofChange wireStuffsWrong)

/-- 'junctionlaw17.WireFrames': WHATEVER THE INPUT: true; the input reads as it did. -/
def wireFramesSpec : ChangeSpec := { name := "wireFrames", fn := fun _ => fun
  | [d1, d2] => { results := [.lit (.bool true)], args := [d1, d2] }
  | _ => none }
def wireFramesRow : OpenClaim := { program := "ytindglcpailjgaadoor", sum := "b589daa333edfeb4ff24c390dc46f365397fc218ce325114d66c9a9509c13169", func := "junction/junctionlaw17.WireFrames", spec := "wireFrames", named := ["junction/wire.table"], apart := false, laid := [("junction/wire.table", laid_junction_wire_table)] }
def WireFramesSaid : Prop := wireFramesRow.holds Tryd.pinned (OpenSpec.ofChange wireFramesSpec)

/-- ITS FALSE NEIGHBOUR: 'it returns false'. Refute it at one input. -/
def wireFramesWrong : ChangeSpec := { name := "wireFrames", fn := fun _ => fun
  | [d1, d2] => { results := [.lit (.bool false)], args := [d1, d2] }
  | _ => none }
def WireFramesWrongFalsely : Prop := wireFramesRow.holds Tryd.pinned (OpenSpec.ofChange wireFramesWrong)

/-- 'junctionlaw17.WireBurst': WHATEVER THE INPUT: true; the input reads as it did. -/
def wireBurstSpec : ChangeSpec := { name := "wireBurst", fn := fun _ => fun
  | [d1, d2, d3] => { results := [.lit (.bool true)], args := [d1, d2, d3] }
  | _ => none }
def wireBurstRow : OpenClaim := { program := "ytindglcpailjgaadoor", sum := "b589daa333edfeb4ff24c390dc46f365397fc218ce325114d66c9a9509c13169", func := "junction/junctionlaw17.WireBurst", spec := "wireBurst", named := ["junction/wire.table"], apart := false, laid := [("junction/wire.table", laid_junction_wire_table)] }
def WireBurstSaid : Prop := wireBurstRow.holds Tryd.pinned (OpenSpec.ofChange wireBurstSpec)

/-- ITS FALSE NEIGHBOUR: 'it returns false'. Refute it at one input. -/
def wireBurstWrong : ChangeSpec := { name := "wireBurst", fn := fun _ => fun
  | [d1, d2, d3] => { results := [.lit (.bool false)], args := [d1, d2, d3] }
  | _ => none }
def WireBurstWrongFalsely : Prop := wireBurstRow.holds Tryd.pinned (OpenSpec.ofChange wireBurstWrong)

/-- 'junctionlaw17.WireBack': WHATEVER THE INPUT: true; the input reads as it did. -/
def wireBackSpec : ChangeSpec := { name := "wireBack", fn := fun _ => fun
  | [d1, d2, d3] => { results := [.lit (.bool true)], args := [d1, d2, d3] }
  | _ => none }
def wireBackRow : OpenClaim := { program := "ytindglcpailjgaadoor", sum := "b589daa333edfeb4ff24c390dc46f365397fc218ce325114d66c9a9509c13169", func := "junction/junctionlaw17.WireBack", spec := "wireBack", named := ["junction/wire.table"], apart := false, laid := [("junction/wire.table", laid_junction_wire_table)] }
def WireBackSaid : Prop := wireBackRow.holds Tryd.pinned (OpenSpec.ofChange wireBackSpec)

/-- ITS FALSE NEIGHBOUR: 'it returns false'. Refute it at one input. -/
def wireBackWrong : ChangeSpec := { name := "wireBack", fn := fun _ => fun
  | [d1, d2, d3] => { results := [.lit (.bool false)], args := [d1, d2, d3] }
  | _ => none }
def WireBackWrongFalsely : Prop := wireBackRow.holds Tryd.pinned (OpenSpec.ofChange wireBackWrong)

/-- 'junctionlaw17.WireDelivers': WHATEVER THE INPUT: true; the input reads as it did. -/
def wireDeliversSpec : ChangeSpec := { name := "wireDelivers", fn := fun _ => fun
  | [d] => { results := [.lit (.bool true)], args := [d] }
  | _ => none }
def wireDeliversRow : OpenClaim := { program := "ytindglcpailjgaadoor", sum := "b589daa333edfeb4ff24c390dc46f365397fc218ce325114d66c9a9509c13169", func := "junction/junctionlaw17.WireDelivers", spec := "wireDelivers", unfollowed := true, recurses := true, named := ["junction/wire.table"], apart := false, laid := [("junction/wire.table", laid_junction_wire_table)] }
def WireDeliversSaid : Prop := wireDeliversRow.holds Tryd.pinned (OpenSpec.ofChange wireDeliversSpec)

/-- ITS FALSE NEIGHBOUR: 'it returns false'. Refute it at one input. -/
def wireDeliversWrong : ChangeSpec := { name := "wireDelivers", fn := fun _ => fun
  | [d] => { results := [.lit (.bool false)], args := [d] }
  | _ => none }
def WireDeliversWrongFalsely : Prop := wireDeliversRow.holds Tryd.pinned (OpenSpec.ofChange wireDeliversWrong)

/-- 'junctionlaw17.WireEnds': WHATEVER THE INPUT: true; the input reads as it did. -/
def wireEndsSpec : ChangeSpec := { name := "wireEnds", fn := fun _ => fun
  | [d] => { results := [.lit (.bool true)], args := [d] }
  | _ => none }
def wireEndsRow : OpenClaim := { program := "ytindglcpailjgaadoor", sum := "b589daa333edfeb4ff24c390dc46f365397fc218ce325114d66c9a9509c13169", func := "junction/junctionlaw17.WireEnds", spec := "wireEnds", unfollowed := true, recurses := true, named := ["junction/wire.table"], apart := false, laid := [("junction/wire.table", laid_junction_wire_table)] }
def WireEndsSaid : Prop := wireEndsRow.holds Tryd.pinned (OpenSpec.ofChange wireEndsSpec)

/-- ITS FALSE NEIGHBOUR: 'it returns false'. Refute it at one input. -/
def wireEndsWrong : ChangeSpec := { name := "wireEnds", fn := fun _ => fun
  | [d] => { results := [.lit (.bool false)], args := [d] }
  | _ => none }
def WireEndsWrongFalsely : Prop := wireEndsRow.holds Tryd.pinned (OpenSpec.ofChange wireEndsWrong)

/-- 'junctionlaw17.WireUploads': WHATEVER THE INPUT: true; the input reads as it did. -/
def wireUploadsSpec : ChangeSpec := { name := "wireUploads", fn := fun _ => fun
  | [d1, d2] => { results := [.lit (.bool true)], args := [d1, d2] }
  | _ => none }
def wireUploadsRow : OpenClaim := { program := "ytindglcpailjgaadoor", sum := "b589daa333edfeb4ff24c390dc46f365397fc218ce325114d66c9a9509c13169", func := "junction/junctionlaw17.WireUploads", spec := "wireUploads", unfollowed := true, recurses := true, named := ["junction/wire.table"], apart := false, laid := [("junction/wire.table", laid_junction_wire_table)] }
def WireUploadsSaid : Prop := wireUploadsRow.holds Tryd.pinned (OpenSpec.ofChange wireUploadsSpec)

/-- ITS FALSE NEIGHBOUR: 'it returns false'. Refute it at one input. -/
def wireUploadsWrong : ChangeSpec := { name := "wireUploads", fn := fun _ => fun
  | [d1, d2] => { results := [.lit (.bool false)], args := [d1, d2] }
  | _ => none }
def WireUploadsWrongFalsely : Prop := wireUploadsRow.holds Tryd.pinned (OpenSpec.ofChange wireUploadsWrong)

/- THE SECOND FORM. 'bulk': how many values and letters a reading holds, each counted each time it is reached (what is shared counts as often as it is met; a slice's spare places count too). A statement '..UptoSaid' is the law's where the arguments, and the package variables that the reading takes, are together of bulk at most 1048576: NARROWER than '..Said'. Prove '..Said' where nothing that the law and all that it calls make is longer than what came in: it says more and counts as full. Else prove '..UptoSaid'. A law counts once. -/
mutual
def uptoBulk {H : Type} : DataW H → Nat
  | .lit (.string bytes) => bytes.length + 1
  | .lit _ => 1
  | .nil => 1
  | .ptr d => uptoBulk d + 1
  | .slice elems spare => uptoBulkAll elems + uptoBulkAll spare + 1
  | .agg parts => uptoBulkAll parts + 1
  | .iface _ d => uptoBulk d + 1
  | .map entries => uptoBulkEntries entries + 1
  | .held _ => 1
def uptoBulkAll {H : Type} : List (DataW H) → Nat
  | [] => 0
  | d :: r => uptoBulk d + uptoBulkAll r
def uptoBulkEntries {H : Type} : List (Lit × DataW H) → Nat
  | [] => 0
  | x :: r => uptoBulkEntry x + uptoBulkEntries r
def uptoBulkEntry {H : Type} : Lit × DataW H → Nat
  | (.string bytes, d) => bytes.length + uptoBulk d + 1
  | (_, d) => uptoBulk d + 1
 end
def uptoSmall : (H : Type) → List (DataW H) → Bool := fun _ ds => decide (uptoBulkAll ds ≤ 1048576)
def OpenSpec.upto (s : _root_.Go.ChangeSpec) : _root_.Go.OpenSpec := { _root_.Go.OpenSpec.ofChange s with cond := some uptoSmall }

/-- 'junctionlaw17.WireStuffs', WHERE WHAT IT READS IS OF BULK AT MOST 1048576: true; the input reads as it did. -/
def wireStuffsUptoRow : OpenClaim := { program := "ytindglcpailjgaadoor", sum := "b589daa333edfeb4ff24c390dc46f365397fc218ce325114d66c9a9509c13169", func := "junction/junctionlaw17.WireStuffs", spec := "wireStuffs", named := ["junction/wire.table"], apart := false, laid := [("junction/wire.table", laid_junction_wire_table)], narrowed := true }
def WireStuffsUptoSaid : Prop := wireStuffsUptoRow.holds Tryd.pinned (OpenSpec.upto wireStuffsSpec)

/-- 'junctionlaw17.WireFrames', WHERE WHAT IT READS IS OF BULK AT MOST 1048576: true; the input reads as it did. -/
def wireFramesUptoRow : OpenClaim := { program := "ytindglcpailjgaadoor", sum := "b589daa333edfeb4ff24c390dc46f365397fc218ce325114d66c9a9509c13169", func := "junction/junctionlaw17.WireFrames", spec := "wireFrames", named := ["junction/wire.table"], apart := false, laid := [("junction/wire.table", laid_junction_wire_table)], narrowed := true }
def WireFramesUptoSaid : Prop := wireFramesUptoRow.holds Tryd.pinned (OpenSpec.upto wireFramesSpec)

/-- 'junctionlaw17.WireBurst', WHERE WHAT IT READS IS OF BULK AT MOST 1048576: true; the input reads as it did. -/
def wireBurstUptoRow : OpenClaim := { program := "ytindglcpailjgaadoor", sum := "b589daa333edfeb4ff24c390dc46f365397fc218ce325114d66c9a9509c13169", func := "junction/junctionlaw17.WireBurst", spec := "wireBurst", named := ["junction/wire.table"], apart := false, laid := [("junction/wire.table", laid_junction_wire_table)], narrowed := true }
def WireBurstUptoSaid : Prop := wireBurstUptoRow.holds Tryd.pinned (OpenSpec.upto wireBurstSpec)

/-- 'junctionlaw17.WireBack', WHERE WHAT IT READS IS OF BULK AT MOST 1048576: true; the input reads as it did. -/
def wireBackUptoRow : OpenClaim := { program := "ytindglcpailjgaadoor", sum := "b589daa333edfeb4ff24c390dc46f365397fc218ce325114d66c9a9509c13169", func := "junction/junctionlaw17.WireBack", spec := "wireBack", named := ["junction/wire.table"], apart := false, laid := [("junction/wire.table", laid_junction_wire_table)], narrowed := true }
def WireBackUptoSaid : Prop := wireBackUptoRow.holds Tryd.pinned (OpenSpec.upto wireBackSpec)

/-- 'junctionlaw17.WireDelivers', WHERE WHAT IT READS IS OF BULK AT MOST 1048576: true; the input reads as it did. -/
def wireDeliversUptoRow : OpenClaim := { program := "ytindglcpailjgaadoor", sum := "b589daa333edfeb4ff24c390dc46f365397fc218ce325114d66c9a9509c13169", func := "junction/junctionlaw17.WireDelivers", spec := "wireDelivers", unfollowed := true, recurses := true, named := ["junction/wire.table"], apart := false, laid := [("junction/wire.table", laid_junction_wire_table)], narrowed := true }
def WireDeliversUptoSaid : Prop := wireDeliversUptoRow.holds Tryd.pinned (OpenSpec.upto wireDeliversSpec)

/-- 'junctionlaw17.WireEnds', WHERE WHAT IT READS IS OF BULK AT MOST 1048576: true; the input reads as it did. -/
def wireEndsUptoRow : OpenClaim := { program := "ytindglcpailjgaadoor", sum := "b589daa333edfeb4ff24c390dc46f365397fc218ce325114d66c9a9509c13169", func := "junction/junctionlaw17.WireEnds", spec := "wireEnds", unfollowed := true, recurses := true, named := ["junction/wire.table"], apart := false, laid := [("junction/wire.table", laid_junction_wire_table)], narrowed := true }
def WireEndsUptoSaid : Prop := wireEndsUptoRow.holds Tryd.pinned (OpenSpec.upto wireEndsSpec)

/-- 'junctionlaw17.WireUploads', WHERE WHAT IT READS IS OF BULK AT MOST 1048576: true; the input reads as it did. -/
def wireUploadsUptoRow : OpenClaim := { program := "ytindglcpailjgaadoor", sum := "b589daa333edfeb4ff24c390dc46f365397fc218ce325114d66c9a9509c13169", func := "junction/junctionlaw17.WireUploads", spec := "wireUploads", unfollowed := true, recurses := true, named := ["junction/wire.table"], apart := false, laid := [("junction/wire.table", laid_junction_wire_table)], narrowed := true }
def WireUploadsUptoSaid : Prop := wireUploadsUptoRow.holds Tryd.pinned (OpenSpec.upto wireUploadsSpec)

end Rows
end Go.Proofs.YtindglcpailjgaaDoor
