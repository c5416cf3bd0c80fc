/-
  No cell of these rows narrows 'for every input' (looked for: loops, veiled, ifaces, maps, wideKeys, modest, calm, conditions, laid).
  DERIVED. THE GIVEN ROWS OF THIS SEAT. 4 by the template 'for every input the law returns true; each argument reads behind the call as it read before'; 0 by the template 'total and deterministic' (their statements: YthbenlhmaidpaaaTotals.lean).
  GIVEN WITH THE SEED: the statements are not yours to turn. If you find one false, say at which input.
  Laid BY PROGRAM, IN A SANDBOX (cutbox-rows.mjs): the forced cells as the released guide's own fill.sh prints them over the translation 7b27b5c7ef84db52… (all of the seat's roots in one cut). By AI agents, Wed Nov 11 2026. No macro, syntax, notation, axiom, sorry.
-/
import Derived.Test.YthbenlhmaidpaaaChecked
import GoSem.Claim
import GoSem.ClaimJoined
import GoSem.ClaimMapViews
import Derived.JoinedTies
import Derived.KernelRfl
namespace Go.Proofs.Ythbenlhmaidpaaa
/- THE CELL 'sum', in the pinned program and in every row, IS THE sha256 OF THE DUMP (.gsa) THAT YthbenlhmaidpaaaProg.lean LOADS. Nothing in Lean hashes anything: it is a label: what it is worth is what the hold of that sum in a sandbox is worth. -/
noncomputable def Try.pinned : Pinned := { name := "ythbenlhmaidpaaa", sum := "7b27b5c7ef84db5243c49ce69dadd753f4cd8cfda8643d4142cf16c119187d02", checked := Try.checked }
namespace Rows
def none {H : Type} : Left H := { results := [], args := [] }

/-- 'junctionlaw10.RomSum': WHATEVER THE INPUT: true; the input reads as it did. -/
def romSumSpec : ChangeSpec := { name := "romSum", fn := fun _ => fun
  | [d1, d2, d3] => { results := [.lit (.bool true)], args := [d1, d2, d3] }
  | _ => none }
def romSumRow : OpenClaim := { program := "ythbenlhmaidpaaa", sum := "7b27b5c7ef84db5243c49ce69dadd753f4cd8cfda8643d4142cf16c119187d02", func := "junction/junctionlaw10.RomSum", spec := "romSum", apart := false }
def RomSumSaid : Prop := romSumRow.holds Try.pinned (OpenSpec.ofChange romSumSpec)

/-- ITS FALSE NEIGHBOUR: 'it returns false'. Refute it at one input. -/
def romSumWrong : ChangeSpec := { name := "romSum", fn := fun _ => fun
  | [d1, d2, d3] => { results := [.lit (.bool false)], args := [d1, d2, d3] }
  | _ => none }
def RomSumWrongFalsely : Prop := romSumRow.holds Try.pinned (OpenSpec.ofChange romSumWrong)

/-- 'junctionlaw10.RomHex': WHATEVER THE INPUT: true; the input reads as it did. -/
def romHexSpec : ChangeSpec := { name := "romHex", fn := fun _ => fun
  | [d1, d2] => { results := [.lit (.bool true)], args := [d1, d2] }
  | _ => none }
def romHexRow : OpenClaim := { program := "ythbenlhmaidpaaa", sum := "7b27b5c7ef84db5243c49ce69dadd753f4cd8cfda8643d4142cf16c119187d02", func := "junction/junctionlaw10.RomHex", spec := "romHex", inPlace := ["internal/abi.NoEscape", "internal/bytealg.IndexByteString", "internal/bytealg.IndexString", "internal/bytealg.CountString"], named := ["internal/bytealg.MaxLen"], apart := false }
def RomHexSaid : Prop := romHexRow.holds Try.pinned (OpenSpec.ofChange romHexSpec)

/-- ITS FALSE NEIGHBOUR: 'it returns false'. Refute it at one input. -/
def romHexWrong : ChangeSpec := { name := "romHex", fn := fun _ => fun
  | [d1, d2] => { results := [.lit (.bool false)], args := [d1, d2] }
  | _ => none }
def RomHexWrongFalsely : Prop := romHexRow.holds Try.pinned (OpenSpec.ofChange romHexWrong)

/-- 'junctionlaw10.RomHexBack': WHATEVER THE INPUT: true; the input reads as it did. -/
def romHexBackSpec : ChangeSpec := { name := "romHexBack", fn := fun _ => fun
  | [d1, d2, d3, d4] => { results := [.lit (.bool true)], args := [d1, d2, d3, d4] }
  | _ => none }
def romHexBackRow : OpenClaim := { program := "ythbenlhmaidpaaa", sum := "7b27b5c7ef84db5243c49ce69dadd753f4cd8cfda8643d4142cf16c119187d02", func := "junction/junctionlaw10.RomHexBack", spec := "romHexBack", inPlace := ["internal/abi.NoEscape", "internal/bytealg.IndexByteString", "internal/bytealg.IndexString", "internal/bytealg.CountString"], named := ["internal/bytealg.MaxLen"], apart := false }
def RomHexBackSaid : Prop := romHexBackRow.holds Try.pinned (OpenSpec.ofChange romHexBackSpec)

/-- ITS FALSE NEIGHBOUR: 'it returns false'. Refute it at one input. -/
def romHexBackWrong : ChangeSpec := { name := "romHexBack", fn := fun _ => fun
  | [d1, d2, d3, d4] => { results := [.lit (.bool false)], args := [d1, d2, d3, d4] }
  | _ => none }
def RomHexBackWrongFalsely : Prop := romHexBackRow.holds Try.pinned (OpenSpec.ofChange romHexBackWrong)

/-- 'junctionlaw10.RomHexDigit': WHATEVER THE INPUT: true; the input reads as it did. -/
def romHexDigitSpec : ChangeSpec := { name := "romHexDigit", fn := fun _ => fun
  | [d1, d2, d3] => { results := [.lit (.bool true)], args := [d1, d2, d3] }
  | _ => none }
def romHexDigitRow : OpenClaim := { program := "ythbenlhmaidpaaa", sum := "7b27b5c7ef84db5243c49ce69dadd753f4cd8cfda8643d4142cf16c119187d02", func := "junction/junctionlaw10.RomHexDigit", spec := "romHexDigit", inPlace := ["internal/abi.NoEscape", "internal/bytealg.IndexByteString", "internal/bytealg.IndexString", "internal/bytealg.CountString"], named := ["internal/bytealg.MaxLen"], apart := false }
def RomHexDigitSaid : Prop := romHexDigitRow.holds Try.pinned (OpenSpec.ofChange romHexDigitSpec)

/-- ITS FALSE NEIGHBOUR: 'it returns false'. Refute it at one input. -/
def romHexDigitWrong : ChangeSpec := { name := "romHexDigit", fn := fun _ => fun
  | [d1, d2, d3] => { results := [.lit (.bool false)], args := [d1, d2, d3] }
  | _ => none }
def RomHexDigitWrongFalsely : Prop := romHexDigitRow.holds Try.pinned (OpenSpec.ofChange romHexDigitWrong)

/- THE SECOND FORM. 'bulk': how many values and letters a reading holds, each counted each time it is reached (what is shared counts as often as it is met; a slice's spare places count too). A statement '..UptoSaid' is the law's where the arguments, and the package variables that the reading takes, are together of bulk at most 1048576: NARROWER than '..Said'. Prove '..Said' where nothing that the law and all that it calls make is longer than what came in: it says more and counts as full. Else prove '..UptoSaid'. A law counts once. -/
mutual
def uptoBulk {H : Type} : DataW H → Nat
  | .lit (.string bytes) => bytes.length + 1
  | .lit _ => 1
  | .nil => 1
  | .ptr d => uptoBulk d + 1
  | .slice elems spare => uptoBulkAll elems + uptoBulkAll spare + 1
  | .agg parts => uptoBulkAll parts + 1
  | .iface _ d => uptoBulk d + 1
  | .map entries => uptoBulkEntries entries + 1
  | .held _ => 1
def uptoBulkAll {H : Type} : List (DataW H) → Nat
  | [] => 0
  | d :: r => uptoBulk d + uptoBulkAll r
def uptoBulkEntries {H : Type} : List (Lit × DataW H) → Nat
  | [] => 0
  | x :: r => uptoBulkEntry x + uptoBulkEntries r
def uptoBulkEntry {H : Type} : Lit × DataW H → Nat
  | (.string bytes, d) => bytes.length + uptoBulk d + 1
  | (_, d) => uptoBulk d + 1
 end
def uptoSmall : (H : Type) → List (DataW H) → Bool := fun _ ds => decide (uptoBulkAll ds ≤ 1048576)
def OpenSpec.upto (s : _root_.Go.ChangeSpec) : _root_.Go.OpenSpec := { _root_.Go.OpenSpec.ofChange s with cond := some uptoSmall }

/-- 'junctionlaw10.RomSum', WHERE WHAT IT READS IS OF BULK AT MOST 1048576: true; the input reads as it did. -/
def romSumUptoRow : OpenClaim := { program := "ythbenlhmaidpaaa", sum := "7b27b5c7ef84db5243c49ce69dadd753f4cd8cfda8643d4142cf16c119187d02", func := "junction/junctionlaw10.RomSum", spec := "romSum", apart := false, narrowed := true }
def RomSumUptoSaid : Prop := romSumUptoRow.holds Try.pinned (OpenSpec.upto romSumSpec)

/-- 'junctionlaw10.RomHex', WHERE WHAT IT READS IS OF BULK AT MOST 1048576: true; the input reads as it did. -/
def romHexUptoRow : OpenClaim := { program := "ythbenlhmaidpaaa", sum := "7b27b5c7ef84db5243c49ce69dadd753f4cd8cfda8643d4142cf16c119187d02", func := "junction/junctionlaw10.RomHex", spec := "romHex", inPlace := ["internal/abi.NoEscape", "internal/bytealg.IndexByteString", "internal/bytealg.IndexString", "internal/bytealg.CountString"], named := ["internal/bytealg.MaxLen"], apart := false, narrowed := true }
def RomHexUptoSaid : Prop := romHexUptoRow.holds Try.pinned (OpenSpec.upto romHexSpec)

/-- 'junctionlaw10.RomHexBack', WHERE WHAT IT READS IS OF BULK AT MOST 1048576: true; the input reads as it did. -/
def romHexBackUptoRow : OpenClaim := { program := "ythbenlhmaidpaaa", sum := "7b27b5c7ef84db5243c49ce69dadd753f4cd8cfda8643d4142cf16c119187d02", func := "junction/junctionlaw10.RomHexBack", spec := "romHexBack", inPlace := ["internal/abi.NoEscape", "internal/bytealg.IndexByteString", "internal/bytealg.IndexString", "internal/bytealg.CountString"], named := ["internal/bytealg.MaxLen"], apart := false, narrowed := true }
def RomHexBackUptoSaid : Prop := romHexBackUptoRow.holds Try.pinned (OpenSpec.upto romHexBackSpec)

/-- 'junctionlaw10.RomHexDigit', WHERE WHAT IT READS IS OF BULK AT MOST 1048576: true; the input reads as it did. -/
def romHexDigitUptoRow : OpenClaim := { program := "ythbenlhmaidpaaa", sum := "7b27b5c7ef84db5243c49ce69dadd753f4cd8cfda8643d4142cf16c119187d02", func := "junction/junctionlaw10.RomHexDigit", spec := "romHexDigit", inPlace := ["internal/abi.NoEscape", "internal/bytealg.IndexByteString", "internal/bytealg.IndexString", "internal/bytealg.CountString"], named := ["internal/bytealg.MaxLen"], apart := false, narrowed := true }
def RomHexDigitUptoSaid : Prop := romHexDigitUptoRow.holds Try.pinned (OpenSpec.upto romHexDigitSpec)

end Rows
end Go.Proofs.Ythbenlhmaidpaaa
