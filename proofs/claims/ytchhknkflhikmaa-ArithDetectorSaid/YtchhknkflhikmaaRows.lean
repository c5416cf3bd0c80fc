/-
  No cell of these rows narrows 'for every input' (looked for: loops, veiled, ifaces, maps, wideKeys, modest, calm, conditions, laid).
  DERIVED. THE GIVEN ROWS OF THIS SEAT. 3 by the template 'for every input the law returns true; each argument reads behind the call as it read before'; 0 by the template 'total and deterministic' (their statements: YtchhknkflhikmaaTotals.lean).
  GIVEN WITH THE SEED: the statements are not yours to turn. If you find one false, say at which input.
  Laid BY PROGRAM, IN A SANDBOX (cutbox-rows.mjs): the forced cells as the released guide's own fill.sh prints them over the translation da55502f72056e0d… (all of the seat's roots in one cut). By AI agents, Wed Nov 11 2026. No macro, syntax, notation, axiom, sorry.
-/
import Derived.Test.YtchhknkflhikmaaChecked
import GoSem.Claim
import GoSem.ClaimJoined
import GoSem.ClaimMapViews
import Derived.JoinedTies
import Derived.KernelRfl
namespace Go.Proofs.Ytchhknkflhikmaa
/- THE CELL 'sum', in the pinned program and in every row, IS THE sha256 OF THE DUMP (.gsa) THAT YtchhknkflhikmaaProg.lean LOADS. Nothing in Lean hashes anything: it is a label: what it is worth is what the hold of that sum in a sandbox is worth. -/
noncomputable def Try.pinned : Pinned := { name := "ytchhknkflhikmaa", sum := "da55502f72056e0d73afc76888e07064f284df6a0dbfe5d3f9f7db1f657be3ab", checked := Try.checked }
namespace Rows
def none {H : Type} : Left H := { results := [], args := [] }

/-- 'junctionlaw1.ArithMasks': WHATEVER THE INPUT: true; the input reads as it did. -/
def arithMasksSpec : ChangeSpec := { name := "arithMasks", fn := fun _ => fun
  | [d1, d2, d3] => { results := [.lit (.bool true)], args := [d1, d2, d3] }
  | _ => none }
def arithMasksRow : OpenClaim := { program := "ytchhknkflhikmaa", sum := "da55502f72056e0d73afc76888e07064f284df6a0dbfe5d3f9f7db1f657be3ab", func := "junction/junctionlaw1.ArithMasks", spec := "arithMasks", apart := false }
def ArithMasksSaid : Prop := arithMasksRow.holds Try.pinned (OpenSpec.ofChange arithMasksSpec)

/-- ITS FALSE NEIGHBOUR: 'it returns false'. Refute it at one input. -/
def arithMasksWrong : ChangeSpec := { name := "arithMasks", fn := fun _ => fun
  | [d1, d2, d3] => { results := [.lit (.bool false)], args := [d1, d2, d3] }
  | _ => none }
def ArithMasksWrongFalsely : Prop := arithMasksRow.holds Try.pinned (OpenSpec.ofChange arithMasksWrong)

/-- 'junctionlaw1.ArithDetector': WHATEVER THE INPUT: true; the input reads as it did. -/
def arithDetectorSpec : ChangeSpec := { name := "arithDetector", fn := fun _ => fun
  | [d1, d2, d3, d4, d5] => { results := [.lit (.bool true)], args := [d1, d2, d3, d4, d5] }
  | _ => none }
def arithDetectorRow : OpenClaim := { program := "ytchhknkflhikmaa", sum := "da55502f72056e0d73afc76888e07064f284df6a0dbfe5d3f9f7db1f657be3ab", func := "junction/junctionlaw1.ArithDetector", spec := "arithDetector", apart := false }
def ArithDetectorSaid : Prop := arithDetectorRow.holds Try.pinned (OpenSpec.ofChange arithDetectorSpec)

/-- ITS FALSE NEIGHBOUR: 'it returns false'. Refute it at one input. -/
def arithDetectorWrong : ChangeSpec := { name := "arithDetector", fn := fun _ => fun
  | [d1, d2, d3, d4, d5] => { results := [.lit (.bool false)], args := [d1, d2, d3, d4, d5] }
  | _ => none }
def ArithDetectorWrongFalsely : Prop := arithDetectorRow.holds Try.pinned (OpenSpec.ofChange arithDetectorWrong)

/-- 'junctionlaw1.ArithMeters': WHATEVER THE INPUT: true; the input reads as it did. -/
def arithMetersSpec : ChangeSpec := { name := "arithMeters", fn := fun _ => fun
  | [d1, d2, d3, d4] => { results := [.lit (.bool true)], args := [d1, d2, d3, d4] }
  | _ => none }
def arithMetersRow : OpenClaim := { program := "ytchhknkflhikmaa", sum := "da55502f72056e0d73afc76888e07064f284df6a0dbfe5d3f9f7db1f657be3ab", func := "junction/junctionlaw1.ArithMeters", spec := "arithMeters", apart := false }
def ArithMetersSaid : Prop := arithMetersRow.holds Try.pinned (OpenSpec.ofChange arithMetersSpec)

/-- ITS FALSE NEIGHBOUR: 'it returns false'. Refute it at one input. -/
def arithMetersWrong : ChangeSpec := { name := "arithMeters", fn := fun _ => fun
  | [d1, d2, d3, d4] => { results := [.lit (.bool false)], args := [d1, d2, d3, d4] }
  | _ => none }
def ArithMetersWrongFalsely : Prop := arithMetersRow.holds Try.pinned (OpenSpec.ofChange arithMetersWrong)

/- THE SECOND FORM. 'bulk': how many values and letters a reading holds, each counted each time it is reached (what is shared counts as often as it is met; a slice's spare places count too). A statement '..UptoSaid' is the law's where the arguments, and the package variables that the reading takes, are together of bulk at most 1048576: NARROWER than '..Said'. Prove '..Said' where nothing that the law and all that it calls make is longer than what came in: it says more and counts as full. Else prove '..UptoSaid'. A law counts once. -/
mutual
def uptoBulk {H : Type} : DataW H → Nat
  | .lit (.string bytes) => bytes.length + 1
  | .lit _ => 1
  | .nil => 1
  | .ptr d => uptoBulk d + 1
  | .slice elems spare => uptoBulkAll elems + uptoBulkAll spare + 1
  | .agg parts => uptoBulkAll parts + 1
  | .iface _ d => uptoBulk d + 1
  | .map entries => uptoBulkEntries entries + 1
  | .held _ => 1
def uptoBulkAll {H : Type} : List (DataW H) → Nat
  | [] => 0
  | d :: r => uptoBulk d + uptoBulkAll r
def uptoBulkEntries {H : Type} : List (Lit × DataW H) → Nat
  | [] => 0
  | x :: r => uptoBulkEntry x + uptoBulkEntries r
def uptoBulkEntry {H : Type} : Lit × DataW H → Nat
  | (.string bytes, d) => bytes.length + uptoBulk d + 1
  | (_, d) => uptoBulk d + 1
 end
def uptoSmall : (H : Type) → List (DataW H) → Bool := fun _ ds => decide (uptoBulkAll ds ≤ 1048576)
def OpenSpec.upto (s : _root_.Go.ChangeSpec) : _root_.Go.OpenSpec := { _root_.Go.OpenSpec.ofChange s with cond := some uptoSmall }

/-- 'junctionlaw1.ArithMasks', WHERE WHAT IT READS IS OF BULK AT MOST 1048576: true; the input reads as it did. -/
def arithMasksUptoRow : OpenClaim := { program := "ytchhknkflhikmaa", sum := "da55502f72056e0d73afc76888e07064f284df6a0dbfe5d3f9f7db1f657be3ab", func := "junction/junctionlaw1.ArithMasks", spec := "arithMasks", apart := false, narrowed := true }
def ArithMasksUptoSaid : Prop := arithMasksUptoRow.holds Try.pinned (OpenSpec.upto arithMasksSpec)

/-- 'junctionlaw1.ArithDetector', WHERE WHAT IT READS IS OF BULK AT MOST 1048576: true; the input reads as it did. -/
def arithDetectorUptoRow : OpenClaim := { program := "ytchhknkflhikmaa", sum := "da55502f72056e0d73afc76888e07064f284df6a0dbfe5d3f9f7db1f657be3ab", func := "junction/junctionlaw1.ArithDetector", spec := "arithDetector", apart := false, narrowed := true }
def ArithDetectorUptoSaid : Prop := arithDetectorUptoRow.holds Try.pinned (OpenSpec.upto arithDetectorSpec)

/-- 'junctionlaw1.ArithMeters', WHERE WHAT IT READS IS OF BULK AT MOST 1048576: true; the input reads as it did. -/
def arithMetersUptoRow : OpenClaim := { program := "ytchhknkflhikmaa", sum := "da55502f72056e0d73afc76888e07064f284df6a0dbfe5d3f9f7db1f657be3ab", func := "junction/junctionlaw1.ArithMeters", spec := "arithMeters", apart := false, narrowed := true }
def ArithMetersUptoSaid : Prop := arithMetersUptoRow.holds Try.pinned (OpenSpec.upto arithMetersSpec)

end Rows
end Go.Proofs.Ytchhknkflhikmaa
