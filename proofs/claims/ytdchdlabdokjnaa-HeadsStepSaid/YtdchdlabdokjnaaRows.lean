/-
  No cell of these rows narrows 'for every input' (looked for: loops, veiled, ifaces, maps, wideKeys, modest, calm, conditions, laid).
  DERIVED. THE GIVEN ROWS OF THIS SEAT. 9 by the template 'for every input the law returns true; each argument reads behind the call as it read before'; 0 by the template 'total and deterministic' (their statements: YtdchdlabdokjnaaTotals.lean).
  GIVEN WITH THE SEED: the statements are not yours to turn. If you find one false, say at which input.
  Laid BY PROGRAM, IN A SANDBOX (cutbox-rows.mjs): the forced cells as the released guide's own fill.sh prints them over the translation 0e4f28d6da4083cc… (all of the seat's roots in one cut). By AI agents, Wed Nov 11 2026. No macro, syntax, notation, axiom, sorry.
-/
import Derived.Test.YtdchdlabdokjnaaChecked
import GoSem.Claim
import GoSem.ClaimJoined
import GoSem.ClaimMapViews
import Derived.JoinedTies
import Derived.KernelRfl
namespace Go.Proofs.Ytdchdlabdokjnaa
/- THE CELL 'sum', in the pinned program and in every row, IS THE sha256 OF THE DUMP (.gsa) THAT YtdchdlabdokjnaaProg.lean LOADS. Nothing in Lean hashes anything: it is a label: what it is worth is what the hold of that sum in a sandbox is worth. -/
noncomputable def Try.pinned : Pinned := { name := "ytdchdlabdokjnaa", sum := "0e4f28d6da4083cc73a988fb42ac46eea8d54425076eb2eb538177de46317d60", checked := Try.checked }
namespace Rows
def none {H : Type} : Left H := { results := [], args := [] }

/-- 'junctionlaw7.HeadsAsks': WHATEVER THE INPUT: true; the input reads as it did. -/
def headsAsksSpec : ChangeSpec := { name := "headsAsks", fn := fun _ => fun
  | [d1, d2, d3] => { results := [.lit (.bool true)], args := [d1, d2, d3] }
  | _ => none }
def headsAsksRow : OpenClaim := { program := "ytdchdlabdokjnaa", sum := "0e4f28d6da4083cc73a988fb42ac46eea8d54425076eb2eb538177de46317d60", func := "junction/junctionlaw7.HeadsAsks", spec := "headsAsks", apart := false }
def HeadsAsksSaid : Prop := headsAsksRow.holds Try.pinned (OpenSpec.ofChange headsAsksSpec)

/-- ITS FALSE NEIGHBOUR: 'it returns false'. Refute it at one input. -/
def headsAsksWrong : ChangeSpec := { name := "headsAsks", fn := fun _ => fun
  | [d1, d2, d3] => { results := [.lit (.bool false)], args := [d1, d2, d3] }
  | _ => none }
def HeadsAsksWrongFalsely : Prop := headsAsksRow.holds Try.pinned (OpenSpec.ofChange headsAsksWrong)

/-- 'junctionlaw7.HeadsRun': WHATEVER THE INPUT: true; the input reads as it did. -/
def headsRunSpec : ChangeSpec := { name := "headsRun", fn := fun _ => fun
  | [d1, d2] => { results := [.lit (.bool true)], args := [d1, d2] }
  | _ => none }
def headsRunRow : OpenClaim := { program := "ytdchdlabdokjnaa", sum := "0e4f28d6da4083cc73a988fb42ac46eea8d54425076eb2eb538177de46317d60", func := "junction/junctionlaw7.HeadsRun", spec := "headsRun", unfollowed := true, recurses := true, apart := false }
def HeadsRunSaid : Prop := headsRunRow.holds Try.pinned (OpenSpec.ofChange headsRunSpec)

/-- ITS FALSE NEIGHBOUR: 'it returns false'. Refute it at one input. -/
def headsRunWrong : ChangeSpec := { name := "headsRun", fn := fun _ => fun
  | [d1, d2] => { results := [.lit (.bool false)], args := [d1, d2] }
  | _ => none }
def HeadsRunWrongFalsely : Prop := headsRunRow.holds Try.pinned (OpenSpec.ofChange headsRunWrong)

/-- 'junctionlaw7.HeadsSafe': WHATEVER THE INPUT: true; the input reads as it did. -/
def headsSafeSpec : ChangeSpec := { name := "headsSafe", fn := fun _ => fun
  | [d1, d2] => { results := [.lit (.bool true)], args := [d1, d2] }
  | _ => none }
def headsSafeRow : OpenClaim := { program := "ytdchdlabdokjnaa", sum := "0e4f28d6da4083cc73a988fb42ac46eea8d54425076eb2eb538177de46317d60", func := "junction/junctionlaw7.HeadsSafe", spec := "headsSafe", unfollowed := true, recurses := true, apart := false }
def HeadsSafeSaid : Prop := headsSafeRow.holds Try.pinned (OpenSpec.ofChange headsSafeSpec)

/-- ITS FALSE NEIGHBOUR: 'it returns false'. Refute it at one input. -/
def headsSafeWrong : ChangeSpec := { name := "headsSafe", fn := fun _ => fun
  | [d1, d2] => { results := [.lit (.bool false)], args := [d1, d2] }
  | _ => none }
def HeadsSafeWrongFalsely : Prop := headsSafeRow.holds Try.pinned (OpenSpec.ofChange headsSafeWrong)

/-- 'junctionlaw7.HeadsSeam': WHATEVER THE INPUT: true; the input reads as it did. -/
def headsSeamSpec : ChangeSpec := { name := "headsSeam", fn := fun _ => fun
  | [d1, d2, d3] => { results := [.lit (.bool true)], args := [d1, d2, d3] }
  | _ => none }
def headsSeamRow : OpenClaim := { program := "ytdchdlabdokjnaa", sum := "0e4f28d6da4083cc73a988fb42ac46eea8d54425076eb2eb538177de46317d60", func := "junction/junctionlaw7.HeadsSeam", spec := "headsSeam", unfollowed := true, recurses := true, apart := false }
def HeadsSeamSaid : Prop := headsSeamRow.holds Try.pinned (OpenSpec.ofChange headsSeamSpec)

/-- ITS FALSE NEIGHBOUR: 'it returns false'. Refute it at one input. -/
def headsSeamWrong : ChangeSpec := { name := "headsSeam", fn := fun _ => fun
  | [d1, d2, d3] => { results := [.lit (.bool false)], args := [d1, d2, d3] }
  | _ => none }
def HeadsSeamWrongFalsely : Prop := headsSeamRow.holds Try.pinned (OpenSpec.ofChange headsSeamWrong)

/-- 'junctionlaw7.HeadsKept': WHATEVER THE INPUT: true; the input reads as it did. -/
def headsKeptSpec : ChangeSpec := { name := "headsKept", fn := fun _ => fun
  | [d1, d2, d3] => { results := [.lit (.bool true)], args := [d1, d2, d3] }
  | _ => none }
def headsKeptRow : OpenClaim := { program := "ytdchdlabdokjnaa", sum := "0e4f28d6da4083cc73a988fb42ac46eea8d54425076eb2eb538177de46317d60", func := "junction/junctionlaw7.HeadsKept", spec := "headsKept", unfollowed := true, recurses := true, apart := false }
def HeadsKeptSaid : Prop := headsKeptRow.holds Try.pinned (OpenSpec.ofChange headsKeptSpec)

/-- ITS FALSE NEIGHBOUR: 'it returns false'. Refute it at one input. -/
def headsKeptWrong : ChangeSpec := { name := "headsKept", fn := fun _ => fun
  | [d1, d2, d3] => { results := [.lit (.bool false)], args := [d1, d2, d3] }
  | _ => none }
def HeadsKeptWrongFalsely : Prop := headsKeptRow.holds Try.pinned (OpenSpec.ofChange headsKeptWrong)

/-- 'junctionlaw7.HeadsApart': WHATEVER THE INPUT: true; the input reads as it did. -/
def headsApartSpec : ChangeSpec := { name := "headsApart", fn := fun _ => fun
  | [d1, d2, d3, d4] => { results := [.lit (.bool true)], args := [d1, d2, d3, d4] }
  | _ => none }
def headsApartRow : OpenClaim := { program := "ytdchdlabdokjnaa", sum := "0e4f28d6da4083cc73a988fb42ac46eea8d54425076eb2eb538177de46317d60", func := "junction/junctionlaw7.HeadsApart", spec := "headsApart", unfollowed := true, recurses := true, apart := false }
def HeadsApartSaid : Prop := headsApartRow.holds Try.pinned (OpenSpec.ofChange headsApartSpec)

/-- ITS FALSE NEIGHBOUR: 'it returns false'. Refute it at one input. -/
def headsApartWrong : ChangeSpec := { name := "headsApart", fn := fun _ => fun
  | [d1, d2, d3, d4] => { results := [.lit (.bool false)], args := [d1, d2, d3, d4] }
  | _ => none }
def HeadsApartWrongFalsely : Prop := headsApartRow.holds Try.pinned (OpenSpec.ofChange headsApartWrong)

/-- 'junctionlaw7.HeadsStep': WHATEVER THE INPUT: true; the input reads as it did. -/
def headsStepSpec : ChangeSpec := { name := "headsStep", fn := fun _ => fun
  | [d1, d2, d3] => { results := [.lit (.bool true)], args := [d1, d2, d3] }
  | _ => none }
def headsStepRow : OpenClaim := { program := "ytdchdlabdokjnaa", sum := "0e4f28d6da4083cc73a988fb42ac46eea8d54425076eb2eb538177de46317d60", func := "junction/junctionlaw7.HeadsStep", spec := "headsStep", unfollowed := true, recurses := true, apart := false }
def HeadsStepSaid : Prop := headsStepRow.holds Try.pinned (OpenSpec.ofChange headsStepSpec)

/-- ITS FALSE NEIGHBOUR: 'it returns false'. Refute it at one input. -/
def headsStepWrong : ChangeSpec := { name := "headsStep", fn := fun _ => fun
  | [d1, d2, d3] => { results := [.lit (.bool false)], args := [d1, d2, d3] }
  | _ => none }
def HeadsStepWrongFalsely : Prop := headsStepRow.holds Try.pinned (OpenSpec.ofChange headsStepWrong)

/-- 'junctionlaw7.HeadsLists': WHATEVER THE INPUT: true; the input reads as it did. -/
def headsListsSpec : ChangeSpec := { name := "headsLists", fn := fun _ => fun
  | [d1, d2] => { results := [.lit (.bool true)], args := [d1, d2] }
  | _ => none }
def headsListsRow : OpenClaim := { program := "ytdchdlabdokjnaa", sum := "0e4f28d6da4083cc73a988fb42ac46eea8d54425076eb2eb538177de46317d60", func := "junction/junctionlaw7.HeadsLists", spec := "headsLists", unfollowed := true, recurses := true, apart := false }
def HeadsListsSaid : Prop := headsListsRow.holds Try.pinned (OpenSpec.ofChange headsListsSpec)

/-- ITS FALSE NEIGHBOUR: 'it returns false'. Refute it at one input. -/
def headsListsWrong : ChangeSpec := { name := "headsLists", fn := fun _ => fun
  | [d1, d2] => { results := [.lit (.bool false)], args := [d1, d2] }
  | _ => none }
def HeadsListsWrongFalsely : Prop := headsListsRow.holds Try.pinned (OpenSpec.ofChange headsListsWrong)

/-- 'junctionlaw7.HeadsSettle': WHATEVER THE INPUT: true; the input reads as it did. -/
def headsSettleSpec : ChangeSpec := { name := "headsSettle", fn := fun _ => fun
  | [d1, d2, d3] => { results := [.lit (.bool true)], args := [d1, d2, d3] }
  | _ => none }
def headsSettleRow : OpenClaim := { program := "ytdchdlabdokjnaa", sum := "0e4f28d6da4083cc73a988fb42ac46eea8d54425076eb2eb538177de46317d60", func := "junction/junctionlaw7.HeadsSettle", spec := "headsSettle", unfollowed := true, recurses := true, apart := false }
def HeadsSettleSaid : Prop := headsSettleRow.holds Try.pinned (OpenSpec.ofChange headsSettleSpec)

/-- ITS FALSE NEIGHBOUR: 'it returns false'. Refute it at one input. -/
def headsSettleWrong : ChangeSpec := { name := "headsSettle", fn := fun _ => fun
  | [d1, d2, d3] => { results := [.lit (.bool false)], args := [d1, d2, d3] }
  | _ => none }
def HeadsSettleWrongFalsely : Prop := headsSettleRow.holds Try.pinned (OpenSpec.ofChange headsSettleWrong)

/- THE SECOND FORM. 'bulk': how many values and letters a reading holds, each counted each time it is reached (what is shared counts as often as it is met; a slice's spare places count too). A statement '..UptoSaid' is the law's where the arguments, and the package variables that the reading takes, are together of bulk at most 1048576: NARROWER than '..Said'. Prove '..Said' where nothing that the law and all that it calls make is longer than what came in: it says more and counts as full. Else prove '..UptoSaid'. A law counts once. -/
mutual
def uptoBulk {H : Type} : DataW H → Nat
  | .lit (.string bytes) => bytes.length + 1
  | .lit _ => 1
  | .nil => 1
  | .ptr d => uptoBulk d + 1
  | .slice elems spare => uptoBulkAll elems + uptoBulkAll spare + 1
  | .agg parts => uptoBulkAll parts + 1
  | .iface _ d => uptoBulk d + 1
  | .map entries => uptoBulkEntries entries + 1
  | .held _ => 1
def uptoBulkAll {H : Type} : List (DataW H) → Nat
  | [] => 0
  | d :: r => uptoBulk d + uptoBulkAll r
def uptoBulkEntries {H : Type} : List (Lit × DataW H) → Nat
  | [] => 0
  | x :: r => uptoBulkEntry x + uptoBulkEntries r
def uptoBulkEntry {H : Type} : Lit × DataW H → Nat
  | (.string bytes, d) => bytes.length + uptoBulk d + 1
  | (_, d) => uptoBulk d + 1
 end
def uptoSmall : (H : Type) → List (DataW H) → Bool := fun _ ds => decide (uptoBulkAll ds ≤ 1048576)
def OpenSpec.upto (s : _root_.Go.ChangeSpec) : _root_.Go.OpenSpec := { _root_.Go.OpenSpec.ofChange s with cond := some uptoSmall }

/-- 'junctionlaw7.HeadsAsks', WHERE WHAT IT READS IS OF BULK AT MOST 1048576: true; the input reads as it did. -/
def headsAsksUptoRow : OpenClaim := { program := "ytdchdlabdokjnaa", sum := "0e4f28d6da4083cc73a988fb42ac46eea8d54425076eb2eb538177de46317d60", func := "junction/junctionlaw7.HeadsAsks", spec := "headsAsks", apart := false, narrowed := true }
def HeadsAsksUptoSaid : Prop := headsAsksUptoRow.holds Try.pinned (OpenSpec.upto headsAsksSpec)

/-- 'junctionlaw7.HeadsRun', WHERE WHAT IT READS IS OF BULK AT MOST 1048576: true; the input reads as it did. -/
def headsRunUptoRow : OpenClaim := { program := "ytdchdlabdokjnaa", sum := "0e4f28d6da4083cc73a988fb42ac46eea8d54425076eb2eb538177de46317d60", func := "junction/junctionlaw7.HeadsRun", spec := "headsRun", unfollowed := true, recurses := true, apart := false, narrowed := true }
def HeadsRunUptoSaid : Prop := headsRunUptoRow.holds Try.pinned (OpenSpec.upto headsRunSpec)

/-- 'junctionlaw7.HeadsSafe', WHERE WHAT IT READS IS OF BULK AT MOST 1048576: true; the input reads as it did. -/
def headsSafeUptoRow : OpenClaim := { program := "ytdchdlabdokjnaa", sum := "0e4f28d6da4083cc73a988fb42ac46eea8d54425076eb2eb538177de46317d60", func := "junction/junctionlaw7.HeadsSafe", spec := "headsSafe", unfollowed := true, recurses := true, apart := false, narrowed := true }
def HeadsSafeUptoSaid : Prop := headsSafeUptoRow.holds Try.pinned (OpenSpec.upto headsSafeSpec)

/-- 'junctionlaw7.HeadsSeam', WHERE WHAT IT READS IS OF BULK AT MOST 1048576: true; the input reads as it did. -/
def headsSeamUptoRow : OpenClaim := { program := "ytdchdlabdokjnaa", sum := "0e4f28d6da4083cc73a988fb42ac46eea8d54425076eb2eb538177de46317d60", func := "junction/junctionlaw7.HeadsSeam", spec := "headsSeam", unfollowed := true, recurses := true, apart := false, narrowed := true }
def HeadsSeamUptoSaid : Prop := headsSeamUptoRow.holds Try.pinned (OpenSpec.upto headsSeamSpec)

/-- 'junctionlaw7.HeadsKept', WHERE WHAT IT READS IS OF BULK AT MOST 1048576: true; the input reads as it did. -/
def headsKeptUptoRow : OpenClaim := { program := "ytdchdlabdokjnaa", sum := "0e4f28d6da4083cc73a988fb42ac46eea8d54425076eb2eb538177de46317d60", func := "junction/junctionlaw7.HeadsKept", spec := "headsKept", unfollowed := true, recurses := true, apart := false, narrowed := true }
def HeadsKeptUptoSaid : Prop := headsKeptUptoRow.holds Try.pinned (OpenSpec.upto headsKeptSpec)

/-- 'junctionlaw7.HeadsApart', WHERE WHAT IT READS IS OF BULK AT MOST 1048576: true; the input reads as it did. -/
def headsApartUptoRow : OpenClaim := { program := "ytdchdlabdokjnaa", sum := "0e4f28d6da4083cc73a988fb42ac46eea8d54425076eb2eb538177de46317d60", func := "junction/junctionlaw7.HeadsApart", spec := "headsApart", unfollowed := true, recurses := true, apart := false, narrowed := true }
def HeadsApartUptoSaid : Prop := headsApartUptoRow.holds Try.pinned (OpenSpec.upto headsApartSpec)

/-- 'junctionlaw7.HeadsStep', WHERE WHAT IT READS IS OF BULK AT MOST 1048576: true; the input reads as it did. -/
def headsStepUptoRow : OpenClaim := { program := "ytdchdlabdokjnaa", sum := "0e4f28d6da4083cc73a988fb42ac46eea8d54425076eb2eb538177de46317d60", func := "junction/junctionlaw7.HeadsStep", spec := "headsStep", unfollowed := true, recurses := true, apart := false, narrowed := true }
def HeadsStepUptoSaid : Prop := headsStepUptoRow.holds Try.pinned (OpenSpec.upto headsStepSpec)

/-- 'junctionlaw7.HeadsLists', WHERE WHAT IT READS IS OF BULK AT MOST 1048576: true; the input reads as it did. -/
def headsListsUptoRow : OpenClaim := { program := "ytdchdlabdokjnaa", sum := "0e4f28d6da4083cc73a988fb42ac46eea8d54425076eb2eb538177de46317d60", func := "junction/junctionlaw7.HeadsLists", spec := "headsLists", unfollowed := true, recurses := true, apart := false, narrowed := true }
def HeadsListsUptoSaid : Prop := headsListsUptoRow.holds Try.pinned (OpenSpec.upto headsListsSpec)

/-- 'junctionlaw7.HeadsSettle', WHERE WHAT IT READS IS OF BULK AT MOST 1048576: true; the input reads as it did. -/
def headsSettleUptoRow : OpenClaim := { program := "ytdchdlabdokjnaa", sum := "0e4f28d6da4083cc73a988fb42ac46eea8d54425076eb2eb538177de46317d60", func := "junction/junctionlaw7.HeadsSettle", spec := "headsSettle", unfollowed := true, recurses := true, apart := false, narrowed := true }
def HeadsSettleUptoSaid : Prop := headsSettleUptoRow.holds Try.pinned (OpenSpec.upto headsSettleSpec)

end Rows
end Go.Proofs.Ytdchdlabdokjnaa
