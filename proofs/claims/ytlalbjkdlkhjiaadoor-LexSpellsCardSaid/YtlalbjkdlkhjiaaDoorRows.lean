/-
  NARROWER THAN 'FOR EVERY INPUT', by the rows' own cells (each row's printed sentence says how): LexSpells: laid · LexGives: laid · LexScans: laid · LexPieces: laid · LexFaults: laid · LexJoins: laid · LexBack: laid.
  DERIVED. THE GIVEN ROWS OF THIS SEAT. 7 by the template 'for every input the law returns true; each argument reads behind the call as it read before'; 0 by the template 'total and deterministic' (their statements: YtlalbjkdlkhjiaaDoorTotals.lean).
  GIVEN WITH THE SEED: the statements are not yours to turn. If you find one false, say at which input.
  Laid BY PROGRAM, IN A SANDBOX (cutbox-rows.mjs): the forced cells as the released guide's own fill.sh prints them over the translation 79a224c0faecaac1… (all of the seat's roots in one cut). By AI agents, Wed Nov 11 2026. No macro, syntax, notation, axiom, sorry.
-/
import Derived.Test.YtlalbjkdlkhjiaaDoorChecked
import GoSem.Claim
import GoSem.ClaimJoined
import GoSem.ClaimMapViews
import Derived.JoinedTies
import Derived.KernelRfl
namespace Go.Proofs.YtlalbjkdlkhjiaaDoor
/- THE CELL 'sum', in the pinned program and in every row, IS THE sha256 OF THE DUMP (.gsa) THAT YtlalbjkdlkhjiaaDoorProg.lean LOADS. Nothing in Lean hashes anything: it is a label: what it is worth is what the hold of that sum in a sandbox is worth. -/
noncomputable def Tryd.pinned : Pinned := { name := "ytlalbjkdlkhjiaadoor", sum := "79a224c0faecaac12a09273da5c05846a8732472a3b505a6785a0181f4bf634f", checked := Tryd.checked }
namespace Rows
def none {H : Type} : Left H := { results := [], args := [] }

/- WHAT THE LISTED PACKAGE-LEVEL VARIABLES READ AS WHEN THE CALL BEGINS. Each datum BY PROGRAM (the guide's laid-datum.mjs) off the statement by which the dump's own 'gosem.cut.vars' lays the variable. In a bare row this is a premise. The card (YtlalbjkdlkhjiaaDoorCards.lean) ties it to the program's text. -/
def laid_junction_junctionref2_words {H : Type} : DataW H := .agg [.lit (.string [112, 108, 97, 110]), .lit (.string [99, 111, 110, 115, 116]), .lit (.string [103, 114, 111, 117, 112]), .lit (.string [118, 101, 104, 105, 99, 108, 101]), .lit (.string [112, 101, 100, 101, 115, 116, 114, 105, 97, 110]), .lit (.string [109, 105, 110]), .lit (.string [97, 109, 98, 101, 114]), .lit (.string [108, 101, 97, 100]), .lit (.string [99, 111, 110, 102, 108, 105, 99, 116]), .lit (.string [100, 101, 116, 101, 99, 116, 111, 114]), .lit (.string [108, 97, 116, 99, 104]), .lit (.string [100, 101, 108, 97, 121]), .lit (.string [104, 111, 108, 100]), .lit (.string [116, 105, 109, 101, 114]), .lit (.string [99, 111, 117, 110, 116, 101, 114]), .lit (.string [118, 97, 114]), .lit (.string [99, 111, 110, 100]), .lit (.string [115, 116, 97, 114, 116]), .lit (.string [115, 116, 97, 103, 101]), .lit (.string [103, 114, 101, 101, 110]), .lit (.string [101, 110, 116, 101, 114]), .lit (.string [100, 117, 114, 105, 110, 103]), .lit (.string [108, 101, 97, 118, 101]), .lit (.string [110, 101, 120, 116]), .lit (.string [119, 104, 101, 110]), .lit (.string [114, 101, 115, 101, 116]), .lit (.string [114, 117, 110]), .lit (.string [115, 116, 111, 112]), .lit (.string [99, 111, 117, 110, 116]), .lit (.string [99, 108, 101, 97, 114]), .lit (.string [105, 102]), .lit (.string [101, 108, 115, 101]), .lit (.string [111, 114]), .lit (.string [97, 110, 100]), .lit (.string [110, 111, 116]), .lit (.string [116, 114, 117, 101]), .lit (.string [102, 97, 108, 115, 101]), .lit (.string [101, 108, 97, 112, 115, 101, 100]), .lit (.string [114, 101, 100]), .lit (.string [109, 97, 120]), .lit (.string [97, 98, 115])]
def laid_junction_junctionref2_signs {H : Type} : DataW H := .agg [.lit (.string [123]), .lit (.string [125]), .lit (.string [40]), .lit (.string [41]), .lit (.string [44]), .lit (.string [59]), .lit (.string [61]), .lit (.string [61, 61]), .lit (.string [33, 61]), .lit (.string [60]), .lit (.string [60, 61]), .lit (.string [62]), .lit (.string [62, 61]), .lit (.string [43]), .lit (.string [45]), .lit (.string [42]), .lit (.string [47]), .lit (.string [37])]
def laid_junction_lex_words {H : Type} : DataW H := .agg [.lit (.string [112, 108, 97, 110]), .lit (.string [99, 111, 110, 115, 116]), .lit (.string [103, 114, 111, 117, 112]), .lit (.string [118, 101, 104, 105, 99, 108, 101]), .lit (.string [112, 101, 100, 101, 115, 116, 114, 105, 97, 110]), .lit (.string [109, 105, 110]), .lit (.string [97, 109, 98, 101, 114]), .lit (.string [108, 101, 97, 100]), .lit (.string [99, 111, 110, 102, 108, 105, 99, 116]), .lit (.string [100, 101, 116, 101, 99, 116, 111, 114]), .lit (.string [108, 97, 116, 99, 104]), .lit (.string [100, 101, 108, 97, 121]), .lit (.string [104, 111, 108, 100]), .lit (.string [116, 105, 109, 101, 114]), .lit (.string [99, 111, 117, 110, 116, 101, 114]), .lit (.string [118, 97, 114]), .lit (.string [99, 111, 110, 100]), .lit (.string [115, 116, 97, 114, 116]), .lit (.string [115, 116, 97, 103, 101]), .lit (.string [103, 114, 101, 101, 110]), .lit (.string [101, 110, 116, 101, 114]), .lit (.string [100, 117, 114, 105, 110, 103]), .lit (.string [108, 101, 97, 118, 101]), .lit (.string [110, 101, 120, 116]), .lit (.string [119, 104, 101, 110]), .lit (.string [114, 101, 115, 101, 116]), .lit (.string [114, 117, 110]), .lit (.string [115, 116, 111, 112]), .lit (.string [99, 111, 117, 110, 116]), .lit (.string [99, 108, 101, 97, 114]), .lit (.string [105, 102]), .lit (.string [101, 108, 115, 101]), .lit (.string [111, 114]), .lit (.string [97, 110, 100]), .lit (.string [110, 111, 116]), .lit (.string [116, 114, 117, 101]), .lit (.string [102, 97, 108, 115, 101]), .lit (.string [101, 108, 97, 112, 115, 101, 100]), .lit (.string [114, 101, 100]), .lit (.string [109, 97, 120]), .lit (.string [97, 98, 115])]
def laid_junction_lex_signs {H : Type} : DataW H := .agg [.lit (.string [123]), .lit (.string [125]), .lit (.string [40]), .lit (.string [41]), .lit (.string [44]), .lit (.string [59]), .lit (.string [61]), .lit (.string [61, 61]), .lit (.string [33, 61]), .lit (.string [60]), .lit (.string [60, 61]), .lit (.string [62]), .lit (.string [62, 61]), .lit (.string [43]), .lit (.string [45]), .lit (.string [42]), .lit (.string [47]), .lit (.string [37])]
def laid_junction_junctionlaw2_keywords {H : Type} : DataW H := .agg [.lit (.string [112, 108, 97, 110]), .lit (.string [99, 111, 110, 115, 116]), .lit (.string [103, 114, 111, 117, 112]), .lit (.string [118, 101, 104, 105, 99, 108, 101]), .lit (.string [112, 101, 100, 101, 115, 116, 114, 105, 97, 110]), .lit (.string [109, 105, 110]), .lit (.string [97, 109, 98, 101, 114]), .lit (.string [108, 101, 97, 100]), .lit (.string [99, 111, 110, 102, 108, 105, 99, 116]), .lit (.string [100, 101, 116, 101, 99, 116, 111, 114]), .lit (.string [108, 97, 116, 99, 104]), .lit (.string [100, 101, 108, 97, 121]), .lit (.string [104, 111, 108, 100]), .lit (.string [116, 105, 109, 101, 114]), .lit (.string [99, 111, 117, 110, 116, 101, 114]), .lit (.string [118, 97, 114]), .lit (.string [99, 111, 110, 100]), .lit (.string [115, 116, 97, 114, 116]), .lit (.string [115, 116, 97, 103, 101]), .lit (.string [103, 114, 101, 101, 110]), .lit (.string [101, 110, 116, 101, 114]), .lit (.string [100, 117, 114, 105, 110, 103]), .lit (.string [108, 101, 97, 118, 101]), .lit (.string [110, 101, 120, 116]), .lit (.string [119, 104, 101, 110]), .lit (.string [114, 101, 115, 101, 116]), .lit (.string [114, 117, 110]), .lit (.string [115, 116, 111, 112]), .lit (.string [99, 111, 117, 110, 116]), .lit (.string [99, 108, 101, 97, 114]), .lit (.string [105, 102]), .lit (.string [101, 108, 115, 101]), .lit (.string [111, 114]), .lit (.string [97, 110, 100]), .lit (.string [110, 111, 116]), .lit (.string [116, 114, 117, 101]), .lit (.string [102, 97, 108, 115, 101]), .lit (.string [101, 108, 97, 112, 115, 101, 100]), .lit (.string [114, 101, 100]), .lit (.string [109, 97, 120]), .lit (.string [97, 98, 115])]
def laid_junction_junctionlaw2_marks {H : Type} : DataW H := .agg [.lit (.string [123]), .lit (.string [125]), .lit (.string [40]), .lit (.string [41]), .lit (.string [44]), .lit (.string [59]), .lit (.string [61]), .lit (.string [61, 61]), .lit (.string [33, 61]), .lit (.string [60]), .lit (.string [60, 61]), .lit (.string [62]), .lit (.string [62, 61]), .lit (.string [43]), .lit (.string [45]), .lit (.string [42]), .lit (.string [47]), .lit (.string [37])]
def laid_math_bits_deBruijn32tab {H : Type} : DataW H := .agg [.lit (.int .u8 0), .lit (.int .u8 1), .lit (.int .u8 28), .lit (.int .u8 2), .lit (.int .u8 29), .lit (.int .u8 14), .lit (.int .u8 24), .lit (.int .u8 3), .lit (.int .u8 30), .lit (.int .u8 22), .lit (.int .u8 20), .lit (.int .u8 15), .lit (.int .u8 25), .lit (.int .u8 17), .lit (.int .u8 4), .lit (.int .u8 8), .lit (.int .u8 31), .lit (.int .u8 27), .lit (.int .u8 13), .lit (.int .u8 23), .lit (.int .u8 21), .lit (.int .u8 19), .lit (.int .u8 16), .lit (.int .u8 7), .lit (.int .u8 26), .lit (.int .u8 12), .lit (.int .u8 18), .lit (.int .u8 6), .lit (.int .u8 11), .lit (.int .u8 5), .lit (.int .u8 10), .lit (.int .u8 9)]
def laid_math_bits_deBruijn64tab {H : Type} : DataW H := .agg [.lit (.int .u8 0), .lit (.int .u8 1), .lit (.int .u8 56), .lit (.int .u8 2), .lit (.int .u8 57), .lit (.int .u8 49), .lit (.int .u8 28), .lit (.int .u8 3), .lit (.int .u8 61), .lit (.int .u8 58), .lit (.int .u8 42), .lit (.int .u8 50), .lit (.int .u8 38), .lit (.int .u8 29), .lit (.int .u8 17), .lit (.int .u8 4), .lit (.int .u8 62), .lit (.int .u8 47), .lit (.int .u8 59), .lit (.int .u8 36), .lit (.int .u8 45), .lit (.int .u8 43), .lit (.int .u8 51), .lit (.int .u8 22), .lit (.int .u8 53), .lit (.int .u8 39), .lit (.int .u8 33), .lit (.int .u8 30), .lit (.int .u8 24), .lit (.int .u8 18), .lit (.int .u8 12), .lit (.int .u8 5), .lit (.int .u8 63), .lit (.int .u8 55), .lit (.int .u8 48), .lit (.int .u8 27), .lit (.int .u8 60), .lit (.int .u8 41), .lit (.int .u8 37), .lit (.int .u8 16), .lit (.int .u8 46), .lit (.int .u8 35), .lit (.int .u8 44), .lit (.int .u8 21), .lit (.int .u8 52), .lit (.int .u8 32), .lit (.int .u8 23), .lit (.int .u8 11), .lit (.int .u8 54), .lit (.int .u8 26), .lit (.int .u8 40), .lit (.int .u8 15), .lit (.int .u8 34), .lit (.int .u8 20), .lit (.int .u8 31), .lit (.int .u8 10), .lit (.int .u8 25), .lit (.int .u8 14), .lit (.int .u8 19), .lit (.int .u8 9), .lit (.int .u8 13), .lit (.int .u8 8), .lit (.int .u8 7), .lit (.int .u8 6)]
def laid_internal_strconv_uint64pow10 {H : Type} : DataW H := .agg [.lit (.int .u64 1), .lit (.int .u64 10), .lit (.int .u64 100), .lit (.int .u64 1000), .lit (.int .u64 10000), .lit (.int .u64 100000), .lit (.int .u64 1000000), .lit (.int .u64 10000000), .lit (.int .u64 100000000), .lit (.int .u64 1000000000), .lit (.int .u64 10000000000), .lit (.int .u64 100000000000), .lit (.int .u64 1000000000000), .lit (.int .u64 10000000000000), .lit (.int .u64 100000000000000), .lit (.int .u64 1000000000000000), .lit (.int .u64 10000000000000000), .lit (.int .u64 100000000000000000), .lit (.int .u64 1000000000000000000), .lit (.int .u64 10000000000000000000)]

/-- 'junctionlaw2.LexSpells': WHATEVER THE INPUT: true; the input reads as it did. -/
def lexSpellsSpec : ChangeSpec := { name := "lexSpells", fn := fun _ => fun
  | [d1, d2] => { results := [.lit (.bool true)], args := [d1, d2] }
  | _ => none }
def lexSpellsRow : OpenClaim := { program := "ytlalbjkdlkhjiaadoor", sum := "79a224c0faecaac12a09273da5c05846a8732472a3b505a6785a0181f4bf634f", func := "junction/junctionlaw2.LexSpells", spec := "lexSpells", inPlace := ["internal/bytealg.IndexByteString", "internal/bytealg.IndexString"], named := ["internal/bytealg.MaxLen", "junction/lex.words", "junction/lex.signs", "junction/junctionref2.words", "junction/junctionref2.signs"], apart := false, laid := [("junction/junctionref2.words", laid_junction_junctionref2_words), ("junction/junctionref2.signs", laid_junction_junctionref2_signs), ("junction/lex.words", laid_junction_lex_words), ("junction/lex.signs", laid_junction_lex_signs)] }
def LexSpellsSaid : Prop := lexSpellsRow.holds Tryd.pinned (OpenSpec.ofChange lexSpellsSpec)

/-- ITS FALSE NEIGHBOUR: 'it returns false'. Refute it at one input. -/
def lexSpellsWrong : ChangeSpec := { name := "lexSpells", fn := fun _ => fun
  | [d1, d2] => { results := [.lit (.bool false)], args := [d1, d2] }
  | _ => none }
def LexSpellsWrongFalsely : Prop := lexSpellsRow.holds Tryd.pinned (OpenSpec.ofChange lexSpellsWrong)

/-- 'junctionlaw2.LexGives': WHATEVER THE INPUT: true; the input reads as it did. -/
def lexGivesSpec : ChangeSpec := { name := "lexGives", fn := fun _ => fun
  | [d1, d2] => { results := [.lit (.bool true)], args := [d1, d2] }
  | _ => none }
def lexGivesRow : OpenClaim := { program := "ytlalbjkdlkhjiaadoor", sum := "79a224c0faecaac12a09273da5c05846a8732472a3b505a6785a0181f4bf634f", func := "junction/junctionlaw2.LexGives", spec := "lexGives", inPlace := ["internal/bytealg.IndexByteString", "internal/bytealg.IndexString"], unfollowed := true, recurses := true, named := ["junction/junctionref2.signs", "junction/junctionref2.words", "junction/lex.words", "junction/lex.signs", "internal/bytealg.MaxLen"], apart := false, laid := [("junction/junctionref2.words", laid_junction_junctionref2_words), ("junction/junctionref2.signs", laid_junction_junctionref2_signs), ("junction/lex.words", laid_junction_lex_words), ("junction/lex.signs", laid_junction_lex_signs)] }
def LexGivesSaid : Prop := lexGivesRow.holds Tryd.pinned (OpenSpec.ofChange lexGivesSpec)

/-- ITS FALSE NEIGHBOUR: 'it returns false'. Refute it at one input. -/
def lexGivesWrong : ChangeSpec := { name := "lexGives", fn := fun _ => fun
  | [d1, d2] => { results := [.lit (.bool false)], args := [d1, d2] }
  | _ => none }
def LexGivesWrongFalsely : Prop := lexGivesRow.holds Tryd.pinned (OpenSpec.ofChange lexGivesWrong)

/-- 'junctionlaw2.LexScans': WHATEVER THE INPUT: true; the input reads as it did. -/
def lexScansSpec : ChangeSpec := { name := "lexScans", fn := fun _ => fun
  | [d] => { results := [.lit (.bool true)], args := [d] }
  | _ => none }
def lexScansRow : OpenClaim := { program := "ytlalbjkdlkhjiaadoor", sum := "79a224c0faecaac12a09273da5c05846a8732472a3b505a6785a0181f4bf634f", func := "junction/junctionlaw2.LexScans", spec := "lexScans", inPlace := ["internal/bytealg.IndexByteString", "internal/bytealg.IndexString"], unfollowed := true, recurses := true, named := ["junction/lex.words", "junction/lex.signs", "internal/bytealg.MaxLen", "junction/junctionref2.signs", "junction/junctionref2.words"], apart := false, laid := [("junction/junctionref2.words", laid_junction_junctionref2_words), ("junction/junctionref2.signs", laid_junction_junctionref2_signs), ("junction/lex.words", laid_junction_lex_words), ("junction/lex.signs", laid_junction_lex_signs)] }
def LexScansSaid : Prop := lexScansRow.holds Tryd.pinned (OpenSpec.ofChange lexScansSpec)

/-- ITS FALSE NEIGHBOUR: 'it returns false'. Refute it at one input. -/
def lexScansWrong : ChangeSpec := { name := "lexScans", fn := fun _ => fun
  | [d] => { results := [.lit (.bool false)], args := [d] }
  | _ => none }
def LexScansWrongFalsely : Prop := lexScansRow.holds Tryd.pinned (OpenSpec.ofChange lexScansWrong)

/-- 'junctionlaw2.LexPieces': WHATEVER THE INPUT: true; the input reads as it did. -/
def lexPiecesSpec : ChangeSpec := { name := "lexPieces", fn := fun _ => fun
  | [d] => { results := [.lit (.bool true)], args := [d] }
  | _ => none }
def lexPiecesRow : OpenClaim := { program := "ytlalbjkdlkhjiaadoor", sum := "79a224c0faecaac12a09273da5c05846a8732472a3b505a6785a0181f4bf634f", func := "junction/junctionlaw2.LexPieces", spec := "lexPieces", inPlace := ["internal/bytealg.IndexByteString", "internal/bytealg.IndexString"], unfollowed := true, recurses := true, named := ["junction/junctionlaw2.keywords", "junction/junctionlaw2.marks", "junction/lex.words", "junction/lex.signs", "internal/bytealg.MaxLen"], apart := false, laid := [("junction/lex.words", laid_junction_lex_words), ("junction/lex.signs", laid_junction_lex_signs), ("junction/junctionlaw2.keywords", laid_junction_junctionlaw2_keywords), ("junction/junctionlaw2.marks", laid_junction_junctionlaw2_marks)] }
def LexPiecesSaid : Prop := lexPiecesRow.holds Tryd.pinned (OpenSpec.ofChange lexPiecesSpec)

/-- ITS FALSE NEIGHBOUR: 'it returns false'. Refute it at one input. -/
def lexPiecesWrong : ChangeSpec := { name := "lexPieces", fn := fun _ => fun
  | [d] => { results := [.lit (.bool false)], args := [d] }
  | _ => none }
def LexPiecesWrongFalsely : Prop := lexPiecesRow.holds Tryd.pinned (OpenSpec.ofChange lexPiecesWrong)

/-- 'junctionlaw2.LexFaults': WHATEVER THE INPUT: true; the input reads as it did. -/
def lexFaultsSpec : ChangeSpec := { name := "lexFaults", fn := fun _ => fun
  | [d1, d2, d3] => { results := [.lit (.bool true)], args := [d1, d2, d3] }
  | _ => none }
def lexFaultsRow : OpenClaim := { program := "ytlalbjkdlkhjiaadoor", sum := "79a224c0faecaac12a09273da5c05846a8732472a3b505a6785a0181f4bf634f", func := "junction/junctionlaw2.LexFaults", spec := "lexFaults", inPlace := ["internal/bytealg.IndexByteString", "internal/bytealg.IndexString"], unfollowed := true, recurses := true, named := ["junction/junctionlaw2.keywords", "junction/junctionlaw2.marks", "junction/lex.words", "junction/lex.signs", "internal/bytealg.MaxLen"], apart := false, laid := [("junction/lex.words", laid_junction_lex_words), ("junction/lex.signs", laid_junction_lex_signs), ("junction/junctionlaw2.keywords", laid_junction_junctionlaw2_keywords), ("junction/junctionlaw2.marks", laid_junction_junctionlaw2_marks)] }
def LexFaultsSaid : Prop := lexFaultsRow.holds Tryd.pinned (OpenSpec.ofChange lexFaultsSpec)

/-- ITS FALSE NEIGHBOUR: 'it returns false'. Refute it at one input. -/
def lexFaultsWrong : ChangeSpec := { name := "lexFaults", fn := fun _ => fun
  | [d1, d2, d3] => { results := [.lit (.bool false)], args := [d1, d2, d3] }
  | _ => none }
def LexFaultsWrongFalsely : Prop := lexFaultsRow.holds Tryd.pinned (OpenSpec.ofChange lexFaultsWrong)

/-- 'junctionlaw2.LexJoins': WHATEVER THE INPUT: true; the input reads as it did. -/
def lexJoinsSpec : ChangeSpec := { name := "lexJoins", fn := fun _ => fun
  | [d] => { results := [.lit (.bool true)], args := [d] }
  | _ => none }
def lexJoinsRow : OpenClaim := { program := "ytlalbjkdlkhjiaadoor", sum := "79a224c0faecaac12a09273da5c05846a8732472a3b505a6785a0181f4bf634f", func := "junction/junctionlaw2.LexJoins", spec := "lexJoins", inPlace := ["internal/bytealg.IndexByteString", "internal/bytealg.IndexString", "internal/abi.NoEscape"], named := ["internal/strconv.uint64pow10", "math/bits.deBruijn32tab", "math/bits.deBruijn64tab", "junction/lex.words", "junction/lex.signs", "internal/bytealg.MaxLen", "junction/junctionref2.words", "junction/junctionref2.signs"], apart := false, laid := [("junction/junctionref2.words", laid_junction_junctionref2_words), ("junction/junctionref2.signs", laid_junction_junctionref2_signs), ("math/bits.deBruijn32tab", laid_math_bits_deBruijn32tab), ("math/bits.deBruijn64tab", laid_math_bits_deBruijn64tab), ("internal/strconv.uint64pow10", laid_internal_strconv_uint64pow10), ("junction/lex.words", laid_junction_lex_words), ("junction/lex.signs", laid_junction_lex_signs)] }
def LexJoinsSaid : Prop := lexJoinsRow.holds Tryd.pinned (OpenSpec.ofChange lexJoinsSpec)

/-- ITS FALSE NEIGHBOUR: 'it returns false'. Refute it at one input. -/
def lexJoinsWrong : ChangeSpec := { name := "lexJoins", fn := fun _ => fun
  | [d] => { results := [.lit (.bool false)], args := [d] }
  | _ => none }
def LexJoinsWrongFalsely : Prop := lexJoinsRow.holds Tryd.pinned (OpenSpec.ofChange lexJoinsWrong)

/-- 'junctionlaw2.LexBack': WHATEVER THE INPUT: true; the input reads as it did. -/
def lexBackSpec : ChangeSpec := { name := "lexBack", fn := fun _ => fun
  | [d1, d2] => { results := [.lit (.bool true)], args := [d1, d2] }
  | _ => none }
def lexBackRow : OpenClaim := { program := "ytlalbjkdlkhjiaadoor", sum := "79a224c0faecaac12a09273da5c05846a8732472a3b505a6785a0181f4bf634f", func := "junction/junctionlaw2.LexBack", spec := "lexBack", inPlace := ["internal/bytealg.IndexByteString", "internal/bytealg.IndexString", "internal/abi.NoEscape"], unfollowed := true, recurses := true, named := ["junction/junctionlaw2.keywords", "junction/junctionlaw2.marks", "internal/strconv.uint64pow10", "math/bits.deBruijn32tab", "math/bits.deBruijn64tab", "junction/lex.words", "junction/lex.signs", "internal/bytealg.MaxLen"], apart := false, laid := [("math/bits.deBruijn32tab", laid_math_bits_deBruijn32tab), ("math/bits.deBruijn64tab", laid_math_bits_deBruijn64tab), ("internal/strconv.uint64pow10", laid_internal_strconv_uint64pow10), ("junction/lex.words", laid_junction_lex_words), ("junction/lex.signs", laid_junction_lex_signs), ("junction/junctionlaw2.keywords", laid_junction_junctionlaw2_keywords), ("junction/junctionlaw2.marks", laid_junction_junctionlaw2_marks)] }
def LexBackSaid : Prop := lexBackRow.holds Tryd.pinned (OpenSpec.ofChange lexBackSpec)

/-- ITS FALSE NEIGHBOUR: 'it returns false'. Refute it at one input. -/
def lexBackWrong : ChangeSpec := { name := "lexBack", fn := fun _ => fun
  | [d1, d2] => { results := [.lit (.bool false)], args := [d1, d2] }
  | _ => none }
def LexBackWrongFalsely : Prop := lexBackRow.holds Tryd.pinned (OpenSpec.ofChange lexBackWrong)

/- THE SECOND FORM. 'bulk': how many values and letters a reading holds, each counted each time it is reached (what is shared counts as often as it is met; a slice's spare places count too). A statement '..UptoSaid' is the law's where the arguments, and the package variables that the reading takes, are together of bulk at most 1048576: NARROWER than '..Said'. Prove '..Said' where nothing that the law and all that it calls make is longer than what came in: it says more and counts as full. Else prove '..UptoSaid'. A law counts once. -/
mutual
def uptoBulk {H : Type} : DataW H → Nat
  | .lit (.string bytes) => bytes.length + 1
  | .lit _ => 1
  | .nil => 1
  | .ptr d => uptoBulk d + 1
  | .slice elems spare => uptoBulkAll elems + uptoBulkAll spare + 1
  | .agg parts => uptoBulkAll parts + 1
  | .iface _ d => uptoBulk d + 1
  | .map entries => uptoBulkEntries entries + 1
  | .held _ => 1
def uptoBulkAll {H : Type} : List (DataW H) → Nat
  | [] => 0
  | d :: r => uptoBulk d + uptoBulkAll r
def uptoBulkEntries {H : Type} : List (Lit × DataW H) → Nat
  | [] => 0
  | x :: r => uptoBulkEntry x + uptoBulkEntries r
def uptoBulkEntry {H : Type} : Lit × DataW H → Nat
  | (.string bytes, d) => bytes.length + uptoBulk d + 1
  | (_, d) => uptoBulk d + 1
 end
def uptoSmall : (H : Type) → List (DataW H) → Bool := fun _ ds => decide (uptoBulkAll ds ≤ 1048576)
def OpenSpec.upto (s : _root_.Go.ChangeSpec) : _root_.Go.OpenSpec := { _root_.Go.OpenSpec.ofChange s with cond := some uptoSmall }

/-- 'junctionlaw2.LexSpells', WHERE WHAT IT READS IS OF BULK AT MOST 1048576: true; the input reads as it did. -/
def lexSpellsUptoRow : OpenClaim := { program := "ytlalbjkdlkhjiaadoor", sum := "79a224c0faecaac12a09273da5c05846a8732472a3b505a6785a0181f4bf634f", func := "junction/junctionlaw2.LexSpells", spec := "lexSpells", inPlace := ["internal/bytealg.IndexByteString", "internal/bytealg.IndexString"], named := ["internal/bytealg.MaxLen", "junction/lex.words", "junction/lex.signs", "junction/junctionref2.words", "junction/junctionref2.signs"], apart := false, laid := [("junction/junctionref2.words", laid_junction_junctionref2_words), ("junction/junctionref2.signs", laid_junction_junctionref2_signs), ("junction/lex.words", laid_junction_lex_words), ("junction/lex.signs", laid_junction_lex_signs)], narrowed := true }
def LexSpellsUptoSaid : Prop := lexSpellsUptoRow.holds Tryd.pinned (OpenSpec.upto lexSpellsSpec)

/-- 'junctionlaw2.LexGives', WHERE WHAT IT READS IS OF BULK AT MOST 1048576: true; the input reads as it did. -/
def lexGivesUptoRow : OpenClaim := { program := "ytlalbjkdlkhjiaadoor", sum := "79a224c0faecaac12a09273da5c05846a8732472a3b505a6785a0181f4bf634f", func := "junction/junctionlaw2.LexGives", spec := "lexGives", inPlace := ["internal/bytealg.IndexByteString", "internal/bytealg.IndexString"], unfollowed := true, recurses := true, named := ["junction/junctionref2.signs", "junction/junctionref2.words", "junction/lex.words", "junction/lex.signs", "internal/bytealg.MaxLen"], apart := false, laid := [("junction/junctionref2.words", laid_junction_junctionref2_words), ("junction/junctionref2.signs", laid_junction_junctionref2_signs), ("junction/lex.words", laid_junction_lex_words), ("junction/lex.signs", laid_junction_lex_signs)], narrowed := true }
def LexGivesUptoSaid : Prop := lexGivesUptoRow.holds Tryd.pinned (OpenSpec.upto lexGivesSpec)

/-- 'junctionlaw2.LexScans', WHERE WHAT IT READS IS OF BULK AT MOST 1048576: true; the input reads as it did. -/
def lexScansUptoRow : OpenClaim := { program := "ytlalbjkdlkhjiaadoor", sum := "79a224c0faecaac12a09273da5c05846a8732472a3b505a6785a0181f4bf634f", func := "junction/junctionlaw2.LexScans", spec := "lexScans", inPlace := ["internal/bytealg.IndexByteString", "internal/bytealg.IndexString"], unfollowed := true, recurses := true, named := ["junction/lex.words", "junction/lex.signs", "internal/bytealg.MaxLen", "junction/junctionref2.signs", "junction/junctionref2.words"], apart := false, laid := [("junction/junctionref2.words", laid_junction_junctionref2_words), ("junction/junctionref2.signs", laid_junction_junctionref2_signs), ("junction/lex.words", laid_junction_lex_words), ("junction/lex.signs", laid_junction_lex_signs)], narrowed := true }
def LexScansUptoSaid : Prop := lexScansUptoRow.holds Tryd.pinned (OpenSpec.upto lexScansSpec)

/-- 'junctionlaw2.LexPieces', WHERE WHAT IT READS IS OF BULK AT MOST 1048576: true; the input reads as it did. -/
def lexPiecesUptoRow : OpenClaim := { program := "ytlalbjkdlkhjiaadoor", sum := "79a224c0faecaac12a09273da5c05846a8732472a3b505a6785a0181f4bf634f", func := "junction/junctionlaw2.LexPieces", spec := "lexPieces", inPlace := ["internal/bytealg.IndexByteString", "internal/bytealg.IndexString"], unfollowed := true, recurses := true, named := ["junction/junctionlaw2.keywords", "junction/junctionlaw2.marks", "junction/lex.words", "junction/lex.signs", "internal/bytealg.MaxLen"], apart := false, laid := [("junction/lex.words", laid_junction_lex_words), ("junction/lex.signs", laid_junction_lex_signs), ("junction/junctionlaw2.keywords", laid_junction_junctionlaw2_keywords), ("junction/junctionlaw2.marks", laid_junction_junctionlaw2_marks)], narrowed := true }
def LexPiecesUptoSaid : Prop := lexPiecesUptoRow.holds Tryd.pinned (OpenSpec.upto lexPiecesSpec)

/-- 'junctionlaw2.LexFaults', WHERE WHAT IT READS IS OF BULK AT MOST 1048576: true; the input reads as it did. -/
def lexFaultsUptoRow : OpenClaim := { program := "ytlalbjkdlkhjiaadoor", sum := "79a224c0faecaac12a09273da5c05846a8732472a3b505a6785a0181f4bf634f", func := "junction/junctionlaw2.LexFaults", spec := "lexFaults", inPlace := ["internal/bytealg.IndexByteString", "internal/bytealg.IndexString"], unfollowed := true, recurses := true, named := ["junction/junctionlaw2.keywords", "junction/junctionlaw2.marks", "junction/lex.words", "junction/lex.signs", "internal/bytealg.MaxLen"], apart := false, laid := [("junction/lex.words", laid_junction_lex_words), ("junction/lex.signs", laid_junction_lex_signs), ("junction/junctionlaw2.keywords", laid_junction_junctionlaw2_keywords), ("junction/junctionlaw2.marks", laid_junction_junctionlaw2_marks)], narrowed := true }
def LexFaultsUptoSaid : Prop := lexFaultsUptoRow.holds Tryd.pinned (OpenSpec.upto lexFaultsSpec)

/-- 'junctionlaw2.LexJoins', WHERE WHAT IT READS IS OF BULK AT MOST 1048576: true; the input reads as it did. -/
def lexJoinsUptoRow : OpenClaim := { program := "ytlalbjkdlkhjiaadoor", sum := "79a224c0faecaac12a09273da5c05846a8732472a3b505a6785a0181f4bf634f", func := "junction/junctionlaw2.LexJoins", spec := "lexJoins", inPlace := ["internal/bytealg.IndexByteString", "internal/bytealg.IndexString", "internal/abi.NoEscape"], named := ["internal/strconv.uint64pow10", "math/bits.deBruijn32tab", "math/bits.deBruijn64tab", "junction/lex.words", "junction/lex.signs", "internal/bytealg.MaxLen", "junction/junctionref2.words", "junction/junctionref2.signs"], apart := false, laid := [("junction/junctionref2.words", laid_junction_junctionref2_words), ("junction/junctionref2.signs", laid_junction_junctionref2_signs), ("math/bits.deBruijn32tab", laid_math_bits_deBruijn32tab), ("math/bits.deBruijn64tab", laid_math_bits_deBruijn64tab), ("internal/strconv.uint64pow10", laid_internal_strconv_uint64pow10), ("junction/lex.words", laid_junction_lex_words), ("junction/lex.signs", laid_junction_lex_signs)], narrowed := true }
def LexJoinsUptoSaid : Prop := lexJoinsUptoRow.holds Tryd.pinned (OpenSpec.upto lexJoinsSpec)

/-- 'junctionlaw2.LexBack', WHERE WHAT IT READS IS OF BULK AT MOST 1048576: true; the input reads as it did. -/
def lexBackUptoRow : OpenClaim := { program := "ytlalbjkdlkhjiaadoor", sum := "79a224c0faecaac12a09273da5c05846a8732472a3b505a6785a0181f4bf634f", func := "junction/junctionlaw2.LexBack", spec := "lexBack", inPlace := ["internal/bytealg.IndexByteString", "internal/bytealg.IndexString", "internal/abi.NoEscape"], unfollowed := true, recurses := true, named := ["junction/junctionlaw2.keywords", "junction/junctionlaw2.marks", "internal/strconv.uint64pow10", "math/bits.deBruijn32tab", "math/bits.deBruijn64tab", "junction/lex.words", "junction/lex.signs", "internal/bytealg.MaxLen"], apart := false, laid := [("math/bits.deBruijn32tab", laid_math_bits_deBruijn32tab), ("math/bits.deBruijn64tab", laid_math_bits_deBruijn64tab), ("internal/strconv.uint64pow10", laid_internal_strconv_uint64pow10), ("junction/lex.words", laid_junction_lex_words), ("junction/lex.signs", laid_junction_lex_signs), ("junction/junctionlaw2.keywords", laid_junction_junctionlaw2_keywords), ("junction/junctionlaw2.marks", laid_junction_junctionlaw2_marks)], narrowed := true }
def LexBackUptoSaid : Prop := lexBackUptoRow.holds Tryd.pinned (OpenSpec.upto lexBackSpec)

end Rows
end Go.Proofs.YtlalbjkdlkhjiaaDoor
