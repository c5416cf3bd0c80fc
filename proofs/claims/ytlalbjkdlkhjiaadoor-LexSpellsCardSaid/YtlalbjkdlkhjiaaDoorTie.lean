/-
  DERIVED. GIVEN WITH THE SEED: THE PROGRAM's TIES (one call each: nine closed facts by the kernel) AND EACH ROW's TIE, after the 31st guide's Derived/Test/Toyas{Tie, Card}.lean. No idea stands in it: it is a product of the set-up. Laid BY PROGRAM, IN A SANDBOX (cutbox-door.mjs). By AI agents, Wed Nov 11 2026. No macro, syntax, notation, axiom, sorry.
-/
import Derived.Test.YtlalbjkdlkhjiaaDoorRows
import Derived.LaidByTextLater
import Derived.SevenTiedAt
import Derived.LaidSub
import Derived.LaidOnce
namespace Go.Proofs.YtlalbjkdlkhjiaaDoor
open Go
set_option maxRecDepth 100000
theorem seatTie1 : Tryd.prog.laidByTextLater [("junction/junctionref2.words", Rows.laid_junction_junctionref2_words), ("junction/junctionref2.signs", Rows.laid_junction_junctionref2_signs), ("junction/lex.words", Rows.laid_junction_lex_words), ("junction/lex.signs", Rows.laid_junction_lex_signs), ("junction/junctionlaw2.keywords", Rows.laid_junction_junctionlaw2_keywords), ("junction/junctionlaw2.marks", Rows.laid_junction_junctionlaw2_marks)] [.data, .data, .data, .data, .data, .data] true :=
  Program.laidByTextLater_by_one 54 8 65 (by kernel_rfl) (by kernel_rfl) (by kernel_rfl) (by kernel_rfl) (by kernel_rfl) (by kernel_rfl) (fun _ _ => by kernel_rfl)
theorem seatTie2 : Tryd.prog.laidByTextLater [("junction/junctionref2.words", Rows.laid_junction_junctionref2_words), ("junction/junctionref2.signs", Rows.laid_junction_junctionref2_signs), ("math/bits.deBruijn32tab", Rows.laid_math_bits_deBruijn32tab), ("math/bits.deBruijn64tab", Rows.laid_math_bits_deBruijn64tab), ("internal/strconv.uint64pow10", Rows.laid_internal_strconv_uint64pow10), ("junction/lex.words", Rows.laid_junction_lex_words), ("junction/lex.signs", Rows.laid_junction_lex_signs)] [.data, .data, .data, .data, .data, .data, .data] true :=
  Program.laidByTextLater_by_one 54 8 65 (by kernel_rfl) (by kernel_rfl) (by kernel_rfl) (by kernel_rfl) (by kernel_rfl) (by kernel_rfl) (fun _ _ => by kernel_rfl)
theorem seatTie3 : Tryd.prog.laidByTextLater [("math/bits.deBruijn32tab", Rows.laid_math_bits_deBruijn32tab), ("math/bits.deBruijn64tab", Rows.laid_math_bits_deBruijn64tab), ("internal/strconv.uint64pow10", Rows.laid_internal_strconv_uint64pow10), ("junction/lex.words", Rows.laid_junction_lex_words), ("junction/lex.signs", Rows.laid_junction_lex_signs), ("junction/junctionlaw2.keywords", Rows.laid_junction_junctionlaw2_keywords), ("junction/junctionlaw2.marks", Rows.laid_junction_junctionlaw2_marks)] [.data, .data, .data, .data, .data, .data, .data] true :=
  Program.laidByTextLater_by_one 54 8 65 (by kernel_rfl) (by kernel_rfl) (by kernel_rfl) (by kernel_rfl) (by kernel_rfl) (by kernel_rfl) (fun _ _ => by kernel_rfl)
theorem noOwnUnsafe : Tryd.pinned.checked.prog.headLifts.contains "ownunsafe" = false := by kernel_rfl
theorem tie : Tryd.prog.laidByTextLater [("junction/junctionref2.words", Rows.laid_junction_junctionref2_words), ("junction/junctionref2.signs", Rows.laid_junction_junctionref2_signs), ("junction/lex.words", Rows.laid_junction_lex_words), ("junction/lex.signs", Rows.laid_junction_lex_signs)] [.data, .data, .data, .data] true :=
  Program.laidByTextLater.sub seatTie1 ["junction/junctionref2.words", "junction/junctionref2.signs", "junction/lex.words", "junction/lex.signs"] (by kernel_rfl) (by kernel_rfl)
theorem lexSpells_row_tie : Rows.lexSpellsRow.laidByTextAt .later Tryd.pinned [.data, .data, .data, .data] true :=
  OpenClaim.laidByTextAt_later rfl rfl tie noOwnUnsafe
theorem lexGives_row_tie : Rows.lexGivesRow.laidByTextAt .later Tryd.pinned [.data, .data, .data, .data] true :=
  OpenClaim.laidByTextAt_later rfl rfl tie noOwnUnsafe
theorem lexScans_row_tie : Rows.lexScansRow.laidByTextAt .later Tryd.pinned [.data, .data, .data, .data] true :=
  OpenClaim.laidByTextAt_later rfl rfl tie noOwnUnsafe
theorem tie2 : Tryd.prog.laidByTextLater [("junction/lex.words", Rows.laid_junction_lex_words), ("junction/lex.signs", Rows.laid_junction_lex_signs), ("junction/junctionlaw2.keywords", Rows.laid_junction_junctionlaw2_keywords), ("junction/junctionlaw2.marks", Rows.laid_junction_junctionlaw2_marks)] [.data, .data, .data, .data] true :=
  Program.laidByTextLater.sub seatTie1 ["junction/lex.words", "junction/lex.signs", "junction/junctionlaw2.keywords", "junction/junctionlaw2.marks"] (by kernel_rfl) (by kernel_rfl)
theorem lexPieces_row_tie : Rows.lexPiecesRow.laidByTextAt .later Tryd.pinned [.data, .data, .data, .data] true :=
  OpenClaim.laidByTextAt_later rfl rfl tie2 noOwnUnsafe
theorem lexFaults_row_tie : Rows.lexFaultsRow.laidByTextAt .later Tryd.pinned [.data, .data, .data, .data] true :=
  OpenClaim.laidByTextAt_later rfl rfl tie2 noOwnUnsafe
theorem tie3 : Tryd.prog.laidByTextLater [("junction/junctionref2.words", Rows.laid_junction_junctionref2_words), ("junction/junctionref2.signs", Rows.laid_junction_junctionref2_signs), ("math/bits.deBruijn32tab", Rows.laid_math_bits_deBruijn32tab), ("math/bits.deBruijn64tab", Rows.laid_math_bits_deBruijn64tab), ("internal/strconv.uint64pow10", Rows.laid_internal_strconv_uint64pow10), ("junction/lex.words", Rows.laid_junction_lex_words), ("junction/lex.signs", Rows.laid_junction_lex_signs)] [.data, .data, .data, .data, .data, .data, .data] true :=
  Program.laidByTextLater.sub seatTie2 ["junction/junctionref2.words", "junction/junctionref2.signs", "math/bits.deBruijn32tab", "math/bits.deBruijn64tab", "internal/strconv.uint64pow10", "junction/lex.words", "junction/lex.signs"] (by kernel_rfl) (by kernel_rfl)
theorem lexJoins_row_tie : Rows.lexJoinsRow.laidByTextAt .later Tryd.pinned [.data, .data, .data, .data, .data, .data, .data] true :=
  OpenClaim.laidByTextAt_later rfl rfl tie3 noOwnUnsafe
theorem tie4 : Tryd.prog.laidByTextLater [("math/bits.deBruijn32tab", Rows.laid_math_bits_deBruijn32tab), ("math/bits.deBruijn64tab", Rows.laid_math_bits_deBruijn64tab), ("internal/strconv.uint64pow10", Rows.laid_internal_strconv_uint64pow10), ("junction/lex.words", Rows.laid_junction_lex_words), ("junction/lex.signs", Rows.laid_junction_lex_signs), ("junction/junctionlaw2.keywords", Rows.laid_junction_junctionlaw2_keywords), ("junction/junctionlaw2.marks", Rows.laid_junction_junctionlaw2_marks)] [.data, .data, .data, .data, .data, .data, .data] true :=
  Program.laidByTextLater.sub seatTie3 ["math/bits.deBruijn32tab", "math/bits.deBruijn64tab", "internal/strconv.uint64pow10", "junction/lex.words", "junction/lex.signs", "junction/junctionlaw2.keywords", "junction/junctionlaw2.marks"] (by kernel_rfl) (by kernel_rfl)
theorem lexBack_row_tie : Rows.lexBackRow.laidByTextAt .later Tryd.pinned [.data, .data, .data, .data, .data, .data, .data] true :=
  OpenClaim.laidByTextAt_later rfl rfl tie4 noOwnUnsafe
theorem lexSpellsUpto_row_tie : Rows.lexSpellsUptoRow.laidByTextAt .later Tryd.pinned [.data, .data, .data, .data] true :=
  OpenClaim.laidByTextAt_later rfl rfl tie noOwnUnsafe
theorem lexGivesUpto_row_tie : Rows.lexGivesUptoRow.laidByTextAt .later Tryd.pinned [.data, .data, .data, .data] true :=
  OpenClaim.laidByTextAt_later rfl rfl tie noOwnUnsafe
theorem lexScansUpto_row_tie : Rows.lexScansUptoRow.laidByTextAt .later Tryd.pinned [.data, .data, .data, .data] true :=
  OpenClaim.laidByTextAt_later rfl rfl tie noOwnUnsafe
theorem lexPiecesUpto_row_tie : Rows.lexPiecesUptoRow.laidByTextAt .later Tryd.pinned [.data, .data, .data, .data] true :=
  OpenClaim.laidByTextAt_later rfl rfl tie2 noOwnUnsafe
theorem lexFaultsUpto_row_tie : Rows.lexFaultsUptoRow.laidByTextAt .later Tryd.pinned [.data, .data, .data, .data] true :=
  OpenClaim.laidByTextAt_later rfl rfl tie2 noOwnUnsafe
theorem lexJoinsUpto_row_tie : Rows.lexJoinsUptoRow.laidByTextAt .later Tryd.pinned [.data, .data, .data, .data, .data, .data, .data] true :=
  OpenClaim.laidByTextAt_later rfl rfl tie3 noOwnUnsafe
theorem lexBackUpto_row_tie : Rows.lexBackUptoRow.laidByTextAt .later Tryd.pinned [.data, .data, .data, .data, .data, .data, .data] true :=
  OpenClaim.laidByTextAt_later rfl rfl tie4 noOwnUnsafe
end Go.Proofs.YtlalbjkdlkhjiaaDoor
