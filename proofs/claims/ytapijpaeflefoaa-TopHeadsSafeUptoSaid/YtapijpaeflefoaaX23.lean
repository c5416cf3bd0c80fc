/- The reference's step. -/
import Derived.Test.YtapijpaeflefoaaX18
import Derived.Test.YtapijpaeflefoaaAm18
namespace Go.Proofs.Ytapijpaeflefoaa.Am.X
set_option linter.unusedSectionVars false
open Go Go.Proofs Am
set_option linter.unusedVariables false
set_option linter.unusedSimpArgs false
set_option maxRecDepth 100000
attribute [local irreducible] gO gN gW gdO

theorem ci_flat : ∀ l : List Int, l.map ci = (l.map (c1 .i64)).flatten
  | [] => rfl
  | x :: l => by rw [List.map_cons, ci_flat l]; rfl
end Go.Proofs.Ytapijpaeflefoaa.Am.X
