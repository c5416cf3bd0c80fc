/- A step; what may follow an aspect. -/
import Derived.Test.YtapijpaeflefoaaXP
namespace Go.Proofs.Ytapijpaeflefoaa.Am.X
set_option linter.unusedSectionVars false
open Go Go.Proofs Am
set_option linter.unusedVariables false
set_option linter.unusedSimpArgs false
set_option maxRecDepth 100000
attribute [local irreducible] gO gN gW gdO

def noHd : Hd := ⟨[], [], []⟩
end Go.Proofs.Ytapijpaeflefoaa.Am.X
