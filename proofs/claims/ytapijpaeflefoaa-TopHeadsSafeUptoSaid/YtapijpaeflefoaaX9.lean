/- What was handed in is as it was; HeadsAsks. -/
import Derived.Test.YtapijpaeflefoaaX7
namespace Go.Proofs.Ytapijpaeflefoaa.Am.X
set_option linter.unusedSectionVars false
open Go Go.Proofs Am
set_option linter.unusedVariables false
set_option linter.unusedSimpArgs false
set_option maxRecDepth 100000
attribute [local irreducible] gO gN gW gdO

/-- Wants as they are handed on: a list, or nil. -/
def WantsIs (w : AV) (ws : List (BitVec 64)) : Prop := w = wantsAV ws ∨ w = .snil ∧ ws = []
theorem WantsIs.src {w ws} (h : WantsIs w ws) (hp : Heap) : SrcV hp 1 w ws.length (ws.map c64).flatten := by
  rcases h with rfl | ⟨rfl, rfl⟩
  · exact src_map c64_len c64_leaf _ _
  · exact SrcV.snil
theorem get_app {α : Type} {l : List α} {x : α} : (l ++ [x])[l.length]? = some x := by simp

end Go.Proofs.Ytapijpaeflefoaa.Am.X
