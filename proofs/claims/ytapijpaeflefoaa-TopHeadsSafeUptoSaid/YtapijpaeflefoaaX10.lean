/- The law HeadsAsks answers true. -/
import Derived.Test.YtapijpaeflefoaaX9
namespace Go.Proofs.Ytapijpaeflefoaa.Am.X
set_option linter.unusedSectionVars false
open Go Go.Proofs Am
set_option linter.unusedVariables false
set_option linter.unusedSimpArgs false
set_option maxRecDepth 100000
attribute [local irreducible] gO gN gW gdO

structure I32 (h : Hd) : Prop where
  i : ∀ x ∈ h.ins, -2147483648 ≤ x ∧ x ≤ 2147483647
  w : ∀ x ∈ h.away, -2147483648 ≤ x ∧ x ≤ 2147483647
theorem small_of {t : Tables} {h : Hd} (ht : SmallT t) (hs : SmallH h) (hi : I32 h) : Small t h := by
  have := ht.g; have := ht.c; have := hs.a
  exact ⟨by omega, by omega, by omega, hi.i⟩

end Go.Proofs.Ytapijpaeflefoaa.Am.X
