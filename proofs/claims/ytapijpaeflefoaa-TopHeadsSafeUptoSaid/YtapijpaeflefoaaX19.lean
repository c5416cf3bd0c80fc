/- The law HeadsKept answers true. -/
import Derived.Test.YtapijpaeflefoaaX18
import Derived.Test.YtapijpaeflefoaaX11
namespace Go.Proofs.Ytapijpaeflefoaa.Am.X
set_option linter.unusedSectionVars false
open Go Go.Proofs Am
set_option linter.unusedVariables false
set_option linter.unusedSimpArgs false
set_option maxRecDepth 100000
attribute [local irreducible] gO gN gW gdO

theorem sound_small {t : Tables} {h : Hd} (hs : sound t h = true) : SmallH h := by
  obtain ⟨l0, l1, l2, l3, l4⟩ := sound_len hs
  exact ⟨by omega, by omega, by omega⟩
theorem sound_at {t : Tables} {h : Hd} (hs : sound t h = true) {i : Nat} {g : Group} {a : Int} (hg : t.groups[i]? = some g) (ha : h.aspect[i]? = some a) : a = 0 ∨ a = 1 ∨ a = 2 ∨ a = 3 := by
  obtain ⟨l0, l1, l2, l3, l4⟩ := sound_len hs
  have hi := (List.getElem?_eq_some_iff.1 hg).1
  obtain ⟨x, hx⟩ := get_of_lt (show i < h.ins.length by omega)
  obtain ⟨y, hy⟩ := get_of_lt (show i < h.away.length by omega)
  exact headOk_a (headsFrom_at (sound_heads hs) hg ha hx hy)
end Go.Proofs.Ytapijpaeflefoaa.Am.X
