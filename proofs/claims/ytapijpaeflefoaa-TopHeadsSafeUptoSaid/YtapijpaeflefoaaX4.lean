/- The reference's Sound; Gate. -/
import Derived.Test.YtapijpaeflefoaaX3
namespace Go.Proofs.Ytapijpaeflefoaa.Am.X
set_option linter.unusedSectionVars false
open Go Go.Proofs Am
set_option linter.unusedVariables false
set_option linter.unusedSimpArgs false
set_option maxRecDepth 100000
attribute [local irreducible] gO gN gW gdO

/-- Gate, from group i on. -/
def gateFrom (w : BitVec 64) : Nat → List Group → List Int → List Int → Bool
  | i, g :: gs, a :: l1, x :: l2 => (!decide (a = 2) || w.getLsbD i || decide (g.min ≤ x)) && gateFrom w (i + 1) gs l1 l2
  | _, _, _, _ => true
def gate (t : Tables) (h : Hd) (w : BitVec 64) : Bool := sound t h && gateFrom w 0 t.groups h.aspect h.ins
structure IsSound (t : Tables) (h : Hd) : Prop where
  ok : t.ok = true
  a : h.aspect.length = t.groups.length
  i : h.ins.length = t.groups.length
  w : h.away.length = t.groups.length
  n : t.groups.length ≤ 64
theorem sound_len {t : Tables} {h : Hd} (hs : sound t h = true) : IsSound t h := by
  simp only [sound, Bool.and_eq_true, Hd.len_iff] at hs
  refine ⟨hs.1.1.1, hs.1.1.2.1, hs.1.1.2.2.1, hs.1.1.2.2.2, ?_⟩
  have := hs.1.1.1
  simp only [Tables.ok, Bool.and_eq_true] at this
  simpa using this.1.1

end Go.Proofs.Ytapijpaeflefoaa.Am.X
