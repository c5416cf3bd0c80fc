/- Pictures that keep the intergreens. -/
import Derived.Test.YtapijpaeflefoaaX29
namespace Go.Proofs.Ytapijpaeflefoaa.Am.X
set_option linter.unusedSectionVars false
open Go Go.Proofs Am
set_option linter.unusedVariables false
set_option linter.unusedSimpArgs false
set_option maxRecDepth 100000
attribute [local irreducible] gO gN gW gdO

/-- The last picture ahead of j in which group g was green, or -1. -/
def lastG (l : List (List UInt8)) (g : Nat) : Nat → Int
  | 0 => -1
  | j + 1 => if (l[j]?.bind (·[g]?)) = some 103 then j else lastG l g j
theorem lastG_in (l : List (List UInt8)) (g : Nat) : ∀ j : Nat, -1 ≤ lastG l g j ∧ lastG l g j < j
  | 0 => by simp [lastG]
  | j + 1 => by
    have := lastG_in l g j
    simp only [lastG]; split <;> omega
structure InterOk (t : Tables) (l : List (List UInt8)) : Prop where
  len : ∀ s ∈ l, s.length = t.groups.length
  gap : ∀ (j : Nat) s, l[j]? = some s → ∀ c ∈ t.confs, ∀ a b : Nat, c.a = a → c.b = b → ∀ x y, s[a]? = some x → s[b]? = some y → (y = 114 ∨ c.ab < j - lastG l a j) ∧ (x = 114 ∨ c.ba < j - lastG l b j)
def lasts (l : List (List UInt8)) (n j : Nat) : List Int := (List.range n).map fun g => lastG l g j
theorem lasts_len (l : List (List UInt8)) (n j : Nat) : (lasts l n j).length = n := by simp [lasts]
theorem lasts_at (l : List (List UInt8)) (n j : Nat) {g : Nat} (h : g < n) : (lasts l n j)[g]? = some (lastG l g j) := by simp [lasts, h]
theorem ok_times {t : Tables} (hok : t.ok = true) {c : Conf} (hc : c ∈ t.confs) : 0 ≤ c.ab ∧ c.ab ≤ 3600 ∧ 0 ≤ c.ba ∧ c.ba ≤ 3600 := by
  simp only [Tables.ok, Bool.and_eq_true] at hok
  have := confs_ok hok.2 c hc
  simp only [Conf.ok, inB, Bool.and_eq_true, decide_eq_true_eq] at this; omega
end Go.Proofs.Ytapijpaeflefoaa.Am.X
