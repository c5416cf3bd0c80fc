/- A picture that is clear. -/
import Derived.Test.YtapijpaeflefoaaX25
import Derived.Test.YtapijpaeflefoaaX19
namespace Go.Proofs.Ytapijpaeflefoaa.Am.X
set_option linter.unusedSectionVars false
open Go Go.Proofs Am
set_option linter.unusedVariables false
set_option linter.unusedSimpArgs false
set_option maxRecDepth 100000
attribute [local irreducible] gO gN gW gdO

structure ClearS (t : Tables) (s : List UInt8) : Prop where
  len : s.length = t.groups.length
  let' : ∀ c ∈ s, c = 114 ∨ c = 108 ∨ c = 103 ∨ c = 97
  clr : ∀ c ∈ t.confs, ∃ a b : Nat, ∃ x y : UInt8, c.a = a ∧ c.b = b ∧ s[a]? = some x ∧ s[b]? = some y ∧ (x = 114 ∨ y = 114)
theorem letter_r {a : Int} : letter a = 114 ↔ a = 0 := by
  unfold letter
  constructor
  · intro h
    split at h
    · assumption
    · (repeat' split at h) <;> exact absurd h (by decide)
  · rintro rfl; rfl
theorem sound_clear {t : Tables} {h : Hd} (hs : sound t h = true) : ClearS t h.show := by
  obtain ⟨l0, l1, l2, l3, l4⟩ := sound_len hs
  refine ⟨by simp [Hd.show, l1], fun c hc => ?_, fun c hc => ?_⟩
  · simp only [Hd.show, List.mem_map] at hc
    obtain ⟨a, ha, rfl⟩ := hc
    obtain ⟨i, hi⟩ := List.mem_iff_getElem?.1 ha
    obtain ⟨g, hg⟩ := get_of_lt (show i < t.groups.length by have := (List.getElem?_eq_some_iff.1 hi).1; omega)
    rcases sound_at hs hg hi with rfl | rfl | rfl | rfl <;> decide
  · obtain ⟨a, b, ea, eb, hab, hbn⟩ := Tables.ok_conf l0 hc
    obtain ⟨x, hx⟩ := get_of_lt (show a < h.aspect.length by omega)
    obtain ⟨y, hy⟩ := get_of_lt (show b < h.aspect.length by omega)
    refine ⟨a, b, letter x, letter y, ea, eb, by simp [Hd.show, hx], by simp [Hd.show, hy], ?_⟩
    simp only [sound, Bool.and_eq_true, List.all_eq_true] at hs
    have := hs.2 c hc
    simp only [confFree, Bool.or_eq_true, decide_eq_true_eq] at this
    rw [show c.a.toNat = a by omega, show c.b.toNat = b by omega] at this
    simp only [List.getD_eq_getElem?_getD, hx, hy, Option.getD_some] at this
    rw [letter_r, letter_r]; exact this
end Go.Proofs.Ytapijpaeflefoaa.Am.X
