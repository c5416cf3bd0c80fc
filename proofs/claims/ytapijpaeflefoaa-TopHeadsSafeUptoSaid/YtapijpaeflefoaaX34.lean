/- A group's rounds in the pictures. -/
import Derived.Test.YtapijpaeflefoaaX29
namespace Go.Proofs.Ytapijpaeflefoaa.Am.X
set_option linter.unusedSectionVars false
open Go Go.Proofs Am
set_option linter.unusedVariables false
set_option linter.unusedSimpArgs false
set_option maxRecDepth 100000
attribute [local irreducible] gO gN gW gdO

/-- What a group shows, and for how long, picture by picture. -/
structure Col (g : Group) (l : List (List UInt8)) (k : Nat) (S : Nat → Int × Int) : Prop where
  at' : ∀ j, j < l.length → ∃ s, l[j]? = some s ∧ s[k]? = some (letter (S j).1) ∧ 0 ≤ (S j).1 ∧ (S j).1 ≤ 3
  zero : 0 < l.length → S 0 = (0, 1)
  stay : ∀ j, j + 1 < l.length → (S (j + 1)).1 = (S j).1 → (S (j + 1)).2 = (S j).2 + 1
  move : ∀ j, j + 1 < l.length → (S (j + 1)).1 ≠ (S j).1 → (S (j + 1)).2 = 1
  n0 : ∀ j, j + 1 < l.length → (S j).1 = 0 → (S (j + 1)).1 = 0 ∨ ((S (j + 1)).1 = 1 ∧ 0 < g.lead) ∨ ((S (j + 1)).1 = 2 ∧ g.lead = 0)
  n1 : ∀ j, j + 1 < l.length → (S j).1 = 1 → (S (j + 1)).1 = 1 ∨ ((S (j + 1)).1 = 2 ∧ g.lead ≤ (S j).2)
  n2 : ∀ j, j + 1 < l.length → (S j).1 = 2 → (S (j + 1)).1 = 2 ∨ (g.min ≤ (S j).2 ∧ (((S (j + 1)).1 = 3 ∧ 0 < g.amber) ∨ ((S (j + 1)).1 = 0 ∧ g.amber = 0)))
  n3 : ∀ j, j + 1 < l.length → (S j).1 = 3 → (S (j + 1)).1 = 3 ∨ ((S (j + 1)).1 = 0 ∧ g.amber ≤ (S j).2)
  b1 : ∀ j, j < l.length → (S j).1 = 1 → (S j).2 ≤ g.lead
  b3 : ∀ j, j < l.length → (S j).1 = 3 → (S j).2 ≤ g.amber
theorem letter_l {a : Int} : letter a = 108 ↔ a = 1 := by
  unfold letter
  constructor
  · intro h
    (repeat' split at h) <;> first | (exact absurd h (by decide)) | assumption
  · rintro rfl; rfl
theorem letter_g' {a : Int} : letter a = 103 ↔ a = 2 := by
  unfold letter
  constructor
  · intro h
    (repeat' split at h) <;> first | (exact absurd h (by decide)) | assumption
  · rintro rfl; rfl
theorem letter_a {a : Int} : letter a = 97 ↔ a = 3 := by
  unfold letter
  constructor
  · intro h
    (repeat' split at h) <;> first | (exact absurd h (by decide)) | assumption
  · rintro rfl; rfl
theorem let_dec {a : Int} {n : UInt8} {v : Int} (h : letter a = n ↔ a = v) : decide (((letter a).toNat : Int) = (n.toNat : Int)) = decide (a = v) := by
  by_cases hv : a = v
  · rw [decide_eq_true hv, decide_eq_true (by rw [h.2 hv])]
  · rw [decide_eq_false hv, decide_eq_false (fun h9 => hv (h.1 (UInt8.toNat_inj.1 (by omega))))]
theorem d114 (a : Int) : decide (((letter a).toNat : Int) = 114) = decide (a = 0) := let_dec letter_r
theorem d108 (a : Int) : decide (((letter a).toNat : Int) = 108) = decide (a = 1) := let_dec letter_l
theorem d103 (a : Int) : decide (((letter a).toNat : Int) = 103) = decide (a = 2) := let_dec letter_g'
theorem d97 (a : Int) : decide (((letter a).toNat : Int) = 97) = decide (a = 3) := let_dec letter_a

section
variable {g : Group} {l : List (List UInt8)} {k : Nat} {S : Nat → Int × Int}
theorem pair_of {p : Int × Int} {a b : Int} (h1 : p.1 = a) (h2 : p.2 = b) : p = (a, b) := by cases p; simp_all
theorem tr0 (hC : Col g l k S) {i : Nat} (h0 : 0 < i) (hi : i < l.length) (h : (S (i - 1)).1 = 0) (hne : ¬ (S i).1 = 0) : (S i = (1, 1) ∧ 0 < g.lead) ∨ (S i = (2, 1) ∧ g.lead = 0) := by
  obtain ⟨j, rfl⟩ : ∃ j, i = j + 1 := ⟨i - 1, by omega⟩
  simp only [Nat.add_sub_cancel] at h
  have m := hC.move j hi (by rw [h]; exact hne)
  rcases hC.n0 j hi h with h1 | ⟨h1, h2⟩ | ⟨h1, h2⟩
  · exact absurd h1 hne
  · exact .inl ⟨pair_of h1 m, h2⟩
  · exact .inr ⟨pair_of h1 m, h2⟩
theorem tr1 (hC : Col g l k S) {i : Nat} (h0 : 0 < i) (hi : i < l.length) (h : (S (i - 1)).1 = 1) (hne : ¬ (S i).1 = 1) : S i = (2, 1) ∧ g.lead ≤ (S (i - 1)).2 := by
  obtain ⟨j, rfl⟩ : ∃ j, i = j + 1 := ⟨i - 1, by omega⟩
  simp only [Nat.add_sub_cancel] at h ⊢
  have m := hC.move j hi (by rw [h]; exact hne)
  rcases hC.n1 j hi h with h1 | ⟨h1, h2⟩
  · exact absurd h1 hne
  · exact ⟨pair_of h1 m, h2⟩
theorem tr2 (hC : Col g l k S) {i : Nat} (h0 : 0 < i) (hi : i < l.length) (h : (S (i - 1)).1 = 2) (hne : ¬ (S i).1 = 2) : g.min ≤ (S (i - 1)).2 ∧ ((S i = (3, 1) ∧ 0 < g.amber) ∨ (S i = (0, 1) ∧ g.amber = 0)) := by
  obtain ⟨j, rfl⟩ : ∃ j, i = j + 1 := ⟨i - 1, by omega⟩
  simp only [Nat.add_sub_cancel] at h ⊢
  have m := hC.move j hi (by rw [h]; exact hne)
  rcases hC.n2 j hi h with h1 | ⟨h1, ⟨h2, h3⟩ | ⟨h2, h3⟩⟩
  · exact absurd h1 hne
  · exact ⟨h1, .inl ⟨pair_of h2 m, h3⟩⟩
  · exact ⟨h1, .inr ⟨pair_of h2 m, h3⟩⟩
theorem tr3 (hC : Col g l k S) {i : Nat} (h0 : 0 < i) (hi : i < l.length) (h : (S (i - 1)).1 = 3) (hne : ¬ (S i).1 = 3) : S i = (0, 1) ∧ g.amber ≤ (S (i - 1)).2 := by
  obtain ⟨j, rfl⟩ : ∃ j, i = j + 1 := ⟨i - 1, by omega⟩
  simp only [Nat.add_sub_cancel] at h ⊢
  have m := hC.move j hi (by rw [h]; exact hne)
  rcases hC.n3 j hi h with h1 | ⟨h1, h2⟩
  · exact absurd h1 hne
  · exact ⟨pair_of h1 m, h2⟩
theorem tr_stay (hC : Col g l k S) {i : Nat} (h0 : 0 < i) (hi : i < l.length) (h : (S i).1 = (S (i - 1)).1) : (S i).2 = (S (i - 1)).2 + 1 := by
  obtain ⟨j, rfl⟩ : ∃ j, i = j + 1 := ⟨i - 1, by omega⟩
  exact hC.stay j hi h
end
end Go.Proofs.Ytapijpaeflefoaa.Am.X
