/- Detectors, as plain functions of the bits; what their states tell. -/
import Derived.Test.YtchhknkflhikmaaAm20
namespace Go.Proofs.Ytchhknkflhikmaa.Am.D
set_option linter.unusedSectionVars false
open Go Am
set_option linter.unusedVariables false
set_option linter.unusedSimpArgs false

/-- The run of ones that ends ahead of tick k. -/
def runAt (bits : List Bool) : Nat → Nat
  | 0 => 0
  | k + 1 => if bits.getD k false then runAt bits k + 1 else 0
theorem runAt_le (bits : List Bool) : ∀ k, runAt bits k ≤ k
  | 0 => Nat.le_refl _
  | k + 1 => by
    have := runAt_le bits k
    simp only [runAt]; split <;> omega
theorem run_iff (bits : List Bool) : ∀ (k n : Nat), n ≤ runAt bits k ↔ n ≤ k ∧ ∀ i, k - n ≤ i → i < k → bits.getD i false = true
  | 0, n => by
    simp only [runAt]
    exact ⟨fun h => ⟨h, fun i _ h2 => by omega⟩, fun h => h.1⟩
  | k + 1, n => by
    have ih := run_iff bits k
    simp only [runAt]
    split
    · rename_i hb
      cases n with
      | zero => exact ⟨fun _ => ⟨by omega, fun i h1 h2 => by omega⟩, fun _ => by omega⟩
      | succ m =>
        have hm := ih m
        constructor
        · intro h
          obtain ⟨h1, h2⟩ := hm.1 (by omega)
          refine ⟨by omega, fun i h3 h4 => ?_⟩
          by_cases hi : i = k
          · subst hi; exact hb
          · exact h2 i (by omega) (by omega)
        · rintro ⟨h1, h2⟩
          have := hm.2 ⟨by omega, fun i h3 h4 => h2 i (by omega) (by omega)⟩
          omega
    · rename_i hb
      constructor
      · intro h
        exact ⟨by omega, fun i h3 h4 => by omega⟩
      · rintro ⟨h1, h2⟩
        apply Decidable.byContradiction
        intro hn
        exact hb (h2 k (by omega) (by omega))

def cap (n : Int) : Int := min (max n 0) 2147483647
/-- More than d ones in a row end with tick j. -/
def act (bits : List Bool) (d : Int) (j : Nat) : Bool := decide (d < runAt bits (j + 1))
def leftAt (bits : List Bool) (d h : Int) : Nat → Int
  | 0 => 0
  | k + 1 => if act bits d k then cap h else if 0 < leftAt bits d h k then leftAt bits d h k - 1 else 0
def onAt (bits : List Bool) (d h : Int) (k : Nat) : Bool := act bits d k || decide (0 < leftAt bits d h k)
theorem left_nonneg (bits : List Bool) (d h : Int) : ∀ k, 0 ≤ leftAt bits d h k ∧ leftAt bits d h k ≤ 2147483647
  | 0 => by simp [leftAt]
  | k + 1 => by
    have := left_nonneg bits d h k
    simp only [leftAt, cap]
    split
    · omega
    · split <;> omega
theorem left_iff (bits : List Bool) (d h : Int) : ∀ (k : Nat) (n : Int), 0 ≤ n → (n < leftAt bits d h k ↔ ∃ j : Nat, j < k ∧ act bits d j = true ∧ (k : Int) - 1 - j + n < cap h)
  | 0, n, hn => by
    simp only [leftAt]
    exact ⟨fun h => by omega, fun ⟨j, hj, _⟩ => by omega⟩
  | k + 1, n, hn => by
    have hc : 0 ≤ cap h := by simp only [cap]; omega
    have h0 := left_nonneg bits d h k
    simp only [leftAt]
    split
    · rename_i ha
      constructor
      · intro hl; exact ⟨k, by omega, ha, by omega⟩
      · rintro ⟨j, h1, h2, h3⟩; omega
    · rename_i ha
      have ih := left_iff bits d h k (n + 1) (by omega)
      constructor
      · intro hl
        obtain ⟨j, h1, h2, h3⟩ := ih.1 (by split at hl <;> omega)
        exact ⟨j, by omega, h2, by omega⟩
      · rintro ⟨j, h1, h2, h3⟩
        have hjk : j ≠ k := by rintro rfl; exact ha h2
        have := ih.2 ⟨j, by omega, h2, by omega⟩
        split <;> omega
/-- What is on at tick k, from the bits alone. -/
theorem on_iff (bits : List Bool) (d h : Int) (hh : 0 ≤ h) (k : Nat) (hk : k < 2147483647) : onAt bits d h k = true ↔ ∃ j : Nat, j ≤ k ∧ (k : Int) - h ≤ j ∧ act bits d j = true := by
  have := left_iff bits d h k 0 (by omega)
  simp only [onAt, Bool.or_eq_true, decide_eq_true_eq]
  constructor
  · rintro (ha | hl)
    · exact ⟨k, Nat.le_refl _, by omega, ha⟩
    · obtain ⟨j, h1, h2, h3⟩ := this.1 hl
      simp only [cap] at h3
      exact ⟨j, by omega, by omega, h2⟩
  · rintro ⟨j, h1, h2, h3⟩
    by_cases hj : j = k
    · subst hj; exact .inl h3
    · refine .inr (this.2 ⟨j, by omega, h3, ?_⟩)
      simp only [cap]; omega
/-- With the delay cut to a word. -/
theorem act_cap (bits : List Bool) (d : Int) (hd : 0 ≤ d) (j : Nat) (hj : j + 1 < 2147483647 + 1) : act bits (cap d) j = act bits d j := by
  have := runAt_le bits (j + 1)
  have e : (cap d < (runAt bits (j + 1) : Int)) ↔ d < runAt bits (j + 1) := by simp only [cap]; omega
  simp only [act, e]
theorem act_iff (bits : List Bool) (d : Int) (hd : 0 ≤ d) (j : Nat) : act bits d j = true ↔ d ≤ j ∧ ∀ i : Nat, (j : Int) - d ≤ i → i ≤ j → bits.getD i false = true := by
  have := run_iff bits (j + 1) (d.toNat + 1)
  simp only [act, decide_eq_true_eq]
  constructor
  · intro h
    obtain ⟨h1, h2⟩ := this.1 (by omega)
    exact ⟨by omega, fun i h3 h4 => h2 i (by omega) (by omega)⟩
  · rintro ⟨h1, h2⟩
    have := this.2 ⟨by omega, fun i h3 h4 => h2 i (by omega) (by omega)⟩
    omega
end Go.Proofs.Ytchhknkflhikmaa.Am.D
