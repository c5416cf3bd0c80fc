/- The calendar, as plain functions; each day has one date. -/
import Derived.Test.YtfllibbkmpkaiaaDoorAm20
namespace Go.Proofs.YtfllibbkmpkaiaaDoor.Am.T
set_option linter.unusedSectionVars false
open Go Am
set_option linter.unusedVariables false
set_option linter.unusedSimpArgs false

def isLeap (y : Int) : Prop := y % 4 = 0 ∧ (y % 100 ≠ 0 ∨ y % 400 = 0)
instance (y : Int) : Decidable (isLeap y) := by unfold isLeap; infer_instance
def mlen (y m : Int) : Int := if m = 2 then (if isLeap y then 29 else 28) else if m = 4 ∨ m = 6 ∨ m = 9 ∨ m = 11 then 30 else 31
def ylen (y : Int) : Int := if isLeap y then 366 else 365
def ahead (y : Int) : Int := 365 * (y - 2000) + (y - 2000 + 3) / 4 - (y - 2000 + 99) / 100 + (y - 2000 + 399) / 400
/-- The days of a year's first n months. -/
def msum (y : Int) : Nat → Int
  | 0 => 0
  | n + 1 => msum y n + mlen y (n + 1 : Int)
theorem mlen_pos (y m : Int) : 28 ≤ mlen y m ∧ mlen y m ≤ 31 := by unfold mlen; repeat' split <;> omega
theorem ylen_pos (y : Int) : 365 ≤ ylen y ∧ ylen y ≤ 366 := by unfold ylen; split <;> omega
theorem ahead_succ (y : Int) : ahead (y + 1) = ahead y + ylen y := by
  by_cases h : isLeap y
  · rw [ylen, if_pos h]; unfold isLeap at h; unfold ahead; omega
  · rw [ylen, if_neg h]; unfold isLeap at h; unfold ahead; omega
theorem msum_year (y : Int) : msum y 12 = ylen y := by
  simp [msum, mlen, ylen]; split <;> rfl
theorem msum_mono (y : Int) : ∀ {a b : Nat}, a ≤ b → msum y a ≤ msum y b := by
  intro a b h
  induction h with
  | refl => exact Int.le_refl _
  | step _ ih => have := mlen_pos y; rename_i m _; have := this ((m : Int) + 1); simp only [msum]; omega
theorem ahead_mono {a : Int} (n : Nat) : ahead a + n ≤ ahead (a + n) := by
  induction n with
  | zero => simp
  | succ n ih =>
    have h1 := ahead_succ (a + n)
    have h2 := ylen_pos (a + n)
    rw [show a + ((n + 1 : Nat) : Int) = a + n + 1 by omega]
    omega
theorem ahead_le {a b : Int} (h : a ≤ b) : ahead a ≤ ahead b := by
  have := ahead_mono (a := a) (b - a).toNat
  rw [show a + ((b - a).toNat : Int) = b by omega] at this
  omega
theorem ahead_lo {y : Int} (h : 2000 ≤ y) : ahead y ≤ 366 * (y - 2000) := by unfold ahead; omega
theorem ahead_0 : ahead 2000 = 0 := by decide
theorem ahead_end : ahead 2400 = 146097 := by decide

def validD (y m d : Int) : Prop := 2000 ≤ y ∧ y ≤ 2399 ∧ 1 ≤ m ∧ m ≤ 12 ∧ 1 ≤ d ∧ d ≤ mlen y m
instance (y m d : Int) : Decidable (validD y m d) := by unfold validD; infer_instance
def dayNum (y m d : Int) : Int := ahead y + msum y (m - 1).toNat + d - 1

theorem year_at : ∀ (n : Nat) (d : Int), 0 ≤ d → d < ahead (2000 + n) → ∃ y : Int, 2000 ≤ y ∧ y < 2000 + n ∧ ahead y ≤ d ∧ d < ahead (y + 1)
  | 0, d, h1, h2 => by simp only [Int.ofNat_zero, Int.add_zero, ahead_0] at h2; exact absurd h2 (by simpa using h1)
  | n + 1, d, h1, h2 => by
    by_cases h : d < ahead (2000 + n)
    · obtain ⟨y, a, b, c⟩ := year_at n d h1 h
      exact ⟨y, a, by omega, c⟩
    · exact ⟨2000 + n, by omega, by omega, by omega, by rw [show (2000 : Int) + n + 1 = 2000 + ((n + 1 : Nat) : Int) by omega]; exact h2⟩
theorem month_at (y : Int) : ∀ (n : Nat) (d : Int), 0 ≤ d → d < msum y n → ∃ m : Nat, m < n ∧ msum y m ≤ d ∧ d < msum y (m + 1)
  | 0, d, h1, h2 => by simp only [msum] at h2; omega
  | n + 1, d, h1, h2 => by
    by_cases h : d < msum y n
    · obtain ⟨m, a, b⟩ := month_at y n d h1 h
      exact ⟨m, by omega, b⟩
    · exact ⟨n, by omega, by omega, h2⟩
/-- Each day has a date. -/
theorem date_ex (d : Int) (h1 : 0 ≤ d) (h2 : d ≤ 146096) : ∃ y m k, validD y m k ∧ dayNum y m k = d := by
  obtain ⟨y, a, b, c, e⟩ := year_at 400 d h1 (by rw [show (2000 : Int) + (400 : Nat) = 2400 by rfl, ahead_end]; omega)
  rw [ahead_succ, ← msum_year] at e
  obtain ⟨m, f, g, i⟩ := month_at y 12 (d - ahead y) (by omega) (by omega)
  simp only [msum] at i
  have e1 : ((m : Int) + 1 - 1).toNat = m := by omega
  refine ⟨y, m + 1, d - ahead y - msum y m + 1, ⟨a, by omega, by omega, by omega, by omega, by omega⟩, ?_⟩
  simp only [dayNum, e1]; omega
theorem year_uniq {y z d : Int} (h1 : ahead y ≤ d) (h2 : d < ahead (y + 1)) (h3 : ahead z ≤ d) (h4 : d < ahead (z + 1)) : y = z := by
  apply Decidable.byContradiction
  intro hn
  rcases Int.lt_or_gt_of_ne hn with h | h
  · have := ahead_le (a := y + 1) (b := z) (by omega); omega
  · have := ahead_le (a := z + 1) (b := y) (by omega); omega
theorem month_uniq {y r : Int} {m n : Nat} (h1 : msum y m ≤ r) (h2 : r < msum y (m + 1)) (h3 : msum y n ≤ r) (h4 : r < msum y (n + 1)) : m = n := by
  apply Decidable.byContradiction
  intro hn
  rcases Nat.lt_or_gt_of_ne hn with h | h
  · have := msum_mono y (a := m + 1) (b := n) h; omega
  · have := msum_mono y (a := n + 1) (b := m) h; omega
/-- What a date's number tells. -/
theorem dayNum_in {y m k : Int} (h : validD y m k) : ahead y ≤ dayNum y m k ∧ dayNum y m k < ahead (y + 1) ∧ msum y (m - 1).toNat ≤ dayNum y m k - ahead y ∧ dayNum y m k - ahead y < msum y ((m - 1).toNat + 1) := by
  obtain ⟨a, b, c, d, e, f⟩ := h
  have e1 : (((m - 1).toNat : Int) + 1) = m := by omega
  have h0 := msum_mono y (a := 0) (b := (m - 1).toNat) (by omega)
  have h1 := msum_mono y (a := (m - 1).toNat + 1) (b := 12) (by omega)
  rw [msum_year] at h1
  simp only [msum, e1] at h0 h1 ⊢
  rw [ahead_succ]
  simp only [dayNum]
  omega
theorem date_uniq {y m k y' m' k' : Int} (h : validD y m k) (h' : validD y' m' k') (he : dayNum y m k = dayNum y' m' k') : y = y' ∧ m = m' ∧ k = k' := by
  obtain ⟨a1, a2, a3, a4⟩ := dayNum_in h
  obtain ⟨b1, b2, b3, b4⟩ := dayNum_in h'
  rw [← he] at b1 b2 b3 b4
  have hy := year_uniq a1 a2 b1 b2
  subst hy
  have hm := month_uniq a3 a4 b3 b4
  have hm' : m = m' := by obtain ⟨_, _, h1, _⟩ := h; obtain ⟨_, _, h2, _⟩ := h'; omega
  subst hm'
  refine ⟨rfl, rfl, ?_⟩
  simp only [dayNum] at he; omega
theorem dayNum_range {y m k : Int} (h : validD y m k) : 0 ≤ dayNum y m k ∧ dayNum y m k ≤ 146096 := by
  obtain ⟨a1, a2, _⟩ := dayNum_in h
  obtain ⟨a, b, _⟩ := h
  have := ahead_le (a := 2000) (b := y) a
  have h2 := ahead_le (a := y + 1) (b := 2400) (by omega)
  rw [ahead_0] at this
  rw [ahead_end] at h2
  omega
/-- The next day's date. -/
theorem date_next {y m k : Int} (h : validD y m k) (hl : dayNum y m k < 146096) :
    (if k + 1 ≤ mlen y m then validD y m (k + 1) ∧ dayNum y m (k + 1) = dayNum y m k + 1 else if m + 1 ≤ 12 then validD y (m + 1) 1 ∧ dayNum y (m + 1) 1 = dayNum y m k + 1 else validD (y + 1) 1 1 ∧ dayNum (y + 1) 1 1 = dayNum y m k + 1) := by
  obtain ⟨a, b, c, d, e, f⟩ := h
  split
  · exact ⟨⟨a, b, c, d, by omega, by omega⟩, by simp only [dayNum]; omega⟩
  · have hk : k = mlen y m := by omega
    split
    · refine ⟨⟨a, b, by omega, by omega, by omega, by have := mlen_pos y (m + 1); omega⟩, ?_⟩
      have e1 : (m + 1 - 1).toNat = (m - 1).toNat + 1 := by omega
      have e2 : (((m - 1).toNat : Int) + 1) = m := by omega
      simp only [dayNum, e1, msum, e2]; omega
    · have hm : m = 12 := by omega
      subst hm
      have e1 : msum y 11 + mlen y 12 = ylen y := by rw [← msum_year]; rfl
      have e2 := ahead_succ y
      simp only [dayNum, show ((12 : Int) - 1).toNat = 11 from rfl] at hl ⊢
      generalize msum y 11 = M at *
      have e3 : dayNum y 12 k = ahead y + msum y 11 + k - 1 := rfl
      have hy : y ≠ 2399 := by
        rintro rfl
        have := ahead_end
        rw [show (2400 : Int) = 2399 + 1 by rfl, e2] at this
        omega
      refine ⟨⟨by omega, by omega, by omega, by omega, by omega, by have := mlen_pos (y + 1) 1; omega⟩, ?_⟩
      simp only [show ((1 : Int) - 1).toNat = 0 from rfl, msum]
      omega
end Go.Proofs.YtfllibbkmpkaiaaDoor.Am.T
