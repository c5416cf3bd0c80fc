/- Plain: a number's decimal text. -/
import Derived.Test.YtchhknkflhikmaaDoorAm1
namespace Go.Proofs.YtchhknkflhikmaaDoor.Am.P
set_option linter.unusedSectionVars false
set_option linter.unusedVariables false
set_option linter.unusedSimpArgs false
/-- The last digit. -/
def dg (n : Nat) : UInt8 := UInt8.ofNat (48 + n % 10)
theorem dg_toNat (n : Nat) : (dg n).toNat = 48 + n % 10 := by
  unfold dg
  rw [UInt8.toNat_ofNat', Nat.mod_eq_of_lt (by omega)]
theorem dg_eq {a b : Nat} (h : a % 10 = b % 10) : dg a = dg b := by unfold dg; rw [h]
/-- The last k digits, zeros in front. -/
def padD : Nat → Nat → List UInt8
  | 0, _ => []
  | k + 1, u => padD k (u / 10) ++ [dg u]
theorem padD_len : ∀ k u, (padD k u).length = k
  | 0, u => rfl
  | k + 1, u => by simp [padD, padD_len k]
theorem padD_2 (k u : Nat) : padD (k + 2) u = padD k (u / 100) ++ [dg (u / 10), dg u] := by
  simp only [padD, List.append_assoc, List.cons_append, List.nil_append]
  rw [Nat.div_div_eq_div_mul]
theorem padD_8 (k u : Nat) : padD (k + 8) u = padD k (u / 100000000) ++ [dg (u / 10000000), dg (u / 1000000)] ++ [dg (u / 100000), dg (u / 10000)] ++ [dg (u / 1000), dg (u / 100)] ++ [dg (u / 10), dg u] := by
  rw [show k + 8 = k + 2 + 2 + 2 + 2 by omega, padD_2, padD_2, padD_2, padD_2]
  simp only [Nat.div_div_eq_div_mul]
theorem padD_4 (k u : Nat) : padD (k + 4) u = padD k (u / 10000) ++ [dg (u / 1000), dg (u / 100)] ++ [dg (u / 10), dg u] := by
  rw [show k + 4 = k + 2 + 2 by omega, padD_2, padD_2]
  simp only [Nat.div_div_eq_div_mul]
/-- A number's digits. -/
def decS (n : Nat) : List UInt8 := if n < 10 then [dg n] else decS (n / 10) ++ [dg n]
termination_by n
decreasing_by omega
theorem padD_dec : ∀ (k n : Nat), (k = 0 ∨ 10 ^ k ≤ n) → n < 10 ^ (k + 1) → padD (k + 1) n = decS n
  | 0, n, _, h => by rw [decS, if_pos (by simpa using h)]; rfl
  | k + 1, n, h0, h => by
    have h1 : 10 ^ (k + 1) ≤ n := by rcases h0 with h0 | h0; cases h0; exact h0
    have e : 10 ^ (k + 1) = 10 ^ k * 10 := Nat.pow_succ ..
    have e2 : 10 ^ (k + 1 + 1) = 10 ^ (k + 1) * 10 := Nat.pow_succ ..
    have hp : 0 < 10 ^ k := Nat.pow_pos (by omega)
    have : ¬ n < 10 := by omega
    rw [decS, if_neg this, padD, padD_dec k (n / 10) (.inr (by omega)) (by omega)]
def decI (w : Int) : List UInt8 := if w < 0 then 45 :: decS w.natAbs else decS w.natAbs

def smallsL : List UInt8 := [48, 48, 48, 49, 48, 50, 48, 51, 48, 52, 48, 53, 48, 54, 48, 55, 48, 56, 48, 57, 49, 48, 49, 49, 49, 50, 49, 51, 49, 52, 49, 53, 49, 54, 49, 55, 49, 56, 49, 57, 50, 48, 50, 49, 50, 50, 50, 51, 50, 52, 50, 53, 50, 54, 50, 55, 50, 56, 50, 57, 51, 48, 51, 49, 51, 50, 51, 51, 51, 52, 51, 53, 51, 54, 51, 55, 51, 56, 51, 57, 52, 48, 52, 49, 52, 50, 52, 51, 52, 52, 52, 53, 52, 54, 52, 55, 52, 56, 52, 57, 53, 48, 53, 49, 53, 50, 53, 51, 53, 52, 53, 53, 53, 54, 53, 55, 53, 56, 53, 57, 54, 48, 54, 49, 54, 50, 54, 51, 54, 52, 54, 53, 54, 54, 54, 55, 54, 56, 54, 57, 55, 48, 55, 49, 55, 50, 55, 51, 55, 52, 55, 53, 55, 54, 55, 55, 55, 56, 55, 57, 56, 48, 56, 49, 56, 50, 56, 51, 56, 52, 56, 53, 56, 54, 56, 55, 56, 56, 56, 57, 57, 48, 57, 49, 57, 50, 57, 51, 57, 52, 57, 53, 57, 54, 57, 55, 57, 56, 57, 57]
def digsL : List UInt8 := [48, 49, 50, 51, 52, 53, 54, 55, 56, 57, 97, 98, 99, 100, 101, 102, 103, 104, 105, 106, 107, 108, 109, 110, 111, 112, 113, 114, 115, 116, 117, 118, 119, 120, 121, 122]
theorem smalls_all : ∀ v : Fin 100, smallsL[2 * v.val]? = some (dg (v.val / 10)) ∧ smallsL[2 * v.val + 1]? = some (dg v.val) := by decide
theorem small_at {v a b : Nat} (h : v < 100) (ha : v / 10 % 10 = a % 10) (hb : v % 10 = b % 10) : smallsL[2 * v]? = some (dg a) ∧ smallsL[2 * v + 1]? = some (dg b) := by
  have := smalls_all ⟨v, h⟩
  rw [← dg_eq ha, ← dg_eq hb]
  exact this
theorem small_two : ∀ v : Fin 100, 10 ≤ v.val → (smallsL.take (2 * v.val + 2)).drop (2 * v.val) = [dg (v.val / 10), dg v.val] := by decide
theorem small_one : ∀ v : Fin 10, (digsL.take (v.val + 1)).drop v.val = [dg v.val] := by decide
theorem decS_small {v : Nat} (h : v < 100) (h0 : 10 ≤ v) : decS v = [dg (v / 10), dg v] := by
  rw [decS, if_neg (by omega), decS, if_pos (by omega)]; rfl
/-- Two bytes at a place. -/
theorem set2 {α : Type} (X T : List α) (k : Nat) (a b : α) (h : X.length = k + 2) : ((X ++ T).set (k + 1) b).set k a = X.take k ++ [a, b] ++ T := by
  apply List.ext_getElem
  · simp; omega
  · intro i h1 h2
    simp only [List.getElem_set, List.getElem_append, List.length_append, List.length_take, List.length_cons, List.length_nil, List.getElem_take]
    by_cases e1 : k = i
    · subst e1; simp [show min k X.length = k by omega]
    · rw [if_neg e1]
      by_cases e2 : k + 1 = i
      · subst e2; simp [show min k X.length = k by omega]; omega
      · rw [if_neg e2]
        by_cases e3 : i < k
        · simp [show i < X.length by omega, show i < min k X.length + 2 by omega, show i < min k X.length by omega]
        · simp [h]; rw [dif_neg (by omega), dif_neg (by omega)]
end Go.Proofs.YtchhknkflhikmaaDoor.Am.P
