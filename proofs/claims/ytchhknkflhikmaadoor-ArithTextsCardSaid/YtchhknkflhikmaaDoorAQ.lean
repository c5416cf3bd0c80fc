/- Plain: a word read of its text, told twice; a number's text, told twice; how many digits a number has. -/
import Derived.Test.YtchhknkflhikmaaDoorAP
namespace Go.Proofs.YtchhknkflhikmaaDoor.Am.P
set_option linter.unusedSectionVars false
set_option linter.unusedVariables false
set_option linter.unusedSimpArgs false
/-- What stands behind a sign. -/
def body (s : List UInt8) : List UInt8 := if s[0]? = some 45 then s.drop 1 else s
def isNeg (s : List UInt8) : Bool := decide (s[0]? = some 45)
def isD (c : UInt8) : Bool := decide (48 ≤ c.toNat) && decide (c.toNat ≤ 57)
/-- Digits read, cut off above 2^40. -/
def foldD : List UInt8 → Int → Bool → Option (Int × Bool)
  | [], n, b => some (n, b)
  | c :: l, n, b => if isD c = false then none else if 10 * n + ((c.toNat : Int) - 48) > 1099511627776 then foldD l 1099511627776 true else foldD l (10 * n + ((c.toNat : Int) - 48)) b
def valF (v : Int) (l : List UInt8) : Int := l.foldl (fun n c => n * 10 + ((c.toNat : Int) - 48)) v
def fin (eB : Int) (big : Bool) (m : Int) : Int × Int := if big = true ∨ m < -2147483648 ∨ m > 2147483647 then (0, eB) else (m, 0)
def sgn (s : List UInt8) : Int := if isNeg s = true then -1 else 1
def sg (s : List UInt8) (v : Int) : Int := if isNeg s = true then -v else v
def ansA (eN eB : Int) (s : List UInt8) : Int × Int :=
  if body s = [] ∨ ((body s)[0]? = some 48 ∧ s ≠ [48]) then (0, eN) else match foldD (body s) 0 false with
    | none => (0, eN)
    | some (n, b) => fin eB b (n * sgn s)
/-- Has the text the form of a numeral? -/
def numR (s : List UInt8) : Bool := decide (s = [48]) || ((match body s with | [] => false | c :: _ => decide (49 ≤ c.toNat) && decide (c.toNat ≤ 57)) && (body s).all isD)
def ansR (eN eB : Int) (s : List UInt8) : Int × Int :=
  if numR s = false then (0, eN) else if s.length > 11 then (0, eB) else fin eB false (sg s (valF 0 (body s)))

def Rel (n : Int) (b : Bool) (v : Int) : Prop := 0 ≤ n ∧ 0 ≤ v ∧ ((b = false ∧ n = v) ∨ (b = true ∧ v > 1099511627776))
theorem foldD_none : ∀ (l : List UInt8) (n : Int) (b : Bool), l.all isD = false → foldD l n b = none
  | [], n, b, h => by cases h
  | c :: l, n, b, h => by
    rw [foldD]
    cases hc : isD c with
    | false => rfl
    | true =>
      rw [List.all_cons, hc, Bool.true_and] at h
      simp only [Bool.true_eq_false, if_false]
      split
      · exact foldD_none l _ _ h
      · exact foldD_none l _ _ h
theorem foldD_some : ∀ (l : List UInt8) (n : Int) (b : Bool) (v : Int), l.all isD = true → Rel n b v → ∃ n' b', foldD l n b = some (n', b') ∧ Rel n' b' (valF v l)
  | [], n, b, v, _, hr => ⟨n, b, rfl, hr⟩
  | c :: l, n, b, v, h, hr => by
    rw [List.all_cons, Bool.and_eq_true] at h
    have hc := h.1
    simp only [isD, Bool.and_eq_true, decide_eq_true_eq] at hc
    obtain ⟨h0, h1, h2⟩ := hr
    have e : valF v (c :: l) = valF (v * 10 + ((c.toNat : Int) - 48)) l := rfl
    rw [foldD, if_neg (by simp [h.1]), e]
    split
    · refine foldD_some l _ _ _ h.2 ⟨by omega, by omega, .inr ⟨rfl, ?_⟩⟩
      rcases h2 with ⟨_, h2⟩ | ⟨_, h2⟩ <;> omega
    · refine foldD_some l _ _ _ h.2 ⟨by omega, by omega, ?_⟩
      rcases h2 with ⟨h3, h2⟩ | ⟨h3, h2⟩
      · exact .inl ⟨h3, by omega⟩
      · exact .inr ⟨h3, by omega⟩
theorem valF_ge : ∀ (l : List UInt8) (v : Int), l.all isD = true → 0 ≤ v → v * 10 ^ l.length ≤ valF v l
  | [], v, _, _ => by simp [valF]
  | c :: l, v, h, hv => by
    rw [List.all_cons, Bool.and_eq_true] at h
    have hc := h.1
    simp only [isD, Bool.and_eq_true, decide_eq_true_eq] at hc
    have ih := valF_ge l (v * 10 + ((c.toNat : Int) - 48)) h.2 (by omega)
    have e : valF v (c :: l) = valF (v * 10 + ((c.toNat : Int) - 48)) l := rfl
    rw [e]
    refine Int.le_trans ?_ ih
    rw [List.length_cons, Int.pow_succ, Int.mul_comm (10 ^ l.length) 10, ← Int.mul_assoc]
    exact Int.mul_le_mul_of_nonneg_right (by omega) (Int.pow_nonneg (by omega))
theorem valF_big {c : UInt8} {l : List UInt8} (h1 : 49 ≤ c.toNat) (h : l.all isD = true) (hl : 10 ≤ l.length) : valF 0 (c :: l) ≥ 10000000000 := by
  have e : valF 0 (c :: l) = valF ((0 : Int) * 10 + ((c.toNat : Int) - 48)) l := rfl
  have := valF_ge l ((0 : Int) * 10 + ((c.toNat : Int) - 48)) h (by omega)
  rw [e]
  refine Int.le_trans ?_ this
  have e2 : (10 : Int) ^ l.length = 10 ^ 10 * 10 ^ (l.length - 10) := by rw [← Int.pow_add]; congr 1; omega
  have p0 : (0 : Int) < 10 ^ (l.length - 10) := Int.pow_pos (by omega)
  have p : (1 : Int) ≤ 10 ^ (l.length - 10) := by omega
  have p10 : (10 : Int) ^ 10 = 10000000000 := by decide
  rw [e2, p10]
  have q : (10000000000 : Int) ≤ 10000000000 * 10 ^ (l.length - 10) := by
    generalize (10 : Int) ^ (l.length - 10) = x at p ⊢
    omega
  have r : (1 : Int) * (10000000000 * 10 ^ (l.length - 10)) ≤ ((0 : Int) * 10 + ((c.toNat : Int) - 48)) * (10000000000 * 10 ^ (l.length - 10)) :=
    Int.mul_le_mul_of_nonneg_right (by omega) (by omega)
  omega
theorem body_len (s : List UInt8) : s.length ≤ (body s).length + 1 := by
  unfold body
  split
  · simp; omega
  · omega
theorem ans_both (eN eB : Int) (s : List UInt8) : ansA eN eB s = ansR eN eB s := by
  unfold ansA ansR
  by_cases h48 : s = [48]
  · subst h48; rfl
  · cases hb : body s with
    | nil =>
      rw [if_pos (.inl rfl), if_pos (by simp [numR, h48, hb])]
    | cons c l =>
      have hlen := body_len s
      rw [hb] at hlen
      by_cases hc0 : c = 48
      · subst hc0
        rw [if_pos (.inr ⟨rfl, h48⟩), if_pos (by simp [numR, h48, hb])]
      · rw [if_neg (by simp [hc0])]
        cases ha : (c :: l).all isD with
        | false =>
          rw [foldD_none _ _ _ ha, if_pos (by simp only [numR, hb, ha]; simp [h48])]
        | true =>
          obtain ⟨n, b, e, h0, h1, h2⟩ := foldD_some (c :: l) 0 false 0 ha ⟨Int.le_refl 0, Int.le_refl 0, .inl ⟨rfl, rfl⟩⟩
          rw [e]
          have ha2 := ha
          rw [List.all_cons, Bool.and_eq_true] at ha2
          have hc := ha2.1
          simp only [isD, Bool.and_eq_true, decide_eq_true_eq] at hc
          have hc1 : 49 ≤ c.toNat := by
            have : c.toNat ≠ 48 := fun h => hc0 (UInt8.toNat_inj.1 h)
            omega
          have hn : numR s = true := by
            simp only [numR, hb, ha]; simp [hc1, hc.2]
          rw [if_neg (by simp [hn])]
          show fin eB b (n * sgn s) = _
          have key : fin eB b (n * sgn s) = fin eB false (sg s (valF 0 (c :: l))) := by
            unfold fin
            rcases h2 with ⟨hb', hn'⟩ | ⟨hb', hn'⟩
            · rw [hb', hn']
              unfold sg sgn; cases isNeg s <;> simp
            · rw [if_pos (.inl hb'), if_pos]
              unfold sg; cases isNeg s <;> simp <;> omega
          rw [key]
          by_cases hl : s.length > 11
          · rw [if_pos hl]
            have := valF_big hc1 ha2.2 (by simp at hlen; omega)
            unfold fin
            rw [if_pos]
            unfold sg; cases isNeg s <;> simp <;> omega
          · rw [if_neg hl]

/-- How many bits a number has, and how many digits. -/
def t8L : List UInt8 := [0, 1] ++ List.replicate 2 2 ++ List.replicate 4 3 ++ List.replicate 8 4 ++ List.replicate 16 5 ++ List.replicate 32 6 ++ List.replicate 64 7 ++ List.replicate 128 8
def t8 (v : Nat) : Nat := (t8L.getD v 0).toNat
theorem t8_all : ∀ v : Fin 256, t8L[v.val]? = some (UInt8.ofNat (t8 v.val)) ∧ t8 v.val ≤ 8 ∧ (v.val ≠ 0 → t8 v.val ≠ 0 ∧ 2 ^ (t8 v.val - 1) ≤ v.val ∧ v.val < 2 ^ t8 v.val) := by decide +kernel
def bl (u : Nat) : Nat := if u ≥ 65536 then (if u / 65536 ≥ 256 then 24 + t8 (u / 65536 / 256) else 16 + t8 (u / 65536)) else if u ≥ 256 then 8 + t8 (u / 256) else t8 u
theorem bl_step {u s v : Nat} (hv : v = u / 2 ^ s) (h : v ≠ 0) (h2 : v < 256) : s + t8 v ≠ 0 ∧ s + t8 v ≤ s + 8 ∧ 2 ^ (s + t8 v - 1) ≤ u ∧ u < 2 ^ (s + t8 v) := by
  obtain ⟨_, h3, h4⟩ := t8_all ⟨v, h2⟩
  obtain ⟨h5, h6, h7⟩ := h4 h
  simp only at h3 h5 h6 h7
  have p : 0 < 2 ^ s := Nat.pow_pos (by omega)
  have m := Nat.div_add_mod u (2 ^ s)
  have r := Nat.mod_lt u p
  rw [← hv] at m
  refine ⟨by omega, by omega, ?_, ?_⟩
  · rw [show s + t8 v - 1 = s + (t8 v - 1) by omega, Nat.pow_add]
    have := Nat.mul_le_mul_left (2 ^ s) h6
    omega
  · rw [Nat.pow_add]
    have := Nat.mul_le_mul_left (2 ^ s) (show v + 1 ≤ 2 ^ t8 v from h7)
    rw [Nat.mul_add] at this
    omega
theorem bl_in {u : Nat} (h0 : u ≠ 0) (h : u < 4294967296) : bl u ≠ 0 ∧ bl u ≤ 32 ∧ 2 ^ (bl u - 1) ≤ u ∧ u < 2 ^ bl u := by
  unfold bl
  split
  · split
    · have := bl_step (u := u) (s := 24) (v := u / 65536 / 256) (by rw [Nat.div_div_eq_div_mul]) (by omega) (by omega)
      exact ⟨this.1, by omega, this.2.2⟩
    · have := bl_step (u := u) (s := 16) (v := u / 65536) rfl (by omega) (by omega)
      exact ⟨this.1, by omega, this.2.2⟩
  · split
    · have := bl_step (u := u) (s := 8) (v := u / 256) rfl (by omega) (by omega)
      exact ⟨this.1, by omega, this.2.2⟩
    · have := bl_step (u := u) (s := 0) (v := u) (by simp) (by omega) (by omega)
      rw [Nat.zero_add] at this
      exact ⟨this.1, by omega, this.2.2⟩
def lg (L : Nat) : Nat := L * 78913 / 262144
theorem lg_all : ∀ L : Fin 33, lg L.val ≤ 9 ∧ 10 ^ lg L.val ≤ 2 ^ L.val ∧ 2 ^ L.val ≤ 10 ^ (lg L.val + 1) ∧ (lg L.val ≠ 0 → 10 ^ (lg L.val - 1) ≤ 2 ^ (L.val - 1)) := by decide +kernel
def nd (u : Nat) : Nat := lg (bl u) + if u ≥ 10 ^ lg (bl u) then 1 else 0
theorem nd_in {u : Nat} (h0 : u ≠ 0) (h : u < 4294967296) : nd u ≠ 0 ∧ nd u ≤ 10 ∧ 10 ^ (nd u - 1) ≤ u ∧ u < 10 ^ nd u := by
  obtain ⟨h1, h2, h3, h4⟩ := bl_in h0 h
  obtain ⟨g1, g2, g3, g4⟩ := lg_all ⟨bl u, by omega⟩
  simp only at g1 g2 g3 g4
  unfold nd
  split
  · rename_i hk
    exact ⟨by omega, by omega, by simpa using hk, by omega⟩
  · rename_i hk
    have hz : lg (bl u) ≠ 0 := fun hz => by rw [hz] at hk; simp at hk; omega
    have := g4 hz
    exact ⟨by omega, by omega, by simp only [Nat.add_zero]; omega, by simp only [Nat.add_zero]; omega⟩
theorem nd_dec {u : Nat} (h0 : u ≠ 0) (h : u < 4294967296) : padD (nd u) u = decS u := by
  obtain ⟨h1, h2, h3, h4⟩ := nd_in h0 h
  have e : nd u = (nd u - 1) + 1 := by omega
  rw [e]
  exact padD_dec _ _ (.inr h3) (by rw [← e]; exact h4)
/-- A number's digits, none of 0. -/
def decZ (m : Nat) : List UInt8 := if m = 0 then [] else decS m
theorem decZ_step {m : Nat} (h : m ≠ 0) : decZ m = decZ (m / 10) ++ [dg m] := by
  unfold decZ
  rw [if_neg h, decS]
  by_cases h1 : m < 10
  · rw [if_pos h1, if_pos (by omega)]; rfl
  · rw [if_neg h1, if_neg (by omega)]
theorem decI_zero : decI 0 = [48] := by
  unfold decI
  rw [if_neg (by omega)]
  show decS 0 = _
  rw [decS, if_pos (by omega)]; rfl
end Go.Proofs.YtchhknkflhikmaaDoor.Am.P
