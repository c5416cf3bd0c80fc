/- The line's sums and stuffing, as plain functions; their algebra. -/
import Derived.Test.YtindglcpailjgaaDoorAm20
namespace Go.Proofs.YtindglcpailjgaaDoor.Am.W
set_option linter.unusedSectionVars false
open Go Am
set_option linter.unusedVariables false
set_option linter.unusedSimpArgs false

abbrev poly : BitVec 16 := 0x8408#16
/-- One bit on. -/
def sT (s : BitVec 16) : BitVec 16 := if s.getLsbD 0 then (s >>> 1) ^^^ poly else s >>> 1
def sN : Nat → BitVec 16 → BitVec 16
  | 0, s => s
  | n + 1, s => sN n (sT s)
def sB (s : BitVec 16) (c : UInt8) : BitVec 16 := sN 8 (s ^^^ c.toBitVec.setWidth 16)
def sF (s : BitVec 16) (l : List UInt8) : BitVec 16 := l.foldl sB s
def sum16 (l : List UInt8) : BitVec 16 := ~~~ (sF (BitVec.allOnes 16) l)

theorem sT_xor (x y : BitVec 16) : sT (x ^^^ y) = sT x ^^^ sT y := by
  unfold sT
  rw [BitVec.getLsbD_xor, BitVec.ushiftRight_xor_distrib]
  cases x.getLsbD 0 <;> cases y.getLsbD 0 <;> simp
  · rw [BitVec.xor_assoc]
  · rw [BitVec.xor_assoc, BitVec.xor_assoc, BitVec.xor_comm poly]
  · rw [BitVec.xor_assoc, ← BitVec.xor_assoc poly, BitVec.xor_comm poly, BitVec.xor_assoc, BitVec.xor_self, BitVec.xor_zero]
theorem sN_xor : ∀ (n : Nat) (x y : BitVec 16), sN n (x ^^^ y) = sN n x ^^^ sN n y
  | 0, _, _ => rfl
  | n + 1, x, y => by rw [sN, sN, sN, sT_xor, sN_xor n]
theorem sN_add : ∀ (m n : Nat) (x : BitVec 16), sN (m + n) x = sN n (sN m x)
  | 0, n, x => by rw [Nat.zero_add]; rfl
  | m + 1, n, x => by rw [Nat.succ_add, sN, sN, sN_add m n]
theorem sT_zero (z : BitVec 16) (h : sT z = 0#16) : z = 0#16 := by
  unfold sT at h
  have top : (z >>> 1).getLsbD 15 = false := by simp
  cases h0 : z.getLsbD 0 with
  | true =>
    rw [h0, if_pos rfl] at h
    have := congrArg (·.getLsbD 15) h
    simp only [BitVec.getLsbD_xor, top, BitVec.getLsbD_zero] at this
    exact absurd this (by decide)
  | false =>
    rw [h0] at h
    simp only [Bool.false_eq_true, if_false] at h
    ext i hi
    cases i with
    | zero => rw [← BitVec.getLsbD_eq_getElem, h0]; simp
    | succ i =>
      have := congrArg (·.getLsbD i) h
      simp only [BitVec.getLsbD_ushiftRight, BitVec.getLsbD_zero] at this
      rw [← BitVec.getLsbD_eq_getElem]
      simpa [Nat.add_comm] using this
theorem sN_zero : ∀ (n : Nat) (z : BitVec 16), sN n z = 0#16 → z = 0#16
  | 0, _, h => h
  | n + 1, z, h => sT_zero z (sN_zero n _ h)
theorem sN_inj (n : Nat) {x y : BitVec 16} (h : sN n x = sN n y) : x = y := by
  have h1 : sN n (x ^^^ y) = 0#16 := by rw [sN_xor, h, BitVec.xor_self]
  exact BitVec.xor_eq_zero_iff.1 (sN_zero n _ h1)
theorem sF_append (s : BitVec 16) (l m : List UInt8) : sF s (l ++ m) = sF (sF s l) m := by simp [sF]

/-- Four bits at once. -/
def tab16 : List Nat := [0x0000, 0x1081, 0x2102, 0x3183, 0x4204, 0x5285, 0x6306, 0x7387, 0x8408, 0x9489, 0xA50A, 0xB58B, 0xC60C, 0xD68D, 0xE70E, 0xF78F]
theorem tab_eq : ∀ i : Fin 16, sN 4 (BitVec.ofNat 16 i.val) = BitVec.ofNat 16 (tab16.getD i.val 0) := by decide +kernel
theorem sN4_high (x : BitVec 16) (h : x &&& 15#16 = 0#16) : sN 4 x = x >>> 4 := by
  have b : ∀ i, i < 4 → x.getLsbD i = false := fun i hi => by
    have := congrArg (·.getLsbD i) h
    simp only [BitVec.getLsbD_and, BitVec.getLsbD_zero] at this
    have h15 : (15#16).getLsbD i = true := by
      match i, hi with
      | 0, _ => rfl
      | 1, _ => rfl
      | 2, _ => rfl
      | 3, _ => rfl
    rw [h15, Bool.and_true] at this; exact this
  have step : ∀ (y : BitVec 16), y.getLsbD 0 = false → sT y = y >>> 1 := fun y hy => by unfold sT; rw [hy]; rfl
  have e1 := step x (b 0 (by omega))
  have e2 := step (x >>> 1) (by rw [BitVec.getLsbD_ushiftRight]; exact b 1 (by omega))
  have e3 := step (x >>> 1 >>> 1) (by rw [BitVec.getLsbD_ushiftRight, BitVec.getLsbD_ushiftRight]; exact b 2 (by omega))
  have e4 := step (x >>> 1 >>> 1 >>> 1) (by rw [BitVec.getLsbD_ushiftRight, BitVec.getLsbD_ushiftRight, BitVec.getLsbD_ushiftRight]; exact b 3 (by omega))
  simp only [sN, e1, e2, e3, e4]
  simp only [← BitVec.shiftRight_add]
theorem and_low (x : BitVec 16) : (x &&& 15#16) = BitVec.ofNat 16 (x.toNat % 16) := by
  apply BitVec.eq_of_toNat_eq
  rw [BitVec.toNat_and, BitVec.toNat_ofNat]
  show x.toNat &&& 15 = _
  rw [show (15 : Nat) = 2 ^ 4 - 1 from rfl, Nat.and_two_pow_sub_one_eq_mod]
  show x.toNat % 16 = x.toNat % 16 % 65536
  omega
theorem sN4 (x : BitVec 16) : sN 4 x = (x >>> 4) ^^^ BitVec.ofNat 16 (tab16.getD (x.toNat % 16) 0) := by
  have e : x = (x ^^^ (x &&& 15#16)) ^^^ (x &&& 15#16) := by rw [BitVec.xor_assoc, BitVec.xor_self, BitVec.xor_zero]
  have h1 : (x ^^^ (x &&& 15#16)) &&& 15#16 = 0#16 := by
    ext i hi
    simp only [BitVec.getElem_and, BitVec.getElem_xor, BitVec.getElem_zero]
    cases x[i] <;> cases (15#16)[i] <;> rfl
  have h2 : (x ^^^ (x &&& 15#16)) >>> 4 = x >>> 4 := by
    rw [BitVec.ushiftRight_xor_distrib, and_low]
    have : (BitVec.ofNat 16 (x.toNat % 16)) >>> 4 = 0#16 := by
      apply BitVec.eq_of_toNat_eq
      rw [BitVec.toNat_ushiftRight, BitVec.toNat_ofNat, Nat.shiftRight_eq_div_pow]
      simp; omega
    rw [this, BitVec.xor_zero]
  conv => lhs; rw [e]
  rw [sN_xor, sN4_high _ h1, h2, and_low]
  have := tab_eq ⟨x.toNat % 16, by omega⟩
  simp only at this
  rw [this]

/-! ### Stuffing -/
def stuff1 (c : UInt8) : List UInt8 := if c = 0x7E ∨ c = 0x7D then [0x7D, c ^^^ 0x20] else [c]
def stuff (l : List UInt8) : List UInt8 := l.flatMap stuff1
def unstuff : List UInt8 → Option (List UInt8)
  | [] => some []
  | [c] => if c = 0x7E ∨ c = 0x7D then none else some [c]
  | c :: d :: l => if c = 0x7E then none else if c = 0x7D then (if d = 0x5E ∨ d = 0x5D then (unstuff l).map ((d ^^^ 0x20) :: ·) else none) else (unstuff (d :: l)).map (c :: ·)
end Go.Proofs.YtindglcpailjgaaDoor.Am.W
