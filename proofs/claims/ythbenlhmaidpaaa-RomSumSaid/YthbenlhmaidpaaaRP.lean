/- The sum of bytes (CRC-32), as a plain function; its algebra. -/
import Derived.Test.YthbenlhmaidpaaaAm20
namespace Go.Proofs.Ythbenlhmaidpaaa.Am.R
set_option linter.unusedSectionVars false
open Go Am
set_option linter.unusedVariables false
set_option linter.unusedSimpArgs false

abbrev poly : BitVec 32 := 0xEDB88320#32
/-- One bit on. -/
def crcT (s : BitVec 32) : BitVec 32 := if s.getLsbD 0 then (s >>> 1) ^^^ poly else s >>> 1
def crcN : Nat → BitVec 32 → BitVec 32
  | 0, s => s
  | n + 1, s => crcN n (crcT s)
def crcB (s : BitVec 32) (c : UInt8) : BitVec 32 := crcN 8 (s ^^^ c.toBitVec.setWidth 32)
def crcF (s : BitVec 32) (l : List UInt8) : BitVec 32 := l.foldl crcB s
def crc32 (l : List UInt8) : BitVec 32 := ~~~ (crcF (BitVec.allOnes 32) l)

theorem crcT_xor (x y : BitVec 32) : crcT (x ^^^ y) = crcT x ^^^ crcT y := by
  unfold crcT
  rw [BitVec.getLsbD_xor, BitVec.ushiftRight_xor_distrib]
  cases x.getLsbD 0 <;> cases y.getLsbD 0 <;> simp
  · rw [BitVec.xor_assoc]
  · rw [BitVec.xor_assoc, BitVec.xor_assoc, BitVec.xor_comm poly]
  · rw [BitVec.xor_assoc, ← BitVec.xor_assoc poly, BitVec.xor_comm poly, BitVec.xor_assoc, BitVec.xor_self, BitVec.xor_zero]
theorem crcN_xor : ∀ (n : Nat) (x y : BitVec 32), crcN n (x ^^^ y) = crcN n x ^^^ crcN n y
  | 0, _, _ => rfl
  | n + 1, x, y => by rw [crcN, crcN, crcN, crcT_xor, crcN_xor n]
theorem crcT_zero (z : BitVec 32) (h : crcT z = 0#32) : z = 0#32 := by
  unfold crcT at h
  have top : (z >>> 1).getLsbD 31 = false := by simp
  cases h0 : z.getLsbD 0 with
  | true =>
    rw [h0, if_pos rfl] at h
    have := congrArg (·.getLsbD 31) h
    simp only [BitVec.getLsbD_xor, top, BitVec.getLsbD_zero] at this
    exact absurd this (by decide)
  | false =>
    rw [h0] at h
    simp only [Bool.false_eq_true, if_false] at h
    ext i hi
    cases i with
    | zero => rw [← BitVec.getLsbD_eq_getElem, h0]; simp
    | succ i =>
      have := congrArg (·.getLsbD i) h
      simp only [BitVec.getLsbD_ushiftRight, BitVec.getLsbD_zero] at this
      rw [← BitVec.getLsbD_eq_getElem]
      simpa [Nat.add_comm] using this
theorem crcN_zero : ∀ (n : Nat) (z : BitVec 32), crcN n z = 0#32 → z = 0#32
  | 0, _, h => h
  | n + 1, z, h => crcT_zero z (crcN_zero n _ h)
theorem crcN_inj (n : Nat) {x y : BitVec 32} (h : crcN n x = crcN n y) : x = y := by
  have h1 : crcN n (x ^^^ y) = 0#32 := by rw [crcN_xor, h, BitVec.xor_self]
  exact BitVec.xor_eq_zero_iff.1 (crcN_zero n _ h1)
theorem crcB_inj {x y : BitVec 32} {c : UInt8} (h : crcB x c = crcB y c) : x = y := by
  have := crcN_inj 8 h
  exact (BitVec.xor_left_inj _).1 this
theorem crcF_inj : ∀ {l : List UInt8} {x y : BitVec 32}, crcF x l = crcF y l → x = y
  | [], _, _, h => h
  | c :: l, x, y, h => crcB_inj (crcF_inj (l := l) h)
theorem crcB_byte {x : BitVec 32} {c d : UInt8} (h : crcB x c = crcB x d) : c = d := by
  have h1 := (BitVec.xor_right_inj _).1 (crcN_inj 8 h)
  have h2 := congrArg BitVec.toNat h1
  simp only [BitVec.toNat_setWidth] at h2
  have hc := c.toBitVec.isLt
  have hd := d.toBitVec.isLt
  rw [Nat.mod_eq_of_lt (by omega), Nat.mod_eq_of_lt (by omega)] at h2
  exact UInt8.eq_of_toBitVec_eq (BitVec.eq_of_toNat_eq h2)
theorem crcF_append (s : BitVec 32) (l m : List UInt8) : crcF s (l ++ m) = crcF (crcF s l) m := by simp [crcF]
/-- A byte turned turns the sum. -/
theorem crc32_set {l : List UInt8} {i : Nat} {c d : UInt8} (h : l[i]? = some c) (hd : d ≠ c) : crc32 (l.set i d) ≠ crc32 l := by
  obtain ⟨hi, rfl⟩ := List.getElem?_eq_some_iff.1 h
  intro he
  have h1 : crcF (BitVec.allOnes 32) (l.set i d) = crcF (BitVec.allOnes 32) l := by
    have := congrArg (fun x => ~~~ x) he
    simpa [crc32] using this
  have e1 : l = l.take i ++ l[i] :: l.drop (i + 1) := by simp
  have e2 : l.set i d = l.take i ++ d :: l.drop (i + 1) := by rw [List.set_eq_take_append_cons_drop, if_pos hi]
  rw [e2] at h1
  conv at h1 => rhs; rw [e1]
  rw [crcF_append, crcF_append] at h1
  exact hd (crcB_byte (crcF_inj (l := l.drop (i + 1)) h1))

theorem xor3_swap (x y z a b c : BitVec 32) : (x ^^^ y ^^^ z) ^^^ (a ^^^ b ^^^ c) = (x ^^^ a) ^^^ (y ^^^ b) ^^^ (z ^^^ c) := by
  ext i hi
  simp only [BitVec.getElem_xor]
  cases x[i] <;> cases y[i] <;> cases z[i] <;> cases a[i] <;> cases b[i] <;> cases c[i] <;> rfl
theorem byte_xor (a b : UInt8) : (a ^^^ b).toBitVec.setWidth 32 = a.toBitVec.setWidth 32 ^^^ b.toBitVec.setWidth 32 := by
  rw [UInt8.toBitVec_xor, BitVec.setWidth_xor]
theorem crcF_xor3 : ∀ (l m n : List UInt8) (x y z : BitVec 32), l.length = m.length → l.length = n.length →
    crcF (x ^^^ y ^^^ z) (List.zipWith (· ^^^ ·) (List.zipWith (· ^^^ ·) l m) n) = crcF x l ^^^ crcF y m ^^^ crcF z n
  | [], [], [], x, y, z, _, _ => rfl
  | a :: l, b :: m, c :: n, x, y, z, h1, h2 => by
    simp only [List.zipWith_cons_cons]
    show crcF (crcB (x ^^^ y ^^^ z) (a ^^^ b ^^^ c)) _ = crcF (crcB x a) l ^^^ crcF (crcB y b) m ^^^ crcF (crcB z c) n
    have : crcB (x ^^^ y ^^^ z) (a ^^^ b ^^^ c) = crcB x a ^^^ crcB y b ^^^ crcB z c := by
      unfold crcB
      rw [byte_xor, byte_xor, xor3_swap, crcN_xor, crcN_xor]
    rw [this, crcF_xor3 l m n _ _ _ (by simpa using h1) (by simpa using h2)]
theorem crc32_xor3 (l m n : List UInt8) (h1 : l.length = m.length) (h2 : l.length = n.length) :
    crc32 (List.zipWith (· ^^^ ·) (List.zipWith (· ^^^ ·) l m) n) = crc32 l ^^^ crc32 m ^^^ crc32 n := by
  unfold crc32
  have h := crcF_xor3 l m n (BitVec.allOnes 32) (BitVec.allOnes 32) (BitVec.allOnes 32) h1 h2
  rw [BitVec.xor_self, BitVec.zero_xor] at h
  rw [h]
  ext i hi
  simp only [BitVec.getElem_xor, BitVec.getElem_not]
  generalize (crcF (BitVec.allOnes 32) l)[i] = p
  generalize (crcF (BitVec.allOnes 32) m)[i] = q
  generalize (crcF (BitVec.allOnes 32) n)[i] = r
  cases p <;> cases q <;> cases r <;> rfl
theorem crc32_nil : crc32 [] = 0#32 := by simp [crc32, crcF]
theorem crc32_check : crc32 [49, 50, 51, 52, 53, 54, 55, 56, 57] = 0xCBF43926#32 := by decide +kernel
end Go.Proofs.Ythbenlhmaidpaaa.Am.R
