/- Two wants put together. -/
import Derived.Test.YtdchdlabdokjnaaHA
namespace Go.Proofs.Ytdchdlabdokjnaa.Am.H
set_option linter.unusedSectionVars false
open Go Am
set_option linter.unusedVariables false
set_option linter.unusedSimpArgs false

def mixW (n : Nat) (a b : BitVec 64) : BitVec 64 := (a &&& ((1#64 <<< n) - 1#64)) ||| (b <<< n)
theorem mask_nat {n : Nat} (h : n ≤ 63) : ((1#64 <<< n) - 1#64).toNat = 2 ^ n - 1 := by
  have h1 : 2 ^ n ≤ 2 ^ 63 := Nat.pow_le_pow_right (by omega) h
  have h0 : 0 < 2 ^ n := Nat.pow_pos (by omega)
  have e : (1#64 <<< n).toNat = 2 ^ n := by
    rw [BitVec.toNat_shiftLeft, Nat.shiftLeft_eq]
    show 1 * 2 ^ n % 2 ^ 64 = 2 ^ n
    rw [Nat.one_mul]; exact Nat.mod_eq_of_lt (by omega)
  rw [BitVec.toNat_sub, e]
  show (2 ^ 64 - 1 + 2 ^ n) % 2 ^ 64 = 2 ^ n - 1
  omega
theorem mask_bit {n i : Nat} (h : n ≤ 63) : ((1#64 <<< n) - 1#64).getLsbD i = decide (i < n) := by
  rw [← BitVec.testBit_toNat, mask_nat h, Nat.testBit_two_pow_sub_one]
theorem mix_bits {n m : Nat} (h : n ≤ 63) (hm : n + m ≤ 64) (a b : BitVec 64) : Bits n m (mixW n a b) a b := by
  refine ⟨fun g hg => ?_, fun g hg => ?_⟩
  · simp only [mixW, BitVec.getLsbD_or, BitVec.getLsbD_and, mask_bit h, BitVec.getLsbD_shiftLeft]
    simp [hg]
  · simp only [mixW, BitVec.getLsbD_or, BitVec.getLsbD_and, mask_bit h, BitVec.getLsbD_shiftLeft]
    have h1 : ¬ n + g < n := by omega
    have h2 : n + g < 64 := by omega
    simp [h1, h2]
theorem shl64 (x : BitVec 64) (i : Nat) (hi : i ≤ 64) : shlA .u64 (x.toNat : Int) (i : Int) = ((x <<< i).toNat : Int) := by
  simp only [shlA, Int.toNat_natCast, IntKind.bits, Nat.min_eq_left hi]
  have e : (x.toNat : Int) * (2 ^ i : Int) = ((x.toNat * 2 ^ i : Nat) : Int) := by simp
  rw [e, BitVec.toNat_shiftLeft, Nat.shiftLeft_eq]
  simp only [IntKind.wrap, IntKind.bits, IntKind.signed]
  simp
theorem shl64_1 (i : Nat) (hi : i ≤ 64) : shlA .u64 1 (i : Int) = ((1#64 <<< i).toNat : Int) := shl64 1#64 i hi
theorem sub_mask {n : Nat} (h : n ≤ 63) : IntKind.wrap .u64 (((1#64 <<< n).toNat : Int) - 1) = (((1#64 <<< n) - 1#64).toNat : Int) := by
  have e : (1#64 <<< n).toNat = 2 ^ n := by
    rw [BitVec.toNat_shiftLeft, Nat.shiftLeft_eq]
    show 1 * 2 ^ n % 2 ^ 64 = 2 ^ n
    rw [Nat.one_mul]; exact Nat.mod_eq_of_lt (Nat.pow_lt_pow_right (by omega) (by omega))
  have h0 : 0 < 2 ^ n := Nat.pow_pos (by omega)
  have h1 : 2 ^ n ≤ 2 ^ 63 := Nat.pow_le_pow_right (by omega) h
  rw [mask_nat h, e]
  generalize 2 ^ n = z at *
  rw [wrapU64 (by omega) (by omega)]; omega
theorem runT_lens {t : Tables} : ∀ (ws : List (BitVec 64)) (h : Hd), sound t h = true → I32 h → ∀ s ∈ runT t h ws, s.length = t.groups.length
  | [], h, _, _, s, hm => by simp [runT] at hm
  | w :: ws, h, hs, hI, s, hm => by
    obtain ⟨s1, s2, _⟩ := sound_step w hs hI
    rw [runT] at hm
    rcases List.mem_cons.1 hm with rfl | hm
    · have := (sound_len s1).a
      simpa [Hd.show] using this
    · exact runT_lens ws _ s1 s2 s hm
theorem runL_lens {t : Tables} (hok : t.ok = true) (ws : List (BitVec 64)) : ∀ s ∈ runL t ws, s.length = t.groups.length := fun s hm => by
  obtain ⟨z1, z2⟩ := start_sound hok
  rw [runL] at hm
  rcases List.mem_cons.1 hm with rfl | hm
  · have := (sound_len z1).a
    simpa [Hd.show] using this
  · exact runT_lens ws _ z1 z2 s hm
end Go.Proofs.Ytdchdlabdokjnaa.Am.H
