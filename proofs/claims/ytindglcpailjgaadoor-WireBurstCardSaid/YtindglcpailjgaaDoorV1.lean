/- Bits turned within a frame: refused. Plain laws. -/
import Derived.Test.YtindglcpailjgaaDoorB3
namespace Go.Proofs.YtindglcpailjgaaDoor.Am.W
set_option linter.unusedSectionVars false
open Go Go.Proofs Am
set_option linter.unusedVariables false
set_option linter.unusedSimpArgs false

/-- Bytes with a number's bits turned. -/
def xb : List UInt8 → Nat → List UInt8
  | [], _ => []
  | c :: l, V => (c ^^^ UInt8.ofNat (V % 256)) :: xb l (V / 256)
theorem xb_len : ∀ (l : List UInt8) (V : Nat), (xb l V).length = l.length
  | [], _ => rfl
  | c :: l, V => by simp [xb, xb_len l]
theorem xb_zero : ∀ (l : List UInt8), xb l 0 = l
  | [] => rfl
  | c :: l => by simp [xb, xb_zero l]
theorem bit_byte : ∀ j : Fin 8, ∀ v : Fin 128, v.val < 2 ^ j.val → UInt8.ofNat (v.val + 2 ^ j.val) = UInt8.ofNat v.val ^^^ UInt8.ofNat (2 ^ j.val) := by decide +kernel
/-- One bit more. -/
theorem xb_set : ∀ (l : List UInt8) (V j : Nat) (x : UInt8), V < 2 ^ j → (xb l V)[j / 8]? = some x → (xb l V).set (j / 8) (x ^^^ UInt8.ofNat (2 ^ (j % 8))) = xb l (V + 2 ^ j)
  | [], V, j, x, _, h => by simp [xb] at h
  | c :: l, V, j, x, hV, h => by
    by_cases hj : j < 8
    · have h0 : j / 8 = 0 := by omega
      have hp : 2 ^ j < 256 := Nat.lt_of_lt_of_le (Nat.pow_lt_pow_right (by omega) hj) (by decide)
      have hp' : 2 ^ j ≤ 128 := Nat.le_trans (Nat.pow_le_pow_right (by omega) (by omega : j ≤ 7)) (by decide)
      rw [h0] at h ⊢
      simp only [xb, List.getElem?_cons_zero, Option.some.injEq, List.set_cons_zero] at h ⊢
      subst h
      have hb := bit_byte ⟨j, hj⟩ ⟨V, by omega⟩ hV
      simp only at hb
      rw [Nat.mod_eq_of_lt (by omega : V < 256), Nat.mod_eq_of_lt (by omega : V + 2 ^ j < 256), Nat.div_eq_of_lt (by omega : V < 256), Nat.div_eq_of_lt (by omega : V + 2 ^ j < 256), hb, Nat.mod_eq_of_lt hj, UInt8.xor_assoc]
    · obtain ⟨k, rfl⟩ : ∃ k, j = k + 8 := ⟨j - 8, by omega⟩
      have h0 : (k + 8) / 8 = k / 8 + 1 := by omega
      have hp : 2 ^ (k + 8) = 2 ^ k * 256 := by rw [Nat.pow_add]
      rw [h0] at h ⊢
      simp only [xb, List.getElem?_cons_succ, List.set_cons_succ] at h ⊢
      rw [hp] at hV ⊢
      rw [Nat.add_mul_mod_self_right, Nat.add_mul_div_right _ _ (by omega), show (k + 8) % 8 = k % 8 by omega, xb_set l (V / 256) k x (by omega) h]
/-- Bytes that are not touched. -/
theorem xb_low : ∀ (l : List UInt8) (V f : Nat), V % 256 ^ f = 0 → xb l V = l.take f ++ xb (l.drop f) (V / 256 ^ f)
  | l, V, 0, _ => by simp
  | [], V, f + 1, _ => by simp [xb]
  | c :: l, V, f + 1, h => by
    rw [Nat.pow_succ, Nat.mul_comm] at h
    have h1 : V % 256 = 0 := by
      have := Nat.mod_mul_right_mod V 256 (256 ^ f)
      rw [h] at this; simpa using this.symm
    have h2 : V / 256 % 256 ^ f = 0 := by
      have := Nat.mod_mul_right_div_self V 256 (256 ^ f)
      rw [h] at this; simpa using this.symm
    simp only [xb, List.take_succ_cons, List.drop_succ_cons, List.cons_append]
    rw [xb_low l (V / 256) f h2, h1, Nat.pow_succ, Nat.mul_comm, ← Nat.div_div_eq_div_mul]
    congr 1
    exact UInt8.xor_zero
theorem xb_high : ∀ (l : List UInt8) (V g : Nat), V < 256 ^ g → xb l V = xb (l.take g) V ++ l.drop g
  | l, V, 0, h => by
    obtain rfl : V = 0 := by simpa using h
    simp [xb, xb_zero]
  | [], V, g + 1, _ => by simp [xb]
  | c :: l, V, g + 1, h => by
    rw [Nat.pow_succ] at h
    simp only [xb, List.take_succ_cons, List.drop_succ_cons, List.cons_append]
    rw [xb_high l (V / 256) g (by omega)]
theorem xb_get : ∀ (l : List UInt8) (V k : Nat), (xb l V)[k]? = (l[k]?).map (· ^^^ UInt8.ofNat (V / 256 ^ k % 256))
  | [], V, k => by simp [xb]
  | c :: l, V, 0 => by simp [xb]
  | c :: l, V, k + 1 => by
    simp only [xb, List.getElem?_cons_succ]
    rw [xb_get l (V / 256) k, Nat.pow_succ, Nat.mul_comm, ← Nat.div_div_eq_div_mul]

/-! ### The sum over turned bits -/
/-- A number's bytes. -/
def byts : Nat → Nat → List UInt8
  | 0, _ => []
  | n + 1, V => UInt8.ofNat (V % 256) :: byts n (V / 256)
theorem sB_xor (s t : BitVec 16) (c d : UInt8) : sB (s ^^^ t) (c ^^^ d) = sB s c ^^^ sB t d := by
  unfold sB
  rw [← sN_xor]
  congr 1
  have : (c ^^^ d).toBitVec = c.toBitVec ^^^ d.toBitVec := rfl
  rw [this]
  apply BitVec.eq_of_getLsbD_eq
  intro i hi
  simp only [BitVec.getLsbD_xor, BitVec.getLsbD_setWidth]
  cases s.getLsbD i <;> cases t.getLsbD i <;> cases c.toBitVec.getLsbD i <;> cases d.toBitVec.getLsbD i <;> simp
theorem sF_xb : ∀ (l : List UInt8) (V : Nat) (s t : BitVec 16), sF (s ^^^ t) (xb l V) = sF s l ^^^ sF t (byts l.length V)
  | [], _, _, _ => rfl
  | c :: l, V, s, t => by
    show sF (sB (s ^^^ t) (c ^^^ UInt8.ofNat (V % 256))) (xb l (V / 256)) = sF (sB s c) l ^^^ sF (sB t (UInt8.ofNat (V % 256))) (byts l.length (V / 256))
    rw [sB_xor]; exact sF_xb l (V / 256) _ _
theorem sN_high : ∀ (k : Nat) (y : BitVec 16), y.toNat % 2 ^ k = 0 → sN k y = BitVec.ofNat 16 (y.toNat / 2 ^ k)
  | 0, y, _ => by simp [sN]
  | k + 1, y, h => by
    have h2 : y.toNat % 2 = 0 := by rw [Nat.pow_succ] at h; have := Nat.mod_mul_left_mod y.toNat (2 ^ k) 2; rw [h] at this; omega
    have hb : y.getLsbD 0 = false := by
      rw [← BitVec.testBit_toNat, Nat.testBit_zero]; simp [h2]
    have e : sT y = y >>> 1 := by unfold sT; rw [hb]; rfl
    show sN k (sT y) = _
    rw [e]
    have e2 : (y >>> 1).toNat = y.toNat / 2 := by rw [BitVec.toNat_ushiftRight, Nat.shiftRight_eq_div_pow]
    have h3 : y.toNat / 2 % 2 ^ k = 0 := by
      rw [Nat.pow_succ, Nat.mul_comm] at h
      have := Nat.mod_mul_right_div_self y.toNat 2 (2 ^ k)
      rw [h] at this; simpa using this.symm
    rw [sN_high k _ (by rw [e2]; exact h3), e2, Nat.div_div_eq_div_mul, Nat.pow_succ, Nat.mul_comm 2]

theorem sB_zero (s : BitVec 16) : sB s 0 = sN 8 s := by
  unfold sB
  have : (0 : UInt8).toBitVec.setWidth 16 = 0#16 := rfl
  rw [this, BitVec.xor_zero]
theorem sN_0 (n : Nat) : sN n 0#16 = 0#16 := by
  induction n with
  | zero => rfl
  | succ n ih => exact ih
theorem sF_zeros : ∀ (k : Nat) (s : BitVec 16), sF s (List.replicate k 0) = 0#16 ↔ s = 0#16
  | 0, s => Iff.rfl
  | k + 1, s => by
    show sF (sB s 0) (List.replicate k 0) = 0#16 ↔ _
    rw [sF_zeros k, sB_zero]
    exact ⟨sN_zero 8 s, fun h => by rw [h, sN_0]⟩
theorem byts_more : ∀ (n k V : Nat), V < 256 ^ n → byts (n + k) V = byts n V ++ List.replicate k 0
  | 0, k, V, h => by
    obtain rfl : V = 0 := by simpa using h
    rw [Nat.zero_add]
    clear h
    show byts k 0 = List.replicate k 0
    induction k with
    | zero => rfl
    | succ k ih => simp only [byts, List.replicate_succ, Nat.zero_div, Nat.zero_mod]; rw [ih]; rfl
  | n + 1, k, V, h => by
    rw [Nat.pow_succ] at h
    rw [show n + 1 + k = (n + k) + 1 by omega]
    simp only [byts, List.cons_append]
    rw [byts_more n k (V / 256) (by omega)]
theorem byts_shift : ∀ (f n V : Nat), byts (f + n) (V * 256 ^ f) = List.replicate f 0 ++ byts n V
  | 0, n, V => by simp
  | f + 1, n, V => by
    rw [show f + 1 + n = (f + n) + 1 by omega]
    simp only [byts, List.replicate_succ, List.cons_append]
    rw [Nat.pow_succ, ← Nat.mul_assoc, Nat.mul_mod_left, Nat.mul_div_cancel _ (by omega), byts_shift f n V]; rfl
theorem xor_apart (x y : Nat) (hx : x < 256) : x ^^^ (y * 256) = x + y * 256 := by
  have h1 : (x ^^^ (y * 256)) % 2 ^ 8 = x := by
    rw [Nat.xor_mod_two_pow, Nat.mod_eq_of_lt (show x < 2 ^ 8 by omega), show y * 256 % 2 ^ 8 = 0 by omega, Nat.xor_zero]
  have h2 : (x ^^^ (y * 256)) / 2 ^ 8 = y := by
    rw [Nat.xor_div_two_pow, Nat.div_eq_of_lt (show x < 2 ^ 8 by omega), show y * 256 / 2 ^ 8 = y by omega, Nat.zero_xor]
  have h3 := Nat.div_add_mod (x ^^^ (y * 256)) (2 ^ 8)
  rw [h1, h2] at h3
  omega
theorem ext8 (n : Nat) (h : n < 256) : (UInt8.ofNat n).toBitVec.setWidth 16 = BitVec.ofNat 16 n := by
  apply BitVec.eq_of_toNat_eq
  rw [BitVec.toNat_setWidth, BitVec.toNat_ofNat]
  have : (UInt8.ofNat n).toBitVec.toNat = n := u8_val h
  rw [this]
theorem ofNat16_inj {x y : Nat} (hx : x < 65536) (hy : y < 65536) (h : BitVec.ofNat 16 x = BitVec.ofNat 16 y) : x = y := by
  have := congrArg BitVec.toNat h
  rw [BitVec.toNat_ofNat, BitVec.toNat_ofNat] at this
  omega
theorem two_bytes (V : Nat) : sB (sB 0#16 (UInt8.ofNat (V % 256))) (UInt8.ofNat (V / 256 % 256)) = sN 16 (BitVec.ofNat 16 (V % 65536)) := by
  have hW : sN 8 (BitVec.ofNat 16 (V / 256 % 256 * 256)) = BitVec.ofNat 16 (V / 256 % 256) := by
    have e : (BitVec.ofNat 16 (V / 256 % 256 * 256)).toNat = V / 256 % 256 * 256 := by rw [BitVec.toNat_ofNat]; omega
    rw [sN_high 8 _ (by rw [e]; omega), e]
    congr 1; omega
  have hX : BitVec.ofNat 16 (V % 65536) = BitVec.ofNat 16 (V % 256) ^^^ BitVec.ofNat 16 (V / 256 % 256 * 256) := by
    apply BitVec.eq_of_toNat_eq
    rw [BitVec.toNat_xor, BitVec.toNat_ofNat, BitVec.toNat_ofNat, BitVec.toNat_ofNat, Nat.mod_eq_of_lt (show V % 256 < 2 ^ 16 by omega), Nat.mod_eq_of_lt (show V / 256 % 256 * 256 < 2 ^ 16 by omega), xor_apart _ _ (by omega)]
    omega
  unfold sB
  rw [ext8 _ (by omega), ext8 _ (by omega), BitVec.zero_xor, ← hW, ← sN_xor, ← hX, ← sN_add]
theorem burst3 (p a : Nat) (hp : p < 65536) (h0 : p ≠ 0) (ha : a < 8) : sF 0#16 (byts 3 (p * 2 ^ a)) ≠ 0#16 := by
  intro h
  have hm : 2 ^ a * 2 ^ (16 - a) = 65536 := by rw [← Nat.pow_add, show a + (16 - a) = 16 by omega]
  have hpa : 0 < 2 ^ a := Nat.pow_pos (by omega)
  have hpm : 0 < 2 ^ (16 - a) := Nat.pow_pos (by omega)
  have h128 : 2 ^ a ≤ 128 := Nat.le_trans (Nat.pow_le_pow_right (by omega) (by omega : a ≤ 7)) (by decide)
  have hV : p * 2 ^ a < 65536 * 128 := by
    have := Nat.mul_le_mul_left p h128
    have := Nat.mul_lt_mul_of_pos_right hp (show 0 < 128 by omega)
    omega
  have e1 : p * 2 ^ a % 65536 / 2 ^ a = p % 2 ^ (16 - a) := by
    rw [← hm, Nat.mul_comm p, Nat.mul_mod_mul_left, Nat.mul_div_cancel_left _ hpa]
  have e2 : p * 2 ^ a / 65536 = p / 2 ^ (16 - a) := by
    rw [← hm, Nat.mul_comm p, Nat.mul_div_mul_left _ _ hpa]
  have e3 : p * 2 ^ a % 65536 % 2 ^ a = 0 := by
    rw [← hm, Nat.mul_comm p, Nat.mul_mod_mul_left, Nat.mul_mod_right]
  generalize hVV : p * 2 ^ a = V at *
  have h' : sB (sB (sB 0#16 (UInt8.ofNat (V % 256))) (UInt8.ofNat (V / 256 % 256))) (UInt8.ofNat (V / 256 / 256 % 256)) = 0#16 := h
  rw [two_bytes] at h'
  unfold sB at h'
  rw [ext8 _ (by omega)] at h'
  have h2 := BitVec.xor_eq_zero_iff.1 (sN_zero 8 _ h')
  rw [show V / 256 / 256 % 256 = V / 65536 by omega, e2] at h2
  have t1 : (BitVec.ofNat 16 (V % 65536)).toNat = V % 65536 := by rw [BitVec.toNat_ofNat]; omega
  have s1 : sN a (BitVec.ofNat 16 (V % 65536)) = BitVec.ofNat 16 (p % 2 ^ (16 - a)) := by
    rw [sN_high a _ (by rw [t1]; exact e3), t1, e1]
  have hle : p / 2 ^ (16 - a) * 2 ^ (16 - a) ≤ p := Nat.div_mul_le_self _ _
  have t2 : (BitVec.ofNat 16 (p / 2 ^ (16 - a) * 2 ^ (16 - a))).toNat = p / 2 ^ (16 - a) * 2 ^ (16 - a) := by rw [BitVec.toNat_ofNat]; omega
  have s2 : sN (16 - a) (BitVec.ofNat 16 (p / 2 ^ (16 - a) * 2 ^ (16 - a))) = BitVec.ofNat 16 (p / 2 ^ (16 - a)) := by
    rw [sN_high (16 - a) _ (by rw [t2, Nat.mul_mod_left]), t2, Nat.mul_div_cancel _ hpm]
  have s3 : sN 16 (BitVec.ofNat 16 (V % 65536)) = sN (16 - a) (BitVec.ofNat 16 (p % 2 ^ (16 - a))) := by
    rw [← s1, ← sN_add, show a + (16 - a) = 16 by omega]
  rw [s3, ← s2] at h2
  have hlt := Nat.mod_lt p hpm
  have hmp : p % 2 ^ (16 - a) ≤ p := Nat.mod_le _ _
  have h3 := ofNat16_inj (by omega) (by omega) (sN_inj _ h2)
  have h4 := Nat.div_add_mod p (2 ^ (16 - a))
  rw [Nat.mul_comm] at h4
  generalize 2 ^ (16 - a) = M at *
  generalize p / M = q at *
  rcases Nat.eq_zero_or_pos q with rfl | hq
  · simp at h3 h4; omega
  · have : M ≤ q * M := Nat.le_mul_of_pos_left M hq
    omega
theorem burst_n : ∀ (n p a : Nat), p < 65536 → p ≠ 0 → p * 2 ^ a < 256 ^ n → sF 0#16 (byts n (p * 2 ^ a)) ≠ 0#16
  | 0, p, a, _, h0, h => by
    exfalso
    have := Nat.mul_pos (Nat.pos_of_ne_zero h0) (Nat.pow_pos (n := a) (show 0 < 2 by omega))
    simp at h; omega
  | n + 1, p, a, hp, h0, h => by
    by_cases ha : a < 8
    · intro hz
      have h1 : sF 0#16 (byts (n + 1 + 3) (p * 2 ^ a)) = 0#16 := by rw [byts_more _ _ _ h, sF_append, hz, sF_zeros]
      have h128 : 2 ^ a ≤ 128 := Nat.le_trans (Nat.pow_le_pow_right (by omega) (by omega : a ≤ 7)) (by decide)
      have hV : p * 2 ^ a < 256 ^ 3 := by
        have := Nat.mul_le_mul_left p h128
        have := Nat.mul_lt_mul_of_pos_right hp (show 0 < 128 by omega)
        omega
      rw [show n + 1 + 3 = 3 + (n + 1) by omega, byts_more _ _ _ hV, sF_append, sF_zeros] at h1
      exact burst3 p a hp h0 ha h1
    · obtain ⟨b, rfl⟩ : ∃ b, a = b + 8 := ⟨a - 8, by omega⟩
      have e : p * 2 ^ (b + 8) = p * 2 ^ b * 256 := by rw [Nat.pow_add, ← Nat.mul_assoc]
      rw [e] at h ⊢
      rw [Nat.pow_succ] at h
      show sF (sB 0#16 (UInt8.ofNat (p * 2 ^ b * 256 % 256))) (byts n (p * 2 ^ b * 256 / 256)) ≠ 0#16
      rw [Nat.mul_mod_left, Nat.mul_div_cancel _ (by omega), show UInt8.ofNat 0 = 0 from rfl, sB_zero, sN_0]
      exact burst_n n p b hp h0 (by omega)
/-- Within a window of sixteen bits, wherever it stands. -/
theorem burst (n U f p b : Nat) (hp : p < 65536) (h0 : p ≠ 0) (hU : U < 256 ^ n) (h : U * 256 ^ f = p * 2 ^ b) : sF 0#16 (byts n U) ≠ 0#16 := by
  intro hz
  have h1 := byts_shift f n U
  have h2 : sF 0#16 (byts (f + n) (U * 256 ^ f)) = 0#16 := by
    rw [h1, sF_append, (sF_zeros f 0#16).2 rfl, hz]
  rw [h] at h2
  refine burst_n (f + n) p b hp h0 ?_ h2
  rw [← h, Nat.pow_add, Nat.mul_comm U]
  exact Nat.mul_lt_mul_of_pos_left hU (Nat.pow_pos (by omega))
theorem bit255 (i : Nat) : (255#16).getLsbD i = decide (i < 8) := by
  rw [BitVec.getLsbD_ofNat]
  have : (255 : Nat) = 2 ^ 8 - 1 := rfl
  rw [this, Nat.testBit_two_pow_sub_one]
  by_cases h : i < 8 <;> simp [h]; omega
theorem low_not (s : BitVec 16) : s ^^^ (lo (~~~s)).toBitVec.setWidth 16 = ((s >>> 8) <<< 8) ^^^ 255#16 := by
  apply BitVec.eq_of_getLsbD_eq
  intro i hi
  have e : (lo (~~~s)).toBitVec = (~~~s).setWidth 8 := rfl
  rw [e]
  simp only [BitVec.getLsbD_xor, bit255, BitVec.getLsbD_setWidth, BitVec.getLsbD_not, BitVec.getLsbD_shiftLeft, BitVec.getLsbD_ushiftRight]
  by_cases h : i < 8
  · simp [h, hi]
  · rw [show 8 + (i - 8) = i by omega]; simp [h, hi]
theorem high_not (s : BitVec 16) : (hi (~~~s)).toBitVec.setWidth 16 = (s >>> 8) ^^^ 255#16 := by
  apply BitVec.eq_of_getLsbD_eq
  intro i hi'
  have e : (hi (~~~s)).toBitVec = ((~~~s) >>> 8).setWidth 8 := rfl
  rw [e]
  simp only [BitVec.getLsbD_xor, bit255, BitVec.getLsbD_setWidth, BitVec.getLsbD_not, BitVec.getLsbD_ushiftRight]
  by_cases h : i < 8
  · have : 8 + i < 16 := by omega
    simp [h, hi', this]
  · have : s.getLsbD (8 + i) = false := BitVec.getLsbD_of_ge _ _ (by omega)
    simp [h, hi', this]
theorem residue (I : List UInt8) : sF (BitVec.allOnes 16) (withSum I) = sN 8 (sN 8 255#16 ^^^ 255#16) := by
  unfold withSum
  rw [sF_append]
  have hs : sum16 I = ~~~ (sF (BitVec.allOnes 16) I) := rfl
  rw [hs]
  generalize sF (BitVec.allOnes 16) I = s
  show sN 8 (sN 8 (s ^^^ (lo (~~~s)).toBitVec.setWidth 16) ^^^ (hi (~~~s)).toBitVec.setWidth 16) = _
  have hlt := s.isLt
  have e : ((s >>> 8) <<< 8).toNat = s.toNat / 256 * 256 := by
    rw [BitVec.toNat_shiftLeft, BitVec.toNat_ushiftRight, Nat.shiftLeft_eq, Nat.shiftRight_eq_div_pow]; omega
  have e2 : sN 8 ((s >>> 8) <<< 8) = s >>> 8 := by
    rw [sN_high 8 _ (by rw [e]; omega), e]
    apply BitVec.eq_of_toNat_eq
    rw [BitVec.toNat_ofNat, BitVec.toNat_ushiftRight, Nat.shiftRight_eq_div_pow]; omega
  rw [low_not, high_not, sN_xor 8 ((s >>> 8) <<< 8), e2]
  generalize s >>> 8 = x
  congr 1
  rw [BitVec.xor_assoc, BitVec.xor_comm x (255#16), ← BitVec.xor_assoc (sN 8 255#16), BitVec.xor_comm, BitVec.xor_assoc, BitVec.xor_self, BitVec.xor_zero]

/-! ### Taken back part by part -/
theorem un_split : ∀ (n : Nat) (A X w : List UInt8), A.length ≤ n → unstuff (A ++ X) = some w → (∀ c, A.getLast? = some c → c ≠ 125) → ∃ a x, unstuff A = some a ∧ unstuff X = some x ∧ w = a ++ x
  | n, [], X, w, _, h, _ => ⟨[], w, rfl, h, rfl⟩
  | 0, c :: A, X, w, hn, _, _ => by simp at hn
  | n + 1, c :: A, X, w, hn, h, hl => by
    rw [List.cons_append] at h
    by_cases h1 : c = 126
    · subst h1; rw [un_flag] at h; cases h
    by_cases h2 : c = 125
    · subst h2
      cases A with
      | nil => exact absurd rfl (hl 125 rfl)
      | cons e A =>
        rw [List.cons_append, un_esc] at h
        split at h
        · rename_i he
          cases hu : unstuff (A ++ X) with
          | none => rw [hu] at h; cases h
          | some v =>
            rw [hu] at h; cases h
            obtain ⟨a, x, p1, p2, p3⟩ := un_split n A X v (by simp at hn; omega) hu (fun c hc => hl c (by
              cases A with
              | nil => cases hc
              | cons y A => simpa using hc))
            refine ⟨(e ^^^ 32) :: a, x, ?_, p2, by rw [p3]; rfl⟩
            rw [un_esc, if_pos he, p1]; rfl
        · cases h
    · rw [un_other c _ h1 h2] at h
      cases hu : unstuff (A ++ X) with
      | none => rw [hu] at h; cases h
      | some v =>
        rw [hu] at h; cases h
        obtain ⟨a, x, p1, p2, p3⟩ := un_split n A X v (by simpa using hn) hu (fun c' hc => hl c' (by
          cases A with
          | nil => cases hc
          | cons y A => simpa using hc))
        refine ⟨c :: a, x, ?_, p2, by rw [p3]; rfl⟩
        rw [un_other c A h1 h2, p1]; rfl
theorem un_join : ∀ (n : Nat) (A X a : List UInt8), A.length ≤ n → unstuff A = some a → unstuff (A ++ X) = (unstuff X).map (a ++ ·)
  | n, [], X, a, _, h => by rw [unstuff] at h; cases h; cases hx : unstuff X <;> simp [hx]
  | 0, c :: A, X, a, hn, _ => by simp at hn
  | n + 1, c :: A, X, a, hn, h => by
    rw [List.cons_append]
    by_cases h1 : c = 126
    · subst h1; rw [un_flag] at h; cases h
    by_cases h2 : c = 125
    · subst h2
      cases A with
      | nil => rw [un_end] at h; cases h
      | cons e A =>
        rw [un_esc] at h
        split at h
        · rename_i he
          cases hu : unstuff A with
          | none => rw [hu] at h; cases h
          | some v =>
            rw [hu] at h; cases h
            rw [List.cons_append, un_esc, if_pos he, un_join n A X v (by simp at hn; omega) hu]
            cases unstuff X <;> rfl
        · cases h
    · rw [un_other c _ h1 h2] at h ⊢
      cases hu : unstuff A with
      | none => rw [hu] at h; cases h
      | some v =>
        rw [hu] at h; cases h
        rw [un_join n A X v (by simpa using hn) hu]
        cases unstuff X <;> rfl
theorem un_plain : ∀ (M : List UInt8), (∀ c ∈ M, c ≠ 125 ∧ c ≠ 126) → unstuff M = some M
  | [], _ => rfl
  | c :: M, h => by
    have hc := h c List.mem_cons_self
    rw [un_other c M hc.2 hc.1, un_plain M fun x hx => h x (List.mem_cons_of_mem _ hx)]; rfl

/-- Bits within sixteen of a frame turned, no mark among the bytes that they stand in: refused. -/
theorem burst_refused {f : Fr} (hok : f.ok = true) {V p b q g : Nat} (hp : p < 65536) (h0 : p ≠ 0) (hV : V = p * 2 ^ b) (h1 : V % 256 ^ q = 0) (h2 : V < 256 ^ (g + 1)) (hqg : q ≤ g) (hg : g < (stuff f.inner).length)
    (hs : ∀ k, q - 1 ≤ k → k ≤ g → (∀ c, (stuff f.inner)[k]? = some c → c ≠ 125 ∧ c ≠ 126) ∧ (∀ c, (xb (stuff f.inner) V)[k]? = some c → c ≠ 125 ∧ c ≠ 126)) : readF (xb (stuff f.inner) V) = (Fr.zero, 171) := by
  generalize hS : stuff f.inner = S at *
  have hun : unstuff S = some f.inner := by rw [← hS]; exact un_stuff _
  have hA : (S.take q).length = q := by simp; omega
  have hV1 : V / 256 ^ q < 256 ^ (g + 1 - q) := by
    rw [Nat.div_lt_iff_lt_mul (Nat.pow_pos (by omega)), ← Nat.pow_add, show g + 1 - q + q = g + 1 by omega]; exact h2
  have hM : ((S.drop q).take (g + 1 - q)).length = g + 1 - q := by simp; omega
  have eS : S = S.take q ++ ((S.drop q).take (g + 1 - q) ++ (S.drop q).drop (g + 1 - q)) := by rw [List.take_append_drop, List.take_append_drop]
  have eX : xb S V = S.take q ++ (xb ((S.drop q).take (g + 1 - q)) (V / 256 ^ q) ++ (S.drop q).drop (g + 1 - q)) := by rw [xb_low S V q h1, xb_high _ _ _ hV1]
  have hlast : ∀ c, (S.take q).getLast? = some c → c ≠ 125 := by
    intro c hc
    rw [List.getLast?_eq_getElem?, hA] at hc
    by_cases hq : q = 0
    · subst hq; simp at hc
    rw [List.getElem?_take, if_pos (by omega)] at hc
    exact ((hs (q - 1) (by omega) (by omega)).1 c hc).1
  have hMp : ∀ c ∈ (S.drop q).take (g + 1 - q), c ≠ 125 ∧ c ≠ 126 := by
    intro c hc
    obtain ⟨i, hi⟩ := List.mem_iff_getElem?.1 hc
    have hil := (List.getElem?_eq_some_iff.1 hi).1
    rw [hM] at hil
    rw [List.getElem?_take, if_pos hil, List.getElem?_drop] at hi
    exact (hs (q + i) (by omega) (by omega)).1 c hi
  have hMx : ∀ c ∈ xb ((S.drop q).take (g + 1 - q)) (V / 256 ^ q), c ≠ 125 ∧ c ≠ 126 := by
    intro c hc
    obtain ⟨i, hi⟩ := List.mem_iff_getElem?.1 hc
    have hil := (List.getElem?_eq_some_iff.1 hi).1
    rw [xb_len, hM] at hil
    refine (hs (q + i) (by omega) (by omega)).2 c ?_
    rw [eX, List.getElem?_append_right (by omega), hA, show q + i - q = i by omega, List.getElem?_append_left (by rw [xb_len, hM]; exact hil)]
    exact hi
  generalize S.take q = A at *
  generalize (S.drop q).take (g + 1 - q) = M at *
  generalize (S.drop q).drop (g + 1 - q) = B at *
  generalize hV' : V / 256 ^ q = V1 at *
  rw [eS] at hun
  obtain ⟨a, x, u1, u2, u3⟩ := un_split A.length A _ _ (Nat.le_refl _) hun hlast
  rw [un_join M.length M B M (Nat.le_refl _) (un_plain M hMp)] at u2
  obtain ⟨bb, u4, rfl⟩ : ∃ bb, unstuff B = some bb ∧ M ++ bb = x := by
    cases hB : unstuff B with
    | none => rw [hB] at u2; cases u2
    | some bb => rw [hB] at u2; exact ⟨bb, rfl, by simpa using u2⟩
  have uX : unstuff (xb S V) = some (a ++ (xb M V1 ++ bb)) := by
    rw [eX, un_join A.length A _ a (Nat.le_refl _) u1, un_join _ _ B _ (Nat.le_refl _) (un_plain _ hMx), u4]; rfl
  have eI : xb f.inner (V1 * 256 ^ a.length) = a ++ (xb M V1 ++ bb) := by
    rw [u3, xb_low _ _ a.length (Nat.mul_mod_left _ _), List.take_left' rfl, List.drop_left' rfl, Nat.mul_div_cancel _ (Nat.pow_pos (by omega)), xb_high (M ++ bb) V1 M.length (by rw [hM]; exact hV1), List.take_left' rfl, List.drop_left' rfl]
  rw [readF, uX]
  simp only
  rw [← eI]
  obtain ⟨o1, o2, o3, o4, o5⟩ := f.ok_iff.1 hok
  have hil := f.inner_len
  rw [readIn, if_neg (by rw [xb_len]; omega)]
  simp only
  split
  · rename_i hw
    exfalso
    have r1 := residue (f.ctl :: f.data)
    have r2 := residue ((xb f.inner (V1 * 256 ^ a.length)).take ((xb f.inner (V1 * 256 ^ a.length)).length - 2))
    rw [← hw] at r2
    have r3 := sF_xb f.inner (V1 * 256 ^ a.length) (BitVec.allOnes 16) 0#16
    rw [BitVec.xor_zero, r2] at r3
    have r4 : sF (BitVec.allOnes 16) f.inner = _ := r1
    rw [r4] at r3
    have r5 : sF 0#16 (byts f.inner.length (V1 * 256 ^ a.length)) = 0#16 := by
      have := congrArg (fun z => sN 8 (sN 8 255#16 ^^^ 255#16) ^^^ z) r3
      simp only [BitVec.xor_self, ← BitVec.xor_assoc, BitVec.zero_xor] at this
      exact this.symm
    have hle : a.length + M.length ≤ f.inner.length := by rw [u3]; simp
    refine burst f.inner.length _ q p (b + 8 * a.length) hp h0 ?_ ?_ r5
    · rw [hM] at hle
      refine Nat.lt_of_lt_of_le (Nat.mul_lt_mul_of_pos_right hV1 (Nat.pow_pos (by omega))) ?_
      rw [← Nat.pow_add]
      exact Nat.pow_le_pow_right (by omega) (by omega)
    · have e5 : V1 * 256 ^ q = V := by rw [← hV']; exact Nat.div_mul_cancel (Nat.dvd_of_mod_eq_zero h1)
      rw [Nat.mul_assoc, Nat.mul_comm (256 ^ a.length), ← Nat.mul_assoc, e5, hV, Nat.pow_add, Nat.pow_mul, Nat.mul_assoc]
  · rfl
end Go.Proofs.YtindglcpailjgaaDoor.Am.W
