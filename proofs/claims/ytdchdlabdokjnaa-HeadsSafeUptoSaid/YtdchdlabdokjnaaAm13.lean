/- AM: how lengths, places and blocks are reckoned. -/
import Derived.Test.YtdchdlabdokjnaaAm12
namespace Go.Proofs.Ytdchdlabdokjnaa.Am
set_option linter.unusedSectionVars false
open Go
set_option linter.unusedVariables false
set_option linter.unusedSimpArgs false
variable [Tab]

theorem lenA_sl {P t b o n s} : lenA P t (.sl b o n s) = (tiOf P t).bind fun ti => match ti.d with
  | .slice _ => some (.int .i64 n)
  | .arr k _ => some (.int .i64 k)
  | _ => none := by
  unfold lenA; congr; funext ti; cases ti.d <;> rfl
theorem lenA_rs {P t s es} : lenA P t (.rs s es) = (tiOf P t).bind fun ti => match ti.d with
  | .slice _ => some (.int .i64 es.length)
  | .arr k _ => some (.int .i64 k)
  | _ => none := by
  unfold lenA; congr; funext ti; cases ti.d <;> rfl
theorem lenA_snil {P t} : lenA P t .snil = (tiOf P t).bind fun ti => match ti.d with
  | .slice _ => some (.int .i64 0)
  | .arr k _ => some (.int .i64 k)
  | _ => none := by
  unfold lenA; congr; funext ti; cases ti.d <;> rfl
theorem lenA_str {P t s} : lenA P t (.str s) = (tiOf P t).bind fun ti => match ti.d with
  | .str => some (.int .i64 s.length)
  | .arr k _ => some (.int .i64 k)
  | _ => none := by
  unfold lenA; congr; funext ti; cases ti.d <;> rfl
theorem indexAddrA_sl {P t b o n s k i} : indexAddrA P t (.sl b o n s) (.int k i) = (tiOf P t).bind fun ti => match ti.d with
  | .slice e => (tiOf P e).bind fun ei => guardO (0 ≤ i ∧ i < (n : Int)) (some (.ptr b (o + i.toNat * ei.size)))
  | _ => none := by
  show (tiOf P t).bind _ = _; congr; funext ti; cases ti.d <;> rfl
theorem indexAddrA_ptr {P t b o k i} : indexAddrA P t (.ptr b o) (.int k i) = (tiOf P t).bind fun ti => match ti.d with
  | .arr n e => (tiOf P e).bind fun ei => guardO (0 ≤ i ∧ i < (n : Int)) (some (.ptr b (o + i.toNat * ei.size)))
  | _ => none := by
  show (tiOf P t).bind _ = _; congr; funext ti; cases ti.d <;> rfl
theorem indexAddrA_rs {P t s es k i} : indexAddrA P t (.rs s es) (.int k i) = (tiOf P t).bind fun ti => match ti.d with
  | .slice e => (tiOf P e).bind fun ei => guardO (s = ei.size) (guardO (0 ≤ i) ((es[i.toNat]?).map fun c => .rp c 0))
  | _ => none := by
  show (tiOf P t).bind _ = _; congr; funext ti; cases ti.d <;> rfl
theorem indexAddrA_rp {P t cs o k i} : indexAddrA P t (.rp cs o) (.int k i) = (tiOf P t).bind fun ti => match ti.d with
  | .arr n e => (tiOf P e).bind fun ei => guardO (0 ≤ i ∧ i < (n : Int)) (some (.rp cs (o + i.toNat * ei.size)))
  | _ => none := by
  show (tiOf P t).bind _ = _; congr; funext ti; cases ti.d <;> rfl

/-! ### Blocks -/

section
variable {h : Heap} {b c : Nat} {k k' : Blk}
omit [Tab]
theorem put_same : (h.put b k) b = some k := by simp [Heap.put]
theorem put_ne (hn : (c = b) = False) : (h.put b k) c = h c := by simp [Heap.put, hn]
theorem upd_same : (h.upd b k) b = some k := by simp [Heap.upd]
theorem upd_neq (hn : (c = b) = False) : (h.upd b k) c = h c := by simp [Heap.upd, hn]
theorem del_same : (h.del b) b = none := by simp [Heap.del]
theorem del_ne (hn : (c = b) = False) : (h.del b) c = h c := by simp [Heap.del, hn]
theorem emp_at : Heap.emp b = none := rfl
theorem upd_put : (h.put b k).upd b k' = h.put b k' := by funext x; simp only [Heap.put, Heap.upd]; split <;> rfl
theorem upd_put_ne (hn : (c = b) = False) : (h.put c k).upd b k' = (h.upd b k').put c k := by
  funext x; simp only [Heap.put, Heap.upd]
  by_cases h1 : x = b
  · subst h1; rw [if_pos rfl, if_neg (by intro h; rw [← h] at hn; simp at hn), if_pos rfl]
  · by_cases h2 : x = c
    · subst h2; simp [h1]
    · simp [h1, h2]
theorem upd_upd : (h.upd b k).upd b k' = h.upd b k' := by funext x; simp only [Heap.upd]; split <;> rfl
theorem del_put (hf : h b = none) : (h.put b k).del b = h := by
  funext x; simp only [Heap.put, Heap.del]; split
  · subst_vars; exact hf.symm
  · rfl
theorem del_put_ne (hn : (c = b) = False) : (h.put c k).del b = (h.del b).put c k := by
  funext x; simp only [Heap.put, Heap.del]
  by_cases h1 : x = b
  · subst h1; rw [if_pos rfl, if_neg (by intro h; rw [← h] at hn; simp at hn), if_pos rfl]
  · by_cases h2 : x = c
    · subst h2; simp [h1]
    · simp [h1, h2]
theorem del_none (hf : h b = none) : h.del b = h := by
  funext x; simp only [Heap.del]; split
  · subst_vars; exact hf.symm
  · rfl
theorem put_at : (h.put b k) c = if c = b then some k else h c := rfl
theorem upd_at : (h.upd b k) c = if c = b then some k else h c := rfl
theorem del_at : (h.del b) c = if c = b then none else h c := rfl
theorem upd_putI : (h.put c k).upd b k' = if c = b then h.put c k' else (h.upd b k').put c k := by
  split
  · subst_vars; exact upd_put
  · exact upd_put_ne (by simp_all)
theorem del_putI : (h.put c k).del b = if c = b then h.del b else (h.del b).put c k := by
  split
  · subst_vars; funext x; simp only [Heap.put, Heap.del]; split <;> rfl
  · exact del_put_ne (by simp_all)
theorem del_updI : (h.upd c k).del b = if c = b then h.del b else (h.del b).upd c k := del_putI
theorem del_emp : Heap.emp.del b = Heap.emp := by funext x; simp [Heap.emp, Heap.del]
theorem kill_nil : h.kill [] = h := rfl
theorem cat_emp : h.cat Heap.emp = h := rfl
/-- What a new name is not. -/
theorem put_fresh : ((h.put c k) b = none) = ((b = c) = False ∧ (c = b) = False ∧ h b = none) := by
  simp only [Heap.put, eq_iff_iff]
  by_cases hbc : b = c
  · subst hbc; simp
  · simp [hbc, Ne.symm hbc]
theorem upd_fresh : ((h.upd c k) b = none) = ((b = c) = False ∧ (c = b) = False ∧ h b = none) := put_fresh
theorem ne_fresh {p : Nat} (hp : h p = some k) (hb : h b = none) : (b = p) = False ∧ (p = b) = False := by
  have : b ≠ p := by rintro rfl; rw [hp] at hb; cases hb
  simp [this, Ne.symm this]
end

theorem set_of_take {l : List AV} {i : Nat} {v : AV} (h : i < l.length) : l.take i ++ [v] ++ l.drop (i + 1) = l.set i v := by
  rw [List.set_eq_take_append_cons_drop, if_pos h]; simp
theorem set_take_cons {l : List AV} {i : Nat} {v : AV} (h : i < l.length) : l.take i ++ v :: l.drop (i + 1) = l.set i v := by
  rw [List.set_eq_take_append_cons_drop, if_pos h]
theorem take_set_succ {α : Type} {l : List α} {i : Nat} {v : α} (h : i < l.length) : (l.set i v).take (i + 1) = l.take i ++ [v] := by
  rw [List.take_add_one, List.getElem?_set_self h, List.take_set_of_le (Nat.le_refl _)]; rfl
theorem bytesA_map {α : Type} (f : α → UInt8) : ∀ l : List α, bytesA (l.map fun a => .int .u8 (f a).toNat) = some (l.map f)
  | [] => rfl
  | a :: l => by simp [bytesA, bytesA_map f l]
theorem repl_one (n : Nat) (z : AV) : repl n [z] = List.replicate n z := by
  induction n with
  | zero => rfl
  | succ n ih => simp [repl, List.replicate_succ] at *

theorem wrap64 {x : Int} (h1 : -9223372036854775808 ≤ x) (h2 : x ≤ 9223372036854775807) : IntKind.wrap .i64 x = x := by
  simp only [IntKind.wrap, IntKind.bits, IntKind.signed, Nat.reduceSub, Nat.reducePow, Int.reducePow]
  by_cases h : x % 18446744073709551616 ≥ 9223372036854775808 <;> simp [h] <;> omega
theorem wrap32 {x : Int} (h1 : -2147483648 ≤ x) (h2 : x ≤ 2147483647) : IntKind.wrap .i32 x = x := by
  simp only [IntKind.wrap, IntKind.bits, IntKind.signed, Nat.reduceSub, Nat.reducePow, Int.reducePow]
  by_cases h : x % 4294967296 ≥ 2147483648 <;> simp [h] <;> omega
theorem wrapU64 {x : Int} (h1 : 0 ≤ x) (h2 : x ≤ 18446744073709551615) : IntKind.wrap .u64 x = x := by
  simp [IntKind.wrap, IntKind.bits, IntKind.signed]; omega
theorem wrapU32 {x : Int} (h1 : 0 ≤ x) (h2 : x ≤ 4294967295) : IntKind.wrap .u32 x = x := by
  simp [IntKind.wrap, IntKind.bits, IntKind.signed]; omega
theorem wrapU8 {x : Int} (h1 : 0 ≤ x) (h2 : x ≤ 255) : IntKind.wrap .u8 x = x := by
  simp [IntKind.wrap, IntKind.bits, IntKind.signed]; omega

theorem wrapU16 {x : Int} (h1 : 0 ≤ x) (h2 : x ≤ 65535) : IntKind.wrap .u16 x = x := by
  simp [IntKind.wrap, IntKind.bits, IntKind.signed]; omega
theorem wf64 {n : Int} (h : (Lit.int .u64 n).wf = true) : ∃ x : BitVec 64, n = (x.toNat : Int) := by
  simp [Lit.wf, IntKind.min, IntKind.max, IntKind.signed, IntKind.bits] at h
  exact ⟨BitVec.ofInt 64 n, by simp [BitVec.toNat_ofInt]; omega⟩

/-! ### Words -/

theorem wrapBV64 (x : BitVec 64) : IntKind.wrap .u64 (x.toNat : Int) = x.toNat := by
  have := x.isLt
  exact wrapU64 (by omega) (by omega)
theorem wrapBV32 (x : BitVec 32) : IntKind.wrap .u32 (x.toNat : Int) = x.toNat := by
  have := x.isLt
  exact wrapU32 (by omega) (by omega)
theorem wrapBV8 (x : BitVec 8) : IntKind.wrap .u8 (x.toNat : Int) = x.toNat := by
  have := x.isLt
  exact wrapU8 (by omega) (by omega)
theorem ofIntBV {n : Nat} (x : BitVec n) : BitVec.ofInt n (x.toNat : Int) = x := by simp
theorem and64 (x y : BitVec 64) : bitsA .and .u64 (x.toNat : Int) (y.toNat : Int) = ((x &&& y).toNat : Int) := by
  show IntKind.wrap .u64 ((BitVec.ofInt 64 (x.toNat : Int) &&& BitVec.ofInt 64 (y.toNat : Int)).toNat : Int) = _
  rw [ofIntBV, ofIntBV, wrapBV64]
theorem or64 (x y : BitVec 64) : bitsA .or .u64 (x.toNat : Int) (y.toNat : Int) = ((x ||| y).toNat : Int) := by
  show IntKind.wrap .u64 ((BitVec.ofInt 64 (x.toNat : Int) ||| BitVec.ofInt 64 (y.toNat : Int)).toNat : Int) = _
  rw [ofIntBV, ofIntBV, wrapBV64]
theorem and32 (x y : BitVec 32) : bitsA .and .u32 (x.toNat : Int) (y.toNat : Int) = ((x &&& y).toNat : Int) := by
  show IntKind.wrap .u32 ((BitVec.ofInt 32 (x.toNat : Int) &&& BitVec.ofInt 32 (y.toNat : Int)).toNat : Int) = _
  rw [ofIntBV, ofIntBV, wrapBV32]
theorem xor32 (x y : BitVec 32) : bitsA .xor .u32 (x.toNat : Int) (y.toNat : Int) = ((x ^^^ y).toNat : Int) := by
  show IntKind.wrap .u32 ((BitVec.ofInt 32 (x.toNat : Int) ^^^ BitVec.ofInt 32 (y.toNat : Int)).toNat : Int) = _
  rw [ofIntBV, ofIntBV, wrapBV32]
theorem xor8 (x y : BitVec 8) : bitsA .xor .u8 (x.toNat : Int) (y.toNat : Int) = ((x ^^^ y).toNat : Int) := by
  show IntKind.wrap .u8 ((BitVec.ofInt 8 (x.toNat : Int) ^^^ BitVec.ofInt 8 (y.toNat : Int)).toNat : Int) = _
  rw [ofIntBV, ofIntBV, wrapBV8]
theorem fdiv_nat (a b : Nat) : (a : Int).fdiv (b : Int) = ((a / b : Nat) : Int) := by
  rw [Int.fdiv_eq_ediv_of_nonneg _ (by omega)]; simp
theorem shr64 (x : BitVec 64) (i : Nat) (hi : i ≤ 64) : shrA .u64 (x.toNat : Int) (i : Int) = ((x >>> i).toNat : Int) := by
  simp only [shrA, Int.toNat_natCast, IntKind.bits, Nat.min_eq_left hi]
  have : (2 ^ i : Int) = ((2 ^ i : Nat) : Int) := by simp
  rw [this, fdiv_nat, BitVec.toNat_ushiftRight, Nat.shiftRight_eq_div_pow]
theorem shr32 (x : BitVec 32) (i : Nat) (hi : i ≤ 32) : shrA .u32 (x.toNat : Int) (i : Int) = ((x >>> i).toNat : Int) := by
  simp only [shrA, Int.toNat_natCast, IntKind.bits, Nat.min_eq_left hi]
  have : (2 ^ i : Int) = ((2 ^ i : Nat) : Int) := by simp
  rw [this, fdiv_nat, BitVec.toNat_ushiftRight, Nat.shiftRight_eq_div_pow]
theorem wrapu64_emod (x : Nat) : IntKind.wrap .u64 (x : Int) = ((x % 2 ^ 64 : Nat) : Int) := by
  simp [IntKind.wrap, IntKind.bits, IntKind.signed]
theorem shl64 (x : BitVec 64) (i : Nat) (hi : i ≤ 64) : shlA .u64 (x.toNat : Int) (i : Int) = ((x <<< i).toNat : Int) := by
  simp only [shlA, Int.toNat_natCast, IntKind.bits, Nat.min_eq_left hi]
  have : (x.toNat : Int) * 2 ^ i = ((x.toNat * 2 ^ i : Nat) : Int) := by simp
  rw [this, wrapu64_emod, BitVec.toNat_shiftLeft, Nat.shiftLeft_eq]


end Go.Proofs.Ytdchdlabdokjnaa.Am
