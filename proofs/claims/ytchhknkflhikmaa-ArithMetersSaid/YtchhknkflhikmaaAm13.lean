/- AM: slices of one-celled elements, as sequences. -/
import Derived.Test.YtchhknkflhikmaaAm12
namespace Go.Proofs.Ytchhknkflhikmaa.Am
open Go
set_option linter.unusedVariables false
set_option linter.unusedSimpArgs false

theorem lenA_sl {P t b o n s} : lenA P t (.sl b o n s) = (tiOf P t).bind fun ti => match ti.d with
  | .slice _ => some (.int .i64 n)
  | .arr k _ => some (.int .i64 k)
  | _ => none := by
  unfold lenA; congr; funext ti; cases ti.d <;> rfl
theorem lenA_snil {P t} : lenA P t .snil = (tiOf P t).bind fun ti => match ti.d with
  | .slice _ => some (.int .i64 0)
  | .arr k _ => some (.int .i64 k)
  | _ => none := by
  unfold lenA; congr; funext ti; cases ti.d <;> rfl
theorem lenA_str {P t s} : lenA P t (.str s) = (tiOf P t).bind fun ti => match ti.d with
  | .str => some (.int .i64 s.length)
  | .arr k _ => some (.int .i64 k)
  | _ => none := by
  unfold lenA; congr; funext ti; cases ti.d <;> rfl
theorem indexAddrA_sl {P t b o n s k i} : indexAddrA P t (.sl b o n s) (.int k i) = (tiOf P t).bind fun ti => match ti.d with
  | .slice e => (tiOf P e).bind fun ei => guardO (0 ≤ i ∧ i < (n : Int)) (some (.ptr b (o + i.toNat * ei.size)))
  | _ => none := by
  show (tiOf P t).bind _ = _; congr; funext ti; cases ti.d <;> rfl
theorem indexAddrA_ptr {P t b o k i} : indexAddrA P t (.ptr b o) (.int k i) = (tiOf P t).bind fun ti => match ti.d with
  | .arr n e => (tiOf P e).bind fun ei => guardO (0 ≤ i ∧ i < (n : Int)) (some (.ptr b (o + i.toNat * ei.size)))
  | _ => none := by
  show (tiOf P t).bind _ = _; congr; funext ti; cases ti.d <;> rfl

/-- v is a slice that can be read: n elements, the i-th being g i. -/
def Sl (m : Mem) (v : AV) (n : Nat) (g : Nat → AV) : Prop :=
  (v = .snil ∧ n = 0) ∨ (∃ b o, v = .sl b o 0 1 ∧ n = 0) ∨ ∃ b o k, v = .sl b o n 1 ∧ m.blk b = some k ∧ k.st ≠ .dead ∧ ∀ i, i < n → k.cells[o + i]? = some (g i)

theorem Sl.keep {m m' v n g xs} (h : Sl m v n g) (hk : Keep xs m m') (hx : ∀ b o s, v = .sl b o n s → b ∉ xs) : Sl m' v n g := by
  rcases h with h | h | ⟨b, o, k, rfl, h2, h3, h4⟩
  · exact .inl h
  · exact .inr (.inl h)
  · exact .inr (.inr ⟨b, o, k, rfl, hk b (hx _ _ _ rfl) k h2, h3, h4⟩)
theorem Sl.keep0 {m m' v n g} (h : Sl m v n g) (hk : Keep [] m m') : Sl m' v n g := h.keep hk (by simp)
theorem Sl.ext {m m' v n g} (h : Sl m v n g) (hk : Ext m m') : Sl m' v n g := by
  rcases h with h | h | ⟨b, o, k, rfl, h2, h3, h4⟩
  · exact .inl h
  · exact .inr (.inl h)
  · obtain ⟨k', e1, e2, e3, _⟩ := hk b k h2 h3
    exact .inr (.inr ⟨b, o, k', rfl, e1, e2, e3 ▸ h4⟩)

theorem Sl.len {P m v n g t ti e} (h : Sl m v n g) (ht : tiOf P t = some ti) (hd : ti.d = .slice e) : lenA P t v = some (.int .i64 n) := by
  rcases h with ⟨rfl, rfl⟩ | ⟨b, o, rfl, rfl⟩ | ⟨b, o, k, rfl, _⟩ <;> simp [lenA, ht, hd]

theorem Sl.at {P m v n g t ti e ei k0} {i : Nat} (h : Sl m v n g) (ht : tiOf P t = some ti) (hd : ti.d = .slice e) (he : tiOf P e = some ei) (hs : ei.size = 1) (hi : i < n) :
    ∃ b o k, indexAddrA P t v (.int k0 i) = some (.ptr b o) ∧ m.blk b = some k ∧ k.st ≠ .dead ∧ k.cells[o]? = some (g i) := by
  rcases h with ⟨rfl, rfl⟩ | ⟨b, o, rfl, rfl⟩ | ⟨b, o, k, rfl, h2, h3, h4⟩
  · omega
  · omega
  · refine ⟨b, o + i, k, ?_, h2, h3, h4 i hi⟩
    simp [indexAddrA, ht, hd, he, hs, guardO, hi]

/-- A value read out of a cell. -/
theorem loadA_cell {P e m t a b o k ti v} (ha : ev P e a = .ptr b o) (hk : m.blk b = some k) (hd : k.st ≠ .dead) (ht : tiOf P t = some ti) (hg : ti.d.isAgg = false) (hv : k.cells[o]? = some v) :
    loadA P e m (.load t a) = some v := by
  simp [loadA, ha, hk, guardO, hd, ht, partA, hg, hv]
theorem wrap64 {x : Int} (h1 : -9223372036854775808 ≤ x) (h2 : x ≤ 9223372036854775807) : IntKind.wrap .i64 x = x := by
  simp only [IntKind.wrap, IntKind.bits, IntKind.signed, Nat.reduceSub, Nat.reducePow, Int.reducePow]
  by_cases h : x % 18446744073709551616 ≥ 9223372036854775808 <;> simp [h] <;> omega
theorem wrap32 {x : Int} (h1 : -2147483648 ≤ x) (h2 : x ≤ 2147483647) : IntKind.wrap .i32 x = x := by
  simp only [IntKind.wrap, IntKind.bits, IntKind.signed, Nat.reduceSub, Nat.reducePow, Int.reducePow]
  by_cases h : x % 4294967296 ≥ 2147483648 <;> simp [h] <;> omega
theorem wrapU64 {x : Int} (h1 : 0 ≤ x) (h2 : x ≤ 18446744073709551615) : IntKind.wrap .u64 x = x := by
  simp [IntKind.wrap, IntKind.bits, IntKind.signed]; omega
theorem wrapU32 {x : Int} (h1 : 0 ≤ x) (h2 : x ≤ 4294967295) : IntKind.wrap .u32 x = x := by
  simp [IntKind.wrap, IntKind.bits, IntKind.signed]; omega
theorem wrapU8 {x : Int} (h1 : 0 ≤ x) (h2 : x ≤ 255) : IntKind.wrap .u8 x = x := by
  simp [IntKind.wrap, IntKind.bits, IntKind.signed]; omega
end Go.Proofs.Ytchhknkflhikmaa.Am
