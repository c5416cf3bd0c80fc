/- AM: how lengths, places and blocks are reckoned. -/
import Derived.Test.YtchhknkflhikmaaDoorAm12
import Derived.Carry
import Derived.ChangeArms
import Derived.OpenShut
import Derived.ChangeOld
import Derived.DataReads
import Derived.Attr
import Derived.SizedLaws
namespace Go.Proofs.YtchhknkflhikmaaDoor.Am
set_option linter.unusedSectionVars false
open Go
set_option linter.unusedVariables false
set_option linter.unusedSimpArgs false
variable [Tab]

theorem lenA_sl {P t b o n s} : lenA P t (.sl b o n s) = (tiOf P t).bind fun ti => match ti.d with
  | .slice _ => some (.int .i64 n)
  | .arr k _ => some (.int .i64 k)
  | _ => none := by
  unfold lenA; congr; funext ti; cases ti.d <;> rfl
theorem lenA_rs {P t s es} : lenA P t (.rs s es) = (tiOf P t).bind fun ti => match ti.d with
  | .slice _ => some (.int .i64 es.length)
  | .arr k _ => some (.int .i64 k)
  | _ => none := by
  unfold lenA; congr; funext ti; cases ti.d <;> rfl
theorem lenA_snil {P t} : lenA P t .snil = (tiOf P t).bind fun ti => match ti.d with
  | .slice _ => some (.int .i64 0)
  | .arr k _ => some (.int .i64 k)
  | _ => none := by
  unfold lenA; congr; funext ti; cases ti.d <;> rfl
theorem lenA_str {P t s} : lenA P t (.str s) = (tiOf P t).bind fun ti => match ti.d with
  | .str => some (.int .i64 s.length)
  | .arr k _ => some (.int .i64 k)
  | _ => none := by
  unfold lenA; congr; funext ti; cases ti.d <;> rfl
theorem indexAddrA_sl {P t b o n s k i} : indexAddrA P t (.sl b o n s) (.int k i) = (tiOf P t).bind fun ti => match ti.d with
  | .slice e => (tiOf P e).bind fun ei => guardO (0 ≤ i ∧ i < (n : Int)) (some (.ptr b (o + i.toNat * ei.size)))
  | _ => none := by
  show (tiOf P t).bind _ = _; congr; funext ti; cases ti.d <;> rfl
theorem indexAddrA_ptr {P t b o k i} : indexAddrA P t (.ptr b o) (.int k i) = (tiOf P t).bind fun ti => match ti.d with
  | .arr n e => (tiOf P e).bind fun ei => guardO (0 ≤ i ∧ i < (n : Int)) (some (.ptr b (o + i.toNat * ei.size)))
  | _ => none := by
  show (tiOf P t).bind _ = _; congr; funext ti; cases ti.d <;> rfl
theorem indexAddrA_rs {P t s es k i} : indexAddrA P t (.rs s es) (.int k i) = (tiOf P t).bind fun ti => match ti.d with
  | .slice e => (tiOf P e).bind fun ei => guardO (s = ei.size) (guardO (0 ≤ i) ((es[i.toNat]?).map fun c => .rp c 0))
  | _ => none := by
  show (tiOf P t).bind _ = _; congr; funext ti; cases ti.d <;> rfl
theorem indexAddrA_rp {P t cs o k i} : indexAddrA P t (.rp cs o) (.int k i) = (tiOf P t).bind fun ti => match ti.d with
  | .arr n e => (tiOf P e).bind fun ei => guardO (0 ≤ i ∧ i < (n : Int)) (some (.rp cs (o + i.toNat * ei.size)))
  | _ => none := by
  show (tiOf P t).bind _ = _; congr; funext ti; cases ti.d <;> rfl

/-! ### Blocks -/

section
variable {h : Heap} {b c : Nat} {k k' : Blk}
omit [Tab]
theorem put_same : (h.put b k) b = some k := by simp [Heap.put]
theorem put_ne (hn : (c = b) = False) : (h.put b k) c = h c := by simp [Heap.put, hn]
theorem upd_same : (h.upd b k) b = some k := by simp [Heap.upd]
theorem upd_neq (hn : (c = b) = False) : (h.upd b k) c = h c := by simp [Heap.upd, hn]
theorem del_same : (h.del b) b = none := by simp [Heap.del]
theorem del_ne (hn : (c = b) = False) : (h.del b) c = h c := by simp [Heap.del, hn]
theorem emp_at : Heap.emp b = none := rfl
theorem upd_put : (h.put b k).upd b k' = h.put b k' := by funext x; simp only [Heap.put, Heap.upd]; split <;> rfl
theorem upd_put_ne (hn : (c = b) = False) : (h.put c k).upd b k' = (h.upd b k').put c k := by
  funext x; simp only [Heap.put, Heap.upd]
  by_cases h1 : x = b
  · subst h1; rw [if_pos rfl, if_neg (by intro h; rw [← h] at hn; simp at hn), if_pos rfl]
  · by_cases h2 : x = c
    · subst h2; simp [h1]
    · simp [h1, h2]
theorem upd_upd : (h.upd b k).upd b k' = h.upd b k' := by funext x; simp only [Heap.upd]; split <;> rfl
theorem del_put (hf : h b = none) : (h.put b k).del b = h := by
  funext x; simp only [Heap.put, Heap.del]; split
  · subst_vars; exact hf.symm
  · rfl
theorem del_put_ne (hn : (c = b) = False) : (h.put c k).del b = (h.del b).put c k := by
  funext x; simp only [Heap.put, Heap.del]
  by_cases h1 : x = b
  · subst h1; rw [if_pos rfl, if_neg (by intro h; rw [← h] at hn; simp at hn), if_pos rfl]
  · by_cases h2 : x = c
    · subst h2; simp [h1]
    · simp [h1, h2]
theorem del_none (hf : h b = none) : h.del b = h := by
  funext x; simp only [Heap.del]; split
  · subst_vars; exact hf.symm
  · rfl
theorem put_at : (h.put b k) c = if c = b then some k else h c := rfl
theorem upd_at : (h.upd b k) c = if c = b then some k else h c := rfl
theorem del_at : (h.del b) c = if c = b then none else h c := rfl
theorem upd_putI : (h.put c k).upd b k' = if c = b then h.put c k' else (h.upd b k').put c k := by
  split
  · subst_vars; exact upd_put
  · exact upd_put_ne (by simp_all)
theorem del_putI : (h.put c k).del b = if c = b then h.del b else (h.del b).put c k := by
  split
  · subst_vars; funext x; simp only [Heap.put, Heap.del]; split <;> rfl
  · exact del_put_ne (by simp_all)
theorem del_updI : (h.upd c k).del b = if c = b then h.del b else (h.del b).upd c k := del_putI
theorem del_emp : Heap.emp.del b = Heap.emp := by funext x; simp [Heap.emp, Heap.del]
theorem kill_nil : h.kill [] = h := rfl
theorem cat_emp : h.cat Heap.emp = h := rfl
/-- What a new name is not. -/
theorem put_fresh : ((h.put c k) b = none) = ((b = c) = False ∧ (c = b) = False ∧ h b = none) := by
  simp only [Heap.put, eq_iff_iff]
  by_cases hbc : b = c
  · subst hbc; simp
  · simp [hbc, Ne.symm hbc]
theorem upd_fresh : ((h.upd c k) b = none) = ((b = c) = False ∧ (c = b) = False ∧ h b = none) := put_fresh
theorem ne_fresh {p : Nat} (hp : h p = some k) (hb : h b = none) : (b = p) = False ∧ (p = b) = False := by
  have : b ≠ p := by rintro rfl; rw [hp] at hb; cases hb
  simp [this, Ne.symm this]
end

theorem set_of_take {l : List AV} {i : Nat} {v : AV} (h : i < l.length) : l.take i ++ [v] ++ l.drop (i + 1) = l.set i v := by
  rw [List.set_eq_take_append_cons_drop, if_pos h]; simp
theorem set_take_cons {l : List AV} {i : Nat} {v : AV} (h : i < l.length) : l.take i ++ v :: l.drop (i + 1) = l.set i v := by
  rw [List.set_eq_take_append_cons_drop, if_pos h]
theorem take_set_succ {α : Type} {l : List α} {i : Nat} {v : α} (h : i < l.length) : (l.set i v).take (i + 1) = l.take i ++ [v] := by
  rw [List.take_add_one, List.getElem?_set_self h, List.take_set_of_le (Nat.le_refl _)]; rfl
theorem bytesA_map {α : Type} (f : α → UInt8) : ∀ l : List α, bytesA (l.map fun a => .int .u8 (f a).toNat) = some (l.map f)
  | [] => rfl
  | a :: l => by simp [bytesA, bytesA_map f l]
theorem repl_one (n : Nat) (z : AV) : repl n [z] = List.replicate n z := by
  induction n with
  | zero => rfl
  | succ n ih => simp [repl, List.replicate_succ] at *

theorem wrap64 {x : Int} (h1 : -9223372036854775808 ≤ x) (h2 : x ≤ 9223372036854775807) : IntKind.wrap .i64 x = x := by
  simp only [IntKind.wrap, IntKind.bits, IntKind.signed, Nat.reduceSub, Nat.reducePow, Int.reducePow]
  by_cases h : x % 18446744073709551616 ≥ 9223372036854775808 <;> simp [h] <;> omega
theorem wrap32 {x : Int} (h1 : -2147483648 ≤ x) (h2 : x ≤ 2147483647) : IntKind.wrap .i32 x = x := by
  simp only [IntKind.wrap, IntKind.bits, IntKind.signed, Nat.reduceSub, Nat.reducePow, Int.reducePow]
  by_cases h : x % 4294967296 ≥ 2147483648 <;> simp [h] <;> omega
theorem wrapU64 {x : Int} (h1 : 0 ≤ x) (h2 : x ≤ 18446744073709551615) : IntKind.wrap .u64 x = x := by
  simp [IntKind.wrap, IntKind.bits, IntKind.signed]; omega
theorem wrapU32 {x : Int} (h1 : 0 ≤ x) (h2 : x ≤ 4294967295) : IntKind.wrap .u32 x = x := by
  simp [IntKind.wrap, IntKind.bits, IntKind.signed]; omega
theorem wrapU8 {x : Int} (h1 : 0 ≤ x) (h2 : x ≤ 255) : IntKind.wrap .u8 x = x := by
  simp [IntKind.wrap, IntKind.bits, IntKind.signed]; omega

theorem wrapU16 {x : Int} (h1 : 0 ≤ x) (h2 : x ≤ 65535) : IntKind.wrap .u16 x = x := by
  simp [IntKind.wrap, IntKind.bits, IntKind.signed]; omega
theorem wf64 {n : Int} (h : (Lit.int .u64 n).wf = true) : ∃ x : BitVec 64, n = (x.toNat : Int) := by
  simp [Lit.wf, IntKind.min, IntKind.max, IntKind.signed, IntKind.bits] at h
  exact ⟨BitVec.ofInt 64 n, by simp [BitVec.toNat_ofInt]; omega⟩

/-! ### Words -/

theorem wrapBV64 (x : BitVec 64) : IntKind.wrap .u64 (x.toNat : Int) = x.toNat := by
  have := x.isLt
  exact wrapU64 (by omega) (by omega)
theorem wrapBV32 (x : BitVec 32) : IntKind.wrap .u32 (x.toNat : Int) = x.toNat := by
  have := x.isLt
  exact wrapU32 (by omega) (by omega)
theorem wrapBV8 (x : BitVec 8) : IntKind.wrap .u8 (x.toNat : Int) = x.toNat := by
  have := x.isLt
  exact wrapU8 (by omega) (by omega)
theorem ofIntBV {n : Nat} (x : BitVec n) : BitVec.ofInt n (x.toNat : Int) = x := by simp
theorem and64 (x y : BitVec 64) : bitsA .and .u64 (x.toNat : Int) (y.toNat : Int) = ((x &&& y).toNat : Int) := by
  show IntKind.wrap .u64 ((BitVec.ofInt 64 (x.toNat : Int) &&& BitVec.ofInt 64 (y.toNat : Int)).toNat : Int) = _
  rw [ofIntBV, ofIntBV, wrapBV64]
theorem or64 (x y : BitVec 64) : bitsA .or .u64 (x.toNat : Int) (y.toNat : Int) = ((x ||| y).toNat : Int) := by
  show IntKind.wrap .u64 ((BitVec.ofInt 64 (x.toNat : Int) ||| BitVec.ofInt 64 (y.toNat : Int)).toNat : Int) = _
  rw [ofIntBV, ofIntBV, wrapBV64]
theorem and32 (x y : BitVec 32) : bitsA .and .u32 (x.toNat : Int) (y.toNat : Int) = ((x &&& y).toNat : Int) := by
  show IntKind.wrap .u32 ((BitVec.ofInt 32 (x.toNat : Int) &&& BitVec.ofInt 32 (y.toNat : Int)).toNat : Int) = _
  rw [ofIntBV, ofIntBV, wrapBV32]
theorem xor32 (x y : BitVec 32) : bitsA .xor .u32 (x.toNat : Int) (y.toNat : Int) = ((x ^^^ y).toNat : Int) := by
  show IntKind.wrap .u32 ((BitVec.ofInt 32 (x.toNat : Int) ^^^ BitVec.ofInt 32 (y.toNat : Int)).toNat : Int) = _
  rw [ofIntBV, ofIntBV, wrapBV32]
theorem xor8 (x y : BitVec 8) : bitsA .xor .u8 (x.toNat : Int) (y.toNat : Int) = ((x ^^^ y).toNat : Int) := by
  show IntKind.wrap .u8 ((BitVec.ofInt 8 (x.toNat : Int) ^^^ BitVec.ofInt 8 (y.toNat : Int)).toNat : Int) = _
  rw [ofIntBV, ofIntBV, wrapBV8]
theorem fdiv_nat (a b : Nat) : (a : Int).fdiv (b : Int) = ((a / b : Nat) : Int) := by
  rw [Int.fdiv_eq_ediv_of_nonneg _ (by omega)]; simp
theorem shr64 (x : BitVec 64) (i : Nat) (hi : i ≤ 64) : shrA .u64 (x.toNat : Int) (i : Int) = ((x >>> i).toNat : Int) := by
  simp only [shrA, Int.toNat_natCast, IntKind.bits, Nat.min_eq_left hi]
  have : (2 ^ i : Int) = ((2 ^ i : Nat) : Int) := by simp
  rw [this, fdiv_nat, BitVec.toNat_ushiftRight, Nat.shiftRight_eq_div_pow]
theorem shr32 (x : BitVec 32) (i : Nat) (hi : i ≤ 32) : shrA .u32 (x.toNat : Int) (i : Int) = ((x >>> i).toNat : Int) := by
  simp only [shrA, Int.toNat_natCast, IntKind.bits, Nat.min_eq_left hi]
  have : (2 ^ i : Int) = ((2 ^ i : Nat) : Int) := by simp
  rw [this, fdiv_nat, BitVec.toNat_ushiftRight, Nat.shiftRight_eq_div_pow]
theorem wrapu64_emod (x : Nat) : IntKind.wrap .u64 (x : Int) = ((x % 2 ^ 64 : Nat) : Int) := by
  simp [IntKind.wrap, IntKind.bits, IntKind.signed]
theorem shl64 (x : BitVec 64) (i : Nat) (hi : i ≤ 64) : shlA .u64 (x.toNat : Int) (i : Int) = ((x <<< i).toNat : Int) := by
  simp only [shlA, Int.toNat_natCast, IntKind.bits, Nat.min_eq_left hi]
  have : (x.toNat : Int) * 2 ^ i = ((x.toNat * 2 ^ i : Nat) : Int) := by simp
  rw [this, wrapu64_emod, BitVec.toNat_shiftLeft, Nat.shiftLeft_eq]


end Go.Proofs.YtchhknkflhikmaaDoor.Am

/- AM: what came in: values made of a row's reading. -/
namespace Go.Proofs.YtchhknkflhikmaaDoor.Am
set_option linter.unusedSectionVars false
open Go
open Go.RowKit (Below)
set_option linter.unusedVariables false
set_option linter.unusedSimpArgs false
variable [Tab]

/-- Do the fields lie one behind the other? -/
def contig (P : Program) : Nat → List Field → Option Nat
  | o, [] => some o
  | o, f :: fs => if f.offset = o then contig P (o + P.cellsOf f.type) fs else none

def known (P : Program) (t : TypeId) : Bool :=
  match P.underlying t with
  | some .bool | some (.int _) | some .string => true
  | some (.pointer e) | some (.slice e) => decide (0 < P.cellsOf e)
  | some (.struct fs) => contig P 0 fs.toList == some (P.cellsOf t)
  | some (.array n e) => decide (n * P.cellsOf e = P.cellsOf t)
  | _ => false

/-- The cells cs, of type t, read as d. -/
inductive Rd {H : Type} (P : Program) : TypeId → List AV → DataW H → Prop
  | bool {t b} (ht : P.underlying t = some .bool) : Rd P t [.bool b] (.lit (.bool b))
  | int {t k n} (ht : P.underlying t = some (.int k)) (hw : (Lit.int k n).wf = true) : Rd P t [.int k n] (.lit (.int k n))
  | str {t s} (ht : P.underlying t = some .string) (hs : s.length ≤ maxLen) : Rd P t [.str s] (.lit (.string s))
  | nilptr {t e} (ht : P.underlying t = some (.pointer e)) : Rd P t [.nilptr] .nil
  | ptr {t e cs d} (ht : P.underlying t = some (.pointer e)) (h : Rd P e cs d) : Rd P t [.rp cs 0] (.ptr d)
  | snil {t e} (ht : P.underlying t = some (.slice e)) : Rd P t [.rs (P.cellsOf e) []] .nil
  | sl {t e ds sp} {es : List (List AV)} (ht : P.underlying t = some (.slice e)) (hn : es.length = ds.length) (hl : ∀ c ∈ es, c.length = P.cellsOf e)
      (h : ∀ (i : Nat) c d, es[i]? = some c → ds[i]? = some d → Rd P e c d) : Rd P t [.rs (P.cellsOf e) es] (.slice ds sp)
  | struct {t fs cs ds} (ht : P.underlying t = some (.struct fs)) (hl : cs.length = P.cellsOf t) (hd : ds.length = fs.size)
      (h : ∀ (i : Nat) f d, fs[i]? = some f → ds[i]? = some d → Rd P f.type ((cs.drop f.offset).take (P.cellsOf f.type)) d) : Rd P t cs (.agg ds)
  | arr {t n e cs ds} (ht : P.underlying t = some (.array n e)) (hl : cs.length = P.cellsOf t) (hd : ds.length = n)
      (h : ∀ (i : Nat) d, ds[i]? = some d → Rd P e ((cs.drop (i * P.cellsOf e)).take (P.cellsOf e)) d) : Rd P t cs (.agg ds)
  | other {t cs d} (ht : known P t = false) : Rd P t cs d

/-- At the beginning nothing that lies there is written. -/
def ren0 (P : Program) (W : World) : Ren := ⟨fun b => if b < P.globals.size then some ⟨b, 0, 0, false⟩ else none, fun a o => W.cell? ⟨a, o, none⟩⟩

def Start {H : Type} (P : Program) (W : World) (t : TypeId) (cs : List Value) (d : DataW H) : Prop := ∃ avs, VRs (ren0 P W) avs cs ∧ Rd P t avs d

theorem cell_lt {W : World} {a : Addr} {v : Value} (h : W.cell? a = some v) : a.block < W.heap.size ∧ a.spot = none := by
  unfold World.cell? at h
  split at h
  · rename_i he
    refine ⟨?_, ?_⟩
    · exact (Array.getElem?_eq_some_iff.1 he).1
    · split at h
      · simp at h
      · rename_i hn; cases hs : a.spot <;> simp_all
  · simp at h

/-- Several readings, one behind the other. -/
theorem start_many {H : Type} {P : Program} {W : World} (T : Nat → TypeId) (n : Nat) (css : Nat → List Value) (ds : Nat → DataW H) (h : ∀ i, i < n → Start P W (T i) (css i) (ds i)) :
    ∃ avs : Nat → List AV, ∀ i, i < n → VRs (ren0 P W) (avs i) (css i) ∧ Rd P (T i) (avs i) (ds i) := by
  classical
  refine ⟨fun i => if hi : i < n then (h i hi).choose else [], fun i hi => ?_⟩
  simp only [dif_pos hi]
  exact (h i hi).choose_spec

/-- Lists of one length, one behind the other. -/
def catN {α : Type} (f : Nat → List α) : Nat → List α
  | 0 => []
  | n + 1 => catN f n ++ f n
theorem catN_length {α : Type} {s : Nat} {f : Nat → List α} : ∀ {n}, (∀ i, i < n → (f i).length = s) → (catN f n).length = n * s
  | 0, _ => by simp [catN]
  | n + 1, h => by
    have h1 := catN_length (s := s) (f := f) (n := n) (fun i hi => h i (by omega))
    have h2 := h n (by omega)
    simp only [catN, List.length_append, h1, h2, Nat.succ_mul]
theorem catN_get {α : Type} {s : Nat} {f : Nat → List α} : ∀ {n}, (∀ i, i < n → (f i).length = s) → ∀ {i j : Nat}, i < n → j < s → (catN f n)[i * s + j]? = (f i)[j]?
  | 0, _, i, j, hi, _ => absurd hi (by omega)
  | n + 1, h, i, j, hi, hj => by
    have hl := catN_length (s := s) (f := f) (n := n) (fun i hi => h i (by omega))
    simp only [catN]
    by_cases he : i = n
    · subst he
      rw [List.getElem?_append_right (by omega), hl, Nat.add_sub_cancel_left]
    · have hlt : i < n := by omega
      have : i * s + j < n * s := by
        have : (i + 1) * s ≤ n * s := Nat.mul_le_mul_right _ hlt
        rw [Nat.succ_mul] at this; omega
      rw [List.getElem?_append_left (by omega)]
      exact catN_get (fun i hi => h i (by omega)) hlt hj
theorem catN_VRs {ρ : Ren} {f : Nat → List AV} {g : Nat → List Value} : ∀ {n}, (∀ i, i < n → VRs ρ (f i) (g i)) → VRs ρ (catN f n) (catN g n)
  | 0, _ => VRs.nil
  | n + 1, h => VRs.append (catN_VRs fun i hi => h i (by omega)) (h n (by omega))
theorem catN_cut {α : Type} {s : Nat} {cs : List α} : ∀ {n}, n * s ≤ cs.length → catN (fun i => (cs.drop (i * s)).take s) n = cs.take (n * s)
  | 0, _ => by simp [catN]
  | n + 1, h => by
    rw [Nat.succ_mul] at h
    simp only [catN]
    rw [catN_cut (by omega), Nat.succ_mul, List.take_add]
theorem catN_seg {α : Type} {s : Nat} {f : Nat → List α} {n : Nat} (h : ∀ i, i < n → (f i).length = s) {i : Nat} (hi : i < n) : ((catN f n).drop (i * s)).take s = f i := by
  refine List.ext_getElem? fun j => ?_
  rw [List.getElem?_take]
  split
  · rename_i hj
    rw [List.getElem?_drop, catN_get h hi hj]
  · rename_i hj
    rw [List.getElem?_eq_none (by have := h i hi; omega)]

theorem contig_le {P : Program} : ∀ {fs : List Field} {o tot}, contig P o fs = some tot → o ≤ tot
  | [], o, tot, h => by simp [contig] at h; omega
  | f :: fs, o, tot, h => by
    simp only [contig] at h
    split at h
    · have := contig_le h; omega
    · simp at h

theorem struct_cat {P : Program} {ρ : Ren} : ∀ (fs : List Field) (o tot : Nat), contig P o fs = some tot → ∀ (cs : List Value), cs.length = tot → ∀ (avs : Nat → List AV),
    (∀ (i : Nat) f, fs[i]? = some f → VRs ρ (avs i) ((cs.drop f.offset).take (P.cellsOf f.type))) →
    ∃ av : List AV, VRs ρ av (cs.drop o) ∧ ∀ (i : Nat) f, fs[i]? = some f → ∀ pre : List AV, pre.length = o → ((pre ++ av).drop f.offset).take (P.cellsOf f.type) = avs i
  | [], o, tot, h, cs, hl, avs, hv => by
    simp [contig] at h
    refine ⟨[], ?_, fun i f hf => by simp at hf⟩
    rw [List.drop_eq_nil_of_le (by omega)]
    exact VRs.nil
  | f :: fs, o, tot, h, cs, hl, avs, hv => by
    simp only [contig] at h
    split at h
    · rename_i ho
      have hle := contig_le h
      obtain ⟨av, h1, h2⟩ := struct_cat fs _ _ h cs hl (fun i => avs (i + 1)) (fun i g hg => hv (i + 1) g (by simpa using hg))
      have h0 := hv 0 f rfl
      rw [ho] at h0
      have hl0 : (avs 0).length = P.cellsOf f.type := by rw [h0.1]; simp; omega
      refine ⟨avs 0 ++ av, ?_, ?_⟩
      · have : cs.drop o = (cs.drop o).take (P.cellsOf f.type) ++ cs.drop (o + P.cellsOf f.type) := by
          rw [← List.drop_drop, List.take_append_drop]
        rw [this]
        exact VRs.append h0 h1
      · intro i g hg pre hpre
        cases i with
        | zero =>
          simp at hg; subst hg
          rw [ho, ← hpre, List.drop_left, ← hl0, List.take_left]
        | succ i =>
          rw [← List.append_assoc]
          exact h2 i g (by simpa using hg) _ (by simp [hpre, hl0])
    · simp at h

theorem wf_of_trod_int {H : Type} {enc : TypeId × Value → H} {P : Program} {W : World} {base : Nat} {sp : Nat → Bool} {held : Bool} {t : TypeId} {k : IntKind} {n : Nat} {cs : List Value} {x : DataW H × List MemPlace} (ht : P.underlying t = some (.int k))
    (h : DataW.trod enc P W base sp held (n + 1) t cs = some x) : ∃ z, cs = [.int k z] ∧ x = (.lit (.int k z), []) ∧ (Lit.int k z).wf = true := by
  unfold DataW.trod at h
  rw [ht] at h
  split at h <;> simp_all

theorem trod_bool {H : Type} {enc : TypeId × Value → H} {P : Program} {W : World} {base : Nat} {sp : Nat → Bool} {held : Bool} {t : TypeId} {n : Nat} {cs : List Value} {x : DataW H × List MemPlace} (ht : P.underlying t = some .bool)
    (h : DataW.trod enc P W base sp held (n + 1) t cs = some x) : ∃ z, cs = [.bool z] ∧ x = (.lit (.bool z), []) := by
  unfold DataW.trod at h
  rw [ht] at h
  split at h <;> simp_all
theorem trod_str {H : Type} {enc : TypeId × Value → H} {P : Program} {W : World} {base : Nat} {sp : Nat → Bool} {held : Bool} {t : TypeId} {n : Nat} {cs : List Value} {x : DataW H × List MemPlace} (ht : P.underlying t = some .string)
    (h : DataW.trod enc P W base sp held (n + 1) t cs = some x) : ∃ z, cs = [.string z] ∧ x = (.lit (.string z.data.toList), []) ∧ z.size ≤ maxLen := by
  unfold DataW.trod at h
  rw [ht] at h
  split at h <;> simp_all
theorem trod_pointer {H : Type} {enc : TypeId × Value → H} {P : Program} {W : World} {base : Nat} {sp : Nat → Bool} {held : Bool} {t e : TypeId} {n : Nat} {cs : List Value} {x : DataW H × List MemPlace} (ht : P.underlying t = some (.pointer e))
    (h : DataW.trod enc P W base sp held (n + 1) t cs = some x) : (cs = [.pointer none] ∧ x.1 = .nil) ∨
      ∃ a cs' y, cs = [.pointer (some a)] ∧ W.cells? base a (P.cellsOf e) = some cs' ∧ DataW.trod enc P W base sp held n e cs' = some y ∧ x.1 = .ptr y.1 := by
  unfold DataW.trod at h
  rw [ht] at h
  split at h
  case h_5 => simp at h; exact .inl ⟨rfl, by rw [← h]⟩
  case h_6 =>
    rename_i e' a he
    simp at he; subst he
    simp only [Option.map_eq_some_iff, Option.bind_eq_some_iff] at h
    obtain ⟨y, ⟨cs', h1, h2⟩, h3⟩ := h
    exact .inr ⟨a, cs', y, rfl, h1, h2, by rw [← h3]⟩
  all_goals simp_all

theorem add_none (b o j : Nat) : (⟨b, o, none⟩ : Addr).add j = ⟨b, o + j, none⟩ := by
  unfold Addr.add; split <;> simp_all

theorem start_trod {H : Type} {enc : TypeId × Value → H} {P : Program} {W : World} {held : Bool} : ∀ (n : Nat) (t : TypeId) (cs : List Value) (x : DataW H × List MemPlace), DataW.trod enc P W 0 (fun _ => true) held n t cs = some x →
    Start P W t cs x.1
  | 0, t, cs, x, h => by simp [DataW.trod] at h
  | n + 1, t, cs, x, h => by
    have ih := fun t cs x h => start_trod (enc := enc) (P := P) (W := W) (held := held) n t cs x h
    cases hk : known P t with
    | false =>
      exact ⟨List.replicate cs.length .any, ⟨by simp, fun i c v h1 h2 => by
        rw [List.getElem?_replicate] at h1; split at h1 <;> simp at h1; subst h1; exact .any _⟩, .other hk⟩
    | true =>
    unfold known at hk
    split at hk
    · rename_i hu
      obtain ⟨z, rfl, rfl⟩ := trod_bool hu h
      exact ⟨[.bool z], VRs.cons (.bool z) VRs.nil, .bool hu⟩
    · rename_i k hu
      obtain ⟨z, rfl, rfl, hw⟩ := wf_of_trod_int hu h
      exact ⟨[.int k z], VRs.cons (.int k z) VRs.nil, .int hu hw⟩
    · rename_i hu
      obtain ⟨z, rfl, rfl, hw⟩ := trod_str hu h
      exact ⟨[.str z.data.toList], VRs.cons (by have := VR.str (ρ := ren0 P W) z.data.toList; simpa using this) VRs.nil, .str hu (by rw [Array.length_toList]; exact hw)⟩
    · rename_i e hu
      rcases trod_pointer hu h with ⟨rfl, hx⟩ | ⟨a, cs', y, rfl, h1, h2, hx⟩
      · rw [hx]
        exact ⟨[.nilptr], VRs.cons .nilptr VRs.nil, .nilptr hu⟩
      · rw [hx]
        obtain ⟨avs, V1, D1⟩ := ih e cs' y h2
        obtain ⟨_, hl, hc⟩ := World.cells?_some h1
        have hk0 : 0 < P.cellsOf e := by simpa using hk
        have hpos : 0 < cs'.length := by omega
        have h0 := hc 0 (by omega)
        rw [List.getElem?_eq_getElem hpos] at h0
        have hcl := cell_lt h0
        obtain ⟨ab, ao, asp⟩ := a
        have hsp : asp = none ∧ ab < W.heap.size := by
          simp [Addr.add] at hcl
          exact ⟨hcl.2, hcl.1⟩
        obtain ⟨rfl, hlt⟩ := hsp
        refine ⟨[.rp avs 0], VRs.cons ?_ VRs.nil, .ptr hu D1⟩
        have hal : avs.length = cs'.length := V1.1
        have := VR.rp (ρ := ren0 P W) (cs := avs) (o := 0) (blk := ab) (off := ao) (fun j => cs'.getD j undef) (fun j c hj => by
          have hj' : j < cs'.length := by have := (List.getElem?_eq_some_iff.1 hj).1; omega
          refine V1.2 j c _ hj ?_
          simp [List.getD, List.getElem?_eq_getElem hj']) (fun j hj => by
          have hj' : j < cs'.length := by omega
          have := hc j (by omega); rw [add_none] at this
          show W.cell? _ = _
          rw [this, List.getElem?_eq_getElem hj']; simp [List.getD, List.getElem?_eq_getElem hj'])
        exact this
    · rename_i e hu
      have hpos : 0 < P.cellsOf e := by simpa using hk
      rcases DataW.trod_slice hu h with ⟨rfl, rfl⟩ | ⟨a, len, cap, elems, rest, n', hn', rfl, rfl, _, hlc, hcap, hel, hget, hrest, _⟩
      · exact ⟨[.rs (P.cellsOf e) []], VRs.cons (.rs0 _ _ _) VRs.nil, .snil hu⟩
      · have hn'' : n' = n := by omega
        subst hn''
        have hcells : ∀ i, i < len → ∃ cs', W.cells? 0 (a.add (i * P.cellsOf e)) (P.cellsOf e) = some cs' ∧ DataW.trod enc P W 0 (fun _ => true) held n' e cs' = some (elems.getD i (.nil, [])) := fun i hi => by
          have := hget i hi
          rw [List.getElem?_eq_getElem (by omega)] at this
          obtain ⟨cs', h1, h2⟩ := Option.bind_eq_some_iff.1 this
          exact ⟨cs', h1, by rw [h2]; simp [List.getD, List.getElem?_eq_getElem (show i < elems.length by omega)]⟩
        have css : ∀ i, i < len → (W.cells? 0 (a.add (i * P.cellsOf e)) (P.cellsOf e)) = some ((W.cells? 0 (a.add (i * P.cellsOf e)) (P.cellsOf e)).getD []) := fun i hi => by
          obtain ⟨cs', h1, _⟩ := hcells i hi
          rw [h1]; rfl
        obtain ⟨avs, h1⟩ := start_many (P := P) (W := W) (fun _ => e) len (fun i => (W.cells? 0 (a.add (i * P.cellsOf e)) (P.cellsOf e)).getD []) (fun i => (elems.getD i (.nil, [])).1) (fun i hi => by
          obtain ⟨cs', h1, h2⟩ := hcells i hi
          simp only [h1, Option.getD_some]
          exact ih e cs' _ h2)
        have hlen : ∀ i, i < len → (avs i).length = P.cellsOf e := fun i hi => by
          rw [(h1 i hi).1.1, (World.cells?_some (css i hi)).2.1]
        have hds : ∀ (i : Nat) d, (elems.map (·.1))[i]? = some d → i < len ∧ d = (elems.getD i (.nil, [])).1 := fun i d hd => by
          rw [List.getElem?_map] at hd
          by_cases hi : i < elems.length
          · rw [List.getElem?_eq_getElem hi] at hd
            simp at hd
            exact ⟨by omega, by simp [List.getD, List.getElem?_eq_getElem hi, hd]⟩
          · rw [List.getElem?_eq_none (by omega)] at hd; simp at hd
        have hes : ∀ (i : Nat) c, ((List.range len).map avs)[i]? = some c → i < len ∧ c = avs i := fun i c hc => by
          rw [List.getElem?_map] at hc
          by_cases hi : i < len
          · rw [List.getElem?_range hi] at hc; simp at hc; exact ⟨hi, hc.symm⟩
          · rw [List.getElem?_eq_none (by simpa using hi)] at hc; simp at hc
        refine ⟨[.rs (P.cellsOf e) ((List.range len).map avs)], VRs.cons ?_ VRs.nil, .sl hu (by simp [hel]) (fun c hc => ?_) (fun i c d hc hd => ?_)⟩
        · by_cases hl0 : len = 0
          · subst hl0; exact .rs0 _ _ _
          · have h2 := (World.cells?_some (css 0 (by omega))).2
            have h3 := h2.2 0 hpos
            rw [List.getElem?_eq_getElem (by omega)] at h3
            simp only [Nat.zero_mul] at h3
            have hcl := cell_lt h3
            obtain ⟨ab, ao, asp⟩ := a
            have hsp : asp = none ∧ ab < W.heap.size := by
              simp [Addr.add] at hcl
              exact ⟨hcl.2, hcl.1⟩
            obtain ⟨rfl, hlt⟩ := hsp
            refine .rs (fun i j => ((W.cells? 0 ((⟨ab, ao, none⟩ : Addr).add (i * P.cellsOf e)) (P.cellsOf e)).getD []).getD j undef) (by simp) hlc (fun c hc => ?_) (fun i j c av hc hj => ?_) (fun i j hi hj => ?_)
            · obtain ⟨i, hi, rfl⟩ := List.mem_map.1 hc
              exact hlen i (by simpa using hi)
            · obtain ⟨hi, rfl⟩ := hes i c hc
              have hjl : j < P.cellsOf e := by have := (List.getElem?_eq_some_iff.1 hj).1; have := hlen i hi; omega
              have hcl := (World.cells?_some (css i hi)).2.1
              refine (h1 i hi).1.2 j av _ hj ?_
              rw [List.getD, List.getElem?_eq_getElem (by omega)]; rfl
            · have hcl := (World.cells?_some (css i hi)).2.1
              have h3 := (World.cells?_some (css i hi)).2.2 _ hj
              rw [add_none, add_none] at h3
              show W.cell? _ = _
              rw [add_none] at hcl
              rw [show ao + (i * P.cellsOf e + j) = ao + i * P.cellsOf e + j by omega, h3, add_none, List.getD, List.getElem?_eq_getElem (by omega)]; rfl
        · obtain ⟨i, hi, rfl⟩ := List.mem_map.1 hc
          exact hlen i (by simpa using hi)
        · obtain ⟨hi, rfl⟩ := hes i c hc
          obtain ⟨_, rfl⟩ := hds i d hd
          exact (h1 i hi).2
    · rename_i fs hu
      obtain ⟨xs, n', hn', rfl, hl, hxs, hget⟩ := DataW.trod_struct hu h
      have hn'' : n' = n := by omega
      subst hn''
      have hcg : contig P 0 fs.toList = some (P.cellsOf t) := by simpa using hk
      have hget' : ∀ (i : Nat) (f : Field), fs[i]? = some f → DataW.trod enc P W 0 (fun _ => true) held n' f.type ((cs.drop f.offset).take (P.cellsOf f.type)) = some (xs.getD i (.nil, [])) := fun i f hf => by
        rw [hget i f hf]
        have hi : i < xs.length := by rw [hxs]; exact (Array.getElem?_eq_some_iff.1 hf).1
        simp [List.getD, List.getElem?_eq_getElem hi]
      obtain ⟨avs, h1⟩ := start_many (P := P) (W := W) (fun i => ((fs[i]?).map Field.type).getD 0) fs.size (fun i => ((fs[i]?).map fun f => (cs.drop f.offset).take (P.cellsOf f.type)).getD []) (fun i => (xs.getD i (.nil, [])).1) (fun i hi => by
          have hf : fs[i]? = some fs[i] := by simp [hi]
          simp only [hf, Option.map_some, Option.getD_some]
          exact ih _ _ _ (hget' i _ hf))
      have h1' : ∀ (i : Nat) (f : Field), fs[i]? = some f → VRs (ren0 P W) (avs i) ((cs.drop f.offset).take (P.cellsOf f.type)) ∧ Rd P f.type (avs i) (xs.getD i (.nil, [])).1 := fun i f hf => by
        have := h1 i (Array.getElem?_eq_some_iff.1 hf).1
        simp only [hf, Option.map_some, Option.getD_some] at this
        exact this
      obtain ⟨av, h2, h3⟩ := struct_cat fs.toList 0 _ hcg cs hl avs (fun i f hf => (h1' i f (by simpa using hf)).1)
      simp only [List.drop_zero] at h2
      refine ⟨av, h2, .struct hu (by rw [h2.1, hl]) (by simp [hxs]) fun i f d hf hd => ?_⟩
      have h4 := h3 i f (by simpa using hf) [] rfl
      simp only [List.nil_append] at h4
      rw [h4]
      rw [List.getElem?_map] at hd
      have hi : i < xs.length := by rw [hxs]; exact (Array.getElem?_eq_some_iff.1 hf).1
      rw [List.getElem?_eq_getElem hi] at hd
      simp at hd
      have h5 := (h1' i f hf).2
      simp only [List.getD, List.getElem?_eq_getElem hi, Option.getD_some] at h5
      rw [hd] at h5
      exact h5
    · rename_i n0 e hu
      have hcg : n0 * P.cellsOf e = P.cellsOf t := by simpa using hk
      obtain ⟨xs, n', hn', rfl, hl, hxs, hget⟩ := DataW.trod_array hu h
      have hn'' : n' = n := by omega
      subst hn''
      have hget' : ∀ (i : Nat), i < n0 → DataW.trod enc P W 0 (fun _ => true) held n' e ((cs.drop (i * P.cellsOf e)).take (P.cellsOf e)) = some (xs.getD i (.nil, [])) := fun i hi => by
        rw [hget i hi]
        simp [List.getD, List.getElem?_eq_getElem (show i < xs.length by omega)]
      obtain ⟨avs, h1⟩ := start_many (P := P) (W := W) (fun _ => e) n0 (fun i => (cs.drop (i * P.cellsOf e)).take (P.cellsOf e)) (fun i => (xs.getD i (.nil, [])).1) (fun i hi => ih _ _ _ (hget' i hi))
      have hseg : ∀ i, i < n0 → ((cs.drop (i * P.cellsOf e)).take (P.cellsOf e)).length = P.cellsOf e := fun i hi => by
        have : (i + 1) * P.cellsOf e ≤ n0 * P.cellsOf e := Nat.mul_le_mul_right _ hi
        rw [Nat.succ_mul] at this
        simp; omega
      have hlen : ∀ i, i < n0 → (avs i).length = P.cellsOf e := fun i hi => by rw [(h1 i hi).1.1, hseg i hi]
      have h2 : VRs (ren0 P W) (catN avs n0) cs := by
        have := catN_VRs (fun i hi => (h1 i hi).1) (n := n0)
        rw [catN_cut (by omega), List.take_of_length_le (by omega)] at this
        exact this
      refine ⟨catN avs n0, h2, .arr hu (by rw [h2.1, hl]) (by simp [hxs]) fun i d hd => ?_⟩
      rw [List.getElem?_map] at hd
      by_cases hi : i < xs.length
      · rw [catN_seg hlen (by omega)]
        rw [List.getElem?_eq_getElem hi] at hd
        simp at hd
        have h5 := (h1 i (by omega)).2
        simp only [List.getD, List.getElem?_eq_getElem hi, Option.getD_some] at h5
        rw [hd] at h5
        exact h5
      · rw [List.getElem?_eq_none (by omega)] at hd; simp at hd
    · simp at hk

end Go.Proofs.YtchhknkflhikmaaDoor.Am

/- AM: a row's call, out of a derivation; what came in, by its type. -/
namespace Go.Proofs.YtchhknkflhikmaaDoor.Am
set_option linter.unusedSectionVars false
open Go
open Go.RowKit (Below)
set_option linter.unusedVariables false
set_option linter.unusedSimpArgs false
variable [Tab]

/-- A memory that knows nothing but where the package variables lie. -/
def baseMem (G : Nat) : Mem where
  blk b := if b < G then some ⟨.dead, [], 0, []⟩ else none
  next := G
  fin b h := by simp; omega

/-- What is told of the package variables holds at the beginning. -/
def TabsOk (W : World) : Prop := ∀ g cs, Tab.cells g = some cs → ∃ vs : Nat → Value, (∀ (j : Nat) (c : AV), cs[j]? = some c → ∀ ρ, VR ρ c (vs j)) ∧ ∀ j : Nat, j < cs.length → W.cell? ⟨g, j, none⟩ = some (vs j)

theorem Rel.base (P : Program) (W : World) (hT : TabsOk W) : Rel P W.heap.size W (ren0 P W) (baseMem P.globals.size) W := by
  refine ⟨Below.refl _ _, Nat.le_refl _, ?_, ?_, ?_, ?_, ?_, ?_, ?_⟩
  · intro g hg
    refine ⟨⟨g, 0, 0, false⟩, by simp [ren0, hg], rfl, rfl, fun cs hc => ?_⟩
    obtain ⟨vs, h1, h2⟩ := hT g cs hc
    exact ⟨vs, fun j c hj => h1 j c hj _, h2⟩
  · intro b hb; simp [baseMem] at hb; simp [ren0]; exact hb
  · intro b k hb hd
    simp [baseMem] at hb
    obtain ⟨_, rfl⟩ := hb
    exact absurd rfl hd
  · intro b k l hb hs
    simp [baseMem] at hb
    obtain ⟨_, rfl⟩ := hb
    cases hs
  · intro b k l hb hs
    simp [baseMem] at hb
    obtain ⟨_, rfl⟩ := hb
    rcases hs with hs | hs <;> cases hs
  · intro b c kb kc lb lc hb hc h1 h2 hs
    simp [baseMem] at hc
    obtain ⟨_, rfl⟩ := hc
    cases hs
  · intro a o v hv
    refine ⟨hv, fun b k l hb hs => ?_⟩
    simp [baseMem] at hb
    obtain ⟨_, rfl⟩ := hb
    cases hs

def aggT (P : Program) (t : TypeId) : Bool :=
  match P.underlying t with
  | some (.struct _) | some (.array _ _) => true
  | _ => false

/-- The value v, of type t, reads as d. -/
def RdV {H : Type} (P : Program) (t : TypeId) (v : AV) (d : DataW H) : Prop :=
  match aggT P t with
  | true => ∃ cs, v = .agg cs ∧ Rd P t cs d
  | false => Rd P t [v] d

def RdL {H : Type} (P : Program) : List TypeId → List AV → List (DataW H) → Prop
  | [], [], [] => True
  | t :: ts, v :: vs, d :: ds => RdV P t v d ∧ RdL P ts vs ds
  | _, _, _ => False

theorem cells_one {P : Program} {W : World} {base : Nat} {t : TypeId} {v : Value} (ha : aggT P t = false) (h : Value.okWide P W .any base t v) : v.cells.toList = [v] := by
  cases v with
  | agg cs =>
    exfalso
    unfold aggT at ha
    unfold Value.okWide at h
    split at h
    · rename_i hu; simp [hu] at ha
    · rename_i hu; simp [hu] at ha
    · unfold Cell.okWide at h
      split at h <;> simp_all
      unfold Cell.ok at h
      split at h <;> simp_all
  | _ => rfl

theorem start_val {H : Type} {enc : TypeId × Value → H} {P : Program} {W : World} {base : Nat} {t : TypeId} {v : Value} {d : DataW H} {ps : List MemPlace} (hv : Value.okWide P W .any base t v)
    (h : DataW.Trod enc P W 0 (fun _ => true) true t v d ps) : ∃ av, VR (ren0 P W) av v ∧ RdV P t av d := by
  obtain ⟨n, h⟩ := h
  obtain ⟨avs, V1, D1⟩ := start_trod n t _ _ h
  cases ha : aggT P t with
  | true =>
    have : ∃ cs, v = .agg cs := by
      unfold aggT at ha
      unfold Value.okWide at hv
      split at hv
      · obtain ⟨cs, rfl, _⟩ := hv; exact ⟨cs, rfl⟩
      · obtain ⟨cs, rfl, _⟩ := hv; exact ⟨cs, rfl⟩
      · split at ha <;> simp_all
    obtain ⟨cs, rfl⟩ := this
    refine ⟨.agg avs, ?_, ?_⟩
    · have := V1.mk_agg
      simpa [Value.cells] using this
    · unfold RdV; rw [ha]; exact ⟨avs, rfl, D1⟩
  | false =>
    have hc := cells_one ha hv
    rw [hc] at V1
    have hl : avs.length = 1 := V1.1
    match avs, hl with
    | [av], _ =>
      refine ⟨av, V1.2 0 _ _ rfl rfl, ?_⟩
      unfold RdV; rw [ha]; exact D1

theorem start_args {H : Type} {enc : TypeId × Value → H} {P : Program} {W : World} {base : Nat} : ∀ (ts : List TypeId) (vs : List Value) (ds : List (DataW H)) (ps : List MemPlace),
    DataW.TrodAll enc P W 0 (fun _ => true) true ts vs ds ps → (∀ (j : Nat) t v, ts[j]? = some t → vs[j]? = some v → Value.okWide P W .any base t v) → ∃ avs, VRs (ren0 P W) avs vs ∧ RdL P ts avs ds
  | [], [], [], ps, _, _ => ⟨[], VRs.nil, trivial⟩
  | t :: ts, v :: vs, d :: ds, ps, h, hv => by
    obtain ⟨p, q, h1, h2, rfl⟩ := h
    obtain ⟨av, V1, D1⟩ := start_val (hv 0 t v rfl rfl) h1
    obtain ⟨avs, V2, D2⟩ := start_args ts vs ds q h2 (fun j t' v' h1 h2 => hv (j + 1) t' v' (by simpa using h1) (by simpa using h2))
    exact ⟨av :: avs, VRs.cons V1 V2, D1, D2⟩
  | [], _ :: _, _, _, h, _ => h.elim
  | [], [], _ :: _, _, h, _ => h.elim
  | _ :: _, [], _, _, h, _ => h.elim
  | _ :: _, _ :: _, [], _, h, _ => h.elim

/-- THE CALL: what a derivation says of whatever reads so, the machine does. -/
theorem row_calls {H : Type} {enc : TypeId × Value → H} {P : Program} {W : World} {base n : Nat} {ts : List TypeId} {args : Array Value} {ds : List (DataW H)} {ps : List MemPlace} (hm : P.follows .mixedOrders = true) (hT : TabsOk W)
    (hA : DataW.TrodAll enc P W 0 (fun _ => true) true ts args.toList ds ps) (hv : ∀ (j : Nat) t v, ts[j]? = some t → args.toList[j]? = some v → Value.okWide P W .any base t v)
    (h : ∀ avs, RdL P ts avs ds → wpP P n avs (.bool true)) :
    Calls P n args W fun e W' => e = .returned (.bool true) ∧ Below W.heap.size W W' := by
  have R0 := Rel.base P W hT
  obtain ⟨avs, V, D⟩ := start_args ts args.toList ds ps hA hv
  obtain ⟨v, m', h', ⟨d, h1⟩, _, _, rfl, _⟩ := h avs D (baseMem P.globals.size) (fun _ => False) ⟨fun b hb => hb.elim, fun b k hb => by cases hb⟩
  obtain ⟨_, h2⟩ := EvF_sound hm d _ _ _ _ _ h1
  have h3 := h2 _ _ (ren0 P W) W args.toList R0 V
  simp only [Array.toArray_toList] at h3
  refine h3.mono fun e W' hw => ?_
  obtain ⟨v', ρ', rfl, hv', hr, _⟩ := hw
  cases hv'
  exact ⟨rfl, hr.below⟩

/-- What came in reads behind the call as it did. -/
theorem trodAll_below {H : Type} {enc : TypeId × Value → H} {P : Program} (hl : laidOutB P = true) {W W' : World} (hb : Below W.heap.size W W') : ∀ (ts : List TypeId) (vs : List Value) (ds : List (DataW H)) (ps : List MemPlace),
    ts.all (fun t => P.readableRec t && decide (t < P.types.size)) = true → DataW.TrodAll enc P W 0 (fun _ => true) true ts vs ds ps → (∀ x ∈ ps, x.block < W.heap.size) →
    DataW.TrodAll enc P W' 0 (fun b => decide (b < W.heap.size)) true ts vs ds ps
  | [], [], [], ps, _, h, _ => h
  | t :: ts, v :: vs, d :: ds, ps, hr, h, hlt => by
    obtain ⟨p, q, h1, h2, rfl⟩ := h
    simp only [List.all_cons, Bool.and_eq_true, decide_eq_true_eq] at hr
    exact ⟨p, q, Go.RowKit.Below.trod hl hr.1.1 hr.1.2 h1 hb (fun x hx => hlt x (by simp [hx])), trodAll_below hl hb ts vs ds q (by simpa using hr.2) h2 (fun x hx => hlt x (by simp [hx])), rfl⟩
  | [], _ :: _, _, _, _, h, _ => h.elim
  | [], [], _ :: _, _, _, h, _ => h.elim
  | _ :: _, [], _, _, _, h, _ => h.elim
  | _ :: _, _ :: _, [], _, _, h, _ => h.elim

theorem trodAll_len {H : Type} {enc : TypeId × Value → H} {P : Program} {W : World} {b : Nat} {sp : Nat → Bool} {hd : Bool} : ∀ {ts : List TypeId} {vs : List Value} {ds : List (DataW H)} {ps : List MemPlace},
    DataW.TrodAll enc P W b sp hd ts vs ds ps → ds.length = ts.length
  | [], [], [], _, _ => rfl
  | t :: ts, v :: vs, d :: ds, ps, h => by
    obtain ⟨p, q, _, h2, _⟩ := h
    simp [trodAll_len h2]
  | [], _ :: _, _, _, h => h.elim
  | [], [], _ :: _, _, h => h.elim
  | _ :: _, [], _, _, h => h.elim
  | _ :: _, _ :: _, [], _, h => h.elim

/-! ### What came in, by its type -/

section
variable {H : Type} {P : Program} {t : TypeId}
theorem Rd.int1 {k c} {d : DataW H} (ht : P.underlying t = some (.int k)) (h : Rd P t [c] d) : ∃ n, c = .int k n ∧ d = .lit (.int k n) ∧ (Lit.int k n).wf = true := by
  cases h with
  | bool h1 => rw [ht] at h1; cases h1
  | int h1 h2 => rw [ht] at h1; cases h1; exact ⟨_, rfl, rfl, h2⟩
  | str h1 h2 => rw [ht] at h1; cases h1
  | nilptr h1 => rw [ht] at h1; cases h1
  | ptr h1 h2 => rw [ht] at h1; cases h1
  | snil h1 => rw [ht] at h1; cases h1
  | sl h1 h2 h3 h4 => rw [ht] at h1; cases h1
  | struct h1 h2 h3 h4 => rw [ht] at h1; cases h1
  | arr h1 h2 h3 h4 => rw [ht] at h1; cases h1
  | other h1 => simp [known, ht] at h1
theorem Rd.bool1 {c} {d : DataW H} (ht : P.underlying t = some .bool) (h : Rd P t [c] d) : ∃ b, c = .bool b ∧ d = .lit (.bool b) := by
  cases h with
  | bool h1 => exact ⟨_, rfl, rfl⟩
  | int h1 h2 => rw [ht] at h1; cases h1
  | str h1 h2 => rw [ht] at h1; cases h1
  | nilptr h1 => rw [ht] at h1; cases h1
  | ptr h1 h2 => rw [ht] at h1; cases h1
  | snil h1 => rw [ht] at h1; cases h1
  | sl h1 h2 h3 h4 => rw [ht] at h1; cases h1
  | struct h1 h2 h3 h4 => rw [ht] at h1; cases h1
  | arr h1 h2 h3 h4 => rw [ht] at h1; cases h1
  | other h1 => simp [known, ht] at h1
theorem Rd.str1 {c} {d : DataW H} (ht : P.underlying t = some .string) (h : Rd P t [c] d) : ∃ s, c = .str s ∧ d = .lit (.string s) ∧ s.length ≤ maxLen := by
  cases h with
  | bool h1 => rw [ht] at h1; cases h1
  | int h1 h2 => rw [ht] at h1; cases h1
  | str h1 h2 => exact ⟨_, rfl, rfl, h2⟩
  | nilptr h1 => rw [ht] at h1; cases h1
  | ptr h1 h2 => rw [ht] at h1; cases h1
  | snil h1 => rw [ht] at h1; cases h1
  | sl h1 h2 h3 h4 => rw [ht] at h1; cases h1
  | struct h1 h2 h3 h4 => rw [ht] at h1; cases h1
  | arr h1 h2 h3 h4 => rw [ht] at h1; cases h1
  | other h1 => simp [known, ht] at h1
theorem Rd.slice1 {e c z} {d : DataW H} (ht : P.underlying t = some (.slice e)) (hz : P.cellsOf e = z) (hp : 0 < z) (h : Rd P t [c] d) :
    ∃ es, c = .rs z es ∧ (d = .nil ∧ es = [] ∨ ∃ ds sp, d = .slice ds sp ∧ es.length = ds.length) ∧ (∀ c ∈ es, c.length = z ∧ ∃ x : DataW H, Rd P e c x) := by
  subst hz
  cases h with
  | bool h1 => rw [ht] at h1; cases h1
  | int h1 h2 => rw [ht] at h1; cases h1
  | str h1 h2 => rw [ht] at h1; cases h1
  | nilptr h1 => rw [ht] at h1; cases h1
  | ptr h1 h2 => rw [ht] at h1; cases h1
  | snil h1 => rw [ht] at h1; cases h1; exact ⟨[], rfl, .inl ⟨rfl, rfl⟩, fun c hc => by cases hc⟩
  | sl h1 h2 h3 h4 => 
    rename_i e' ds sp es
    rw [ht] at h1; cases h1
    refine ⟨es, rfl, .inr ⟨ds, sp, rfl, h2⟩, fun c hc => ⟨h3 c hc, ?_⟩⟩
    obtain ⟨i, hi, rfl⟩ := List.getElem_of_mem hc
    exact ⟨ds[i], h4 i _ _ (List.getElem?_eq_getElem hi) (List.getElem?_eq_getElem (by omega))⟩
  | struct h1 h2 h3 h4 => rw [ht] at h1; cases h1
  | arr h1 h2 h3 h4 => rw [ht] at h1; cases h1
  | other h1 => simp [known, ht] at h1; omega
theorem Rd.ptr1 {e c} {d : DataW H} (ht : P.underlying t = some (.pointer e)) (hp : 0 < P.cellsOf e) (h : Rd P t [c] d) : c = .nilptr ∧ d = .nil ∨ ∃ cs x, c = .rp cs 0 ∧ d = .ptr x ∧ Rd P e cs x := by
  cases h with
  | bool h1 => rw [ht] at h1; cases h1
  | int h1 h2 => rw [ht] at h1; cases h1
  | str h1 h2 => rw [ht] at h1; cases h1
  | nilptr h1 => exact .inl ⟨rfl, rfl⟩
  | ptr h1 h2 => rw [ht] at h1; cases h1; exact .inr ⟨_, _, rfl, rfl, h2⟩
  | snil h1 => rw [ht] at h1; cases h1
  | sl h1 h2 h3 h4 => rw [ht] at h1; cases h1
  | struct h1 h2 h3 h4 => rw [ht] at h1; cases h1
  | arr h1 h2 h3 h4 => rw [ht] at h1; cases h1
  | other h1 => simp [known, ht] at h1; omega
theorem Rd.struct1 {fs cs} {d : DataW H} (ht : P.underlying t = some (.struct fs)) (hk : known P t = true) (h : Rd P t cs d) :
    cs.length = P.cellsOf t ∧ ∃ ds, d = .agg ds ∧ ds.length = fs.size ∧ ∀ (i : Nat) f x, fs[i]? = some f → ds[i]? = some x → Rd P f.type ((cs.drop f.offset).take (P.cellsOf f.type)) x := by
  cases h with
  | bool h1 => rw [ht] at h1; cases h1
  | int h1 h2 => rw [ht] at h1; cases h1
  | str h1 h2 => rw [ht] at h1; cases h1
  | nilptr h1 => rw [ht] at h1; cases h1
  | ptr h1 h2 => rw [ht] at h1; cases h1
  | snil h1 => rw [ht] at h1; cases h1
  | sl h1 h2 h3 h4 => rw [ht] at h1; cases h1
  | struct h1 h2 h3 h4 => rw [ht] at h1; cases h1; exact ⟨h2, _, rfl, h3, h4⟩
  | arr h1 h2 h3 h4 => rw [ht] at h1; cases h1
  | other h1 => rw [hk] at h1; cases h1
theorem Rd.arr1 {n e cs} {d : DataW H} (ht : P.underlying t = some (.array n e)) (hk : known P t = true) (h : Rd P t cs d) :
    cs.length = P.cellsOf t ∧ ∃ ds, d = .agg ds ∧ ds.length = n ∧ ∀ (i : Nat) x, ds[i]? = some x → Rd P e ((cs.drop (i * P.cellsOf e)).take (P.cellsOf e)) x := by
  cases h with
  | bool h1 => rw [ht] at h1; cases h1
  | int h1 h2 => rw [ht] at h1; cases h1
  | str h1 h2 => rw [ht] at h1; cases h1
  | nilptr h1 => rw [ht] at h1; cases h1
  | ptr h1 h2 => rw [ht] at h1; cases h1
  | snil h1 => rw [ht] at h1; cases h1
  | sl h1 h2 h3 h4 => rw [ht] at h1; cases h1
  | struct h1 h2 h3 h4 => rw [ht] at h1; cases h1
  | arr h1 h2 h3 h4 => rw [ht] at h1; cases h1; exact ⟨h2, _, rfl, h3, h4⟩
  | other h1 => rw [hk] at h1; cases h1
theorem RdV.flat {v} {d : DataW H} (ha : aggT P t = false) (h : RdV P t v d) : Rd P t [v] d := by unfold RdV at h; rw [ha] at h; exact h
theorem RdV.agg {v} {d : DataW H} (ha : aggT P t = true) (h : RdV P t v d) : ∃ cs, v = .agg cs ∧ Rd P t cs d := by unfold RdV at h; rw [ha] at h; exact h
theorem RdL.cons {ts vs} {ds : List (DataW H)} (h : RdL P (t :: ts) vs ds) : ∃ v vs' d ds', vs = v :: vs' ∧ ds = d :: ds' ∧ RdV P t v d ∧ RdL P ts vs' ds' := by
  match vs, ds, h with
  | v :: vs, d :: ds, h => exact ⟨v, vs, d, ds, rfl, rfl, h.1, h.2⟩
theorem RdL.nil {vs} {ds : List (DataW H)} (h : RdL P [] vs ds) : vs = [] ∧ ds = [] := by
  match vs, ds, h with
  | [], [], _ => exact ⟨rfl, rfl⟩
end
/-- Each is made of something: so is the list. -/
theorem all_made {α β : Type} {f : α → β} {p : α → Prop} : ∀ {l : List β}, (∀ c ∈ l, ∃ x, c = f x ∧ p x) → ∃ xs : List α, l = xs.map f ∧ ∀ x ∈ xs, p x
  | [], _ => ⟨[], rfl, fun x hx => nomatch hx⟩
  | c :: l, h => by
    obtain ⟨x, rfl, hx⟩ := h c (by simp)
    obtain ⟨xs, rfl, hxs⟩ := all_made (l := l) fun c hc => h c (List.mem_cons_of_mem _ hc)
    exact ⟨x :: xs, rfl, fun y hy => by rcases List.mem_cons.1 hy with rfl | hy; exact hx; exact hxs y hy⟩

end Go.Proofs.YtchhknkflhikmaaDoor.Am

/- AM: the rules by which a region is reckoned, as one set; blocks that are written no more. -/
namespace Go.Proofs.YtchhknkflhikmaaDoor.Am
set_option linter.unusedSectionVars false
open Go
set_option linter.unusedVariables false
set_option linter.unusedSimpArgs false
variable [Tab]

theorem repl_0 {z : List AV} : repl 0 z = [] := rfl
theorem repl_1 {z : List AV} : repl 1 z = z := by simp [repl]
theorem repl_2 {z : List AV} : repl 2 z = z ++ z := by simp [repl, List.replicate]
theorem repl_3 {z : List AV} : repl 3 z = z ++ (z ++ z) := by simp [repl, List.replicate]
theorem repl_4 {z : List AV} : repl 4 z = z ++ (z ++ (z ++ z)) := by simp [repl, List.replicate]
theorem repl_5 {z : List AV} : repl 5 z = z ++ (z ++ (z ++ (z ++ z))) := by simp [repl, List.replicate]
theorem repl_6 {z : List AV} : repl 6 z = z ++ (z ++ (z ++ (z ++ (z ++ z)))) := by simp [repl, List.replicate]
theorem map_guardO {α β : Type} {c : Prop} [Decidable c] {x : Option α} {f : α → β} : (guardO c x).map f = guardO c (x.map f) := by unfold guardO; split <;> rfl
theorem bind_guardO {α β : Type} {c : Prop} [Decidable c] {x : Option α} {f : α → Option β} : (guardO c x).bind f = guardO c (x.bind f) := by unfold guardO; split <;> rfl
attribute [go_sem] repl_0 repl_1 repl_2 repl_3 repl_4 repl_5 repl_6 map_guardO bind_guardO
theorem ev_const {P : Program} {e : Env} {v} : ev P e (.const v) = (ofConst v).getD .any := rfl
theorem ev_func {P : Program} {e : Env} {f} : ev P e (.func f) = .fn f [] [] := rfl
attribute [go_sem] gO_nil gO_cons gO_consT hOf_load hOf_conv hOf_slice hOf_store hOf_call gN_cond gN_val gN_bad gW_some gW_none gW_guard outV_some outV_none outV_guard guardO_true gN_storeT putd_lk putd_lk0 lk_cons lk_nil ev_tmp ev_const ev_func gdO_tt gdO_ff gdO_tf gdO_ft gdO_u
  itemsOf itemsAt operO stepO sliceO convO callO callB appO storeO pureA loadH allocA selA binA binInt unA convA partA TD.isAgg TD.isBool TD.isPtr TD.isFunc fieldOf indexA indexAddrA_sl indexAddrA_ptr indexAddrA_rs indexAddrA_rp
  lenA_sl lenA_snil lenA_str lenA_rs buildA placesA fillA eqA eqV eqV.eqFs sliceA arrCutA bndA foldA max2A min2A
  ofConst ofLeaf ofLeafs AV.cells AV.leaf List.all_cons List.all_nil Bool.true_and Bool.and_true Bool.false_and Bool.and_false Bool.true_or Bool.false_or Bool.or_false Bool.or_true Bool.not_true Bool.not_false Bool.not_not
  Option.bind_some Option.bind_none Option.map_some Option.map_none Option.getD_some Option.getD_none Option.bind_eq_bind List.getElem?_cons_zero List.getElem?_cons_succ List.getElem?_nil List.getElem?_toArray List.map_cons List.map_nil List.append_nil List.nil_append List.cons_append List.singleton_append
  List.take_zero List.drop_zero List.take_succ_cons List.drop_succ_cons List.take_nil List.drop_nil List.length_cons List.length_nil List.length_append List.tail_cons List.headD_cons List.headD_nil List.tail_nil
  if_true if_false true_and and_true false_and and_false decide_true decide_false Int.natCast_nonneg Int.toNat_natCast Nat.mul_one Nat.one_mul Nat.zero_add Nat.add_zero ne_eq not_true_eq_false not_false_eq_true Nat.zero_le Nat.zero_lt_succ Nat.zero_lt_one Nat.le_refl Int.toNat_zero Nat.zero_mul Nat.mul_zero and_self beq_self_eq_true Nat.succ_ne_self
  put_at upd_at del_at emp_at upd_putI upd_upd del_putI del_updI del_emp kill_nil cat_emp put_fresh upd_fresh gN_store
  argL TI.d TI.size TI.bytes TI.zero List.getElem?_map List.length_map

/-! ### Blocks that are written no more -/

def setL (t : Nat) (v : AV) : List (Nat × AV) → List (Nat × AV)
  | [] => [(t, v)]
  | (i, x) :: l => if i = t then (i, v) :: l else (i, x) :: setL t v l
theorem lk_setL (t : Nat) (v : AV) : ∀ L, lk (setL t v L) = put (lk L) t v
  | [] => by funext i; simp [setL, lk, put]
  | (i, x) :: l => by
    funext j
    simp only [setL]
    split
    · rename_i h; subst h
      simp only [lk, put]
      split <;> rfl
    · rename_i h
      simp only [lk, lk_setL t v l, put]
      by_cases hj : j = i
      · subst hj; simp [h]
      · simp [hj]

section
variable {P : Program} {cs : List Code} {L : List (Nat × AV)} {h : Heap} {K : Ex → Env → Heap → Prop}

/-- The block behind a pointer: read out of the pointer itself from here on. -/
theorem wpL_frzP (t : Nat) {b o : Nat} {k : Blk} (he : lk L t = .ptr b o) (hb : h b = some k) (ho : k.st = .own) (hk : wpL P cs (lk (setL t (.rp k.cells o) L)) (h.del b) K) : wpL P cs (lk L) h K := by
  refine wpL_freeze (e1 := lk (setL t (.rp k.cells o) L)) (h1 := h.del b) hb ho (fun i => ?_) (by simp [Heap.del]) (fun c kc' hc => ?_) hk
  · rw [lk_setL]
    simp only [put]
    split
    · subst_vars; rw [he]; exact .ptr (by simp)
    · exact .refl _
  · simp only [Heap.del] at hc
    split at hc
    · cases hc
    · exact ⟨kc', hc, rfl, rfl, rfl, rfl, fun i x y h1 h2 => by rw [h1] at h2; cases h2; exact .refl _⟩

/-- The block of a slice: the slice holds its elements from here on. -/
theorem wpL_frzS (t : Nat) (es : List (List AV)) {b n s : Nat} {k : Blk} (he : lk L t = .sl b 0 n s) (hb : h b = some k) (ho : k.st = .own) (hc : k.cells = es.flatten) (hl : es.length = n) (hs : ∀ e ∈ es, e.length = s)
    (hk : wpL P cs (lk (setL t (.rs s es) L)) (h.del b) K) : wpL P cs (lk L) h K := by
  refine wpL_freeze (e1 := lk (setL t (.rs s es) L)) (h1 := h.del b) hb ho (fun i => ?_) (by simp [Heap.del]) (fun c kc' hc => ?_) hk
  · rw [lk_setL]
    simp only [put]
    split
    · subst_vars; rw [he]
      refine .sl (cs := es.flatten) (by simp [hc]) rfl (fun i e hi => ?_) hs
      rw [Nat.zero_add]
      have key : ∀ (es : List (List AV)) (i : Nat) (e : List AV), (∀ e ∈ es, e.length = s) → es[i]? = some e → e = (es.flatten.drop (i * s)).take s := by
        intro es
        induction es with
        | nil => intro i e _ h; simp at h
        | cons x xs ih =>
          intro i e hs h
          have hx := hs x (by simp)
          cases i with
          | zero => simp at h; subst h; simp [← hx]
          | succ i =>
            simp only [List.getElem?_cons_succ] at h
            rw [List.flatten_cons, Nat.succ_mul, Nat.add_comm, ← List.drop_drop, ← hx, List.drop_left, hx]
            exact ih i e (fun e he => hs e (by simp [he])) h
      exact key es i e hs hi
    · exact .refl _
  · simp only [Heap.del] at hc
    split at hc
    · cases hc
    · exact ⟨kc', hc, rfl, rfl, rfl, rfl, fun i x y h1 h2 => by rw [h1] at h2; cases h2; exact .refl _⟩

theorem wpL_vecL (t s : Nat) (ty : TypeId) (he : lk L t = .snil) (hk : ∀ b, h b = none → wpL P cs (lk (setL t (.sl b 0 0 s) L)) (h.put b ⟨.own, [], ty, []⟩) K) : wpL P cs (lk L) h K :=
  wpL_vec t s ty he fun b hb => by rw [← lk_setL]; exact hk b hb
end
attribute [go_sem] setL

/-- A name that names no block yet. -/
def NewIn (h : Heap) (b : Nat) : Prop := h b = none
theorem newIn_put {h : Heap} {c b k} : NewIn (h.put c k) b = ((b = c) = False ∧ (c = b) = False ∧ NewIn h b) := put_fresh
theorem newIn_upd {h : Heap} {c b k} : NewIn (h.upd c k) b = ((b = c) = False ∧ (c = b) = False ∧ NewIn h b) := put_fresh
theorem del_putN {h : Heap} {b k} (hf : NewIn h b) : (h.put b k).del b = h := del_put hf
theorem newIn_emp {b} : NewIn Heap.emp b := rfl
attribute [go_sem] newIn_put newIn_upd

section
variable {P : Program} {all : Array Oper} {d : Option Nat} {fl : Bool} {its : List (Oper × Bool)} {e : Env} {h : Heap} {k : Env → Heap → Prop}
theorem gN_new {f} (hk : ∀ b, NewIn h b → gW P all d its e h k b (f b)) : gN P all d fl its e h k (.alloc f) := hk

/-- What is appended: m elements, their cells news. -/
structure SrcV (h : Heap) (s : Nat) (x : AV) (m : Nat) (news : List AV) : Prop where
  len : lenOfA x = some m
  src : srcH h s x = some news
  cells : news.length = m * s
  leaf : news.all AV.leaf = true

/-- Appended to a slice of the run's own. -/
theorem gN_appV {t b n s x m et ti ei cells news} (ht : tiOf P t = some ti) (hd : ti.d = .slice et) (he : tiOf P et = some ei) (hs : ei.size = s) (hp : 0 < s) (hx : SrcV h s x m news) (hb : h b = some ⟨.own, cells, et, []⟩)
    (hc : cells.length = n * s) (hbd : (n + m) * ei.bytes ≤ 140737488355328) (hm : n + m ≤ maxInt)
    (hk : ∀ b', NewIn (h.del b) b' → gO P all its (putd e d (.sl b' 0 (n + m) s)) ((h.del b).put b' ⟨.own, cells ++ news, et, []⟩) k) : gN P all d fl its e h k (.app t (.sl b 0 n s) x) := by
  subst hs
  by_cases h0 : m = 0
  · subst h0
    have hn : news = [] := List.eq_nil_of_length_eq_zero (by rw [hx.cells]; simp)
    subst hn
    refine gN_app_zero (et := et) (ei := ei) ⟨⟨ti, ht, hd⟩, he, hp, hx.len⟩ (.inr ⟨_, _, _, _, rfl⟩) ?_
    have := hk b (by simp [NewIn, Heap.del])
    have e2 : (h.del b).put b ⟨.own, cells ++ [], et, []⟩ = h := by
      funext x; simp only [Heap.put, Heap.del, List.append_nil]; split
      · subst_vars; exact hb.symm
      · rfl
    rw [e2, Nat.add_zero] at this; exact this
  · exact gN_app_own (et := et) (ei := ei) (news := news) ⟨⟨ti, ht, hd⟩, he, hp, hx.len⟩ (by omega) ⟨hx.src, hx.cells, hx.leaf⟩ hb hc.symm hbd hm fun b' hb' => hk b' (by
      simp only [NewIn, Heap.del]; split
      · rfl
      · exact hb')

/-- Appended to nil. -/
theorem gN_appN {t s x m et ti ei news} (ht : tiOf P t = some ti) (hd : ti.d = .slice et) (he : tiOf P et = some ei) (hs : ei.size = s) (hp : 0 < s) (hx : SrcV h s x m news) (hbd : m * ei.bytes ≤ 140737488355328) (hm : m ≤ maxInt)
    (hk : ∀ b', NewIn h b' → gO P all its (putd e d (.sl b' 0 m s)) (h.put b' ⟨.own, news, et, []⟩) k) : gN P all d fl its e h k (.app t .snil x) := by
  subst hs
  by_cases h0 : m = 0
  · subst h0
    have hn : news = [] := List.eq_nil_of_length_eq_zero (by rw [hx.cells]; simp)
    subst hn
    exact gN_app_nil0 (et := et) (ei := ei) ⟨⟨ti, ht, hd⟩, he, hp, hx.len⟩ hk
  · exact gN_app_nil (et := et) (ei := ei) (news := news) ⟨⟨ti, ht, hd⟩, he, hp, hx.len⟩ (by omega) ⟨hx.src, hx.cells, hx.leaf⟩ hbd hm hk

theorem SrcV.rs {s es} (hs : ∀ e ∈ es, e.length = s) (hl : es.flatten.all AV.leaf = true) : SrcV h s (.rs s es) es.length es.flatten := by
  refine ⟨rfl, by simp [srcH, guardO], ?_, hl⟩
  clear hl
  induction es with
  | nil => simp
  | cons x xs ih => simp [hs x (by simp), ih fun e he => hs e (by simp [he]), Nat.add_mul]; omega
theorem SrcV.sl {b n s cells et anc} (hb : h b = some ⟨.own, cells, et, anc⟩) (hc : cells.length = n * s) (hl : cells.all AV.leaf = true) : SrcV h s (.sl b 0 n s) n cells := by
  refine ⟨rfl, ?_, hc, hl⟩
  simp only [srcH, Nat.zero_add, hb, Option.bind_some, List.drop_zero]
  by_cases h0 : n = 0
  · subst h0
    simp at hc; simp [hc]
  · rw [if_neg h0, guardO, if_pos (by omega), List.take_of_length_le (by omega)]
theorem SrcV.str {bs : List UInt8} : SrcV h 1 (.str bs) bs.length (bs.map fun c => .int .u8 c.toNat) := ⟨rfl, rfl, by simp, by simp [AV.leaf]⟩
theorem SrcV.snil {s} : SrcV h s .snil 0 [] := ⟨rfl, rfl, by simp, rfl⟩
end

section
variable {P : Program} {cs : List Code} {L L' : List (Nat × AV)} {h h' : Heap} {K : Ex → Env → Heap → Prop}
theorem wpL_frzP' (t : Nat) {b o : Nat} {k : Blk} (he : lk L t = .ptr b o) (hb : h b = some k) (ho : k.st = .own) (hL : setL t (.rp k.cells o) L = L') (hh : h.del b = h') (hk : wpL P cs (lk L') h' K) : wpL P cs (lk L) h K :=
  wpL_frzP t he hb ho (by rw [hL, hh]; exact hk)
theorem wpL_frzS' (t : Nat) (es : List (List AV)) {b n s : Nat} {k : Blk} (he : lk L t = .sl b 0 n s) (hb : h b = some k) (ho : k.st = .own) (hc : k.cells = es.flatten) (hl : es.length = n) (hs : ∀ e ∈ es, e.length = s)
    (hL : setL t (.rs s es) L = L') (hh : h.del b = h') (hk : wpL P cs (lk L') h' K) : wpL P cs (lk L) h K := wpL_frzS t es he hb ho hc hl hs (by rw [hL, hh]; exact hk)
theorem wpL_vecL' (t s : Nat) (ty : TypeId) (he : lk L t = .snil) (hk : ∀ b, NewIn h b → wpL P cs (lk (setL t (.sl b 0 0 s) L)) (h.put b ⟨.own, [], ty, []⟩) K) : wpL P cs (lk L) h K := wpL_vecL t s ty he hk
theorem wpL_del' (b : Nat) (hh : h.del b = h') (hk : wpL P cs (lk L) h' K) : wpL P cs (lk L) h K := wpL_del b (by rw [hh]; exact hk)
theorem wpL_to (hL : L = L') (hk : wpL P cs (lk L') h K) : wpL P cs (lk L) h K := by rw [hL]; exact hk
theorem resTo {rs rs' : List ResultVar} {e : Env} {v} (h1 : rs = rs') (h2 : resAH P rs' e h = some v) : resAH P rs e h = some v := by rw [h1]; exact h2
end
attribute [go_sem] resAH resListH resOneH

theorem gN_split2 {P : Program} {all : Array Oper} {d : Option Nat} {fl : Bool} {its : List (Oper × Bool)} {e : Env} {h : Heap} {k : Env → Heap → Prop} {o : Op} {want b : Bool}
    (h1 : b = true → gN P all d fl its e h k (gdO P o e h want (.bool b))) (h2 : b = false → gN P all d fl its e h k (gdO P o e h want (.bool b))) : gN P all d fl its e h k (gdO P o e h want (.bool b)) := by
  cases hb : b with
  | true => rw [← hb]; exact h1 hb
  | false => rw [← hb]; exact h2 hb

theorem wpL_region' {P : Program} {cs : List Code} {e : Env} {h : Heap} {K : Ex → Env → Heap → Prop} {id ops} (ds : List Nat)
    (hk : ∀ k : Env → Heap → Prop, (∀ e h L, pickL ds e = L → wpL P cs (lk L) h K → k e h) → gO P ops (itemsOf ops.toList) e h k) : wpL P (.region id ops false :: cs) e h K :=
  wpL_region ds fun k hq => hk k fun e h L hL hw => hq e h (by rw [hL]; exact hw)
theorem wpL_draw' {P : Program} {cs : List Code} {e : Env} {h : Heap} {K : Ex → Env → Heap → Prop} {id ops} (ds : List Nat) (π R : List Nat) (bs : List Bool) (hok : drawOk P ops π = true) (hin : inB ops.size π = true)
    (hfl : flagsOk P ops.toList (flOf P ops (tabOf ops [] π) R π) π bs = true)
    (hk : ∀ k : Env → Heap → Prop, (∀ e h L, pickL ds e = L → wpL P cs (lk L) h K → k e h) → gO P ops (itemsAt ops.toList π bs) e h k) : wpL P (.region id ops true :: cs) e h K :=
  wpL_draw ds π R bs hok hin hfl fun k hq => hk k fun e h L hL hw => hq e h (by rw [hL]; exact hw)


theorem pickL_lk (e e' : Env) : ∀ (ds : List Nat), (∀ d ∈ ds, e d = e' d) → pickL ds e = pickL ds e'
  | [], _ => rfl
  | d :: ds, h => by simp only [pickL, h d (by simp), pickL_lk e e' ds fun x hx => h x (by simp [hx])]

/-! ### What is answered, its blocks written no more -/

/-- The cells of a slice, element by element. -/
structure Els (s : Nat) (es : List (List AV)) (n : Nat) (cells : List AV) : Prop where
  flat : cells = es.flatten
  len : es.length = n
  each : ∀ e ∈ es, e.length = s
theorem Els.cut {s es n cells} (h : Els s es n cells) : ∀ (i : Nat) (e : List AV), es[i]? = some e → e = (cells.drop (0 + i * s)).take s := by
  intro i e hi
  rw [Nat.zero_add, h.flat]
  have key : ∀ (es : List (List AV)) (i : Nat) (e : List AV), (∀ e ∈ es, e.length = s) → es[i]? = some e → e = (es.flatten.drop (i * s)).take s := by
    intro es
    induction es with
    | nil => intro i e _ h; simp at h
    | cons x xs ih =>
      intro i e hs h
      have hx := hs x (by simp)
      cases i with
      | zero => simp at h; subst h; simp [← hx]
      | succ i =>
        simp only [List.getElem?_cons_succ] at h
        rw [List.flatten_cons, Nat.succ_mul, Nat.add_comm, ← List.drop_drop, ← hx, List.drop_left, hx]
        exact ih i e (fun e he => hs e (by simp [he])) h
  exact key es i e h.each hi

inductive WkL (fz : Nat → Option (List AV)) : List AV → List AV → Prop
  | nil : WkL fz [] []
  | cons {c d cs ds} (h : Wk fz (fun _ => False) c d) (k : WkL fz cs ds) : WkL fz (c :: cs) (d :: ds)
theorem WkL.get {fz cs ds} (h : WkL fz cs ds) : cs.length = ds.length ∧ ∀ (i : Nat) (c d : AV), cs[i]? = some c → ds[i]? = some d → Wk fz (fun _ => False) c d := by
  induction h with
  | nil => exact ⟨rfl, fun i c d h => by simp at h⟩
  | cons h _ ih =>
    refine ⟨by simp [ih.1], fun i c d h1 h2 => ?_⟩
    cases i with
    | zero => simp at h1 h2; subst h1; subst h2; exact h
    | succ i => exact ih.2 i c d (by simpa using h1) (by simpa using h2)
theorem Wk.aggL {fz cs ds} (h : WkL fz cs ds) : Wk fz (fun _ => False) (.agg cs) (.agg ds) := .agg h.get.1 h.get.2
theorem Wk.tupL {fz cs ds} (h : WkL fz cs ds) : Wk fz (fun _ => False) (.tup cs) (.tup ds) := .tup h.get.1 h.get.2
theorem Wk.slF {b n s cells es} (h : Els s es n cells) : Wk (fun x => if x = b then some cells else none) (fun _ => False) (.sl b 0 n s) (.rs s es) :=
  .sl (cs := cells) (by simp) h.len h.cut h.each

inductive Frz : AV → Heap → AV → Heap → Prop
  | refl {v h} : Frz v h v h
  | step {v h b k v' v1 h1} (hb : h b = some k) (ho : k.st = .own) (hw : Wk (fun x => if x = b then some k.cells else none) (fun _ => False) v v') (hk : Frz v' (h.del b) v1 h1) : Frz v h v1 h1
theorem wpH.frz {P : Program} {f args h} {K : AV → Heap → Prop} (hw : wpH P f args h fun v h' => ∃ v1 h1, Frz v h' v1 h1 ∧ K v1 h1) : wpH P f args h K := fun m Pr R => by
  obtain ⟨v, m', h', k1, k2, k3, v1, h1, k4, k5⟩ := hw m Pr R
  have : ∀ {v h' v1 h1}, Frz v h' v1 h1 → ∀ {m'}, FInf P f args m v m' → HR Pr m' h' → (∀ b, Pr b → m'.blk b = m.blk b) → ∃ m1, FInf P f args m v1 m1 ∧ HR Pr m1 h1 ∧ ∀ b, Pr b → m1.blk b = m.blk b := by
    intro v h' v1 h1 hf
    induction hf with
    | refl => exact fun k1 k2 k3 => ⟨_, k1, k2, k3⟩
    | @step v h b k v' v1 h1 hb ho hw _ ih =>
      intro m' k1 k2 k3
      obtain ⟨m1, W, R1, F1⟩ := k2.freeze (e := lk [(0, v)]) (e1 := lk [(0, v')]) (h1 := h.del b) hb ho (fun i => by
        by_cases hi : i = 0
        · subst hi; simp only [lk]; exact hw
        · simp only [lk, if_neg hi]; exact .refl _) (by simp [Heap.del]) (fun c kc' hc => by
        simp only [Heap.del] at hc
        split at hc
        · cases hc
        · exact ⟨kc', hc, rfl, rfl, rfl, rfl, fun i x y h1 h2 => by rw [h1] at h2; cases h2; exact .refl _⟩)
      exact ih (k1.weak W) R1 fun b hb => (F1 b hb).trans (k3 b hb)
  obtain ⟨m1, r1, r2, r3⟩ := this k4 k1 k2 k3
  exact ⟨v1, m1, h1, r1, r2, r3, k5⟩

/-- A block that is written no more: its name, the size of its elements, how many, and what they hold. -/
structure FrzB where
  b : Nat
  s : Nat
  n : Nat
  es : List (List AV)
def frzL (x : FrzB) : AV → AV
  | .sl b' o n s => if b' = x.b ∧ o = 0 ∧ n = x.n ∧ s = x.s then .rs x.s x.es else .sl b' o n s
  | v => v
def frzA (x : FrzB) : AV → AV
  | .agg cs => .agg (cs.map (frzL x))
  | v => frzL x v
def frzT (x : FrzB) : AV → AV
  | .tup vs => .tup (vs.map (frzA x))
  | v => frzA x v
def frzAll : List FrzB → AV → AV
  | [], v => v
  | x :: B, v => frzAll B (frzT x v)
def neAll (b : Nat) : List FrzB → Prop
  | [] => True
  | x :: B => (x.b = b) = False ∧ neAll b B
inductive FrzOk (h : Heap) : List FrzB → Prop
  | nil : FrzOk h []
  | cons {x B k} (hb : h x.b = some k) (ho : k.st = .own) (he : Els x.s x.es x.n k.cells) (hn : neAll x.b B) (hB : FrzOk h B) : FrzOk h (x :: B)

theorem frzL_wk {x : FrzB} {cells} (he : Els x.s x.es x.n cells) (v : AV) : Wk (fun y => if y = x.b then some cells else none) (fun _ => False) v (frzL x v) := by
  cases v <;> simp only [frzL] <;> try exact .refl _
  split
  · rename_i h
    obtain ⟨rfl, rfl, rfl, rfl⟩ := h
    exact Wk.slF he
  · exact .refl _
theorem map_wk {fz : Nat → Option (List AV)} {f : AV → AV} (hf : ∀ v, Wk fz (fun _ => False) v (f v)) : ∀ cs : List AV, WkL fz cs (cs.map f)
  | [] => .nil
  | c :: cs => .cons (hf c) (map_wk hf cs)
theorem frzA_wk {x : FrzB} {cells} (he : Els x.s x.es x.n cells) (v : AV) : Wk (fun y => if y = x.b then some cells else none) (fun _ => False) v (frzA x v) := by
  cases v <;> simp only [frzA] <;> first | exact frzL_wk he _ | exact Wk.aggL (map_wk (frzL_wk he) _)
theorem frzT_wk {x : FrzB} {cells} (he : Els x.s x.es x.n cells) (v : AV) : Wk (fun y => if y = x.b then some cells else none) (fun _ => False) v (frzT x v) := by
  cases v <;> simp only [frzT] <;> first | exact frzA_wk he _ | exact Wk.tupL (map_wk (frzA_wk he) _)
theorem FrzOk.del {h : Heap} {b : Nat} : ∀ {B : List FrzB}, neAll b B → FrzOk h B → FrzOk (h.del b) B
  | [], _, _ => .nil
  | x :: B, hn, .cons hb ho he hn' hB => .cons (by simp only [Heap.del]; rw [if_neg (by intro h; simp [neAll, h] at hn)]; exact hb) ho he hn' (FrzOk.del hn.2 hB)
theorem FrzOk.frz : ∀ {B : List FrzB} {h : Heap} {v : AV}, FrzOk h B → ∃ h1, Frz v h (frzAll B v) h1
  | [], h, v, _ => ⟨h, .refl⟩
  | x :: B, h, v, .cons hb ho he hn hB => by
    obtain ⟨h1, hf⟩ := FrzOk.frz (v := frzT x v) (FrzOk.del hn hB)
    exact ⟨h1, .step hb ho (frzT_wk he v) hf⟩
/-- A function that answers what it has made, its blocks written no more. -/
theorem wpP_frz {P : Program} {f args} {v1 : AV} (hw : wpH P f args Heap.emp fun v h' => ∃ B, FrzOk h' B ∧ frzAll B v = v1) : wpP P f args v1 :=
  wpP_intro (wpH.frz (wpH.mono hw fun v h' ⟨B, h1, h2⟩ => by obtain ⟨hh, hf⟩ := h1.frz (v := v); exact ⟨_, hh, hf, h2⟩))
attribute [go_sem] frzL frzA frzT frzAll neAll

def Heap.le (h g : Heap) : Prop := ∀ b k, h b = some k → g b = some k
theorem Heap.le_refl {h : Heap} : h.le h := fun _ _ h => h
theorem Heap.le_put {h g : Heap} (hl : h.le g) {b k} : (h.put b k).le (g.put b k) := fun c kc hc => by
  simp only [Heap.put] at hc ⊢
  split
  · rename_i hcb; rw [if_pos hcb] at hc; exact hc
  · rename_i hcb; rw [if_neg hcb] at hc; exact hl c kc hc
theorem Heap.le_skip {h g : Heap} (hl : h.le g) {b k} (hb : NewIn h b) : h.le (g.put b k) := fun c kc hc => by
  simp only [Heap.put]
  rw [if_neg (by rintro rfl; rw [show h c = none from hb] at hc; cases hc)]; exact hl c kc hc
theorem wpH.le {P : Program} {f args h} {K : AV → Heap → Prop} (hw : wpH P f args h fun v h1 => ∃ h2, Heap.le h2 h1 ∧ K v h2) : wpH P f args h K := wpH.sub hw
theorem cat_put {h g : Heap} {b k} : h.cat (g.put b k) = (h.cat g).put b k := by
  funext x; simp only [Heap.cat, Heap.put]; split <;> rename_i h1
  · split at h1
    · simp at h1; simp_all
    · simp_all
  · split at h1
    · simp at h1
    · simp_all
theorem NewIn.cat {h g : Heap} (hh : ∀ b, h b ≠ none → g b = none) {b k} (hb : g b = some k) : NewIn h b := by
  unfold NewIn
  cases hx : h b with
  | none => rfl
  | some kx => have := hh b (by rw [hx]; simp); rw [hb] at this; cases this
theorem Els.map {α : Type} {f : α → List AV} {s : Nat} (hf : ∀ a, (f a).length = s) (l : List α) : Els s (l.map f) l.length ((l.map f).flatten) := ⟨rfl, by simp, fun e he => by obtain ⟨a, _, rfl⟩ := List.mem_map.1 he; exact hf a⟩
theorem Els.of {α : Type} {f : α → List AV} {s n : Nat} {cells : List AV} (hf : ∀ a, (f a).length = s) (l : List α) (hc : cells = (l.map f).flatten) (hn : l.length = n) : Els s (l.map f) n cells := by
  subst hc; subst hn; exact Els.map hf l
attribute [go_sem] cat_put

theorem run_mono {P : Program} {fl : Bool} : ∀ (x : Out) (h : Heap) (K1 K2 : AV → Heap → Prop), (∀ v h, K1 v h → K2 v h) → x.run P fl h K1 → x.run P fl h K2 := by
  intro x
  induction x with
  | bad => exact fun _ _ _ _ h => h
  | cond c x ih => exact fun h K1 K2 hK hr => ⟨hr.1, ih h K1 K2 hK hr.2⟩
  | val v => exact fun h K1 K2 hK hr => hK _ _ hr
  | alloc f =>
    intro h K1 K2 hK hr b hb
    have := hr b hb
    cases hf : f b with
    | none => rw [hf] at this; exact this
    | some vk => rw [hf] at this; exact hK _ _ this
  | store b k o cs => exact fun h K1 K2 hK hr => ⟨hr.1, hr.2.1, hK _ _ hr.2.2⟩
  | same t b n =>
    rintro h K1 K2 hK ⟨h0, ti, et, ei, kk, es, h1, h2, h3, h4, h5, h6, h7, h8, h9, h10, h11, h12⟩
    exact ⟨h0, ti, et, ei, kk, es, h1, h2, h3, h4, h5, h6, h7, h8, h9, h10, h11, hK _ _ h12⟩
  | app t s x =>
    intro h K1 K2 hK hr
    cases hr with
    | zero h1 h2 h3 => exact .zero h1 h2 (hK _ _ h3)
    | nil0 h1 h2 h3 => exact .nil0 h1 h2 fun b hb => hK _ _ (h3 b hb)
    | nil h1 h2 h3 h4 h5 h6 h7 => exact .nil h1 h2 h3 h4 h5 h6 fun b hb => hK _ _ (h7 b hb)
    | own h1 h2 h3 h4 h5 h6 h7 h8 h9 h10 h11 h12 => exact .own h1 h2 h3 h4 h5 h6 h7 h8 h9 h10 h11 fun b hb => hK _ _ (h12 b hb)
    | keep h1 h2 h3 h4 h5 h6 h7 h8 h9 h10 h11 => exact .keep h1 h2 h3 h4 h5 h6 h7 h8 h9 h10 fun b hb => hK _ _ (h11 b hb)
  | call g args =>
    intro h K1 K2 hK hr
    rcases hr with ⟨h1, h2⟩ | h2 | h2 | ⟨v, h1, h2⟩
    · exact .inl ⟨h1, h2.mono hK⟩
    · exact .inr (.inl fun m Pr R => let ⟨v, m', h', k1, k2, k3, k4, k5⟩ := h2 m Pr R; ⟨v, m', h', k1, k2, k3, k4, hK _ _ k5⟩)
    · exact .inr (.inr (.inl (h2.mono fun v h' hv hh => hK _ _ (hv hh))))
    · exact .inr (.inr (.inr ⟨v, h1, hK _ _ h2⟩))

theorem gO_mono {P : Program} {all : Array Oper} : ∀ {its : List (Oper × Bool)} {e : Env} {h : Heap} {k1 k2 : Env → Heap → Prop}, (∀ e h, k1 e h → k2 e h) → gO P all its e h k1 → gO P all its e h k2
  | [], _, _, _, _, hk, h => hk _ _ h
  | (o, fl) :: its, e, h, k1, k2, hk, hg => run_mono (K1 := fun v h' => gO P all its (putd e o.dst v) h' k1) _ _ _ (fun v h => gO_mono hk) hg

/-- A region that comes to one value, whichever way it goes. -/
theorem wpL_regV {P : Program} {cs : List Code} {e : Env} {h : Heap} {K : Ex → Env → Heap → Prop} {id ops L1} (ds : List Nat) (t : Nat) (v : AV) (hL : pickL (t :: ds) (put e t v) = L1) (hd : t ∉ ds)
    (hk : gO P ops (itemsOf ops.toList) e h fun e' h' => h' = h ∧ e' t = v ∧ pickL ds e' = pickL ds e) (hw : wpL P cs (lk L1) h K) : wpL P (.region id ops false :: cs) e h K := by
  refine wpL_region (t :: ds) fun k hq => gO_mono (fun e' h' ⟨h1, h2, h3⟩ => hq e' h' ?_) hk
  have h4 : pickL ds e = pickL ds (put e t v) := pickL_lk _ _ _ fun d hd' => by simp only [put]; rw [if_neg (by rintro rfl; exact hd hd')]
  have h5 : pickL (t :: ds) e' = pickL (t :: ds) (put e t v) := by simp only [pickL]; rw [h2, h3, h4]; simp [put]
  rw [h1, h5, hL]; exact hw
theorem wpL_drawV {P : Program} {cs : List Code} {e : Env} {h : Heap} {K : Ex → Env → Heap → Prop} {id ops L1} (ds : List Nat) (t : Nat) (v : AV) (π R : List Nat) (bs : List Bool) (hok : drawOk P ops π = true) (hin : inB ops.size π = true)
    (hfl : flagsOk P ops.toList (flOf P ops (tabOf ops [] π) R π) π bs = true) (hL : pickL (t :: ds) (put e t v) = L1) (hd : t ∉ ds)
    (hk : gO P ops (itemsAt ops.toList π bs) e h fun e' h' => h' = h ∧ e' t = v ∧ pickL ds e' = pickL ds e) (hw : wpL P cs (lk L1) h K) : wpL P (.region id ops true :: cs) e h K := by
  refine wpL_draw (t :: ds) π R bs hok hin hfl fun k hq => gO_mono (fun e' h' ⟨h1, h2, h3⟩ => hq e' h' ?_) hk
  have h4 : pickL ds e = pickL ds (put e t v) := pickL_lk _ _ _ fun d hd' => by simp only [put]; rw [if_neg (by rintro rfl; exact hd hd')]
  have h5 : pickL (t :: ds) e' = pickL (t :: ds) (put e t v) := by simp only [pickL]; rw [h2, h3, h4]; simp [put]
  rw [h1, h5, hL]; exact hw
theorem wpL_pick' {P : Program} {cs : List Code} {e : Env} {h : Heap} {K : Ex → Env → Heap → Prop} (ds : List Nat) {L1} (hL : pickL ds e = L1) (hk : wpL P cs (lk L1) h K) : wpL P cs e h K := wpL_pick ds (by rw [hL]; exact hk)
attribute [go_sem] pickL put wrap64 wrap32 wrapU64 wrapU8 wrapU32 wrapU16 AV.bool.injEq AV.int.injEq repl_one set_take_cons set_of_take AV.str.injEq maxInt Int.cast_ofNat_Int Int.le_refl


end Go.Proofs.YtchhknkflhikmaaDoor.Am

/- AM: what came in, with what it takes up: by its type. -/
namespace Go.Proofs.YtchhknkflhikmaaDoor.Am
set_option linter.unusedSectionVars false
open Go
set_option linter.unusedVariables false
set_option linter.unusedSimpArgs false
variable [Tab]

section
variable {H : Type} {P : Program} {t : TypeId}

def Wt (P : Program) (t : TypeId) (d : DataW H) : Prop := ∀ n ∈ d.weights P t, n ≤ reachBytes
/-- The cells cs, of type t, read as d, which takes up no more than can be reached. -/
structure RdW (P : Program) (t : TypeId) (cs : List AV) (d : DataW H) : Prop where
  rd : Rd P t cs d
  wt : Wt P t d

theorem weightsEach_get : ∀ {ts : List TypeId} {ds : List (DataW H)} {j : Nat} {t : TypeId} {d : DataW H}, ts[j]? = some t → ds[j]? = some d → ∀ n ∈ d.weights P t, n ∈ DataW.weightsEach P ts ds :=
  fun h1 h2 n hn => DataW.weights_mem_each h1 h2 n hn
theorem weightsAll_mem : ∀ {ds : List (DataW H)} {d : DataW H}, d ∈ ds → ∀ n ∈ d.weights P t, n ∈ DataW.weightsAll P t ds
  | x :: ds, d, h, n, hn => by
    simp only [DataW.weightsAll, List.mem_append]
    rcases List.mem_cons.1 h with rfl | h
    · exact .inl hn
    · exact .inr (weightsAll_mem h n hn)

theorem RdW.int {k c} {d : DataW H} (ht : P.underlying t = some (.int k)) (h : RdW P t [c] d) : ∃ n, c = .int k n ∧ (Lit.int k n).wf = true :=
  let ⟨n, h1, _, h2⟩ := h.rd.int1 ht; ⟨n, h1, h2⟩
theorem RdW.bool {c} {d : DataW H} (ht : P.underlying t = some .bool) (h : RdW P t [c] d) : ∃ b, c = .bool b :=
  let ⟨n, h1, _⟩ := h.rd.bool1 ht; ⟨n, h1⟩
theorem RdW.str {c} {d : DataW H} (ht : P.underlying t = some .string) (h : RdW P t [c] d) : ∃ s, c = .str s ∧ s.length ≤ reachBytes := by
  obtain ⟨s, rfl, rfl, _⟩ := h.rd.str1 ht
  exact ⟨s, rfl, h.wt _ (by simp [DataW.weights])⟩
theorem RdW.slice {e c z} {d : DataW H} (ht : P.underlying t = some (.slice e)) (hz : P.cellsOf e = z) (hp : 0 < z) (h : RdW P t [c] d) :
    ∃ es, c = .rs z es ∧ es.length * P.bytesOf e ≤ reachBytes ∧ ∀ c ∈ es, c.length = z ∧ ∃ x : DataW H, RdW P e c x := by
  subst hz
  cases h.rd with
  | snil h1 => rw [ht] at h1; cases h1; exact ⟨[], rfl, by simp, fun c hc => by cases hc⟩
  | sl h1 h2 h3 h4 =>
    rename_i e' ds sp es
    rw [ht] at h1; cases h1
    have w := h.wt
    simp only [Wt, DataW.weights, ht] at w
    refine ⟨es, rfl, ?_, fun c hc => ⟨h3 c hc, ?_⟩⟩
    · have := w _ List.mem_cons_self
      have h5 : es.length * P.bytesOf e ≤ (ds.length + sp.length) * P.bytesOf e := Nat.mul_le_mul_right _ (by omega)
      omega
    · obtain ⟨i, hi, rfl⟩ := List.getElem_of_mem hc
      have hi' : i < ds.length := by omega
      refine ⟨ds[i], h4 i _ _ (List.getElem?_eq_getElem hi) (List.getElem?_eq_getElem hi'), fun n hn => w n ?_⟩
      refine List.mem_cons_of_mem _ (List.mem_append_left _ (weightsAll_mem (List.getElem_mem hi') n hn))
  | other h1 => simp [known, ht] at h1; omega
  | bool h1 => rw [ht] at h1; cases h1
  | int h1 => rw [ht] at h1; cases h1
  | str h1 => rw [ht] at h1; cases h1
  | nilptr h1 => rw [ht] at h1; cases h1
  | ptr h1 => rw [ht] at h1; cases h1
  | struct h1 => rw [ht] at h1; cases h1
  | arr h1 => rw [ht] at h1; cases h1

/-- Cells, one a type. -/
def RdC (P : Program) : List TypeId → List AV → List (DataW H) → Prop
  | [], [], _ => True
  | t :: ts, c :: cs, d :: ds => RdW P t [c] d ∧ RdC P ts cs ds
  | _, _, _ => False
/-- A struct whose fields are one cell each. -/
def flatB (P : Program) (t : TypeId) : Nat → List TypeId → List Field → Bool
  | i, [], [] => decide (P.cellsOf t = i)
  | i, ty :: ts, f :: fs => decide (f.offset = i) && decide (f.type = ty) && decide (P.cellsOf ty = 1) && flatB P t (i + 1) ts fs
  | _, _, _ => false
theorem RdC.of : ∀ (ts : List TypeId) (fs : List Field) (i : Nat) (cs : List AV) (ds : List (DataW H)), flatB P t i ts fs = true → cs.length = P.cellsOf t → ds.length = fs.length →
    (∀ (j : Nat) f x, fs[j]? = some f → ds[j]? = some x → RdW P f.type ((cs.drop f.offset).take (P.cellsOf f.type)) x) → RdC P ts (cs.drop i) ds
  | [], [], i, cs, ds, h, hl, hd, hf => by
    simp [flatB] at h
    rw [List.drop_eq_nil_of_le (by omega)]
    simp at hd
    simp [hd, RdC]
  | ty :: ts, f :: fs, i, cs, [], h, hl, hd, hf => by simp at hd
  | ty :: ts, f :: fs, i, cs, d :: ds, h, hl, hd, hf => by
    simp only [flatB, Bool.and_eq_true, decide_eq_true_eq] at h
    obtain ⟨⟨⟨h1, h2⟩, h3⟩, h4⟩ := h
    have hi : i < cs.length := by
      have : ∀ (ts : List TypeId) (fs : List Field) (j : Nat), flatB P t j ts fs = true → j ≤ P.cellsOf t := by
        intro ts
        induction ts with
        | nil => intro fs j h; cases fs <;> simp [flatB] at h; omega
        | cons a ts ih =>
          intro fs j h
          cases fs with
          | nil => simp [flatB] at h
          | cons g fs =>
            simp only [flatB, Bool.and_eq_true] at h
            have := ih fs (j + 1) h.2; omega
      have := this ts fs (i + 1) h4; omega
    have h0 := hf 0 f d rfl rfl
    have h9 : (cs.drop i).take 1 = [cs[i]] := by rw [List.drop_eq_getElem_cons hi]; rfl
    rw [h1, h2, h3, h9] at h0
    rw [List.drop_eq_getElem_cons hi]
    refine ⟨h0, ?_⟩
    exact RdC.of ts fs (i + 1) cs ds h4 hl (by simpa using hd) fun j f x h5 h6 => hf (j + 1) f x (by simpa using h5) (by simpa using h6)
  | [], f :: fs, i, cs, ds, h, _, _, _ => by simp [flatB] at h
  | ty :: ts, [], i, cs, ds, h, _, _, _ => by simp [flatB] at h
theorem RdW.flat {fs : Array Field} {cs} {d : DataW H} (ts : List TypeId) (ht : P.underlying t = some (.struct fs)) (hk : known P t = true) (hb : flatB P t 0 ts fs.toList = true) (h : RdW P t cs d) : ∃ ds : List (DataW H), RdC P ts cs ds := by
  obtain ⟨hl, ds, rfl, hd, hf⟩ := h.rd.struct1 ht hk
  have w := h.wt
  simp only [Wt, DataW.weights, ht] at w
  refine ⟨ds, ?_⟩
  have := RdC.of (P := P) (t := t) ts fs.toList 0 cs ds hb hl (by simpa using hd) fun j f x h1 h2 => ⟨hf j f x (by simpa using h1) h2, fun n hn => w n ?_⟩
  · simpa using this
  · exact weightsEach_get (j := j) (t := f.type) (by simpa using congrArg (Option.map (·.type)) h1) h2 n hn

/-- Arguments. -/
theorem RdL.consW {ts : List TypeId} {vs} {ds : List (DataW H)} (h : RdL P (t :: ts) vs ds) (hs : ∀ n ∈ DataW.weightsEach P (t :: ts) ds, n ≤ reachBytes) :
    ∃ v vs' d ds', vs = v :: vs' ∧ ds = d :: ds' ∧ (aggT P t = false → RdW P t [v] d) ∧ (aggT P t = true → ∃ cs, v = .agg cs ∧ RdW P t cs d) ∧ RdL P ts vs' ds' ∧ ∀ n ∈ DataW.weightsEach P ts ds', n ≤ reachBytes := by
  obtain ⟨v, vs', d, ds', rfl, rfl, h1, h2⟩ := h.cons
  simp only [DataW.weightsEach, List.mem_append] at hs
  refine ⟨v, vs', d, ds', rfl, rfl, fun ha => ⟨h1.flat ha, fun n hn => hs n (.inl hn)⟩, fun ha => ?_, h2, fun n hn => hs n (.inr hn)⟩
  obtain ⟨cs, rfl, hr⟩ := h1.agg ha
  exact ⟨cs, rfl, hr, fun n hn => hs n (.inl hn)⟩
end

theorem wf_i64 {n : Int} (h : (Lit.int .i64 n).wf = true) : -9223372036854775808 ≤ n ∧ n ≤ 9223372036854775807 := by
  simp [Lit.wf, IntKind.min, IntKind.max, IntKind.signed, IntKind.bits] at h; omega
theorem wf_i32 {n : Int} (h : (Lit.int .i32 n).wf = true) : -2147483648 ≤ n ∧ n ≤ 2147483647 := by
  simp [Lit.wf, IntKind.min, IntKind.max, IntKind.signed, IntKind.bits] at h; omega
theorem wf_u8 {n : Int} (h : (Lit.int .u8 n).wf = true) : ∃ x : UInt8, n = x.toNat := by
  simp [Lit.wf, IntKind.min, IntKind.max, IntKind.signed, IntKind.bits] at h
  exact ⟨UInt8.ofNat n.toNat, by simp [UInt8.toNat_ofNat']; omega⟩
theorem wf_u16 {n : Int} (h : (Lit.int .u16 n).wf = true) : ∃ x : BitVec 16, n = (x.toNat : Int) := by
  simp [Lit.wf, IntKind.min, IntKind.max, IntKind.signed, IntKind.bits] at h
  exact ⟨BitVec.ofInt 16 n, by simp [BitVec.toNat_ofInt]; omega⟩
theorem wf_u32 {n : Int} (h : (Lit.int .u32 n).wf = true) : ∃ x : BitVec 32, n = (x.toNat : Int) := by
  simp [Lit.wf, IntKind.min, IntKind.max, IntKind.signed, IntKind.bits] at h
  exact ⟨BitVec.ofInt 32 n, by simp [BitVec.toNat_ofInt]; omega⟩

end Go.Proofs.YtchhknkflhikmaaDoor.Am
