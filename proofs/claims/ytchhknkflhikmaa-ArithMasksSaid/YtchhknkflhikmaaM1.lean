/- The masks of words: what Mask and Members answer. -/
import Derived.Test.YtchhknkflhikmaaAm16
import Derived.Test.YtchhknkflhikmaaProg
import Derived.KernelRfl
namespace Go.Proofs.Ytchhknkflhikmaa.Am
open Go Go.Proofs
set_option linter.unusedVariables false
set_option linter.unusedSimpArgs false
set_option maxRecDepth 100000
theorem ti3 : tiOf Try.prog 3 = some ⟨.int .i64, 1, 8, [.int .i64 0]⟩ := by kernel_rfl
theorem ti4 : tiOf Try.prog 4 = some ⟨.bool, 1, 1, [.bool false]⟩ := by kernel_rfl
theorem ti22 : tiOf Try.prog 22 = some ⟨.int .u64, 1, 8, [.int .u64 0]⟩ := by kernel_rfl
theorem ti23 : tiOf Try.prog 23 = some ⟨.slice 3, 1, 24, [.snil]⟩ := by kernel_rfl
theorem ti24 : tiOf Try.prog 24 = some ⟨.int .i64, 1, 8, [.int .i64 0]⟩ := by kernel_rfl
theorem ti45 : tiOf Try.prog 45 = some ⟨.arr 64 4, 64, 64, List.replicate 64 (.bool false)⟩ := by kernel_rfl

/-! ### What they answer -/

def badAt (xs : Nat → Int) (i : Nat) : Prop := xs i < 0 ∨ xs i > 63 ∨ ∃ j, j < i ∧ xs j = xs i

def maskTo (xs : Nat → Int) : Nat → BitVec 64
  | 0 => 0
  | i + 1 => maskTo xs i ||| (1#64 <<< (xs i).toNat)

open Classical in
noncomputable def maskV (xs : Nat → Int) (n : Nat) : AV :=
  if ∃ i, i < n ∧ badAt xs i then .tup [.int .u64 0, .int .i64 12] else .tup [.int .u64 (maskTo xs n).toNat, .int .i64 0]

theorem maskTo_bit (xs : Nat → Int) (k : Nat) (hk : k < 64) : ∀ n, (∀ i, i < n → ¬ badAt xs i) → ((maskTo xs n).getLsbD k = true ↔ ∃ j, j < n ∧ xs j = k)
  | 0, _ => by simp [maskTo]
  | n + 1, h => by
    have ih := maskTo_bit xs k hk n fun i hi => h i (by omega)
    have hn := h n (by omega)
    simp only [badAt, not_or] at hn
    simp only [maskTo, BitVec.getLsbD_or, Bool.or_eq_true, ih, BitVec.getLsbD_shiftLeft, BitVec.getLsbD_one]
    constructor
    · rintro (⟨j, h1, h2⟩ | h1)
      · exact ⟨j, by omega, h2⟩
      · simp at h1
        exact ⟨n, by omega, by omega⟩
    · rintro ⟨j, h1, h2⟩
      by_cases hj : j = n
      · subst hj; right; simp; omega
      · exact .inl ⟨j, by omega, h2⟩

/-- A bit read out. -/
theorem bitAt (x : BitVec 64) (k : Nat) : (((x >>> k) &&& 1#64).toNat : Int) = 1 ↔ x.getLsbD k = true := by
  have : ((x >>> k) &&& 1#64) = 1#64 ↔ x.getLsbD k = true := by
    constructor
    · intro h
      have := congrArg (fun b => b.getLsbD 0) h
      simpa using this
    · intro h
      ext i hi
      by_cases h0 : i = 0
      · subst h0; simp [BitVec.getElem_eq_testBit_toNat] at *; simpa [BitVec.getLsbD] using h
      · simp [h0]
  rw [← this]
  constructor
  · intro h; refine BitVec.eq_of_toNat_eq ?_; have : ((x >>> k) &&& 1#64).toNat = 1 := by exact_mod_cast h
    rw [this]; rfl
  · intro h; rw [h]; rfl

theorem and64_1 (x : BitVec 64) : bitsA .and .u64 (x.toNat : Int) 1 = ((x &&& 1#64).toNat : Int) := and64 x 1#64
theorem shl64_1 (k : Nat) (hk : k ≤ 64) : shlA .u64 1 (k : Int) = ((1#64 <<< k).toNat : Int) := shl64 1#64 k hk

theorem maskTo0 (xs : Nat → Int) : (0 : Int) = ((maskTo xs 0).toNat : Int) := by simp [maskTo]

theorem f6_mask {m a n xs K} (ha : Sl m a n fun i => .int .i64 (xs i)) (hn : n ≤ 9223372036854775807) (hK : K (maskV xs n) m) : wpF Try.prog 6 [a] m K := by
  have hla := ha.len ti23 rfl
  refine wpF_intro (fn := Try.f6) rfl rfl (by decide) (by kernel_rfl) fun K' hK' => ?_
  repeat' (first | refine wpL_seq ?_ | refine wpL_skip ?_ | refine wpL_label ?_)
  refine wpL_region [0] fun q hq => ?_
  simp -implicitDefEqProofs (disch := omega) only [gO_nil, gO_cons, gN_cond, gN_val, gN_bad, outV_some, outV_none, outV_guard, outA_guard, outP_guard, outA, outP, gN_store, putd_lk, putd_lk0, lk_cons, lk_nil, ev_tmp, ev, gdO_tt, gdO_ff, gdO_tf, gdO_ft, gdO_u,
  itemsOf, itemsAt, operO, stepO, convO, callO, callB, storeO, pureA, loadA, allocA, serA, selA, binA, binInt, unA, convA, partA, TD.isAgg, TD.isBool, TD.isPtr, TD.isFunc, fieldOf, indexA, indexAddrA_sl, indexAddrA_ptr, lenA_sl, lenA_snil, lenA_str, buildA, placesA, fillA, repl, eqA, eqV, eqV.eqFs,
  ofConst, ofLeaf, ofLeafs, AV.cells, AV.leaf, List.all_cons, List.all_nil, Bool.true_and, Bool.and_true, Bool.false_and, Bool.and_false, Bool.true_or, Bool.false_or, Bool.or_false, Bool.or_true, Bool.not_true, Bool.not_false, Bool.not_not,
  Option.bind_some, Option.bind_none, Option.map_some, Option.map_none, Option.getD_some, Option.getD_none, Option.bind_eq_bind, List.getElem?_cons_zero, List.getElem?_cons_succ, List.getElem?_nil, List.getElem?_toArray, List.map_cons, List.map_nil, List.append_nil, List.nil_append, List.cons_append, List.singleton_append,
  List.take_zero, List.drop_zero, List.take_succ_cons, List.drop_succ_cons, List.take_nil, List.drop_nil, List.length_cons, List.length_nil, List.length_append, List.tail_cons, List.headD_cons, List.headD_nil, List.tail_nil,
  Nat.reduceEqDiff, Nat.reduceAdd, Nat.reduceMul, Nat.reduceLeDiff, ↓reduceIte, if_true, if_false, reduceCtorEq, true_and, and_true, false_and, and_false, decide_true, decide_false, Int.natCast_nonneg, Int.toNat_natCast, Nat.mul_one, Nat.one_mul, Nat.zero_add, Nat.add_zero, ne_eq, not_true_eq_false, not_false_eq_true, Nat.zero_le, Nat.le_refl, Int.toNat_zero, Nat.zero_mul, Nat.mul_zero, and_self, Nat.succ_ne_self,
  wrap64, wrap32, wrapU64, wrapU8, wrapU32, argL]
  refine hq _ _ ?_
  simp only [pickL, lk_cons, Nat.reduceEqDiff, ↓reduceIte, reduceCtorEq, if_true, if_false]
  clear hq q
  repeat' (first | refine wpL_seq ?_ | refine wpL_skip ?_ | refine wpL_label ?_)
  refine wpL_region [0, 4] fun q hq => ?_
  simp -implicitDefEqProofs (disch := omega) only [gO_nil, gO_cons, gN_cond, gN_val, gN_bad, outV_some, outV_none, outV_guard, outA_guard, outP_guard, outA, outP, gN_store, putd_lk, putd_lk0, lk_cons, lk_nil, ev_tmp, ev, gdO_tt, gdO_ff, gdO_tf, gdO_ft, gdO_u,
  itemsOf, itemsAt, operO, stepO, convO, callO, callB, storeO, pureA, loadA, allocA, serA, selA, binA, binInt, unA, convA, partA, TD.isAgg, TD.isBool, TD.isPtr, TD.isFunc, fieldOf, indexA, indexAddrA_sl, indexAddrA_ptr, lenA_sl, lenA_snil, lenA_str, buildA, placesA, fillA, repl, eqA, eqV, eqV.eqFs,
  ofConst, ofLeaf, ofLeafs, AV.cells, AV.leaf, List.all_cons, List.all_nil, Bool.true_and, Bool.and_true, Bool.false_and, Bool.and_false, Bool.true_or, Bool.false_or, Bool.or_false, Bool.or_true, Bool.not_true, Bool.not_false, Bool.not_not,
  Option.bind_some, Option.bind_none, Option.map_some, Option.map_none, Option.getD_some, Option.getD_none, Option.bind_eq_bind, List.getElem?_cons_zero, List.getElem?_cons_succ, List.getElem?_nil, List.getElem?_toArray, List.map_cons, List.map_nil, List.append_nil, List.nil_append, List.cons_append, List.singleton_append,
  List.take_zero, List.drop_zero, List.take_succ_cons, List.drop_succ_cons, List.take_nil, List.drop_nil, List.length_cons, List.length_nil, List.length_append, List.tail_cons, List.headD_cons, List.headD_nil, List.tail_nil,
  Nat.reduceEqDiff, Nat.reduceAdd, Nat.reduceMul, Nat.reduceLeDiff, ↓reduceIte, if_true, if_false, reduceCtorEq, true_and, and_true, false_and, and_false, decide_true, decide_false, Int.natCast_nonneg, Int.toNat_natCast, Nat.mul_one, Nat.one_mul, Nat.zero_add, Nat.add_zero, ne_eq, not_true_eq_false, not_false_eq_true, Nat.zero_le, Nat.le_refl, Int.toNat_zero, Nat.zero_mul, Nat.mul_zero, and_self, Nat.succ_ne_self,
  wrap64, wrap32, wrapU64, wrapU8, wrapU32]
  refine hq _ _ ?_
  simp only [pickL, lk_cons, Nat.reduceEqDiff, ↓reduceIte, reduceCtorEq, if_true, if_false]
  clear hq q
  repeat' (first | refine wpL_seq ?_ | refine wpL_skip ?_ | refine wpL_label ?_)
  refine wpL_region [4, 7, 8, 9] fun q hq => ?_
  simp -implicitDefEqProofs (disch := omega) only [gO_nil, gO_cons, gN_cond, gN_val, gN_bad, outV_some, outV_none, outV_guard, outA_guard, outP_guard, outA, outP, gN_store, putd_lk, putd_lk0, lk_cons, lk_nil, ev_tmp, ev, gdO_tt, gdO_ff, gdO_tf, gdO_ft, gdO_u,
  itemsOf, itemsAt, operO, stepO, convO, callO, callB, storeO, pureA, loadA, allocA, serA, selA, binA, binInt, unA, convA, partA, TD.isAgg, TD.isBool, TD.isPtr, TD.isFunc, fieldOf, indexA, indexAddrA_sl, indexAddrA_ptr, lenA_sl, lenA_snil, lenA_str, buildA, placesA, fillA, repl, eqA, eqV, eqV.eqFs,
  ofConst, ofLeaf, ofLeafs, AV.cells, AV.leaf, List.all_cons, List.all_nil, Bool.true_and, Bool.and_true, Bool.false_and, Bool.and_false, Bool.true_or, Bool.false_or, Bool.or_false, Bool.or_true, Bool.not_true, Bool.not_false, Bool.not_not,
  Option.bind_some, Option.bind_none, Option.map_some, Option.map_none, Option.getD_some, Option.getD_none, Option.bind_eq_bind, List.getElem?_cons_zero, List.getElem?_cons_succ, List.getElem?_nil, List.getElem?_toArray, List.map_cons, List.map_nil, List.append_nil, List.nil_append, List.cons_append, List.singleton_append,
  List.take_zero, List.drop_zero, List.take_succ_cons, List.drop_succ_cons, List.take_nil, List.drop_nil, List.length_cons, List.length_nil, List.length_append, List.tail_cons, List.headD_cons, List.headD_nil, List.tail_nil,
  Nat.reduceEqDiff, Nat.reduceAdd, Nat.reduceMul, Nat.reduceLeDiff, ↓reduceIte, if_true, if_false, reduceCtorEq, true_and, and_true, false_and, and_false, decide_true, decide_false, Int.natCast_nonneg, Int.toNat_natCast, Nat.mul_one, Nat.one_mul, Nat.zero_add, Nat.add_zero, ne_eq, not_true_eq_false, not_false_eq_true, Nat.zero_le, Nat.le_refl, Int.toNat_zero, Nat.zero_mul, Nat.mul_zero, and_self, Nat.succ_ne_self,
  wrap64, wrap32, wrapU64, wrapU8, wrapU32, hla]
  refine hq _ _ ?_
  simp only [pickL, lk_cons, Nat.reduceEqDiff, ↓reduceIte, reduceCtorEq, if_true, if_false]
  clear hq q
  repeat' (first | refine wpL_seq ?_ | refine wpL_skip ?_ | refine wpL_label ?_)
  refine wpL_block fun k1 hn1 hx1 ho1 => ?_
  refine wpL_loop (fun j e m' => ∃ i : Nat, i ≤ n ∧ j = n - i ∧ m' = m ∧ e = lk [(4, .int .u64 (maskTo xs i).toNat), (7, a), (8, .int .i64 n), (9, .int .i64 i)] ∧ ∀ i' < i, ¬ badAt xs i') n ⟨0, by omega, by omega, rfl, by rw [← maskTo0]; rfl, by omega⟩ ?_
  rintro j e m' ⟨i, hi, rfl, rfl, rfl, hpre⟩ k2 hn2 hx2
  repeat' (first | refine wpL_seq ?_ | refine wpL_skip ?_ | refine wpL_label ?_)
  refine wpL_region [4, 7, 8, 9, 10] fun q hq => ?_
  simp -implicitDefEqProofs (disch := omega) only [gO_nil, gO_cons, gN_cond, gN_val, gN_bad, outV_some, outV_none, outV_guard, outA_guard, outP_guard, outA, outP, gN_store, putd_lk, putd_lk0, lk_cons, lk_nil, ev_tmp, ev, gdO_tt, gdO_ff, gdO_tf, gdO_ft, gdO_u,
  itemsOf, itemsAt, operO, stepO, convO, callO, callB, storeO, pureA, loadA, allocA, serA, selA, binA, binInt, unA, convA, partA, TD.isAgg, TD.isBool, TD.isPtr, TD.isFunc, fieldOf, indexA, indexAddrA_sl, indexAddrA_ptr, lenA_sl, lenA_snil, lenA_str, buildA, placesA, fillA, repl, eqA, eqV, eqV.eqFs,
  ofConst, ofLeaf, ofLeafs, AV.cells, AV.leaf, List.all_cons, List.all_nil, Bool.true_and, Bool.and_true, Bool.false_and, Bool.and_false, Bool.true_or, Bool.false_or, Bool.or_false, Bool.or_true, Bool.not_true, Bool.not_false, Bool.not_not,
  Option.bind_some, Option.bind_none, Option.map_some, Option.map_none, Option.getD_some, Option.getD_none, Option.bind_eq_bind, List.getElem?_cons_zero, List.getElem?_cons_succ, List.getElem?_nil, List.getElem?_toArray, List.map_cons, List.map_nil, List.append_nil, List.nil_append, List.cons_append, List.singleton_append,
  List.take_zero, List.drop_zero, List.take_succ_cons, List.drop_succ_cons, List.take_nil, List.drop_nil, List.length_cons, List.length_nil, List.length_append, List.tail_cons, List.headD_cons, List.headD_nil, List.tail_nil,
  Nat.reduceEqDiff, Nat.reduceAdd, Nat.reduceMul, Nat.reduceLeDiff, ↓reduceIte, if_true, if_false, reduceCtorEq, true_and, and_true, false_and, and_false, decide_true, decide_false, Int.natCast_nonneg, Int.toNat_natCast, Nat.mul_one, Nat.one_mul, Nat.zero_add, Nat.add_zero, ne_eq, not_true_eq_false, not_false_eq_true, Nat.zero_le, Nat.le_refl, Int.toNat_zero, Nat.zero_mul, Nat.mul_zero, and_self, Nat.succ_ne_self,
  wrap64, wrap32, wrapU64, wrapU8, wrapU32]
  refine hq _ _ ?_
  simp only [pickL, lk_cons, Nat.reduceEqDiff, ↓reduceIte, reduceCtorEq, if_true, if_false]
  clear hq q
  repeat' (first | refine wpL_seq ?_ | refine wpL_skip ?_ | refine wpL_label ?_)
  refine wpL_cond rfl (fun hc => ?_) (fun hc => ?_)
  · have hlt : i < n := by simpa using hc
    obtain ⟨b1, o1, kk1, a1, a2, a3, a4⟩ := ha.at (k0 := .i64) ti23 rfl ti3 rfl hlt
    repeat' (first | refine wpL_seq ?_ | refine wpL_skip ?_ | refine wpL_label ?_)
    refine wpL_block fun k3 hn3 hx3 ho3 => ?_
    repeat' (first | refine wpL_seq ?_ | refine wpL_skip ?_ | refine wpL_label ?_)
    refine wpL_region [4, 6, 7, 8, 9] fun q hq => ?_
    simp -implicitDefEqProofs (disch := omega) only [gO_nil, gO_cons, gN_cond, gN_val, gN_bad, outV_some, outV_none, outV_guard, outA_guard, outP_guard, outA, outP, gN_store, putd_lk, putd_lk0, lk_cons, lk_nil, ev_tmp, ev, gdO_tt, gdO_ff, gdO_tf, gdO_ft, gdO_u,
  itemsOf, itemsAt, operO, stepO, convO, callO, callB, storeO, pureA, loadA, allocA, serA, selA, binA, binInt, unA, convA, partA, TD.isAgg, TD.isBool, TD.isPtr, TD.isFunc, fieldOf, indexA, indexAddrA_sl, indexAddrA_ptr, lenA_sl, lenA_snil, lenA_str, buildA, placesA, fillA, repl, eqA, eqV, eqV.eqFs,
  ofConst, ofLeaf, ofLeafs, AV.cells, AV.leaf, List.all_cons, List.all_nil, Bool.true_and, Bool.and_true, Bool.false_and, Bool.and_false, Bool.true_or, Bool.false_or, Bool.or_false, Bool.or_true, Bool.not_true, Bool.not_false, Bool.not_not,
  Option.bind_some, Option.bind_none, Option.map_some, Option.map_none, Option.getD_some, Option.getD_none, Option.bind_eq_bind, List.getElem?_cons_zero, List.getElem?_cons_succ, List.getElem?_nil, List.getElem?_toArray, List.map_cons, List.map_nil, List.append_nil, List.nil_append, List.cons_append, List.singleton_append,
  List.take_zero, List.drop_zero, List.take_succ_cons, List.drop_succ_cons, List.take_nil, List.drop_nil, List.length_cons, List.length_nil, List.length_append, List.tail_cons, List.headD_cons, List.headD_nil, List.tail_nil,
  Nat.reduceEqDiff, Nat.reduceAdd, Nat.reduceMul, Nat.reduceLeDiff, ↓reduceIte, if_true, if_false, reduceCtorEq, true_and, and_true, false_and, and_false, decide_true, decide_false, Int.natCast_nonneg, Int.toNat_natCast, Nat.mul_one, Nat.one_mul, Nat.zero_add, Nat.add_zero, ne_eq, not_true_eq_false, not_false_eq_true, Nat.zero_le, Nat.le_refl, Int.toNat_zero, Nat.zero_mul, Nat.mul_zero, and_self, Nat.succ_ne_self,
  wrap64, wrap32, wrapU64, wrapU8, wrapU32, a1, a2, a4, ti3, a3]
    refine hq _ _ ?_
    simp only [pickL, lk_cons, Nat.reduceEqDiff, ↓reduceIte, reduceCtorEq, if_true, if_false]
    clear hq q
    have bad : badAt xs i → ∀ cs, wpL Try.prog (Code.ret :: cs) (lk [(2, .int .u64 0), (3, .int .i64 12)]) m' k3 := fun hb cs => by
      refine wpL_ret (ho3 _ _ _ (by simp) (by simp) (hx2 _ _ _ (by simp) (ho1 _ _ _ (by simp) (by simp) (hK' _ _ _ _ (.inr rfl) rfl ?_))))
      simp only [pickL, lk_cons, Nat.reduceEqDiff, ↓reduceIte, reduceCtorEq, if_true, if_false]
      have hV : maskV xs n = .tup [.int .u64 0, .int .i64 12] := if_pos ⟨i, hlt, hb⟩
      rwa [hV] at hK
    by_cases hx0 : xs i < 0
    · repeat' (first | refine wpL_seq ?_ | refine wpL_skip ?_ | refine wpL_label ?_)
      refine wpL_region [4, 6, 7, 8, 9, 25] fun q hq => ?_
      simp -implicitDefEqProofs (disch := omega) only [gO_nil, gO_cons, gN_cond, gN_val, gN_bad, outV_some, outV_none, outV_guard, outA_guard, outP_guard, outA, outP, gN_store, putd_lk, putd_lk0, lk_cons, lk_nil, ev_tmp, ev, gdO_tt, gdO_ff, gdO_tf, gdO_ft, gdO_u,
  itemsOf, itemsAt, operO, stepO, convO, callO, callB, storeO, pureA, loadA, allocA, serA, selA, binA, binInt, unA, convA, partA, TD.isAgg, TD.isBool, TD.isPtr, TD.isFunc, fieldOf, indexA, indexAddrA_sl, indexAddrA_ptr, lenA_sl, lenA_snil, lenA_str, buildA, placesA, fillA, repl, eqA, eqV, eqV.eqFs,
  ofConst, ofLeaf, ofLeafs, AV.cells, AV.leaf, List.all_cons, List.all_nil, Bool.true_and, Bool.and_true, Bool.false_and, Bool.and_false, Bool.true_or, Bool.false_or, Bool.or_false, Bool.or_true, Bool.not_true, Bool.not_false, Bool.not_not,
  Option.bind_some, Option.bind_none, Option.map_some, Option.map_none, Option.getD_some, Option.getD_none, Option.bind_eq_bind, List.getElem?_cons_zero, List.getElem?_cons_succ, List.getElem?_nil, List.getElem?_toArray, List.map_cons, List.map_nil, List.append_nil, List.nil_append, List.cons_append, List.singleton_append,
  List.take_zero, List.drop_zero, List.take_succ_cons, List.drop_succ_cons, List.take_nil, List.drop_nil, List.length_cons, List.length_nil, List.length_append, List.tail_cons, List.headD_cons, List.headD_nil, List.tail_nil,
  Nat.reduceEqDiff, Nat.reduceAdd, Nat.reduceMul, Nat.reduceLeDiff, ↓reduceIte, if_true, if_false, reduceCtorEq, true_and, and_true, false_and, and_false, decide_true, decide_false, Int.natCast_nonneg, Int.toNat_natCast, Nat.mul_one, Nat.one_mul, Nat.zero_add, Nat.add_zero, ne_eq, not_true_eq_false, not_false_eq_true, Nat.zero_le, Nat.le_refl, Int.toNat_zero, Nat.zero_mul, Nat.mul_zero, and_self, Nat.succ_ne_self,
  wrap64, wrap32, wrapU64, wrapU8, wrapU32, decide_eq_true hx0]
      refine hq _ _ ?_
      simp only [pickL, lk_cons, Nat.reduceEqDiff, ↓reduceIte, reduceCtorEq, if_true, if_false]
      clear hq q
      repeat' (first | refine wpL_seq ?_ | refine wpL_skip ?_ | refine wpL_label ?_)
      refine wpL_cond rfl (fun hd => ?_) (fun hd => ?_)
      · repeat' (first | refine wpL_seq ?_ | refine wpL_skip ?_ | refine wpL_label ?_)
        refine wpL_region [2, 3] fun q hq => ?_
        simp -implicitDefEqProofs (disch := omega) only [gO_nil, gO_cons, gN_cond, gN_val, gN_bad, outV_some, outV_none, outV_guard, outA_guard, outP_guard, outA, outP, gN_store, putd_lk, putd_lk0, lk_cons, lk_nil, ev_tmp, ev, gdO_tt, gdO_ff, gdO_tf, gdO_ft, gdO_u,
  itemsOf, itemsAt, operO, stepO, convO, callO, callB, storeO, pureA, loadA, allocA, serA, selA, binA, binInt, unA, convA, partA, TD.isAgg, TD.isBool, TD.isPtr, TD.isFunc, fieldOf, indexA, indexAddrA_sl, indexAddrA_ptr, lenA_sl, lenA_snil, lenA_str, buildA, placesA, fillA, repl, eqA, eqV, eqV.eqFs,
  ofConst, ofLeaf, ofLeafs, AV.cells, AV.leaf, List.all_cons, List.all_nil, Bool.true_and, Bool.and_true, Bool.false_and, Bool.and_false, Bool.true_or, Bool.false_or, Bool.or_false, Bool.or_true, Bool.not_true, Bool.not_false, Bool.not_not,
  Option.bind_some, Option.bind_none, Option.map_some, Option.map_none, Option.getD_some, Option.getD_none, Option.bind_eq_bind, List.getElem?_cons_zero, List.getElem?_cons_succ, List.getElem?_nil, List.getElem?_toArray, List.map_cons, List.map_nil, List.append_nil, List.nil_append, List.cons_append, List.singleton_append,
  List.take_zero, List.drop_zero, List.take_succ_cons, List.drop_succ_cons, List.take_nil, List.drop_nil, List.length_cons, List.length_nil, List.length_append, List.tail_cons, List.headD_cons, List.headD_nil, List.tail_nil,
  Nat.reduceEqDiff, Nat.reduceAdd, Nat.reduceMul, Nat.reduceLeDiff, ↓reduceIte, if_true, if_false, reduceCtorEq, true_and, and_true, false_and, and_false, decide_true, decide_false, Int.natCast_nonneg, Int.toNat_natCast, Nat.mul_one, Nat.one_mul, Nat.zero_add, Nat.add_zero, ne_eq, not_true_eq_false, not_false_eq_true, Nat.zero_le, Nat.le_refl, Int.toNat_zero, Nat.zero_mul, Nat.mul_zero, and_self, Nat.succ_ne_self,
  wrap64, wrap32, wrapU64, wrapU8, wrapU32]
        refine hq _ _ ?_
        simp only [pickL, lk_cons, Nat.reduceEqDiff, ↓reduceIte, reduceCtorEq, if_true, if_false]
        clear hq q
        exact bad (.inl hx0) _
      · cases hd
    by_cases hx1 : xs i > 63
    · repeat' (first | refine wpL_seq ?_ | refine wpL_skip ?_ | refine wpL_label ?_)
      refine wpL_region [4, 6, 7, 8, 9, 25] fun q hq => ?_
      simp -implicitDefEqProofs (disch := omega) only [gO_nil, gO_cons, gN_cond, gN_val, gN_bad, outV_some, outV_none, outV_guard, outA_guard, outP_guard, outA, outP, gN_store, putd_lk, putd_lk0, lk_cons, lk_nil, ev_tmp, ev, gdO_tt, gdO_ff, gdO_tf, gdO_ft, gdO_u,
  itemsOf, itemsAt, operO, stepO, convO, callO, callB, storeO, pureA, loadA, allocA, serA, selA, binA, binInt, unA, convA, partA, TD.isAgg, TD.isBool, TD.isPtr, TD.isFunc, fieldOf, indexA, indexAddrA_sl, indexAddrA_ptr, lenA_sl, lenA_snil, lenA_str, buildA, placesA, fillA, repl, eqA, eqV, eqV.eqFs,
  ofConst, ofLeaf, ofLeafs, AV.cells, AV.leaf, List.all_cons, List.all_nil, Bool.true_and, Bool.and_true, Bool.false_and, Bool.and_false, Bool.true_or, Bool.false_or, Bool.or_false, Bool.or_true, Bool.not_true, Bool.not_false, Bool.not_not,
  Option.bind_some, Option.bind_none, Option.map_some, Option.map_none, Option.getD_some, Option.getD_none, Option.bind_eq_bind, List.getElem?_cons_zero, List.getElem?_cons_succ, List.getElem?_nil, List.getElem?_toArray, List.map_cons, List.map_nil, List.append_nil, List.nil_append, List.cons_append, List.singleton_append,
  List.take_zero, List.drop_zero, List.take_succ_cons, List.drop_succ_cons, List.take_nil, List.drop_nil, List.length_cons, List.length_nil, List.length_append, List.tail_cons, List.headD_cons, List.headD_nil, List.tail_nil,
  Nat.reduceEqDiff, Nat.reduceAdd, Nat.reduceMul, Nat.reduceLeDiff, ↓reduceIte, if_true, if_false, reduceCtorEq, true_and, and_true, false_and, and_false, decide_true, decide_false, Int.natCast_nonneg, Int.toNat_natCast, Nat.mul_one, Nat.one_mul, Nat.zero_add, Nat.add_zero, ne_eq, not_true_eq_false, not_false_eq_true, Nat.zero_le, Nat.le_refl, Int.toNat_zero, Nat.zero_mul, Nat.mul_zero, and_self, Nat.succ_ne_self,
  wrap64, wrap32, wrapU64, wrapU8, wrapU32, decide_eq_false hx0, decide_eq_true hx1]
      refine hq _ _ ?_
      simp only [pickL, lk_cons, Nat.reduceEqDiff, ↓reduceIte, reduceCtorEq, if_true, if_false]
      clear hq q
      repeat' (first | refine wpL_seq ?_ | refine wpL_skip ?_ | refine wpL_label ?_)
      refine wpL_cond rfl (fun hd => ?_) (fun hd => ?_)
      · repeat' (first | refine wpL_seq ?_ | refine wpL_skip ?_ | refine wpL_label ?_)
        refine wpL_region [2, 3] fun q hq => ?_
        simp -implicitDefEqProofs (disch := omega) only [gO_nil, gO_cons, gN_cond, gN_val, gN_bad, outV_some, outV_none, outV_guard, outA_guard, outP_guard, outA, outP, gN_store, putd_lk, putd_lk0, lk_cons, lk_nil, ev_tmp, ev, gdO_tt, gdO_ff, gdO_tf, gdO_ft, gdO_u,
  itemsOf, itemsAt, operO, stepO, convO, callO, callB, storeO, pureA, loadA, allocA, serA, selA, binA, binInt, unA, convA, partA, TD.isAgg, TD.isBool, TD.isPtr, TD.isFunc, fieldOf, indexA, indexAddrA_sl, indexAddrA_ptr, lenA_sl, lenA_snil, lenA_str, buildA, placesA, fillA, repl, eqA, eqV, eqV.eqFs,
  ofConst, ofLeaf, ofLeafs, AV.cells, AV.leaf, List.all_cons, List.all_nil, Bool.true_and, Bool.and_true, Bool.false_and, Bool.and_false, Bool.true_or, Bool.false_or, Bool.or_false, Bool.or_true, Bool.not_true, Bool.not_false, Bool.not_not,
  Option.bind_some, Option.bind_none, Option.map_some, Option.map_none, Option.getD_some, Option.getD_none, Option.bind_eq_bind, List.getElem?_cons_zero, List.getElem?_cons_succ, List.getElem?_nil, List.getElem?_toArray, List.map_cons, List.map_nil, List.append_nil, List.nil_append, List.cons_append, List.singleton_append,
  List.take_zero, List.drop_zero, List.take_succ_cons, List.drop_succ_cons, List.take_nil, List.drop_nil, List.length_cons, List.length_nil, List.length_append, List.tail_cons, List.headD_cons, List.headD_nil, List.tail_nil,
  Nat.reduceEqDiff, Nat.reduceAdd, Nat.reduceMul, Nat.reduceLeDiff, ↓reduceIte, if_true, if_false, reduceCtorEq, true_and, and_true, false_and, and_false, decide_true, decide_false, Int.natCast_nonneg, Int.toNat_natCast, Nat.mul_one, Nat.one_mul, Nat.zero_add, Nat.add_zero, ne_eq, not_true_eq_false, not_false_eq_true, Nat.zero_le, Nat.le_refl, Int.toNat_zero, Nat.zero_mul, Nat.mul_zero, and_self, Nat.succ_ne_self,
  wrap64, wrap32, wrapU64, wrapU8, wrapU32]
        refine hq _ _ ?_
        simp only [pickL, lk_cons, Nat.reduceEqDiff, ↓reduceIte, reduceCtorEq, if_true, if_false]
        clear hq q
        exact bad (.inr (.inl hx1)) _
      · cases hd
    obtain ⟨k, hk⟩ : ∃ k : Nat, xs i = k := ⟨(xs i).toNat, by omega⟩
    have hk63 : k ≤ 64 := by omega
    have hx0' : ¬ ((k : Int) < 0) := by omega
    have hx1' : ¬ ((k : Int) > 63) := by omega
    repeat' (first | refine wpL_seq ?_ | refine wpL_skip ?_ | refine wpL_label ?_)
    refine wpL_region [4, 6, 7, 8, 9, 25] fun q hq => ?_
    simp -implicitDefEqProofs (disch := omega) only [gO_nil, gO_cons, gN_cond, gN_val, gN_bad, outV_some, outV_none, outV_guard, outA_guard, outP_guard, outA, outP, gN_store, putd_lk, putd_lk0, lk_cons, lk_nil, ev_tmp, ev, gdO_tt, gdO_ff, gdO_tf, gdO_ft, gdO_u,
  itemsOf, itemsAt, operO, stepO, convO, callO, callB, storeO, pureA, loadA, allocA, serA, selA, binA, binInt, unA, convA, partA, TD.isAgg, TD.isBool, TD.isPtr, TD.isFunc, fieldOf, indexA, indexAddrA_sl, indexAddrA_ptr, lenA_sl, lenA_snil, lenA_str, buildA, placesA, fillA, repl, eqA, eqV, eqV.eqFs,
  ofConst, ofLeaf, ofLeafs, AV.cells, AV.leaf, List.all_cons, List.all_nil, Bool.true_and, Bool.and_true, Bool.false_and, Bool.and_false, Bool.true_or, Bool.false_or, Bool.or_false, Bool.or_true, Bool.not_true, Bool.not_false, Bool.not_not,
  Option.bind_some, Option.bind_none, Option.map_some, Option.map_none, Option.getD_some, Option.getD_none, Option.bind_eq_bind, List.getElem?_cons_zero, List.getElem?_cons_succ, List.getElem?_nil, List.getElem?_toArray, List.map_cons, List.map_nil, List.append_nil, List.nil_append, List.cons_append, List.singleton_append,
  List.take_zero, List.drop_zero, List.take_succ_cons, List.drop_succ_cons, List.take_nil, List.drop_nil, List.length_cons, List.length_nil, List.length_append, List.tail_cons, List.headD_cons, List.headD_nil, List.tail_nil,
  Nat.reduceEqDiff, Nat.reduceAdd, Nat.reduceMul, Nat.reduceLeDiff, ↓reduceIte, if_true, if_false, reduceCtorEq, true_and, and_true, false_and, and_false, decide_true, decide_false, Int.natCast_nonneg, Int.toNat_natCast, Nat.mul_one, Nat.one_mul, Nat.zero_add, Nat.add_zero, ne_eq, not_true_eq_false, not_false_eq_true, Nat.zero_le, Nat.le_refl, Int.toNat_zero, Nat.zero_mul, Nat.mul_zero, and_self, Nat.succ_ne_self,
  wrap64, wrap32, wrapU64, wrapU8, wrapU32, decide_eq_false hx0', decide_eq_false hx1', hk, shr64 _ k hk63, and64_1, bitAt]
    refine hq _ _ ?_
    simp only [pickL, lk_cons, Nat.reduceEqDiff, ↓reduceIte, reduceCtorEq, if_true, if_false]
    clear hq q
    have hbit := maskTo_bit xs k (by omega) i hpre
    repeat' (first | refine wpL_seq ?_ | refine wpL_skip ?_ | refine wpL_label ?_)
    refine wpL_cond rfl (fun hd => ?_) (fun hd => ?_)
    · repeat' (first | refine wpL_seq ?_ | refine wpL_skip ?_ | refine wpL_label ?_)
      refine wpL_region [2, 3] fun q hq => ?_
      simp -implicitDefEqProofs (disch := omega) only [gO_nil, gO_cons, gN_cond, gN_val, gN_bad, outV_some, outV_none, outV_guard, outA_guard, outP_guard, outA, outP, gN_store, putd_lk, putd_lk0, lk_cons, lk_nil, ev_tmp, ev, gdO_tt, gdO_ff, gdO_tf, gdO_ft, gdO_u,
  itemsOf, itemsAt, operO, stepO, convO, callO, callB, storeO, pureA, loadA, allocA, serA, selA, binA, binInt, unA, convA, partA, TD.isAgg, TD.isBool, TD.isPtr, TD.isFunc, fieldOf, indexA, indexAddrA_sl, indexAddrA_ptr, lenA_sl, lenA_snil, lenA_str, buildA, placesA, fillA, repl, eqA, eqV, eqV.eqFs,
  ofConst, ofLeaf, ofLeafs, AV.cells, AV.leaf, List.all_cons, List.all_nil, Bool.true_and, Bool.and_true, Bool.false_and, Bool.and_false, Bool.true_or, Bool.false_or, Bool.or_false, Bool.or_true, Bool.not_true, Bool.not_false, Bool.not_not,
  Option.bind_some, Option.bind_none, Option.map_some, Option.map_none, Option.getD_some, Option.getD_none, Option.bind_eq_bind, List.getElem?_cons_zero, List.getElem?_cons_succ, List.getElem?_nil, List.getElem?_toArray, List.map_cons, List.map_nil, List.append_nil, List.nil_append, List.cons_append, List.singleton_append,
  List.take_zero, List.drop_zero, List.take_succ_cons, List.drop_succ_cons, List.take_nil, List.drop_nil, List.length_cons, List.length_nil, List.length_append, List.tail_cons, List.headD_cons, List.headD_nil, List.tail_nil,
  Nat.reduceEqDiff, Nat.reduceAdd, Nat.reduceMul, Nat.reduceLeDiff, ↓reduceIte, if_true, if_false, reduceCtorEq, true_and, and_true, false_and, and_false, decide_true, decide_false, Int.natCast_nonneg, Int.toNat_natCast, Nat.mul_one, Nat.one_mul, Nat.zero_add, Nat.add_zero, ne_eq, not_true_eq_false, not_false_eq_true, Nat.zero_le, Nat.le_refl, Int.toNat_zero, Nat.zero_mul, Nat.mul_zero, and_self, Nat.succ_ne_self,
  wrap64, wrap32, wrapU64, wrapU8, wrapU32]
      refine hq _ _ ?_
      simp only [pickL, lk_cons, Nat.reduceEqDiff, ↓reduceIte, reduceCtorEq, if_true, if_false]
      clear hq q
      obtain ⟨j, h1, h2⟩ := hbit.1 (by simpa using hd)
      exact bad (.inr (.inr ⟨j, h1, by rw [h2, hk]⟩)) _
    · repeat' (first | refine wpL_seq ?_ | refine wpL_skip ?_ | refine wpL_label ?_)
      refine wpL_region [4, 7, 8, 9] fun q hq => ?_
      simp -implicitDefEqProofs (disch := omega) only [gO_nil, gO_cons, gN_cond, gN_val, gN_bad, outV_some, outV_none, outV_guard, outA_guard, outP_guard, outA, outP, gN_store, putd_lk, putd_lk0, lk_cons, lk_nil, ev_tmp, ev, gdO_tt, gdO_ff, gdO_tf, gdO_ft, gdO_u,
  itemsOf, itemsAt, operO, stepO, convO, callO, callB, storeO, pureA, loadA, allocA, serA, selA, binA, binInt, unA, convA, partA, TD.isAgg, TD.isBool, TD.isPtr, TD.isFunc, fieldOf, indexA, indexAddrA_sl, indexAddrA_ptr, lenA_sl, lenA_snil, lenA_str, buildA, placesA, fillA, repl, eqA, eqV, eqV.eqFs,
  ofConst, ofLeaf, ofLeafs, AV.cells, AV.leaf, List.all_cons, List.all_nil, Bool.true_and, Bool.and_true, Bool.false_and, Bool.and_false, Bool.true_or, Bool.false_or, Bool.or_false, Bool.or_true, Bool.not_true, Bool.not_false, Bool.not_not,
  Option.bind_some, Option.bind_none, Option.map_some, Option.map_none, Option.getD_some, Option.getD_none, Option.bind_eq_bind, List.getElem?_cons_zero, List.getElem?_cons_succ, List.getElem?_nil, List.getElem?_toArray, List.map_cons, List.map_nil, List.append_nil, List.nil_append, List.cons_append, List.singleton_append,
  List.take_zero, List.drop_zero, List.take_succ_cons, List.drop_succ_cons, List.take_nil, List.drop_nil, List.length_cons, List.length_nil, List.length_append, List.tail_cons, List.headD_cons, List.headD_nil, List.tail_nil,
  Nat.reduceEqDiff, Nat.reduceAdd, Nat.reduceMul, Nat.reduceLeDiff, ↓reduceIte, if_true, if_false, reduceCtorEq, true_and, and_true, false_and, and_false, decide_true, decide_false, Int.natCast_nonneg, Int.toNat_natCast, Nat.mul_one, Nat.one_mul, Nat.zero_add, Nat.add_zero, ne_eq, not_true_eq_false, not_false_eq_true, Nat.zero_le, Nat.le_refl, Int.toNat_zero, Nat.zero_mul, Nat.mul_zero, and_self, Nat.succ_ne_self,
  wrap64, wrap32, wrapU64, wrapU8, wrapU32, hk, shl64_1 k hk63, or64]
      refine hq _ _ ?_
      simp only [pickL, lk_cons, Nat.reduceEqDiff, ↓reduceIte, reduceCtorEq, if_true, if_false]
      clear hq q
      repeat' (first | refine wpL_seq ?_ | refine wpL_skip ?_ | refine wpL_label ?_)
      refine wpL_nil (hn3 _ _ ?_)
      repeat' (first | refine wpL_seq ?_ | refine wpL_skip ?_ | refine wpL_label ?_)
      refine wpL_region [4, 7, 8, 9] fun q hq => ?_
      simp -implicitDefEqProofs (disch := omega) only [gO_nil, gO_cons, gN_cond, gN_val, gN_bad, outV_some, outV_none, outV_guard, outA_guard, outP_guard, outA, outP, gN_store, putd_lk, putd_lk0, lk_cons, lk_nil, ev_tmp, ev, gdO_tt, gdO_ff, gdO_tf, gdO_ft, gdO_u,
  itemsOf, itemsAt, operO, stepO, convO, callO, callB, storeO, pureA, loadA, allocA, serA, selA, binA, binInt, unA, convA, partA, TD.isAgg, TD.isBool, TD.isPtr, TD.isFunc, fieldOf, indexA, indexAddrA_sl, indexAddrA_ptr, lenA_sl, lenA_snil, lenA_str, buildA, placesA, fillA, repl, eqA, eqV, eqV.eqFs,
  ofConst, ofLeaf, ofLeafs, AV.cells, AV.leaf, List.all_cons, List.all_nil, Bool.true_and, Bool.and_true, Bool.false_and, Bool.and_false, Bool.true_or, Bool.false_or, Bool.or_false, Bool.or_true, Bool.not_true, Bool.not_false, Bool.not_not,
  Option.bind_some, Option.bind_none, Option.map_some, Option.map_none, Option.getD_some, Option.getD_none, Option.bind_eq_bind, List.getElem?_cons_zero, List.getElem?_cons_succ, List.getElem?_nil, List.getElem?_toArray, List.map_cons, List.map_nil, List.append_nil, List.nil_append, List.cons_append, List.singleton_append,
  List.take_zero, List.drop_zero, List.take_succ_cons, List.drop_succ_cons, List.take_nil, List.drop_nil, List.length_cons, List.length_nil, List.length_append, List.tail_cons, List.headD_cons, List.headD_nil, List.tail_nil,
  Nat.reduceEqDiff, Nat.reduceAdd, Nat.reduceMul, Nat.reduceLeDiff, ↓reduceIte, if_true, if_false, reduceCtorEq, true_and, and_true, false_and, and_false, decide_true, decide_false, Int.natCast_nonneg, Int.toNat_natCast, Nat.mul_one, Nat.one_mul, Nat.zero_add, Nat.add_zero, ne_eq, not_true_eq_false, not_false_eq_true, Nat.zero_le, Nat.le_refl, Int.toNat_zero, Nat.zero_mul, Nat.mul_zero, and_self, Nat.succ_ne_self,
  wrap64, wrap32, wrapU64, wrapU8, wrapU32]
      refine hq _ _ ?_
      simp only [pickL, lk_cons, Nat.reduceEqDiff, ↓reduceIte, reduceCtorEq, if_true, if_false]
      clear hq q
      refine wpL_nil (hn2 (n - (i + 1)) _ _ (by omega) ⟨i + 1, by omega, rfl, rfl, ?_, ?_⟩)
      · simp only [maskTo, hk, Int.toNat_natCast]; rfl
      · intro i' hi'
        by_cases e : i' = i
        · subst e
          rintro (h | h | ⟨j, h1, h2⟩)
          · exact hx0 h
          · exact hx1 h
          · have := hbit.2 ⟨j, h1, by rw [h2, hk]⟩
            simp [this] at hd
        · exact hpre i' (by omega)
  · have hlt : ¬ (i < n) := by simpa using hc
    have hin : i = n := by omega
    subst hin
    repeat' (first | refine wpL_seq ?_ | refine wpL_skip ?_ | refine wpL_label ?_)
    refine wpL_exit (hx2 _ _ _ (by simp) (hx1 _ _ ?_))
    repeat' (first | refine wpL_seq ?_ | refine wpL_skip ?_ | refine wpL_label ?_)
    refine wpL_region [2, 3] fun q hq => ?_
    simp -implicitDefEqProofs (disch := omega) only [gO_nil, gO_cons, gN_cond, gN_val, gN_bad, outV_some, outV_none, outV_guard, outA_guard, outP_guard, outA, outP, gN_store, putd_lk, putd_lk0, lk_cons, lk_nil, ev_tmp, ev, gdO_tt, gdO_ff, gdO_tf, gdO_ft, gdO_u,
  itemsOf, itemsAt, operO, stepO, convO, callO, callB, storeO, pureA, loadA, allocA, serA, selA, binA, binInt, unA, convA, partA, TD.isAgg, TD.isBool, TD.isPtr, TD.isFunc, fieldOf, indexA, indexAddrA_sl, indexAddrA_ptr, lenA_sl, lenA_snil, lenA_str, buildA, placesA, fillA, repl, eqA, eqV, eqV.eqFs,
  ofConst, ofLeaf, ofLeafs, AV.cells, AV.leaf, List.all_cons, List.all_nil, Bool.true_and, Bool.and_true, Bool.false_and, Bool.and_false, Bool.true_or, Bool.false_or, Bool.or_false, Bool.or_true, Bool.not_true, Bool.not_false, Bool.not_not,
  Option.bind_some, Option.bind_none, Option.map_some, Option.map_none, Option.getD_some, Option.getD_none, Option.bind_eq_bind, List.getElem?_cons_zero, List.getElem?_cons_succ, List.getElem?_nil, List.getElem?_toArray, List.map_cons, List.map_nil, List.append_nil, List.nil_append, List.cons_append, List.singleton_append,
  List.take_zero, List.drop_zero, List.take_succ_cons, List.drop_succ_cons, List.take_nil, List.drop_nil, List.length_cons, List.length_nil, List.length_append, List.tail_cons, List.headD_cons, List.headD_nil, List.tail_nil,
  Nat.reduceEqDiff, Nat.reduceAdd, Nat.reduceMul, Nat.reduceLeDiff, ↓reduceIte, if_true, if_false, reduceCtorEq, true_and, and_true, false_and, and_false, decide_true, decide_false, Int.natCast_nonneg, Int.toNat_natCast, Nat.mul_one, Nat.one_mul, Nat.zero_add, Nat.add_zero, ne_eq, not_true_eq_false, not_false_eq_true, Nat.zero_le, Nat.le_refl, Int.toNat_zero, Nat.zero_mul, Nat.mul_zero, and_self, Nat.succ_ne_self,
  wrap64, wrap32, wrapU64, wrapU8, wrapU32]
    refine hq _ _ ?_
    simp only [pickL, lk_cons, Nat.reduceEqDiff, ↓reduceIte, reduceCtorEq, if_true, if_false]
    clear hq q
    repeat' (first | refine wpL_seq ?_ | refine wpL_skip ?_ | refine wpL_label ?_)
    refine wpL_ret (hK' _ _ _ _ (.inr rfl) rfl ?_)
    simp only [pickL, lk_cons, Nat.reduceEqDiff, ↓reduceIte, reduceCtorEq, if_true, if_false]
    have hV : maskV xs i = .tup [.int .u64 (maskTo xs i).toNat, .int .i64 0] := if_neg fun ⟨j, h1, h2⟩ => hpre j h1 h2
    rwa [hV] at hK

/-! ### The reference's mask: which have been seen, then word by word -/

theorem shr_step (M : BitVec 64) (k : Nat) (hk : k < 64) : (M >>> k).toNat = 2 * (M >>> (k + 1)).toNat + (if M.getLsbD k = true then 1 else 0) := by
  simp only [BitVec.toNat_ushiftRight, Nat.shiftRight_succ, BitVec.getLsbD, Nat.testBit, Nat.shiftRight_eq_div_pow]
  have h := Nat.div_add_mod (M.toNat / 2 ^ k) 2
  have h2 := Nat.mod_two_eq_zero_or_one (M.toNat / 2 ^ k)
  rcases h2 with h2 | h2 <;> simp [Nat.and_comm, h2] <;> omega

theorem f7_mask {m a n xs K} (ha : Sl m a n fun i => .int .i64 (xs i)) (hn : n ≤ 9223372036854775807) (hK : ∀ m', Keep [] m m' → K (maskV xs n) m') : wpF Try.prog 7 [a] m K := by
  refine wpF_intro (fn := Try.f7) rfl rfl (by decide) (by kernel_rfl) fun K' hK' => ?_
  repeat' (first | refine wpL_seq ?_ | refine wpL_skip ?_ | refine wpL_label ?_)
  refine wpL_region [0] fun q hq => ?_
  simp -implicitDefEqProofs (disch := omega) only [gO_nil, gO_cons, gN_cond, gN_val, gN_bad, outV_some, outV_none, outV_guard, outA_guard, outP_guard, outA, outP, gN_store, putd_lk, putd_lk0, lk_cons, lk_nil, ev_tmp, ev, gdO_tt, gdO_ff, gdO_tf, gdO_ft, gdO_u,
  itemsOf, itemsAt, operO, stepO, convO, callO, callB, storeO, pureA, loadA, allocA, serA, selA, binA, binInt, unA, convA, partA, TD.isAgg, TD.isBool, TD.isPtr, TD.isFunc, fieldOf, indexA, indexAddrA_sl, indexAddrA_ptr, lenA_sl, lenA_snil, lenA_str, buildA, placesA, fillA, repl, eqA, eqV, eqV.eqFs,
  ofConst, ofLeaf, ofLeafs, AV.cells, AV.leaf, List.all_cons, List.all_nil, Bool.true_and, Bool.and_true, Bool.false_and, Bool.and_false, Bool.true_or, Bool.false_or, Bool.or_false, Bool.or_true, Bool.not_true, Bool.not_false, Bool.not_not,
  Option.bind_some, Option.bind_none, Option.map_some, Option.map_none, Option.getD_some, Option.getD_none, Option.bind_eq_bind, List.getElem?_cons_zero, List.getElem?_cons_succ, List.getElem?_nil, List.getElem?_toArray, List.map_cons, List.map_nil, List.append_nil, List.nil_append, List.cons_append, List.singleton_append,
  List.take_zero, List.drop_zero, List.take_succ_cons, List.drop_succ_cons, List.take_nil, List.drop_nil, List.length_cons, List.length_nil, List.length_append, List.tail_cons, List.headD_cons, List.headD_nil, List.tail_nil,
  Nat.reduceEqDiff, Nat.reduceAdd, Nat.reduceMul, Nat.reduceLeDiff, ↓reduceIte, if_true, if_false, reduceCtorEq, true_and, and_true, false_and, and_false, decide_true, decide_false, Int.natCast_nonneg, Int.toNat_natCast, Nat.mul_one, Nat.one_mul, Nat.zero_add, Nat.add_zero, ne_eq, not_true_eq_false, not_false_eq_true, Nat.zero_le, Nat.le_refl, Int.toNat_zero, Nat.zero_mul, Nat.mul_zero, and_self, Nat.succ_ne_self,
  wrap64, wrap32, wrapU64, wrapU8, wrapU32, argL]
  refine hq _ _ ?_
  simp only [pickL, lk_cons, Nat.reduceEqDiff, ↓reduceIte, reduceCtorEq, if_true, if_false]
  clear hq q
  repeat' (first | refine wpL_seq ?_ | refine wpL_skip ?_ | refine wpL_label ?_)
  refine wpL_region [0, 4] fun q hq => ?_
  simp -implicitDefEqProofs (disch := omega) only [gO_nil, gO_cons, gN_cond, gN_val, gN_bad, outV_some, outV_none, outV_guard, outA_guard, outP_guard, outA, outP, gN_store, putd_lk, putd_lk0, lk_cons, lk_nil, ev_tmp, ev, gdO_tt, gdO_ff, gdO_tf, gdO_ft, gdO_u,
  itemsOf, itemsAt, operO, stepO, convO, callO, callB, storeO, pureA, loadA, allocA, serA, selA, binA, binInt, unA, convA, partA, TD.isAgg, TD.isBool, TD.isPtr, TD.isFunc, fieldOf, indexA, indexAddrA_sl, indexAddrA_ptr, lenA_sl, lenA_snil, lenA_str, buildA, placesA, fillA, repl, eqA, eqV, eqV.eqFs,
  ofConst, ofLeaf, ofLeafs, AV.cells, AV.leaf, List.all_cons, List.all_nil, Bool.true_and, Bool.and_true, Bool.false_and, Bool.and_false, Bool.true_or, Bool.false_or, Bool.or_false, Bool.or_true, Bool.not_true, Bool.not_false, Bool.not_not,
  Option.bind_some, Option.bind_none, Option.map_some, Option.map_none, Option.getD_some, Option.getD_none, Option.bind_eq_bind, List.getElem?_cons_zero, List.getElem?_cons_succ, List.getElem?_nil, List.getElem?_toArray, List.map_cons, List.map_nil, List.append_nil, List.nil_append, List.cons_append, List.singleton_append,
  List.take_zero, List.drop_zero, List.take_succ_cons, List.drop_succ_cons, List.take_nil, List.drop_nil, List.length_cons, List.length_nil, List.length_append, List.tail_cons, List.headD_cons, List.headD_nil, List.tail_nil,
  Nat.reduceEqDiff, Nat.reduceAdd, Nat.reduceMul, Nat.reduceLeDiff, ↓reduceIte, if_true, if_false, reduceCtorEq, true_and, and_true, false_and, and_false, decide_true, decide_false, Int.natCast_nonneg, Int.toNat_natCast, Nat.mul_one, Nat.one_mul, Nat.zero_add, Nat.add_zero, ne_eq, not_true_eq_false, not_false_eq_true, Nat.zero_le, Nat.le_refl, Int.toNat_zero, Nat.zero_mul, Nat.mul_zero, and_self, Nat.succ_ne_self,
  wrap64, wrap32, wrapU64, wrapU8, wrapU32, ti45]
  refine gN_alloc_ptr fun b m0 hb0 hb hkeep => ?_
  simp -implicitDefEqProofs (disch := omega) only [gO_nil, gO_cons, gN_cond, gN_val, gN_bad, outV_some, outV_none, outV_guard, outA_guard, outP_guard, outA, outP, gN_store, putd_lk, putd_lk0, lk_cons, lk_nil, ev_tmp, ev, gdO_tt, gdO_ff, gdO_tf, gdO_ft, gdO_u,
  itemsOf, itemsAt, operO, stepO, convO, callO, callB, storeO, pureA, loadA, allocA, serA, selA, binA, binInt, unA, convA, partA, TD.isAgg, TD.isBool, TD.isPtr, TD.isFunc, fieldOf, indexA, indexAddrA_sl, indexAddrA_ptr, lenA_sl, lenA_snil, lenA_str, buildA, placesA, fillA, repl, eqA, eqV, eqV.eqFs,
  ofConst, ofLeaf, ofLeafs, AV.cells, AV.leaf, List.all_cons, List.all_nil, Bool.true_and, Bool.and_true, Bool.false_and, Bool.and_false, Bool.true_or, Bool.false_or, Bool.or_false, Bool.or_true, Bool.not_true, Bool.not_false, Bool.not_not,
  Option.bind_some, Option.bind_none, Option.map_some, Option.map_none, Option.getD_some, Option.getD_none, Option.bind_eq_bind, List.getElem?_cons_zero, List.getElem?_cons_succ, List.getElem?_nil, List.getElem?_toArray, List.map_cons, List.map_nil, List.append_nil, List.nil_append, List.cons_append, List.singleton_append,
  List.take_zero, List.drop_zero, List.take_succ_cons, List.drop_succ_cons, List.take_nil, List.drop_nil, List.length_cons, List.length_nil, List.length_append, List.tail_cons, List.headD_cons, List.headD_nil, List.tail_nil,
  Nat.reduceEqDiff, Nat.reduceAdd, Nat.reduceMul, Nat.reduceLeDiff, ↓reduceIte, if_true, if_false, reduceCtorEq, true_and, and_true, false_and, and_false, decide_true, decide_false, Int.natCast_nonneg, Int.toNat_natCast, Nat.mul_one, Nat.one_mul, Nat.zero_add, Nat.add_zero, ne_eq, not_true_eq_false, not_false_eq_true, Nat.zero_le, Nat.le_refl, Int.toNat_zero, Nat.zero_mul, Nat.mul_zero, and_self, Nat.succ_ne_self,
  wrap64, wrap32, wrapU64, wrapU8, wrapU32]
  refine hq _ _ ?_
  simp only [pickL, lk_cons, Nat.reduceEqDiff, ↓reduceIte, reduceCtorEq, if_true, if_false]
  clear hq q
  have ha0 := ha
  have ha := ha.keep0 hkeep
  have hla := ha.len ti23 rfl
  repeat' (first | refine wpL_seq ?_ | refine wpL_skip ?_ | refine wpL_label ?_)
  refine wpL_region [0, 4, 5] fun q hq => ?_
  simp -implicitDefEqProofs (disch := omega) only [gO_nil, gO_cons, gN_cond, gN_val, gN_bad, outV_some, outV_none, outV_guard, outA_guard, outP_guard, outA, outP, gN_store, putd_lk, putd_lk0, lk_cons, lk_nil, ev_tmp, ev, gdO_tt, gdO_ff, gdO_tf, gdO_ft, gdO_u,
  itemsOf, itemsAt, operO, stepO, convO, callO, callB, storeO, pureA, loadA, allocA, serA, selA, binA, binInt, unA, convA, partA, TD.isAgg, TD.isBool, TD.isPtr, TD.isFunc, fieldOf, indexA, indexAddrA_sl, indexAddrA_ptr, lenA_sl, lenA_snil, lenA_str, buildA, placesA, fillA, repl, eqA, eqV, eqV.eqFs,
  ofConst, ofLeaf, ofLeafs, AV.cells, AV.leaf, List.all_cons, List.all_nil, Bool.true_and, Bool.and_true, Bool.false_and, Bool.and_false, Bool.true_or, Bool.false_or, Bool.or_false, Bool.or_true, Bool.not_true, Bool.not_false, Bool.not_not,
  Option.bind_some, Option.bind_none, Option.map_some, Option.map_none, Option.getD_some, Option.getD_none, Option.bind_eq_bind, List.getElem?_cons_zero, List.getElem?_cons_succ, List.getElem?_nil, List.getElem?_toArray, List.map_cons, List.map_nil, List.append_nil, List.nil_append, List.cons_append, List.singleton_append,
  List.take_zero, List.drop_zero, List.take_succ_cons, List.drop_succ_cons, List.take_nil, List.drop_nil, List.length_cons, List.length_nil, List.length_append, List.tail_cons, List.headD_cons, List.headD_nil, List.tail_nil,
  Nat.reduceEqDiff, Nat.reduceAdd, Nat.reduceMul, Nat.reduceLeDiff, ↓reduceIte, if_true, if_false, reduceCtorEq, true_and, and_true, false_and, and_false, decide_true, decide_false, Int.natCast_nonneg, Int.toNat_natCast, Nat.mul_one, Nat.one_mul, Nat.zero_add, Nat.add_zero, ne_eq, not_true_eq_false, not_false_eq_true, Nat.zero_le, Nat.le_refl, Int.toNat_zero, Nat.zero_mul, Nat.mul_zero, and_self, Nat.succ_ne_self,
  wrap64, wrap32, wrapU64, wrapU8, wrapU32]
  refine hq _ _ ?_
  simp only [pickL, lk_cons, Nat.reduceEqDiff, ↓reduceIte, reduceCtorEq, if_true, if_false]
  clear hq q
  repeat' (first | refine wpL_seq ?_ | refine wpL_skip ?_ | refine wpL_label ?_)
  refine wpL_block fun k1 hn1 hx1 ho1 => ?_
  refine wpL_loop (fun j e m' => ∃ i : Nat, i ≤ n ∧ j = n - i ∧ e = lk [(0, a), (4, .ptr b 0), (5, .int .i64 i)] ∧ (∀ i' < i, ¬ badAt xs i') ∧ Keep [] m m' ∧ Sl m' a n (fun i => .int .i64 (xs i)) ∧
      ∃ cs, m'.blk b = some ⟨.own, cs, 45, []⟩ ∧ cs.length = 64 ∧ ∀ k, k < 64 → cs[k]? = some (.bool ((maskTo xs i).getLsbD k))) n
    ⟨0, by omega, by omega, rfl, by omega, hkeep, ha, _, hb, by simp, fun k hk => by rw [List.getElem?_replicate, if_pos hk]; simp [maskTo]⟩ ?_
  rintro j e m' ⟨i, hi, rfl, rfl, hpre, hkeep, ha, cs, hb, hcl, hcs⟩ k2 hn2 hx2
  repeat' (first | refine wpL_seq ?_ | refine wpL_skip ?_ | refine wpL_label ?_)
  refine wpL_region [0, 4, 5, 12] fun q hq => ?_
  simp -implicitDefEqProofs (disch := omega) only [gO_nil, gO_cons, gN_cond, gN_val, gN_bad, outV_some, outV_none, outV_guard, outA_guard, outP_guard, outA, outP, gN_store, putd_lk, putd_lk0, lk_cons, lk_nil, ev_tmp, ev, gdO_tt, gdO_ff, gdO_tf, gdO_ft, gdO_u,
  itemsOf, itemsAt, operO, stepO, convO, callO, callB, storeO, pureA, loadA, allocA, serA, selA, binA, binInt, unA, convA, partA, TD.isAgg, TD.isBool, TD.isPtr, TD.isFunc, fieldOf, indexA, indexAddrA_sl, indexAddrA_ptr, lenA_sl, lenA_snil, lenA_str, buildA, placesA, fillA, repl, eqA, eqV, eqV.eqFs,
  ofConst, ofLeaf, ofLeafs, AV.cells, AV.leaf, List.all_cons, List.all_nil, Bool.true_and, Bool.and_true, Bool.false_and, Bool.and_false, Bool.true_or, Bool.false_or, Bool.or_false, Bool.or_true, Bool.not_true, Bool.not_false, Bool.not_not,
  Option.bind_some, Option.bind_none, Option.map_some, Option.map_none, Option.getD_some, Option.getD_none, Option.bind_eq_bind, List.getElem?_cons_zero, List.getElem?_cons_succ, List.getElem?_nil, List.getElem?_toArray, List.map_cons, List.map_nil, List.append_nil, List.nil_append, List.cons_append, List.singleton_append,
  List.take_zero, List.drop_zero, List.take_succ_cons, List.drop_succ_cons, List.take_nil, List.drop_nil, List.length_cons, List.length_nil, List.length_append, List.tail_cons, List.headD_cons, List.headD_nil, List.tail_nil,
  Nat.reduceEqDiff, Nat.reduceAdd, Nat.reduceMul, Nat.reduceLeDiff, ↓reduceIte, if_true, if_false, reduceCtorEq, true_and, and_true, false_and, and_false, decide_true, decide_false, Int.natCast_nonneg, Int.toNat_natCast, Nat.mul_one, Nat.one_mul, Nat.zero_add, Nat.add_zero, ne_eq, not_true_eq_false, not_false_eq_true, Nat.zero_le, Nat.le_refl, Int.toNat_zero, Nat.zero_mul, Nat.mul_zero, and_self, Nat.succ_ne_self,
  wrap64, wrap32, wrapU64, wrapU8, wrapU32, hla]
  refine hq _ _ ?_
  simp only [pickL, lk_cons, Nat.reduceEqDiff, ↓reduceIte, reduceCtorEq, if_true, if_false]
  clear hq q
  repeat' (first | refine wpL_seq ?_ | refine wpL_skip ?_ | refine wpL_label ?_)
  refine wpL_cond rfl (fun hc => ?_) (fun hc => ?_)
  · have hlt : i < n := by simpa using hc
    obtain ⟨b1, o1, kk1, a1, a2, a3, a4⟩ := ha.at (k0 := .i64) ti23 rfl ti3 rfl hlt
    repeat' (first | refine wpL_seq ?_ | refine wpL_skip ?_ | refine wpL_label ?_)
    refine wpL_block fun k3 hn3 hx3 ho3 => ?_
    repeat' (first | refine wpL_seq ?_ | refine wpL_skip ?_ | refine wpL_label ?_)
    refine wpL_region [0, 4, 5, 6] fun q hq => ?_
    simp -implicitDefEqProofs (disch := omega) only [gO_nil, gO_cons, gN_cond, gN_val, gN_bad, outV_some, outV_none, outV_guard, outA_guard, outP_guard, outA, outP, gN_store, putd_lk, putd_lk0, lk_cons, lk_nil, ev_tmp, ev, gdO_tt, gdO_ff, gdO_tf, gdO_ft, gdO_u,
  itemsOf, itemsAt, operO, stepO, convO, callO, callB, storeO, pureA, loadA, allocA, serA, selA, binA, binInt, unA, convA, partA, TD.isAgg, TD.isBool, TD.isPtr, TD.isFunc, fieldOf, indexA, indexAddrA_sl, indexAddrA_ptr, lenA_sl, lenA_snil, lenA_str, buildA, placesA, fillA, repl, eqA, eqV, eqV.eqFs,
  ofConst, ofLeaf, ofLeafs, AV.cells, AV.leaf, List.all_cons, List.all_nil, Bool.true_and, Bool.and_true, Bool.false_and, Bool.and_false, Bool.true_or, Bool.false_or, Bool.or_false, Bool.or_true, Bool.not_true, Bool.not_false, Bool.not_not,
  Option.bind_some, Option.bind_none, Option.map_some, Option.map_none, Option.getD_some, Option.getD_none, Option.bind_eq_bind, List.getElem?_cons_zero, List.getElem?_cons_succ, List.getElem?_nil, List.getElem?_toArray, List.map_cons, List.map_nil, List.append_nil, List.nil_append, List.cons_append, List.singleton_append,
  List.take_zero, List.drop_zero, List.take_succ_cons, List.drop_succ_cons, List.take_nil, List.drop_nil, List.length_cons, List.length_nil, List.length_append, List.tail_cons, List.headD_cons, List.headD_nil, List.tail_nil,
  Nat.reduceEqDiff, Nat.reduceAdd, Nat.reduceMul, Nat.reduceLeDiff, ↓reduceIte, if_true, if_false, reduceCtorEq, true_and, and_true, false_and, and_false, decide_true, decide_false, Int.natCast_nonneg, Int.toNat_natCast, Nat.mul_one, Nat.one_mul, Nat.zero_add, Nat.add_zero, ne_eq, not_true_eq_false, not_false_eq_true, Nat.zero_le, Nat.le_refl, Int.toNat_zero, Nat.zero_mul, Nat.mul_zero, and_self, Nat.succ_ne_self,
  wrap64, wrap32, wrapU64, wrapU8, wrapU32, a1, a2, a4, ti3, a3]
    refine hq _ _ ?_
    simp only [pickL, lk_cons, Nat.reduceEqDiff, ↓reduceIte, reduceCtorEq, if_true, if_false]
    clear hq q
    have bad : badAt xs i → ∀ cs, wpL Try.prog (Code.ret :: cs) (lk [(2, .int .u64 0), (3, .int .i64 12)]) m' k3 := fun hb cs => by
      refine wpL_ret (ho3 _ _ _ (by simp) (by simp) (hx2 _ _ _ (by simp) (ho1 _ _ _ (by simp) (by simp) (hK' _ _ _ _ (.inr rfl) rfl ?_))))
      simp only [pickL, lk_cons, Nat.reduceEqDiff, ↓reduceIte, reduceCtorEq, if_true, if_false]
      have hV : maskV xs n = .tup [.int .u64 0, .int .i64 12] := if_pos ⟨i, hlt, hb⟩
      have := hK m' hkeep
      rwa [hV] at this
    by_cases hx0 : xs i < 0
    · repeat' (first | refine wpL_seq ?_ | refine wpL_skip ?_ | refine wpL_label ?_)
      refine wpL_region [0, 4, 5, 6, 29] fun q hq => ?_
      simp -implicitDefEqProofs (disch := omega) only [gO_nil, gO_cons, gN_cond, gN_val, gN_bad, outV_some, outV_none, outV_guard, outA_guard, outP_guard, outA, outP, gN_store, putd_lk, putd_lk0, lk_cons, lk_nil, ev_tmp, ev, gdO_tt, gdO_ff, gdO_tf, gdO_ft, gdO_u,
  itemsOf, itemsAt, operO, stepO, convO, callO, callB, storeO, pureA, loadA, allocA, serA, selA, binA, binInt, unA, convA, partA, TD.isAgg, TD.isBool, TD.isPtr, TD.isFunc, fieldOf, indexA, indexAddrA_sl, indexAddrA_ptr, lenA_sl, lenA_snil, lenA_str, buildA, placesA, fillA, repl, eqA, eqV, eqV.eqFs,
  ofConst, ofLeaf, ofLeafs, AV.cells, AV.leaf, List.all_cons, List.all_nil, Bool.true_and, Bool.and_true, Bool.false_and, Bool.and_false, Bool.true_or, Bool.false_or, Bool.or_false, Bool.or_true, Bool.not_true, Bool.not_false, Bool.not_not,
  Option.bind_some, Option.bind_none, Option.map_some, Option.map_none, Option.getD_some, Option.getD_none, Option.bind_eq_bind, List.getElem?_cons_zero, List.getElem?_cons_succ, List.getElem?_nil, List.getElem?_toArray, List.map_cons, List.map_nil, List.append_nil, List.nil_append, List.cons_append, List.singleton_append,
  List.take_zero, List.drop_zero, List.take_succ_cons, List.drop_succ_cons, List.take_nil, List.drop_nil, List.length_cons, List.length_nil, List.length_append, List.tail_cons, List.headD_cons, List.headD_nil, List.tail_nil,
  Nat.reduceEqDiff, Nat.reduceAdd, Nat.reduceMul, Nat.reduceLeDiff, ↓reduceIte, if_true, if_false, reduceCtorEq, true_and, and_true, false_and, and_false, decide_true, decide_false, Int.natCast_nonneg, Int.toNat_natCast, Nat.mul_one, Nat.one_mul, Nat.zero_add, Nat.add_zero, ne_eq, not_true_eq_false, not_false_eq_true, Nat.zero_le, Nat.le_refl, Int.toNat_zero, Nat.zero_mul, Nat.mul_zero, and_self, Nat.succ_ne_self,
  wrap64, wrap32, wrapU64, wrapU8, wrapU32, decide_eq_true hx0]
      refine hq _ _ ?_
      simp only [pickL, lk_cons, Nat.reduceEqDiff, ↓reduceIte, reduceCtorEq, if_true, if_false]
      clear hq q
      repeat' (first | refine wpL_seq ?_ | refine wpL_skip ?_ | refine wpL_label ?_)
      refine wpL_cond rfl (fun hd => ?_) (fun hd => ?_)
      · repeat' (first | refine wpL_seq ?_ | refine wpL_skip ?_ | refine wpL_label ?_)
        refine wpL_region [2, 3] fun q hq => ?_
        simp -implicitDefEqProofs (disch := omega) only [gO_nil, gO_cons, gN_cond, gN_val, gN_bad, outV_some, outV_none, outV_guard, outA_guard, outP_guard, outA, outP, gN_store, putd_lk, putd_lk0, lk_cons, lk_nil, ev_tmp, ev, gdO_tt, gdO_ff, gdO_tf, gdO_ft, gdO_u,
  itemsOf, itemsAt, operO, stepO, convO, callO, callB, storeO, pureA, loadA, allocA, serA, selA, binA, binInt, unA, convA, partA, TD.isAgg, TD.isBool, TD.isPtr, TD.isFunc, fieldOf, indexA, indexAddrA_sl, indexAddrA_ptr, lenA_sl, lenA_snil, lenA_str, buildA, placesA, fillA, repl, eqA, eqV, eqV.eqFs,
  ofConst, ofLeaf, ofLeafs, AV.cells, AV.leaf, List.all_cons, List.all_nil, Bool.true_and, Bool.and_true, Bool.false_and, Bool.and_false, Bool.true_or, Bool.false_or, Bool.or_false, Bool.or_true, Bool.not_true, Bool.not_false, Bool.not_not,
  Option.bind_some, Option.bind_none, Option.map_some, Option.map_none, Option.getD_some, Option.getD_none, Option.bind_eq_bind, List.getElem?_cons_zero, List.getElem?_cons_succ, List.getElem?_nil, List.getElem?_toArray, List.map_cons, List.map_nil, List.append_nil, List.nil_append, List.cons_append, List.singleton_append,
  List.take_zero, List.drop_zero, List.take_succ_cons, List.drop_succ_cons, List.take_nil, List.drop_nil, List.length_cons, List.length_nil, List.length_append, List.tail_cons, List.headD_cons, List.headD_nil, List.tail_nil,
  Nat.reduceEqDiff, Nat.reduceAdd, Nat.reduceMul, Nat.reduceLeDiff, ↓reduceIte, if_true, if_false, reduceCtorEq, true_and, and_true, false_and, and_false, decide_true, decide_false, Int.natCast_nonneg, Int.toNat_natCast, Nat.mul_one, Nat.one_mul, Nat.zero_add, Nat.add_zero, ne_eq, not_true_eq_false, not_false_eq_true, Nat.zero_le, Nat.le_refl, Int.toNat_zero, Nat.zero_mul, Nat.mul_zero, and_self, Nat.succ_ne_self,
  wrap64, wrap32, wrapU64, wrapU8, wrapU32]
        refine hq _ _ ?_
        simp only [pickL, lk_cons, Nat.reduceEqDiff, ↓reduceIte, reduceCtorEq, if_true, if_false]
        clear hq q
        exact bad (.inl hx0) _
      · cases hd
    by_cases hx1 : xs i > 63
    · repeat' (first | refine wpL_seq ?_ | refine wpL_skip ?_ | refine wpL_label ?_)
      refine wpL_region [0, 4, 5, 6, 29] fun q hq => ?_
      simp -implicitDefEqProofs (disch := omega) only [gO_nil, gO_cons, gN_cond, gN_val, gN_bad, outV_some, outV_none, outV_guard, outA_guard, outP_guard, outA, outP, gN_store, putd_lk, putd_lk0, lk_cons, lk_nil, ev_tmp, ev, gdO_tt, gdO_ff, gdO_tf, gdO_ft, gdO_u,
  itemsOf, itemsAt, operO, stepO, convO, callO, callB, storeO, pureA, loadA, allocA, serA, selA, binA, binInt, unA, convA, partA, TD.isAgg, TD.isBool, TD.isPtr, TD.isFunc, fieldOf, indexA, indexAddrA_sl, indexAddrA_ptr, lenA_sl, lenA_snil, lenA_str, buildA, placesA, fillA, repl, eqA, eqV, eqV.eqFs,
  ofConst, ofLeaf, ofLeafs, AV.cells, AV.leaf, List.all_cons, List.all_nil, Bool.true_and, Bool.and_true, Bool.false_and, Bool.and_false, Bool.true_or, Bool.false_or, Bool.or_false, Bool.or_true, Bool.not_true, Bool.not_false, Bool.not_not,
  Option.bind_some, Option.bind_none, Option.map_some, Option.map_none, Option.getD_some, Option.getD_none, Option.bind_eq_bind, List.getElem?_cons_zero, List.getElem?_cons_succ, List.getElem?_nil, List.getElem?_toArray, List.map_cons, List.map_nil, List.append_nil, List.nil_append, List.cons_append, List.singleton_append,
  List.take_zero, List.drop_zero, List.take_succ_cons, List.drop_succ_cons, List.take_nil, List.drop_nil, List.length_cons, List.length_nil, List.length_append, List.tail_cons, List.headD_cons, List.headD_nil, List.tail_nil,
  Nat.reduceEqDiff, Nat.reduceAdd, Nat.reduceMul, Nat.reduceLeDiff, ↓reduceIte, if_true, if_false, reduceCtorEq, true_and, and_true, false_and, and_false, decide_true, decide_false, Int.natCast_nonneg, Int.toNat_natCast, Nat.mul_one, Nat.one_mul, Nat.zero_add, Nat.add_zero, ne_eq, not_true_eq_false, not_false_eq_true, Nat.zero_le, Nat.le_refl, Int.toNat_zero, Nat.zero_mul, Nat.mul_zero, and_self, Nat.succ_ne_self,
  wrap64, wrap32, wrapU64, wrapU8, wrapU32, decide_eq_false hx0, decide_eq_true hx1]
      refine hq _ _ ?_
      simp only [pickL, lk_cons, Nat.reduceEqDiff, ↓reduceIte, reduceCtorEq, if_true, if_false]
      clear hq q
      repeat' (first | refine wpL_seq ?_ | refine wpL_skip ?_ | refine wpL_label ?_)
      refine wpL_cond rfl (fun hd => ?_) (fun hd => ?_)
      · repeat' (first | refine wpL_seq ?_ | refine wpL_skip ?_ | refine wpL_label ?_)
        refine wpL_region [2, 3] fun q hq => ?_
        simp -implicitDefEqProofs (disch := omega) only [gO_nil, gO_cons, gN_cond, gN_val, gN_bad, outV_some, outV_none, outV_guard, outA_guard, outP_guard, outA, outP, gN_store, putd_lk, putd_lk0, lk_cons, lk_nil, ev_tmp, ev, gdO_tt, gdO_ff, gdO_tf, gdO_ft, gdO_u,
  itemsOf, itemsAt, operO, stepO, convO, callO, callB, storeO, pureA, loadA, allocA, serA, selA, binA, binInt, unA, convA, partA, TD.isAgg, TD.isBool, TD.isPtr, TD.isFunc, fieldOf, indexA, indexAddrA_sl, indexAddrA_ptr, lenA_sl, lenA_snil, lenA_str, buildA, placesA, fillA, repl, eqA, eqV, eqV.eqFs,
  ofConst, ofLeaf, ofLeafs, AV.cells, AV.leaf, List.all_cons, List.all_nil, Bool.true_and, Bool.and_true, Bool.false_and, Bool.and_false, Bool.true_or, Bool.false_or, Bool.or_false, Bool.or_true, Bool.not_true, Bool.not_false, Bool.not_not,
  Option.bind_some, Option.bind_none, Option.map_some, Option.map_none, Option.getD_some, Option.getD_none, Option.bind_eq_bind, List.getElem?_cons_zero, List.getElem?_cons_succ, List.getElem?_nil, List.getElem?_toArray, List.map_cons, List.map_nil, List.append_nil, List.nil_append, List.cons_append, List.singleton_append,
  List.take_zero, List.drop_zero, List.take_succ_cons, List.drop_succ_cons, List.take_nil, List.drop_nil, List.length_cons, List.length_nil, List.length_append, List.tail_cons, List.headD_cons, List.headD_nil, List.tail_nil,
  Nat.reduceEqDiff, Nat.reduceAdd, Nat.reduceMul, Nat.reduceLeDiff, ↓reduceIte, if_true, if_false, reduceCtorEq, true_and, and_true, false_and, and_false, decide_true, decide_false, Int.natCast_nonneg, Int.toNat_natCast, Nat.mul_one, Nat.one_mul, Nat.zero_add, Nat.add_zero, ne_eq, not_true_eq_false, not_false_eq_true, Nat.zero_le, Nat.le_refl, Int.toNat_zero, Nat.zero_mul, Nat.mul_zero, and_self, Nat.succ_ne_self,
  wrap64, wrap32, wrapU64, wrapU8, wrapU32]
        refine hq _ _ ?_
        simp only [pickL, lk_cons, Nat.reduceEqDiff, ↓reduceIte, reduceCtorEq, if_true, if_false]
        clear hq q
        exact bad (.inr (.inl hx1)) _
      · cases hd
    obtain ⟨k, hk⟩ : ∃ k : Nat, xs i = k := ⟨(xs i).toNat, by omega⟩
    have hk63 : k < 64 := by omega
    have hx0' : ¬ ((k : Int) < 0) := by omega
    have hx1' : ¬ ((k : Int) > 63) := by omega
    have hk0 : (0 : Int) ≤ k ∧ (k : Int) < ((64 : Nat) : Int) := by omega
    repeat' (first | refine wpL_seq ?_ | refine wpL_skip ?_ | refine wpL_label ?_)
    refine wpL_region [0, 4, 5, 6, 29] fun q hq => ?_
    simp -implicitDefEqProofs (disch := omega) only [gO_nil, gO_cons, gN_cond, gN_val, gN_bad, outV_some, outV_none, outV_guard, outA_guard, outP_guard, outA, outP, gN_store, putd_lk, putd_lk0, lk_cons, lk_nil, ev_tmp, ev, gdO_tt, gdO_ff, gdO_tf, gdO_ft, gdO_u,
  itemsOf, itemsAt, operO, stepO, convO, callO, callB, storeO, pureA, loadA, allocA, serA, selA, binA, binInt, unA, convA, partA, TD.isAgg, TD.isBool, TD.isPtr, TD.isFunc, fieldOf, indexA, indexAddrA_sl, indexAddrA_ptr, lenA_sl, lenA_snil, lenA_str, buildA, placesA, fillA, repl, eqA, eqV, eqV.eqFs,
  ofConst, ofLeaf, ofLeafs, AV.cells, AV.leaf, List.all_cons, List.all_nil, Bool.true_and, Bool.and_true, Bool.false_and, Bool.and_false, Bool.true_or, Bool.false_or, Bool.or_false, Bool.or_true, Bool.not_true, Bool.not_false, Bool.not_not,
  Option.bind_some, Option.bind_none, Option.map_some, Option.map_none, Option.getD_some, Option.getD_none, Option.bind_eq_bind, List.getElem?_cons_zero, List.getElem?_cons_succ, List.getElem?_nil, List.getElem?_toArray, List.map_cons, List.map_nil, List.append_nil, List.nil_append, List.cons_append, List.singleton_append,
  List.take_zero, List.drop_zero, List.take_succ_cons, List.drop_succ_cons, List.take_nil, List.drop_nil, List.length_cons, List.length_nil, List.length_append, List.tail_cons, List.headD_cons, List.headD_nil, List.tail_nil,
  Nat.reduceEqDiff, Nat.reduceAdd, Nat.reduceMul, Nat.reduceLeDiff, ↓reduceIte, if_true, if_false, reduceCtorEq, true_and, and_true, false_and, and_false, decide_true, decide_false, Int.natCast_nonneg, Int.toNat_natCast, Nat.mul_one, Nat.one_mul, Nat.zero_add, Nat.add_zero, ne_eq, not_true_eq_false, not_false_eq_true, Nat.zero_le, Nat.le_refl, Int.toNat_zero, Nat.zero_mul, Nat.mul_zero, and_self, Nat.succ_ne_self,
  wrap64, wrap32, wrapU64, wrapU8, wrapU32, decide_eq_false hx0', decide_eq_false hx1', hk, ti45, ti4, hk0, hb, hcs k hk63]
    refine hq _ _ ?_
    simp only [pickL, lk_cons, Nat.reduceEqDiff, ↓reduceIte, reduceCtorEq, if_true, if_false]
    clear hq q
    have hbit := maskTo_bit xs k (by omega) i hpre
    repeat' (first | refine wpL_seq ?_ | refine wpL_skip ?_ | refine wpL_label ?_)
    refine wpL_cond rfl (fun hd => ?_) (fun hd => ?_)
    · repeat' (first | refine wpL_seq ?_ | refine wpL_skip ?_ | refine wpL_label ?_)
      refine wpL_region [2, 3] fun q hq => ?_
      simp -implicitDefEqProofs (disch := omega) only [gO_nil, gO_cons, gN_cond, gN_val, gN_bad, outV_some, outV_none, outV_guard, outA_guard, outP_guard, outA, outP, gN_store, putd_lk, putd_lk0, lk_cons, lk_nil, ev_tmp, ev, gdO_tt, gdO_ff, gdO_tf, gdO_ft, gdO_u,
  itemsOf, itemsAt, operO, stepO, convO, callO, callB, storeO, pureA, loadA, allocA, serA, selA, binA, binInt, unA, convA, partA, TD.isAgg, TD.isBool, TD.isPtr, TD.isFunc, fieldOf, indexA, indexAddrA_sl, indexAddrA_ptr, lenA_sl, lenA_snil, lenA_str, buildA, placesA, fillA, repl, eqA, eqV, eqV.eqFs,
  ofConst, ofLeaf, ofLeafs, AV.cells, AV.leaf, List.all_cons, List.all_nil, Bool.true_and, Bool.and_true, Bool.false_and, Bool.and_false, Bool.true_or, Bool.false_or, Bool.or_false, Bool.or_true, Bool.not_true, Bool.not_false, Bool.not_not,
  Option.bind_some, Option.bind_none, Option.map_some, Option.map_none, Option.getD_some, Option.getD_none, Option.bind_eq_bind, List.getElem?_cons_zero, List.getElem?_cons_succ, List.getElem?_nil, List.getElem?_toArray, List.map_cons, List.map_nil, List.append_nil, List.nil_append, List.cons_append, List.singleton_append,
  List.take_zero, List.drop_zero, List.take_succ_cons, List.drop_succ_cons, List.take_nil, List.drop_nil, List.length_cons, List.length_nil, List.length_append, List.tail_cons, List.headD_cons, List.headD_nil, List.tail_nil,
  Nat.reduceEqDiff, Nat.reduceAdd, Nat.reduceMul, Nat.reduceLeDiff, ↓reduceIte, if_true, if_false, reduceCtorEq, true_and, and_true, false_and, and_false, decide_true, decide_false, Int.natCast_nonneg, Int.toNat_natCast, Nat.mul_one, Nat.one_mul, Nat.zero_add, Nat.add_zero, ne_eq, not_true_eq_false, not_false_eq_true, Nat.zero_le, Nat.le_refl, Int.toNat_zero, Nat.zero_mul, Nat.mul_zero, and_self, Nat.succ_ne_self,
  wrap64, wrap32, wrapU64, wrapU8, wrapU32]
      refine hq _ _ ?_
      simp only [pickL, lk_cons, Nat.reduceEqDiff, ↓reduceIte, reduceCtorEq, if_true, if_false]
      clear hq q
      obtain ⟨j, h1, h2⟩ := hbit.1 hd
      exact bad (.inr (.inr ⟨j, h1, by rw [h2, hk]⟩)) _
    · have hd' : ¬ (maskTo xs i).getLsbD k = true := by rw [hd]; simp
      have hlen1 : k + 1 ≤ 64 := hk63
      repeat' (first | refine wpL_seq ?_ | refine wpL_skip ?_ | refine wpL_label ?_)
      refine wpL_region [0, 4, 5] fun q hq => ?_
      simp -implicitDefEqProofs (disch := omega) only [gO_nil, gO_cons, gN_cond, gN_val, gN_bad, outV_some, outV_none, outV_guard, outA_guard, outP_guard, outA, outP, gN_store, putd_lk, putd_lk0, lk_cons, lk_nil, ev_tmp, ev, gdO_tt, gdO_ff, gdO_tf, gdO_ft, gdO_u,
  itemsOf, itemsAt, operO, stepO, convO, callO, callB, storeO, pureA, loadA, allocA, serA, selA, binA, binInt, unA, convA, partA, TD.isAgg, TD.isBool, TD.isPtr, TD.isFunc, fieldOf, indexA, indexAddrA_sl, indexAddrA_ptr, lenA_sl, lenA_snil, lenA_str, buildA, placesA, fillA, repl, eqA, eqV, eqV.eqFs,
  ofConst, ofLeaf, ofLeafs, AV.cells, AV.leaf, List.all_cons, List.all_nil, Bool.true_and, Bool.and_true, Bool.false_and, Bool.and_false, Bool.true_or, Bool.false_or, Bool.or_false, Bool.or_true, Bool.not_true, Bool.not_false, Bool.not_not,
  Option.bind_some, Option.bind_none, Option.map_some, Option.map_none, Option.getD_some, Option.getD_none, Option.bind_eq_bind, List.getElem?_cons_zero, List.getElem?_cons_succ, List.getElem?_nil, List.getElem?_toArray, List.map_cons, List.map_nil, List.append_nil, List.nil_append, List.cons_append, List.singleton_append,
  List.take_zero, List.drop_zero, List.take_succ_cons, List.drop_succ_cons, List.take_nil, List.drop_nil, List.length_cons, List.length_nil, List.length_append, List.tail_cons, List.headD_cons, List.headD_nil, List.tail_nil,
  Nat.reduceEqDiff, Nat.reduceAdd, Nat.reduceMul, Nat.reduceLeDiff, ↓reduceIte, if_true, if_false, reduceCtorEq, true_and, and_true, false_and, and_false, decide_true, decide_false, Int.natCast_nonneg, Int.toNat_natCast, Nat.mul_one, Nat.one_mul, Nat.zero_add, Nat.add_zero, ne_eq, not_true_eq_false, not_false_eq_true, Nat.zero_le, Nat.le_refl, Int.toNat_zero, Nat.zero_mul, Nat.mul_zero, and_self, Nat.succ_ne_self,
  wrap64, wrap32, wrapU64, wrapU8, wrapU32, hk, ti45, ti4, hk0, hb, hcl, hlen1]
      refine gN_store_of rfl rfl fun m1 hb1 hk1 => ?_
      simp only [List.length_cons, List.length_nil, Nat.zero_add] at hb1
      rw [set_of_take (by omega)] at hb1
      simp -implicitDefEqProofs (disch := omega) only [gO_nil, gO_cons, gN_cond, gN_val, gN_bad, outV_some, outV_none, outV_guard, outA_guard, outP_guard, outA, outP, gN_store, putd_lk, putd_lk0, lk_cons, lk_nil, ev_tmp, ev, gdO_tt, gdO_ff, gdO_tf, gdO_ft, gdO_u,
  itemsOf, itemsAt, operO, stepO, convO, callO, callB, storeO, pureA, loadA, allocA, serA, selA, binA, binInt, unA, convA, partA, TD.isAgg, TD.isBool, TD.isPtr, TD.isFunc, fieldOf, indexA, indexAddrA_sl, indexAddrA_ptr, lenA_sl, lenA_snil, lenA_str, buildA, placesA, fillA, repl, eqA, eqV, eqV.eqFs,
  ofConst, ofLeaf, ofLeafs, AV.cells, AV.leaf, List.all_cons, List.all_nil, Bool.true_and, Bool.and_true, Bool.false_and, Bool.and_false, Bool.true_or, Bool.false_or, Bool.or_false, Bool.or_true, Bool.not_true, Bool.not_false, Bool.not_not,
  Option.bind_some, Option.bind_none, Option.map_some, Option.map_none, Option.getD_some, Option.getD_none, Option.bind_eq_bind, List.getElem?_cons_zero, List.getElem?_cons_succ, List.getElem?_nil, List.getElem?_toArray, List.map_cons, List.map_nil, List.append_nil, List.nil_append, List.cons_append, List.singleton_append,
  List.take_zero, List.drop_zero, List.take_succ_cons, List.drop_succ_cons, List.take_nil, List.drop_nil, List.length_cons, List.length_nil, List.length_append, List.tail_cons, List.headD_cons, List.headD_nil, List.tail_nil,
  Nat.reduceEqDiff, Nat.reduceAdd, Nat.reduceMul, Nat.reduceLeDiff, ↓reduceIte, if_true, if_false, reduceCtorEq, true_and, and_true, false_and, and_false, decide_true, decide_false, Int.natCast_nonneg, Int.toNat_natCast, Nat.mul_one, Nat.one_mul, Nat.zero_add, Nat.add_zero, ne_eq, not_true_eq_false, not_false_eq_true, Nat.zero_le, Nat.le_refl, Int.toNat_zero, Nat.zero_mul, Nat.mul_zero, and_self, Nat.succ_ne_self,
  wrap64, wrap32, wrapU64, wrapU8, wrapU32]
      refine hq _ _ ?_
      simp only [pickL, lk_cons, Nat.reduceEqDiff, ↓reduceIte, reduceCtorEq, if_true, if_false]
      clear hq q
      repeat' (first | refine wpL_seq ?_ | refine wpL_skip ?_ | refine wpL_label ?_)
      refine wpL_nil (hn3 _ _ ?_)
      repeat' (first | refine wpL_seq ?_ | refine wpL_skip ?_ | refine wpL_label ?_)
      refine wpL_region [0, 4, 5] fun q hq => ?_
      simp -implicitDefEqProofs (disch := omega) only [gO_nil, gO_cons, gN_cond, gN_val, gN_bad, outV_some, outV_none, outV_guard, outA_guard, outP_guard, outA, outP, gN_store, putd_lk, putd_lk0, lk_cons, lk_nil, ev_tmp, ev, gdO_tt, gdO_ff, gdO_tf, gdO_ft, gdO_u,
  itemsOf, itemsAt, operO, stepO, convO, callO, callB, storeO, pureA, loadA, allocA, serA, selA, binA, binInt, unA, convA, partA, TD.isAgg, TD.isBool, TD.isPtr, TD.isFunc, fieldOf, indexA, indexAddrA_sl, indexAddrA_ptr, lenA_sl, lenA_snil, lenA_str, buildA, placesA, fillA, repl, eqA, eqV, eqV.eqFs,
  ofConst, ofLeaf, ofLeafs, AV.cells, AV.leaf, List.all_cons, List.all_nil, Bool.true_and, Bool.and_true, Bool.false_and, Bool.and_false, Bool.true_or, Bool.false_or, Bool.or_false, Bool.or_true, Bool.not_true, Bool.not_false, Bool.not_not,
  Option.bind_some, Option.bind_none, Option.map_some, Option.map_none, Option.getD_some, Option.getD_none, Option.bind_eq_bind, List.getElem?_cons_zero, List.getElem?_cons_succ, List.getElem?_nil, List.getElem?_toArray, List.map_cons, List.map_nil, List.append_nil, List.nil_append, List.cons_append, List.singleton_append,
  List.take_zero, List.drop_zero, List.take_succ_cons, List.drop_succ_cons, List.take_nil, List.drop_nil, List.length_cons, List.length_nil, List.length_append, List.tail_cons, List.headD_cons, List.headD_nil, List.tail_nil,
  Nat.reduceEqDiff, Nat.reduceAdd, Nat.reduceMul, Nat.reduceLeDiff, ↓reduceIte, if_true, if_false, reduceCtorEq, true_and, and_true, false_and, and_false, decide_true, decide_false, Int.natCast_nonneg, Int.toNat_natCast, Nat.mul_one, Nat.one_mul, Nat.zero_add, Nat.add_zero, ne_eq, not_true_eq_false, not_false_eq_true, Nat.zero_le, Nat.le_refl, Int.toNat_zero, Nat.zero_mul, Nat.mul_zero, and_self, Nat.succ_ne_self,
  wrap64, wrap32, wrapU64, wrapU8, wrapU32]
      refine hq _ _ ?_
      simp only [pickL, lk_cons, Nat.reduceEqDiff, ↓reduceIte, reduceCtorEq, if_true, if_false]
      clear hq q
      have hba : ∀ x ∈ blkOf a, x ≠ b := fun x hx => by
        rintro rfl
        rcases ha0 with ⟨rfl, _⟩ | ⟨b', o', rfl, h2⟩ | ⟨b', o', k', rfl, h2, _⟩
        · simp [blkOf] at hx
        · omega
        · simp [blkOf] at hx; subst hx; rw [hb0] at h2; cases h2
      refine wpL_nil (hn2 (n - (i + 1)) _ _ (by omega) ⟨i + 1, by omega, by omega, rfl, ?_, ?_, ?_, _, hb1, by simp [hcl], ?_⟩)
      · intro i' hi'
        by_cases e : i' = i
        · subst e
          rintro (h | h | ⟨j, h1, h2⟩)
          · exact hx0 h
          · exact hx1 h
          · exact hd' (hbit.2 ⟨j, h1, by rw [h2, hk]⟩)
        · exact hpre i' (by omega)
      · intro x _ kx hx
        exact hk1 x (by rintro h; simp at h; subst h; rw [hb0] at hx; cases hx) kx (hkeep x (by simp) kx hx)
      · exact ha.keep hk1 (by
          rintro b' o' s' rfl
          simpa using hba b' (by simp [blkOf]))
      · intro j hj
        rw [List.getElem?_set]
        by_cases hjk : k = j
        · subst hjk
          simp [hcl, hj, maskTo, hk]
        · rw [if_neg hjk, hcs j hj]
          simp only [maskTo, hk, Int.toNat_natCast, BitVec.getLsbD_or, BitVec.getLsbD_shiftLeft, BitVec.getLsbD_one]
          have : decide (j - k = 0) = false ∨ decide (j < k) = true := by
            by_cases h : j < k
            · right; simpa using h
            · left; simp; omega
          rcases this with h | h <;> simp at h <;> simp [h] <;> omega
  · have hlt : ¬ (i < n) := by simpa using hc
    have hin : i = n := by omega
    subst hin
    repeat' (first | refine wpL_seq ?_ | refine wpL_skip ?_ | refine wpL_label ?_)
    refine wpL_exit (hx2 _ _ _ (by simp) (hx1 _ _ ?_))
    repeat' (first | refine wpL_seq ?_ | refine wpL_skip ?_ | refine wpL_label ?_)
    refine wpL_region [4, 7] fun q hq => ?_
    simp -implicitDefEqProofs (disch := omega) only [gO_nil, gO_cons, gN_cond, gN_val, gN_bad, outV_some, outV_none, outV_guard, outA_guard, outP_guard, outA, outP, gN_store, putd_lk, putd_lk0, lk_cons, lk_nil, ev_tmp, ev, gdO_tt, gdO_ff, gdO_tf, gdO_ft, gdO_u,
  itemsOf, itemsAt, operO, stepO, convO, callO, callB, storeO, pureA, loadA, allocA, serA, selA, binA, binInt, unA, convA, partA, TD.isAgg, TD.isBool, TD.isPtr, TD.isFunc, fieldOf, indexA, indexAddrA_sl, indexAddrA_ptr, lenA_sl, lenA_snil, lenA_str, buildA, placesA, fillA, repl, eqA, eqV, eqV.eqFs,
  ofConst, ofLeaf, ofLeafs, AV.cells, AV.leaf, List.all_cons, List.all_nil, Bool.true_and, Bool.and_true, Bool.false_and, Bool.and_false, Bool.true_or, Bool.false_or, Bool.or_false, Bool.or_true, Bool.not_true, Bool.not_false, Bool.not_not,
  Option.bind_some, Option.bind_none, Option.map_some, Option.map_none, Option.getD_some, Option.getD_none, Option.bind_eq_bind, List.getElem?_cons_zero, List.getElem?_cons_succ, List.getElem?_nil, List.getElem?_toArray, List.map_cons, List.map_nil, List.append_nil, List.nil_append, List.cons_append, List.singleton_append,
  List.take_zero, List.drop_zero, List.take_succ_cons, List.drop_succ_cons, List.take_nil, List.drop_nil, List.length_cons, List.length_nil, List.length_append, List.tail_cons, List.headD_cons, List.headD_nil, List.tail_nil,
  Nat.reduceEqDiff, Nat.reduceAdd, Nat.reduceMul, Nat.reduceLeDiff, ↓reduceIte, if_true, if_false, reduceCtorEq, true_and, and_true, false_and, and_false, decide_true, decide_false, Int.natCast_nonneg, Int.toNat_natCast, Nat.mul_one, Nat.one_mul, Nat.zero_add, Nat.add_zero, ne_eq, not_true_eq_false, not_false_eq_true, Nat.zero_le, Nat.le_refl, Int.toNat_zero, Nat.zero_mul, Nat.mul_zero, and_self, Nat.succ_ne_self,
  wrap64, wrap32, wrapU64, wrapU8, wrapU32]
    refine hq _ _ ?_
    simp only [pickL, lk_cons, Nat.reduceEqDiff, ↓reduceIte, reduceCtorEq, if_true, if_false]
    clear hq q
    repeat' (first | refine wpL_seq ?_ | refine wpL_skip ?_ | refine wpL_label ?_)
    refine wpL_region [4, 7, 8] fun q hq => ?_
    simp -implicitDefEqProofs (disch := omega) only [gO_nil, gO_cons, gN_cond, gN_val, gN_bad, outV_some, outV_none, outV_guard, outA_guard, outP_guard, outA, outP, gN_store, putd_lk, putd_lk0, lk_cons, lk_nil, ev_tmp, ev, gdO_tt, gdO_ff, gdO_tf, gdO_ft, gdO_u,
  itemsOf, itemsAt, operO, stepO, convO, callO, callB, storeO, pureA, loadA, allocA, serA, selA, binA, binInt, unA, convA, partA, TD.isAgg, TD.isBool, TD.isPtr, TD.isFunc, fieldOf, indexA, indexAddrA_sl, indexAddrA_ptr, lenA_sl, lenA_snil, lenA_str, buildA, placesA, fillA, repl, eqA, eqV, eqV.eqFs,
  ofConst, ofLeaf, ofLeafs, AV.cells, AV.leaf, List.all_cons, List.all_nil, Bool.true_and, Bool.and_true, Bool.false_and, Bool.and_false, Bool.true_or, Bool.false_or, Bool.or_false, Bool.or_true, Bool.not_true, Bool.not_false, Bool.not_not,
  Option.bind_some, Option.bind_none, Option.map_some, Option.map_none, Option.getD_some, Option.getD_none, Option.bind_eq_bind, List.getElem?_cons_zero, List.getElem?_cons_succ, List.getElem?_nil, List.getElem?_toArray, List.map_cons, List.map_nil, List.append_nil, List.nil_append, List.cons_append, List.singleton_append,
  List.take_zero, List.drop_zero, List.take_succ_cons, List.drop_succ_cons, List.take_nil, List.drop_nil, List.length_cons, List.length_nil, List.length_append, List.tail_cons, List.headD_cons, List.headD_nil, List.tail_nil,
  Nat.reduceEqDiff, Nat.reduceAdd, Nat.reduceMul, Nat.reduceLeDiff, ↓reduceIte, if_true, if_false, reduceCtorEq, true_and, and_true, false_and, and_false, decide_true, decide_false, Int.natCast_nonneg, Int.toNat_natCast, Nat.mul_one, Nat.one_mul, Nat.zero_add, Nat.add_zero, ne_eq, not_true_eq_false, not_false_eq_true, Nat.zero_le, Nat.le_refl, Int.toNat_zero, Nat.zero_mul, Nat.mul_zero, and_self, Nat.succ_ne_self,
  wrap64, wrap32, wrapU64, wrapU8, wrapU32]
    refine hq _ _ ?_
    simp only [pickL, lk_cons, Nat.reduceEqDiff, ↓reduceIte, reduceCtorEq, if_true, if_false]
    clear hq q
    repeat' (first | refine wpL_seq ?_ | refine wpL_skip ?_ | refine wpL_label ?_)
    refine wpL_block fun k4 hn4 hx4 ho4 => ?_
    -- the words that stand above k, as a number
    refine wpL_loop (fun j e m2 => ∃ k : Nat, k ≤ 64 ∧ j = k ∧ m2 = m' ∧ e = lk [(4, .ptr b 0), (7, .int .u64 ((maskTo xs i) >>> k).toNat), (8, .int .i64 ((k : Int) - 1))]) 64 ⟨64, by omega, rfl, rfl, ?_⟩ ?_
    · have h64 : maskTo xs i >>> 64 = 0 := by ext; simp
      rw [h64]; rfl
    rintro j e m2 ⟨k, hk64, rfl, rfl, rfl⟩ k5 hn5 hx5
    repeat' (first | refine wpL_seq ?_ | refine wpL_skip ?_ | refine wpL_label ?_)
    refine wpL_region [4, 7, 8, 33] fun q hq => ?_
    simp -implicitDefEqProofs (disch := omega) only [gO_nil, gO_cons, gN_cond, gN_val, gN_bad, outV_some, outV_none, outV_guard, outA_guard, outP_guard, outA, outP, gN_store, putd_lk, putd_lk0, lk_cons, lk_nil, ev_tmp, ev, gdO_tt, gdO_ff, gdO_tf, gdO_ft, gdO_u,
  itemsOf, itemsAt, operO, stepO, convO, callO, callB, storeO, pureA, loadA, allocA, serA, selA, binA, binInt, unA, convA, partA, TD.isAgg, TD.isBool, TD.isPtr, TD.isFunc, fieldOf, indexA, indexAddrA_sl, indexAddrA_ptr, lenA_sl, lenA_snil, lenA_str, buildA, placesA, fillA, repl, eqA, eqV, eqV.eqFs,
  ofConst, ofLeaf, ofLeafs, AV.cells, AV.leaf, List.all_cons, List.all_nil, Bool.true_and, Bool.and_true, Bool.false_and, Bool.and_false, Bool.true_or, Bool.false_or, Bool.or_false, Bool.or_true, Bool.not_true, Bool.not_false, Bool.not_not,
  Option.bind_some, Option.bind_none, Option.map_some, Option.map_none, Option.getD_some, Option.getD_none, Option.bind_eq_bind, List.getElem?_cons_zero, List.getElem?_cons_succ, List.getElem?_nil, List.getElem?_toArray, List.map_cons, List.map_nil, List.append_nil, List.nil_append, List.cons_append, List.singleton_append,
  List.take_zero, List.drop_zero, List.take_succ_cons, List.drop_succ_cons, List.take_nil, List.drop_nil, List.length_cons, List.length_nil, List.length_append, List.tail_cons, List.headD_cons, List.headD_nil, List.tail_nil,
  Nat.reduceEqDiff, Nat.reduceAdd, Nat.reduceMul, Nat.reduceLeDiff, ↓reduceIte, if_true, if_false, reduceCtorEq, true_and, and_true, false_and, and_false, decide_true, decide_false, Int.natCast_nonneg, Int.toNat_natCast, Nat.mul_one, Nat.one_mul, Nat.zero_add, Nat.add_zero, ne_eq, not_true_eq_false, not_false_eq_true, Nat.zero_le, Nat.le_refl, Int.toNat_zero, Nat.zero_mul, Nat.mul_zero, and_self, Nat.succ_ne_self,
  wrap64, wrap32, wrapU64, wrapU8, wrapU32]
    refine hq _ _ ?_
    simp only [pickL, lk_cons, Nat.reduceEqDiff, ↓reduceIte, reduceCtorEq, if_true, if_false]
    clear hq q
    repeat' (first | refine wpL_seq ?_ | refine wpL_skip ?_ | refine wpL_label ?_)
    refine wpL_cond rfl (fun hc => ?_) (fun hc => ?_)
    · have hk1 : 1 ≤ j := by simp at hc; omega
      obtain ⟨k, rfl⟩ : ∃ k', j = k' + 1 := ⟨j - 1, by omega⟩
      have he : ((k + 1 : Nat) : Int) - 1 = k := by omega
      have hkk : (k : Int) < ((64 : Nat) : Int) := by omega
      have hbk := hcs k (by omega)
      have hst := shr_step (maskTo xs i) k (by omega)
      have hlt64 := (maskTo xs i >>> k).isLt
      generalize hX : (maskTo xs i >>> (k + 1)).toNat = X at *
      generalize hY : (maskTo xs i >>> k).toNat = Y at *
      have hX2 : 2 * X ≤ 18446744073709551615 := by split at hst <;> omega
      repeat' (first | refine wpL_seq ?_ | refine wpL_skip ?_ | refine wpL_label ?_)
      refine wpL_block fun k6 hn6 hx6 ho6 => ?_
      repeat' (first | refine wpL_seq ?_ | refine wpL_skip ?_ | refine wpL_label ?_)
      refine wpL_region [4, 7, 8] fun q hq => ?_
      simp -implicitDefEqProofs (disch := omega) only [gO_nil, gO_cons, gN_cond, gN_val, gN_bad, outV_some, outV_none, outV_guard, outA_guard, outP_guard, outA, outP, gN_store, putd_lk, putd_lk0, lk_cons, lk_nil, ev_tmp, ev, gdO_tt, gdO_ff, gdO_tf, gdO_ft, gdO_u,
  itemsOf, itemsAt, operO, stepO, convO, callO, callB, storeO, pureA, loadA, allocA, serA, selA, binA, binInt, unA, convA, partA, TD.isAgg, TD.isBool, TD.isPtr, TD.isFunc, fieldOf, indexA, indexAddrA_sl, indexAddrA_ptr, lenA_sl, lenA_snil, lenA_str, buildA, placesA, fillA, repl, eqA, eqV, eqV.eqFs,
  ofConst, ofLeaf, ofLeafs, AV.cells, AV.leaf, List.all_cons, List.all_nil, Bool.true_and, Bool.and_true, Bool.false_and, Bool.and_false, Bool.true_or, Bool.false_or, Bool.or_false, Bool.or_true, Bool.not_true, Bool.not_false, Bool.not_not,
  Option.bind_some, Option.bind_none, Option.map_some, Option.map_none, Option.getD_some, Option.getD_none, Option.bind_eq_bind, List.getElem?_cons_zero, List.getElem?_cons_succ, List.getElem?_nil, List.getElem?_toArray, List.map_cons, List.map_nil, List.append_nil, List.nil_append, List.cons_append, List.singleton_append,
  List.take_zero, List.drop_zero, List.take_succ_cons, List.drop_succ_cons, List.take_nil, List.drop_nil, List.length_cons, List.length_nil, List.length_append, List.tail_cons, List.headD_cons, List.headD_nil, List.tail_nil,
  Nat.reduceEqDiff, Nat.reduceAdd, Nat.reduceMul, Nat.reduceLeDiff, ↓reduceIte, if_true, if_false, reduceCtorEq, true_and, and_true, false_and, and_false, decide_true, decide_false, Int.natCast_nonneg, Int.toNat_natCast, Nat.mul_one, Nat.one_mul, Nat.zero_add, Nat.add_zero, ne_eq, not_true_eq_false, not_false_eq_true, Nat.zero_le, Nat.le_refl, Int.toNat_zero, Nat.zero_mul, Nat.mul_zero, and_self, Nat.succ_ne_self,
  wrap64, wrap32, wrapU64, wrapU8, wrapU32]
      refine hq _ _ ?_
      simp only [pickL, lk_cons, Nat.reduceEqDiff, ↓reduceIte, reduceCtorEq, if_true, if_false]
      clear hq q
      repeat' (first | refine wpL_seq ?_ | refine wpL_skip ?_ | refine wpL_label ?_)
      refine wpL_region [4, 7, 8, 40] fun q hq => ?_
      simp -implicitDefEqProofs (disch := omega) only [gO_nil, gO_cons, gN_cond, gN_val, gN_bad, outV_some, outV_none, outV_guard, outA_guard, outP_guard, outA, outP, gN_store, putd_lk, putd_lk0, lk_cons, lk_nil, ev_tmp, ev, gdO_tt, gdO_ff, gdO_tf, gdO_ft, gdO_u,
  itemsOf, itemsAt, operO, stepO, convO, callO, callB, storeO, pureA, loadA, allocA, serA, selA, binA, binInt, unA, convA, partA, TD.isAgg, TD.isBool, TD.isPtr, TD.isFunc, fieldOf, indexA, indexAddrA_sl, indexAddrA_ptr, lenA_sl, lenA_snil, lenA_str, buildA, placesA, fillA, repl, eqA, eqV, eqV.eqFs,
  ofConst, ofLeaf, ofLeafs, AV.cells, AV.leaf, List.all_cons, List.all_nil, Bool.true_and, Bool.and_true, Bool.false_and, Bool.and_false, Bool.true_or, Bool.false_or, Bool.or_false, Bool.or_true, Bool.not_true, Bool.not_false, Bool.not_not,
  Option.bind_some, Option.bind_none, Option.map_some, Option.map_none, Option.getD_some, Option.getD_none, Option.bind_eq_bind, List.getElem?_cons_zero, List.getElem?_cons_succ, List.getElem?_nil, List.getElem?_toArray, List.map_cons, List.map_nil, List.append_nil, List.nil_append, List.cons_append, List.singleton_append,
  List.take_zero, List.drop_zero, List.take_succ_cons, List.drop_succ_cons, List.take_nil, List.drop_nil, List.length_cons, List.length_nil, List.length_append, List.tail_cons, List.headD_cons, List.headD_nil, List.tail_nil,
  Nat.reduceEqDiff, Nat.reduceAdd, Nat.reduceMul, Nat.reduceLeDiff, ↓reduceIte, if_true, if_false, reduceCtorEq, true_and, and_true, false_and, and_false, decide_true, decide_false, Int.natCast_nonneg, Int.toNat_natCast, Nat.mul_one, Nat.one_mul, Nat.zero_add, Nat.add_zero, ne_eq, not_true_eq_false, not_false_eq_true, Nat.zero_le, Nat.le_refl, Int.toNat_zero, Nat.zero_mul, Nat.mul_zero, and_self, Nat.succ_ne_self,
  wrap64, wrap32, wrapU64, wrapU8, wrapU32, he, ti45, ti4, hkk, hb, hbk]
      refine hq _ _ ?_
      simp only [pickL, lk_cons, Nat.reduceEqDiff, ↓reduceIte, reduceCtorEq, if_true, if_false]
      clear hq q
      have fin : ∀ Z : Nat, Z = Y → wpL Try.prog [] (lk [(4, .ptr b 0), (7, .int .u64 Z), (8, .int .i64 ((k : Int) - 1))]) m2 k5 := by
        rintro Z rfl
        exact wpL_nil (hn5 k _ _ (by omega) ⟨k, by omega, rfl, rfl, by rw [hY]⟩)
      repeat' (first | refine wpL_seq ?_ | refine wpL_skip ?_ | refine wpL_label ?_)
      refine wpL_cond rfl (fun hd => ?_) (fun hd => ?_)
      · have hY1 : Y = 2 * X + 1 := by rw [hst, if_pos (by simpa using hd)]
        repeat' (first | refine wpL_seq ?_ | refine wpL_skip ?_ | refine wpL_label ?_)
        refine wpL_region [4, 7, 8] fun q hq => ?_
        simp -implicitDefEqProofs (disch := omega) only [gO_nil, gO_cons, gN_cond, gN_val, gN_bad, outV_some, outV_none, outV_guard, outA_guard, outP_guard, outA, outP, gN_store, putd_lk, putd_lk0, lk_cons, lk_nil, ev_tmp, ev, gdO_tt, gdO_ff, gdO_tf, gdO_ft, gdO_u,
  itemsOf, itemsAt, operO, stepO, convO, callO, callB, storeO, pureA, loadA, allocA, serA, selA, binA, binInt, unA, convA, partA, TD.isAgg, TD.isBool, TD.isPtr, TD.isFunc, fieldOf, indexA, indexAddrA_sl, indexAddrA_ptr, lenA_sl, lenA_snil, lenA_str, buildA, placesA, fillA, repl, eqA, eqV, eqV.eqFs,
  ofConst, ofLeaf, ofLeafs, AV.cells, AV.leaf, List.all_cons, List.all_nil, Bool.true_and, Bool.and_true, Bool.false_and, Bool.and_false, Bool.true_or, Bool.false_or, Bool.or_false, Bool.or_true, Bool.not_true, Bool.not_false, Bool.not_not,
  Option.bind_some, Option.bind_none, Option.map_some, Option.map_none, Option.getD_some, Option.getD_none, Option.bind_eq_bind, List.getElem?_cons_zero, List.getElem?_cons_succ, List.getElem?_nil, List.getElem?_toArray, List.map_cons, List.map_nil, List.append_nil, List.nil_append, List.cons_append, List.singleton_append,
  List.take_zero, List.drop_zero, List.take_succ_cons, List.drop_succ_cons, List.take_nil, List.drop_nil, List.length_cons, List.length_nil, List.length_append, List.tail_cons, List.headD_cons, List.headD_nil, List.tail_nil,
  Nat.reduceEqDiff, Nat.reduceAdd, Nat.reduceMul, Nat.reduceLeDiff, ↓reduceIte, if_true, if_false, reduceCtorEq, true_and, and_true, false_and, and_false, decide_true, decide_false, Int.natCast_nonneg, Int.toNat_natCast, Nat.mul_one, Nat.one_mul, Nat.zero_add, Nat.add_zero, ne_eq, not_true_eq_false, not_false_eq_true, Nat.zero_le, Nat.le_refl, Int.toNat_zero, Nat.zero_mul, Nat.mul_zero, and_self, Nat.succ_ne_self,
  wrap64, wrap32, wrapU64, wrapU8, wrapU32]
        refine hq _ _ ?_
        simp only [pickL, lk_cons, Nat.reduceEqDiff, ↓reduceIte, reduceCtorEq, if_true, if_false]
        clear hq q
        refine wpL_nil (hn6 _ _ ?_)
        repeat' (first | refine wpL_seq ?_ | refine wpL_skip ?_ | refine wpL_label ?_)
        refine wpL_region [4, 7, 8] fun q hq => ?_
        simp -implicitDefEqProofs (disch := omega) only [gO_nil, gO_cons, gN_cond, gN_val, gN_bad, outV_some, outV_none, outV_guard, outA_guard, outP_guard, outA, outP, gN_store, putd_lk, putd_lk0, lk_cons, lk_nil, ev_tmp, ev, gdO_tt, gdO_ff, gdO_tf, gdO_ft, gdO_u,
  itemsOf, itemsAt, operO, stepO, convO, callO, callB, storeO, pureA, loadA, allocA, serA, selA, binA, binInt, unA, convA, partA, TD.isAgg, TD.isBool, TD.isPtr, TD.isFunc, fieldOf, indexA, indexAddrA_sl, indexAddrA_ptr, lenA_sl, lenA_snil, lenA_str, buildA, placesA, fillA, repl, eqA, eqV, eqV.eqFs,
  ofConst, ofLeaf, ofLeafs, AV.cells, AV.leaf, List.all_cons, List.all_nil, Bool.true_and, Bool.and_true, Bool.false_and, Bool.and_false, Bool.true_or, Bool.false_or, Bool.or_false, Bool.or_true, Bool.not_true, Bool.not_false, Bool.not_not,
  Option.bind_some, Option.bind_none, Option.map_some, Option.map_none, Option.getD_some, Option.getD_none, Option.bind_eq_bind, List.getElem?_cons_zero, List.getElem?_cons_succ, List.getElem?_nil, List.getElem?_toArray, List.map_cons, List.map_nil, List.append_nil, List.nil_append, List.cons_append, List.singleton_append,
  List.take_zero, List.drop_zero, List.take_succ_cons, List.drop_succ_cons, List.take_nil, List.drop_nil, List.length_cons, List.length_nil, List.length_append, List.tail_cons, List.headD_cons, List.headD_nil, List.tail_nil,
  Nat.reduceEqDiff, Nat.reduceAdd, Nat.reduceMul, Nat.reduceLeDiff, ↓reduceIte, if_true, if_false, reduceCtorEq, true_and, and_true, false_and, and_false, decide_true, decide_false, Int.natCast_nonneg, Int.toNat_natCast, Nat.mul_one, Nat.one_mul, Nat.zero_add, Nat.add_zero, ne_eq, not_true_eq_false, not_false_eq_true, Nat.zero_le, Nat.le_refl, Int.toNat_zero, Nat.zero_mul, Nat.mul_zero, and_self, Nat.succ_ne_self,
  wrap64, wrap32, wrapU64, wrapU8, wrapU32, he]
        refine hq _ _ ?_
        simp only [pickL, lk_cons, Nat.reduceEqDiff, ↓reduceIte, reduceCtorEq, if_true, if_false]
        clear hq q
        have := fin (2 * X + 1) hY1.symm
        have e1 : (((2 * X + 1 : Nat) : Nat) : Int) = (X : Int) * 2 + 1 := by omega
        rw [e1] at this
        exact this
      · have hY1 : Y = 2 * X := by rw [hst, if_neg (by simpa using hd)]; omega
        repeat' (first | refine wpL_seq ?_ | refine wpL_skip ?_ | refine wpL_label ?_)
        refine wpL_nil (hn6 _ _ ?_)
        repeat' (first | refine wpL_seq ?_ | refine wpL_skip ?_ | refine wpL_label ?_)
        refine wpL_region [4, 7, 8] fun q hq => ?_
        simp -implicitDefEqProofs (disch := omega) only [gO_nil, gO_cons, gN_cond, gN_val, gN_bad, outV_some, outV_none, outV_guard, outA_guard, outP_guard, outA, outP, gN_store, putd_lk, putd_lk0, lk_cons, lk_nil, ev_tmp, ev, gdO_tt, gdO_ff, gdO_tf, gdO_ft, gdO_u,
  itemsOf, itemsAt, operO, stepO, convO, callO, callB, storeO, pureA, loadA, allocA, serA, selA, binA, binInt, unA, convA, partA, TD.isAgg, TD.isBool, TD.isPtr, TD.isFunc, fieldOf, indexA, indexAddrA_sl, indexAddrA_ptr, lenA_sl, lenA_snil, lenA_str, buildA, placesA, fillA, repl, eqA, eqV, eqV.eqFs,
  ofConst, ofLeaf, ofLeafs, AV.cells, AV.leaf, List.all_cons, List.all_nil, Bool.true_and, Bool.and_true, Bool.false_and, Bool.and_false, Bool.true_or, Bool.false_or, Bool.or_false, Bool.or_true, Bool.not_true, Bool.not_false, Bool.not_not,
  Option.bind_some, Option.bind_none, Option.map_some, Option.map_none, Option.getD_some, Option.getD_none, Option.bind_eq_bind, List.getElem?_cons_zero, List.getElem?_cons_succ, List.getElem?_nil, List.getElem?_toArray, List.map_cons, List.map_nil, List.append_nil, List.nil_append, List.cons_append, List.singleton_append,
  List.take_zero, List.drop_zero, List.take_succ_cons, List.drop_succ_cons, List.take_nil, List.drop_nil, List.length_cons, List.length_nil, List.length_append, List.tail_cons, List.headD_cons, List.headD_nil, List.tail_nil,
  Nat.reduceEqDiff, Nat.reduceAdd, Nat.reduceMul, Nat.reduceLeDiff, ↓reduceIte, if_true, if_false, reduceCtorEq, true_and, and_true, false_and, and_false, decide_true, decide_false, Int.natCast_nonneg, Int.toNat_natCast, Nat.mul_one, Nat.one_mul, Nat.zero_add, Nat.add_zero, ne_eq, not_true_eq_false, not_false_eq_true, Nat.zero_le, Nat.le_refl, Int.toNat_zero, Nat.zero_mul, Nat.mul_zero, and_self, Nat.succ_ne_self,
  wrap64, wrap32, wrapU64, wrapU8, wrapU32, he]
        refine hq _ _ ?_
        simp only [pickL, lk_cons, Nat.reduceEqDiff, ↓reduceIte, reduceCtorEq, if_true, if_false]
        clear hq q
        have := fin (2 * X) hY1.symm
        have e1 : (((2 * X : Nat) : Nat) : Int) = (X : Int) * 2 := by omega
        rw [e1] at this
        exact this
    · have hj : j = 0 := by simp at hc; omega
      subst hj
      repeat' (first | refine wpL_seq ?_ | refine wpL_skip ?_ | refine wpL_label ?_)
      refine wpL_exit (hx5 _ _ _ (by simp) (hx4 _ _ ?_))
      repeat' (first | refine wpL_seq ?_ | refine wpL_skip ?_ | refine wpL_label ?_)
      refine wpL_region [2, 3] fun q hq => ?_
      simp -implicitDefEqProofs (disch := omega) only [gO_nil, gO_cons, gN_cond, gN_val, gN_bad, outV_some, outV_none, outV_guard, outA_guard, outP_guard, outA, outP, gN_store, putd_lk, putd_lk0, lk_cons, lk_nil, ev_tmp, ev, gdO_tt, gdO_ff, gdO_tf, gdO_ft, gdO_u,
  itemsOf, itemsAt, operO, stepO, convO, callO, callB, storeO, pureA, loadA, allocA, serA, selA, binA, binInt, unA, convA, partA, TD.isAgg, TD.isBool, TD.isPtr, TD.isFunc, fieldOf, indexA, indexAddrA_sl, indexAddrA_ptr, lenA_sl, lenA_snil, lenA_str, buildA, placesA, fillA, repl, eqA, eqV, eqV.eqFs,
  ofConst, ofLeaf, ofLeafs, AV.cells, AV.leaf, List.all_cons, List.all_nil, Bool.true_and, Bool.and_true, Bool.false_and, Bool.and_false, Bool.true_or, Bool.false_or, Bool.or_false, Bool.or_true, Bool.not_true, Bool.not_false, Bool.not_not,
  Option.bind_some, Option.bind_none, Option.map_some, Option.map_none, Option.getD_some, Option.getD_none, Option.bind_eq_bind, List.getElem?_cons_zero, List.getElem?_cons_succ, List.getElem?_nil, List.getElem?_toArray, List.map_cons, List.map_nil, List.append_nil, List.nil_append, List.cons_append, List.singleton_append,
  List.take_zero, List.drop_zero, List.take_succ_cons, List.drop_succ_cons, List.take_nil, List.drop_nil, List.length_cons, List.length_nil, List.length_append, List.tail_cons, List.headD_cons, List.headD_nil, List.tail_nil,
  Nat.reduceEqDiff, Nat.reduceAdd, Nat.reduceMul, Nat.reduceLeDiff, ↓reduceIte, if_true, if_false, reduceCtorEq, true_and, and_true, false_and, and_false, decide_true, decide_false, Int.natCast_nonneg, Int.toNat_natCast, Nat.mul_one, Nat.one_mul, Nat.zero_add, Nat.add_zero, ne_eq, not_true_eq_false, not_false_eq_true, Nat.zero_le, Nat.le_refl, Int.toNat_zero, Nat.zero_mul, Nat.mul_zero, and_self, Nat.succ_ne_self,
  wrap64, wrap32, wrapU64, wrapU8, wrapU32]
      refine hq _ _ ?_
      simp only [pickL, lk_cons, Nat.reduceEqDiff, ↓reduceIte, reduceCtorEq, if_true, if_false]
      clear hq q
      repeat' (first | refine wpL_seq ?_ | refine wpL_skip ?_ | refine wpL_label ?_)
      refine wpL_ret (hK' _ _ _ _ (.inr rfl) rfl ?_)
      simp only [pickL, lk_cons, Nat.reduceEqDiff, ↓reduceIte, reduceCtorEq, if_true, if_false]
      have hV : maskV xs i = .tup [.int .u64 (maskTo xs i).toNat, .int .i64 0] := if_neg fun ⟨j, h1, h2⟩ => hpre j h1 h2
      have := hK _ hkeep
      rw [hV] at this
      simpa using this
end Go.Proofs.Ytchhknkflhikmaa.Am
