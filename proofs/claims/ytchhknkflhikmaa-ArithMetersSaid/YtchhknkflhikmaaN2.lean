/- Counts, timers, detectors, as the reference has them. -/
import Derived.Test.YtchhknkflhikmaaN1
namespace Go.Proofs.Ytchhknkflhikmaa.Am
open Go Go.Proofs
set_option linter.unusedVariables false
set_option linter.unusedSimpArgs false
set_option maxRecDepth 100000
theorem ti41 : tiOf Try.prog 41 = some ⟨.struct [(0, 21), (1, 4)] true, 2, 8, [.int .i32 0, .bool false]⟩ := by kernel_rfl
theorem f16_up {m n K} (h1 : -2147483648 ≤ n) (h2 : n ≤ 2147483647) (hK : K (.int .i32 (upV n)) m) : wpF Try.prog 16 [.int .i32 n] m K := by
  refine wpF_intro (fn := Try.f16) rfl rfl (by decide) (by kernel_rfl) fun K' hK' => ?_
  repeat' (first | refine wpL_seq ?_ | refine wpL_skip ?_ | refine wpL_label ?_)
  refine wpL_region [0] fun q hq => ?_
  simp -implicitDefEqProofs (disch := omega) only [gO_nil, gO_cons, gN_cond, gN_val, gN_bad, outV_some, outV_none, outV_guard, outA_guard, outP_guard, outA_some, outA_none, outP_some, outP_none, guardO_true, gN_store, putd_lk, putd_lk0, lk_cons, lk_nil, ev_tmp, ev, gdO_tt, gdO_ff, gdO_tf, gdO_ft, gdO_u,
  itemsOf, itemsAt, operO, stepO, convO, callO, callB, storeO, pureA, loadA, allocA, serA, selA, binA, binInt, unA, convA, partA, TD.isAgg, TD.isBool, TD.isPtr, TD.isFunc, fieldOf, indexA, indexAddrA_sl, indexAddrA_ptr, lenA_sl, lenA_snil, lenA_str, buildA, placesA, fillA, repl, eqA, eqV, eqV.eqFs,
  ofConst, ofLeaf, ofLeafs, AV.cells, AV.leaf, List.all_cons, List.all_nil, Bool.true_and, Bool.and_true, Bool.false_and, Bool.and_false, Bool.true_or, Bool.false_or, Bool.or_false, Bool.or_true, Bool.not_true, Bool.not_false, Bool.not_not,
  Option.bind_some, Option.bind_none, Option.map_some, Option.map_none, Option.getD_some, Option.getD_none, Option.bind_eq_bind, List.getElem?_cons_zero, List.getElem?_cons_succ, List.getElem?_nil, List.getElem?_toArray, List.map_cons, List.map_nil, List.append_nil, List.nil_append, List.cons_append, List.singleton_append,
  List.take_zero, List.drop_zero, List.take_succ_cons, List.drop_succ_cons, List.take_nil, List.drop_nil, List.length_cons, List.length_nil, List.length_append, List.tail_cons, List.headD_cons, List.headD_nil, List.tail_nil,
  Nat.reduceEqDiff, Nat.reduceAdd, Nat.reduceMul, Nat.reduceLeDiff, ↓reduceIte, if_true, if_false, reduceCtorEq, true_and, and_true, false_and, and_false, decide_true, decide_false, Int.natCast_nonneg, Int.toNat_natCast, Nat.mul_one, Nat.one_mul, Nat.zero_add, Nat.add_zero, ne_eq, not_true_eq_false, not_false_eq_true, Nat.zero_le, Nat.zero_lt_succ, Nat.zero_lt_one, Nat.le_refl, Int.toNat_zero, Nat.zero_mul, Nat.mul_zero, and_self, beq_self_eq_true, Nat.succ_ne_self,
  wrap64, wrap32, wrapU64, wrapU8, wrapU32, argL]
  refine hq _ _ ?_
  simp only [pickL, lk_cons, Nat.reduceEqDiff, ↓reduceIte, reduceCtorEq, if_true, if_false]
  clear hq q
  repeat' (first | refine wpL_seq ?_ | refine wpL_skip ?_ | refine wpL_label ?_)
  refine wpL_region [0, 4] fun q hq => ?_
  simp -implicitDefEqProofs (disch := omega) only [gO_nil, gO_cons, gN_cond, gN_val, gN_bad, outV_some, outV_none, outV_guard, outA_guard, outP_guard, outA_some, outA_none, outP_some, outP_none, guardO_true, gN_store, putd_lk, putd_lk0, lk_cons, lk_nil, ev_tmp, ev, gdO_tt, gdO_ff, gdO_tf, gdO_ft, gdO_u,
  itemsOf, itemsAt, operO, stepO, convO, callO, callB, storeO, pureA, loadA, allocA, serA, selA, binA, binInt, unA, convA, partA, TD.isAgg, TD.isBool, TD.isPtr, TD.isFunc, fieldOf, indexA, indexAddrA_sl, indexAddrA_ptr, lenA_sl, lenA_snil, lenA_str, buildA, placesA, fillA, repl, eqA, eqV, eqV.eqFs,
  ofConst, ofLeaf, ofLeafs, AV.cells, AV.leaf, List.all_cons, List.all_nil, Bool.true_and, Bool.and_true, Bool.false_and, Bool.and_false, Bool.true_or, Bool.false_or, Bool.or_false, Bool.or_true, Bool.not_true, Bool.not_false, Bool.not_not,
  Option.bind_some, Option.bind_none, Option.map_some, Option.map_none, Option.getD_some, Option.getD_none, Option.bind_eq_bind, List.getElem?_cons_zero, List.getElem?_cons_succ, List.getElem?_nil, List.getElem?_toArray, List.map_cons, List.map_nil, List.append_nil, List.nil_append, List.cons_append, List.singleton_append,
  List.take_zero, List.drop_zero, List.take_succ_cons, List.drop_succ_cons, List.take_nil, List.drop_nil, List.length_cons, List.length_nil, List.length_append, List.tail_cons, List.headD_cons, List.headD_nil, List.tail_nil,
  Nat.reduceEqDiff, Nat.reduceAdd, Nat.reduceMul, Nat.reduceLeDiff, ↓reduceIte, if_true, if_false, reduceCtorEq, true_and, and_true, false_and, and_false, decide_true, decide_false, Int.natCast_nonneg, Int.toNat_natCast, Nat.mul_one, Nat.one_mul, Nat.zero_add, Nat.add_zero, ne_eq, not_true_eq_false, not_false_eq_true, Nat.zero_le, Nat.zero_lt_succ, Nat.zero_lt_one, Nat.le_refl, Int.toNat_zero, Nat.zero_mul, Nat.mul_zero, and_self, beq_self_eq_true, Nat.succ_ne_self,
  wrap64, wrap32, wrapU64, wrapU8, wrapU32]
  refine hq _ _ ?_
  simp only [pickL, lk_cons, Nat.reduceEqDiff, ↓reduceIte, reduceCtorEq, if_true, if_false]
  clear hq q
  repeat' (first | refine wpL_seq ?_ | refine wpL_skip ?_ | refine wpL_label ?_)
  refine wpL_cond rfl (fun hc => ?_) (fun hc => ?_)
  · have hneg : n < 0 := by simpa using hc
    repeat' (first | refine wpL_seq ?_ | refine wpL_skip ?_ | refine wpL_label ?_)
    refine wpL_region [2] fun q hq => ?_
    simp -implicitDefEqProofs (disch := omega) only [gO_nil, gO_cons, gN_cond, gN_val, gN_bad, outV_some, outV_none, outV_guard, outA_guard, outP_guard, outA_some, outA_none, outP_some, outP_none, guardO_true, gN_store, putd_lk, putd_lk0, lk_cons, lk_nil, ev_tmp, ev, gdO_tt, gdO_ff, gdO_tf, gdO_ft, gdO_u,
  itemsOf, itemsAt, operO, stepO, convO, callO, callB, storeO, pureA, loadA, allocA, serA, selA, binA, binInt, unA, convA, partA, TD.isAgg, TD.isBool, TD.isPtr, TD.isFunc, fieldOf, indexA, indexAddrA_sl, indexAddrA_ptr, lenA_sl, lenA_snil, lenA_str, buildA, placesA, fillA, repl, eqA, eqV, eqV.eqFs,
  ofConst, ofLeaf, ofLeafs, AV.cells, AV.leaf, List.all_cons, List.all_nil, Bool.true_and, Bool.and_true, Bool.false_and, Bool.and_false, Bool.true_or, Bool.false_or, Bool.or_false, Bool.or_true, Bool.not_true, Bool.not_false, Bool.not_not,
  Option.bind_some, Option.bind_none, Option.map_some, Option.map_none, Option.getD_some, Option.getD_none, Option.bind_eq_bind, List.getElem?_cons_zero, List.getElem?_cons_succ, List.getElem?_nil, List.getElem?_toArray, List.map_cons, List.map_nil, List.append_nil, List.nil_append, List.cons_append, List.singleton_append,
  List.take_zero, List.drop_zero, List.take_succ_cons, List.drop_succ_cons, List.take_nil, List.drop_nil, List.length_cons, List.length_nil, List.length_append, List.tail_cons, List.headD_cons, List.headD_nil, List.tail_nil,
  Nat.reduceEqDiff, Nat.reduceAdd, Nat.reduceMul, Nat.reduceLeDiff, ↓reduceIte, if_true, if_false, reduceCtorEq, true_and, and_true, false_and, and_false, decide_true, decide_false, Int.natCast_nonneg, Int.toNat_natCast, Nat.mul_one, Nat.one_mul, Nat.zero_add, Nat.add_zero, ne_eq, not_true_eq_false, not_false_eq_true, Nat.zero_le, Nat.zero_lt_succ, Nat.zero_lt_one, Nat.le_refl, Int.toNat_zero, Nat.zero_mul, Nat.mul_zero, and_self, beq_self_eq_true, Nat.succ_ne_self,
  wrap64, wrap32, wrapU64, wrapU8, wrapU32]
    refine hq _ _ ?_
    simp only [pickL, lk_cons, Nat.reduceEqDiff, ↓reduceIte, reduceCtorEq, if_true, if_false]
    clear hq q
    repeat' (first | refine wpL_seq ?_ | refine wpL_skip ?_ | refine wpL_label ?_)
    refine wpL_ret (hK' _ _ _ _ (.inr rfl) rfl ?_)
    simp only [pickL, lk_cons, Nat.reduceEqDiff, ↓reduceIte, reduceCtorEq, if_true, if_false]
    have : upV n = 1 := by unfold upV; (repeat' split) <;> omega
    rwa [this] at hK
  have hneg : ¬ n < 0 := by simpa using hc
  repeat' (first | refine wpL_seq ?_ | refine wpL_skip ?_ | refine wpL_label ?_)
  refine wpL_region [0, 6] fun q hq => ?_
  simp -implicitDefEqProofs (disch := omega) only [gO_nil, gO_cons, gN_cond, gN_val, gN_bad, outV_some, outV_none, outV_guard, outA_guard, outP_guard, outA_some, outA_none, outP_some, outP_none, guardO_true, gN_store, putd_lk, putd_lk0, lk_cons, lk_nil, ev_tmp, ev, gdO_tt, gdO_ff, gdO_tf, gdO_ft, gdO_u,
  itemsOf, itemsAt, operO, stepO, convO, callO, callB, storeO, pureA, loadA, allocA, serA, selA, binA, binInt, unA, convA, partA, TD.isAgg, TD.isBool, TD.isPtr, TD.isFunc, fieldOf, indexA, indexAddrA_sl, indexAddrA_ptr, lenA_sl, lenA_snil, lenA_str, buildA, placesA, fillA, repl, eqA, eqV, eqV.eqFs,
  ofConst, ofLeaf, ofLeafs, AV.cells, AV.leaf, List.all_cons, List.all_nil, Bool.true_and, Bool.and_true, Bool.false_and, Bool.and_false, Bool.true_or, Bool.false_or, Bool.or_false, Bool.or_true, Bool.not_true, Bool.not_false, Bool.not_not,
  Option.bind_some, Option.bind_none, Option.map_some, Option.map_none, Option.getD_some, Option.getD_none, Option.bind_eq_bind, List.getElem?_cons_zero, List.getElem?_cons_succ, List.getElem?_nil, List.getElem?_toArray, List.map_cons, List.map_nil, List.append_nil, List.nil_append, List.cons_append, List.singleton_append,
  List.take_zero, List.drop_zero, List.take_succ_cons, List.drop_succ_cons, List.take_nil, List.drop_nil, List.length_cons, List.length_nil, List.length_append, List.tail_cons, List.headD_cons, List.headD_nil, List.tail_nil,
  Nat.reduceEqDiff, Nat.reduceAdd, Nat.reduceMul, Nat.reduceLeDiff, ↓reduceIte, if_true, if_false, reduceCtorEq, true_and, and_true, false_and, and_false, decide_true, decide_false, Int.natCast_nonneg, Int.toNat_natCast, Nat.mul_one, Nat.one_mul, Nat.zero_add, Nat.add_zero, ne_eq, not_true_eq_false, not_false_eq_true, Nat.zero_le, Nat.zero_lt_succ, Nat.zero_lt_one, Nat.le_refl, Int.toNat_zero, Nat.zero_mul, Nat.mul_zero, and_self, beq_self_eq_true, Nat.succ_ne_self,
  wrap64, wrap32, wrapU64, wrapU8, wrapU32]
  refine hq _ _ ?_
  simp only [pickL, lk_cons, Nat.reduceEqDiff, ↓reduceIte, reduceCtorEq, if_true, if_false]
  clear hq q
  repeat' (first | refine wpL_seq ?_ | refine wpL_skip ?_ | refine wpL_label ?_)
  refine wpL_cond rfl (fun hd => ?_) (fun hd => ?_)
  · have : n = 2147483647 := by simpa using hd
    repeat' (first | refine wpL_seq ?_ | refine wpL_skip ?_ | refine wpL_label ?_)
    refine wpL_region [2] fun q hq => ?_
    simp -implicitDefEqProofs (disch := omega) only [gO_nil, gO_cons, gN_cond, gN_val, gN_bad, outV_some, outV_none, outV_guard, outA_guard, outP_guard, outA_some, outA_none, outP_some, outP_none, guardO_true, gN_store, putd_lk, putd_lk0, lk_cons, lk_nil, ev_tmp, ev, gdO_tt, gdO_ff, gdO_tf, gdO_ft, gdO_u,
  itemsOf, itemsAt, operO, stepO, convO, callO, callB, storeO, pureA, loadA, allocA, serA, selA, binA, binInt, unA, convA, partA, TD.isAgg, TD.isBool, TD.isPtr, TD.isFunc, fieldOf, indexA, indexAddrA_sl, indexAddrA_ptr, lenA_sl, lenA_snil, lenA_str, buildA, placesA, fillA, repl, eqA, eqV, eqV.eqFs,
  ofConst, ofLeaf, ofLeafs, AV.cells, AV.leaf, List.all_cons, List.all_nil, Bool.true_and, Bool.and_true, Bool.false_and, Bool.and_false, Bool.true_or, Bool.false_or, Bool.or_false, Bool.or_true, Bool.not_true, Bool.not_false, Bool.not_not,
  Option.bind_some, Option.bind_none, Option.map_some, Option.map_none, Option.getD_some, Option.getD_none, Option.bind_eq_bind, List.getElem?_cons_zero, List.getElem?_cons_succ, List.getElem?_nil, List.getElem?_toArray, List.map_cons, List.map_nil, List.append_nil, List.nil_append, List.cons_append, List.singleton_append,
  List.take_zero, List.drop_zero, List.take_succ_cons, List.drop_succ_cons, List.take_nil, List.drop_nil, List.length_cons, List.length_nil, List.length_append, List.tail_cons, List.headD_cons, List.headD_nil, List.tail_nil,
  Nat.reduceEqDiff, Nat.reduceAdd, Nat.reduceMul, Nat.reduceLeDiff, ↓reduceIte, if_true, if_false, reduceCtorEq, true_and, and_true, false_and, and_false, decide_true, decide_false, Int.natCast_nonneg, Int.toNat_natCast, Nat.mul_one, Nat.one_mul, Nat.zero_add, Nat.add_zero, ne_eq, not_true_eq_false, not_false_eq_true, Nat.zero_le, Nat.zero_lt_succ, Nat.zero_lt_one, Nat.le_refl, Int.toNat_zero, Nat.zero_mul, Nat.mul_zero, and_self, beq_self_eq_true, Nat.succ_ne_self,
  wrap64, wrap32, wrapU64, wrapU8, wrapU32]
    refine hq _ _ ?_
    simp only [pickL, lk_cons, Nat.reduceEqDiff, ↓reduceIte, reduceCtorEq, if_true, if_false]
    clear hq q
    repeat' (first | refine wpL_seq ?_ | refine wpL_skip ?_ | refine wpL_label ?_)
    refine wpL_ret (hK' _ _ _ _ (.inr rfl) rfl ?_)
    simp only [pickL, lk_cons, Nat.reduceEqDiff, ↓reduceIte, reduceCtorEq, if_true, if_false]
    have : upV n = n := by unfold upV; (repeat' split) <;> omega
    rwa [this] at hK
  · have hne : ¬ n = 2147483647 := by simpa using hd
    repeat' (first | refine wpL_seq ?_ | refine wpL_skip ?_ | refine wpL_label ?_)
    refine wpL_region [2] fun q hq => ?_
    simp -implicitDefEqProofs (disch := omega) only [gO_nil, gO_cons, gN_cond, gN_val, gN_bad, outV_some, outV_none, outV_guard, outA_guard, outP_guard, outA_some, outA_none, outP_some, outP_none, guardO_true, gN_store, putd_lk, putd_lk0, lk_cons, lk_nil, ev_tmp, ev, gdO_tt, gdO_ff, gdO_tf, gdO_ft, gdO_u,
  itemsOf, itemsAt, operO, stepO, convO, callO, callB, storeO, pureA, loadA, allocA, serA, selA, binA, binInt, unA, convA, partA, TD.isAgg, TD.isBool, TD.isPtr, TD.isFunc, fieldOf, indexA, indexAddrA_sl, indexAddrA_ptr, lenA_sl, lenA_snil, lenA_str, buildA, placesA, fillA, repl, eqA, eqV, eqV.eqFs,
  ofConst, ofLeaf, ofLeafs, AV.cells, AV.leaf, List.all_cons, List.all_nil, Bool.true_and, Bool.and_true, Bool.false_and, Bool.and_false, Bool.true_or, Bool.false_or, Bool.or_false, Bool.or_true, Bool.not_true, Bool.not_false, Bool.not_not,
  Option.bind_some, Option.bind_none, Option.map_some, Option.map_none, Option.getD_some, Option.getD_none, Option.bind_eq_bind, List.getElem?_cons_zero, List.getElem?_cons_succ, List.getElem?_nil, List.getElem?_toArray, List.map_cons, List.map_nil, List.append_nil, List.nil_append, List.cons_append, List.singleton_append,
  List.take_zero, List.drop_zero, List.take_succ_cons, List.drop_succ_cons, List.take_nil, List.drop_nil, List.length_cons, List.length_nil, List.length_append, List.tail_cons, List.headD_cons, List.headD_nil, List.tail_nil,
  Nat.reduceEqDiff, Nat.reduceAdd, Nat.reduceMul, Nat.reduceLeDiff, ↓reduceIte, if_true, if_false, reduceCtorEq, true_and, and_true, false_and, and_false, decide_true, decide_false, Int.natCast_nonneg, Int.toNat_natCast, Nat.mul_one, Nat.one_mul, Nat.zero_add, Nat.add_zero, ne_eq, not_true_eq_false, not_false_eq_true, Nat.zero_le, Nat.zero_lt_succ, Nat.zero_lt_one, Nat.le_refl, Int.toNat_zero, Nat.zero_mul, Nat.mul_zero, and_self, beq_self_eq_true, Nat.succ_ne_self,
  wrap64, wrap32, wrapU64, wrapU8, wrapU32]
    refine hq _ _ ?_
    simp only [pickL, lk_cons, Nat.reduceEqDiff, ↓reduceIte, reduceCtorEq, if_true, if_false]
    clear hq q
    repeat' (first | refine wpL_seq ?_ | refine wpL_skip ?_ | refine wpL_label ?_)
    refine wpL_ret (hK' _ _ _ _ (.inr rfl) rfl ?_)
    simp only [pickL, lk_cons, Nat.reduceEqDiff, ↓reduceIte, reduceCtorEq, if_true, if_false]
    have : upV n = n + 1 := by unfold upV; (repeat' split) <;> omega
    rwa [this] at hK

def tmA (n : Int) (r : Bool) : AV := .agg [.int .i32 n, .bool r]

theorem f17_timer {m n r K} (h1 : -2147483648 ≤ n) (h2 : n ≤ 2147483647) (hK : ∀ m', Keep [] m m' → K (tmA (if r then upV n else n) r) m') : wpF Try.prog 17 [tmA n r] m K := by
  refine wpF_intro (fn := Try.f17) rfl rfl (by decide) (by kernel_rfl) fun K' hK' => ?_
  repeat' (first | refine wpL_seq ?_ | refine wpL_skip ?_ | refine wpL_label ?_)
  refine wpL_region [1, 2] fun q hq => ?_
  simp -implicitDefEqProofs (disch := omega) only [gO_nil, gO_cons, gN_cond, gN_val, gN_bad, outV_some, outV_none, outV_guard, outA_guard, outP_guard, outA_some, outA_none, outP_some, outP_none, guardO_true, gN_store, putd_lk, putd_lk0, lk_cons, lk_nil, ev_tmp, ev, gdO_tt, gdO_ff, gdO_tf, gdO_ft, gdO_u,
  itemsOf, itemsAt, operO, stepO, convO, callO, callB, storeO, pureA, loadA, allocA, serA, selA, binA, binInt, unA, convA, partA, TD.isAgg, TD.isBool, TD.isPtr, TD.isFunc, fieldOf, indexA, indexAddrA_sl, indexAddrA_ptr, lenA_sl, lenA_snil, lenA_str, buildA, placesA, fillA, repl, eqA, eqV, eqV.eqFs,
  ofConst, ofLeaf, ofLeafs, AV.cells, AV.leaf, List.all_cons, List.all_nil, Bool.true_and, Bool.and_true, Bool.false_and, Bool.and_false, Bool.true_or, Bool.false_or, Bool.or_false, Bool.or_true, Bool.not_true, Bool.not_false, Bool.not_not,
  Option.bind_some, Option.bind_none, Option.map_some, Option.map_none, Option.getD_some, Option.getD_none, Option.bind_eq_bind, List.getElem?_cons_zero, List.getElem?_cons_succ, List.getElem?_nil, List.getElem?_toArray, List.map_cons, List.map_nil, List.append_nil, List.nil_append, List.cons_append, List.singleton_append,
  List.take_zero, List.drop_zero, List.take_succ_cons, List.drop_succ_cons, List.take_nil, List.drop_nil, List.length_cons, List.length_nil, List.length_append, List.tail_cons, List.headD_cons, List.headD_nil, List.tail_nil,
  Nat.reduceEqDiff, Nat.reduceAdd, Nat.reduceMul, Nat.reduceLeDiff, ↓reduceIte, if_true, if_false, reduceCtorEq, true_and, and_true, false_and, and_false, decide_true, decide_false, Int.natCast_nonneg, Int.toNat_natCast, Nat.mul_one, Nat.one_mul, Nat.zero_add, Nat.add_zero, ne_eq, not_true_eq_false, not_false_eq_true, Nat.zero_le, Nat.zero_lt_succ, Nat.zero_lt_one, Nat.le_refl, Int.toNat_zero, Nat.zero_mul, Nat.mul_zero, and_self, beq_self_eq_true, Nat.succ_ne_self,
  wrap64, wrap32, wrapU64, wrapU8, wrapU32, argL, ti41, tmA]
  refine gN_alloc_ptr fun b1 m1 hb1 hm1 hk1 => ?_
  simp -implicitDefEqProofs (disch := omega) only [gO_nil, gO_cons, gN_cond, gN_val, gN_bad, outV_some, outV_none, outV_guard, outA_guard, outP_guard, outA_some, outA_none, outP_some, outP_none, guardO_true, gN_store, putd_lk, putd_lk0, lk_cons, lk_nil, ev_tmp, ev, gdO_tt, gdO_ff, gdO_tf, gdO_ft, gdO_u,
  itemsOf, itemsAt, operO, stepO, convO, callO, callB, storeO, pureA, loadA, allocA, serA, selA, binA, binInt, unA, convA, partA, TD.isAgg, TD.isBool, TD.isPtr, TD.isFunc, fieldOf, indexA, indexAddrA_sl, indexAddrA_ptr, lenA_sl, lenA_snil, lenA_str, buildA, placesA, fillA, repl, eqA, eqV, eqV.eqFs,
  ofConst, ofLeaf, ofLeafs, AV.cells, AV.leaf, List.all_cons, List.all_nil, Bool.true_and, Bool.and_true, Bool.false_and, Bool.and_false, Bool.true_or, Bool.false_or, Bool.or_false, Bool.or_true, Bool.not_true, Bool.not_false, Bool.not_not,
  Option.bind_some, Option.bind_none, Option.map_some, Option.map_none, Option.getD_some, Option.getD_none, Option.bind_eq_bind, List.getElem?_cons_zero, List.getElem?_cons_succ, List.getElem?_nil, List.getElem?_toArray, List.map_cons, List.map_nil, List.append_nil, List.nil_append, List.cons_append, List.singleton_append,
  List.take_zero, List.drop_zero, List.take_succ_cons, List.drop_succ_cons, List.take_nil, List.drop_nil, List.length_cons, List.length_nil, List.length_append, List.tail_cons, List.headD_cons, List.headD_nil, List.tail_nil,
  Nat.reduceEqDiff, Nat.reduceAdd, Nat.reduceMul, Nat.reduceLeDiff, ↓reduceIte, if_true, if_false, reduceCtorEq, true_and, and_true, false_and, and_false, decide_true, decide_false, Int.natCast_nonneg, Int.toNat_natCast, Nat.mul_one, Nat.one_mul, Nat.zero_add, Nat.add_zero, ne_eq, not_true_eq_false, not_false_eq_true, Nat.zero_le, Nat.zero_lt_succ, Nat.zero_lt_one, Nat.le_refl, Int.toNat_zero, Nat.zero_mul, Nat.mul_zero, and_self, beq_self_eq_true, Nat.succ_ne_self,
  wrap64, wrap32, wrapU64, wrapU8, wrapU32, ti41]
  refine gN_alloc_ptr fun b2 m2 hb2 hm2 hk2 => ?_
  simp -implicitDefEqProofs (disch := omega) only [gO_nil, gO_cons, gN_cond, gN_val, gN_bad, outV_some, outV_none, outV_guard, outA_guard, outP_guard, outA_some, outA_none, outP_some, outP_none, guardO_true, gN_store, putd_lk, putd_lk0, lk_cons, lk_nil, ev_tmp, ev, gdO_tt, gdO_ff, gdO_tf, gdO_ft, gdO_u,
  itemsOf, itemsAt, operO, stepO, convO, callO, callB, storeO, pureA, loadA, allocA, serA, selA, binA, binInt, unA, convA, partA, TD.isAgg, TD.isBool, TD.isPtr, TD.isFunc, fieldOf, indexA, indexAddrA_sl, indexAddrA_ptr, lenA_sl, lenA_snil, lenA_str, buildA, placesA, fillA, repl, eqA, eqV, eqV.eqFs,
  ofConst, ofLeaf, ofLeafs, AV.cells, AV.leaf, List.all_cons, List.all_nil, Bool.true_and, Bool.and_true, Bool.false_and, Bool.and_false, Bool.true_or, Bool.false_or, Bool.or_false, Bool.or_true, Bool.not_true, Bool.not_false, Bool.not_not,
  Option.bind_some, Option.bind_none, Option.map_some, Option.map_none, Option.getD_some, Option.getD_none, Option.bind_eq_bind, List.getElem?_cons_zero, List.getElem?_cons_succ, List.getElem?_nil, List.getElem?_toArray, List.map_cons, List.map_nil, List.append_nil, List.nil_append, List.cons_append, List.singleton_append,
  List.take_zero, List.drop_zero, List.take_succ_cons, List.drop_succ_cons, List.take_nil, List.drop_nil, List.length_cons, List.length_nil, List.length_append, List.tail_cons, List.headD_cons, List.headD_nil, List.tail_nil,
  Nat.reduceEqDiff, Nat.reduceAdd, Nat.reduceMul, Nat.reduceLeDiff, ↓reduceIte, if_true, if_false, reduceCtorEq, true_and, and_true, false_and, and_false, decide_true, decide_false, Int.natCast_nonneg, Int.toNat_natCast, Nat.mul_one, Nat.one_mul, Nat.zero_add, Nat.add_zero, ne_eq, not_true_eq_false, not_false_eq_true, Nat.zero_le, Nat.zero_lt_succ, Nat.zero_lt_one, Nat.le_refl, Int.toNat_zero, Nat.zero_mul, Nat.mul_zero, and_self, beq_self_eq_true, Nat.succ_ne_self,
  wrap64, wrap32, wrapU64, wrapU8, wrapU32]
  refine hq _ _ ?_
  simp only [pickL, lk_cons, Nat.reduceEqDiff, ↓reduceIte, reduceCtorEq, if_true, if_false]
  clear hq q
  have hm1' := hk2 b1 (by simp) _ hm1
  have hb2' : b2 ≠ b1 := by rintro rfl; rw [hb2] at hm1; cases hm1
  have hres : Try.f17.results.toList = [.cell 2 41] := rfl
  repeat' (first | refine wpL_seq ?_ | refine wpL_skip ?_ | refine wpL_label ?_)
  refine wpL_region [1, 2, 4] fun q hq => ?_
  simp -implicitDefEqProofs (disch := omega) only [gO_nil, gO_cons, gN_cond, gN_val, gN_bad, outV_some, outV_none, outV_guard, outA_guard, outP_guard, outA_some, outA_none, outP_some, outP_none, guardO_true, gN_store, putd_lk, putd_lk0, lk_cons, lk_nil, ev_tmp, ev, gdO_tt, gdO_ff, gdO_tf, gdO_ft, gdO_u,
  itemsOf, itemsAt, operO, stepO, convO, callO, callB, storeO, pureA, loadA, allocA, serA, selA, binA, binInt, unA, convA, partA, TD.isAgg, TD.isBool, TD.isPtr, TD.isFunc, fieldOf, indexA, indexAddrA_sl, indexAddrA_ptr, lenA_sl, lenA_snil, lenA_str, buildA, placesA, fillA, repl, eqA, eqV, eqV.eqFs,
  ofConst, ofLeaf, ofLeafs, AV.cells, AV.leaf, List.all_cons, List.all_nil, Bool.true_and, Bool.and_true, Bool.false_and, Bool.and_false, Bool.true_or, Bool.false_or, Bool.or_false, Bool.or_true, Bool.not_true, Bool.not_false, Bool.not_not,
  Option.bind_some, Option.bind_none, Option.map_some, Option.map_none, Option.getD_some, Option.getD_none, Option.bind_eq_bind, List.getElem?_cons_zero, List.getElem?_cons_succ, List.getElem?_nil, List.getElem?_toArray, List.map_cons, List.map_nil, List.append_nil, List.nil_append, List.cons_append, List.singleton_append,
  List.take_zero, List.drop_zero, List.take_succ_cons, List.drop_succ_cons, List.take_nil, List.drop_nil, List.length_cons, List.length_nil, List.length_append, List.tail_cons, List.headD_cons, List.headD_nil, List.tail_nil,
  Nat.reduceEqDiff, Nat.reduceAdd, Nat.reduceMul, Nat.reduceLeDiff, ↓reduceIte, if_true, if_false, reduceCtorEq, true_and, and_true, false_and, and_false, decide_true, decide_false, Int.natCast_nonneg, Int.toNat_natCast, Nat.mul_one, Nat.one_mul, Nat.zero_add, Nat.add_zero, ne_eq, not_true_eq_false, not_false_eq_true, Nat.zero_le, Nat.zero_lt_succ, Nat.zero_lt_one, Nat.le_refl, Int.toNat_zero, Nat.zero_mul, Nat.mul_zero, and_self, beq_self_eq_true, Nat.succ_ne_self,
  wrap64, wrap32, wrapU64, wrapU8, wrapU32, ti41, ti4, hm1']
  refine hq _ _ ?_
  simp only [pickL, lk_cons, Nat.reduceEqDiff, ↓reduceIte, reduceCtorEq, if_true, if_false]
  clear hq q
  repeat' (first | refine wpL_seq ?_ | refine wpL_skip ?_ | refine wpL_label ?_)
  refine wpL_condK rfl fun j1 hj1 ox1 => ?_
  have tail : ∀ m3 z, z = (if r then upV n else n) → m3.blk b1 = some ⟨.own, [.int .i32 z, .bool r], 41, []⟩ → Keep [b1] m2 m3 → j1 .normal (lk [(1, .ptr b1 0), (2, .ptr b2 0)]) m3 := by
    intro m3 z hz hm3 hk3
    refine hj1 _ _ ?_
    have hm2' := hk3 b2 (by simpa using hb2') _ hm2
    repeat' (first | refine wpL_seq ?_ | refine wpL_skip ?_ | refine wpL_label ?_)
    refine wpL_region [2] fun q hq => ?_
    simp -implicitDefEqProofs (disch := omega) only [gO_nil, gO_cons, gN_cond, gN_val, gN_bad, outV_some, outV_none, outV_guard, outA_guard, outP_guard, outA_some, outA_none, outP_some, outP_none, guardO_true, gN_store, putd_lk, putd_lk0, lk_cons, lk_nil, ev_tmp, ev, gdO_tt, gdO_ff, gdO_tf, gdO_ft, gdO_u,
  itemsOf, itemsAt, operO, stepO, convO, callO, callB, storeO, pureA, loadA, allocA, serA, selA, binA, binInt, unA, convA, partA, TD.isAgg, TD.isBool, TD.isPtr, TD.isFunc, fieldOf, indexA, indexAddrA_sl, indexAddrA_ptr, lenA_sl, lenA_snil, lenA_str, buildA, placesA, fillA, repl, eqA, eqV, eqV.eqFs,
  ofConst, ofLeaf, ofLeafs, AV.cells, AV.leaf, List.all_cons, List.all_nil, Bool.true_and, Bool.and_true, Bool.false_and, Bool.and_false, Bool.true_or, Bool.false_or, Bool.or_false, Bool.or_true, Bool.not_true, Bool.not_false, Bool.not_not,
  Option.bind_some, Option.bind_none, Option.map_some, Option.map_none, Option.getD_some, Option.getD_none, Option.bind_eq_bind, List.getElem?_cons_zero, List.getElem?_cons_succ, List.getElem?_nil, List.getElem?_toArray, List.map_cons, List.map_nil, List.append_nil, List.nil_append, List.cons_append, List.singleton_append,
  List.take_zero, List.drop_zero, List.take_succ_cons, List.drop_succ_cons, List.take_nil, List.drop_nil, List.length_cons, List.length_nil, List.length_append, List.tail_cons, List.headD_cons, List.headD_nil, List.tail_nil,
  Nat.reduceEqDiff, Nat.reduceAdd, Nat.reduceMul, Nat.reduceLeDiff, ↓reduceIte, if_true, if_false, reduceCtorEq, true_and, and_true, false_and, and_false, decide_true, decide_false, Int.natCast_nonneg, Int.toNat_natCast, Nat.mul_one, Nat.one_mul, Nat.zero_add, Nat.add_zero, ne_eq, not_true_eq_false, not_false_eq_true, Nat.zero_le, Nat.zero_lt_succ, Nat.zero_lt_one, Nat.le_refl, Int.toNat_zero, Nat.zero_mul, Nat.mul_zero, and_self, beq_self_eq_true, Nat.succ_ne_self,
  wrap64, wrap32, wrapU64, wrapU8, wrapU32, ti41, hm3, hm2']
    refine gN_store_of rfl rfl fun m4 hm4 hk4 => ?_
    simp only [List.take_zero, List.take_succ_cons, List.drop_zero, List.drop_succ_cons, List.nil_append, List.cons_append, List.length_cons, List.length_nil, Nat.zero_add, Nat.reduceAdd, List.append_nil, List.drop_nil] at hm4
    simp -implicitDefEqProofs (disch := omega) only [gO_nil, gO_cons, gN_cond, gN_val, gN_bad, outV_some, outV_none, outV_guard, outA_guard, outP_guard, outA_some, outA_none, outP_some, outP_none, guardO_true, gN_store, putd_lk, putd_lk0, lk_cons, lk_nil, ev_tmp, ev, gdO_tt, gdO_ff, gdO_tf, gdO_ft, gdO_u,
  itemsOf, itemsAt, operO, stepO, convO, callO, callB, storeO, pureA, loadA, allocA, serA, selA, binA, binInt, unA, convA, partA, TD.isAgg, TD.isBool, TD.isPtr, TD.isFunc, fieldOf, indexA, indexAddrA_sl, indexAddrA_ptr, lenA_sl, lenA_snil, lenA_str, buildA, placesA, fillA, repl, eqA, eqV, eqV.eqFs,
  ofConst, ofLeaf, ofLeafs, AV.cells, AV.leaf, List.all_cons, List.all_nil, Bool.true_and, Bool.and_true, Bool.false_and, Bool.and_false, Bool.true_or, Bool.false_or, Bool.or_false, Bool.or_true, Bool.not_true, Bool.not_false, Bool.not_not,
  Option.bind_some, Option.bind_none, Option.map_some, Option.map_none, Option.getD_some, Option.getD_none, Option.bind_eq_bind, List.getElem?_cons_zero, List.getElem?_cons_succ, List.getElem?_nil, List.getElem?_toArray, List.map_cons, List.map_nil, List.append_nil, List.nil_append, List.cons_append, List.singleton_append,
  List.take_zero, List.drop_zero, List.take_succ_cons, List.drop_succ_cons, List.take_nil, List.drop_nil, List.length_cons, List.length_nil, List.length_append, List.tail_cons, List.headD_cons, List.headD_nil, List.tail_nil,
  Nat.reduceEqDiff, Nat.reduceAdd, Nat.reduceMul, Nat.reduceLeDiff, ↓reduceIte, if_true, if_false, reduceCtorEq, true_and, and_true, false_and, and_false, decide_true, decide_false, Int.natCast_nonneg, Int.toNat_natCast, Nat.mul_one, Nat.one_mul, Nat.zero_add, Nat.add_zero, ne_eq, not_true_eq_false, not_false_eq_true, Nat.zero_le, Nat.zero_lt_succ, Nat.zero_lt_one, Nat.le_refl, Int.toNat_zero, Nat.zero_mul, Nat.mul_zero, and_self, beq_self_eq_true, Nat.succ_ne_self,
  wrap64, wrap32, wrapU64, wrapU8, wrapU32]
    refine hq _ _ ?_
    simp only [pickL, lk_cons, Nat.reduceEqDiff, ↓reduceIte, reduceCtorEq, if_true, if_false]
    clear hq q
    repeat' (first | refine wpL_seq ?_ | refine wpL_skip ?_ | refine wpL_label ?_)
    refine wpL_ret (hK' _ _ _ (tmA z r) (.inr rfl) (by simp -implicitDefEqProofs (disch := omega) only [gO_nil, gO_cons, gN_cond, gN_val, gN_bad, outV_some, outV_none, outV_guard, outA_guard, outP_guard, outA_some, outA_none, outP_some, outP_none, guardO_true, gN_store, putd_lk, putd_lk0, lk_cons, lk_nil, ev_tmp, ev, gdO_tt, gdO_ff, gdO_tf, gdO_ft, gdO_u,
  itemsOf, itemsAt, operO, stepO, convO, callO, callB, storeO, pureA, loadA, allocA, serA, selA, binA, binInt, unA, convA, partA, TD.isAgg, TD.isBool, TD.isPtr, TD.isFunc, fieldOf, indexA, indexAddrA_sl, indexAddrA_ptr, lenA_sl, lenA_snil, lenA_str, buildA, placesA, fillA, repl, eqA, eqV, eqV.eqFs,
  ofConst, ofLeaf, ofLeafs, AV.cells, AV.leaf, List.all_cons, List.all_nil, Bool.true_and, Bool.and_true, Bool.false_and, Bool.and_false, Bool.true_or, Bool.false_or, Bool.or_false, Bool.or_true, Bool.not_true, Bool.not_false, Bool.not_not,
  Option.bind_some, Option.bind_none, Option.map_some, Option.map_none, Option.getD_some, Option.getD_none, Option.bind_eq_bind, List.getElem?_cons_zero, List.getElem?_cons_succ, List.getElem?_nil, List.getElem?_toArray, List.map_cons, List.map_nil, List.append_nil, List.nil_append, List.cons_append, List.singleton_append,
  List.take_zero, List.drop_zero, List.take_succ_cons, List.drop_succ_cons, List.take_nil, List.drop_nil, List.length_cons, List.length_nil, List.length_append, List.tail_cons, List.headD_cons, List.headD_nil, List.tail_nil,
  Nat.reduceEqDiff, Nat.reduceAdd, Nat.reduceMul, Nat.reduceLeDiff, ↓reduceIte, if_true, if_false, reduceCtorEq, true_and, and_true, false_and, and_false, decide_true, decide_false, Int.natCast_nonneg, Int.toNat_natCast, Nat.mul_one, Nat.one_mul, Nat.zero_add, Nat.add_zero, ne_eq, not_true_eq_false, not_false_eq_true, Nat.zero_le, Nat.zero_lt_succ, Nat.zero_lt_one, Nat.le_refl, Int.toNat_zero, Nat.zero_mul, Nat.mul_zero, and_self, beq_self_eq_true, Nat.succ_ne_self,
  wrap64, wrap32, wrapU64, wrapU8, wrapU32, hres, resA, resList, resOne, hm4, ti41, tmA]) ?_)
    rw [hz]
    refine hK _ ?_
    intro x _ kx hx
    have hx1 := hk1 x (by simp) kx hx
    have hx2 := hk2 x (by simp) kx hx1
    have hx3 := hk3 x (by simp; rintro rfl; rw [hb1] at hx; cases hx) kx hx2
    exact hk4 x (by simp; rintro rfl; rw [hb2] at hx1; cases hx1) kx hx3
  refine ⟨fun hc => ?_, fun hc => ?_⟩
  · repeat' (first | refine wpL_seq ?_ | refine wpL_skip ?_ | refine wpL_label ?_)
    refine wpL_region [1, 2] fun q hq => ?_
    simp -implicitDefEqProofs (disch := omega) only [gO_nil, gO_cons, gN_cond, gN_val, gN_bad, outV_some, outV_none, outV_guard, outA_guard, outP_guard, outA_some, outA_none, outP_some, outP_none, guardO_true, gN_store, putd_lk, putd_lk0, lk_cons, lk_nil, ev_tmp, ev, gdO_tt, gdO_ff, gdO_tf, gdO_ft, gdO_u,
  itemsOf, itemsAt, operO, stepO, convO, callO, callB, storeO, pureA, loadA, allocA, serA, selA, binA, binInt, unA, convA, partA, TD.isAgg, TD.isBool, TD.isPtr, TD.isFunc, fieldOf, indexA, indexAddrA_sl, indexAddrA_ptr, lenA_sl, lenA_snil, lenA_str, buildA, placesA, fillA, repl, eqA, eqV, eqV.eqFs,
  ofConst, ofLeaf, ofLeafs, AV.cells, AV.leaf, List.all_cons, List.all_nil, Bool.true_and, Bool.and_true, Bool.false_and, Bool.and_false, Bool.true_or, Bool.false_or, Bool.or_false, Bool.or_true, Bool.not_true, Bool.not_false, Bool.not_not,
  Option.bind_some, Option.bind_none, Option.map_some, Option.map_none, Option.getD_some, Option.getD_none, Option.bind_eq_bind, List.getElem?_cons_zero, List.getElem?_cons_succ, List.getElem?_nil, List.getElem?_toArray, List.map_cons, List.map_nil, List.append_nil, List.nil_append, List.cons_append, List.singleton_append,
  List.take_zero, List.drop_zero, List.take_succ_cons, List.drop_succ_cons, List.take_nil, List.drop_nil, List.length_cons, List.length_nil, List.length_append, List.tail_cons, List.headD_cons, List.headD_nil, List.tail_nil,
  Nat.reduceEqDiff, Nat.reduceAdd, Nat.reduceMul, Nat.reduceLeDiff, ↓reduceIte, if_true, if_false, reduceCtorEq, true_and, and_true, false_and, and_false, decide_true, decide_false, Int.natCast_nonneg, Int.toNat_natCast, Nat.mul_one, Nat.one_mul, Nat.zero_add, Nat.add_zero, ne_eq, not_true_eq_false, not_false_eq_true, Nat.zero_le, Nat.zero_lt_succ, Nat.zero_lt_one, Nat.le_refl, Int.toNat_zero, Nat.zero_mul, Nat.mul_zero, and_self, beq_self_eq_true, Nat.succ_ne_self,
  wrap64, wrap32, wrapU64, wrapU8, wrapU32, ti41, ti21, hm1']
    refine gN_callF (f15_up h1 h2 ?_)
    simp -implicitDefEqProofs (disch := omega) only [gO_nil, gO_cons, gN_cond, gN_val, gN_bad, outV_some, outV_none, outV_guard, outA_guard, outP_guard, outA_some, outA_none, outP_some, outP_none, guardO_true, gN_store, putd_lk, putd_lk0, lk_cons, lk_nil, ev_tmp, ev, gdO_tt, gdO_ff, gdO_tf, gdO_ft, gdO_u,
  itemsOf, itemsAt, operO, stepO, convO, callO, callB, storeO, pureA, loadA, allocA, serA, selA, binA, binInt, unA, convA, partA, TD.isAgg, TD.isBool, TD.isPtr, TD.isFunc, fieldOf, indexA, indexAddrA_sl, indexAddrA_ptr, lenA_sl, lenA_snil, lenA_str, buildA, placesA, fillA, repl, eqA, eqV, eqV.eqFs,
  ofConst, ofLeaf, ofLeafs, AV.cells, AV.leaf, List.all_cons, List.all_nil, Bool.true_and, Bool.and_true, Bool.false_and, Bool.and_false, Bool.true_or, Bool.false_or, Bool.or_false, Bool.or_true, Bool.not_true, Bool.not_false, Bool.not_not,
  Option.bind_some, Option.bind_none, Option.map_some, Option.map_none, Option.getD_some, Option.getD_none, Option.bind_eq_bind, List.getElem?_cons_zero, List.getElem?_cons_succ, List.getElem?_nil, List.getElem?_toArray, List.map_cons, List.map_nil, List.append_nil, List.nil_append, List.cons_append, List.singleton_append,
  List.take_zero, List.drop_zero, List.take_succ_cons, List.drop_succ_cons, List.take_nil, List.drop_nil, List.length_cons, List.length_nil, List.length_append, List.tail_cons, List.headD_cons, List.headD_nil, List.tail_nil,
  Nat.reduceEqDiff, Nat.reduceAdd, Nat.reduceMul, Nat.reduceLeDiff, ↓reduceIte, if_true, if_false, reduceCtorEq, true_and, and_true, false_and, and_false, decide_true, decide_false, Int.natCast_nonneg, Int.toNat_natCast, Nat.mul_one, Nat.one_mul, Nat.zero_add, Nat.add_zero, ne_eq, not_true_eq_false, not_false_eq_true, Nat.zero_le, Nat.zero_lt_succ, Nat.zero_lt_one, Nat.le_refl, Int.toNat_zero, Nat.zero_mul, Nat.mul_zero, and_self, beq_self_eq_true, Nat.succ_ne_self,
  wrap64, wrap32, wrapU64, wrapU8, wrapU32, ti41, ti21, hm1']
    refine gN_store_of rfl rfl fun m5 hm5 hk5 => ?_
    simp only [List.take_zero, List.take_succ_cons, List.drop_zero, List.drop_succ_cons, List.nil_append, List.cons_append, List.length_cons, List.length_nil, Nat.zero_add, Nat.reduceAdd, List.append_nil, List.drop_nil] at hm5
    simp -implicitDefEqProofs (disch := omega) only [gO_nil, gO_cons, gN_cond, gN_val, gN_bad, outV_some, outV_none, outV_guard, outA_guard, outP_guard, outA_some, outA_none, outP_some, outP_none, guardO_true, gN_store, putd_lk, putd_lk0, lk_cons, lk_nil, ev_tmp, ev, gdO_tt, gdO_ff, gdO_tf, gdO_ft, gdO_u,
  itemsOf, itemsAt, operO, stepO, convO, callO, callB, storeO, pureA, loadA, allocA, serA, selA, binA, binInt, unA, convA, partA, TD.isAgg, TD.isBool, TD.isPtr, TD.isFunc, fieldOf, indexA, indexAddrA_sl, indexAddrA_ptr, lenA_sl, lenA_snil, lenA_str, buildA, placesA, fillA, repl, eqA, eqV, eqV.eqFs,
  ofConst, ofLeaf, ofLeafs, AV.cells, AV.leaf, List.all_cons, List.all_nil, Bool.true_and, Bool.and_true, Bool.false_and, Bool.and_false, Bool.true_or, Bool.false_or, Bool.or_false, Bool.or_true, Bool.not_true, Bool.not_false, Bool.not_not,
  Option.bind_some, Option.bind_none, Option.map_some, Option.map_none, Option.getD_some, Option.getD_none, Option.bind_eq_bind, List.getElem?_cons_zero, List.getElem?_cons_succ, List.getElem?_nil, List.getElem?_toArray, List.map_cons, List.map_nil, List.append_nil, List.nil_append, List.cons_append, List.singleton_append,
  List.take_zero, List.drop_zero, List.take_succ_cons, List.drop_succ_cons, List.take_nil, List.drop_nil, List.length_cons, List.length_nil, List.length_append, List.tail_cons, List.headD_cons, List.headD_nil, List.tail_nil,
  Nat.reduceEqDiff, Nat.reduceAdd, Nat.reduceMul, Nat.reduceLeDiff, ↓reduceIte, if_true, if_false, reduceCtorEq, true_and, and_true, false_and, and_false, decide_true, decide_false, Int.natCast_nonneg, Int.toNat_natCast, Nat.mul_one, Nat.one_mul, Nat.zero_add, Nat.add_zero, ne_eq, not_true_eq_false, not_false_eq_true, Nat.zero_le, Nat.zero_lt_succ, Nat.zero_lt_one, Nat.le_refl, Int.toNat_zero, Nat.zero_mul, Nat.mul_zero, and_self, beq_self_eq_true, Nat.succ_ne_self,
  wrap64, wrap32, wrapU64, wrapU8, wrapU32]
    refine hq _ _ ?_
    simp only [pickL, lk_cons, Nat.reduceEqDiff, ↓reduceIte, reduceCtorEq, if_true, if_false]
    clear hq q
    exact wpL_nil (tail m5 _ (by simp [hc]) hm5 hk5)
  · refine wpL_skipP [1, 2] ?_
    simp only [pickL, lk_cons, Nat.reduceEqDiff, ↓reduceIte, reduceCtorEq, if_true, if_false]
    exact wpL_nil (tail m2 n (by simp [hc]) hm1' (Keep.refl _ _))

theorem f18_timer {m n r K} (h1 : -2147483648 ≤ n) (h2 : n ≤ 2147483647) (hK : ∀ m', Keep [] m m' → K (tmA (if r then upV n else n) r) m') : wpF Try.prog 18 [tmA n r] m K := by
  refine wpF_intro (fn := Try.f18) rfl rfl (by decide) (by kernel_rfl) fun K' hK' => ?_
  repeat' (first | refine wpL_seq ?_ | refine wpL_skip ?_ | refine wpL_label ?_)
  refine wpL_region [1, 2] fun q hq => ?_
  simp -implicitDefEqProofs (disch := omega) only [gO_nil, gO_cons, gN_cond, gN_val, gN_bad, outV_some, outV_none, outV_guard, outA_guard, outP_guard, outA_some, outA_none, outP_some, outP_none, guardO_true, gN_store, putd_lk, putd_lk0, lk_cons, lk_nil, ev_tmp, ev, gdO_tt, gdO_ff, gdO_tf, gdO_ft, gdO_u,
  itemsOf, itemsAt, operO, stepO, convO, callO, callB, storeO, pureA, loadA, allocA, serA, selA, binA, binInt, unA, convA, partA, TD.isAgg, TD.isBool, TD.isPtr, TD.isFunc, fieldOf, indexA, indexAddrA_sl, indexAddrA_ptr, lenA_sl, lenA_snil, lenA_str, buildA, placesA, fillA, repl, eqA, eqV, eqV.eqFs,
  ofConst, ofLeaf, ofLeafs, AV.cells, AV.leaf, List.all_cons, List.all_nil, Bool.true_and, Bool.and_true, Bool.false_and, Bool.and_false, Bool.true_or, Bool.false_or, Bool.or_false, Bool.or_true, Bool.not_true, Bool.not_false, Bool.not_not,
  Option.bind_some, Option.bind_none, Option.map_some, Option.map_none, Option.getD_some, Option.getD_none, Option.bind_eq_bind, List.getElem?_cons_zero, List.getElem?_cons_succ, List.getElem?_nil, List.getElem?_toArray, List.map_cons, List.map_nil, List.append_nil, List.nil_append, List.cons_append, List.singleton_append,
  List.take_zero, List.drop_zero, List.take_succ_cons, List.drop_succ_cons, List.take_nil, List.drop_nil, List.length_cons, List.length_nil, List.length_append, List.tail_cons, List.headD_cons, List.headD_nil, List.tail_nil,
  Nat.reduceEqDiff, Nat.reduceAdd, Nat.reduceMul, Nat.reduceLeDiff, ↓reduceIte, if_true, if_false, reduceCtorEq, true_and, and_true, false_and, and_false, decide_true, decide_false, Int.natCast_nonneg, Int.toNat_natCast, Nat.mul_one, Nat.one_mul, Nat.zero_add, Nat.add_zero, ne_eq, not_true_eq_false, not_false_eq_true, Nat.zero_le, Nat.zero_lt_succ, Nat.zero_lt_one, Nat.le_refl, Int.toNat_zero, Nat.zero_mul, Nat.mul_zero, and_self, beq_self_eq_true, Nat.succ_ne_self,
  wrap64, wrap32, wrapU64, wrapU8, wrapU32, argL, ti41, tmA]
  refine gN_alloc_ptr fun b1 m1 hb1 hm1 hk1 => ?_
  simp -implicitDefEqProofs (disch := omega) only [gO_nil, gO_cons, gN_cond, gN_val, gN_bad, outV_some, outV_none, outV_guard, outA_guard, outP_guard, outA_some, outA_none, outP_some, outP_none, guardO_true, gN_store, putd_lk, putd_lk0, lk_cons, lk_nil, ev_tmp, ev, gdO_tt, gdO_ff, gdO_tf, gdO_ft, gdO_u,
  itemsOf, itemsAt, operO, stepO, convO, callO, callB, storeO, pureA, loadA, allocA, serA, selA, binA, binInt, unA, convA, partA, TD.isAgg, TD.isBool, TD.isPtr, TD.isFunc, fieldOf, indexA, indexAddrA_sl, indexAddrA_ptr, lenA_sl, lenA_snil, lenA_str, buildA, placesA, fillA, repl, eqA, eqV, eqV.eqFs,
  ofConst, ofLeaf, ofLeafs, AV.cells, AV.leaf, List.all_cons, List.all_nil, Bool.true_and, Bool.and_true, Bool.false_and, Bool.and_false, Bool.true_or, Bool.false_or, Bool.or_false, Bool.or_true, Bool.not_true, Bool.not_false, Bool.not_not,
  Option.bind_some, Option.bind_none, Option.map_some, Option.map_none, Option.getD_some, Option.getD_none, Option.bind_eq_bind, List.getElem?_cons_zero, List.getElem?_cons_succ, List.getElem?_nil, List.getElem?_toArray, List.map_cons, List.map_nil, List.append_nil, List.nil_append, List.cons_append, List.singleton_append,
  List.take_zero, List.drop_zero, List.take_succ_cons, List.drop_succ_cons, List.take_nil, List.drop_nil, List.length_cons, List.length_nil, List.length_append, List.tail_cons, List.headD_cons, List.headD_nil, List.tail_nil,
  Nat.reduceEqDiff, Nat.reduceAdd, Nat.reduceMul, Nat.reduceLeDiff, ↓reduceIte, if_true, if_false, reduceCtorEq, true_and, and_true, false_and, and_false, decide_true, decide_false, Int.natCast_nonneg, Int.toNat_natCast, Nat.mul_one, Nat.one_mul, Nat.zero_add, Nat.add_zero, ne_eq, not_true_eq_false, not_false_eq_true, Nat.zero_le, Nat.zero_lt_succ, Nat.zero_lt_one, Nat.le_refl, Int.toNat_zero, Nat.zero_mul, Nat.mul_zero, and_self, beq_self_eq_true, Nat.succ_ne_self,
  wrap64, wrap32, wrapU64, wrapU8, wrapU32, ti41]
  refine gN_alloc_ptr fun b2 m2 hb2 hm2 hk2 => ?_
  simp -implicitDefEqProofs (disch := omega) only [gO_nil, gO_cons, gN_cond, gN_val, gN_bad, outV_some, outV_none, outV_guard, outA_guard, outP_guard, outA_some, outA_none, outP_some, outP_none, guardO_true, gN_store, putd_lk, putd_lk0, lk_cons, lk_nil, ev_tmp, ev, gdO_tt, gdO_ff, gdO_tf, gdO_ft, gdO_u,
  itemsOf, itemsAt, operO, stepO, convO, callO, callB, storeO, pureA, loadA, allocA, serA, selA, binA, binInt, unA, convA, partA, TD.isAgg, TD.isBool, TD.isPtr, TD.isFunc, fieldOf, indexA, indexAddrA_sl, indexAddrA_ptr, lenA_sl, lenA_snil, lenA_str, buildA, placesA, fillA, repl, eqA, eqV, eqV.eqFs,
  ofConst, ofLeaf, ofLeafs, AV.cells, AV.leaf, List.all_cons, List.all_nil, Bool.true_and, Bool.and_true, Bool.false_and, Bool.and_false, Bool.true_or, Bool.false_or, Bool.or_false, Bool.or_true, Bool.not_true, Bool.not_false, Bool.not_not,
  Option.bind_some, Option.bind_none, Option.map_some, Option.map_none, Option.getD_some, Option.getD_none, Option.bind_eq_bind, List.getElem?_cons_zero, List.getElem?_cons_succ, List.getElem?_nil, List.getElem?_toArray, List.map_cons, List.map_nil, List.append_nil, List.nil_append, List.cons_append, List.singleton_append,
  List.take_zero, List.drop_zero, List.take_succ_cons, List.drop_succ_cons, List.take_nil, List.drop_nil, List.length_cons, List.length_nil, List.length_append, List.tail_cons, List.headD_cons, List.headD_nil, List.tail_nil,
  Nat.reduceEqDiff, Nat.reduceAdd, Nat.reduceMul, Nat.reduceLeDiff, ↓reduceIte, if_true, if_false, reduceCtorEq, true_and, and_true, false_and, and_false, decide_true, decide_false, Int.natCast_nonneg, Int.toNat_natCast, Nat.mul_one, Nat.one_mul, Nat.zero_add, Nat.add_zero, ne_eq, not_true_eq_false, not_false_eq_true, Nat.zero_le, Nat.zero_lt_succ, Nat.zero_lt_one, Nat.le_refl, Int.toNat_zero, Nat.zero_mul, Nat.mul_zero, and_self, beq_self_eq_true, Nat.succ_ne_self,
  wrap64, wrap32, wrapU64, wrapU8, wrapU32]
  refine hq _ _ ?_
  simp only [pickL, lk_cons, Nat.reduceEqDiff, ↓reduceIte, reduceCtorEq, if_true, if_false]
  clear hq q
  have hm1' := hk2 b1 (by simp) _ hm1
  have hb2' : b2 ≠ b1 := by rintro rfl; rw [hb2] at hm1; cases hm1
  have hres : Try.f18.results.toList = [.cell 2 41] := rfl
  repeat' (first | refine wpL_seq ?_ | refine wpL_skip ?_ | refine wpL_label ?_)
  refine wpL_region [1, 2, 4] fun q hq => ?_
  simp -implicitDefEqProofs (disch := omega) only [gO_nil, gO_cons, gN_cond, gN_val, gN_bad, outV_some, outV_none, outV_guard, outA_guard, outP_guard, outA_some, outA_none, outP_some, outP_none, guardO_true, gN_store, putd_lk, putd_lk0, lk_cons, lk_nil, ev_tmp, ev, gdO_tt, gdO_ff, gdO_tf, gdO_ft, gdO_u,
  itemsOf, itemsAt, operO, stepO, convO, callO, callB, storeO, pureA, loadA, allocA, serA, selA, binA, binInt, unA, convA, partA, TD.isAgg, TD.isBool, TD.isPtr, TD.isFunc, fieldOf, indexA, indexAddrA_sl, indexAddrA_ptr, lenA_sl, lenA_snil, lenA_str, buildA, placesA, fillA, repl, eqA, eqV, eqV.eqFs,
  ofConst, ofLeaf, ofLeafs, AV.cells, AV.leaf, List.all_cons, List.all_nil, Bool.true_and, Bool.and_true, Bool.false_and, Bool.and_false, Bool.true_or, Bool.false_or, Bool.or_false, Bool.or_true, Bool.not_true, Bool.not_false, Bool.not_not,
  Option.bind_some, Option.bind_none, Option.map_some, Option.map_none, Option.getD_some, Option.getD_none, Option.bind_eq_bind, List.getElem?_cons_zero, List.getElem?_cons_succ, List.getElem?_nil, List.getElem?_toArray, List.map_cons, List.map_nil, List.append_nil, List.nil_append, List.cons_append, List.singleton_append,
  List.take_zero, List.drop_zero, List.take_succ_cons, List.drop_succ_cons, List.take_nil, List.drop_nil, List.length_cons, List.length_nil, List.length_append, List.tail_cons, List.headD_cons, List.headD_nil, List.tail_nil,
  Nat.reduceEqDiff, Nat.reduceAdd, Nat.reduceMul, Nat.reduceLeDiff, ↓reduceIte, if_true, if_false, reduceCtorEq, true_and, and_true, false_and, and_false, decide_true, decide_false, Int.natCast_nonneg, Int.toNat_natCast, Nat.mul_one, Nat.one_mul, Nat.zero_add, Nat.add_zero, ne_eq, not_true_eq_false, not_false_eq_true, Nat.zero_le, Nat.zero_lt_succ, Nat.zero_lt_one, Nat.le_refl, Int.toNat_zero, Nat.zero_mul, Nat.mul_zero, and_self, beq_self_eq_true, Nat.succ_ne_self,
  wrap64, wrap32, wrapU64, wrapU8, wrapU32, ti41, ti4, hm1']
  refine hq _ _ ?_
  simp only [pickL, lk_cons, Nat.reduceEqDiff, ↓reduceIte, reduceCtorEq, if_true, if_false]
  clear hq q
  repeat' (first | refine wpL_seq ?_ | refine wpL_skip ?_ | refine wpL_label ?_)
  refine wpL_condK rfl fun j1 hj1 ox1 => ?_
  have tail : ∀ m3 z, z = (if r then upV n else n) → m3.blk b1 = some ⟨.own, [.int .i32 z, .bool r], 41, []⟩ → Keep [b1] m2 m3 → j1 .normal (lk [(1, .ptr b1 0), (2, .ptr b2 0)]) m3 := by
    intro m3 z hz hm3 hk3
    refine hj1 _ _ ?_
    have hm2' := hk3 b2 (by simpa using hb2') _ hm2
    repeat' (first | refine wpL_seq ?_ | refine wpL_skip ?_ | refine wpL_label ?_)
    refine wpL_region [2] fun q hq => ?_
    simp -implicitDefEqProofs (disch := omega) only [gO_nil, gO_cons, gN_cond, gN_val, gN_bad, outV_some, outV_none, outV_guard, outA_guard, outP_guard, outA_some, outA_none, outP_some, outP_none, guardO_true, gN_store, putd_lk, putd_lk0, lk_cons, lk_nil, ev_tmp, ev, gdO_tt, gdO_ff, gdO_tf, gdO_ft, gdO_u,
  itemsOf, itemsAt, operO, stepO, convO, callO, callB, storeO, pureA, loadA, allocA, serA, selA, binA, binInt, unA, convA, partA, TD.isAgg, TD.isBool, TD.isPtr, TD.isFunc, fieldOf, indexA, indexAddrA_sl, indexAddrA_ptr, lenA_sl, lenA_snil, lenA_str, buildA, placesA, fillA, repl, eqA, eqV, eqV.eqFs,
  ofConst, ofLeaf, ofLeafs, AV.cells, AV.leaf, List.all_cons, List.all_nil, Bool.true_and, Bool.and_true, Bool.false_and, Bool.and_false, Bool.true_or, Bool.false_or, Bool.or_false, Bool.or_true, Bool.not_true, Bool.not_false, Bool.not_not,
  Option.bind_some, Option.bind_none, Option.map_some, Option.map_none, Option.getD_some, Option.getD_none, Option.bind_eq_bind, List.getElem?_cons_zero, List.getElem?_cons_succ, List.getElem?_nil, List.getElem?_toArray, List.map_cons, List.map_nil, List.append_nil, List.nil_append, List.cons_append, List.singleton_append,
  List.take_zero, List.drop_zero, List.take_succ_cons, List.drop_succ_cons, List.take_nil, List.drop_nil, List.length_cons, List.length_nil, List.length_append, List.tail_cons, List.headD_cons, List.headD_nil, List.tail_nil,
  Nat.reduceEqDiff, Nat.reduceAdd, Nat.reduceMul, Nat.reduceLeDiff, ↓reduceIte, if_true, if_false, reduceCtorEq, true_and, and_true, false_and, and_false, decide_true, decide_false, Int.natCast_nonneg, Int.toNat_natCast, Nat.mul_one, Nat.one_mul, Nat.zero_add, Nat.add_zero, ne_eq, not_true_eq_false, not_false_eq_true, Nat.zero_le, Nat.zero_lt_succ, Nat.zero_lt_one, Nat.le_refl, Int.toNat_zero, Nat.zero_mul, Nat.mul_zero, and_self, beq_self_eq_true, Nat.succ_ne_self,
  wrap64, wrap32, wrapU64, wrapU8, wrapU32, ti41, hm3, hm2']
    refine gN_store_of rfl rfl fun m4 hm4 hk4 => ?_
    simp only [List.take_zero, List.take_succ_cons, List.drop_zero, List.drop_succ_cons, List.nil_append, List.cons_append, List.length_cons, List.length_nil, Nat.zero_add, Nat.reduceAdd, List.append_nil, List.drop_nil] at hm4
    simp -implicitDefEqProofs (disch := omega) only [gO_nil, gO_cons, gN_cond, gN_val, gN_bad, outV_some, outV_none, outV_guard, outA_guard, outP_guard, outA_some, outA_none, outP_some, outP_none, guardO_true, gN_store, putd_lk, putd_lk0, lk_cons, lk_nil, ev_tmp, ev, gdO_tt, gdO_ff, gdO_tf, gdO_ft, gdO_u,
  itemsOf, itemsAt, operO, stepO, convO, callO, callB, storeO, pureA, loadA, allocA, serA, selA, binA, binInt, unA, convA, partA, TD.isAgg, TD.isBool, TD.isPtr, TD.isFunc, fieldOf, indexA, indexAddrA_sl, indexAddrA_ptr, lenA_sl, lenA_snil, lenA_str, buildA, placesA, fillA, repl, eqA, eqV, eqV.eqFs,
  ofConst, ofLeaf, ofLeafs, AV.cells, AV.leaf, List.all_cons, List.all_nil, Bool.true_and, Bool.and_true, Bool.false_and, Bool.and_false, Bool.true_or, Bool.false_or, Bool.or_false, Bool.or_true, Bool.not_true, Bool.not_false, Bool.not_not,
  Option.bind_some, Option.bind_none, Option.map_some, Option.map_none, Option.getD_some, Option.getD_none, Option.bind_eq_bind, List.getElem?_cons_zero, List.getElem?_cons_succ, List.getElem?_nil, List.getElem?_toArray, List.map_cons, List.map_nil, List.append_nil, List.nil_append, List.cons_append, List.singleton_append,
  List.take_zero, List.drop_zero, List.take_succ_cons, List.drop_succ_cons, List.take_nil, List.drop_nil, List.length_cons, List.length_nil, List.length_append, List.tail_cons, List.headD_cons, List.headD_nil, List.tail_nil,
  Nat.reduceEqDiff, Nat.reduceAdd, Nat.reduceMul, Nat.reduceLeDiff, ↓reduceIte, if_true, if_false, reduceCtorEq, true_and, and_true, false_and, and_false, decide_true, decide_false, Int.natCast_nonneg, Int.toNat_natCast, Nat.mul_one, Nat.one_mul, Nat.zero_add, Nat.add_zero, ne_eq, not_true_eq_false, not_false_eq_true, Nat.zero_le, Nat.zero_lt_succ, Nat.zero_lt_one, Nat.le_refl, Int.toNat_zero, Nat.zero_mul, Nat.mul_zero, and_self, beq_self_eq_true, Nat.succ_ne_self,
  wrap64, wrap32, wrapU64, wrapU8, wrapU32]
    refine hq _ _ ?_
    simp only [pickL, lk_cons, Nat.reduceEqDiff, ↓reduceIte, reduceCtorEq, if_true, if_false]
    clear hq q
    repeat' (first | refine wpL_seq ?_ | refine wpL_skip ?_ | refine wpL_label ?_)
    refine wpL_ret (hK' _ _ _ (tmA z r) (.inr rfl) (by simp -implicitDefEqProofs (disch := omega) only [gO_nil, gO_cons, gN_cond, gN_val, gN_bad, outV_some, outV_none, outV_guard, outA_guard, outP_guard, outA_some, outA_none, outP_some, outP_none, guardO_true, gN_store, putd_lk, putd_lk0, lk_cons, lk_nil, ev_tmp, ev, gdO_tt, gdO_ff, gdO_tf, gdO_ft, gdO_u,
  itemsOf, itemsAt, operO, stepO, convO, callO, callB, storeO, pureA, loadA, allocA, serA, selA, binA, binInt, unA, convA, partA, TD.isAgg, TD.isBool, TD.isPtr, TD.isFunc, fieldOf, indexA, indexAddrA_sl, indexAddrA_ptr, lenA_sl, lenA_snil, lenA_str, buildA, placesA, fillA, repl, eqA, eqV, eqV.eqFs,
  ofConst, ofLeaf, ofLeafs, AV.cells, AV.leaf, List.all_cons, List.all_nil, Bool.true_and, Bool.and_true, Bool.false_and, Bool.and_false, Bool.true_or, Bool.false_or, Bool.or_false, Bool.or_true, Bool.not_true, Bool.not_false, Bool.not_not,
  Option.bind_some, Option.bind_none, Option.map_some, Option.map_none, Option.getD_some, Option.getD_none, Option.bind_eq_bind, List.getElem?_cons_zero, List.getElem?_cons_succ, List.getElem?_nil, List.getElem?_toArray, List.map_cons, List.map_nil, List.append_nil, List.nil_append, List.cons_append, List.singleton_append,
  List.take_zero, List.drop_zero, List.take_succ_cons, List.drop_succ_cons, List.take_nil, List.drop_nil, List.length_cons, List.length_nil, List.length_append, List.tail_cons, List.headD_cons, List.headD_nil, List.tail_nil,
  Nat.reduceEqDiff, Nat.reduceAdd, Nat.reduceMul, Nat.reduceLeDiff, ↓reduceIte, if_true, if_false, reduceCtorEq, true_and, and_true, false_and, and_false, decide_true, decide_false, Int.natCast_nonneg, Int.toNat_natCast, Nat.mul_one, Nat.one_mul, Nat.zero_add, Nat.add_zero, ne_eq, not_true_eq_false, not_false_eq_true, Nat.zero_le, Nat.zero_lt_succ, Nat.zero_lt_one, Nat.le_refl, Int.toNat_zero, Nat.zero_mul, Nat.mul_zero, and_self, beq_self_eq_true, Nat.succ_ne_self,
  wrap64, wrap32, wrapU64, wrapU8, wrapU32, hres, resA, resList, resOne, hm4, ti41, tmA]) ?_)
    rw [hz]
    refine hK _ ?_
    intro x _ kx hx
    have hx1 := hk1 x (by simp) kx hx
    have hx2 := hk2 x (by simp) kx hx1
    have hx3 := hk3 x (by simp; rintro rfl; rw [hb1] at hx; cases hx) kx hx2
    exact hk4 x (by simp; rintro rfl; rw [hb2] at hx1; cases hx1) kx hx3
  refine ⟨fun hc => ?_, fun hc => ?_⟩
  · repeat' (first | refine wpL_seq ?_ | refine wpL_skip ?_ | refine wpL_label ?_)
    refine wpL_region [1, 2] fun q hq => ?_
    simp -implicitDefEqProofs (disch := omega) only [gO_nil, gO_cons, gN_cond, gN_val, gN_bad, outV_some, outV_none, outV_guard, outA_guard, outP_guard, outA_some, outA_none, outP_some, outP_none, guardO_true, gN_store, putd_lk, putd_lk0, lk_cons, lk_nil, ev_tmp, ev, gdO_tt, gdO_ff, gdO_tf, gdO_ft, gdO_u,
  itemsOf, itemsAt, operO, stepO, convO, callO, callB, storeO, pureA, loadA, allocA, serA, selA, binA, binInt, unA, convA, partA, TD.isAgg, TD.isBool, TD.isPtr, TD.isFunc, fieldOf, indexA, indexAddrA_sl, indexAddrA_ptr, lenA_sl, lenA_snil, lenA_str, buildA, placesA, fillA, repl, eqA, eqV, eqV.eqFs,
  ofConst, ofLeaf, ofLeafs, AV.cells, AV.leaf, List.all_cons, List.all_nil, Bool.true_and, Bool.and_true, Bool.false_and, Bool.and_false, Bool.true_or, Bool.false_or, Bool.or_false, Bool.or_true, Bool.not_true, Bool.not_false, Bool.not_not,
  Option.bind_some, Option.bind_none, Option.map_some, Option.map_none, Option.getD_some, Option.getD_none, Option.bind_eq_bind, List.getElem?_cons_zero, List.getElem?_cons_succ, List.getElem?_nil, List.getElem?_toArray, List.map_cons, List.map_nil, List.append_nil, List.nil_append, List.cons_append, List.singleton_append,
  List.take_zero, List.drop_zero, List.take_succ_cons, List.drop_succ_cons, List.take_nil, List.drop_nil, List.length_cons, List.length_nil, List.length_append, List.tail_cons, List.headD_cons, List.headD_nil, List.tail_nil,
  Nat.reduceEqDiff, Nat.reduceAdd, Nat.reduceMul, Nat.reduceLeDiff, ↓reduceIte, if_true, if_false, reduceCtorEq, true_and, and_true, false_and, and_false, decide_true, decide_false, Int.natCast_nonneg, Int.toNat_natCast, Nat.mul_one, Nat.one_mul, Nat.zero_add, Nat.add_zero, ne_eq, not_true_eq_false, not_false_eq_true, Nat.zero_le, Nat.zero_lt_succ, Nat.zero_lt_one, Nat.le_refl, Int.toNat_zero, Nat.zero_mul, Nat.mul_zero, and_self, beq_self_eq_true, Nat.succ_ne_self,
  wrap64, wrap32, wrapU64, wrapU8, wrapU32, ti41, ti21, hm1']
    refine gN_callF (f16_up h1 h2 ?_)
    simp -implicitDefEqProofs (disch := omega) only [gO_nil, gO_cons, gN_cond, gN_val, gN_bad, outV_some, outV_none, outV_guard, outA_guard, outP_guard, outA_some, outA_none, outP_some, outP_none, guardO_true, gN_store, putd_lk, putd_lk0, lk_cons, lk_nil, ev_tmp, ev, gdO_tt, gdO_ff, gdO_tf, gdO_ft, gdO_u,
  itemsOf, itemsAt, operO, stepO, convO, callO, callB, storeO, pureA, loadA, allocA, serA, selA, binA, binInt, unA, convA, partA, TD.isAgg, TD.isBool, TD.isPtr, TD.isFunc, fieldOf, indexA, indexAddrA_sl, indexAddrA_ptr, lenA_sl, lenA_snil, lenA_str, buildA, placesA, fillA, repl, eqA, eqV, eqV.eqFs,
  ofConst, ofLeaf, ofLeafs, AV.cells, AV.leaf, List.all_cons, List.all_nil, Bool.true_and, Bool.and_true, Bool.false_and, Bool.and_false, Bool.true_or, Bool.false_or, Bool.or_false, Bool.or_true, Bool.not_true, Bool.not_false, Bool.not_not,
  Option.bind_some, Option.bind_none, Option.map_some, Option.map_none, Option.getD_some, Option.getD_none, Option.bind_eq_bind, List.getElem?_cons_zero, List.getElem?_cons_succ, List.getElem?_nil, List.getElem?_toArray, List.map_cons, List.map_nil, List.append_nil, List.nil_append, List.cons_append, List.singleton_append,
  List.take_zero, List.drop_zero, List.take_succ_cons, List.drop_succ_cons, List.take_nil, List.drop_nil, List.length_cons, List.length_nil, List.length_append, List.tail_cons, List.headD_cons, List.headD_nil, List.tail_nil,
  Nat.reduceEqDiff, Nat.reduceAdd, Nat.reduceMul, Nat.reduceLeDiff, ↓reduceIte, if_true, if_false, reduceCtorEq, true_and, and_true, false_and, and_false, decide_true, decide_false, Int.natCast_nonneg, Int.toNat_natCast, Nat.mul_one, Nat.one_mul, Nat.zero_add, Nat.add_zero, ne_eq, not_true_eq_false, not_false_eq_true, Nat.zero_le, Nat.zero_lt_succ, Nat.zero_lt_one, Nat.le_refl, Int.toNat_zero, Nat.zero_mul, Nat.mul_zero, and_self, beq_self_eq_true, Nat.succ_ne_self,
  wrap64, wrap32, wrapU64, wrapU8, wrapU32, ti41, ti21, hm1']
    refine gN_store_of rfl rfl fun m5 hm5 hk5 => ?_
    simp only [List.take_zero, List.take_succ_cons, List.drop_zero, List.drop_succ_cons, List.nil_append, List.cons_append, List.length_cons, List.length_nil, Nat.zero_add, Nat.reduceAdd, List.append_nil, List.drop_nil] at hm5
    simp -implicitDefEqProofs (disch := omega) only [gO_nil, gO_cons, gN_cond, gN_val, gN_bad, outV_some, outV_none, outV_guard, outA_guard, outP_guard, outA_some, outA_none, outP_some, outP_none, guardO_true, gN_store, putd_lk, putd_lk0, lk_cons, lk_nil, ev_tmp, ev, gdO_tt, gdO_ff, gdO_tf, gdO_ft, gdO_u,
  itemsOf, itemsAt, operO, stepO, convO, callO, callB, storeO, pureA, loadA, allocA, serA, selA, binA, binInt, unA, convA, partA, TD.isAgg, TD.isBool, TD.isPtr, TD.isFunc, fieldOf, indexA, indexAddrA_sl, indexAddrA_ptr, lenA_sl, lenA_snil, lenA_str, buildA, placesA, fillA, repl, eqA, eqV, eqV.eqFs,
  ofConst, ofLeaf, ofLeafs, AV.cells, AV.leaf, List.all_cons, List.all_nil, Bool.true_and, Bool.and_true, Bool.false_and, Bool.and_false, Bool.true_or, Bool.false_or, Bool.or_false, Bool.or_true, Bool.not_true, Bool.not_false, Bool.not_not,
  Option.bind_some, Option.bind_none, Option.map_some, Option.map_none, Option.getD_some, Option.getD_none, Option.bind_eq_bind, List.getElem?_cons_zero, List.getElem?_cons_succ, List.getElem?_nil, List.getElem?_toArray, List.map_cons, List.map_nil, List.append_nil, List.nil_append, List.cons_append, List.singleton_append,
  List.take_zero, List.drop_zero, List.take_succ_cons, List.drop_succ_cons, List.take_nil, List.drop_nil, List.length_cons, List.length_nil, List.length_append, List.tail_cons, List.headD_cons, List.headD_nil, List.tail_nil,
  Nat.reduceEqDiff, Nat.reduceAdd, Nat.reduceMul, Nat.reduceLeDiff, ↓reduceIte, if_true, if_false, reduceCtorEq, true_and, and_true, false_and, and_false, decide_true, decide_false, Int.natCast_nonneg, Int.toNat_natCast, Nat.mul_one, Nat.one_mul, Nat.zero_add, Nat.add_zero, ne_eq, not_true_eq_false, not_false_eq_true, Nat.zero_le, Nat.zero_lt_succ, Nat.zero_lt_one, Nat.le_refl, Int.toNat_zero, Nat.zero_mul, Nat.mul_zero, and_self, beq_self_eq_true, Nat.succ_ne_self,
  wrap64, wrap32, wrapU64, wrapU8, wrapU32]
    refine hq _ _ ?_
    simp only [pickL, lk_cons, Nat.reduceEqDiff, ↓reduceIte, reduceCtorEq, if_true, if_false]
    clear hq q
    exact wpL_nil (tail m5 _ (by simp [hc]) hm5 hk5)
  · refine wpL_skipP [1, 2] ?_
    simp only [pickL, lk_cons, Nat.reduceEqDiff, ↓reduceIte, reduceCtorEq, if_true, if_false]
    exact wpL_nil (tail m2 n (by simp [hc]) hm1' (Keep.refl _ _))

theorem f23_within {m n K} (h1 : -9223372036854775808 ≤ n) (h2 : n ≤ 9223372036854775807) (hK : K (.int .i32 (capV n)) m) : wpF Try.prog 23 [.int .i64 n] m K := by
  refine wpF_intro (fn := Try.f23) rfl rfl (by decide) (by kernel_rfl) fun K' hK' => ?_
  repeat' (first | refine wpL_seq ?_ | refine wpL_skip ?_ | refine wpL_label ?_)
  refine wpL_region [0] fun q hq => ?_
  simp -implicitDefEqProofs (disch := omega) only [gO_nil, gO_cons, gN_cond, gN_val, gN_bad, outV_some, outV_none, outV_guard, outA_guard, outP_guard, outA_some, outA_none, outP_some, outP_none, guardO_true, gN_store, putd_lk, putd_lk0, lk_cons, lk_nil, ev_tmp, ev, gdO_tt, gdO_ff, gdO_tf, gdO_ft, gdO_u,
  itemsOf, itemsAt, operO, stepO, convO, callO, callB, storeO, pureA, loadA, allocA, serA, selA, binA, binInt, unA, convA, partA, TD.isAgg, TD.isBool, TD.isPtr, TD.isFunc, fieldOf, indexA, indexAddrA_sl, indexAddrA_ptr, lenA_sl, lenA_snil, lenA_str, buildA, placesA, fillA, repl, eqA, eqV, eqV.eqFs,
  ofConst, ofLeaf, ofLeafs, AV.cells, AV.leaf, List.all_cons, List.all_nil, Bool.true_and, Bool.and_true, Bool.false_and, Bool.and_false, Bool.true_or, Bool.false_or, Bool.or_false, Bool.or_true, Bool.not_true, Bool.not_false, Bool.not_not,
  Option.bind_some, Option.bind_none, Option.map_some, Option.map_none, Option.getD_some, Option.getD_none, Option.bind_eq_bind, List.getElem?_cons_zero, List.getElem?_cons_succ, List.getElem?_nil, List.getElem?_toArray, List.map_cons, List.map_nil, List.append_nil, List.nil_append, List.cons_append, List.singleton_append,
  List.take_zero, List.drop_zero, List.take_succ_cons, List.drop_succ_cons, List.take_nil, List.drop_nil, List.length_cons, List.length_nil, List.length_append, List.tail_cons, List.headD_cons, List.headD_nil, List.tail_nil,
  Nat.reduceEqDiff, Nat.reduceAdd, Nat.reduceMul, Nat.reduceLeDiff, ↓reduceIte, if_true, if_false, reduceCtorEq, true_and, and_true, false_and, and_false, decide_true, decide_false, Int.natCast_nonneg, Int.toNat_natCast, Nat.mul_one, Nat.one_mul, Nat.zero_add, Nat.add_zero, ne_eq, not_true_eq_false, not_false_eq_true, Nat.zero_le, Nat.zero_lt_succ, Nat.zero_lt_one, Nat.le_refl, Int.toNat_zero, Nat.zero_mul, Nat.mul_zero, and_self, beq_self_eq_true, Nat.succ_ne_self,
  wrap64, wrap32, wrapU64, wrapU8, wrapU32, argL]
  refine hq _ _ ?_
  simp only [pickL, lk_cons, Nat.reduceEqDiff, ↓reduceIte, reduceCtorEq, if_true, if_false]
  clear hq q
  repeat' (first | refine wpL_seq ?_ | refine wpL_skip ?_ | refine wpL_label ?_)
  refine wpL_region [0, 4] fun q hq => ?_
  simp -implicitDefEqProofs (disch := omega) only [gO_nil, gO_cons, gN_cond, gN_val, gN_bad, outV_some, outV_none, outV_guard, outA_guard, outP_guard, outA_some, outA_none, outP_some, outP_none, guardO_true, gN_store, putd_lk, putd_lk0, lk_cons, lk_nil, ev_tmp, ev, gdO_tt, gdO_ff, gdO_tf, gdO_ft, gdO_u,
  itemsOf, itemsAt, operO, stepO, convO, callO, callB, storeO, pureA, loadA, allocA, serA, selA, binA, binInt, unA, convA, partA, TD.isAgg, TD.isBool, TD.isPtr, TD.isFunc, fieldOf, indexA, indexAddrA_sl, indexAddrA_ptr, lenA_sl, lenA_snil, lenA_str, buildA, placesA, fillA, repl, eqA, eqV, eqV.eqFs,
  ofConst, ofLeaf, ofLeafs, AV.cells, AV.leaf, List.all_cons, List.all_nil, Bool.true_and, Bool.and_true, Bool.false_and, Bool.and_false, Bool.true_or, Bool.false_or, Bool.or_false, Bool.or_true, Bool.not_true, Bool.not_false, Bool.not_not,
  Option.bind_some, Option.bind_none, Option.map_some, Option.map_none, Option.getD_some, Option.getD_none, Option.bind_eq_bind, List.getElem?_cons_zero, List.getElem?_cons_succ, List.getElem?_nil, List.getElem?_toArray, List.map_cons, List.map_nil, List.append_nil, List.nil_append, List.cons_append, List.singleton_append,
  List.take_zero, List.drop_zero, List.take_succ_cons, List.drop_succ_cons, List.take_nil, List.drop_nil, List.length_cons, List.length_nil, List.length_append, List.tail_cons, List.headD_cons, List.headD_nil, List.tail_nil,
  Nat.reduceEqDiff, Nat.reduceAdd, Nat.reduceMul, Nat.reduceLeDiff, ↓reduceIte, if_true, if_false, reduceCtorEq, true_and, and_true, false_and, and_false, decide_true, decide_false, Int.natCast_nonneg, Int.toNat_natCast, Nat.mul_one, Nat.one_mul, Nat.zero_add, Nat.add_zero, ne_eq, not_true_eq_false, not_false_eq_true, Nat.zero_le, Nat.zero_lt_succ, Nat.zero_lt_one, Nat.le_refl, Int.toNat_zero, Nat.zero_mul, Nat.mul_zero, and_self, beq_self_eq_true, Nat.succ_ne_self,
  wrap64, wrap32, wrapU64, wrapU8, wrapU32]
  refine hq _ _ ?_
  simp only [pickL, lk_cons, Nat.reduceEqDiff, ↓reduceIte, reduceCtorEq, if_true, if_false]
  clear hq q
  repeat' (first | refine wpL_seq ?_ | refine wpL_skip ?_ | refine wpL_label ?_)
  refine wpL_cond rfl (fun hc => ?_) (fun hc => ?_)
  · have hneg : n < 0 := by simpa using hc
    repeat' (first | refine wpL_seq ?_ | refine wpL_skip ?_ | refine wpL_label ?_)
    refine wpL_region [2] fun q hq => ?_
    simp -implicitDefEqProofs (disch := omega) only [gO_nil, gO_cons, gN_cond, gN_val, gN_bad, outV_some, outV_none, outV_guard, outA_guard, outP_guard, outA_some, outA_none, outP_some, outP_none, guardO_true, gN_store, putd_lk, putd_lk0, lk_cons, lk_nil, ev_tmp, ev, gdO_tt, gdO_ff, gdO_tf, gdO_ft, gdO_u,
  itemsOf, itemsAt, operO, stepO, convO, callO, callB, storeO, pureA, loadA, allocA, serA, selA, binA, binInt, unA, convA, partA, TD.isAgg, TD.isBool, TD.isPtr, TD.isFunc, fieldOf, indexA, indexAddrA_sl, indexAddrA_ptr, lenA_sl, lenA_snil, lenA_str, buildA, placesA, fillA, repl, eqA, eqV, eqV.eqFs,
  ofConst, ofLeaf, ofLeafs, AV.cells, AV.leaf, List.all_cons, List.all_nil, Bool.true_and, Bool.and_true, Bool.false_and, Bool.and_false, Bool.true_or, Bool.false_or, Bool.or_false, Bool.or_true, Bool.not_true, Bool.not_false, Bool.not_not,
  Option.bind_some, Option.bind_none, Option.map_some, Option.map_none, Option.getD_some, Option.getD_none, Option.bind_eq_bind, List.getElem?_cons_zero, List.getElem?_cons_succ, List.getElem?_nil, List.getElem?_toArray, List.map_cons, List.map_nil, List.append_nil, List.nil_append, List.cons_append, List.singleton_append,
  List.take_zero, List.drop_zero, List.take_succ_cons, List.drop_succ_cons, List.take_nil, List.drop_nil, List.length_cons, List.length_nil, List.length_append, List.tail_cons, List.headD_cons, List.headD_nil, List.tail_nil,
  Nat.reduceEqDiff, Nat.reduceAdd, Nat.reduceMul, Nat.reduceLeDiff, ↓reduceIte, if_true, if_false, reduceCtorEq, true_and, and_true, false_and, and_false, decide_true, decide_false, Int.natCast_nonneg, Int.toNat_natCast, Nat.mul_one, Nat.one_mul, Nat.zero_add, Nat.add_zero, ne_eq, not_true_eq_false, not_false_eq_true, Nat.zero_le, Nat.zero_lt_succ, Nat.zero_lt_one, Nat.le_refl, Int.toNat_zero, Nat.zero_mul, Nat.mul_zero, and_self, beq_self_eq_true, Nat.succ_ne_self,
  wrap64, wrap32, wrapU64, wrapU8, wrapU32]
    refine hq _ _ ?_
    simp only [pickL, lk_cons, Nat.reduceEqDiff, ↓reduceIte, reduceCtorEq, if_true, if_false]
    clear hq q
    repeat' (first | refine wpL_seq ?_ | refine wpL_skip ?_ | refine wpL_label ?_)
    refine wpL_ret (hK' _ _ _ _ (.inr rfl) rfl ?_)
    simp only [pickL, lk_cons, Nat.reduceEqDiff, ↓reduceIte, reduceCtorEq, if_true, if_false]
    have : capV n = 0 := by unfold capV; (repeat' split) <;> omega
    rwa [this] at hK
  have hneg : ¬ n < 0 := by simpa using hc
  repeat' (first | refine wpL_seq ?_ | refine wpL_skip ?_ | refine wpL_label ?_)
  refine wpL_region [0, 6] fun q hq => ?_
  simp -implicitDefEqProofs (disch := omega) only [gO_nil, gO_cons, gN_cond, gN_val, gN_bad, outV_some, outV_none, outV_guard, outA_guard, outP_guard, outA_some, outA_none, outP_some, outP_none, guardO_true, gN_store, putd_lk, putd_lk0, lk_cons, lk_nil, ev_tmp, ev, gdO_tt, gdO_ff, gdO_tf, gdO_ft, gdO_u,
  itemsOf, itemsAt, operO, stepO, convO, callO, callB, storeO, pureA, loadA, allocA, serA, selA, binA, binInt, unA, convA, partA, TD.isAgg, TD.isBool, TD.isPtr, TD.isFunc, fieldOf, indexA, indexAddrA_sl, indexAddrA_ptr, lenA_sl, lenA_snil, lenA_str, buildA, placesA, fillA, repl, eqA, eqV, eqV.eqFs,
  ofConst, ofLeaf, ofLeafs, AV.cells, AV.leaf, List.all_cons, List.all_nil, Bool.true_and, Bool.and_true, Bool.false_and, Bool.and_false, Bool.true_or, Bool.false_or, Bool.or_false, Bool.or_true, Bool.not_true, Bool.not_false, Bool.not_not,
  Option.bind_some, Option.bind_none, Option.map_some, Option.map_none, Option.getD_some, Option.getD_none, Option.bind_eq_bind, List.getElem?_cons_zero, List.getElem?_cons_succ, List.getElem?_nil, List.getElem?_toArray, List.map_cons, List.map_nil, List.append_nil, List.nil_append, List.cons_append, List.singleton_append,
  List.take_zero, List.drop_zero, List.take_succ_cons, List.drop_succ_cons, List.take_nil, List.drop_nil, List.length_cons, List.length_nil, List.length_append, List.tail_cons, List.headD_cons, List.headD_nil, List.tail_nil,
  Nat.reduceEqDiff, Nat.reduceAdd, Nat.reduceMul, Nat.reduceLeDiff, ↓reduceIte, if_true, if_false, reduceCtorEq, true_and, and_true, false_and, and_false, decide_true, decide_false, Int.natCast_nonneg, Int.toNat_natCast, Nat.mul_one, Nat.one_mul, Nat.zero_add, Nat.add_zero, ne_eq, not_true_eq_false, not_false_eq_true, Nat.zero_le, Nat.zero_lt_succ, Nat.zero_lt_one, Nat.le_refl, Int.toNat_zero, Nat.zero_mul, Nat.mul_zero, and_self, beq_self_eq_true, Nat.succ_ne_self,
  wrap64, wrap32, wrapU64, wrapU8, wrapU32]
  refine hq _ _ ?_
  simp only [pickL, lk_cons, Nat.reduceEqDiff, ↓reduceIte, reduceCtorEq, if_true, if_false]
  clear hq q
  repeat' (first | refine wpL_seq ?_ | refine wpL_skip ?_ | refine wpL_label ?_)
  refine wpL_cond rfl (fun hd => ?_) (fun hd => ?_)
  · have : n > 2147483647 := by simpa using hd
    repeat' (first | refine wpL_seq ?_ | refine wpL_skip ?_ | refine wpL_label ?_)
    refine wpL_region [2] fun q hq => ?_
    simp -implicitDefEqProofs (disch := omega) only [gO_nil, gO_cons, gN_cond, gN_val, gN_bad, outV_some, outV_none, outV_guard, outA_guard, outP_guard, outA_some, outA_none, outP_some, outP_none, guardO_true, gN_store, putd_lk, putd_lk0, lk_cons, lk_nil, ev_tmp, ev, gdO_tt, gdO_ff, gdO_tf, gdO_ft, gdO_u,
  itemsOf, itemsAt, operO, stepO, convO, callO, callB, storeO, pureA, loadA, allocA, serA, selA, binA, binInt, unA, convA, partA, TD.isAgg, TD.isBool, TD.isPtr, TD.isFunc, fieldOf, indexA, indexAddrA_sl, indexAddrA_ptr, lenA_sl, lenA_snil, lenA_str, buildA, placesA, fillA, repl, eqA, eqV, eqV.eqFs,
  ofConst, ofLeaf, ofLeafs, AV.cells, AV.leaf, List.all_cons, List.all_nil, Bool.true_and, Bool.and_true, Bool.false_and, Bool.and_false, Bool.true_or, Bool.false_or, Bool.or_false, Bool.or_true, Bool.not_true, Bool.not_false, Bool.not_not,
  Option.bind_some, Option.bind_none, Option.map_some, Option.map_none, Option.getD_some, Option.getD_none, Option.bind_eq_bind, List.getElem?_cons_zero, List.getElem?_cons_succ, List.getElem?_nil, List.getElem?_toArray, List.map_cons, List.map_nil, List.append_nil, List.nil_append, List.cons_append, List.singleton_append,
  List.take_zero, List.drop_zero, List.take_succ_cons, List.drop_succ_cons, List.take_nil, List.drop_nil, List.length_cons, List.length_nil, List.length_append, List.tail_cons, List.headD_cons, List.headD_nil, List.tail_nil,
  Nat.reduceEqDiff, Nat.reduceAdd, Nat.reduceMul, Nat.reduceLeDiff, ↓reduceIte, if_true, if_false, reduceCtorEq, true_and, and_true, false_and, and_false, decide_true, decide_false, Int.natCast_nonneg, Int.toNat_natCast, Nat.mul_one, Nat.one_mul, Nat.zero_add, Nat.add_zero, ne_eq, not_true_eq_false, not_false_eq_true, Nat.zero_le, Nat.zero_lt_succ, Nat.zero_lt_one, Nat.le_refl, Int.toNat_zero, Nat.zero_mul, Nat.mul_zero, and_self, beq_self_eq_true, Nat.succ_ne_self,
  wrap64, wrap32, wrapU64, wrapU8, wrapU32]
    refine hq _ _ ?_
    simp only [pickL, lk_cons, Nat.reduceEqDiff, ↓reduceIte, reduceCtorEq, if_true, if_false]
    clear hq q
    repeat' (first | refine wpL_seq ?_ | refine wpL_skip ?_ | refine wpL_label ?_)
    refine wpL_ret (hK' _ _ _ _ (.inr rfl) rfl ?_)
    simp only [pickL, lk_cons, Nat.reduceEqDiff, ↓reduceIte, reduceCtorEq, if_true, if_false]
    have : capV n = 2147483647 := by unfold capV; (repeat' split) <;> omega
    rwa [this] at hK
  · have hne : ¬ n > 2147483647 := by simpa using hd
    repeat' (first | refine wpL_seq ?_ | refine wpL_skip ?_ | refine wpL_label ?_)
    refine wpL_region [2] fun q hq => ?_
    simp -implicitDefEqProofs (disch := omega) only [gO_nil, gO_cons, gN_cond, gN_val, gN_bad, outV_some, outV_none, outV_guard, outA_guard, outP_guard, outA_some, outA_none, outP_some, outP_none, guardO_true, gN_store, putd_lk, putd_lk0, lk_cons, lk_nil, ev_tmp, ev, gdO_tt, gdO_ff, gdO_tf, gdO_ft, gdO_u,
  itemsOf, itemsAt, operO, stepO, convO, callO, callB, storeO, pureA, loadA, allocA, serA, selA, binA, binInt, unA, convA, partA, TD.isAgg, TD.isBool, TD.isPtr, TD.isFunc, fieldOf, indexA, indexAddrA_sl, indexAddrA_ptr, lenA_sl, lenA_snil, lenA_str, buildA, placesA, fillA, repl, eqA, eqV, eqV.eqFs,
  ofConst, ofLeaf, ofLeafs, AV.cells, AV.leaf, List.all_cons, List.all_nil, Bool.true_and, Bool.and_true, Bool.false_and, Bool.and_false, Bool.true_or, Bool.false_or, Bool.or_false, Bool.or_true, Bool.not_true, Bool.not_false, Bool.not_not,
  Option.bind_some, Option.bind_none, Option.map_some, Option.map_none, Option.getD_some, Option.getD_none, Option.bind_eq_bind, List.getElem?_cons_zero, List.getElem?_cons_succ, List.getElem?_nil, List.getElem?_toArray, List.map_cons, List.map_nil, List.append_nil, List.nil_append, List.cons_append, List.singleton_append,
  List.take_zero, List.drop_zero, List.take_succ_cons, List.drop_succ_cons, List.take_nil, List.drop_nil, List.length_cons, List.length_nil, List.length_append, List.tail_cons, List.headD_cons, List.headD_nil, List.tail_nil,
  Nat.reduceEqDiff, Nat.reduceAdd, Nat.reduceMul, Nat.reduceLeDiff, ↓reduceIte, if_true, if_false, reduceCtorEq, true_and, and_true, false_and, and_false, decide_true, decide_false, Int.natCast_nonneg, Int.toNat_natCast, Nat.mul_one, Nat.one_mul, Nat.zero_add, Nat.add_zero, ne_eq, not_true_eq_false, not_false_eq_true, Nat.zero_le, Nat.zero_lt_succ, Nat.zero_lt_one, Nat.le_refl, Int.toNat_zero, Nat.zero_mul, Nat.mul_zero, and_self, beq_self_eq_true, Nat.succ_ne_self,
  wrap64, wrap32, wrapU64, wrapU8, wrapU32, ti3, ti21]
    refine hq _ _ ?_
    simp only [pickL, lk_cons, Nat.reduceEqDiff, ↓reduceIte, reduceCtorEq, if_true, if_false]
    clear hq q
    repeat' (first | refine wpL_seq ?_ | refine wpL_skip ?_ | refine wpL_label ?_)
    refine wpL_ret (hK' _ _ _ _ (.inr rfl) rfl ?_)
    simp only [pickL, lk_cons, Nat.reduceEqDiff, ↓reduceIte, reduceCtorEq, if_true, if_false]
    have : capV n = n := by unfold capV; (repeat' split) <;> omega
    rwa [this] at hK

theorem f20_says {m nm la de ho l1 l2 on me K} (hK : ∀ m', Keep [] m m' → K (AV.bool (on || (la && me))) m') :
    wpF Try.prog 20 [detA nm la de ho, stA l1 l2 on me] m K := by
  refine wpF_intro (fn := Try.f20) rfl rfl (by decide) (by kernel_rfl) fun K' hK' => ?_
  repeat' (first | refine wpL_seq ?_ | refine wpL_skip ?_ | refine wpL_label ?_)
  refine wpL_region [2, 3] fun q hq => ?_
  simp -implicitDefEqProofs (disch := omega) only [gO_nil, gO_cons, gN_cond, gN_val, gN_bad, outV_some, outV_none, outV_guard, outA_guard, outP_guard, outA_some, outA_none, outP_some, outP_none, guardO_true, gN_store, putd_lk, putd_lk0, lk_cons, lk_nil, ev_tmp, ev, gdO_tt, gdO_ff, gdO_tf, gdO_ft, gdO_u,
  itemsOf, itemsAt, operO, stepO, convO, callO, callB, storeO, pureA, loadA, allocA, serA, selA, binA, binInt, unA, convA, partA, TD.isAgg, TD.isBool, TD.isPtr, TD.isFunc, fieldOf, indexA, indexAddrA_sl, indexAddrA_ptr, lenA_sl, lenA_snil, lenA_str, buildA, placesA, fillA, repl, eqA, eqV, eqV.eqFs,
  ofConst, ofLeaf, ofLeafs, AV.cells, AV.leaf, List.all_cons, List.all_nil, Bool.true_and, Bool.and_true, Bool.false_and, Bool.and_false, Bool.true_or, Bool.false_or, Bool.or_false, Bool.or_true, Bool.not_true, Bool.not_false, Bool.not_not,
  Option.bind_some, Option.bind_none, Option.map_some, Option.map_none, Option.getD_some, Option.getD_none, Option.bind_eq_bind, List.getElem?_cons_zero, List.getElem?_cons_succ, List.getElem?_nil, List.getElem?_toArray, List.map_cons, List.map_nil, List.append_nil, List.nil_append, List.cons_append, List.singleton_append,
  List.take_zero, List.drop_zero, List.take_succ_cons, List.drop_succ_cons, List.take_nil, List.drop_nil, List.length_cons, List.length_nil, List.length_append, List.tail_cons, List.headD_cons, List.headD_nil, List.tail_nil,
  Nat.reduceEqDiff, Nat.reduceAdd, Nat.reduceMul, Nat.reduceLeDiff, ↓reduceIte, if_true, if_false, reduceCtorEq, true_and, and_true, false_and, and_false, decide_true, decide_false, Int.natCast_nonneg, Int.toNat_natCast, Nat.mul_one, Nat.one_mul, Nat.zero_add, Nat.add_zero, ne_eq, not_true_eq_false, not_false_eq_true, Nat.zero_le, Nat.zero_lt_succ, Nat.zero_lt_one, Nat.le_refl, Int.toNat_zero, Nat.zero_mul, Nat.mul_zero, and_self, beq_self_eq_true, Nat.succ_ne_self,
  wrap64, wrap32, wrapU64, wrapU8, wrapU32, argL, ti32, ti34, detA, stA]
  refine gN_alloc_ptr fun b1 m1 hb1 hm1 hk1 => ?_
  simp -implicitDefEqProofs (disch := omega) only [gO_nil, gO_cons, gN_cond, gN_val, gN_bad, outV_some, outV_none, outV_guard, outA_guard, outP_guard, outA_some, outA_none, outP_some, outP_none, guardO_true, gN_store, putd_lk, putd_lk0, lk_cons, lk_nil, ev_tmp, ev, gdO_tt, gdO_ff, gdO_tf, gdO_ft, gdO_u,
  itemsOf, itemsAt, operO, stepO, convO, callO, callB, storeO, pureA, loadA, allocA, serA, selA, binA, binInt, unA, convA, partA, TD.isAgg, TD.isBool, TD.isPtr, TD.isFunc, fieldOf, indexA, indexAddrA_sl, indexAddrA_ptr, lenA_sl, lenA_snil, lenA_str, buildA, placesA, fillA, repl, eqA, eqV, eqV.eqFs,
  ofConst, ofLeaf, ofLeafs, AV.cells, AV.leaf, List.all_cons, List.all_nil, Bool.true_and, Bool.and_true, Bool.false_and, Bool.and_false, Bool.true_or, Bool.false_or, Bool.or_false, Bool.or_true, Bool.not_true, Bool.not_false, Bool.not_not,
  Option.bind_some, Option.bind_none, Option.map_some, Option.map_none, Option.getD_some, Option.getD_none, Option.bind_eq_bind, List.getElem?_cons_zero, List.getElem?_cons_succ, List.getElem?_nil, List.getElem?_toArray, List.map_cons, List.map_nil, List.append_nil, List.nil_append, List.cons_append, List.singleton_append,
  List.take_zero, List.drop_zero, List.take_succ_cons, List.drop_succ_cons, List.take_nil, List.drop_nil, List.length_cons, List.length_nil, List.length_append, List.tail_cons, List.headD_cons, List.headD_nil, List.tail_nil,
  Nat.reduceEqDiff, Nat.reduceAdd, Nat.reduceMul, Nat.reduceLeDiff, ↓reduceIte, if_true, if_false, reduceCtorEq, true_and, and_true, false_and, and_false, decide_true, decide_false, Int.natCast_nonneg, Int.toNat_natCast, Nat.mul_one, Nat.one_mul, Nat.zero_add, Nat.add_zero, ne_eq, not_true_eq_false, not_false_eq_true, Nat.zero_le, Nat.zero_lt_succ, Nat.zero_lt_one, Nat.le_refl, Int.toNat_zero, Nat.zero_mul, Nat.mul_zero, and_self, beq_self_eq_true, Nat.succ_ne_self,
  wrap64, wrap32, wrapU64, wrapU8, wrapU32, ti32, ti34, detA, stA]
  refine gN_alloc_ptr fun b2 m2 hb2 hm2 hk2 => ?_
  simp -implicitDefEqProofs (disch := omega) only [gO_nil, gO_cons, gN_cond, gN_val, gN_bad, outV_some, outV_none, outV_guard, outA_guard, outP_guard, outA_some, outA_none, outP_some, outP_none, guardO_true, gN_store, putd_lk, putd_lk0, lk_cons, lk_nil, ev_tmp, ev, gdO_tt, gdO_ff, gdO_tf, gdO_ft, gdO_u,
  itemsOf, itemsAt, operO, stepO, convO, callO, callB, storeO, pureA, loadA, allocA, serA, selA, binA, binInt, unA, convA, partA, TD.isAgg, TD.isBool, TD.isPtr, TD.isFunc, fieldOf, indexA, indexAddrA_sl, indexAddrA_ptr, lenA_sl, lenA_snil, lenA_str, buildA, placesA, fillA, repl, eqA, eqV, eqV.eqFs,
  ofConst, ofLeaf, ofLeafs, AV.cells, AV.leaf, List.all_cons, List.all_nil, Bool.true_and, Bool.and_true, Bool.false_and, Bool.and_false, Bool.true_or, Bool.false_or, Bool.or_false, Bool.or_true, Bool.not_true, Bool.not_false, Bool.not_not,
  Option.bind_some, Option.bind_none, Option.map_some, Option.map_none, Option.getD_some, Option.getD_none, Option.bind_eq_bind, List.getElem?_cons_zero, List.getElem?_cons_succ, List.getElem?_nil, List.getElem?_toArray, List.map_cons, List.map_nil, List.append_nil, List.nil_append, List.cons_append, List.singleton_append,
  List.take_zero, List.drop_zero, List.take_succ_cons, List.drop_succ_cons, List.take_nil, List.drop_nil, List.length_cons, List.length_nil, List.length_append, List.tail_cons, List.headD_cons, List.headD_nil, List.tail_nil,
  Nat.reduceEqDiff, Nat.reduceAdd, Nat.reduceMul, Nat.reduceLeDiff, ↓reduceIte, if_true, if_false, reduceCtorEq, true_and, and_true, false_and, and_false, decide_true, decide_false, Int.natCast_nonneg, Int.toNat_natCast, Nat.mul_one, Nat.one_mul, Nat.zero_add, Nat.add_zero, ne_eq, not_true_eq_false, not_false_eq_true, Nat.zero_le, Nat.zero_lt_succ, Nat.zero_lt_one, Nat.le_refl, Int.toNat_zero, Nat.zero_mul, Nat.mul_zero, and_self, beq_self_eq_true, Nat.succ_ne_self,
  wrap64, wrap32, wrapU64, wrapU8, wrapU32]
  refine hq _ _ ?_
  simp only [pickL, lk_cons, Nat.reduceEqDiff, ↓reduceIte, reduceCtorEq, if_true, if_false]
  clear hq q
  have hm1' := hk2 b1 (by simp) _ hm1
  cases on with
  | true =>
    repeat' (first | refine wpL_seq ?_ | refine wpL_skip ?_ | refine wpL_label ?_)
    refine wpL_region [4] fun q hq => ?_
    simp -implicitDefEqProofs (disch := omega) only [gO_nil, gO_cons, gN_cond, gN_val, gN_bad, outV_some, outV_none, outV_guard, outA_guard, outP_guard, outA_some, outA_none, outP_some, outP_none, guardO_true, gN_store, putd_lk, putd_lk0, lk_cons, lk_nil, ev_tmp, ev, gdO_tt, gdO_ff, gdO_tf, gdO_ft, gdO_u,
  itemsOf, itemsAt, operO, stepO, convO, callO, callB, storeO, pureA, loadA, allocA, serA, selA, binA, binInt, unA, convA, partA, TD.isAgg, TD.isBool, TD.isPtr, TD.isFunc, fieldOf, indexA, indexAddrA_sl, indexAddrA_ptr, lenA_sl, lenA_snil, lenA_str, buildA, placesA, fillA, repl, eqA, eqV, eqV.eqFs,
  ofConst, ofLeaf, ofLeafs, AV.cells, AV.leaf, List.all_cons, List.all_nil, Bool.true_and, Bool.and_true, Bool.false_and, Bool.and_false, Bool.true_or, Bool.false_or, Bool.or_false, Bool.or_true, Bool.not_true, Bool.not_false, Bool.not_not,
  Option.bind_some, Option.bind_none, Option.map_some, Option.map_none, Option.getD_some, Option.getD_none, Option.bind_eq_bind, List.getElem?_cons_zero, List.getElem?_cons_succ, List.getElem?_nil, List.getElem?_toArray, List.map_cons, List.map_nil, List.append_nil, List.nil_append, List.cons_append, List.singleton_append,
  List.take_zero, List.drop_zero, List.take_succ_cons, List.drop_succ_cons, List.take_nil, List.drop_nil, List.length_cons, List.length_nil, List.length_append, List.tail_cons, List.headD_cons, List.headD_nil, List.tail_nil,
  Nat.reduceEqDiff, Nat.reduceAdd, Nat.reduceMul, Nat.reduceLeDiff, ↓reduceIte, if_true, if_false, reduceCtorEq, true_and, and_true, false_and, and_false, decide_true, decide_false, Int.natCast_nonneg, Int.toNat_natCast, Nat.mul_one, Nat.one_mul, Nat.zero_add, Nat.add_zero, ne_eq, not_true_eq_false, not_false_eq_true, Nat.zero_le, Nat.zero_lt_succ, Nat.zero_lt_one, Nat.le_refl, Int.toNat_zero, Nat.zero_mul, Nat.mul_zero, and_self, beq_self_eq_true, Nat.succ_ne_self,
  wrap64, wrap32, wrapU64, wrapU8, wrapU32, ti32, ti34, ti4, hm1', hm2]
    refine hq _ _ ?_
    simp only [pickL, lk_cons, Nat.reduceEqDiff, ↓reduceIte, reduceCtorEq, if_true, if_false]
    clear hq q
    repeat' (first | refine wpL_seq ?_ | refine wpL_skip ?_ | refine wpL_label ?_)
    refine wpL_ret (hK' _ _ _ _ (.inr rfl) rfl ?_)
    simp only [pickL, lk_cons, Nat.reduceEqDiff, ↓reduceIte, reduceCtorEq, if_true, if_false]
    exact hK _ (hk1.trans hk2)
  | false =>
    cases la with
    | true =>
      repeat' (first | refine wpL_seq ?_ | refine wpL_skip ?_ | refine wpL_label ?_)
      refine wpL_region [4] fun q hq => ?_
      simp -implicitDefEqProofs (disch := omega) only [gO_nil, gO_cons, gN_cond, gN_val, gN_bad, outV_some, outV_none, outV_guard, outA_guard, outP_guard, outA_some, outA_none, outP_some, outP_none, guardO_true, gN_store, putd_lk, putd_lk0, lk_cons, lk_nil, ev_tmp, ev, gdO_tt, gdO_ff, gdO_tf, gdO_ft, gdO_u,
  itemsOf, itemsAt, operO, stepO, convO, callO, callB, storeO, pureA, loadA, allocA, serA, selA, binA, binInt, unA, convA, partA, TD.isAgg, TD.isBool, TD.isPtr, TD.isFunc, fieldOf, indexA, indexAddrA_sl, indexAddrA_ptr, lenA_sl, lenA_snil, lenA_str, buildA, placesA, fillA, repl, eqA, eqV, eqV.eqFs,
  ofConst, ofLeaf, ofLeafs, AV.cells, AV.leaf, List.all_cons, List.all_nil, Bool.true_and, Bool.and_true, Bool.false_and, Bool.and_false, Bool.true_or, Bool.false_or, Bool.or_false, Bool.or_true, Bool.not_true, Bool.not_false, Bool.not_not,
  Option.bind_some, Option.bind_none, Option.map_some, Option.map_none, Option.getD_some, Option.getD_none, Option.bind_eq_bind, List.getElem?_cons_zero, List.getElem?_cons_succ, List.getElem?_nil, List.getElem?_toArray, List.map_cons, List.map_nil, List.append_nil, List.nil_append, List.cons_append, List.singleton_append,
  List.take_zero, List.drop_zero, List.take_succ_cons, List.drop_succ_cons, List.take_nil, List.drop_nil, List.length_cons, List.length_nil, List.length_append, List.tail_cons, List.headD_cons, List.headD_nil, List.tail_nil,
  Nat.reduceEqDiff, Nat.reduceAdd, Nat.reduceMul, Nat.reduceLeDiff, ↓reduceIte, if_true, if_false, reduceCtorEq, true_and, and_true, false_and, and_false, decide_true, decide_false, Int.natCast_nonneg, Int.toNat_natCast, Nat.mul_one, Nat.one_mul, Nat.zero_add, Nat.add_zero, ne_eq, not_true_eq_false, not_false_eq_true, Nat.zero_le, Nat.zero_lt_succ, Nat.zero_lt_one, Nat.le_refl, Int.toNat_zero, Nat.zero_mul, Nat.mul_zero, and_self, beq_self_eq_true, Nat.succ_ne_self,
  wrap64, wrap32, wrapU64, wrapU8, wrapU32, ti32, ti34, ti4, hm1', hm2]
      refine hq _ _ ?_
      simp only [pickL, lk_cons, Nat.reduceEqDiff, ↓reduceIte, reduceCtorEq, if_true, if_false]
      clear hq q
      repeat' (first | refine wpL_seq ?_ | refine wpL_skip ?_ | refine wpL_label ?_)
      refine wpL_ret (hK' _ _ _ _ (.inr rfl) rfl ?_)
      simp only [pickL, lk_cons, Nat.reduceEqDiff, ↓reduceIte, reduceCtorEq, if_true, if_false]
      exact hK _ (hk1.trans hk2)
    | false =>
      repeat' (first | refine wpL_seq ?_ | refine wpL_skip ?_ | refine wpL_label ?_)
      refine wpL_region [4] fun q hq => ?_
      simp -implicitDefEqProofs (disch := omega) only [gO_nil, gO_cons, gN_cond, gN_val, gN_bad, outV_some, outV_none, outV_guard, outA_guard, outP_guard, outA_some, outA_none, outP_some, outP_none, guardO_true, gN_store, putd_lk, putd_lk0, lk_cons, lk_nil, ev_tmp, ev, gdO_tt, gdO_ff, gdO_tf, gdO_ft, gdO_u,
  itemsOf, itemsAt, operO, stepO, convO, callO, callB, storeO, pureA, loadA, allocA, serA, selA, binA, binInt, unA, convA, partA, TD.isAgg, TD.isBool, TD.isPtr, TD.isFunc, fieldOf, indexA, indexAddrA_sl, indexAddrA_ptr, lenA_sl, lenA_snil, lenA_str, buildA, placesA, fillA, repl, eqA, eqV, eqV.eqFs,
  ofConst, ofLeaf, ofLeafs, AV.cells, AV.leaf, List.all_cons, List.all_nil, Bool.true_and, Bool.and_true, Bool.false_and, Bool.and_false, Bool.true_or, Bool.false_or, Bool.or_false, Bool.or_true, Bool.not_true, Bool.not_false, Bool.not_not,
  Option.bind_some, Option.bind_none, Option.map_some, Option.map_none, Option.getD_some, Option.getD_none, Option.bind_eq_bind, List.getElem?_cons_zero, List.getElem?_cons_succ, List.getElem?_nil, List.getElem?_toArray, List.map_cons, List.map_nil, List.append_nil, List.nil_append, List.cons_append, List.singleton_append,
  List.take_zero, List.drop_zero, List.take_succ_cons, List.drop_succ_cons, List.take_nil, List.drop_nil, List.length_cons, List.length_nil, List.length_append, List.tail_cons, List.headD_cons, List.headD_nil, List.tail_nil,
  Nat.reduceEqDiff, Nat.reduceAdd, Nat.reduceMul, Nat.reduceLeDiff, ↓reduceIte, if_true, if_false, reduceCtorEq, true_and, and_true, false_and, and_false, decide_true, decide_false, Int.natCast_nonneg, Int.toNat_natCast, Nat.mul_one, Nat.one_mul, Nat.zero_add, Nat.add_zero, ne_eq, not_true_eq_false, not_false_eq_true, Nat.zero_le, Nat.zero_lt_succ, Nat.zero_lt_one, Nat.le_refl, Int.toNat_zero, Nat.zero_mul, Nat.mul_zero, and_self, beq_self_eq_true, Nat.succ_ne_self,
  wrap64, wrap32, wrapU64, wrapU8, wrapU32, ti32, ti34, ti4, hm1', hm2]
      refine hq _ _ ?_
      simp only [pickL, lk_cons, Nat.reduceEqDiff, ↓reduceIte, reduceCtorEq, if_true, if_false]
      clear hq q
      repeat' (first | refine wpL_seq ?_ | refine wpL_skip ?_ | refine wpL_label ?_)
      refine wpL_ret (hK' _ _ _ _ (.inr rfl) rfl ?_)
      simp only [pickL, lk_cons, Nat.reduceEqDiff, ↓reduceIte, reduceCtorEq, if_true, if_false]
      exact hK _ (hk1.trans hk2)

theorem f21_clear {m l1 l2 on me K} (hK : ∀ m', Keep [] m m' → K (stA l1 l2 on false) m') : wpF Try.prog 21 [stA l1 l2 on me] m K := by
  refine wpF_intro (fn := Try.f21) rfl rfl (by decide) (by kernel_rfl) fun K' hK' => ?_
  repeat' (first | refine wpL_seq ?_ | refine wpL_skip ?_ | refine wpL_label ?_)
  refine wpL_region [1, 2] fun q hq => ?_
  simp -implicitDefEqProofs (disch := omega) only [gO_nil, gO_cons, gN_cond, gN_val, gN_bad, outV_some, outV_none, outV_guard, outA_guard, outP_guard, outA_some, outA_none, outP_some, outP_none, guardO_true, gN_store, putd_lk, putd_lk0, lk_cons, lk_nil, ev_tmp, ev, gdO_tt, gdO_ff, gdO_tf, gdO_ft, gdO_u,
  itemsOf, itemsAt, operO, stepO, convO, callO, callB, storeO, pureA, loadA, allocA, serA, selA, binA, binInt, unA, convA, partA, TD.isAgg, TD.isBool, TD.isPtr, TD.isFunc, fieldOf, indexA, indexAddrA_sl, indexAddrA_ptr, lenA_sl, lenA_snil, lenA_str, buildA, placesA, fillA, repl, eqA, eqV, eqV.eqFs,
  ofConst, ofLeaf, ofLeafs, AV.cells, AV.leaf, List.all_cons, List.all_nil, Bool.true_and, Bool.and_true, Bool.false_and, Bool.and_false, Bool.true_or, Bool.false_or, Bool.or_false, Bool.or_true, Bool.not_true, Bool.not_false, Bool.not_not,
  Option.bind_some, Option.bind_none, Option.map_some, Option.map_none, Option.getD_some, Option.getD_none, Option.bind_eq_bind, List.getElem?_cons_zero, List.getElem?_cons_succ, List.getElem?_nil, List.getElem?_toArray, List.map_cons, List.map_nil, List.append_nil, List.nil_append, List.cons_append, List.singleton_append,
  List.take_zero, List.drop_zero, List.take_succ_cons, List.drop_succ_cons, List.take_nil, List.drop_nil, List.length_cons, List.length_nil, List.length_append, List.tail_cons, List.headD_cons, List.headD_nil, List.tail_nil,
  Nat.reduceEqDiff, Nat.reduceAdd, Nat.reduceMul, Nat.reduceLeDiff, ↓reduceIte, if_true, if_false, reduceCtorEq, true_and, and_true, false_and, and_false, decide_true, decide_false, Int.natCast_nonneg, Int.toNat_natCast, Nat.mul_one, Nat.one_mul, Nat.zero_add, Nat.add_zero, ne_eq, not_true_eq_false, not_false_eq_true, Nat.zero_le, Nat.zero_lt_succ, Nat.zero_lt_one, Nat.le_refl, Int.toNat_zero, Nat.zero_mul, Nat.mul_zero, and_self, beq_self_eq_true, Nat.succ_ne_self,
  wrap64, wrap32, wrapU64, wrapU8, wrapU32, argL, ti34, stA]
  refine gN_alloc_ptr fun b1 m1 hb1 hm1 hk1 => ?_
  simp -implicitDefEqProofs (disch := omega) only [gO_nil, gO_cons, gN_cond, gN_val, gN_bad, outV_some, outV_none, outV_guard, outA_guard, outP_guard, outA_some, outA_none, outP_some, outP_none, guardO_true, gN_store, putd_lk, putd_lk0, lk_cons, lk_nil, ev_tmp, ev, gdO_tt, gdO_ff, gdO_tf, gdO_ft, gdO_u,
  itemsOf, itemsAt, operO, stepO, convO, callO, callB, storeO, pureA, loadA, allocA, serA, selA, binA, binInt, unA, convA, partA, TD.isAgg, TD.isBool, TD.isPtr, TD.isFunc, fieldOf, indexA, indexAddrA_sl, indexAddrA_ptr, lenA_sl, lenA_snil, lenA_str, buildA, placesA, fillA, repl, eqA, eqV, eqV.eqFs,
  ofConst, ofLeaf, ofLeafs, AV.cells, AV.leaf, List.all_cons, List.all_nil, Bool.true_and, Bool.and_true, Bool.false_and, Bool.and_false, Bool.true_or, Bool.false_or, Bool.or_false, Bool.or_true, Bool.not_true, Bool.not_false, Bool.not_not,
  Option.bind_some, Option.bind_none, Option.map_some, Option.map_none, Option.getD_some, Option.getD_none, Option.bind_eq_bind, List.getElem?_cons_zero, List.getElem?_cons_succ, List.getElem?_nil, List.getElem?_toArray, List.map_cons, List.map_nil, List.append_nil, List.nil_append, List.cons_append, List.singleton_append,
  List.take_zero, List.drop_zero, List.take_succ_cons, List.drop_succ_cons, List.take_nil, List.drop_nil, List.length_cons, List.length_nil, List.length_append, List.tail_cons, List.headD_cons, List.headD_nil, List.tail_nil,
  Nat.reduceEqDiff, Nat.reduceAdd, Nat.reduceMul, Nat.reduceLeDiff, ↓reduceIte, if_true, if_false, reduceCtorEq, true_and, and_true, false_and, and_false, decide_true, decide_false, Int.natCast_nonneg, Int.toNat_natCast, Nat.mul_one, Nat.one_mul, Nat.zero_add, Nat.add_zero, ne_eq, not_true_eq_false, not_false_eq_true, Nat.zero_le, Nat.zero_lt_succ, Nat.zero_lt_one, Nat.le_refl, Int.toNat_zero, Nat.zero_mul, Nat.mul_zero, and_self, beq_self_eq_true, Nat.succ_ne_self,
  wrap64, wrap32, wrapU64, wrapU8, wrapU32, ti32, ti34, detA, stA]
  refine gN_alloc_ptr fun b2 m2 hb2 hm2 hk2 => ?_
  simp -implicitDefEqProofs (disch := omega) only [gO_nil, gO_cons, gN_cond, gN_val, gN_bad, outV_some, outV_none, outV_guard, outA_guard, outP_guard, outA_some, outA_none, outP_some, outP_none, guardO_true, gN_store, putd_lk, putd_lk0, lk_cons, lk_nil, ev_tmp, ev, gdO_tt, gdO_ff, gdO_tf, gdO_ft, gdO_u,
  itemsOf, itemsAt, operO, stepO, convO, callO, callB, storeO, pureA, loadA, allocA, serA, selA, binA, binInt, unA, convA, partA, TD.isAgg, TD.isBool, TD.isPtr, TD.isFunc, fieldOf, indexA, indexAddrA_sl, indexAddrA_ptr, lenA_sl, lenA_snil, lenA_str, buildA, placesA, fillA, repl, eqA, eqV, eqV.eqFs,
  ofConst, ofLeaf, ofLeafs, AV.cells, AV.leaf, List.all_cons, List.all_nil, Bool.true_and, Bool.and_true, Bool.false_and, Bool.and_false, Bool.true_or, Bool.false_or, Bool.or_false, Bool.or_true, Bool.not_true, Bool.not_false, Bool.not_not,
  Option.bind_some, Option.bind_none, Option.map_some, Option.map_none, Option.getD_some, Option.getD_none, Option.bind_eq_bind, List.getElem?_cons_zero, List.getElem?_cons_succ, List.getElem?_nil, List.getElem?_toArray, List.map_cons, List.map_nil, List.append_nil, List.nil_append, List.cons_append, List.singleton_append,
  List.take_zero, List.drop_zero, List.take_succ_cons, List.drop_succ_cons, List.take_nil, List.drop_nil, List.length_cons, List.length_nil, List.length_append, List.tail_cons, List.headD_cons, List.headD_nil, List.tail_nil,
  Nat.reduceEqDiff, Nat.reduceAdd, Nat.reduceMul, Nat.reduceLeDiff, ↓reduceIte, if_true, if_false, reduceCtorEq, true_and, and_true, false_and, and_false, decide_true, decide_false, Int.natCast_nonneg, Int.toNat_natCast, Nat.mul_one, Nat.one_mul, Nat.zero_add, Nat.add_zero, ne_eq, not_true_eq_false, not_false_eq_true, Nat.zero_le, Nat.zero_lt_succ, Nat.zero_lt_one, Nat.le_refl, Int.toNat_zero, Nat.zero_mul, Nat.mul_zero, and_self, beq_self_eq_true, Nat.succ_ne_self,
  wrap64, wrap32, wrapU64, wrapU8, wrapU32]
  refine hq _ _ ?_
  simp only [pickL, lk_cons, Nat.reduceEqDiff, ↓reduceIte, reduceCtorEq, if_true, if_false]
  clear hq q
  have hm1' := hk2 b1 (by simp) _ hm1
  have hb2' : b2 ≠ b1 := by rintro rfl; rw [hb2] at hm1; cases hm1
  repeat' (first | refine wpL_seq ?_ | refine wpL_skip ?_ | refine wpL_label ?_)
  refine wpL_region [1, 2] fun q hq => ?_
  simp -implicitDefEqProofs (disch := omega) only [gO_nil, gO_cons, gN_cond, gN_val, gN_bad, outV_some, outV_none, outV_guard, outA_guard, outP_guard, outA_some, outA_none, outP_some, outP_none, guardO_true, gN_store, putd_lk, putd_lk0, lk_cons, lk_nil, ev_tmp, ev, gdO_tt, gdO_ff, gdO_tf, gdO_ft, gdO_u,
  itemsOf, itemsAt, operO, stepO, convO, callO, callB, storeO, pureA, loadA, allocA, serA, selA, binA, binInt, unA, convA, partA, TD.isAgg, TD.isBool, TD.isPtr, TD.isFunc, fieldOf, indexA, indexAddrA_sl, indexAddrA_ptr, lenA_sl, lenA_snil, lenA_str, buildA, placesA, fillA, repl, eqA, eqV, eqV.eqFs,
  ofConst, ofLeaf, ofLeafs, AV.cells, AV.leaf, List.all_cons, List.all_nil, Bool.true_and, Bool.and_true, Bool.false_and, Bool.and_false, Bool.true_or, Bool.false_or, Bool.or_false, Bool.or_true, Bool.not_true, Bool.not_false, Bool.not_not,
  Option.bind_some, Option.bind_none, Option.map_some, Option.map_none, Option.getD_some, Option.getD_none, Option.bind_eq_bind, List.getElem?_cons_zero, List.getElem?_cons_succ, List.getElem?_nil, List.getElem?_toArray, List.map_cons, List.map_nil, List.append_nil, List.nil_append, List.cons_append, List.singleton_append,
  List.take_zero, List.drop_zero, List.take_succ_cons, List.drop_succ_cons, List.take_nil, List.drop_nil, List.length_cons, List.length_nil, List.length_append, List.tail_cons, List.headD_cons, List.headD_nil, List.tail_nil,
  Nat.reduceEqDiff, Nat.reduceAdd, Nat.reduceMul, Nat.reduceLeDiff, ↓reduceIte, if_true, if_false, reduceCtorEq, true_and, and_true, false_and, and_false, decide_true, decide_false, Int.natCast_nonneg, Int.toNat_natCast, Nat.mul_one, Nat.one_mul, Nat.zero_add, Nat.add_zero, ne_eq, not_true_eq_false, not_false_eq_true, Nat.zero_le, Nat.zero_lt_succ, Nat.zero_lt_one, Nat.le_refl, Int.toNat_zero, Nat.zero_mul, Nat.mul_zero, and_self, beq_self_eq_true, Nat.succ_ne_self,
  wrap64, wrap32, wrapU64, wrapU8, wrapU32, ti34, ti4, hm1', hm2]
  refine gN_store_of rfl rfl fun m3 hm3 hk3 => ?_
  simp -implicitDefEqProofs (disch := omega) only [gO_nil, gO_cons, gN_cond, gN_val, gN_bad, outV_some, outV_none, outV_guard, outA_guard, outP_guard, outA_some, outA_none, outP_some, outP_none, guardO_true, gN_store, putd_lk, putd_lk0, lk_cons, lk_nil, ev_tmp, ev, gdO_tt, gdO_ff, gdO_tf, gdO_ft, gdO_u,
  itemsOf, itemsAt, operO, stepO, convO, callO, callB, storeO, pureA, loadA, allocA, serA, selA, binA, binInt, unA, convA, partA, TD.isAgg, TD.isBool, TD.isPtr, TD.isFunc, fieldOf, indexA, indexAddrA_sl, indexAddrA_ptr, lenA_sl, lenA_snil, lenA_str, buildA, placesA, fillA, repl, eqA, eqV, eqV.eqFs,
  ofConst, ofLeaf, ofLeafs, AV.cells, AV.leaf, List.all_cons, List.all_nil, Bool.true_and, Bool.and_true, Bool.false_and, Bool.and_false, Bool.true_or, Bool.false_or, Bool.or_false, Bool.or_true, Bool.not_true, Bool.not_false, Bool.not_not,
  Option.bind_some, Option.bind_none, Option.map_some, Option.map_none, Option.getD_some, Option.getD_none, Option.bind_eq_bind, List.getElem?_cons_zero, List.getElem?_cons_succ, List.getElem?_nil, List.getElem?_toArray, List.map_cons, List.map_nil, List.append_nil, List.nil_append, List.cons_append, List.singleton_append,
  List.take_zero, List.drop_zero, List.take_succ_cons, List.drop_succ_cons, List.take_nil, List.drop_nil, List.length_cons, List.length_nil, List.length_append, List.tail_cons, List.headD_cons, List.headD_nil, List.tail_nil,
  Nat.reduceEqDiff, Nat.reduceAdd, Nat.reduceMul, Nat.reduceLeDiff, ↓reduceIte, if_true, if_false, reduceCtorEq, true_and, and_true, false_and, and_false, decide_true, decide_false, Int.natCast_nonneg, Int.toNat_natCast, Nat.mul_one, Nat.one_mul, Nat.zero_add, Nat.add_zero, ne_eq, not_true_eq_false, not_false_eq_true, Nat.zero_le, Nat.zero_lt_succ, Nat.zero_lt_one, Nat.le_refl, Int.toNat_zero, Nat.zero_mul, Nat.mul_zero, and_self, beq_self_eq_true, Nat.succ_ne_self,
  wrap64, wrap32, wrapU64, wrapU8, wrapU32]
  refine hq _ _ ?_
  simp only [pickL, lk_cons, Nat.reduceEqDiff, ↓reduceIte, reduceCtorEq, if_true, if_false]
  clear hq q
  have hm2' := hk3 b2 (by simpa using hb2') _ hm2
  repeat' (first | refine wpL_seq ?_ | refine wpL_skip ?_ | refine wpL_label ?_)
  refine wpL_region [2] fun q hq => ?_
  simp -implicitDefEqProofs (disch := omega) only [gO_nil, gO_cons, gN_cond, gN_val, gN_bad, outV_some, outV_none, outV_guard, outA_guard, outP_guard, outA_some, outA_none, outP_some, outP_none, guardO_true, gN_store, putd_lk, putd_lk0, lk_cons, lk_nil, ev_tmp, ev, gdO_tt, gdO_ff, gdO_tf, gdO_ft, gdO_u,
  itemsOf, itemsAt, operO, stepO, convO, callO, callB, storeO, pureA, loadA, allocA, serA, selA, binA, binInt, unA, convA, partA, TD.isAgg, TD.isBool, TD.isPtr, TD.isFunc, fieldOf, indexA, indexAddrA_sl, indexAddrA_ptr, lenA_sl, lenA_snil, lenA_str, buildA, placesA, fillA, repl, eqA, eqV, eqV.eqFs,
  ofConst, ofLeaf, ofLeafs, AV.cells, AV.leaf, List.all_cons, List.all_nil, Bool.true_and, Bool.and_true, Bool.false_and, Bool.and_false, Bool.true_or, Bool.false_or, Bool.or_false, Bool.or_true, Bool.not_true, Bool.not_false, Bool.not_not,
  Option.bind_some, Option.bind_none, Option.map_some, Option.map_none, Option.getD_some, Option.getD_none, Option.bind_eq_bind, List.getElem?_cons_zero, List.getElem?_cons_succ, List.getElem?_nil, List.getElem?_toArray, List.map_cons, List.map_nil, List.append_nil, List.nil_append, List.cons_append, List.singleton_append,
  List.take_zero, List.drop_zero, List.take_succ_cons, List.drop_succ_cons, List.take_nil, List.drop_nil, List.length_cons, List.length_nil, List.length_append, List.tail_cons, List.headD_cons, List.headD_nil, List.tail_nil,
  Nat.reduceEqDiff, Nat.reduceAdd, Nat.reduceMul, Nat.reduceLeDiff, ↓reduceIte, if_true, if_false, reduceCtorEq, true_and, and_true, false_and, and_false, decide_true, decide_false, Int.natCast_nonneg, Int.toNat_natCast, Nat.mul_one, Nat.one_mul, Nat.zero_add, Nat.add_zero, ne_eq, not_true_eq_false, not_false_eq_true, Nat.zero_le, Nat.zero_lt_succ, Nat.zero_lt_one, Nat.le_refl, Int.toNat_zero, Nat.zero_mul, Nat.mul_zero, and_self, beq_self_eq_true, Nat.succ_ne_self,
  wrap64, wrap32, wrapU64, wrapU8, wrapU32, ti34, hm3, hm2']
  refine gN_store_of rfl rfl fun m4 hm4 hk4 => ?_
  simp -implicitDefEqProofs (disch := omega) only [gO_nil, gO_cons, gN_cond, gN_val, gN_bad, outV_some, outV_none, outV_guard, outA_guard, outP_guard, outA_some, outA_none, outP_some, outP_none, guardO_true, gN_store, putd_lk, putd_lk0, lk_cons, lk_nil, ev_tmp, ev, gdO_tt, gdO_ff, gdO_tf, gdO_ft, gdO_u,
  itemsOf, itemsAt, operO, stepO, convO, callO, callB, storeO, pureA, loadA, allocA, serA, selA, binA, binInt, unA, convA, partA, TD.isAgg, TD.isBool, TD.isPtr, TD.isFunc, fieldOf, indexA, indexAddrA_sl, indexAddrA_ptr, lenA_sl, lenA_snil, lenA_str, buildA, placesA, fillA, repl, eqA, eqV, eqV.eqFs,
  ofConst, ofLeaf, ofLeafs, AV.cells, AV.leaf, List.all_cons, List.all_nil, Bool.true_and, Bool.and_true, Bool.false_and, Bool.and_false, Bool.true_or, Bool.false_or, Bool.or_false, Bool.or_true, Bool.not_true, Bool.not_false, Bool.not_not,
  Option.bind_some, Option.bind_none, Option.map_some, Option.map_none, Option.getD_some, Option.getD_none, Option.bind_eq_bind, List.getElem?_cons_zero, List.getElem?_cons_succ, List.getElem?_nil, List.getElem?_toArray, List.map_cons, List.map_nil, List.append_nil, List.nil_append, List.cons_append, List.singleton_append,
  List.take_zero, List.drop_zero, List.take_succ_cons, List.drop_succ_cons, List.take_nil, List.drop_nil, List.length_cons, List.length_nil, List.length_append, List.tail_cons, List.headD_cons, List.headD_nil, List.tail_nil,
  Nat.reduceEqDiff, Nat.reduceAdd, Nat.reduceMul, Nat.reduceLeDiff, ↓reduceIte, if_true, if_false, reduceCtorEq, true_and, and_true, false_and, and_false, decide_true, decide_false, Int.natCast_nonneg, Int.toNat_natCast, Nat.mul_one, Nat.one_mul, Nat.zero_add, Nat.add_zero, ne_eq, not_true_eq_false, not_false_eq_true, Nat.zero_le, Nat.zero_lt_succ, Nat.zero_lt_one, Nat.le_refl, Int.toNat_zero, Nat.zero_mul, Nat.mul_zero, and_self, beq_self_eq_true, Nat.succ_ne_self,
  wrap64, wrap32, wrapU64, wrapU8, wrapU32]
  refine hq _ _ ?_
  simp only [pickL, lk_cons, Nat.reduceEqDiff, ↓reduceIte, reduceCtorEq, if_true, if_false]
  clear hq q
  repeat' (first | refine wpL_seq ?_ | refine wpL_skip ?_ | refine wpL_label ?_)
  simp only [List.take_zero, List.take_succ_cons, List.drop_zero, List.drop_succ_cons, List.nil_append, List.cons_append, List.length_cons, List.length_nil, Nat.zero_add, Nat.reduceAdd, List.append_nil, List.drop_nil] at hm4
  have hres : Try.f21.results.toList = [.cell 2 34] := rfl
  refine wpL_ret (hK' _ _ _ (stA l1 l2 on false) (.inr rfl) (by simp -implicitDefEqProofs (disch := omega) only [gO_nil, gO_cons, gN_cond, gN_val, gN_bad, outV_some, outV_none, outV_guard, outA_guard, outP_guard, outA_some, outA_none, outP_some, outP_none, guardO_true, gN_store, putd_lk, putd_lk0, lk_cons, lk_nil, ev_tmp, ev, gdO_tt, gdO_ff, gdO_tf, gdO_ft, gdO_u,
  itemsOf, itemsAt, operO, stepO, convO, callO, callB, storeO, pureA, loadA, allocA, serA, selA, binA, binInt, unA, convA, partA, TD.isAgg, TD.isBool, TD.isPtr, TD.isFunc, fieldOf, indexA, indexAddrA_sl, indexAddrA_ptr, lenA_sl, lenA_snil, lenA_str, buildA, placesA, fillA, repl, eqA, eqV, eqV.eqFs,
  ofConst, ofLeaf, ofLeafs, AV.cells, AV.leaf, List.all_cons, List.all_nil, Bool.true_and, Bool.and_true, Bool.false_and, Bool.and_false, Bool.true_or, Bool.false_or, Bool.or_false, Bool.or_true, Bool.not_true, Bool.not_false, Bool.not_not,
  Option.bind_some, Option.bind_none, Option.map_some, Option.map_none, Option.getD_some, Option.getD_none, Option.bind_eq_bind, List.getElem?_cons_zero, List.getElem?_cons_succ, List.getElem?_nil, List.getElem?_toArray, List.map_cons, List.map_nil, List.append_nil, List.nil_append, List.cons_append, List.singleton_append,
  List.take_zero, List.drop_zero, List.take_succ_cons, List.drop_succ_cons, List.take_nil, List.drop_nil, List.length_cons, List.length_nil, List.length_append, List.tail_cons, List.headD_cons, List.headD_nil, List.tail_nil,
  Nat.reduceEqDiff, Nat.reduceAdd, Nat.reduceMul, Nat.reduceLeDiff, ↓reduceIte, if_true, if_false, reduceCtorEq, true_and, and_true, false_and, and_false, decide_true, decide_false, Int.natCast_nonneg, Int.toNat_natCast, Nat.mul_one, Nat.one_mul, Nat.zero_add, Nat.add_zero, ne_eq, not_true_eq_false, not_false_eq_true, Nat.zero_le, Nat.zero_lt_succ, Nat.zero_lt_one, Nat.le_refl, Int.toNat_zero, Nat.zero_mul, Nat.mul_zero, and_self, beq_self_eq_true, Nat.succ_ne_self,
  wrap64, wrap32, wrapU64, wrapU8, wrapU32, hres, resA, resList, resOne, hm4, ti34, stA]) (hK _ ?_))
  intro x _ kx hx
  have hx1 := hk1 x (by simp) kx hx
  have hx2 := hk2 x (by simp) kx hx1
  have hx3 := hk3 x (by simp; rintro rfl; rw [hb1] at hx; cases hx) kx hx2
  exact hk4 x (by simp; rintro rfl; rw [hb2] at hx1; cases hx1) kx hx3

theorem f19_sense {m nm la de ho l1 l2 on me raw K} (h1 : -2147483648 ≤ l1 ∧ l1 ≤ 2147483647) (h2 : -2147483648 ≤ l2 ∧ l2 ≤ 2147483647) (hde : -9223372036854775808 ≤ de ∧ de ≤ 9223372036854775807) (hho : -9223372036854775808 ≤ ho ∧ ho ≤ 9223372036854775807)
    (hK : ∀ m', Keep [] m m' → K (senseA de ho la l1 l2 me raw) m') : wpF Try.prog 19 [detA nm la de ho, stA l1 l2 on me, .bool raw] m K := by
  refine wpF_intro (fn := Try.f19) rfl rfl (by decide) (by kernel_rfl) fun K' hK' => ?_
  repeat' (first | refine wpL_seq ?_ | refine wpL_skip ?_ | refine wpL_label ?_)
  refine wpL_region [2, 3, 4, 6] fun q hq => ?_
  simp -implicitDefEqProofs (disch := omega) only [gO_nil, gO_cons, gN_cond, gN_val, gN_bad, outV_some, outV_none, outV_guard, outA_guard, outP_guard, outA_some, outA_none, outP_some, outP_none, guardO_true, gN_store, putd_lk, putd_lk0, lk_cons, lk_nil, ev_tmp, ev, gdO_tt, gdO_ff, gdO_tf, gdO_ft, gdO_u,
  itemsOf, itemsAt, operO, stepO, convO, callO, callB, storeO, pureA, loadA, allocA, serA, selA, binA, binInt, unA, convA, partA, TD.isAgg, TD.isBool, TD.isPtr, TD.isFunc, fieldOf, indexA, indexAddrA_sl, indexAddrA_ptr, lenA_sl, lenA_snil, lenA_str, buildA, placesA, fillA, repl, eqA, eqV, eqV.eqFs,
  ofConst, ofLeaf, ofLeafs, AV.cells, AV.leaf, List.all_cons, List.all_nil, Bool.true_and, Bool.and_true, Bool.false_and, Bool.and_false, Bool.true_or, Bool.false_or, Bool.or_false, Bool.or_true, Bool.not_true, Bool.not_false, Bool.not_not,
  Option.bind_some, Option.bind_none, Option.map_some, Option.map_none, Option.getD_some, Option.getD_none, Option.bind_eq_bind, List.getElem?_cons_zero, List.getElem?_cons_succ, List.getElem?_nil, List.getElem?_toArray, List.map_cons, List.map_nil, List.append_nil, List.nil_append, List.cons_append, List.singleton_append,
  List.take_zero, List.drop_zero, List.take_succ_cons, List.drop_succ_cons, List.take_nil, List.drop_nil, List.length_cons, List.length_nil, List.length_append, List.tail_cons, List.headD_cons, List.headD_nil, List.tail_nil,
  Nat.reduceEqDiff, Nat.reduceAdd, Nat.reduceMul, Nat.reduceLeDiff, ↓reduceIte, if_true, if_false, reduceCtorEq, true_and, and_true, false_and, and_false, decide_true, decide_false, Int.natCast_nonneg, Int.toNat_natCast, Nat.mul_one, Nat.one_mul, Nat.zero_add, Nat.add_zero, ne_eq, not_true_eq_false, not_false_eq_true, Nat.zero_le, Nat.zero_lt_succ, Nat.zero_lt_one, Nat.le_refl, Int.toNat_zero, Nat.zero_mul, Nat.mul_zero, and_self, beq_self_eq_true, Nat.succ_ne_self,
  wrap64, wrap32, wrapU64, wrapU8, wrapU32, argL, ti32, ti34, detA, stA]
  refine gN_alloc_ptr fun b3 m1 hb1 hm1 hk1 => ?_
  simp -implicitDefEqProofs (disch := omega) only [gO_nil, gO_cons, gN_cond, gN_val, gN_bad, outV_some, outV_none, outV_guard, outA_guard, outP_guard, outA_some, outA_none, outP_some, outP_none, guardO_true, gN_store, putd_lk, putd_lk0, lk_cons, lk_nil, ev_tmp, ev, gdO_tt, gdO_ff, gdO_tf, gdO_ft, gdO_u,
  itemsOf, itemsAt, operO, stepO, convO, callO, callB, storeO, pureA, loadA, allocA, serA, selA, binA, binInt, unA, convA, partA, TD.isAgg, TD.isBool, TD.isPtr, TD.isFunc, fieldOf, indexA, indexAddrA_sl, indexAddrA_ptr, lenA_sl, lenA_snil, lenA_str, buildA, placesA, fillA, repl, eqA, eqV, eqV.eqFs,
  ofConst, ofLeaf, ofLeafs, AV.cells, AV.leaf, List.all_cons, List.all_nil, Bool.true_and, Bool.and_true, Bool.false_and, Bool.and_false, Bool.true_or, Bool.false_or, Bool.or_false, Bool.or_true, Bool.not_true, Bool.not_false, Bool.not_not,
  Option.bind_some, Option.bind_none, Option.map_some, Option.map_none, Option.getD_some, Option.getD_none, Option.bind_eq_bind, List.getElem?_cons_zero, List.getElem?_cons_succ, List.getElem?_nil, List.getElem?_toArray, List.map_cons, List.map_nil, List.append_nil, List.nil_append, List.cons_append, List.singleton_append,
  List.take_zero, List.drop_zero, List.take_succ_cons, List.drop_succ_cons, List.take_nil, List.drop_nil, List.length_cons, List.length_nil, List.length_append, List.tail_cons, List.headD_cons, List.headD_nil, List.tail_nil,
  Nat.reduceEqDiff, Nat.reduceAdd, Nat.reduceMul, Nat.reduceLeDiff, ↓reduceIte, if_true, if_false, reduceCtorEq, true_and, and_true, false_and, and_false, decide_true, decide_false, Int.natCast_nonneg, Int.toNat_natCast, Nat.mul_one, Nat.one_mul, Nat.zero_add, Nat.add_zero, ne_eq, not_true_eq_false, not_false_eq_true, Nat.zero_le, Nat.zero_lt_succ, Nat.zero_lt_one, Nat.le_refl, Int.toNat_zero, Nat.zero_mul, Nat.mul_zero, and_self, beq_self_eq_true, Nat.succ_ne_self,
  wrap64, wrap32, wrapU64, wrapU8, wrapU32, ti32, ti34, detA, stA]
  refine gN_alloc_ptr fun b4 m2 hb2 hm2 hk2 => ?_
  simp -implicitDefEqProofs (disch := omega) only [gO_nil, gO_cons, gN_cond, gN_val, gN_bad, outV_some, outV_none, outV_guard, outA_guard, outP_guard, outA_some, outA_none, outP_some, outP_none, guardO_true, gN_store, putd_lk, putd_lk0, lk_cons, lk_nil, ev_tmp, ev, gdO_tt, gdO_ff, gdO_tf, gdO_ft, gdO_u,
  itemsOf, itemsAt, operO, stepO, convO, callO, callB, storeO, pureA, loadA, allocA, serA, selA, binA, binInt, unA, convA, partA, TD.isAgg, TD.isBool, TD.isPtr, TD.isFunc, fieldOf, indexA, indexAddrA_sl, indexAddrA_ptr, lenA_sl, lenA_snil, lenA_str, buildA, placesA, fillA, repl, eqA, eqV, eqV.eqFs,
  ofConst, ofLeaf, ofLeafs, AV.cells, AV.leaf, List.all_cons, List.all_nil, Bool.true_and, Bool.and_true, Bool.false_and, Bool.and_false, Bool.true_or, Bool.false_or, Bool.or_false, Bool.or_true, Bool.not_true, Bool.not_false, Bool.not_not,
  Option.bind_some, Option.bind_none, Option.map_some, Option.map_none, Option.getD_some, Option.getD_none, Option.bind_eq_bind, List.getElem?_cons_zero, List.getElem?_cons_succ, List.getElem?_nil, List.getElem?_toArray, List.map_cons, List.map_nil, List.append_nil, List.nil_append, List.cons_append, List.singleton_append,
  List.take_zero, List.drop_zero, List.take_succ_cons, List.drop_succ_cons, List.take_nil, List.drop_nil, List.length_cons, List.length_nil, List.length_append, List.tail_cons, List.headD_cons, List.headD_nil, List.tail_nil,
  Nat.reduceEqDiff, Nat.reduceAdd, Nat.reduceMul, Nat.reduceLeDiff, ↓reduceIte, if_true, if_false, reduceCtorEq, true_and, and_true, false_and, and_false, decide_true, decide_false, Int.natCast_nonneg, Int.toNat_natCast, Nat.mul_one, Nat.one_mul, Nat.zero_add, Nat.add_zero, ne_eq, not_true_eq_false, not_false_eq_true, Nat.zero_le, Nat.zero_lt_succ, Nat.zero_lt_one, Nat.le_refl, Int.toNat_zero, Nat.zero_mul, Nat.mul_zero, and_self, beq_self_eq_true, Nat.succ_ne_self,
  wrap64, wrap32, wrapU64, wrapU8, wrapU32, ti34]
  refine gN_alloc_ptr fun b6 m3 hb3 hm3 hk3 => ?_
  simp -implicitDefEqProofs (disch := omega) only [gO_nil, gO_cons, gN_cond, gN_val, gN_bad, outV_some, outV_none, outV_guard, outA_guard, outP_guard, outA_some, outA_none, outP_some, outP_none, guardO_true, gN_store, putd_lk, putd_lk0, lk_cons, lk_nil, ev_tmp, ev, gdO_tt, gdO_ff, gdO_tf, gdO_ft, gdO_u,
  itemsOf, itemsAt, operO, stepO, convO, callO, callB, storeO, pureA, loadA, allocA, serA, selA, binA, binInt, unA, convA, partA, TD.isAgg, TD.isBool, TD.isPtr, TD.isFunc, fieldOf, indexA, indexAddrA_sl, indexAddrA_ptr, lenA_sl, lenA_snil, lenA_str, buildA, placesA, fillA, repl, eqA, eqV, eqV.eqFs,
  ofConst, ofLeaf, ofLeafs, AV.cells, AV.leaf, List.all_cons, List.all_nil, Bool.true_and, Bool.and_true, Bool.false_and, Bool.and_false, Bool.true_or, Bool.false_or, Bool.or_false, Bool.or_true, Bool.not_true, Bool.not_false, Bool.not_not,
  Option.bind_some, Option.bind_none, Option.map_some, Option.map_none, Option.getD_some, Option.getD_none, Option.bind_eq_bind, List.getElem?_cons_zero, List.getElem?_cons_succ, List.getElem?_nil, List.getElem?_toArray, List.map_cons, List.map_nil, List.append_nil, List.nil_append, List.cons_append, List.singleton_append,
  List.take_zero, List.drop_zero, List.take_succ_cons, List.drop_succ_cons, List.take_nil, List.drop_nil, List.length_cons, List.length_nil, List.length_append, List.tail_cons, List.headD_cons, List.headD_nil, List.tail_nil,
  Nat.reduceEqDiff, Nat.reduceAdd, Nat.reduceMul, Nat.reduceLeDiff, ↓reduceIte, if_true, if_false, reduceCtorEq, true_and, and_true, false_and, and_false, decide_true, decide_false, Int.natCast_nonneg, Int.toNat_natCast, Nat.mul_one, Nat.one_mul, Nat.zero_add, Nat.add_zero, ne_eq, not_true_eq_false, not_false_eq_true, Nat.zero_le, Nat.zero_lt_succ, Nat.zero_lt_one, Nat.le_refl, Int.toNat_zero, Nat.zero_mul, Nat.mul_zero, and_self, beq_self_eq_true, Nat.succ_ne_self,
  wrap64, wrap32, wrapU64, wrapU8, wrapU32]
  refine hq _ _ ?_
  simp only [pickL, lk_cons, Nat.reduceEqDiff, ↓reduceIte, reduceCtorEq, if_true, if_false]
  clear hq q
  repeat' (first | refine wpL_seq ?_ | refine wpL_skip ?_ | refine wpL_label ?_)
  refine wpL_region [2, 3, 4, 6, 7] fun q hq => ?_
  simp -implicitDefEqProofs (disch := omega) only [gO_nil, gO_cons, gN_cond, gN_val, gN_bad, outV_some, outV_none, outV_guard, outA_guard, outP_guard, outA_some, outA_none, outP_some, outP_none, guardO_true, gN_store, putd_lk, putd_lk0, lk_cons, lk_nil, ev_tmp, ev, gdO_tt, gdO_ff, gdO_tf, gdO_ft, gdO_u,
  itemsOf, itemsAt, operO, stepO, convO, callO, callB, storeO, pureA, loadA, allocA, serA, selA, binA, binInt, unA, convA, partA, TD.isAgg, TD.isBool, TD.isPtr, TD.isFunc, fieldOf, indexA, indexAddrA_sl, indexAddrA_ptr, lenA_sl, lenA_snil, lenA_str, buildA, placesA, fillA, repl, eqA, eqV, eqV.eqFs,
  ofConst, ofLeaf, ofLeafs, AV.cells, AV.leaf, List.all_cons, List.all_nil, Bool.true_and, Bool.and_true, Bool.false_and, Bool.and_false, Bool.true_or, Bool.false_or, Bool.or_false, Bool.or_true, Bool.not_true, Bool.not_false, Bool.not_not,
  Option.bind_some, Option.bind_none, Option.map_some, Option.map_none, Option.getD_some, Option.getD_none, Option.bind_eq_bind, List.getElem?_cons_zero, List.getElem?_cons_succ, List.getElem?_nil, List.getElem?_toArray, List.map_cons, List.map_nil, List.append_nil, List.nil_append, List.cons_append, List.singleton_append,
  List.take_zero, List.drop_zero, List.take_succ_cons, List.drop_succ_cons, List.take_nil, List.drop_nil, List.length_cons, List.length_nil, List.length_append, List.tail_cons, List.headD_cons, List.headD_nil, List.tail_nil,
  Nat.reduceEqDiff, Nat.reduceAdd, Nat.reduceMul, Nat.reduceLeDiff, ↓reduceIte, if_true, if_false, reduceCtorEq, true_and, and_true, false_and, and_false, decide_true, decide_false, Int.natCast_nonneg, Int.toNat_natCast, Nat.mul_one, Nat.one_mul, Nat.zero_add, Nat.add_zero, ne_eq, not_true_eq_false, not_false_eq_true, Nat.zero_le, Nat.zero_lt_succ, Nat.zero_lt_one, Nat.le_refl, Int.toNat_zero, Nat.zero_mul, Nat.mul_zero, and_self, beq_self_eq_true, Nat.succ_ne_self,
  wrap64, wrap32, wrapU64, wrapU8, wrapU32, ti34]
  refine gN_alloc_ptr fun b7 m4 hb4 hm4 hk4 => ?_
  simp -implicitDefEqProofs (disch := omega) only [gO_nil, gO_cons, gN_cond, gN_val, gN_bad, outV_some, outV_none, outV_guard, outA_guard, outP_guard, outA_some, outA_none, outP_some, outP_none, guardO_true, gN_store, putd_lk, putd_lk0, lk_cons, lk_nil, ev_tmp, ev, gdO_tt, gdO_ff, gdO_tf, gdO_ft, gdO_u,
  itemsOf, itemsAt, operO, stepO, convO, callO, callB, storeO, pureA, loadA, allocA, serA, selA, binA, binInt, unA, convA, partA, TD.isAgg, TD.isBool, TD.isPtr, TD.isFunc, fieldOf, indexA, indexAddrA_sl, indexAddrA_ptr, lenA_sl, lenA_snil, lenA_str, buildA, placesA, fillA, repl, eqA, eqV, eqV.eqFs,
  ofConst, ofLeaf, ofLeafs, AV.cells, AV.leaf, List.all_cons, List.all_nil, Bool.true_and, Bool.and_true, Bool.false_and, Bool.and_false, Bool.true_or, Bool.false_or, Bool.or_false, Bool.or_true, Bool.not_true, Bool.not_false, Bool.not_not,
  Option.bind_some, Option.bind_none, Option.map_some, Option.map_none, Option.getD_some, Option.getD_none, Option.bind_eq_bind, List.getElem?_cons_zero, List.getElem?_cons_succ, List.getElem?_nil, List.getElem?_toArray, List.map_cons, List.map_nil, List.append_nil, List.nil_append, List.cons_append, List.singleton_append,
  List.take_zero, List.drop_zero, List.take_succ_cons, List.drop_succ_cons, List.take_nil, List.drop_nil, List.length_cons, List.length_nil, List.length_append, List.tail_cons, List.headD_cons, List.headD_nil, List.tail_nil,
  Nat.reduceEqDiff, Nat.reduceAdd, Nat.reduceMul, Nat.reduceLeDiff, ↓reduceIte, if_true, if_false, reduceCtorEq, true_and, and_true, false_and, and_false, decide_true, decide_false, Int.natCast_nonneg, Int.toNat_natCast, Nat.mul_one, Nat.one_mul, Nat.zero_add, Nat.add_zero, ne_eq, not_true_eq_false, not_false_eq_true, Nat.zero_le, Nat.zero_lt_succ, Nat.zero_lt_one, Nat.le_refl, Int.toNat_zero, Nat.zero_mul, Nat.mul_zero, and_self, beq_self_eq_true, Nat.succ_ne_self,
  wrap64, wrap32, wrapU64, wrapU8, wrapU32]
  refine hq _ _ ?_
  simp only [pickL, lk_cons, Nat.reduceEqDiff, ↓reduceIte, reduceCtorEq, if_true, if_false]
  clear hq q
  have k12 := hk1.trans hk2
  have k13 := k12.trans hk3
  have SM : SenseM m m4 b3 b4 b6 b7 [.str nm, .bool la, .int .i64 de, .int .i64 ho] [.int .i32 l1, .int .i32 l2, .bool on, .bool me] [.int .i32 0, .int .i32 0, .bool false, .bool false] := by
    have h31 := hk3 _ (by simp) _ (hk2 _ (by simp) _ hm1)
    have h32 := hk3 _ (by simp) _ hm2
    refine ⟨hk4 _ (by simp) _ h31, hk4 _ (by simp) _ h32, hk4 _ (by simp) _ hm3, hm4, k13.trans hk4, ?_, ?_, ?_, ?_, ?_⟩
    · rintro rfl; rw [hb4] at h31; cases h31
    · rintro rfl; rw [hb4] at h32; cases h32
    · rintro rfl; rw [hb4] at hm3; cases hm3
    · cases hx : m.blk b7 with
      | none => rfl
      | some kx => rw [k13 b7 (by simp) kx hx] at hb4; cases hb4
    · cases hx : m.blk b6 with
      | none => rfl
      | some kx => rw [k12 b6 (by simp) kx hx] at hb3; cases hb3
  clear hm1 hm2 hm3 hm4 hk1 hk2 hk3 hk4 k12 k13 hb1 hb2 hb3 hb4
  have hup : -2147483648 ≤ upV l1 ∧ upV l1 ≤ 2147483647 := by unfold upV; (repeat' split) <;> omega
  have hcde : 0 ≤ capV de ∧ capV de ≤ 2147483647 := by unfold capV; (repeat' split) <;> omega
  repeat' (first | refine wpL_seq ?_ | refine wpL_skip ?_ | refine wpL_label ?_)
  refine wpL_region [3, 4, 6, 7, 9] fun q hq => ?_
  simp -implicitDefEqProofs (disch := omega) only [gO_nil, gO_cons, gN_cond, gN_val, gN_bad, outV_some, outV_none, outV_guard, outA_guard, outP_guard, outA_some, outA_none, outP_some, outP_none, guardO_true, gN_store, putd_lk, putd_lk0, lk_cons, lk_nil, ev_tmp, ev, gdO_tt, gdO_ff, gdO_tf, gdO_ft, gdO_u,
  itemsOf, itemsAt, operO, stepO, convO, callO, callB, storeO, pureA, loadA, allocA, serA, selA, binA, binInt, unA, convA, partA, TD.isAgg, TD.isBool, TD.isPtr, TD.isFunc, fieldOf, indexA, indexAddrA_sl, indexAddrA_ptr, lenA_sl, lenA_snil, lenA_str, buildA, placesA, fillA, repl, eqA, eqV, eqV.eqFs,
  ofConst, ofLeaf, ofLeafs, AV.cells, AV.leaf, List.all_cons, List.all_nil, Bool.true_and, Bool.and_true, Bool.false_and, Bool.and_false, Bool.true_or, Bool.false_or, Bool.or_false, Bool.or_true, Bool.not_true, Bool.not_false, Bool.not_not,
  Option.bind_some, Option.bind_none, Option.map_some, Option.map_none, Option.getD_some, Option.getD_none, Option.bind_eq_bind, List.getElem?_cons_zero, List.getElem?_cons_succ, List.getElem?_nil, List.getElem?_toArray, List.map_cons, List.map_nil, List.append_nil, List.nil_append, List.cons_append, List.singleton_append,
  List.take_zero, List.drop_zero, List.take_succ_cons, List.drop_succ_cons, List.take_nil, List.drop_nil, List.length_cons, List.length_nil, List.length_append, List.tail_cons, List.headD_cons, List.headD_nil, List.tail_nil,
  Nat.reduceEqDiff, Nat.reduceAdd, Nat.reduceMul, Nat.reduceLeDiff, ↓reduceIte, if_true, if_false, reduceCtorEq, true_and, and_true, false_and, and_false, decide_true, decide_false, Int.natCast_nonneg, Int.toNat_natCast, Nat.mul_one, Nat.one_mul, Nat.zero_add, Nat.add_zero, ne_eq, not_true_eq_false, not_false_eq_true, Nat.zero_le, Nat.zero_lt_succ, Nat.zero_lt_one, Nat.le_refl, Int.toNat_zero, Nat.zero_mul, Nat.mul_zero, and_self, beq_self_eq_true, Nat.succ_ne_self,
  wrap64, wrap32, wrapU64, wrapU8, wrapU32]
  refine hq _ _ ?_
  simp only [pickL, lk_cons, Nat.reduceEqDiff, ↓reduceIte, reduceCtorEq, if_true, if_false]
  clear hq q
  repeat' (first | refine wpL_seq ?_ | refine wpL_skip ?_ | refine wpL_label ?_)
  refine wpL_condK rfl fun j1 hj1 ox1 => ?_
  have tail1 : ∀ m' n, n = (if raw then upV l1 else 0) → SenseM m m' b3 b4 b6 b7 [.str nm, .bool la, .int .i64 de, .int .i64 ho] [.int .i32 l1, .int .i32 l2, .bool on, .bool me] [.int .i32 n, .int .i32 0, .bool false, .bool false] →
      j1 .normal (lk [(3, .ptr b3 0), (4, .ptr b4 0), (6, .ptr b6 0), (7, .ptr b7 0)]) m' := by
    intro m' n hn SM
    refine hj1 _ _ ?_
    have hn1 : -2147483648 ≤ n ∧ n ≤ 2147483647 := by subst hn; split <;> omega
    repeat' (first | refine wpL_seq ?_ | refine wpL_skip ?_ | refine wpL_label ?_)
    refine wpL_draw [3, 4, 6, 7, 8] [0, 2, 1, 3, 4, 5, 6] [false, false, false, false, true] (by kernel_rfl) (by kernel_rfl) (by kernel_rfl) fun q hq => ?_
    simp -implicitDefEqProofs (disch := omega) only [gO_nil, gO_cons, gN_cond, gN_val, gN_bad, outV_some, outV_none, outV_guard, outA_guard, outP_guard, outA_some, outA_none, outP_some, outP_none, guardO_true, gN_store, putd_lk, putd_lk0, lk_cons, lk_nil, ev_tmp, ev, gdO_tt, gdO_ff, gdO_tf, gdO_ft, gdO_u,
  itemsOf, itemsAt, operO, stepO, convO, callO, callB, storeO, pureA, loadA, allocA, serA, selA, binA, binInt, unA, convA, partA, TD.isAgg, TD.isBool, TD.isPtr, TD.isFunc, fieldOf, indexA, indexAddrA_sl, indexAddrA_ptr, lenA_sl, lenA_snil, lenA_str, buildA, placesA, fillA, repl, eqA, eqV, eqV.eqFs,
  ofConst, ofLeaf, ofLeafs, AV.cells, AV.leaf, List.all_cons, List.all_nil, Bool.true_and, Bool.and_true, Bool.false_and, Bool.and_false, Bool.true_or, Bool.false_or, Bool.or_false, Bool.or_true, Bool.not_true, Bool.not_false, Bool.not_not,
  Option.bind_some, Option.bind_none, Option.map_some, Option.map_none, Option.getD_some, Option.getD_none, Option.bind_eq_bind, List.getElem?_cons_zero, List.getElem?_cons_succ, List.getElem?_nil, List.getElem?_toArray, List.map_cons, List.map_nil, List.append_nil, List.nil_append, List.cons_append, List.singleton_append,
  List.take_zero, List.drop_zero, List.take_succ_cons, List.drop_succ_cons, List.take_nil, List.drop_nil, List.length_cons, List.length_nil, List.length_append, List.tail_cons, List.headD_cons, List.headD_nil, List.tail_nil,
  Nat.reduceEqDiff, Nat.reduceAdd, Nat.reduceMul, Nat.reduceLeDiff, ↓reduceIte, if_true, if_false, reduceCtorEq, true_and, and_true, false_and, and_false, decide_true, decide_false, Int.natCast_nonneg, Int.toNat_natCast, Nat.mul_one, Nat.one_mul, Nat.zero_add, Nat.add_zero, ne_eq, not_true_eq_false, not_false_eq_true, Nat.zero_le, Nat.zero_lt_succ, Nat.zero_lt_one, Nat.le_refl, Int.toNat_zero, Nat.zero_mul, Nat.mul_zero, and_self, beq_self_eq_true, Nat.succ_ne_self,
  wrap64, wrap32, wrapU64, wrapU8, wrapU32, ti32, ti34, ti21, ti3, SM.d, SM.o]
    refine gN_call_of (f23_within hde.1 hde.2 ⟨fun _ => Ext.refl _, ?_⟩)
    simp -implicitDefEqProofs (disch := omega) only [gO_nil, gO_cons, gN_cond, gN_val, gN_bad, outV_some, outV_none, outV_guard, outA_guard, outP_guard, outA_some, outA_none, outP_some, outP_none, guardO_true, gN_store, putd_lk, putd_lk0, lk_cons, lk_nil, ev_tmp, ev, gdO_tt, gdO_ff, gdO_tf, gdO_ft, gdO_u,
  itemsOf, itemsAt, operO, stepO, convO, callO, callB, storeO, pureA, loadA, allocA, serA, selA, binA, binInt, unA, convA, partA, TD.isAgg, TD.isBool, TD.isPtr, TD.isFunc, fieldOf, indexA, indexAddrA_sl, indexAddrA_ptr, lenA_sl, lenA_snil, lenA_str, buildA, placesA, fillA, repl, eqA, eqV, eqV.eqFs,
  ofConst, ofLeaf, ofLeafs, AV.cells, AV.leaf, List.all_cons, List.all_nil, Bool.true_and, Bool.and_true, Bool.false_and, Bool.and_false, Bool.true_or, Bool.false_or, Bool.or_false, Bool.or_true, Bool.not_true, Bool.not_false, Bool.not_not,
  Option.bind_some, Option.bind_none, Option.map_some, Option.map_none, Option.getD_some, Option.getD_none, Option.bind_eq_bind, List.getElem?_cons_zero, List.getElem?_cons_succ, List.getElem?_nil, List.getElem?_toArray, List.map_cons, List.map_nil, List.append_nil, List.nil_append, List.cons_append, List.singleton_append,
  List.take_zero, List.drop_zero, List.take_succ_cons, List.drop_succ_cons, List.take_nil, List.drop_nil, List.length_cons, List.length_nil, List.length_append, List.tail_cons, List.headD_cons, List.headD_nil, List.tail_nil,
  Nat.reduceEqDiff, Nat.reduceAdd, Nat.reduceMul, Nat.reduceLeDiff, ↓reduceIte, if_true, if_false, reduceCtorEq, true_and, and_true, false_and, and_false, decide_true, decide_false, Int.natCast_nonneg, Int.toNat_natCast, Nat.mul_one, Nat.one_mul, Nat.zero_add, Nat.add_zero, ne_eq, not_true_eq_false, not_false_eq_true, Nat.zero_le, Nat.zero_lt_succ, Nat.zero_lt_one, Nat.le_refl, Int.toNat_zero, Nat.zero_mul, Nat.mul_zero, and_self, beq_self_eq_true, Nat.succ_ne_self,
  wrap64, wrap32, wrapU64, wrapU8, wrapU32]
    refine hq _ _ ?_
    simp only [pickL, lk_cons, Nat.reduceEqDiff, ↓reduceIte, reduceCtorEq, if_true, if_false]
    clear hq q
    repeat' (first | refine wpL_seq ?_ | refine wpL_skip ?_ | refine wpL_label ?_)
    refine wpL_region [3, 4, 6, 7, 8, 20] fun q hq => ?_
    simp -implicitDefEqProofs (disch := omega) only [gO_nil, gO_cons, gN_cond, gN_val, gN_bad, outV_some, outV_none, outV_guard, outA_guard, outP_guard, outA_some, outA_none, outP_some, outP_none, guardO_true, gN_store, putd_lk, putd_lk0, lk_cons, lk_nil, ev_tmp, ev, gdO_tt, gdO_ff, gdO_tf, gdO_ft, gdO_u,
  itemsOf, itemsAt, operO, stepO, convO, callO, callB, storeO, pureA, loadA, allocA, serA, selA, binA, binInt, unA, convA, partA, TD.isAgg, TD.isBool, TD.isPtr, TD.isFunc, fieldOf, indexA, indexAddrA_sl, indexAddrA_ptr, lenA_sl, lenA_snil, lenA_str, buildA, placesA, fillA, repl, eqA, eqV, eqV.eqFs,
  ofConst, ofLeaf, ofLeafs, AV.cells, AV.leaf, List.all_cons, List.all_nil, Bool.true_and, Bool.and_true, Bool.false_and, Bool.and_false, Bool.true_or, Bool.false_or, Bool.or_false, Bool.or_true, Bool.not_true, Bool.not_false, Bool.not_not,
  Option.bind_some, Option.bind_none, Option.map_some, Option.map_none, Option.getD_some, Option.getD_none, Option.bind_eq_bind, List.getElem?_cons_zero, List.getElem?_cons_succ, List.getElem?_nil, List.getElem?_toArray, List.map_cons, List.map_nil, List.append_nil, List.nil_append, List.cons_append, List.singleton_append,
  List.take_zero, List.drop_zero, List.take_succ_cons, List.drop_succ_cons, List.take_nil, List.drop_nil, List.length_cons, List.length_nil, List.length_append, List.tail_cons, List.headD_cons, List.headD_nil, List.tail_nil,
  Nat.reduceEqDiff, Nat.reduceAdd, Nat.reduceMul, Nat.reduceLeDiff, ↓reduceIte, if_true, if_false, reduceCtorEq, true_and, and_true, false_and, and_false, decide_true, decide_false, Int.natCast_nonneg, Int.toNat_natCast, Nat.mul_one, Nat.one_mul, Nat.zero_add, Nat.add_zero, ne_eq, not_true_eq_false, not_false_eq_true, Nat.zero_le, Nat.zero_lt_succ, Nat.zero_lt_one, Nat.le_refl, Int.toNat_zero, Nat.zero_mul, Nat.mul_zero, and_self, beq_self_eq_true, Nat.succ_ne_self,
  wrap64, wrap32, wrapU64, wrapU8, wrapU32]
    refine hq _ _ ?_
    simp only [pickL, lk_cons, Nat.reduceEqDiff, ↓reduceIte, reduceCtorEq, if_true, if_false]
    clear hq q
    generalize hact : decide (n > capV de) = act
    generalize hheld : decide (l2 > 0) = held
    repeat' (first | refine wpL_seq ?_ | refine wpL_skip ?_ | refine wpL_label ?_)
    refine wpL_condK rfl fun j2 hj2 ox2 => ?_
    have hcho : 0 ≤ capV ho ∧ capV ho ≤ 2147483647 := by unfold capV; (repeat' split) <;> omega
    have tail2 : ∀ m' z, z = (if act then capV ho else if held then l2 - 1 else 0) → SenseM m m' b3 b4 b6 b7 [.str nm, .bool la, .int .i64 de, .int .i64 ho] [.int .i32 l1, .int .i32 l2, .bool on, .bool me] [.int .i32 n, .int .i32 z, .bool false, .bool false] →
        j2 .normal (lk [(3, .ptr b3 0), (4, .ptr b4 0), (6, .ptr b6 0), (7, .ptr b7 0), (8, .bool act)]) m' := by
      intro m' z hz SM
      refine hj2 _ _ ?_
      have out : ∀ m' : Mem, m'.blk b6 = some ⟨.own, [.int .i32 n, .int .i32 z, .bool (act || held), .bool (la && (me || act))], 34, []⟩ → Keep [] m m' → K' .ret (lk [(6, .ptr b6 0)]) m' := by
        intro m' hb hk
        have hres : Try.f19.results.toList = [.cell 6 34] := rfl
        refine hK' _ _ _ (stA n z (act || held) (la && (me || act))) (.inr rfl) (by simp -implicitDefEqProofs (disch := omega) only [gO_nil, gO_cons, gN_cond, gN_val, gN_bad, outV_some, outV_none, outV_guard, outA_guard, outP_guard, outA_some, outA_none, outP_some, outP_none, guardO_true, gN_store, putd_lk, putd_lk0, lk_cons, lk_nil, ev_tmp, ev, gdO_tt, gdO_ff, gdO_tf, gdO_ft, gdO_u,
  itemsOf, itemsAt, operO, stepO, convO, callO, callB, storeO, pureA, loadA, allocA, serA, selA, binA, binInt, unA, convA, partA, TD.isAgg, TD.isBool, TD.isPtr, TD.isFunc, fieldOf, indexA, indexAddrA_sl, indexAddrA_ptr, lenA_sl, lenA_snil, lenA_str, buildA, placesA, fillA, repl, eqA, eqV, eqV.eqFs,
  ofConst, ofLeaf, ofLeafs, AV.cells, AV.leaf, List.all_cons, List.all_nil, Bool.true_and, Bool.and_true, Bool.false_and, Bool.and_false, Bool.true_or, Bool.false_or, Bool.or_false, Bool.or_true, Bool.not_true, Bool.not_false, Bool.not_not,
  Option.bind_some, Option.bind_none, Option.map_some, Option.map_none, Option.getD_some, Option.getD_none, Option.bind_eq_bind, List.getElem?_cons_zero, List.getElem?_cons_succ, List.getElem?_nil, List.getElem?_toArray, List.map_cons, List.map_nil, List.append_nil, List.nil_append, List.cons_append, List.singleton_append,
  List.take_zero, List.drop_zero, List.take_succ_cons, List.drop_succ_cons, List.take_nil, List.drop_nil, List.length_cons, List.length_nil, List.length_append, List.tail_cons, List.headD_cons, List.headD_nil, List.tail_nil,
  Nat.reduceEqDiff, Nat.reduceAdd, Nat.reduceMul, Nat.reduceLeDiff, ↓reduceIte, if_true, if_false, reduceCtorEq, true_and, and_true, false_and, and_false, decide_true, decide_false, Int.natCast_nonneg, Int.toNat_natCast, Nat.mul_one, Nat.one_mul, Nat.zero_add, Nat.add_zero, ne_eq, not_true_eq_false, not_false_eq_true, Nat.zero_le, Nat.zero_lt_succ, Nat.zero_lt_one, Nat.le_refl, Int.toNat_zero, Nat.zero_mul, Nat.mul_zero, and_self, beq_self_eq_true, Nat.succ_ne_self,
  wrap64, wrap32, wrapU64, wrapU8, wrapU32, hres, resA, resList, resOne, hb, ti34, stA]) ?_
        have := hK m' hk
        simp only [senseA] at this
        rw [← hn, hact, hheld, ← hz] at this
        exact this
      have step10 : ∀ k : Env → Mem → Prop, True := fun _ => trivial
      cases act <;> cases la <;> cases me <;> cases held <;> (
        repeat' (first | refine wpL_seq ?_ | refine wpL_skip ?_ | refine wpL_label ?_)
        refine wpL_region [3, 4, 6, 7, 8] fun q hq => ?_
        simp -implicitDefEqProofs (disch := omega) only [gO_nil, gO_cons, gN_cond, gN_val, gN_bad, outV_some, outV_none, outV_guard, outA_guard, outP_guard, outA_some, outA_none, outP_some, outP_none, guardO_true, gN_store, putd_lk, putd_lk0, lk_cons, lk_nil, ev_tmp, ev, gdO_tt, gdO_ff, gdO_tf, gdO_ft, gdO_u,
  itemsOf, itemsAt, operO, stepO, convO, callO, callB, storeO, pureA, loadA, allocA, serA, selA, binA, binInt, unA, convA, partA, TD.isAgg, TD.isBool, TD.isPtr, TD.isFunc, fieldOf, indexA, indexAddrA_sl, indexAddrA_ptr, lenA_sl, lenA_snil, lenA_str, buildA, placesA, fillA, repl, eqA, eqV, eqV.eqFs,
  ofConst, ofLeaf, ofLeafs, AV.cells, AV.leaf, List.all_cons, List.all_nil, Bool.true_and, Bool.and_true, Bool.false_and, Bool.and_false, Bool.true_or, Bool.false_or, Bool.or_false, Bool.or_true, Bool.not_true, Bool.not_false, Bool.not_not,
  Option.bind_some, Option.bind_none, Option.map_some, Option.map_none, Option.getD_some, Option.getD_none, Option.bind_eq_bind, List.getElem?_cons_zero, List.getElem?_cons_succ, List.getElem?_nil, List.getElem?_toArray, List.map_cons, List.map_nil, List.append_nil, List.nil_append, List.cons_append, List.singleton_append,
  List.take_zero, List.drop_zero, List.take_succ_cons, List.drop_succ_cons, List.take_nil, List.drop_nil, List.length_cons, List.length_nil, List.length_append, List.tail_cons, List.headD_cons, List.headD_nil, List.tail_nil,
  Nat.reduceEqDiff, Nat.reduceAdd, Nat.reduceMul, Nat.reduceLeDiff, ↓reduceIte, if_true, if_false, reduceCtorEq, true_and, and_true, false_and, and_false, decide_true, decide_false, Int.natCast_nonneg, Int.toNat_natCast, Nat.mul_one, Nat.one_mul, Nat.zero_add, Nat.add_zero, ne_eq, not_true_eq_false, not_false_eq_true, Nat.zero_le, Nat.zero_lt_succ, Nat.zero_lt_one, Nat.le_refl, Int.toNat_zero, Nat.zero_mul, Nat.mul_zero, and_self, beq_self_eq_true, Nat.succ_ne_self,
  wrap64, wrap32, wrapU64, wrapU8, wrapU32, ti34, ti4, ti21, SM.o, SM.s, hheld]
        refine gN_store_of rfl rfl fun m5 hm5 hk5 => ?_
        simp only [List.take_zero, List.take_succ_cons, List.drop_zero, List.drop_succ_cons, List.nil_append, List.cons_append, List.length_cons, List.length_nil, Nat.zero_add, Nat.reduceAdd, List.append_nil, List.drop_nil] at hm5
        have SM5 := SM.store hm5 hk5
        simp -implicitDefEqProofs (disch := omega) only [gO_nil, gO_cons, gN_cond, gN_val, gN_bad, outV_some, outV_none, outV_guard, outA_guard, outP_guard, outA_some, outA_none, outP_some, outP_none, guardO_true, gN_store, putd_lk, putd_lk0, lk_cons, lk_nil, ev_tmp, ev, gdO_tt, gdO_ff, gdO_tf, gdO_ft, gdO_u,
  itemsOf, itemsAt, operO, stepO, convO, callO, callB, storeO, pureA, loadA, allocA, serA, selA, binA, binInt, unA, convA, partA, TD.isAgg, TD.isBool, TD.isPtr, TD.isFunc, fieldOf, indexA, indexAddrA_sl, indexAddrA_ptr, lenA_sl, lenA_snil, lenA_str, buildA, placesA, fillA, repl, eqA, eqV, eqV.eqFs,
  ofConst, ofLeaf, ofLeafs, AV.cells, AV.leaf, List.all_cons, List.all_nil, Bool.true_and, Bool.and_true, Bool.false_and, Bool.and_false, Bool.true_or, Bool.false_or, Bool.or_false, Bool.or_true, Bool.not_true, Bool.not_false, Bool.not_not,
  Option.bind_some, Option.bind_none, Option.map_some, Option.map_none, Option.getD_some, Option.getD_none, Option.bind_eq_bind, List.getElem?_cons_zero, List.getElem?_cons_succ, List.getElem?_nil, List.getElem?_toArray, List.map_cons, List.map_nil, List.append_nil, List.nil_append, List.cons_append, List.singleton_append,
  List.take_zero, List.drop_zero, List.take_succ_cons, List.drop_succ_cons, List.take_nil, List.drop_nil, List.length_cons, List.length_nil, List.length_append, List.tail_cons, List.headD_cons, List.headD_nil, List.tail_nil,
  Nat.reduceEqDiff, Nat.reduceAdd, Nat.reduceMul, Nat.reduceLeDiff, ↓reduceIte, if_true, if_false, reduceCtorEq, true_and, and_true, false_and, and_false, decide_true, decide_false, Int.natCast_nonneg, Int.toNat_natCast, Nat.mul_one, Nat.one_mul, Nat.zero_add, Nat.add_zero, ne_eq, not_true_eq_false, not_false_eq_true, Nat.zero_le, Nat.zero_lt_succ, Nat.zero_lt_one, Nat.le_refl, Int.toNat_zero, Nat.zero_mul, Nat.mul_zero, and_self, beq_self_eq_true, Nat.succ_ne_self,
  wrap64, wrap32, wrapU64, wrapU8, wrapU32]
        refine hq _ _ ?_
        simp only [pickL, lk_cons, Nat.reduceEqDiff, ↓reduceIte, reduceCtorEq, if_true, if_false]
        clear hq q
        repeat' (first | refine wpL_seq ?_ | refine wpL_skip ?_ | refine wpL_label ?_)
        refine wpL_region [6, 7] fun q hq => ?_
        simp -implicitDefEqProofs (disch := omega) only [gO_nil, gO_cons, gN_cond, gN_val, gN_bad, outV_some, outV_none, outV_guard, outA_guard, outP_guard, outA_some, outA_none, outP_some, outP_none, guardO_true, gN_store, putd_lk, putd_lk0, lk_cons, lk_nil, ev_tmp, ev, gdO_tt, gdO_ff, gdO_tf, gdO_ft, gdO_u,
  itemsOf, itemsAt, operO, stepO, convO, callO, callB, storeO, pureA, loadA, allocA, serA, selA, binA, binInt, unA, convA, partA, TD.isAgg, TD.isBool, TD.isPtr, TD.isFunc, fieldOf, indexA, indexAddrA_sl, indexAddrA_ptr, lenA_sl, lenA_snil, lenA_str, buildA, placesA, fillA, repl, eqA, eqV, eqV.eqFs,
  ofConst, ofLeaf, ofLeafs, AV.cells, AV.leaf, List.all_cons, List.all_nil, Bool.true_and, Bool.and_true, Bool.false_and, Bool.and_false, Bool.true_or, Bool.false_or, Bool.or_false, Bool.or_true, Bool.not_true, Bool.not_false, Bool.not_not,
  Option.bind_some, Option.bind_none, Option.map_some, Option.map_none, Option.getD_some, Option.getD_none, Option.bind_eq_bind, List.getElem?_cons_zero, List.getElem?_cons_succ, List.getElem?_nil, List.getElem?_toArray, List.map_cons, List.map_nil, List.append_nil, List.nil_append, List.cons_append, List.singleton_append,
  List.take_zero, List.drop_zero, List.take_succ_cons, List.drop_succ_cons, List.take_nil, List.drop_nil, List.length_cons, List.length_nil, List.length_append, List.tail_cons, List.headD_cons, List.headD_nil, List.tail_nil,
  Nat.reduceEqDiff, Nat.reduceAdd, Nat.reduceMul, Nat.reduceLeDiff, ↓reduceIte, if_true, if_false, reduceCtorEq, true_and, and_true, false_and, and_false, decide_true, decide_false, Int.natCast_nonneg, Int.toNat_natCast, Nat.mul_one, Nat.one_mul, Nat.zero_add, Nat.add_zero, ne_eq, not_true_eq_false, not_false_eq_true, Nat.zero_le, Nat.zero_lt_succ, Nat.zero_lt_one, Nat.le_refl, Int.toNat_zero, Nat.zero_mul, Nat.mul_zero, and_self, beq_self_eq_true, Nat.succ_ne_self,
  wrap64, wrap32, wrapU64, wrapU8, wrapU32, ti32, ti34, ti4, SM5.d, SM5.s, SM5.o]
        refine gN_store_of rfl rfl fun m6 hm6 hk6 => ?_
        simp only [List.take_zero, List.take_succ_cons, List.drop_zero, List.drop_succ_cons, List.nil_append, List.cons_append, List.length_cons, List.length_nil, Nat.zero_add, Nat.reduceAdd, List.append_nil, List.drop_nil] at hm6
        have SM6 := SM5.store hm6 hk6
        simp -implicitDefEqProofs (disch := omega) only [gO_nil, gO_cons, gN_cond, gN_val, gN_bad, outV_some, outV_none, outV_guard, outA_guard, outP_guard, outA_some, outA_none, outP_some, outP_none, guardO_true, gN_store, putd_lk, putd_lk0, lk_cons, lk_nil, ev_tmp, ev, gdO_tt, gdO_ff, gdO_tf, gdO_ft, gdO_u,
  itemsOf, itemsAt, operO, stepO, convO, callO, callB, storeO, pureA, loadA, allocA, serA, selA, binA, binInt, unA, convA, partA, TD.isAgg, TD.isBool, TD.isPtr, TD.isFunc, fieldOf, indexA, indexAddrA_sl, indexAddrA_ptr, lenA_sl, lenA_snil, lenA_str, buildA, placesA, fillA, repl, eqA, eqV, eqV.eqFs,
  ofConst, ofLeaf, ofLeafs, AV.cells, AV.leaf, List.all_cons, List.all_nil, Bool.true_and, Bool.and_true, Bool.false_and, Bool.and_false, Bool.true_or, Bool.false_or, Bool.or_false, Bool.or_true, Bool.not_true, Bool.not_false, Bool.not_not,
  Option.bind_some, Option.bind_none, Option.map_some, Option.map_none, Option.getD_some, Option.getD_none, Option.bind_eq_bind, List.getElem?_cons_zero, List.getElem?_cons_succ, List.getElem?_nil, List.getElem?_toArray, List.map_cons, List.map_nil, List.append_nil, List.nil_append, List.cons_append, List.singleton_append,
  List.take_zero, List.drop_zero, List.take_succ_cons, List.drop_succ_cons, List.take_nil, List.drop_nil, List.length_cons, List.length_nil, List.length_append, List.tail_cons, List.headD_cons, List.headD_nil, List.tail_nil,
  Nat.reduceEqDiff, Nat.reduceAdd, Nat.reduceMul, Nat.reduceLeDiff, ↓reduceIte, if_true, if_false, reduceCtorEq, true_and, and_true, false_and, and_false, decide_true, decide_false, Int.natCast_nonneg, Int.toNat_natCast, Nat.mul_one, Nat.one_mul, Nat.zero_add, Nat.add_zero, ne_eq, not_true_eq_false, not_false_eq_true, Nat.zero_le, Nat.zero_lt_succ, Nat.zero_lt_one, Nat.le_refl, Int.toNat_zero, Nat.zero_mul, Nat.mul_zero, and_self, beq_self_eq_true, Nat.succ_ne_self,
  wrap64, wrap32, wrapU64, wrapU8, wrapU32]
        refine hq _ _ ?_
        simp only [pickL, lk_cons, Nat.reduceEqDiff, ↓reduceIte, reduceCtorEq, if_true, if_false]
        clear hq q
        repeat' (first | refine wpL_seq ?_ | refine wpL_skip ?_ | refine wpL_label ?_)
        refine wpL_region [6] fun q hq => ?_
        simp -implicitDefEqProofs (disch := omega) only [gO_nil, gO_cons, gN_cond, gN_val, gN_bad, outV_some, outV_none, outV_guard, outA_guard, outP_guard, outA_some, outA_none, outP_some, outP_none, guardO_true, gN_store, putd_lk, putd_lk0, lk_cons, lk_nil, ev_tmp, ev, gdO_tt, gdO_ff, gdO_tf, gdO_ft, gdO_u,
  itemsOf, itemsAt, operO, stepO, convO, callO, callB, storeO, pureA, loadA, allocA, serA, selA, binA, binInt, unA, convA, partA, TD.isAgg, TD.isBool, TD.isPtr, TD.isFunc, fieldOf, indexA, indexAddrA_sl, indexAddrA_ptr, lenA_sl, lenA_snil, lenA_str, buildA, placesA, fillA, repl, eqA, eqV, eqV.eqFs,
  ofConst, ofLeaf, ofLeafs, AV.cells, AV.leaf, List.all_cons, List.all_nil, Bool.true_and, Bool.and_true, Bool.false_and, Bool.and_false, Bool.true_or, Bool.false_or, Bool.or_false, Bool.or_true, Bool.not_true, Bool.not_false, Bool.not_not,
  Option.bind_some, Option.bind_none, Option.map_some, Option.map_none, Option.getD_some, Option.getD_none, Option.bind_eq_bind, List.getElem?_cons_zero, List.getElem?_cons_succ, List.getElem?_nil, List.getElem?_toArray, List.map_cons, List.map_nil, List.append_nil, List.nil_append, List.cons_append, List.singleton_append,
  List.take_zero, List.drop_zero, List.take_succ_cons, List.drop_succ_cons, List.take_nil, List.drop_nil, List.length_cons, List.length_nil, List.length_append, List.tail_cons, List.headD_cons, List.headD_nil, List.tail_nil,
  Nat.reduceEqDiff, Nat.reduceAdd, Nat.reduceMul, Nat.reduceLeDiff, ↓reduceIte, if_true, if_false, reduceCtorEq, true_and, and_true, false_and, and_false, decide_true, decide_false, Int.natCast_nonneg, Int.toNat_natCast, Nat.mul_one, Nat.one_mul, Nat.zero_add, Nat.add_zero, ne_eq, not_true_eq_false, not_false_eq_true, Nat.zero_le, Nat.zero_lt_succ, Nat.zero_lt_one, Nat.le_refl, Int.toNat_zero, Nat.zero_mul, Nat.mul_zero, and_self, beq_self_eq_true, Nat.succ_ne_self,
  wrap64, wrap32, wrapU64, wrapU8, wrapU32, ti34, SM6.o, SM6.r]
        refine gN_store_of rfl rfl fun m7 hm7 hk7 => ?_
        simp only [List.take_zero, List.take_succ_cons, List.drop_zero, List.drop_succ_cons, List.nil_append, List.cons_append, List.length_cons, List.length_nil, Nat.zero_add, Nat.reduceAdd, List.append_nil, List.drop_nil] at hm7
        simp -implicitDefEqProofs (disch := omega) only [gO_nil, gO_cons, gN_cond, gN_val, gN_bad, outV_some, outV_none, outV_guard, outA_guard, outP_guard, outA_some, outA_none, outP_some, outP_none, guardO_true, gN_store, putd_lk, putd_lk0, lk_cons, lk_nil, ev_tmp, ev, gdO_tt, gdO_ff, gdO_tf, gdO_ft, gdO_u,
  itemsOf, itemsAt, operO, stepO, convO, callO, callB, storeO, pureA, loadA, allocA, serA, selA, binA, binInt, unA, convA, partA, TD.isAgg, TD.isBool, TD.isPtr, TD.isFunc, fieldOf, indexA, indexAddrA_sl, indexAddrA_ptr, lenA_sl, lenA_snil, lenA_str, buildA, placesA, fillA, repl, eqA, eqV, eqV.eqFs,
  ofConst, ofLeaf, ofLeafs, AV.cells, AV.leaf, List.all_cons, List.all_nil, Bool.true_and, Bool.and_true, Bool.false_and, Bool.and_false, Bool.true_or, Bool.false_or, Bool.or_false, Bool.or_true, Bool.not_true, Bool.not_false, Bool.not_not,
  Option.bind_some, Option.bind_none, Option.map_some, Option.map_none, Option.getD_some, Option.getD_none, Option.bind_eq_bind, List.getElem?_cons_zero, List.getElem?_cons_succ, List.getElem?_nil, List.getElem?_toArray, List.map_cons, List.map_nil, List.append_nil, List.nil_append, List.cons_append, List.singleton_append,
  List.take_zero, List.drop_zero, List.take_succ_cons, List.drop_succ_cons, List.take_nil, List.drop_nil, List.length_cons, List.length_nil, List.length_append, List.tail_cons, List.headD_cons, List.headD_nil, List.tail_nil,
  Nat.reduceEqDiff, Nat.reduceAdd, Nat.reduceMul, Nat.reduceLeDiff, ↓reduceIte, if_true, if_false, reduceCtorEq, true_and, and_true, false_and, and_false, decide_true, decide_false, Int.natCast_nonneg, Int.toNat_natCast, Nat.mul_one, Nat.one_mul, Nat.zero_add, Nat.add_zero, ne_eq, not_true_eq_false, not_false_eq_true, Nat.zero_le, Nat.zero_lt_succ, Nat.zero_lt_one, Nat.le_refl, Int.toNat_zero, Nat.zero_mul, Nat.mul_zero, and_self, beq_self_eq_true, Nat.succ_ne_self,
  wrap64, wrap32, wrapU64, wrapU8, wrapU32]
        refine hq _ _ ?_
        simp only [pickL, lk_cons, Nat.reduceEqDiff, ↓reduceIte, reduceCtorEq, if_true, if_false]
        clear hq q
        repeat' (first | refine wpL_seq ?_ | refine wpL_skip ?_ | refine wpL_label ?_)
        refine wpL_ret (out m7 hm7 fun x _ kx hx => hk7 x (by simp; rintro rfl; rw [SM.f6] at hx; cases hx) kx (SM6.k x (by simp) kx hx)))
    refine ⟨fun hd => ?_, fun hd => ?_⟩
    · subst hd
      repeat' (first | refine wpL_seq ?_ | refine wpL_skip ?_ | refine wpL_label ?_)
      refine wpL_region [3, 4, 6, 7, 8] fun q hq => ?_
      simp -implicitDefEqProofs (disch := omega) only [gO_nil, gO_cons, gN_cond, gN_val, gN_bad, outV_some, outV_none, outV_guard, outA_guard, outP_guard, outA_some, outA_none, outP_some, outP_none, guardO_true, gN_store, putd_lk, putd_lk0, lk_cons, lk_nil, ev_tmp, ev, gdO_tt, gdO_ff, gdO_tf, gdO_ft, gdO_u,
  itemsOf, itemsAt, operO, stepO, convO, callO, callB, storeO, pureA, loadA, allocA, serA, selA, binA, binInt, unA, convA, partA, TD.isAgg, TD.isBool, TD.isPtr, TD.isFunc, fieldOf, indexA, indexAddrA_sl, indexAddrA_ptr, lenA_sl, lenA_snil, lenA_str, buildA, placesA, fillA, repl, eqA, eqV, eqV.eqFs,
  ofConst, ofLeaf, ofLeafs, AV.cells, AV.leaf, List.all_cons, List.all_nil, Bool.true_and, Bool.and_true, Bool.false_and, Bool.and_false, Bool.true_or, Bool.false_or, Bool.or_false, Bool.or_true, Bool.not_true, Bool.not_false, Bool.not_not,
  Option.bind_some, Option.bind_none, Option.map_some, Option.map_none, Option.getD_some, Option.getD_none, Option.bind_eq_bind, List.getElem?_cons_zero, List.getElem?_cons_succ, List.getElem?_nil, List.getElem?_toArray, List.map_cons, List.map_nil, List.append_nil, List.nil_append, List.cons_append, List.singleton_append,
  List.take_zero, List.drop_zero, List.take_succ_cons, List.drop_succ_cons, List.take_nil, List.drop_nil, List.length_cons, List.length_nil, List.length_append, List.tail_cons, List.headD_cons, List.headD_nil, List.tail_nil,
  Nat.reduceEqDiff, Nat.reduceAdd, Nat.reduceMul, Nat.reduceLeDiff, ↓reduceIte, if_true, if_false, reduceCtorEq, true_and, and_true, false_and, and_false, decide_true, decide_false, Int.natCast_nonneg, Int.toNat_natCast, Nat.mul_one, Nat.one_mul, Nat.zero_add, Nat.add_zero, ne_eq, not_true_eq_false, not_false_eq_true, Nat.zero_le, Nat.zero_lt_succ, Nat.zero_lt_one, Nat.le_refl, Int.toNat_zero, Nat.zero_mul, Nat.mul_zero, and_self, beq_self_eq_true, Nat.succ_ne_self,
  wrap64, wrap32, wrapU64, wrapU8, wrapU32, ti32, ti34, ti3, SM.d]
      refine gN_callF (f23_within hho.1 hho.2 ?_)
      simp -implicitDefEqProofs (disch := omega) only [gO_nil, gO_cons, gN_cond, gN_val, gN_bad, outV_some, outV_none, outV_guard, outA_guard, outP_guard, outA_some, outA_none, outP_some, outP_none, guardO_true, gN_store, putd_lk, putd_lk0, lk_cons, lk_nil, ev_tmp, ev, gdO_tt, gdO_ff, gdO_tf, gdO_ft, gdO_u,
  itemsOf, itemsAt, operO, stepO, convO, callO, callB, storeO, pureA, loadA, allocA, serA, selA, binA, binInt, unA, convA, partA, TD.isAgg, TD.isBool, TD.isPtr, TD.isFunc, fieldOf, indexA, indexAddrA_sl, indexAddrA_ptr, lenA_sl, lenA_snil, lenA_str, buildA, placesA, fillA, repl, eqA, eqV, eqV.eqFs,
  ofConst, ofLeaf, ofLeafs, AV.cells, AV.leaf, List.all_cons, List.all_nil, Bool.true_and, Bool.and_true, Bool.false_and, Bool.and_false, Bool.true_or, Bool.false_or, Bool.or_false, Bool.or_true, Bool.not_true, Bool.not_false, Bool.not_not,
  Option.bind_some, Option.bind_none, Option.map_some, Option.map_none, Option.getD_some, Option.getD_none, Option.bind_eq_bind, List.getElem?_cons_zero, List.getElem?_cons_succ, List.getElem?_nil, List.getElem?_toArray, List.map_cons, List.map_nil, List.append_nil, List.nil_append, List.cons_append, List.singleton_append,
  List.take_zero, List.drop_zero, List.take_succ_cons, List.drop_succ_cons, List.take_nil, List.drop_nil, List.length_cons, List.length_nil, List.length_append, List.tail_cons, List.headD_cons, List.headD_nil, List.tail_nil,
  Nat.reduceEqDiff, Nat.reduceAdd, Nat.reduceMul, Nat.reduceLeDiff, ↓reduceIte, if_true, if_false, reduceCtorEq, true_and, and_true, false_and, and_false, decide_true, decide_false, Int.natCast_nonneg, Int.toNat_natCast, Nat.mul_one, Nat.one_mul, Nat.zero_add, Nat.add_zero, ne_eq, not_true_eq_false, not_false_eq_true, Nat.zero_le, Nat.zero_lt_succ, Nat.zero_lt_one, Nat.le_refl, Int.toNat_zero, Nat.zero_mul, Nat.mul_zero, and_self, beq_self_eq_true, Nat.succ_ne_self,
  wrap64, wrap32, wrapU64, wrapU8, wrapU32, ti34, ti21, SM.o]
      refine gN_store_of rfl rfl fun m5 hm5 hk5 => ?_
      simp only [List.take_zero, List.take_succ_cons, List.drop_zero, List.drop_succ_cons, List.nil_append, List.cons_append, List.length_cons, List.length_nil, Nat.zero_add, Nat.reduceAdd, List.append_nil, List.drop_nil] at hm5
      simp -implicitDefEqProofs (disch := omega) only [gO_nil, gO_cons, gN_cond, gN_val, gN_bad, outV_some, outV_none, outV_guard, outA_guard, outP_guard, outA_some, outA_none, outP_some, outP_none, guardO_true, gN_store, putd_lk, putd_lk0, lk_cons, lk_nil, ev_tmp, ev, gdO_tt, gdO_ff, gdO_tf, gdO_ft, gdO_u,
  itemsOf, itemsAt, operO, stepO, convO, callO, callB, storeO, pureA, loadA, allocA, serA, selA, binA, binInt, unA, convA, partA, TD.isAgg, TD.isBool, TD.isPtr, TD.isFunc, fieldOf, indexA, indexAddrA_sl, indexAddrA_ptr, lenA_sl, lenA_snil, lenA_str, buildA, placesA, fillA, repl, eqA, eqV, eqV.eqFs,
  ofConst, ofLeaf, ofLeafs, AV.cells, AV.leaf, List.all_cons, List.all_nil, Bool.true_and, Bool.and_true, Bool.false_and, Bool.and_false, Bool.true_or, Bool.false_or, Bool.or_false, Bool.or_true, Bool.not_true, Bool.not_false, Bool.not_not,
  Option.bind_some, Option.bind_none, Option.map_some, Option.map_none, Option.getD_some, Option.getD_none, Option.bind_eq_bind, List.getElem?_cons_zero, List.getElem?_cons_succ, List.getElem?_nil, List.getElem?_toArray, List.map_cons, List.map_nil, List.append_nil, List.nil_append, List.cons_append, List.singleton_append,
  List.take_zero, List.drop_zero, List.take_succ_cons, List.drop_succ_cons, List.take_nil, List.drop_nil, List.length_cons, List.length_nil, List.length_append, List.tail_cons, List.headD_cons, List.headD_nil, List.tail_nil,
  Nat.reduceEqDiff, Nat.reduceAdd, Nat.reduceMul, Nat.reduceLeDiff, ↓reduceIte, if_true, if_false, reduceCtorEq, true_and, and_true, false_and, and_false, decide_true, decide_false, Int.natCast_nonneg, Int.toNat_natCast, Nat.mul_one, Nat.one_mul, Nat.zero_add, Nat.add_zero, ne_eq, not_true_eq_false, not_false_eq_true, Nat.zero_le, Nat.zero_lt_succ, Nat.zero_lt_one, Nat.le_refl, Int.toNat_zero, Nat.zero_mul, Nat.mul_zero, and_self, beq_self_eq_true, Nat.succ_ne_self,
  wrap64, wrap32, wrapU64, wrapU8, wrapU32]
      refine hq _ _ ?_
      simp only [pickL, lk_cons, Nat.reduceEqDiff, ↓reduceIte, reduceCtorEq, if_true, if_false]
      clear hq q
      exact wpL_nil (tail2 m5 _ (by simp) (SM.store hm5 hk5))
    · subst hd
      repeat' (first | refine wpL_seq ?_ | refine wpL_skip ?_ | refine wpL_label ?_)
      refine wpL_region [3, 4, 6, 7, 8, 27] fun q hq => ?_
      simp -implicitDefEqProofs (disch := omega) only [gO_nil, gO_cons, gN_cond, gN_val, gN_bad, outV_some, outV_none, outV_guard, outA_guard, outP_guard, outA_some, outA_none, outP_some, outP_none, guardO_true, gN_store, putd_lk, putd_lk0, lk_cons, lk_nil, ev_tmp, ev, gdO_tt, gdO_ff, gdO_tf, gdO_ft, gdO_u,
  itemsOf, itemsAt, operO, stepO, convO, callO, callB, storeO, pureA, loadA, allocA, serA, selA, binA, binInt, unA, convA, partA, TD.isAgg, TD.isBool, TD.isPtr, TD.isFunc, fieldOf, indexA, indexAddrA_sl, indexAddrA_ptr, lenA_sl, lenA_snil, lenA_str, buildA, placesA, fillA, repl, eqA, eqV, eqV.eqFs,
  ofConst, ofLeaf, ofLeafs, AV.cells, AV.leaf, List.all_cons, List.all_nil, Bool.true_and, Bool.and_true, Bool.false_and, Bool.and_false, Bool.true_or, Bool.false_or, Bool.or_false, Bool.or_true, Bool.not_true, Bool.not_false, Bool.not_not,
  Option.bind_some, Option.bind_none, Option.map_some, Option.map_none, Option.getD_some, Option.getD_none, Option.bind_eq_bind, List.getElem?_cons_zero, List.getElem?_cons_succ, List.getElem?_nil, List.getElem?_toArray, List.map_cons, List.map_nil, List.append_nil, List.nil_append, List.cons_append, List.singleton_append,
  List.take_zero, List.drop_zero, List.take_succ_cons, List.drop_succ_cons, List.take_nil, List.drop_nil, List.length_cons, List.length_nil, List.length_append, List.tail_cons, List.headD_cons, List.headD_nil, List.tail_nil,
  Nat.reduceEqDiff, Nat.reduceAdd, Nat.reduceMul, Nat.reduceLeDiff, ↓reduceIte, if_true, if_false, reduceCtorEq, true_and, and_true, false_and, and_false, decide_true, decide_false, Int.natCast_nonneg, Int.toNat_natCast, Nat.mul_one, Nat.one_mul, Nat.zero_add, Nat.add_zero, ne_eq, not_true_eq_false, not_false_eq_true, Nat.zero_le, Nat.zero_lt_succ, Nat.zero_lt_one, Nat.le_refl, Int.toNat_zero, Nat.zero_mul, Nat.mul_zero, and_self, beq_self_eq_true, Nat.succ_ne_self,
  wrap64, wrap32, wrapU64, wrapU8, wrapU32, ti34, ti21, SM.s, hheld]
      refine hq _ _ ?_
      simp only [pickL, lk_cons, Nat.reduceEqDiff, ↓reduceIte, reduceCtorEq, if_true, if_false]
      clear hq q
      repeat' (first | refine wpL_seq ?_ | refine wpL_skip ?_ | refine wpL_label ?_)
      refine wpL_cond rfl (fun he => ?_) (fun he => ?_)
      · subst he
        repeat' (first | refine wpL_seq ?_ | refine wpL_skip ?_ | refine wpL_label ?_)
        refine wpL_region [3, 4, 6, 7, 8] fun q hq => ?_
        simp -implicitDefEqProofs (disch := omega) only [gO_nil, gO_cons, gN_cond, gN_val, gN_bad, outV_some, outV_none, outV_guard, outA_guard, outP_guard, outA_some, outA_none, outP_some, outP_none, guardO_true, gN_store, putd_lk, putd_lk0, lk_cons, lk_nil, ev_tmp, ev, gdO_tt, gdO_ff, gdO_tf, gdO_ft, gdO_u,
  itemsOf, itemsAt, operO, stepO, convO, callO, callB, storeO, pureA, loadA, allocA, serA, selA, binA, binInt, unA, convA, partA, TD.isAgg, TD.isBool, TD.isPtr, TD.isFunc, fieldOf, indexA, indexAddrA_sl, indexAddrA_ptr, lenA_sl, lenA_snil, lenA_str, buildA, placesA, fillA, repl, eqA, eqV, eqV.eqFs,
  ofConst, ofLeaf, ofLeafs, AV.cells, AV.leaf, List.all_cons, List.all_nil, Bool.true_and, Bool.and_true, Bool.false_and, Bool.and_false, Bool.true_or, Bool.false_or, Bool.or_false, Bool.or_true, Bool.not_true, Bool.not_false, Bool.not_not,
  Option.bind_some, Option.bind_none, Option.map_some, Option.map_none, Option.getD_some, Option.getD_none, Option.bind_eq_bind, List.getElem?_cons_zero, List.getElem?_cons_succ, List.getElem?_nil, List.getElem?_toArray, List.map_cons, List.map_nil, List.append_nil, List.nil_append, List.cons_append, List.singleton_append,
  List.take_zero, List.drop_zero, List.take_succ_cons, List.drop_succ_cons, List.take_nil, List.drop_nil, List.length_cons, List.length_nil, List.length_append, List.tail_cons, List.headD_cons, List.headD_nil, List.tail_nil,
  Nat.reduceEqDiff, Nat.reduceAdd, Nat.reduceMul, Nat.reduceLeDiff, ↓reduceIte, if_true, if_false, reduceCtorEq, true_and, and_true, false_and, and_false, decide_true, decide_false, Int.natCast_nonneg, Int.toNat_natCast, Nat.mul_one, Nat.one_mul, Nat.zero_add, Nat.add_zero, ne_eq, not_true_eq_false, not_false_eq_true, Nat.zero_le, Nat.zero_lt_succ, Nat.zero_lt_one, Nat.le_refl, Int.toNat_zero, Nat.zero_mul, Nat.mul_zero, and_self, beq_self_eq_true, Nat.succ_ne_self,
  wrap64, wrap32, wrapU64, wrapU8, wrapU32, ti32, ti34, ti21, SM.s, SM.o]
        refine gN_store_of rfl rfl fun m5 hm5 hk5 => ?_
        simp only [List.take_zero, List.take_succ_cons, List.drop_zero, List.drop_succ_cons, List.nil_append, List.cons_append, List.length_cons, List.length_nil, Nat.zero_add, Nat.reduceAdd, List.append_nil, List.drop_nil] at hm5
        simp -implicitDefEqProofs (disch := omega) only [gO_nil, gO_cons, gN_cond, gN_val, gN_bad, outV_some, outV_none, outV_guard, outA_guard, outP_guard, outA_some, outA_none, outP_some, outP_none, guardO_true, gN_store, putd_lk, putd_lk0, lk_cons, lk_nil, ev_tmp, ev, gdO_tt, gdO_ff, gdO_tf, gdO_ft, gdO_u,
  itemsOf, itemsAt, operO, stepO, convO, callO, callB, storeO, pureA, loadA, allocA, serA, selA, binA, binInt, unA, convA, partA, TD.isAgg, TD.isBool, TD.isPtr, TD.isFunc, fieldOf, indexA, indexAddrA_sl, indexAddrA_ptr, lenA_sl, lenA_snil, lenA_str, buildA, placesA, fillA, repl, eqA, eqV, eqV.eqFs,
  ofConst, ofLeaf, ofLeafs, AV.cells, AV.leaf, List.all_cons, List.all_nil, Bool.true_and, Bool.and_true, Bool.false_and, Bool.and_false, Bool.true_or, Bool.false_or, Bool.or_false, Bool.or_true, Bool.not_true, Bool.not_false, Bool.not_not,
  Option.bind_some, Option.bind_none, Option.map_some, Option.map_none, Option.getD_some, Option.getD_none, Option.bind_eq_bind, List.getElem?_cons_zero, List.getElem?_cons_succ, List.getElem?_nil, List.getElem?_toArray, List.map_cons, List.map_nil, List.append_nil, List.nil_append, List.cons_append, List.singleton_append,
  List.take_zero, List.drop_zero, List.take_succ_cons, List.drop_succ_cons, List.take_nil, List.drop_nil, List.length_cons, List.length_nil, List.length_append, List.tail_cons, List.headD_cons, List.headD_nil, List.tail_nil,
  Nat.reduceEqDiff, Nat.reduceAdd, Nat.reduceMul, Nat.reduceLeDiff, ↓reduceIte, if_true, if_false, reduceCtorEq, true_and, and_true, false_and, and_false, decide_true, decide_false, Int.natCast_nonneg, Int.toNat_natCast, Nat.mul_one, Nat.one_mul, Nat.zero_add, Nat.add_zero, ne_eq, not_true_eq_false, not_false_eq_true, Nat.zero_le, Nat.zero_lt_succ, Nat.zero_lt_one, Nat.le_refl, Int.toNat_zero, Nat.zero_mul, Nat.mul_zero, and_self, beq_self_eq_true, Nat.succ_ne_self,
  wrap64, wrap32, wrapU64, wrapU8, wrapU32]
        refine hq _ _ ?_
        simp only [pickL, lk_cons, Nat.reduceEqDiff, ↓reduceIte, reduceCtorEq, if_true, if_false]
        clear hq q
        have hp : l2 > 0 := by simpa using hheld
        rw [wrap32 (by omega) (by omega)] at hm5
        exact wpL_nil (tail2 m5 _ (by simp) (SM.store hm5 hk5))
      · subst he
        refine wpL_skipP [3, 4, 6, 7, 8] ?_
        simp only [pickL, lk_cons, Nat.reduceEqDiff, ↓reduceIte, reduceCtorEq, if_true, if_false]
        exact wpL_nil (tail2 m' 0 (by simp) SM)
  refine ⟨fun hc => ?_, fun hc => ?_⟩
  · repeat' (first | refine wpL_seq ?_ | refine wpL_skip ?_ | refine wpL_label ?_)
    refine wpL_region [3, 4, 6, 7] fun q hq => ?_
    simp -implicitDefEqProofs (disch := omega) only [gO_nil, gO_cons, gN_cond, gN_val, gN_bad, outV_some, outV_none, outV_guard, outA_guard, outP_guard, outA_some, outA_none, outP_some, outP_none, guardO_true, gN_store, putd_lk, putd_lk0, lk_cons, lk_nil, ev_tmp, ev, gdO_tt, gdO_ff, gdO_tf, gdO_ft, gdO_u,
  itemsOf, itemsAt, operO, stepO, convO, callO, callB, storeO, pureA, loadA, allocA, serA, selA, binA, binInt, unA, convA, partA, TD.isAgg, TD.isBool, TD.isPtr, TD.isFunc, fieldOf, indexA, indexAddrA_sl, indexAddrA_ptr, lenA_sl, lenA_snil, lenA_str, buildA, placesA, fillA, repl, eqA, eqV, eqV.eqFs,
  ofConst, ofLeaf, ofLeafs, AV.cells, AV.leaf, List.all_cons, List.all_nil, Bool.true_and, Bool.and_true, Bool.false_and, Bool.and_false, Bool.true_or, Bool.false_or, Bool.or_false, Bool.or_true, Bool.not_true, Bool.not_false, Bool.not_not,
  Option.bind_some, Option.bind_none, Option.map_some, Option.map_none, Option.getD_some, Option.getD_none, Option.bind_eq_bind, List.getElem?_cons_zero, List.getElem?_cons_succ, List.getElem?_nil, List.getElem?_toArray, List.map_cons, List.map_nil, List.append_nil, List.nil_append, List.cons_append, List.singleton_append,
  List.take_zero, List.drop_zero, List.take_succ_cons, List.drop_succ_cons, List.take_nil, List.drop_nil, List.length_cons, List.length_nil, List.length_append, List.tail_cons, List.headD_cons, List.headD_nil, List.tail_nil,
  Nat.reduceEqDiff, Nat.reduceAdd, Nat.reduceMul, Nat.reduceLeDiff, ↓reduceIte, if_true, if_false, reduceCtorEq, true_and, and_true, false_and, and_false, decide_true, decide_false, Int.natCast_nonneg, Int.toNat_natCast, Nat.mul_one, Nat.one_mul, Nat.zero_add, Nat.add_zero, ne_eq, not_true_eq_false, not_false_eq_true, Nat.zero_le, Nat.zero_lt_succ, Nat.zero_lt_one, Nat.le_refl, Int.toNat_zero, Nat.zero_mul, Nat.mul_zero, and_self, beq_self_eq_true, Nat.succ_ne_self,
  wrap64, wrap32, wrapU64, wrapU8, wrapU32, ti34, ti21, SM.s]
    refine gN_callF (f16_up h1.1 h1.2 ?_)
    simp -implicitDefEqProofs (disch := omega) only [gO_nil, gO_cons, gN_cond, gN_val, gN_bad, outV_some, outV_none, outV_guard, outA_guard, outP_guard, outA_some, outA_none, outP_some, outP_none, guardO_true, gN_store, putd_lk, putd_lk0, lk_cons, lk_nil, ev_tmp, ev, gdO_tt, gdO_ff, gdO_tf, gdO_ft, gdO_u,
  itemsOf, itemsAt, operO, stepO, convO, callO, callB, storeO, pureA, loadA, allocA, serA, selA, binA, binInt, unA, convA, partA, TD.isAgg, TD.isBool, TD.isPtr, TD.isFunc, fieldOf, indexA, indexAddrA_sl, indexAddrA_ptr, lenA_sl, lenA_snil, lenA_str, buildA, placesA, fillA, repl, eqA, eqV, eqV.eqFs,
  ofConst, ofLeaf, ofLeafs, AV.cells, AV.leaf, List.all_cons, List.all_nil, Bool.true_and, Bool.and_true, Bool.false_and, Bool.and_false, Bool.true_or, Bool.false_or, Bool.or_false, Bool.or_true, Bool.not_true, Bool.not_false, Bool.not_not,
  Option.bind_some, Option.bind_none, Option.map_some, Option.map_none, Option.getD_some, Option.getD_none, Option.bind_eq_bind, List.getElem?_cons_zero, List.getElem?_cons_succ, List.getElem?_nil, List.getElem?_toArray, List.map_cons, List.map_nil, List.append_nil, List.nil_append, List.cons_append, List.singleton_append,
  List.take_zero, List.drop_zero, List.take_succ_cons, List.drop_succ_cons, List.take_nil, List.drop_nil, List.length_cons, List.length_nil, List.length_append, List.tail_cons, List.headD_cons, List.headD_nil, List.tail_nil,
  Nat.reduceEqDiff, Nat.reduceAdd, Nat.reduceMul, Nat.reduceLeDiff, ↓reduceIte, if_true, if_false, reduceCtorEq, true_and, and_true, false_and, and_false, decide_true, decide_false, Int.natCast_nonneg, Int.toNat_natCast, Nat.mul_one, Nat.one_mul, Nat.zero_add, Nat.add_zero, ne_eq, not_true_eq_false, not_false_eq_true, Nat.zero_le, Nat.zero_lt_succ, Nat.zero_lt_one, Nat.le_refl, Int.toNat_zero, Nat.zero_mul, Nat.mul_zero, and_self, beq_self_eq_true, Nat.succ_ne_self,
  wrap64, wrap32, wrapU64, wrapU8, wrapU32, ti34, ti21, SM.o]
    refine gN_store_of rfl rfl fun m5 hm5 hk5 => ?_
    simp only [List.take_zero, List.take_succ_cons, List.drop_zero, List.drop_succ_cons, List.nil_append, List.cons_append, List.length_cons, List.length_nil, Nat.zero_add, Nat.reduceAdd, List.append_nil, List.drop_nil] at hm5
    simp -implicitDefEqProofs (disch := omega) only [gO_nil, gO_cons, gN_cond, gN_val, gN_bad, outV_some, outV_none, outV_guard, outA_guard, outP_guard, outA_some, outA_none, outP_some, outP_none, guardO_true, gN_store, putd_lk, putd_lk0, lk_cons, lk_nil, ev_tmp, ev, gdO_tt, gdO_ff, gdO_tf, gdO_ft, gdO_u,
  itemsOf, itemsAt, operO, stepO, convO, callO, callB, storeO, pureA, loadA, allocA, serA, selA, binA, binInt, unA, convA, partA, TD.isAgg, TD.isBool, TD.isPtr, TD.isFunc, fieldOf, indexA, indexAddrA_sl, indexAddrA_ptr, lenA_sl, lenA_snil, lenA_str, buildA, placesA, fillA, repl, eqA, eqV, eqV.eqFs,
  ofConst, ofLeaf, ofLeafs, AV.cells, AV.leaf, List.all_cons, List.all_nil, Bool.true_and, Bool.and_true, Bool.false_and, Bool.and_false, Bool.true_or, Bool.false_or, Bool.or_false, Bool.or_true, Bool.not_true, Bool.not_false, Bool.not_not,
  Option.bind_some, Option.bind_none, Option.map_some, Option.map_none, Option.getD_some, Option.getD_none, Option.bind_eq_bind, List.getElem?_cons_zero, List.getElem?_cons_succ, List.getElem?_nil, List.getElem?_toArray, List.map_cons, List.map_nil, List.append_nil, List.nil_append, List.cons_append, List.singleton_append,
  List.take_zero, List.drop_zero, List.take_succ_cons, List.drop_succ_cons, List.take_nil, List.drop_nil, List.length_cons, List.length_nil, List.length_append, List.tail_cons, List.headD_cons, List.headD_nil, List.tail_nil,
  Nat.reduceEqDiff, Nat.reduceAdd, Nat.reduceMul, Nat.reduceLeDiff, ↓reduceIte, if_true, if_false, reduceCtorEq, true_and, and_true, false_and, and_false, decide_true, decide_false, Int.natCast_nonneg, Int.toNat_natCast, Nat.mul_one, Nat.one_mul, Nat.zero_add, Nat.add_zero, ne_eq, not_true_eq_false, not_false_eq_true, Nat.zero_le, Nat.zero_lt_succ, Nat.zero_lt_one, Nat.le_refl, Int.toNat_zero, Nat.zero_mul, Nat.mul_zero, and_self, beq_self_eq_true, Nat.succ_ne_self,
  wrap64, wrap32, wrapU64, wrapU8, wrapU32]
    refine hq _ _ ?_
    simp only [pickL, lk_cons, Nat.reduceEqDiff, ↓reduceIte, reduceCtorEq, if_true, if_false]
    clear hq q
    exact wpL_nil (tail1 m5 (upV l1) (by simp [hc]) (SM.store hm5 hk5))
  · refine wpL_skipP [3, 4, 6, 7] ?_
    simp only [pickL, lk_cons, Nat.reduceEqDiff, ↓reduceIte, reduceCtorEq, if_true, if_false]
    exact wpL_nil (tail1 m4 0 (by simp [hc]) SM)
end Go.Proofs.Ytchhknkflhikmaa.Am
