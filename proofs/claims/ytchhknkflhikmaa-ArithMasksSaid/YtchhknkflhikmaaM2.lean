/- The members of a mask, as Members answers them; lists compared. -/
import Derived.Test.YtchhknkflhikmaaM1
namespace Go.Proofs.Ytchhknkflhikmaa.Am
open Go Go.Proofs
set_option linter.unusedVariables false
set_option linter.unusedSimpArgs false
set_option maxRecDepth 100000

theorem Src.of_ow {m v et cs} (h : Ow m v et cs) (hl : cs.all AV.leaf = true) : Src m v cs := by
  have := Src.of_sl h.sl (fun i hi => by
    have := List.all_eq_true.1 hl cs[i] (List.getElem_mem hi)
    simpa [List.getD, List.getElem?_eq_getElem hi] using this)
  have e : (List.range cs.length).map (fun i => cs.getD i .any) = cs := by
    refine List.ext_getElem? fun i => ?_
    by_cases hi : i < cs.length
    · simp [hi]
    · simp [hi]
  rwa [e] at this

def memL (M : BitVec 64) (k : Nat) : List AV := ((List.range k).filter fun i => M.getLsbD i).map fun (i : Nat) => .int .i64 (i : Int)
theorem memL_len (M : BitVec 64) (k : Nat) : (memL M k).length ≤ k := by
  simp only [memL, List.length_map]
  exact Nat.le_trans (List.length_filter_le _ _) (by simp)
theorem memL_succ (M : BitVec 64) (k : Nat) : memL M (k + 1) = memL M k ++ (if M.getLsbD k = true then [.int .i64 (k : Int)] else []) := by
  simp only [memL, List.range_succ, List.filter_append, List.map_append]
  congr 1
  by_cases h : M.getLsbD k = true <;> simp [h]

theorem f8_same {m a b n g h k K} (ha : Sl m a n g) (hb : Sl m b k h) (hn : n ≤ 9223372036854775807) (hk : k ≤ 9223372036854775807) (xs ys : Nat → Int) (hg : ∀ i, i < n → g i = .int .i64 (xs i)) (hh : ∀ i, i < k → h i = .int .i64 (ys i))
   (hK : K (.bool (decide (n = k ∧ ∀ i, i < n → xs i = ys i))) m) : wpF Try.prog 8 [a, b] m K := by
  have hla := ha.len ti23 rfl
  have hlb := hb.len ti23 rfl
  refine wpF_intro (fn := Try.f8) rfl rfl (by decide) (by kernel_rfl) fun K' hK' => ?_
  repeat' (first | refine wpL_seq ?_ | refine wpL_skip ?_ | refine wpL_label ?_)
  refine wpL_region [0, 1] fun q hq => ?_
  simp -implicitDefEqProofs (disch := omega) only [gO_nil, gO_cons, gN_cond, gN_val, gN_bad, outV_some, outV_none, outV_guard, outA_guard, outP_guard, outA, outP, gN_store, putd_lk, putd_lk0, lk_cons, lk_nil, ev_tmp, ev, gdO_tt, gdO_ff, gdO_tf, gdO_ft, gdO_u,
  itemsOf, itemsAt, operO, stepO, convO, callO, callB, storeO, pureA, loadA, allocA, serA, selA, binA, binInt, unA, convA, partA, TD.isAgg, TD.isBool, TD.isPtr, TD.isFunc, fieldOf, indexA, indexAddrA_sl, indexAddrA_ptr, lenA_sl, lenA_snil, lenA_str, buildA, placesA, fillA, repl, eqA, eqV, eqV.eqFs,
  ofConst, ofLeaf, ofLeafs, AV.cells, AV.leaf, List.all_cons, List.all_nil, Bool.true_and, Bool.and_true, Bool.false_and, Bool.and_false, Bool.true_or, Bool.false_or, Bool.or_false, Bool.or_true, Bool.not_true, Bool.not_false, Bool.not_not,
  Option.bind_some, Option.bind_none, Option.map_some, Option.map_none, Option.getD_some, Option.getD_none, Option.bind_eq_bind, List.getElem?_cons_zero, List.getElem?_cons_succ, List.getElem?_nil, List.getElem?_toArray, List.map_cons, List.map_nil, List.append_nil, List.nil_append, List.cons_append, List.singleton_append,
  List.take_zero, List.drop_zero, List.take_succ_cons, List.drop_succ_cons, List.take_nil, List.drop_nil, List.length_cons, List.length_nil, List.length_append, List.tail_cons, List.headD_cons, List.headD_nil, List.tail_nil,
  Nat.reduceEqDiff, Nat.reduceAdd, Nat.reduceMul, Nat.reduceLeDiff, ↓reduceIte, if_true, if_false, reduceCtorEq, true_and, and_true, false_and, and_false, decide_true, decide_false, Int.natCast_nonneg, Int.toNat_natCast, Nat.mul_one, Nat.one_mul, Nat.zero_add, Nat.add_zero, ne_eq, not_true_eq_false, not_false_eq_true, Nat.zero_le, Nat.le_refl, Int.toNat_zero, Nat.zero_mul, Nat.mul_zero, and_self, Nat.succ_ne_self,
  wrap64, wrap32, wrapU64, wrapU8, wrapU32, argL]
  refine hq _ _ ?_
  simp only [pickL, lk_cons, Nat.reduceEqDiff, ↓reduceIte, reduceCtorEq, if_true, if_false]
  clear hq q
  repeat' (first | refine wpL_seq ?_ | refine wpL_skip ?_ | refine wpL_label ?_)
  refine wpL_region [0, 1, 10] fun q hq => ?_
  simp -implicitDefEqProofs (disch := omega) only [gO_nil, gO_cons, gN_cond, gN_val, gN_bad, outV_some, outV_none, outV_guard, outA_guard, outP_guard, outA, outP, gN_store, putd_lk, putd_lk0, lk_cons, lk_nil, ev_tmp, ev, gdO_tt, gdO_ff, gdO_tf, gdO_ft, gdO_u,
  itemsOf, itemsAt, operO, stepO, convO, callO, callB, storeO, pureA, loadA, allocA, serA, selA, binA, binInt, unA, convA, partA, TD.isAgg, TD.isBool, TD.isPtr, TD.isFunc, fieldOf, indexA, indexAddrA_sl, indexAddrA_ptr, lenA_sl, lenA_snil, lenA_str, buildA, placesA, fillA, repl, eqA, eqV, eqV.eqFs,
  ofConst, ofLeaf, ofLeafs, AV.cells, AV.leaf, List.all_cons, List.all_nil, Bool.true_and, Bool.and_true, Bool.false_and, Bool.and_false, Bool.true_or, Bool.false_or, Bool.or_false, Bool.or_true, Bool.not_true, Bool.not_false, Bool.not_not,
  Option.bind_some, Option.bind_none, Option.map_some, Option.map_none, Option.getD_some, Option.getD_none, Option.bind_eq_bind, List.getElem?_cons_zero, List.getElem?_cons_succ, List.getElem?_nil, List.getElem?_toArray, List.map_cons, List.map_nil, List.append_nil, List.nil_append, List.cons_append, List.singleton_append,
  List.take_zero, List.drop_zero, List.take_succ_cons, List.drop_succ_cons, List.take_nil, List.drop_nil, List.length_cons, List.length_nil, List.length_append, List.tail_cons, List.headD_cons, List.headD_nil, List.tail_nil,
  Nat.reduceEqDiff, Nat.reduceAdd, Nat.reduceMul, Nat.reduceLeDiff, ↓reduceIte, if_true, if_false, reduceCtorEq, true_and, and_true, false_and, and_false, decide_true, decide_false, Int.natCast_nonneg, Int.toNat_natCast, Nat.mul_one, Nat.one_mul, Nat.zero_add, Nat.add_zero, ne_eq, not_true_eq_false, not_false_eq_true, Nat.zero_le, Nat.le_refl, Int.toNat_zero, Nat.zero_mul, Nat.mul_zero, and_self, Nat.succ_ne_self,
  wrap64, wrap32, wrapU64, wrapU8, wrapU32, hla, hlb]
  refine hq _ _ ?_
  simp only [pickL, lk_cons, Nat.reduceEqDiff, ↓reduceIte, reduceCtorEq, if_true, if_false]
  clear hq q
  repeat' (first | refine wpL_seq ?_ | refine wpL_skip ?_ | refine wpL_label ?_)
  refine wpL_cond rfl (fun h => ?_) (fun h => ?_)
  · repeat' (first | refine wpL_seq ?_ | refine wpL_skip ?_ | refine wpL_label ?_)
    refine wpL_region [4] fun q hq => ?_
    simp -implicitDefEqProofs (disch := omega) only [gO_nil, gO_cons, gN_cond, gN_val, gN_bad, outV_some, outV_none, outV_guard, outA_guard, outP_guard, outA, outP, gN_store, putd_lk, putd_lk0, lk_cons, lk_nil, ev_tmp, ev, gdO_tt, gdO_ff, gdO_tf, gdO_ft, gdO_u,
  itemsOf, itemsAt, operO, stepO, convO, callO, callB, storeO, pureA, loadA, allocA, serA, selA, binA, binInt, unA, convA, partA, TD.isAgg, TD.isBool, TD.isPtr, TD.isFunc, fieldOf, indexA, indexAddrA_sl, indexAddrA_ptr, lenA_sl, lenA_snil, lenA_str, buildA, placesA, fillA, repl, eqA, eqV, eqV.eqFs,
  ofConst, ofLeaf, ofLeafs, AV.cells, AV.leaf, List.all_cons, List.all_nil, Bool.true_and, Bool.and_true, Bool.false_and, Bool.and_false, Bool.true_or, Bool.false_or, Bool.or_false, Bool.or_true, Bool.not_true, Bool.not_false, Bool.not_not,
  Option.bind_some, Option.bind_none, Option.map_some, Option.map_none, Option.getD_some, Option.getD_none, Option.bind_eq_bind, List.getElem?_cons_zero, List.getElem?_cons_succ, List.getElem?_nil, List.getElem?_toArray, List.map_cons, List.map_nil, List.append_nil, List.nil_append, List.cons_append, List.singleton_append,
  List.take_zero, List.drop_zero, List.take_succ_cons, List.drop_succ_cons, List.take_nil, List.drop_nil, List.length_cons, List.length_nil, List.length_append, List.tail_cons, List.headD_cons, List.headD_nil, List.tail_nil,
  Nat.reduceEqDiff, Nat.reduceAdd, Nat.reduceMul, Nat.reduceLeDiff, ↓reduceIte, if_true, if_false, reduceCtorEq, true_and, and_true, false_and, and_false, decide_true, decide_false, Int.natCast_nonneg, Int.toNat_natCast, Nat.mul_one, Nat.one_mul, Nat.zero_add, Nat.add_zero, ne_eq, not_true_eq_false, not_false_eq_true, Nat.zero_le, Nat.le_refl, Int.toNat_zero, Nat.zero_mul, Nat.mul_zero, and_self, Nat.succ_ne_self,
  wrap64, wrap32, wrapU64, wrapU8, wrapU32]
    refine hq _ _ ?_
    simp only [pickL, lk_cons, Nat.reduceEqDiff, ↓reduceIte, reduceCtorEq, if_true, if_false]
    clear hq q
    refine wpL_ret (hK' _ _ _ _ (.inr rfl) rfl ?_)
    have : ¬ (n = k) := by intro e; simp [e] at h
    simpa [this, lk] using hK
  have hnk : n = k := by simp at h; omega
  subst hnk
  repeat' (first | refine wpL_seq ?_ | refine wpL_skip ?_ | refine wpL_label ?_)
  refine wpL_region [0, 1, 5] fun q hq => ?_
  simp -implicitDefEqProofs (disch := omega) only [gO_nil, gO_cons, gN_cond, gN_val, gN_bad, outV_some, outV_none, outV_guard, outA_guard, outP_guard, outA, outP, gN_store, putd_lk, putd_lk0, lk_cons, lk_nil, ev_tmp, ev, gdO_tt, gdO_ff, gdO_tf, gdO_ft, gdO_u,
  itemsOf, itemsAt, operO, stepO, convO, callO, callB, storeO, pureA, loadA, allocA, serA, selA, binA, binInt, unA, convA, partA, TD.isAgg, TD.isBool, TD.isPtr, TD.isFunc, fieldOf, indexA, indexAddrA_sl, indexAddrA_ptr, lenA_sl, lenA_snil, lenA_str, buildA, placesA, fillA, repl, eqA, eqV, eqV.eqFs,
  ofConst, ofLeaf, ofLeafs, AV.cells, AV.leaf, List.all_cons, List.all_nil, Bool.true_and, Bool.and_true, Bool.false_and, Bool.and_false, Bool.true_or, Bool.false_or, Bool.or_false, Bool.or_true, Bool.not_true, Bool.not_false, Bool.not_not,
  Option.bind_some, Option.bind_none, Option.map_some, Option.map_none, Option.getD_some, Option.getD_none, Option.bind_eq_bind, List.getElem?_cons_zero, List.getElem?_cons_succ, List.getElem?_nil, List.getElem?_toArray, List.map_cons, List.map_nil, List.append_nil, List.nil_append, List.cons_append, List.singleton_append,
  List.take_zero, List.drop_zero, List.take_succ_cons, List.drop_succ_cons, List.take_nil, List.drop_nil, List.length_cons, List.length_nil, List.length_append, List.tail_cons, List.headD_cons, List.headD_nil, List.tail_nil,
  Nat.reduceEqDiff, Nat.reduceAdd, Nat.reduceMul, Nat.reduceLeDiff, ↓reduceIte, if_true, if_false, reduceCtorEq, true_and, and_true, false_and, and_false, decide_true, decide_false, Int.natCast_nonneg, Int.toNat_natCast, Nat.mul_one, Nat.one_mul, Nat.zero_add, Nat.add_zero, ne_eq, not_true_eq_false, not_false_eq_true, Nat.zero_le, Nat.le_refl, Int.toNat_zero, Nat.zero_mul, Nat.mul_zero, and_self, Nat.succ_ne_self,
  wrap64, wrap32, wrapU64, wrapU8, wrapU32]
  refine hq _ _ ?_
  simp only [pickL, lk_cons, Nat.reduceEqDiff, ↓reduceIte, reduceCtorEq, if_true, if_false]
  clear hq q
  repeat' (first | refine wpL_seq ?_ | refine wpL_skip ?_ | refine wpL_label ?_)
  refine wpL_block fun k1 hn1 hx1 ho1 => ?_
  refine wpL_loop (fun j e m' => ∃ i : Nat, i ≤ n ∧ j = n - i ∧ m' = m ∧ e = lk [(0, a), (1, b), (5, .int .i64 i)] ∧ ∀ i' < i, xs i' = ys i') n ⟨0, by omega, by omega, rfl, rfl, by omega⟩ ?_
  rintro j e m' ⟨i, hi, rfl, rfl, rfl, hpre⟩ k2 hn2 hx2
  repeat' (first | refine wpL_seq ?_ | refine wpL_skip ?_ | refine wpL_label ?_)
  refine wpL_region [0, 1, 5, 14] fun q hq => ?_
  simp -implicitDefEqProofs (disch := omega) only [gO_nil, gO_cons, gN_cond, gN_val, gN_bad, outV_some, outV_none, outV_guard, outA_guard, outP_guard, outA, outP, gN_store, putd_lk, putd_lk0, lk_cons, lk_nil, ev_tmp, ev, gdO_tt, gdO_ff, gdO_tf, gdO_ft, gdO_u,
  itemsOf, itemsAt, operO, stepO, convO, callO, callB, storeO, pureA, loadA, allocA, serA, selA, binA, binInt, unA, convA, partA, TD.isAgg, TD.isBool, TD.isPtr, TD.isFunc, fieldOf, indexA, indexAddrA_sl, indexAddrA_ptr, lenA_sl, lenA_snil, lenA_str, buildA, placesA, fillA, repl, eqA, eqV, eqV.eqFs,
  ofConst, ofLeaf, ofLeafs, AV.cells, AV.leaf, List.all_cons, List.all_nil, Bool.true_and, Bool.and_true, Bool.false_and, Bool.and_false, Bool.true_or, Bool.false_or, Bool.or_false, Bool.or_true, Bool.not_true, Bool.not_false, Bool.not_not,
  Option.bind_some, Option.bind_none, Option.map_some, Option.map_none, Option.getD_some, Option.getD_none, Option.bind_eq_bind, List.getElem?_cons_zero, List.getElem?_cons_succ, List.getElem?_nil, List.getElem?_toArray, List.map_cons, List.map_nil, List.append_nil, List.nil_append, List.cons_append, List.singleton_append,
  List.take_zero, List.drop_zero, List.take_succ_cons, List.drop_succ_cons, List.take_nil, List.drop_nil, List.length_cons, List.length_nil, List.length_append, List.tail_cons, List.headD_cons, List.headD_nil, List.tail_nil,
  Nat.reduceEqDiff, Nat.reduceAdd, Nat.reduceMul, Nat.reduceLeDiff, ↓reduceIte, if_true, if_false, reduceCtorEq, true_and, and_true, false_and, and_false, decide_true, decide_false, Int.natCast_nonneg, Int.toNat_natCast, Nat.mul_one, Nat.one_mul, Nat.zero_add, Nat.add_zero, ne_eq, not_true_eq_false, not_false_eq_true, Nat.zero_le, Nat.le_refl, Int.toNat_zero, Nat.zero_mul, Nat.mul_zero, and_self, Nat.succ_ne_self,
  wrap64, wrap32, wrapU64, wrapU8, wrapU32, hla]
  refine hq _ _ ?_
  simp only [pickL, lk_cons, Nat.reduceEqDiff, ↓reduceIte, reduceCtorEq, if_true, if_false]
  clear hq q
  repeat' (first | refine wpL_seq ?_ | refine wpL_skip ?_ | refine wpL_label ?_)
  refine wpL_cond rfl (fun hc => ?_) (fun hc => ?_)
  · have hlt : i < n := by simpa using hc
    obtain ⟨b1, o1, kk1, a1, a2, a3, a4⟩ := ha.at (k0 := .i64) ti23 rfl ti3 rfl hlt
    obtain ⟨b2, o2, kk2, c1, c2, c3, c4⟩ := hb.at (k0 := .i64) ti23 rfl ti3 rfl hlt
    repeat' (first | refine wpL_seq ?_ | refine wpL_skip ?_ | refine wpL_label ?_)
    refine wpL_block fun k3 hn3 hx3 ho3 => ?_
    repeat' (first | refine wpL_seq ?_ | refine wpL_skip ?_ | refine wpL_label ?_)
    refine wpL_draw [0, 1, 5, 25] [0, 1, 2, 3, 4, 5, 6, 7, 8] [] (by kernel_rfl) (by kernel_rfl) (by kernel_rfl) fun q hq => ?_
    simp -implicitDefEqProofs (disch := omega) only [gO_nil, gO_cons, gN_cond, gN_val, gN_bad, outV_some, outV_none, outV_guard, outA_guard, outP_guard, outA, outP, gN_store, putd_lk, putd_lk0, lk_cons, lk_nil, ev_tmp, ev, gdO_tt, gdO_ff, gdO_tf, gdO_ft, gdO_u,
  itemsOf, itemsAt, operO, stepO, convO, callO, callB, storeO, pureA, loadA, allocA, serA, selA, binA, binInt, unA, convA, partA, TD.isAgg, TD.isBool, TD.isPtr, TD.isFunc, fieldOf, indexA, indexAddrA_sl, indexAddrA_ptr, lenA_sl, lenA_snil, lenA_str, buildA, placesA, fillA, repl, eqA, eqV, eqV.eqFs,
  ofConst, ofLeaf, ofLeafs, AV.cells, AV.leaf, List.all_cons, List.all_nil, Bool.true_and, Bool.and_true, Bool.false_and, Bool.and_false, Bool.true_or, Bool.false_or, Bool.or_false, Bool.or_true, Bool.not_true, Bool.not_false, Bool.not_not,
  Option.bind_some, Option.bind_none, Option.map_some, Option.map_none, Option.getD_some, Option.getD_none, Option.bind_eq_bind, List.getElem?_cons_zero, List.getElem?_cons_succ, List.getElem?_nil, List.getElem?_toArray, List.map_cons, List.map_nil, List.append_nil, List.nil_append, List.cons_append, List.singleton_append,
  List.take_zero, List.drop_zero, List.take_succ_cons, List.drop_succ_cons, List.take_nil, List.drop_nil, List.length_cons, List.length_nil, List.length_append, List.tail_cons, List.headD_cons, List.headD_nil, List.tail_nil,
  Nat.reduceEqDiff, Nat.reduceAdd, Nat.reduceMul, Nat.reduceLeDiff, ↓reduceIte, if_true, if_false, reduceCtorEq, true_and, and_true, false_and, and_false, decide_true, decide_false, Int.natCast_nonneg, Int.toNat_natCast, Nat.mul_one, Nat.one_mul, Nat.zero_add, Nat.add_zero, ne_eq, not_true_eq_false, not_false_eq_true, Nat.zero_le, Nat.le_refl, Int.toNat_zero, Nat.zero_mul, Nat.mul_zero, and_self, Nat.succ_ne_self,
  wrap64, wrap32, wrapU64, wrapU8, wrapU32, a1, a2, a4, c1, c2, c4, ti3, a3, c3, hg i hlt, hh i hlt]
    refine hq _ _ ?_
    simp only [pickL, lk_cons, Nat.reduceEqDiff, ↓reduceIte, reduceCtorEq, if_true, if_false]
    clear hq q
    repeat' (first | refine wpL_seq ?_ | refine wpL_skip ?_ | refine wpL_label ?_)
    refine wpL_cond rfl (fun hd => ?_) (fun hd => ?_)
    · repeat' (first | refine wpL_seq ?_ | refine wpL_skip ?_ | refine wpL_label ?_)
      refine wpL_region [4] fun q hq => ?_
      simp -implicitDefEqProofs (disch := omega) only [gO_nil, gO_cons, gN_cond, gN_val, gN_bad, outV_some, outV_none, outV_guard, outA_guard, outP_guard, outA, outP, gN_store, putd_lk, putd_lk0, lk_cons, lk_nil, ev_tmp, ev, gdO_tt, gdO_ff, gdO_tf, gdO_ft, gdO_u,
  itemsOf, itemsAt, operO, stepO, convO, callO, callB, storeO, pureA, loadA, allocA, serA, selA, binA, binInt, unA, convA, partA, TD.isAgg, TD.isBool, TD.isPtr, TD.isFunc, fieldOf, indexA, indexAddrA_sl, indexAddrA_ptr, lenA_sl, lenA_snil, lenA_str, buildA, placesA, fillA, repl, eqA, eqV, eqV.eqFs,
  ofConst, ofLeaf, ofLeafs, AV.cells, AV.leaf, List.all_cons, List.all_nil, Bool.true_and, Bool.and_true, Bool.false_and, Bool.and_false, Bool.true_or, Bool.false_or, Bool.or_false, Bool.or_true, Bool.not_true, Bool.not_false, Bool.not_not,
  Option.bind_some, Option.bind_none, Option.map_some, Option.map_none, Option.getD_some, Option.getD_none, Option.bind_eq_bind, List.getElem?_cons_zero, List.getElem?_cons_succ, List.getElem?_nil, List.getElem?_toArray, List.map_cons, List.map_nil, List.append_nil, List.nil_append, List.cons_append, List.singleton_append,
  List.take_zero, List.drop_zero, List.take_succ_cons, List.drop_succ_cons, List.take_nil, List.drop_nil, List.length_cons, List.length_nil, List.length_append, List.tail_cons, List.headD_cons, List.headD_nil, List.tail_nil,
  Nat.reduceEqDiff, Nat.reduceAdd, Nat.reduceMul, Nat.reduceLeDiff, ↓reduceIte, if_true, if_false, reduceCtorEq, true_and, and_true, false_and, and_false, decide_true, decide_false, Int.natCast_nonneg, Int.toNat_natCast, Nat.mul_one, Nat.one_mul, Nat.zero_add, Nat.add_zero, ne_eq, not_true_eq_false, not_false_eq_true, Nat.zero_le, Nat.le_refl, Int.toNat_zero, Nat.zero_mul, Nat.mul_zero, and_self, Nat.succ_ne_self,
  wrap64, wrap32, wrapU64, wrapU8, wrapU32]
      refine hq _ _ ?_
      simp only [pickL, lk_cons, Nat.reduceEqDiff, ↓reduceIte, reduceCtorEq, if_true, if_false]
      clear hq q
      refine wpL_ret (ho3 _ _ _ (by simp) (by simp) (hx2 _ _ _ (by simp) (ho1 _ _ _ (by simp) (by simp) (hK' _ _ _ _ (.inr rfl) rfl ?_))))
      have : ¬ (xs i = ys i) := by simpa using hd
      have h2 : ¬ ∀ i, i < n → xs i = ys i := fun h => this (h i hlt)
      simpa [h2, lk] using hK
    · repeat' (first | refine wpL_seq ?_ | refine wpL_skip ?_ | refine wpL_label ?_)
      refine wpL_nil (hn3 _ _ ?_)
      repeat' (first | refine wpL_seq ?_ | refine wpL_skip ?_ | refine wpL_label ?_)
      refine wpL_region [0, 1, 5] fun q hq => ?_
      simp -implicitDefEqProofs (disch := omega) only [gO_nil, gO_cons, gN_cond, gN_val, gN_bad, outV_some, outV_none, outV_guard, outA_guard, outP_guard, outA, outP, gN_store, putd_lk, putd_lk0, lk_cons, lk_nil, ev_tmp, ev, gdO_tt, gdO_ff, gdO_tf, gdO_ft, gdO_u,
  itemsOf, itemsAt, operO, stepO, convO, callO, callB, storeO, pureA, loadA, allocA, serA, selA, binA, binInt, unA, convA, partA, TD.isAgg, TD.isBool, TD.isPtr, TD.isFunc, fieldOf, indexA, indexAddrA_sl, indexAddrA_ptr, lenA_sl, lenA_snil, lenA_str, buildA, placesA, fillA, repl, eqA, eqV, eqV.eqFs,
  ofConst, ofLeaf, ofLeafs, AV.cells, AV.leaf, List.all_cons, List.all_nil, Bool.true_and, Bool.and_true, Bool.false_and, Bool.and_false, Bool.true_or, Bool.false_or, Bool.or_false, Bool.or_true, Bool.not_true, Bool.not_false, Bool.not_not,
  Option.bind_some, Option.bind_none, Option.map_some, Option.map_none, Option.getD_some, Option.getD_none, Option.bind_eq_bind, List.getElem?_cons_zero, List.getElem?_cons_succ, List.getElem?_nil, List.getElem?_toArray, List.map_cons, List.map_nil, List.append_nil, List.nil_append, List.cons_append, List.singleton_append,
  List.take_zero, List.drop_zero, List.take_succ_cons, List.drop_succ_cons, List.take_nil, List.drop_nil, List.length_cons, List.length_nil, List.length_append, List.tail_cons, List.headD_cons, List.headD_nil, List.tail_nil,
  Nat.reduceEqDiff, Nat.reduceAdd, Nat.reduceMul, Nat.reduceLeDiff, ↓reduceIte, if_true, if_false, reduceCtorEq, true_and, and_true, false_and, and_false, decide_true, decide_false, Int.natCast_nonneg, Int.toNat_natCast, Nat.mul_one, Nat.one_mul, Nat.zero_add, Nat.add_zero, ne_eq, not_true_eq_false, not_false_eq_true, Nat.zero_le, Nat.le_refl, Int.toNat_zero, Nat.zero_mul, Nat.mul_zero, and_self, Nat.succ_ne_self,
  wrap64, wrap32, wrapU64, wrapU8, wrapU32]
      refine hq _ _ ?_
      simp only [pickL, lk_cons, Nat.reduceEqDiff, ↓reduceIte, reduceCtorEq, if_true, if_false]
      clear hq q
      refine wpL_nil (hn2 (n - (i + 1)) _ _ (by omega) ⟨i + 1, by omega, rfl, rfl, rfl, ?_⟩)
      intro i' hi'
      by_cases e : i' = i
      · subst e; simpa using hd
      · exact hpre i' (by omega)
  · have hlt : ¬ (i < n) := by simpa using hc
    repeat' (first | refine wpL_seq ?_ | refine wpL_skip ?_ | refine wpL_label ?_)
    refine wpL_exit (hx2 _ _ _ (by simp) (hx1 _ _ ?_))
    repeat' (first | refine wpL_seq ?_ | refine wpL_skip ?_ | refine wpL_label ?_)
    refine wpL_region [4] fun q hq => ?_
    simp -implicitDefEqProofs (disch := omega) only [gO_nil, gO_cons, gN_cond, gN_val, gN_bad, outV_some, outV_none, outV_guard, outA_guard, outP_guard, outA, outP, gN_store, putd_lk, putd_lk0, lk_cons, lk_nil, ev_tmp, ev, gdO_tt, gdO_ff, gdO_tf, gdO_ft, gdO_u,
  itemsOf, itemsAt, operO, stepO, convO, callO, callB, storeO, pureA, loadA, allocA, serA, selA, binA, binInt, unA, convA, partA, TD.isAgg, TD.isBool, TD.isPtr, TD.isFunc, fieldOf, indexA, indexAddrA_sl, indexAddrA_ptr, lenA_sl, lenA_snil, lenA_str, buildA, placesA, fillA, repl, eqA, eqV, eqV.eqFs,
  ofConst, ofLeaf, ofLeafs, AV.cells, AV.leaf, List.all_cons, List.all_nil, Bool.true_and, Bool.and_true, Bool.false_and, Bool.and_false, Bool.true_or, Bool.false_or, Bool.or_false, Bool.or_true, Bool.not_true, Bool.not_false, Bool.not_not,
  Option.bind_some, Option.bind_none, Option.map_some, Option.map_none, Option.getD_some, Option.getD_none, Option.bind_eq_bind, List.getElem?_cons_zero, List.getElem?_cons_succ, List.getElem?_nil, List.getElem?_toArray, List.map_cons, List.map_nil, List.append_nil, List.nil_append, List.cons_append, List.singleton_append,
  List.take_zero, List.drop_zero, List.take_succ_cons, List.drop_succ_cons, List.take_nil, List.drop_nil, List.length_cons, List.length_nil, List.length_append, List.tail_cons, List.headD_cons, List.headD_nil, List.tail_nil,
  Nat.reduceEqDiff, Nat.reduceAdd, Nat.reduceMul, Nat.reduceLeDiff, ↓reduceIte, if_true, if_false, reduceCtorEq, true_and, and_true, false_and, and_false, decide_true, decide_false, Int.natCast_nonneg, Int.toNat_natCast, Nat.mul_one, Nat.one_mul, Nat.zero_add, Nat.add_zero, ne_eq, not_true_eq_false, not_false_eq_true, Nat.zero_le, Nat.le_refl, Int.toNat_zero, Nat.zero_mul, Nat.mul_zero, and_self, Nat.succ_ne_self,
  wrap64, wrap32, wrapU64, wrapU8, wrapU32]
    refine hq _ _ ?_
    simp only [pickL, lk_cons, Nat.reduceEqDiff, ↓reduceIte, reduceCtorEq, if_true, if_false]
    clear hq q
    repeat' (first | refine wpL_seq ?_ | refine wpL_skip ?_ | refine wpL_label ?_)
    refine wpL_ret (hK' _ _ _ _ (.inr rfl) rfl ?_)
    have h2 : ∀ i, i < n → xs i = ys i := fun j hj => hpre j (by omega)
    rwa [decide_eq_true ⟨rfl, h2⟩] at hK


theorem f9_members {m M K} (hK : ∀ v m', Keep [] m m' → Ow m' v 3 (memL M 64) → (∀ b ∈ ancOf m' v, m.blk b = none) → There m' v → K v m') : wpF Try.prog 9 [.int .u64 (M : BitVec 64).toNat] m K := by
  refine wpF_intro (fn := Try.f9) rfl rfl (by decide) (by kernel_rfl) fun K' hK' => ?_
  repeat' (first | refine wpL_seq ?_ | refine wpL_skip ?_ | refine wpL_label ?_)
  refine wpL_region [0] fun q hq => ?_
  simp -implicitDefEqProofs (disch := omega) only [gO_nil, gO_cons, gN_cond, gN_val, gN_bad, outV_some, outV_none, outV_guard, outA_guard, outP_guard, outA, outP, gN_store, putd_lk, putd_lk0, lk_cons, lk_nil, ev_tmp, ev, gdO_tt, gdO_ff, gdO_tf, gdO_ft, gdO_u,
  itemsOf, itemsAt, operO, stepO, convO, callO, callB, storeO, pureA, loadA, allocA, serA, selA, binA, binInt, unA, convA, partA, TD.isAgg, TD.isBool, TD.isPtr, TD.isFunc, fieldOf, indexA, indexAddrA_sl, indexAddrA_ptr, lenA_sl, lenA_snil, lenA_str, buildA, placesA, fillA, repl, eqA, eqV, eqV.eqFs,
  ofConst, ofLeaf, ofLeafs, AV.cells, AV.leaf, List.all_cons, List.all_nil, Bool.true_and, Bool.and_true, Bool.false_and, Bool.and_false, Bool.true_or, Bool.false_or, Bool.or_false, Bool.or_true, Bool.not_true, Bool.not_false, Bool.not_not,
  Option.bind_some, Option.bind_none, Option.map_some, Option.map_none, Option.getD_some, Option.getD_none, Option.bind_eq_bind, List.getElem?_cons_zero, List.getElem?_cons_succ, List.getElem?_nil, List.getElem?_toArray, List.map_cons, List.map_nil, List.append_nil, List.nil_append, List.cons_append, List.singleton_append,
  List.take_zero, List.drop_zero, List.take_succ_cons, List.drop_succ_cons, List.take_nil, List.drop_nil, List.length_cons, List.length_nil, List.length_append, List.tail_cons, List.headD_cons, List.headD_nil, List.tail_nil,
  Nat.reduceEqDiff, Nat.reduceAdd, Nat.reduceMul, Nat.reduceLeDiff, ↓reduceIte, if_true, if_false, reduceCtorEq, true_and, and_true, false_and, and_false, decide_true, decide_false, Int.natCast_nonneg, Int.toNat_natCast, Nat.mul_one, Nat.one_mul, Nat.zero_add, Nat.add_zero, ne_eq, not_true_eq_false, not_false_eq_true, Nat.zero_le, Nat.le_refl, Int.toNat_zero, Nat.zero_mul, Nat.mul_zero, and_self, Nat.succ_ne_self,
  wrap64, wrap32, wrapU64, wrapU8, wrapU32, argL]
  refine hq _ _ ?_
  simp only [pickL, lk_cons, Nat.reduceEqDiff, ↓reduceIte, reduceCtorEq, if_true, if_false]
  clear hq q
  repeat' (first | refine wpL_seq ?_ | refine wpL_skip ?_ | refine wpL_label ?_)
  refine wpL_region [0, 3] fun q hq => ?_
  simp -implicitDefEqProofs (disch := omega) only [gO_nil, gO_cons, gN_cond, gN_val, gN_bad, outV_some, outV_none, outV_guard, outA_guard, outP_guard, outA, outP, gN_store, putd_lk, putd_lk0, lk_cons, lk_nil, ev_tmp, ev, gdO_tt, gdO_ff, gdO_tf, gdO_ft, gdO_u,
  itemsOf, itemsAt, operO, stepO, convO, callO, callB, storeO, pureA, loadA, allocA, serA, selA, binA, binInt, unA, convA, partA, TD.isAgg, TD.isBool, TD.isPtr, TD.isFunc, fieldOf, indexA, indexAddrA_sl, indexAddrA_ptr, lenA_sl, lenA_snil, lenA_str, buildA, placesA, fillA, repl, eqA, eqV, eqV.eqFs,
  ofConst, ofLeaf, ofLeafs, AV.cells, AV.leaf, List.all_cons, List.all_nil, Bool.true_and, Bool.and_true, Bool.false_and, Bool.and_false, Bool.true_or, Bool.false_or, Bool.or_false, Bool.or_true, Bool.not_true, Bool.not_false, Bool.not_not,
  Option.bind_some, Option.bind_none, Option.map_some, Option.map_none, Option.getD_some, Option.getD_none, Option.bind_eq_bind, List.getElem?_cons_zero, List.getElem?_cons_succ, List.getElem?_nil, List.getElem?_toArray, List.map_cons, List.map_nil, List.append_nil, List.nil_append, List.cons_append, List.singleton_append,
  List.take_zero, List.drop_zero, List.take_succ_cons, List.drop_succ_cons, List.take_nil, List.drop_nil, List.length_cons, List.length_nil, List.length_append, List.tail_cons, List.headD_cons, List.headD_nil, List.tail_nil,
  Nat.reduceEqDiff, Nat.reduceAdd, Nat.reduceMul, Nat.reduceLeDiff, ↓reduceIte, if_true, if_false, reduceCtorEq, true_and, and_true, false_and, and_false, decide_true, decide_false, Int.natCast_nonneg, Int.toNat_natCast, Nat.mul_one, Nat.one_mul, Nat.zero_add, Nat.add_zero, ne_eq, not_true_eq_false, not_false_eq_true, Nat.zero_le, Nat.le_refl, Int.toNat_zero, Nat.zero_mul, Nat.mul_zero, and_self, Nat.succ_ne_self,
  wrap64, wrap32, wrapU64, wrapU8, wrapU32]
  refine hq _ _ ?_
  simp only [pickL, lk_cons, Nat.reduceEqDiff, ↓reduceIte, reduceCtorEq, if_true, if_false]
  clear hq q
  repeat' (first | refine wpL_seq ?_ | refine wpL_skip ?_ | refine wpL_label ?_)
  refine wpL_region [0, 3, 5] fun q hq => ?_
  simp -implicitDefEqProofs (disch := omega) only [gO_nil, gO_cons, gN_cond, gN_val, gN_bad, outV_some, outV_none, outV_guard, outA_guard, outP_guard, outA, outP, gN_store, putd_lk, putd_lk0, lk_cons, lk_nil, ev_tmp, ev, gdO_tt, gdO_ff, gdO_tf, gdO_ft, gdO_u,
  itemsOf, itemsAt, operO, stepO, convO, callO, callB, storeO, pureA, loadA, allocA, serA, selA, binA, binInt, unA, convA, partA, TD.isAgg, TD.isBool, TD.isPtr, TD.isFunc, fieldOf, indexA, indexAddrA_sl, indexAddrA_ptr, lenA_sl, lenA_snil, lenA_str, buildA, placesA, fillA, repl, eqA, eqV, eqV.eqFs,
  ofConst, ofLeaf, ofLeafs, AV.cells, AV.leaf, List.all_cons, List.all_nil, Bool.true_and, Bool.and_true, Bool.false_and, Bool.and_false, Bool.true_or, Bool.false_or, Bool.or_false, Bool.or_true, Bool.not_true, Bool.not_false, Bool.not_not,
  Option.bind_some, Option.bind_none, Option.map_some, Option.map_none, Option.getD_some, Option.getD_none, Option.bind_eq_bind, List.getElem?_cons_zero, List.getElem?_cons_succ, List.getElem?_nil, List.getElem?_toArray, List.map_cons, List.map_nil, List.append_nil, List.nil_append, List.cons_append, List.singleton_append,
  List.take_zero, List.drop_zero, List.take_succ_cons, List.drop_succ_cons, List.take_nil, List.drop_nil, List.length_cons, List.length_nil, List.length_append, List.tail_cons, List.headD_cons, List.headD_nil, List.tail_nil,
  Nat.reduceEqDiff, Nat.reduceAdd, Nat.reduceMul, Nat.reduceLeDiff, ↓reduceIte, if_true, if_false, reduceCtorEq, true_and, and_true, false_and, and_false, decide_true, decide_false, Int.natCast_nonneg, Int.toNat_natCast, Nat.mul_one, Nat.one_mul, Nat.zero_add, Nat.add_zero, ne_eq, not_true_eq_false, not_false_eq_true, Nat.zero_le, Nat.le_refl, Int.toNat_zero, Nat.zero_mul, Nat.mul_zero, and_self, Nat.succ_ne_self,
  wrap64, wrap32, wrapU64, wrapU8, wrapU32]
  refine hq _ _ ?_
  simp only [pickL, lk_cons, Nat.reduceEqDiff, ↓reduceIte, reduceCtorEq, if_true, if_false]
  clear hq q
  repeat' (first | refine wpL_seq ?_ | refine wpL_skip ?_ | refine wpL_label ?_)
  refine wpL_block fun k1 hn1 hx1 ho1 => ?_
  refine wpL_loop (fun j e m' => ∃ (i : Nat) (v : AV), i ≤ 64 ∧ j = 64 - i ∧ e = lk [(0, .int .u64 M.toNat), (3, v), (5, .int .i64 i)] ∧ Keep [] m m' ∧ Ow m' v 3 (memL M i) ∧ (∀ b ∈ ancOf m' v, m.blk b = none) ∧ There m' v) 64
    ⟨0, .snil, by omega, by omega, rfl, Keep.refl _ _, Ow.nil, by simp [ancOf], There.nil⟩ ?_
  rintro j e m' ⟨i, v, hi, rfl, rfl, hkp, hO, hfr, hT⟩ k2 hn2 hx2
  repeat' (first | refine wpL_seq ?_ | refine wpL_skip ?_ | refine wpL_label ?_)
  refine wpL_region [0, 3, 5, 6] fun q hq => ?_
  simp -implicitDefEqProofs (disch := omega) only [gO_nil, gO_cons, gN_cond, gN_val, gN_bad, outV_some, outV_none, outV_guard, outA_guard, outP_guard, outA, outP, gN_store, putd_lk, putd_lk0, lk_cons, lk_nil, ev_tmp, ev, gdO_tt, gdO_ff, gdO_tf, gdO_ft, gdO_u,
  itemsOf, itemsAt, operO, stepO, convO, callO, callB, storeO, pureA, loadA, allocA, serA, selA, binA, binInt, unA, convA, partA, TD.isAgg, TD.isBool, TD.isPtr, TD.isFunc, fieldOf, indexA, indexAddrA_sl, indexAddrA_ptr, lenA_sl, lenA_snil, lenA_str, buildA, placesA, fillA, repl, eqA, eqV, eqV.eqFs,
  ofConst, ofLeaf, ofLeafs, AV.cells, AV.leaf, List.all_cons, List.all_nil, Bool.true_and, Bool.and_true, Bool.false_and, Bool.and_false, Bool.true_or, Bool.false_or, Bool.or_false, Bool.or_true, Bool.not_true, Bool.not_false, Bool.not_not,
  Option.bind_some, Option.bind_none, Option.map_some, Option.map_none, Option.getD_some, Option.getD_none, Option.bind_eq_bind, List.getElem?_cons_zero, List.getElem?_cons_succ, List.getElem?_nil, List.getElem?_toArray, List.map_cons, List.map_nil, List.append_nil, List.nil_append, List.cons_append, List.singleton_append,
  List.take_zero, List.drop_zero, List.take_succ_cons, List.drop_succ_cons, List.take_nil, List.drop_nil, List.length_cons, List.length_nil, List.length_append, List.tail_cons, List.headD_cons, List.headD_nil, List.tail_nil,
  Nat.reduceEqDiff, Nat.reduceAdd, Nat.reduceMul, Nat.reduceLeDiff, ↓reduceIte, if_true, if_false, reduceCtorEq, true_and, and_true, false_and, and_false, decide_true, decide_false, Int.natCast_nonneg, Int.toNat_natCast, Nat.mul_one, Nat.one_mul, Nat.zero_add, Nat.add_zero, ne_eq, not_true_eq_false, not_false_eq_true, Nat.zero_le, Nat.le_refl, Int.toNat_zero, Nat.zero_mul, Nat.mul_zero, and_self, Nat.succ_ne_self,
  wrap64, wrap32, wrapU64, wrapU8, wrapU32]
  refine hq _ _ ?_
  simp only [pickL, lk_cons, Nat.reduceEqDiff, ↓reduceIte, reduceCtorEq, if_true, if_false]
  clear hq q
  repeat' (first | refine wpL_seq ?_ | refine wpL_skip ?_ | refine wpL_label ?_)
  refine wpL_cond rfl (fun hc => ?_) (fun hc => ?_)
  · have hlt : i < 64 := by simp at hc; omega
    repeat' (first | refine wpL_seq ?_ | refine wpL_skip ?_ | refine wpL_label ?_)
    refine wpL_block fun k3 hn3 hx3 ho3 => ?_
    repeat' (first | refine wpL_seq ?_ | refine wpL_skip ?_ | refine wpL_label ?_)
    refine wpL_region [0, 3, 4, 5] fun q hq => ?_
    simp -implicitDefEqProofs (disch := omega) only [gO_nil, gO_cons, gN_cond, gN_val, gN_bad, outV_some, outV_none, outV_guard, outA_guard, outP_guard, outA, outP, gN_store, putd_lk, putd_lk0, lk_cons, lk_nil, ev_tmp, ev, gdO_tt, gdO_ff, gdO_tf, gdO_ft, gdO_u,
  itemsOf, itemsAt, operO, stepO, convO, callO, callB, storeO, pureA, loadA, allocA, serA, selA, binA, binInt, unA, convA, partA, TD.isAgg, TD.isBool, TD.isPtr, TD.isFunc, fieldOf, indexA, indexAddrA_sl, indexAddrA_ptr, lenA_sl, lenA_snil, lenA_str, buildA, placesA, fillA, repl, eqA, eqV, eqV.eqFs,
  ofConst, ofLeaf, ofLeafs, AV.cells, AV.leaf, List.all_cons, List.all_nil, Bool.true_and, Bool.and_true, Bool.false_and, Bool.and_false, Bool.true_or, Bool.false_or, Bool.or_false, Bool.or_true, Bool.not_true, Bool.not_false, Bool.not_not,
  Option.bind_some, Option.bind_none, Option.map_some, Option.map_none, Option.getD_some, Option.getD_none, Option.bind_eq_bind, List.getElem?_cons_zero, List.getElem?_cons_succ, List.getElem?_nil, List.getElem?_toArray, List.map_cons, List.map_nil, List.append_nil, List.nil_append, List.cons_append, List.singleton_append,
  List.take_zero, List.drop_zero, List.take_succ_cons, List.drop_succ_cons, List.take_nil, List.drop_nil, List.length_cons, List.length_nil, List.length_append, List.tail_cons, List.headD_cons, List.headD_nil, List.tail_nil,
  Nat.reduceEqDiff, Nat.reduceAdd, Nat.reduceMul, Nat.reduceLeDiff, ↓reduceIte, if_true, if_false, reduceCtorEq, true_and, and_true, false_and, and_false, decide_true, decide_false, Int.natCast_nonneg, Int.toNat_natCast, Nat.mul_one, Nat.one_mul, Nat.zero_add, Nat.add_zero, ne_eq, not_true_eq_false, not_false_eq_true, Nat.zero_le, Nat.le_refl, Int.toNat_zero, Nat.zero_mul, Nat.mul_zero, and_self, Nat.succ_ne_self,
  wrap64, wrap32, wrapU64, wrapU8, wrapU32]
    refine hq _ _ ?_
    simp only [pickL, lk_cons, Nat.reduceEqDiff, ↓reduceIte, reduceCtorEq, if_true, if_false]
    clear hq q
    repeat' (first | refine wpL_seq ?_ | refine wpL_skip ?_ | refine wpL_label ?_)
    refine wpL_region [0, 3, 4, 5, 12] fun q hq => ?_
    simp -implicitDefEqProofs (disch := omega) only [gO_nil, gO_cons, gN_cond, gN_val, gN_bad, outV_some, outV_none, outV_guard, outA_guard, outP_guard, outA, outP, gN_store, putd_lk, putd_lk0, lk_cons, lk_nil, ev_tmp, ev, gdO_tt, gdO_ff, gdO_tf, gdO_ft, gdO_u,
  itemsOf, itemsAt, operO, stepO, convO, callO, callB, storeO, pureA, loadA, allocA, serA, selA, binA, binInt, unA, convA, partA, TD.isAgg, TD.isBool, TD.isPtr, TD.isFunc, fieldOf, indexA, indexAddrA_sl, indexAddrA_ptr, lenA_sl, lenA_snil, lenA_str, buildA, placesA, fillA, repl, eqA, eqV, eqV.eqFs,
  ofConst, ofLeaf, ofLeafs, AV.cells, AV.leaf, List.all_cons, List.all_nil, Bool.true_and, Bool.and_true, Bool.false_and, Bool.and_false, Bool.true_or, Bool.false_or, Bool.or_false, Bool.or_true, Bool.not_true, Bool.not_false, Bool.not_not,
  Option.bind_some, Option.bind_none, Option.map_some, Option.map_none, Option.getD_some, Option.getD_none, Option.bind_eq_bind, List.getElem?_cons_zero, List.getElem?_cons_succ, List.getElem?_nil, List.getElem?_toArray, List.map_cons, List.map_nil, List.append_nil, List.nil_append, List.cons_append, List.singleton_append,
  List.take_zero, List.drop_zero, List.take_succ_cons, List.drop_succ_cons, List.take_nil, List.drop_nil, List.length_cons, List.length_nil, List.length_append, List.tail_cons, List.headD_cons, List.headD_nil, List.tail_nil,
  Nat.reduceEqDiff, Nat.reduceAdd, Nat.reduceMul, Nat.reduceLeDiff, ↓reduceIte, if_true, if_false, reduceCtorEq, true_and, and_true, false_and, and_false, decide_true, decide_false, Int.natCast_nonneg, Int.toNat_natCast, Nat.mul_one, Nat.one_mul, Nat.zero_add, Nat.add_zero, ne_eq, not_true_eq_false, not_false_eq_true, Nat.zero_le, Nat.le_refl, Int.toNat_zero, Nat.zero_mul, Nat.mul_zero, and_self, Nat.succ_ne_self,
  wrap64, wrap32, wrapU64, wrapU8, wrapU32, shr64 M i hi, and64_1, bitAt]
    refine hq _ _ ?_
    simp only [pickL, lk_cons, Nat.reduceEqDiff, ↓reduceIte, reduceCtorEq, if_true, if_false]
    clear hq q
    repeat' (first | refine wpL_seq ?_ | refine wpL_skip ?_ | refine wpL_label ?_)
    refine wpL_cond rfl (fun hd => ?_) (fun hd => ?_)
    · have hbit : M.getLsbD i = true := by simpa using hd
      repeat' (first | refine wpL_seq ?_ | refine wpL_skip ?_ | refine wpL_label ?_)
      refine wpL_region [0, 3, 5] fun q hq => ?_
      simp -implicitDefEqProofs (disch := omega) only [gO_nil, gO_cons, gN_cond, gN_val, gN_bad, outV_some, outV_none, outV_guard, outA_guard, outP_guard, outA, outP, gN_store, putd_lk, putd_lk0, lk_cons, lk_nil, ev_tmp, ev, gdO_tt, gdO_ff, gdO_tf, gdO_ft, gdO_u,
  itemsOf, itemsAt, operO, stepO, convO, callO, callB, storeO, pureA, loadA, allocA, serA, selA, binA, binInt, unA, convA, partA, TD.isAgg, TD.isBool, TD.isPtr, TD.isFunc, fieldOf, indexA, indexAddrA_sl, indexAddrA_ptr, lenA_sl, lenA_snil, lenA_str, buildA, placesA, fillA, repl, eqA, eqV, eqV.eqFs,
  ofConst, ofLeaf, ofLeafs, AV.cells, AV.leaf, List.all_cons, List.all_nil, Bool.true_and, Bool.and_true, Bool.false_and, Bool.and_false, Bool.true_or, Bool.false_or, Bool.or_false, Bool.or_true, Bool.not_true, Bool.not_false, Bool.not_not,
  Option.bind_some, Option.bind_none, Option.map_some, Option.map_none, Option.getD_some, Option.getD_none, Option.bind_eq_bind, List.getElem?_cons_zero, List.getElem?_cons_succ, List.getElem?_nil, List.getElem?_toArray, List.map_cons, List.map_nil, List.append_nil, List.nil_append, List.cons_append, List.singleton_append,
  List.take_zero, List.drop_zero, List.take_succ_cons, List.drop_succ_cons, List.take_nil, List.drop_nil, List.length_cons, List.length_nil, List.length_append, List.tail_cons, List.headD_cons, List.headD_nil, List.tail_nil,
  Nat.reduceEqDiff, Nat.reduceAdd, Nat.reduceMul, Nat.reduceLeDiff, ↓reduceIte, if_true, if_false, reduceCtorEq, true_and, and_true, false_and, and_false, decide_true, decide_false, Int.natCast_nonneg, Int.toNat_natCast, Nat.mul_one, Nat.one_mul, Nat.zero_add, Nat.add_zero, ne_eq, not_true_eq_false, not_false_eq_true, Nat.zero_le, Nat.le_refl, Int.toNat_zero, Nat.zero_mul, Nat.mul_zero, and_self, Nat.succ_ne_self,
  wrap64, wrap32, wrapU64, wrapU8, wrapU32, ti23, ti3]
      refine gN_alloc_sl fun b2 m2 hb2 hm2 hk2 => ?_
      simp -implicitDefEqProofs (disch := omega) only [gO_nil, gO_cons, gN_cond, gN_val, gN_bad, outV_some, outV_none, outV_guard, outA_guard, outP_guard, outA, outP, gN_store, putd_lk, putd_lk0, lk_cons, lk_nil, ev_tmp, ev, gdO_tt, gdO_ff, gdO_tf, gdO_ft, gdO_u,
  itemsOf, itemsAt, operO, stepO, convO, callO, callB, storeO, pureA, loadA, allocA, serA, selA, binA, binInt, unA, convA, partA, TD.isAgg, TD.isBool, TD.isPtr, TD.isFunc, fieldOf, indexA, indexAddrA_sl, indexAddrA_ptr, lenA_sl, lenA_snil, lenA_str, buildA, placesA, fillA, repl, eqA, eqV, eqV.eqFs,
  ofConst, ofLeaf, ofLeafs, AV.cells, AV.leaf, List.all_cons, List.all_nil, Bool.true_and, Bool.and_true, Bool.false_and, Bool.and_false, Bool.true_or, Bool.false_or, Bool.or_false, Bool.or_true, Bool.not_true, Bool.not_false, Bool.not_not,
  Option.bind_some, Option.bind_none, Option.map_some, Option.map_none, Option.getD_some, Option.getD_none, Option.bind_eq_bind, List.getElem?_cons_zero, List.getElem?_cons_succ, List.getElem?_nil, List.getElem?_toArray, List.map_cons, List.map_nil, List.append_nil, List.nil_append, List.cons_append, List.singleton_append,
  List.take_zero, List.drop_zero, List.take_succ_cons, List.drop_succ_cons, List.take_nil, List.drop_nil, List.length_cons, List.length_nil, List.length_append, List.tail_cons, List.headD_cons, List.headD_nil, List.tail_nil,
  Nat.reduceEqDiff, Nat.reduceAdd, Nat.reduceMul, Nat.reduceLeDiff, ↓reduceIte, if_true, if_false, reduceCtorEq, true_and, and_true, false_and, and_false, decide_true, decide_false, Int.natCast_nonneg, Int.toNat_natCast, Nat.mul_one, Nat.one_mul, Nat.zero_add, Nat.add_zero, ne_eq, not_true_eq_false, not_false_eq_true, Nat.zero_le, Nat.le_refl, Int.toNat_zero, Nat.zero_mul, Nat.mul_zero, and_self, Nat.succ_ne_self,
  wrap64, wrap32, wrapU64, wrapU8, wrapU32, ti23, ti3]
      refine gN_append ti23 rfl ti3 rfl (hO.keep0 hk2) (Src.of_ow (et := 3) (cs := [.int .i64 (i : Int)]) (.inr ⟨b2, _, rfl, hm2, rfl, rfl, rfl⟩) rfl) ?_ ?_ (hT.keep0 hk2) fun v' m3 hT3 hO3 hx3' hk3 hfr3 => ?_
      · have := memL_len M i; simp only [List.length_cons, List.length_nil]; omega
      · have := memL_len M i; simp only [List.length_cons, List.length_nil, maxInt]; omega
      simp -implicitDefEqProofs (disch := omega) only [gO_nil, gO_cons, gN_cond, gN_val, gN_bad, outV_some, outV_none, outV_guard, outA_guard, outP_guard, outA, outP, gN_store, putd_lk, putd_lk0, lk_cons, lk_nil, ev_tmp, ev, gdO_tt, gdO_ff, gdO_tf, gdO_ft, gdO_u,
  itemsOf, itemsAt, operO, stepO, convO, callO, callB, storeO, pureA, loadA, allocA, serA, selA, binA, binInt, unA, convA, partA, TD.isAgg, TD.isBool, TD.isPtr, TD.isFunc, fieldOf, indexA, indexAddrA_sl, indexAddrA_ptr, lenA_sl, lenA_snil, lenA_str, buildA, placesA, fillA, repl, eqA, eqV, eqV.eqFs,
  ofConst, ofLeaf, ofLeafs, AV.cells, AV.leaf, List.all_cons, List.all_nil, Bool.true_and, Bool.and_true, Bool.false_and, Bool.and_false, Bool.true_or, Bool.false_or, Bool.or_false, Bool.or_true, Bool.not_true, Bool.not_false, Bool.not_not,
  Option.bind_some, Option.bind_none, Option.map_some, Option.map_none, Option.getD_some, Option.getD_none, Option.bind_eq_bind, List.getElem?_cons_zero, List.getElem?_cons_succ, List.getElem?_nil, List.getElem?_toArray, List.map_cons, List.map_nil, List.append_nil, List.nil_append, List.cons_append, List.singleton_append,
  List.take_zero, List.drop_zero, List.take_succ_cons, List.drop_succ_cons, List.take_nil, List.drop_nil, List.length_cons, List.length_nil, List.length_append, List.tail_cons, List.headD_cons, List.headD_nil, List.tail_nil,
  Nat.reduceEqDiff, Nat.reduceAdd, Nat.reduceMul, Nat.reduceLeDiff, ↓reduceIte, if_true, if_false, reduceCtorEq, true_and, and_true, false_and, and_false, decide_true, decide_false, Int.natCast_nonneg, Int.toNat_natCast, Nat.mul_one, Nat.one_mul, Nat.zero_add, Nat.add_zero, ne_eq, not_true_eq_false, not_false_eq_true, Nat.zero_le, Nat.le_refl, Int.toNat_zero, Nat.zero_mul, Nat.mul_zero, and_self, Nat.succ_ne_self,
  wrap64, wrap32, wrapU64, wrapU8, wrapU32]
      refine hq _ _ ?_
      simp only [pickL, lk_cons, Nat.reduceEqDiff, ↓reduceIte, reduceCtorEq, if_true, if_false]
      clear hq q
      refine wpL_nil (hn3 _ _ ?_)
      repeat' (first | refine wpL_seq ?_ | refine wpL_skip ?_ | refine wpL_label ?_)
      refine wpL_region [0, 3, 5] fun q hq => ?_
      simp -implicitDefEqProofs (disch := omega) only [gO_nil, gO_cons, gN_cond, gN_val, gN_bad, outV_some, outV_none, outV_guard, outA_guard, outP_guard, outA, outP, gN_store, putd_lk, putd_lk0, lk_cons, lk_nil, ev_tmp, ev, gdO_tt, gdO_ff, gdO_tf, gdO_ft, gdO_u,
  itemsOf, itemsAt, operO, stepO, convO, callO, callB, storeO, pureA, loadA, allocA, serA, selA, binA, binInt, unA, convA, partA, TD.isAgg, TD.isBool, TD.isPtr, TD.isFunc, fieldOf, indexA, indexAddrA_sl, indexAddrA_ptr, lenA_sl, lenA_snil, lenA_str, buildA, placesA, fillA, repl, eqA, eqV, eqV.eqFs,
  ofConst, ofLeaf, ofLeafs, AV.cells, AV.leaf, List.all_cons, List.all_nil, Bool.true_and, Bool.and_true, Bool.false_and, Bool.and_false, Bool.true_or, Bool.false_or, Bool.or_false, Bool.or_true, Bool.not_true, Bool.not_false, Bool.not_not,
  Option.bind_some, Option.bind_none, Option.map_some, Option.map_none, Option.getD_some, Option.getD_none, Option.bind_eq_bind, List.getElem?_cons_zero, List.getElem?_cons_succ, List.getElem?_nil, List.getElem?_toArray, List.map_cons, List.map_nil, List.append_nil, List.nil_append, List.cons_append, List.singleton_append,
  List.take_zero, List.drop_zero, List.take_succ_cons, List.drop_succ_cons, List.take_nil, List.drop_nil, List.length_cons, List.length_nil, List.length_append, List.tail_cons, List.headD_cons, List.headD_nil, List.tail_nil,
  Nat.reduceEqDiff, Nat.reduceAdd, Nat.reduceMul, Nat.reduceLeDiff, ↓reduceIte, if_true, if_false, reduceCtorEq, true_and, and_true, false_and, and_false, decide_true, decide_false, Int.natCast_nonneg, Int.toNat_natCast, Nat.mul_one, Nat.one_mul, Nat.zero_add, Nat.add_zero, ne_eq, not_true_eq_false, not_false_eq_true, Nat.zero_le, Nat.le_refl, Int.toNat_zero, Nat.zero_mul, Nat.mul_zero, and_self, Nat.succ_ne_self,
  wrap64, wrap32, wrapU64, wrapU8, wrapU32]
      refine hq _ _ ?_
      simp only [pickL, lk_cons, Nat.reduceEqDiff, ↓reduceIte, reduceCtorEq, if_true, if_false]
      clear hq q
      refine wpL_nil (hn2 (64 - (i + 1)) _ _ (by omega) ⟨i + 1, v', by omega, rfl, rfl, ?_, ?_, ?_, hT3⟩)
      · intro x _ kx hx
        refine hk3 x ?_ kx (hk2 x (by simp) kx (hkp x (by simp) kx hx))
        intro h; rw [hfr x (blkOf_anc hO x h)] at hx; cases hx
      · rw [memL_succ, if_pos hbit]; exact hO3
      · intro x hx
        rcases hfr3 x hx with h | h
        · cases hmx : m.blk x with
          | none => rfl
          | some kx => rw [hk2 x (by simp) kx (hkp x (by simp) kx hmx)] at h; cases h
        · rw [ancOf_keep hO hk2 (by simp)] at h; exact hfr x h
    · have hbit : ¬ M.getLsbD i = true := by simpa using hd
      repeat' (first | refine wpL_seq ?_ | refine wpL_skip ?_ | refine wpL_label ?_)
      refine wpL_nil (hn3 _ _ ?_)
      repeat' (first | refine wpL_seq ?_ | refine wpL_skip ?_ | refine wpL_label ?_)
      refine wpL_region [0, 3, 5] fun q hq => ?_
      simp -implicitDefEqProofs (disch := omega) only [gO_nil, gO_cons, gN_cond, gN_val, gN_bad, outV_some, outV_none, outV_guard, outA_guard, outP_guard, outA, outP, gN_store, putd_lk, putd_lk0, lk_cons, lk_nil, ev_tmp, ev, gdO_tt, gdO_ff, gdO_tf, gdO_ft, gdO_u,
  itemsOf, itemsAt, operO, stepO, convO, callO, callB, storeO, pureA, loadA, allocA, serA, selA, binA, binInt, unA, convA, partA, TD.isAgg, TD.isBool, TD.isPtr, TD.isFunc, fieldOf, indexA, indexAddrA_sl, indexAddrA_ptr, lenA_sl, lenA_snil, lenA_str, buildA, placesA, fillA, repl, eqA, eqV, eqV.eqFs,
  ofConst, ofLeaf, ofLeafs, AV.cells, AV.leaf, List.all_cons, List.all_nil, Bool.true_and, Bool.and_true, Bool.false_and, Bool.and_false, Bool.true_or, Bool.false_or, Bool.or_false, Bool.or_true, Bool.not_true, Bool.not_false, Bool.not_not,
  Option.bind_some, Option.bind_none, Option.map_some, Option.map_none, Option.getD_some, Option.getD_none, Option.bind_eq_bind, List.getElem?_cons_zero, List.getElem?_cons_succ, List.getElem?_nil, List.getElem?_toArray, List.map_cons, List.map_nil, List.append_nil, List.nil_append, List.cons_append, List.singleton_append,
  List.take_zero, List.drop_zero, List.take_succ_cons, List.drop_succ_cons, List.take_nil, List.drop_nil, List.length_cons, List.length_nil, List.length_append, List.tail_cons, List.headD_cons, List.headD_nil, List.tail_nil,
  Nat.reduceEqDiff, Nat.reduceAdd, Nat.reduceMul, Nat.reduceLeDiff, ↓reduceIte, if_true, if_false, reduceCtorEq, true_and, and_true, false_and, and_false, decide_true, decide_false, Int.natCast_nonneg, Int.toNat_natCast, Nat.mul_one, Nat.one_mul, Nat.zero_add, Nat.add_zero, ne_eq, not_true_eq_false, not_false_eq_true, Nat.zero_le, Nat.le_refl, Int.toNat_zero, Nat.zero_mul, Nat.mul_zero, and_self, Nat.succ_ne_self,
  wrap64, wrap32, wrapU64, wrapU8, wrapU32]
      refine hq _ _ ?_
      simp only [pickL, lk_cons, Nat.reduceEqDiff, ↓reduceIte, reduceCtorEq, if_true, if_false]
      clear hq q
      refine wpL_nil (hn2 (64 - (i + 1)) _ _ (by omega) ⟨i + 1, v, by omega, rfl, rfl, hkp, ?_, hfr, hT⟩)
      rw [memL_succ, if_neg hbit, List.append_nil]; exact hO
  · have hin : i = 64 := by simp at hc; omega
    subst hin
    repeat' (first | refine wpL_seq ?_ | refine wpL_skip ?_ | refine wpL_label ?_)
    refine wpL_exit (hx2 _ _ _ (by simp) (hx1 _ _ ?_))
    repeat' (first | refine wpL_seq ?_ | refine wpL_skip ?_ | refine wpL_label ?_)
    refine wpL_region [2] fun q hq => ?_
    simp -implicitDefEqProofs (disch := omega) only [gO_nil, gO_cons, gN_cond, gN_val, gN_bad, outV_some, outV_none, outV_guard, outA_guard, outP_guard, outA, outP, gN_store, putd_lk, putd_lk0, lk_cons, lk_nil, ev_tmp, ev, gdO_tt, gdO_ff, gdO_tf, gdO_ft, gdO_u,
  itemsOf, itemsAt, operO, stepO, convO, callO, callB, storeO, pureA, loadA, allocA, serA, selA, binA, binInt, unA, convA, partA, TD.isAgg, TD.isBool, TD.isPtr, TD.isFunc, fieldOf, indexA, indexAddrA_sl, indexAddrA_ptr, lenA_sl, lenA_snil, lenA_str, buildA, placesA, fillA, repl, eqA, eqV, eqV.eqFs,
  ofConst, ofLeaf, ofLeafs, AV.cells, AV.leaf, List.all_cons, List.all_nil, Bool.true_and, Bool.and_true, Bool.false_and, Bool.and_false, Bool.true_or, Bool.false_or, Bool.or_false, Bool.or_true, Bool.not_true, Bool.not_false, Bool.not_not,
  Option.bind_some, Option.bind_none, Option.map_some, Option.map_none, Option.getD_some, Option.getD_none, Option.bind_eq_bind, List.getElem?_cons_zero, List.getElem?_cons_succ, List.getElem?_nil, List.getElem?_toArray, List.map_cons, List.map_nil, List.append_nil, List.nil_append, List.cons_append, List.singleton_append,
  List.take_zero, List.drop_zero, List.take_succ_cons, List.drop_succ_cons, List.take_nil, List.drop_nil, List.length_cons, List.length_nil, List.length_append, List.tail_cons, List.headD_cons, List.headD_nil, List.tail_nil,
  Nat.reduceEqDiff, Nat.reduceAdd, Nat.reduceMul, Nat.reduceLeDiff, ↓reduceIte, if_true, if_false, reduceCtorEq, true_and, and_true, false_and, and_false, decide_true, decide_false, Int.natCast_nonneg, Int.toNat_natCast, Nat.mul_one, Nat.one_mul, Nat.zero_add, Nat.add_zero, ne_eq, not_true_eq_false, not_false_eq_true, Nat.zero_le, Nat.le_refl, Int.toNat_zero, Nat.zero_mul, Nat.mul_zero, and_self, Nat.succ_ne_self,
  wrap64, wrap32, wrapU64, wrapU8, wrapU32]
    refine hq _ _ ?_
    simp only [pickL, lk_cons, Nat.reduceEqDiff, ↓reduceIte, reduceCtorEq, if_true, if_false]
    clear hq q
    repeat' (first | refine wpL_seq ?_ | refine wpL_skip ?_ | refine wpL_label ?_)
    refine wpL_ret (hK' _ _ _ _ (.inr rfl) rfl ?_)
    simp only [pickL, lk_cons, Nat.reduceEqDiff, ↓reduceIte, reduceCtorEq, if_true, if_false]
    exact hK v m' hkp hO hfr hT

theorem rem2_64 (x : BitVec 64) : ((x.toNat : Int).tmod 2 = 1) ↔ x.getLsbD 0 = true := by
  have : (x.toNat : Int).tmod 2 = ((x.toNat % 2 : Nat) : Int) := by
    rw [Int.tmod_eq_emod_of_nonneg (by omega)]; simp
  rw [this]
  simp only [BitVec.getLsbD, Nat.testBit, Nat.shiftRight_zero]
  have h2 := Nat.mod_two_eq_zero_or_one x.toNat
  rcases h2 with h2 | h2 <;> simp [Nat.and_comm, h2] <;> omega
theorem quo2_64 (x : BitVec 64) : IntKind.wrap .u64 ((x.toNat : Int).tdiv 2) = ((x >>> 1).toNat : Int) := by
  have : (x.toNat : Int).tdiv 2 = ((x.toNat / 2 : Nat) : Int) := by
    rw [Int.tdiv_eq_ediv_of_nonneg (by omega)]; simp
  rw [this, wrapU64 (by omega) (by have := x.isLt; omega), BitVec.toNat_ushiftRight, Nat.shiftRight_eq_div_pow]

theorem f10_members {m M K} (hK : ∀ v m', Keep [] m m' → Ow m' v 3 (memL M 64) → (∀ b ∈ ancOf m' v, m.blk b = none) → There m' v → K v m') : wpF Try.prog 10 [.int .u64 (M : BitVec 64).toNat] m K := by
  refine wpF_intro (fn := Try.f10) rfl rfl (by decide) (by kernel_rfl) fun K' hK' => ?_
  repeat' (first | refine wpL_seq ?_ | refine wpL_skip ?_ | refine wpL_label ?_)
  refine wpL_region [0] fun q hq => ?_
  simp -implicitDefEqProofs (disch := omega) only [gO_nil, gO_cons, gN_cond, gN_val, gN_bad, outV_some, outV_none, outV_guard, outA_guard, outP_guard, outA, outP, gN_store, putd_lk, putd_lk0, lk_cons, lk_nil, ev_tmp, ev, gdO_tt, gdO_ff, gdO_tf, gdO_ft, gdO_u,
  itemsOf, itemsAt, operO, stepO, convO, callO, callB, storeO, pureA, loadA, allocA, serA, selA, binA, binInt, unA, convA, partA, TD.isAgg, TD.isBool, TD.isPtr, TD.isFunc, fieldOf, indexA, indexAddrA_sl, indexAddrA_ptr, lenA_sl, lenA_snil, lenA_str, buildA, placesA, fillA, repl, eqA, eqV, eqV.eqFs,
  ofConst, ofLeaf, ofLeafs, AV.cells, AV.leaf, List.all_cons, List.all_nil, Bool.true_and, Bool.and_true, Bool.false_and, Bool.and_false, Bool.true_or, Bool.false_or, Bool.or_false, Bool.or_true, Bool.not_true, Bool.not_false, Bool.not_not,
  Option.bind_some, Option.bind_none, Option.map_some, Option.map_none, Option.getD_some, Option.getD_none, Option.bind_eq_bind, List.getElem?_cons_zero, List.getElem?_cons_succ, List.getElem?_nil, List.getElem?_toArray, List.map_cons, List.map_nil, List.append_nil, List.nil_append, List.cons_append, List.singleton_append,
  List.take_zero, List.drop_zero, List.take_succ_cons, List.drop_succ_cons, List.take_nil, List.drop_nil, List.length_cons, List.length_nil, List.length_append, List.tail_cons, List.headD_cons, List.headD_nil, List.tail_nil,
  Nat.reduceEqDiff, Nat.reduceAdd, Nat.reduceMul, Nat.reduceLeDiff, ↓reduceIte, if_true, if_false, reduceCtorEq, true_and, and_true, false_and, and_false, decide_true, decide_false, Int.natCast_nonneg, Int.toNat_natCast, Nat.mul_one, Nat.one_mul, Nat.zero_add, Nat.add_zero, ne_eq, not_true_eq_false, not_false_eq_true, Nat.zero_le, Nat.le_refl, Int.toNat_zero, Nat.zero_mul, Nat.mul_zero, and_self, Nat.succ_ne_self,
  wrap64, wrap32, wrapU64, wrapU8, wrapU32, argL]
  refine hq _ _ ?_
  simp only [pickL, lk_cons, Nat.reduceEqDiff, ↓reduceIte, reduceCtorEq, if_true, if_false]
  clear hq q
  repeat' (first | refine wpL_seq ?_ | refine wpL_skip ?_ | refine wpL_label ?_)
  refine wpL_region [0, 3] fun q hq => ?_
  simp -implicitDefEqProofs (disch := omega) only [gO_nil, gO_cons, gN_cond, gN_val, gN_bad, outV_some, outV_none, outV_guard, outA_guard, outP_guard, outA, outP, gN_store, putd_lk, putd_lk0, lk_cons, lk_nil, ev_tmp, ev, gdO_tt, gdO_ff, gdO_tf, gdO_ft, gdO_u,
  itemsOf, itemsAt, operO, stepO, convO, callO, callB, storeO, pureA, loadA, allocA, serA, selA, binA, binInt, unA, convA, partA, TD.isAgg, TD.isBool, TD.isPtr, TD.isFunc, fieldOf, indexA, indexAddrA_sl, indexAddrA_ptr, lenA_sl, lenA_snil, lenA_str, buildA, placesA, fillA, repl, eqA, eqV, eqV.eqFs,
  ofConst, ofLeaf, ofLeafs, AV.cells, AV.leaf, List.all_cons, List.all_nil, Bool.true_and, Bool.and_true, Bool.false_and, Bool.and_false, Bool.true_or, Bool.false_or, Bool.or_false, Bool.or_true, Bool.not_true, Bool.not_false, Bool.not_not,
  Option.bind_some, Option.bind_none, Option.map_some, Option.map_none, Option.getD_some, Option.getD_none, Option.bind_eq_bind, List.getElem?_cons_zero, List.getElem?_cons_succ, List.getElem?_nil, List.getElem?_toArray, List.map_cons, List.map_nil, List.append_nil, List.nil_append, List.cons_append, List.singleton_append,
  List.take_zero, List.drop_zero, List.take_succ_cons, List.drop_succ_cons, List.take_nil, List.drop_nil, List.length_cons, List.length_nil, List.length_append, List.tail_cons, List.headD_cons, List.headD_nil, List.tail_nil,
  Nat.reduceEqDiff, Nat.reduceAdd, Nat.reduceMul, Nat.reduceLeDiff, ↓reduceIte, if_true, if_false, reduceCtorEq, true_and, and_true, false_and, and_false, decide_true, decide_false, Int.natCast_nonneg, Int.toNat_natCast, Nat.mul_one, Nat.one_mul, Nat.zero_add, Nat.add_zero, ne_eq, not_true_eq_false, not_false_eq_true, Nat.zero_le, Nat.le_refl, Int.toNat_zero, Nat.zero_mul, Nat.mul_zero, and_self, Nat.succ_ne_self,
  wrap64, wrap32, wrapU64, wrapU8, wrapU32]
  refine hq _ _ ?_
  simp only [pickL, lk_cons, Nat.reduceEqDiff, ↓reduceIte, reduceCtorEq, if_true, if_false]
  clear hq q
  repeat' (first | refine wpL_seq ?_ | refine wpL_skip ?_ | refine wpL_label ?_)
  refine wpL_region [0, 3, 4] fun q hq => ?_
  simp -implicitDefEqProofs (disch := omega) only [gO_nil, gO_cons, gN_cond, gN_val, gN_bad, outV_some, outV_none, outV_guard, outA_guard, outP_guard, outA, outP, gN_store, putd_lk, putd_lk0, lk_cons, lk_nil, ev_tmp, ev, gdO_tt, gdO_ff, gdO_tf, gdO_ft, gdO_u,
  itemsOf, itemsAt, operO, stepO, convO, callO, callB, storeO, pureA, loadA, allocA, serA, selA, binA, binInt, unA, convA, partA, TD.isAgg, TD.isBool, TD.isPtr, TD.isFunc, fieldOf, indexA, indexAddrA_sl, indexAddrA_ptr, lenA_sl, lenA_snil, lenA_str, buildA, placesA, fillA, repl, eqA, eqV, eqV.eqFs,
  ofConst, ofLeaf, ofLeafs, AV.cells, AV.leaf, List.all_cons, List.all_nil, Bool.true_and, Bool.and_true, Bool.false_and, Bool.and_false, Bool.true_or, Bool.false_or, Bool.or_false, Bool.or_true, Bool.not_true, Bool.not_false, Bool.not_not,
  Option.bind_some, Option.bind_none, Option.map_some, Option.map_none, Option.getD_some, Option.getD_none, Option.bind_eq_bind, List.getElem?_cons_zero, List.getElem?_cons_succ, List.getElem?_nil, List.getElem?_toArray, List.map_cons, List.map_nil, List.append_nil, List.nil_append, List.cons_append, List.singleton_append,
  List.take_zero, List.drop_zero, List.take_succ_cons, List.drop_succ_cons, List.take_nil, List.drop_nil, List.length_cons, List.length_nil, List.length_append, List.tail_cons, List.headD_cons, List.headD_nil, List.tail_nil,
  Nat.reduceEqDiff, Nat.reduceAdd, Nat.reduceMul, Nat.reduceLeDiff, ↓reduceIte, if_true, if_false, reduceCtorEq, true_and, and_true, false_and, and_false, decide_true, decide_false, Int.natCast_nonneg, Int.toNat_natCast, Nat.mul_one, Nat.one_mul, Nat.zero_add, Nat.add_zero, ne_eq, not_true_eq_false, not_false_eq_true, Nat.zero_le, Nat.le_refl, Int.toNat_zero, Nat.zero_mul, Nat.mul_zero, and_self, Nat.succ_ne_self,
  wrap64, wrap32, wrapU64, wrapU8, wrapU32]
  refine hq _ _ ?_
  simp only [pickL, lk_cons, Nat.reduceEqDiff, ↓reduceIte, reduceCtorEq, if_true, if_false]
  clear hq q
  repeat' (first | refine wpL_seq ?_ | refine wpL_skip ?_ | refine wpL_label ?_)
  refine wpL_block fun k1 hn1 hx1 ho1 => ?_
  refine wpL_loop (fun j e m' => ∃ (i : Nat) (v : AV), i ≤ 64 ∧ j = 64 - i ∧ e = lk [(0, .int .u64 (M >>> i).toNat), (3, v), (4, .int .i64 i)] ∧ Keep [] m m' ∧ Ow m' v 3 (memL M i) ∧ (∀ b ∈ ancOf m' v, m.blk b = none) ∧ There m' v) 64
    ⟨0, .snil, by omega, by omega, by simp, Keep.refl _ _, Ow.nil, by simp [ancOf], There.nil⟩ ?_
  rintro j e m' ⟨i, v, hi, rfl, rfl, hkp, hO, hfr, hT⟩ k2 hn2 hx2
  repeat' (first | refine wpL_seq ?_ | refine wpL_skip ?_ | refine wpL_label ?_)
  refine wpL_region [0, 3, 4, 6] fun q hq => ?_
  simp -implicitDefEqProofs (disch := omega) only [gO_nil, gO_cons, gN_cond, gN_val, gN_bad, outV_some, outV_none, outV_guard, outA_guard, outP_guard, outA, outP, gN_store, putd_lk, putd_lk0, lk_cons, lk_nil, ev_tmp, ev, gdO_tt, gdO_ff, gdO_tf, gdO_ft, gdO_u,
  itemsOf, itemsAt, operO, stepO, convO, callO, callB, storeO, pureA, loadA, allocA, serA, selA, binA, binInt, unA, convA, partA, TD.isAgg, TD.isBool, TD.isPtr, TD.isFunc, fieldOf, indexA, indexAddrA_sl, indexAddrA_ptr, lenA_sl, lenA_snil, lenA_str, buildA, placesA, fillA, repl, eqA, eqV, eqV.eqFs,
  ofConst, ofLeaf, ofLeafs, AV.cells, AV.leaf, List.all_cons, List.all_nil, Bool.true_and, Bool.and_true, Bool.false_and, Bool.and_false, Bool.true_or, Bool.false_or, Bool.or_false, Bool.or_true, Bool.not_true, Bool.not_false, Bool.not_not,
  Option.bind_some, Option.bind_none, Option.map_some, Option.map_none, Option.getD_some, Option.getD_none, Option.bind_eq_bind, List.getElem?_cons_zero, List.getElem?_cons_succ, List.getElem?_nil, List.getElem?_toArray, List.map_cons, List.map_nil, List.append_nil, List.nil_append, List.cons_append, List.singleton_append,
  List.take_zero, List.drop_zero, List.take_succ_cons, List.drop_succ_cons, List.take_nil, List.drop_nil, List.length_cons, List.length_nil, List.length_append, List.tail_cons, List.headD_cons, List.headD_nil, List.tail_nil,
  Nat.reduceEqDiff, Nat.reduceAdd, Nat.reduceMul, Nat.reduceLeDiff, ↓reduceIte, if_true, if_false, reduceCtorEq, true_and, and_true, false_and, and_false, decide_true, decide_false, Int.natCast_nonneg, Int.toNat_natCast, Nat.mul_one, Nat.one_mul, Nat.zero_add, Nat.add_zero, ne_eq, not_true_eq_false, not_false_eq_true, Nat.zero_le, Nat.le_refl, Int.toNat_zero, Nat.zero_mul, Nat.mul_zero, and_self, Nat.succ_ne_self,
  wrap64, wrap32, wrapU64, wrapU8, wrapU32]
  refine hq _ _ ?_
  simp only [pickL, lk_cons, Nat.reduceEqDiff, ↓reduceIte, reduceCtorEq, if_true, if_false]
  clear hq q
  repeat' (first | refine wpL_seq ?_ | refine wpL_skip ?_ | refine wpL_label ?_)
  refine wpL_cond rfl (fun hc => ?_) (fun hc => ?_)
  · have hlt : i < 64 := by simp at hc; omega
    have hsh : (M >>> i) >>> 1 = M >>> (i + 1) := by rw [BitVec.shiftRight_add]
    have h20 : ¬ ((2 : Int) = 0) := by omega
    repeat' (first | refine wpL_seq ?_ | refine wpL_skip ?_ | refine wpL_label ?_)
    refine wpL_block fun k3 hn3 hx3 ho3 => ?_
    repeat' (first | refine wpL_seq ?_ | refine wpL_skip ?_ | refine wpL_label ?_)
    refine wpL_region [0, 3, 4, 11] fun q hq => ?_
    simp -implicitDefEqProofs (disch := omega) only [gO_nil, gO_cons, gN_cond, gN_val, gN_bad, outV_some, outV_none, outV_guard, outA_guard, outP_guard, outA, outP, gN_store, putd_lk, putd_lk0, lk_cons, lk_nil, ev_tmp, ev, gdO_tt, gdO_ff, gdO_tf, gdO_ft, gdO_u,
  itemsOf, itemsAt, operO, stepO, convO, callO, callB, storeO, pureA, loadA, allocA, serA, selA, binA, binInt, unA, convA, partA, TD.isAgg, TD.isBool, TD.isPtr, TD.isFunc, fieldOf, indexA, indexAddrA_sl, indexAddrA_ptr, lenA_sl, lenA_snil, lenA_str, buildA, placesA, fillA, repl, eqA, eqV, eqV.eqFs,
  ofConst, ofLeaf, ofLeafs, AV.cells, AV.leaf, List.all_cons, List.all_nil, Bool.true_and, Bool.and_true, Bool.false_and, Bool.and_false, Bool.true_or, Bool.false_or, Bool.or_false, Bool.or_true, Bool.not_true, Bool.not_false, Bool.not_not,
  Option.bind_some, Option.bind_none, Option.map_some, Option.map_none, Option.getD_some, Option.getD_none, Option.bind_eq_bind, List.getElem?_cons_zero, List.getElem?_cons_succ, List.getElem?_nil, List.getElem?_toArray, List.map_cons, List.map_nil, List.append_nil, List.nil_append, List.cons_append, List.singleton_append,
  List.take_zero, List.drop_zero, List.take_succ_cons, List.drop_succ_cons, List.take_nil, List.drop_nil, List.length_cons, List.length_nil, List.length_append, List.tail_cons, List.headD_cons, List.headD_nil, List.tail_nil,
  Nat.reduceEqDiff, Nat.reduceAdd, Nat.reduceMul, Nat.reduceLeDiff, ↓reduceIte, if_true, if_false, reduceCtorEq, true_and, and_true, false_and, and_false, decide_true, decide_false, Int.natCast_nonneg, Int.toNat_natCast, Nat.mul_one, Nat.one_mul, Nat.zero_add, Nat.add_zero, ne_eq, not_true_eq_false, not_false_eq_true, Nat.zero_le, Nat.le_refl, Int.toNat_zero, Nat.zero_mul, Nat.mul_zero, and_self, Nat.succ_ne_self,
  wrap64, wrap32, wrapU64, wrapU8, wrapU32, rem2_64, h20]
    refine hq _ _ ?_
    simp only [pickL, lk_cons, Nat.reduceEqDiff, ↓reduceIte, reduceCtorEq, if_true, if_false]
    clear hq q
    repeat' (first | refine wpL_seq ?_ | refine wpL_skip ?_ | refine wpL_label ?_)
    refine wpL_cond rfl (fun hd => ?_) (fun hd => ?_)
    · have hbit : M.getLsbD i = true := by simpa using hd
      repeat' (first | refine wpL_seq ?_ | refine wpL_skip ?_ | refine wpL_label ?_)
      refine wpL_region [0, 3, 4] fun q hq => ?_
      simp -implicitDefEqProofs (disch := omega) only [gO_nil, gO_cons, gN_cond, gN_val, gN_bad, outV_some, outV_none, outV_guard, outA_guard, outP_guard, outA, outP, gN_store, putd_lk, putd_lk0, lk_cons, lk_nil, ev_tmp, ev, gdO_tt, gdO_ff, gdO_tf, gdO_ft, gdO_u,
  itemsOf, itemsAt, operO, stepO, convO, callO, callB, storeO, pureA, loadA, allocA, serA, selA, binA, binInt, unA, convA, partA, TD.isAgg, TD.isBool, TD.isPtr, TD.isFunc, fieldOf, indexA, indexAddrA_sl, indexAddrA_ptr, lenA_sl, lenA_snil, lenA_str, buildA, placesA, fillA, repl, eqA, eqV, eqV.eqFs,
  ofConst, ofLeaf, ofLeafs, AV.cells, AV.leaf, List.all_cons, List.all_nil, Bool.true_and, Bool.and_true, Bool.false_and, Bool.and_false, Bool.true_or, Bool.false_or, Bool.or_false, Bool.or_true, Bool.not_true, Bool.not_false, Bool.not_not,
  Option.bind_some, Option.bind_none, Option.map_some, Option.map_none, Option.getD_some, Option.getD_none, Option.bind_eq_bind, List.getElem?_cons_zero, List.getElem?_cons_succ, List.getElem?_nil, List.getElem?_toArray, List.map_cons, List.map_nil, List.append_nil, List.nil_append, List.cons_append, List.singleton_append,
  List.take_zero, List.drop_zero, List.take_succ_cons, List.drop_succ_cons, List.take_nil, List.drop_nil, List.length_cons, List.length_nil, List.length_append, List.tail_cons, List.headD_cons, List.headD_nil, List.tail_nil,
  Nat.reduceEqDiff, Nat.reduceAdd, Nat.reduceMul, Nat.reduceLeDiff, ↓reduceIte, if_true, if_false, reduceCtorEq, true_and, and_true, false_and, and_false, decide_true, decide_false, Int.natCast_nonneg, Int.toNat_natCast, Nat.mul_one, Nat.one_mul, Nat.zero_add, Nat.add_zero, ne_eq, not_true_eq_false, not_false_eq_true, Nat.zero_le, Nat.le_refl, Int.toNat_zero, Nat.zero_mul, Nat.mul_zero, and_self, Nat.succ_ne_self,
  wrap64, wrap32, wrapU64, wrapU8, wrapU32, ti23, ti3]
      refine gN_alloc_sl fun b2 m2 hb2 hm2 hk2 => ?_
      simp -implicitDefEqProofs (disch := omega) only [gO_nil, gO_cons, gN_cond, gN_val, gN_bad, outV_some, outV_none, outV_guard, outA_guard, outP_guard, outA, outP, gN_store, putd_lk, putd_lk0, lk_cons, lk_nil, ev_tmp, ev, gdO_tt, gdO_ff, gdO_tf, gdO_ft, gdO_u,
  itemsOf, itemsAt, operO, stepO, convO, callO, callB, storeO, pureA, loadA, allocA, serA, selA, binA, binInt, unA, convA, partA, TD.isAgg, TD.isBool, TD.isPtr, TD.isFunc, fieldOf, indexA, indexAddrA_sl, indexAddrA_ptr, lenA_sl, lenA_snil, lenA_str, buildA, placesA, fillA, repl, eqA, eqV, eqV.eqFs,
  ofConst, ofLeaf, ofLeafs, AV.cells, AV.leaf, List.all_cons, List.all_nil, Bool.true_and, Bool.and_true, Bool.false_and, Bool.and_false, Bool.true_or, Bool.false_or, Bool.or_false, Bool.or_true, Bool.not_true, Bool.not_false, Bool.not_not,
  Option.bind_some, Option.bind_none, Option.map_some, Option.map_none, Option.getD_some, Option.getD_none, Option.bind_eq_bind, List.getElem?_cons_zero, List.getElem?_cons_succ, List.getElem?_nil, List.getElem?_toArray, List.map_cons, List.map_nil, List.append_nil, List.nil_append, List.cons_append, List.singleton_append,
  List.take_zero, List.drop_zero, List.take_succ_cons, List.drop_succ_cons, List.take_nil, List.drop_nil, List.length_cons, List.length_nil, List.length_append, List.tail_cons, List.headD_cons, List.headD_nil, List.tail_nil,
  Nat.reduceEqDiff, Nat.reduceAdd, Nat.reduceMul, Nat.reduceLeDiff, ↓reduceIte, if_true, if_false, reduceCtorEq, true_and, and_true, false_and, and_false, decide_true, decide_false, Int.natCast_nonneg, Int.toNat_natCast, Nat.mul_one, Nat.one_mul, Nat.zero_add, Nat.add_zero, ne_eq, not_true_eq_false, not_false_eq_true, Nat.zero_le, Nat.le_refl, Int.toNat_zero, Nat.zero_mul, Nat.mul_zero, and_self, Nat.succ_ne_self,
  wrap64, wrap32, wrapU64, wrapU8, wrapU32, ti23, ti3]
      refine gN_append ti23 rfl ti3 rfl (hO.keep0 hk2) (Src.of_ow (et := 3) (cs := [.int .i64 (i : Int)]) (.inr ⟨b2, _, rfl, hm2, rfl, rfl, rfl⟩) rfl) ?_ ?_ (hT.keep0 hk2) fun v' m3 hT3 hO3 hx3' hk3 hfr3 => ?_
      · have := memL_len M i; simp only [List.length_cons, List.length_nil]; omega
      · have := memL_len M i; simp only [List.length_cons, List.length_nil, maxInt]; omega
      simp -implicitDefEqProofs (disch := omega) only [gO_nil, gO_cons, gN_cond, gN_val, gN_bad, outV_some, outV_none, outV_guard, outA_guard, outP_guard, outA, outP, gN_store, putd_lk, putd_lk0, lk_cons, lk_nil, ev_tmp, ev, gdO_tt, gdO_ff, gdO_tf, gdO_ft, gdO_u,
  itemsOf, itemsAt, operO, stepO, convO, callO, callB, storeO, pureA, loadA, allocA, serA, selA, binA, binInt, unA, convA, partA, TD.isAgg, TD.isBool, TD.isPtr, TD.isFunc, fieldOf, indexA, indexAddrA_sl, indexAddrA_ptr, lenA_sl, lenA_snil, lenA_str, buildA, placesA, fillA, repl, eqA, eqV, eqV.eqFs,
  ofConst, ofLeaf, ofLeafs, AV.cells, AV.leaf, List.all_cons, List.all_nil, Bool.true_and, Bool.and_true, Bool.false_and, Bool.and_false, Bool.true_or, Bool.false_or, Bool.or_false, Bool.or_true, Bool.not_true, Bool.not_false, Bool.not_not,
  Option.bind_some, Option.bind_none, Option.map_some, Option.map_none, Option.getD_some, Option.getD_none, Option.bind_eq_bind, List.getElem?_cons_zero, List.getElem?_cons_succ, List.getElem?_nil, List.getElem?_toArray, List.map_cons, List.map_nil, List.append_nil, List.nil_append, List.cons_append, List.singleton_append,
  List.take_zero, List.drop_zero, List.take_succ_cons, List.drop_succ_cons, List.take_nil, List.drop_nil, List.length_cons, List.length_nil, List.length_append, List.tail_cons, List.headD_cons, List.headD_nil, List.tail_nil,
  Nat.reduceEqDiff, Nat.reduceAdd, Nat.reduceMul, Nat.reduceLeDiff, ↓reduceIte, if_true, if_false, reduceCtorEq, true_and, and_true, false_and, and_false, decide_true, decide_false, Int.natCast_nonneg, Int.toNat_natCast, Nat.mul_one, Nat.one_mul, Nat.zero_add, Nat.add_zero, ne_eq, not_true_eq_false, not_false_eq_true, Nat.zero_le, Nat.le_refl, Int.toNat_zero, Nat.zero_mul, Nat.mul_zero, and_self, Nat.succ_ne_self,
  wrap64, wrap32, wrapU64, wrapU8, wrapU32]
      refine hq _ _ ?_
      simp only [pickL, lk_cons, Nat.reduceEqDiff, ↓reduceIte, reduceCtorEq, if_true, if_false]
      clear hq q
      repeat' (first | refine wpL_seq ?_ | refine wpL_skip ?_ | refine wpL_label ?_)
      refine wpL_region [0, 3, 4] fun q hq => ?_
      simp -implicitDefEqProofs (disch := omega) only [gO_nil, gO_cons, gN_cond, gN_val, gN_bad, outV_some, outV_none, outV_guard, outA_guard, outP_guard, outA, outP, gN_store, putd_lk, putd_lk0, lk_cons, lk_nil, ev_tmp, ev, gdO_tt, gdO_ff, gdO_tf, gdO_ft, gdO_u,
  itemsOf, itemsAt, operO, stepO, convO, callO, callB, storeO, pureA, loadA, allocA, serA, selA, binA, binInt, unA, convA, partA, TD.isAgg, TD.isBool, TD.isPtr, TD.isFunc, fieldOf, indexA, indexAddrA_sl, indexAddrA_ptr, lenA_sl, lenA_snil, lenA_str, buildA, placesA, fillA, repl, eqA, eqV, eqV.eqFs,
  ofConst, ofLeaf, ofLeafs, AV.cells, AV.leaf, List.all_cons, List.all_nil, Bool.true_and, Bool.and_true, Bool.false_and, Bool.and_false, Bool.true_or, Bool.false_or, Bool.or_false, Bool.or_true, Bool.not_true, Bool.not_false, Bool.not_not,
  Option.bind_some, Option.bind_none, Option.map_some, Option.map_none, Option.getD_some, Option.getD_none, Option.bind_eq_bind, List.getElem?_cons_zero, List.getElem?_cons_succ, List.getElem?_nil, List.getElem?_toArray, List.map_cons, List.map_nil, List.append_nil, List.nil_append, List.cons_append, List.singleton_append,
  List.take_zero, List.drop_zero, List.take_succ_cons, List.drop_succ_cons, List.take_nil, List.drop_nil, List.length_cons, List.length_nil, List.length_append, List.tail_cons, List.headD_cons, List.headD_nil, List.tail_nil,
  Nat.reduceEqDiff, Nat.reduceAdd, Nat.reduceMul, Nat.reduceLeDiff, ↓reduceIte, if_true, if_false, reduceCtorEq, true_and, and_true, false_and, and_false, decide_true, decide_false, Int.natCast_nonneg, Int.toNat_natCast, Nat.mul_one, Nat.one_mul, Nat.zero_add, Nat.add_zero, ne_eq, not_true_eq_false, not_false_eq_true, Nat.zero_le, Nat.le_refl, Int.toNat_zero, Nat.zero_mul, Nat.mul_zero, and_self, Nat.succ_ne_self,
  wrap64, wrap32, wrapU64, wrapU8, wrapU32, quo2_64, h20, hsh]
      refine hq _ _ ?_
      simp only [pickL, lk_cons, Nat.reduceEqDiff, ↓reduceIte, reduceCtorEq, if_true, if_false]
      clear hq q
      repeat' (first | refine wpL_seq ?_ | refine wpL_skip ?_ | refine wpL_label ?_)
      refine wpL_nil (hn3 _ _ ?_)
      repeat' (first | refine wpL_seq ?_ | refine wpL_skip ?_ | refine wpL_label ?_)
      refine wpL_region [0, 3, 4] fun q hq => ?_
      simp -implicitDefEqProofs (disch := omega) only [gO_nil, gO_cons, gN_cond, gN_val, gN_bad, outV_some, outV_none, outV_guard, outA_guard, outP_guard, outA, outP, gN_store, putd_lk, putd_lk0, lk_cons, lk_nil, ev_tmp, ev, gdO_tt, gdO_ff, gdO_tf, gdO_ft, gdO_u,
  itemsOf, itemsAt, operO, stepO, convO, callO, callB, storeO, pureA, loadA, allocA, serA, selA, binA, binInt, unA, convA, partA, TD.isAgg, TD.isBool, TD.isPtr, TD.isFunc, fieldOf, indexA, indexAddrA_sl, indexAddrA_ptr, lenA_sl, lenA_snil, lenA_str, buildA, placesA, fillA, repl, eqA, eqV, eqV.eqFs,
  ofConst, ofLeaf, ofLeafs, AV.cells, AV.leaf, List.all_cons, List.all_nil, Bool.true_and, Bool.and_true, Bool.false_and, Bool.and_false, Bool.true_or, Bool.false_or, Bool.or_false, Bool.or_true, Bool.not_true, Bool.not_false, Bool.not_not,
  Option.bind_some, Option.bind_none, Option.map_some, Option.map_none, Option.getD_some, Option.getD_none, Option.bind_eq_bind, List.getElem?_cons_zero, List.getElem?_cons_succ, List.getElem?_nil, List.getElem?_toArray, List.map_cons, List.map_nil, List.append_nil, List.nil_append, List.cons_append, List.singleton_append,
  List.take_zero, List.drop_zero, List.take_succ_cons, List.drop_succ_cons, List.take_nil, List.drop_nil, List.length_cons, List.length_nil, List.length_append, List.tail_cons, List.headD_cons, List.headD_nil, List.tail_nil,
  Nat.reduceEqDiff, Nat.reduceAdd, Nat.reduceMul, Nat.reduceLeDiff, ↓reduceIte, if_true, if_false, reduceCtorEq, true_and, and_true, false_and, and_false, decide_true, decide_false, Int.natCast_nonneg, Int.toNat_natCast, Nat.mul_one, Nat.one_mul, Nat.zero_add, Nat.add_zero, ne_eq, not_true_eq_false, not_false_eq_true, Nat.zero_le, Nat.le_refl, Int.toNat_zero, Nat.zero_mul, Nat.mul_zero, and_self, Nat.succ_ne_self,
  wrap64, wrap32, wrapU64, wrapU8, wrapU32]
      refine hq _ _ ?_
      simp only [pickL, lk_cons, Nat.reduceEqDiff, ↓reduceIte, reduceCtorEq, if_true, if_false]
      clear hq q
      refine wpL_nil (hn2 (64 - (i + 1)) _ _ (by omega) ⟨i + 1, v', by omega, rfl, rfl, ?_, ?_, ?_, hT3⟩)
      · intro x _ kx hx
        refine hk3 x ?_ kx (hk2 x (by simp) kx (hkp x (by simp) kx hx))
        intro h; rw [hfr x (blkOf_anc hO x h)] at hx; cases hx
      · rw [memL_succ, if_pos hbit]; exact hO3
      · intro x hx
        rcases hfr3 x hx with h | h
        · cases hmx : m.blk x with
          | none => rfl
          | some kx => rw [hk2 x (by simp) kx (hkp x (by simp) kx hmx)] at h; cases h
        · rw [ancOf_keep hO hk2 (by simp)] at h; exact hfr x h
    · have hbit : ¬ M.getLsbD i = true := by simpa using hd
      repeat' (first | refine wpL_seq ?_ | refine wpL_skip ?_ | refine wpL_label ?_)
      refine wpL_region [0, 3, 4] fun q hq => ?_
      simp -implicitDefEqProofs (disch := omega) only [gO_nil, gO_cons, gN_cond, gN_val, gN_bad, outV_some, outV_none, outV_guard, outA_guard, outP_guard, outA, outP, gN_store, putd_lk, putd_lk0, lk_cons, lk_nil, ev_tmp, ev, gdO_tt, gdO_ff, gdO_tf, gdO_ft, gdO_u,
  itemsOf, itemsAt, operO, stepO, convO, callO, callB, storeO, pureA, loadA, allocA, serA, selA, binA, binInt, unA, convA, partA, TD.isAgg, TD.isBool, TD.isPtr, TD.isFunc, fieldOf, indexA, indexAddrA_sl, indexAddrA_ptr, lenA_sl, lenA_snil, lenA_str, buildA, placesA, fillA, repl, eqA, eqV, eqV.eqFs,
  ofConst, ofLeaf, ofLeafs, AV.cells, AV.leaf, List.all_cons, List.all_nil, Bool.true_and, Bool.and_true, Bool.false_and, Bool.and_false, Bool.true_or, Bool.false_or, Bool.or_false, Bool.or_true, Bool.not_true, Bool.not_false, Bool.not_not,
  Option.bind_some, Option.bind_none, Option.map_some, Option.map_none, Option.getD_some, Option.getD_none, Option.bind_eq_bind, List.getElem?_cons_zero, List.getElem?_cons_succ, List.getElem?_nil, List.getElem?_toArray, List.map_cons, List.map_nil, List.append_nil, List.nil_append, List.cons_append, List.singleton_append,
  List.take_zero, List.drop_zero, List.take_succ_cons, List.drop_succ_cons, List.take_nil, List.drop_nil, List.length_cons, List.length_nil, List.length_append, List.tail_cons, List.headD_cons, List.headD_nil, List.tail_nil,
  Nat.reduceEqDiff, Nat.reduceAdd, Nat.reduceMul, Nat.reduceLeDiff, ↓reduceIte, if_true, if_false, reduceCtorEq, true_and, and_true, false_and, and_false, decide_true, decide_false, Int.natCast_nonneg, Int.toNat_natCast, Nat.mul_one, Nat.one_mul, Nat.zero_add, Nat.add_zero, ne_eq, not_true_eq_false, not_false_eq_true, Nat.zero_le, Nat.le_refl, Int.toNat_zero, Nat.zero_mul, Nat.mul_zero, and_self, Nat.succ_ne_self,
  wrap64, wrap32, wrapU64, wrapU8, wrapU32, quo2_64, h20, hsh]
      refine hq _ _ ?_
      simp only [pickL, lk_cons, Nat.reduceEqDiff, ↓reduceIte, reduceCtorEq, if_true, if_false]
      clear hq q
      repeat' (first | refine wpL_seq ?_ | refine wpL_skip ?_ | refine wpL_label ?_)
      refine wpL_nil (hn3 _ _ ?_)
      repeat' (first | refine wpL_seq ?_ | refine wpL_skip ?_ | refine wpL_label ?_)
      refine wpL_region [0, 3, 4] fun q hq => ?_
      simp -implicitDefEqProofs (disch := omega) only [gO_nil, gO_cons, gN_cond, gN_val, gN_bad, outV_some, outV_none, outV_guard, outA_guard, outP_guard, outA, outP, gN_store, putd_lk, putd_lk0, lk_cons, lk_nil, ev_tmp, ev, gdO_tt, gdO_ff, gdO_tf, gdO_ft, gdO_u,
  itemsOf, itemsAt, operO, stepO, convO, callO, callB, storeO, pureA, loadA, allocA, serA, selA, binA, binInt, unA, convA, partA, TD.isAgg, TD.isBool, TD.isPtr, TD.isFunc, fieldOf, indexA, indexAddrA_sl, indexAddrA_ptr, lenA_sl, lenA_snil, lenA_str, buildA, placesA, fillA, repl, eqA, eqV, eqV.eqFs,
  ofConst, ofLeaf, ofLeafs, AV.cells, AV.leaf, List.all_cons, List.all_nil, Bool.true_and, Bool.and_true, Bool.false_and, Bool.and_false, Bool.true_or, Bool.false_or, Bool.or_false, Bool.or_true, Bool.not_true, Bool.not_false, Bool.not_not,
  Option.bind_some, Option.bind_none, Option.map_some, Option.map_none, Option.getD_some, Option.getD_none, Option.bind_eq_bind, List.getElem?_cons_zero, List.getElem?_cons_succ, List.getElem?_nil, List.getElem?_toArray, List.map_cons, List.map_nil, List.append_nil, List.nil_append, List.cons_append, List.singleton_append,
  List.take_zero, List.drop_zero, List.take_succ_cons, List.drop_succ_cons, List.take_nil, List.drop_nil, List.length_cons, List.length_nil, List.length_append, List.tail_cons, List.headD_cons, List.headD_nil, List.tail_nil,
  Nat.reduceEqDiff, Nat.reduceAdd, Nat.reduceMul, Nat.reduceLeDiff, ↓reduceIte, if_true, if_false, reduceCtorEq, true_and, and_true, false_and, and_false, decide_true, decide_false, Int.natCast_nonneg, Int.toNat_natCast, Nat.mul_one, Nat.one_mul, Nat.zero_add, Nat.add_zero, ne_eq, not_true_eq_false, not_false_eq_true, Nat.zero_le, Nat.le_refl, Int.toNat_zero, Nat.zero_mul, Nat.mul_zero, and_self, Nat.succ_ne_self,
  wrap64, wrap32, wrapU64, wrapU8, wrapU32]
      refine hq _ _ ?_
      simp only [pickL, lk_cons, Nat.reduceEqDiff, ↓reduceIte, reduceCtorEq, if_true, if_false]
      clear hq q
      refine wpL_nil (hn2 (64 - (i + 1)) _ _ (by omega) ⟨i + 1, v, by omega, rfl, rfl, hkp, ?_, hfr, hT⟩)
      rw [memL_succ, if_neg hbit, List.append_nil]; exact hO
  · have hin : i = 64 := by simp at hc; omega
    subst hin
    repeat' (first | refine wpL_seq ?_ | refine wpL_skip ?_ | refine wpL_label ?_)
    refine wpL_exit (hx2 _ _ _ (by simp) (hx1 _ _ ?_))
    repeat' (first | refine wpL_seq ?_ | refine wpL_skip ?_ | refine wpL_label ?_)
    refine wpL_region [2] fun q hq => ?_
    simp -implicitDefEqProofs (disch := omega) only [gO_nil, gO_cons, gN_cond, gN_val, gN_bad, outV_some, outV_none, outV_guard, outA_guard, outP_guard, outA, outP, gN_store, putd_lk, putd_lk0, lk_cons, lk_nil, ev_tmp, ev, gdO_tt, gdO_ff, gdO_tf, gdO_ft, gdO_u,
  itemsOf, itemsAt, operO, stepO, convO, callO, callB, storeO, pureA, loadA, allocA, serA, selA, binA, binInt, unA, convA, partA, TD.isAgg, TD.isBool, TD.isPtr, TD.isFunc, fieldOf, indexA, indexAddrA_sl, indexAddrA_ptr, lenA_sl, lenA_snil, lenA_str, buildA, placesA, fillA, repl, eqA, eqV, eqV.eqFs,
  ofConst, ofLeaf, ofLeafs, AV.cells, AV.leaf, List.all_cons, List.all_nil, Bool.true_and, Bool.and_true, Bool.false_and, Bool.and_false, Bool.true_or, Bool.false_or, Bool.or_false, Bool.or_true, Bool.not_true, Bool.not_false, Bool.not_not,
  Option.bind_some, Option.bind_none, Option.map_some, Option.map_none, Option.getD_some, Option.getD_none, Option.bind_eq_bind, List.getElem?_cons_zero, List.getElem?_cons_succ, List.getElem?_nil, List.getElem?_toArray, List.map_cons, List.map_nil, List.append_nil, List.nil_append, List.cons_append, List.singleton_append,
  List.take_zero, List.drop_zero, List.take_succ_cons, List.drop_succ_cons, List.take_nil, List.drop_nil, List.length_cons, List.length_nil, List.length_append, List.tail_cons, List.headD_cons, List.headD_nil, List.tail_nil,
  Nat.reduceEqDiff, Nat.reduceAdd, Nat.reduceMul, Nat.reduceLeDiff, ↓reduceIte, if_true, if_false, reduceCtorEq, true_and, and_true, false_and, and_false, decide_true, decide_false, Int.natCast_nonneg, Int.toNat_natCast, Nat.mul_one, Nat.one_mul, Nat.zero_add, Nat.add_zero, ne_eq, not_true_eq_false, not_false_eq_true, Nat.zero_le, Nat.le_refl, Int.toNat_zero, Nat.zero_mul, Nat.mul_zero, and_self, Nat.succ_ne_self,
  wrap64, wrap32, wrapU64, wrapU8, wrapU32]
    refine hq _ _ ?_
    simp only [pickL, lk_cons, Nat.reduceEqDiff, ↓reduceIte, reduceCtorEq, if_true, if_false]
    clear hq q
    repeat' (first | refine wpL_seq ?_ | refine wpL_skip ?_ | refine wpL_label ?_)
    refine wpL_ret (hK' _ _ _ _ (.inr rfl) rfl ?_)
    simp only [pickL, lk_cons, Nat.reduceEqDiff, ↓reduceIte, reduceCtorEq, if_true, if_false]
    exact hK v m' hkp hO hfr hT
end Go.Proofs.Ytchhknkflhikmaa.Am
