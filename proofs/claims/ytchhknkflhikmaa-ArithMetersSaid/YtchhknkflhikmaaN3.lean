/- The law of meters: what it answers is true. -/
import Derived.Test.YtchhknkflhikmaaN2
namespace Go.Proofs.Ytchhknkflhikmaa.Am
open Go Go.Proofs
set_option linter.unusedVariables false
set_option linter.unusedSimpArgs false
set_option maxRecDepth 100000

/-- What is known of blocks, the newest ahead. -/
structure Hv (m : Mem) (l : List (Nat × Blk)) : Prop where
  all : ∀ p ∈ l, m.blk p.1 = some p.2
  nd : (l.map (·.1)).Nodup
theorem Hv.nil {m} : Hv m [] := ⟨by simp, by simp⟩
theorem Hv.keep0 {m m' l} (h : Hv m l) (k : Keep [] m m') : Hv m' l := ⟨fun p hp => k _ (by simp) _ (h.all p hp), h.nd⟩
theorem Hv.alloc {m m' l b k} (h : Hv m l) (hb : m.blk b = none) (hb' : m'.blk b = some k) (hk : Keep [] m m') : Hv m' ((b, k) :: l) := by
  refine ⟨fun p hp => ?_, ?_⟩
  · rcases List.mem_cons.1 hp with rfl | hp
    · exact hb'
    · exact hk _ (by simp) _ (h.all p hp)
  · simp only [List.map_cons, List.nodup_cons]
    refine ⟨fun hm => ?_, h.nd⟩
    obtain ⟨p, hp, rfl⟩ := List.mem_map.1 hm
    rw [h.all p hp] at hb; cases hb
theorem Hv.store {m m' l b k k'} (h : Hv m ((b, k) :: l)) (hb' : m'.blk b = some k') (hk : Keep [b] m m') : Hv m' ((b, k') :: l) := by
  have hnd := h.nd
  simp only [List.map_cons, List.nodup_cons] at hnd
  refine ⟨fun p hp => ?_, by simpa using h.nd⟩
  rcases List.mem_cons.1 hp with rfl | hp2
  · exact hb'
  · refine hk _ ?_ _ (h.all p (by simp [hp2]))
    simp; rintro rfl
    exact hnd.1 (List.mem_map.2 ⟨p, hp2, rfl⟩)

theorem upV_range {n : Int} (h1 : -2147483648 ≤ n) (h2 : n ≤ 2147483647) : -2147483648 ≤ upV n ∧ upV n ≤ 2147483647 := by unfold upV; (repeat' split) <;> omega

theorem senseA_form (de ho : Int) (la : Bool) (l1 l2 : Int) (me raw : Bool) (h1 : -2147483648 ≤ l1 ∧ l1 ≤ 2147483647) (h2 : -2147483648 ≤ l2 ∧ l2 ≤ 2147483647) :
    ∃ a b c d, senseA de ho la l1 l2 me raw = stA a b c d := ⟨_, _, _, _, rfl⟩

theorem f5_core {m : Mem} {c : Int} {r : Bool} {nm : List UInt8} {la : Bool} {de ho l1 l2 : Int} {on me raw : Bool} (hc : -2147483648 ≤ c ∧ c ≤ 2147483647) (h1 : -2147483648 ≤ l1 ∧ l1 ≤ 2147483647) (h2 : -2147483648 ≤ l2 ∧ l2 ≤ 2147483647)
    (hde : -9223372036854775808 ≤ de ∧ de ≤ 9223372036854775807) (hho : -9223372036854775808 ≤ ho ∧ ho ≤ 9223372036854775807) :
    wpF Try.prog 5 [tmA c r, detA nm la de ho, stA l1 l2 on me, .bool raw] m fun v _ => v = .bool true := by
  refine wpF_intro (fn := Try.f5) rfl rfl (by decide) (by kernel_rfl) fun K' hK' => ?_
  repeat' (first | refine wpL_seq ?_ | refine wpL_skip ?_ | refine wpL_label ?_)
  refine wpL_region [3, 4, 5, 6] fun q hq => ?_
  simp -implicitDefEqProofs (disch := omega) only [gO_nil, gO_cons, gN_cond, gN_val, gN_bad, outV_some, outV_none, outV_guard, outA_guard, outP_guard, outA_some, outA_none, outP_some, outP_none, guardO_true, gN_store, putd_lk, putd_lk0, lk_cons, lk_nil, ev_tmp, ev, gdO_tt, gdO_ff, gdO_tf, gdO_ft, gdO_u,
  itemsOf, itemsAt, operO, stepO, convO, callO, callB, storeO, pureA, loadA, allocA, serA, selA, binA, binInt, unA, convA, partA, TD.isAgg, TD.isBool, TD.isPtr, TD.isFunc, fieldOf, indexA, indexAddrA_sl, indexAddrA_ptr, lenA_sl, lenA_snil, lenA_str, buildA, placesA, fillA, repl, eqA, eqV, eqV.eqFs,
  ofConst, ofLeaf, ofLeafs, AV.cells, AV.leaf, List.all_cons, List.all_nil, Bool.true_and, Bool.and_true, Bool.false_and, Bool.and_false, Bool.true_or, Bool.false_or, Bool.or_false, Bool.or_true, Bool.not_true, Bool.not_false, Bool.not_not,
  Option.bind_some, Option.bind_none, Option.map_some, Option.map_none, Option.getD_some, Option.getD_none, Option.bind_eq_bind, List.getElem?_cons_zero, List.getElem?_cons_succ, List.getElem?_nil, List.getElem?_toArray, List.map_cons, List.map_nil, List.append_nil, List.nil_append, List.cons_append, List.singleton_append,
  List.take_zero, List.drop_zero, List.take_succ_cons, List.drop_succ_cons, List.take_nil, List.drop_nil, List.length_cons, List.length_nil, List.length_append, List.tail_cons, List.headD_cons, List.headD_nil, List.tail_nil,
  Nat.reduceEqDiff, Nat.reduceAdd, Nat.reduceMul, Nat.reduceLeDiff, ↓reduceIte, if_true, if_false, reduceCtorEq, true_and, and_true, false_and, and_false, decide_true, decide_false, Int.natCast_nonneg, Int.toNat_natCast, Nat.mul_one, Nat.one_mul, Nat.zero_add, Nat.add_zero, ne_eq, not_true_eq_false, not_false_eq_true, Nat.zero_le, Nat.zero_lt_succ, Nat.zero_lt_one, Nat.le_refl, Int.toNat_zero, Nat.zero_mul, Nat.mul_zero, and_self, beq_self_eq_true, Nat.succ_ne_self,
  wrap64, wrap32, wrapU64, wrapU8, wrapU32, argL, ti32, ti34, ti41, detA, stA, tmA]
  refine gN_alloc_ptr fun b4 m1 hf4 hm4 hk1 => ?_
  simp -implicitDefEqProofs (disch := omega) only [gO_nil, gO_cons, gN_cond, gN_val, gN_bad, outV_some, outV_none, outV_guard, outA_guard, outP_guard, outA_some, outA_none, outP_some, outP_none, guardO_true, gN_store, putd_lk, putd_lk0, lk_cons, lk_nil, ev_tmp, ev, gdO_tt, gdO_ff, gdO_tf, gdO_ft, gdO_u,
  itemsOf, itemsAt, operO, stepO, convO, callO, callB, storeO, pureA, loadA, allocA, serA, selA, binA, binInt, unA, convA, partA, TD.isAgg, TD.isBool, TD.isPtr, TD.isFunc, fieldOf, indexA, indexAddrA_sl, indexAddrA_ptr, lenA_sl, lenA_snil, lenA_str, buildA, placesA, fillA, repl, eqA, eqV, eqV.eqFs,
  ofConst, ofLeaf, ofLeafs, AV.cells, AV.leaf, List.all_cons, List.all_nil, Bool.true_and, Bool.and_true, Bool.false_and, Bool.and_false, Bool.true_or, Bool.false_or, Bool.or_false, Bool.or_true, Bool.not_true, Bool.not_false, Bool.not_not,
  Option.bind_some, Option.bind_none, Option.map_some, Option.map_none, Option.getD_some, Option.getD_none, Option.bind_eq_bind, List.getElem?_cons_zero, List.getElem?_cons_succ, List.getElem?_nil, List.getElem?_toArray, List.map_cons, List.map_nil, List.append_nil, List.nil_append, List.cons_append, List.singleton_append,
  List.take_zero, List.drop_zero, List.take_succ_cons, List.drop_succ_cons, List.take_nil, List.drop_nil, List.length_cons, List.length_nil, List.length_append, List.tail_cons, List.headD_cons, List.headD_nil, List.tail_nil,
  Nat.reduceEqDiff, Nat.reduceAdd, Nat.reduceMul, Nat.reduceLeDiff, ↓reduceIte, if_true, if_false, reduceCtorEq, true_and, and_true, false_and, and_false, decide_true, decide_false, Int.natCast_nonneg, Int.toNat_natCast, Nat.mul_one, Nat.one_mul, Nat.zero_add, Nat.add_zero, ne_eq, not_true_eq_false, not_false_eq_true, Nat.zero_le, Nat.zero_lt_succ, Nat.zero_lt_one, Nat.le_refl, Int.toNat_zero, Nat.zero_mul, Nat.mul_zero, and_self, beq_self_eq_true, Nat.succ_ne_self,
  wrap64, wrap32, wrapU64, wrapU8, wrapU32, ti32, ti34, ti41]
  refine gN_alloc_ptr fun b5 m2 hf5 hm5 hk2 => ?_
  simp -implicitDefEqProofs (disch := omega) only [gO_nil, gO_cons, gN_cond, gN_val, gN_bad, outV_some, outV_none, outV_guard, outA_guard, outP_guard, outA_some, outA_none, outP_some, outP_none, guardO_true, gN_store, putd_lk, putd_lk0, lk_cons, lk_nil, ev_tmp, ev, gdO_tt, gdO_ff, gdO_tf, gdO_ft, gdO_u,
  itemsOf, itemsAt, operO, stepO, convO, callO, callB, storeO, pureA, loadA, allocA, serA, selA, binA, binInt, unA, convA, partA, TD.isAgg, TD.isBool, TD.isPtr, TD.isFunc, fieldOf, indexA, indexAddrA_sl, indexAddrA_ptr, lenA_sl, lenA_snil, lenA_str, buildA, placesA, fillA, repl, eqA, eqV, eqV.eqFs,
  ofConst, ofLeaf, ofLeafs, AV.cells, AV.leaf, List.all_cons, List.all_nil, Bool.true_and, Bool.and_true, Bool.false_and, Bool.and_false, Bool.true_or, Bool.false_or, Bool.or_false, Bool.or_true, Bool.not_true, Bool.not_false, Bool.not_not,
  Option.bind_some, Option.bind_none, Option.map_some, Option.map_none, Option.getD_some, Option.getD_none, Option.bind_eq_bind, List.getElem?_cons_zero, List.getElem?_cons_succ, List.getElem?_nil, List.getElem?_toArray, List.map_cons, List.map_nil, List.append_nil, List.nil_append, List.cons_append, List.singleton_append,
  List.take_zero, List.drop_zero, List.take_succ_cons, List.drop_succ_cons, List.take_nil, List.drop_nil, List.length_cons, List.length_nil, List.length_append, List.tail_cons, List.headD_cons, List.headD_nil, List.tail_nil,
  Nat.reduceEqDiff, Nat.reduceAdd, Nat.reduceMul, Nat.reduceLeDiff, ↓reduceIte, if_true, if_false, reduceCtorEq, true_and, and_true, false_and, and_false, decide_true, decide_false, Int.natCast_nonneg, Int.toNat_natCast, Nat.mul_one, Nat.one_mul, Nat.zero_add, Nat.add_zero, ne_eq, not_true_eq_false, not_false_eq_true, Nat.zero_le, Nat.zero_lt_succ, Nat.zero_lt_one, Nat.le_refl, Int.toNat_zero, Nat.zero_mul, Nat.mul_zero, and_self, beq_self_eq_true, Nat.succ_ne_self,
  wrap64, wrap32, wrapU64, wrapU8, wrapU32, ti32, ti34, ti41]
  refine gN_alloc_ptr fun b6 m3 hf6 hm6 hk3 => ?_
  simp -implicitDefEqProofs (disch := omega) only [gO_nil, gO_cons, gN_cond, gN_val, gN_bad, outV_some, outV_none, outV_guard, outA_guard, outP_guard, outA_some, outA_none, outP_some, outP_none, guardO_true, gN_store, putd_lk, putd_lk0, lk_cons, lk_nil, ev_tmp, ev, gdO_tt, gdO_ff, gdO_tf, gdO_ft, gdO_u,
  itemsOf, itemsAt, operO, stepO, convO, callO, callB, storeO, pureA, loadA, allocA, serA, selA, binA, binInt, unA, convA, partA, TD.isAgg, TD.isBool, TD.isPtr, TD.isFunc, fieldOf, indexA, indexAddrA_sl, indexAddrA_ptr, lenA_sl, lenA_snil, lenA_str, buildA, placesA, fillA, repl, eqA, eqV, eqV.eqFs,
  ofConst, ofLeaf, ofLeafs, AV.cells, AV.leaf, List.all_cons, List.all_nil, Bool.true_and, Bool.and_true, Bool.false_and, Bool.and_false, Bool.true_or, Bool.false_or, Bool.or_false, Bool.or_true, Bool.not_true, Bool.not_false, Bool.not_not,
  Option.bind_some, Option.bind_none, Option.map_some, Option.map_none, Option.getD_some, Option.getD_none, Option.bind_eq_bind, List.getElem?_cons_zero, List.getElem?_cons_succ, List.getElem?_nil, List.getElem?_toArray, List.map_cons, List.map_nil, List.append_nil, List.nil_append, List.cons_append, List.singleton_append,
  List.take_zero, List.drop_zero, List.take_succ_cons, List.drop_succ_cons, List.take_nil, List.drop_nil, List.length_cons, List.length_nil, List.length_append, List.tail_cons, List.headD_cons, List.headD_nil, List.tail_nil,
  Nat.reduceEqDiff, Nat.reduceAdd, Nat.reduceMul, Nat.reduceLeDiff, ↓reduceIte, if_true, if_false, reduceCtorEq, true_and, and_true, false_and, and_false, decide_true, decide_false, Int.natCast_nonneg, Int.toNat_natCast, Nat.mul_one, Nat.one_mul, Nat.zero_add, Nat.add_zero, ne_eq, not_true_eq_false, not_false_eq_true, Nat.zero_le, Nat.zero_lt_succ, Nat.zero_lt_one, Nat.le_refl, Int.toNat_zero, Nat.zero_mul, Nat.mul_zero, and_self, beq_self_eq_true, Nat.succ_ne_self,
  wrap64, wrap32, wrapU64, wrapU8, wrapU32]
  refine hq _ _ ?_
  simp only [pickL, lk_cons, Nat.reduceEqDiff, ↓reduceIte, reduceCtorEq, if_true, if_false]
  clear hq q
  have H := ((Hv.nil.alloc hf4 hm4 hk1).alloc hf5 hm5 hk2).alloc hf6 hm6 hk3
  have hm4 := H.all (b4, _) (.tail _ (.tail _ (.head _)))
  dsimp only at hm4
  repeat' (first | refine wpL_seq ?_ | refine wpL_skip ?_ | refine wpL_label ?_)
  refine wpL_draw [3, 4, 5, 6, 21] [0, 3, 1, 4, 2, 5, 6] [false, false, false, false, true] (by kernel_rfl) (by kernel_rfl) (by kernel_rfl) fun q hq => ?_
  simp -implicitDefEqProofs (disch := omega) only [gO_nil, gO_cons, gN_cond, gN_val, gN_bad, outV_some, outV_none, outV_guard, outA_guard, outP_guard, outA_some, outA_none, outP_some, outP_none, guardO_true, gN_store, putd_lk, putd_lk0, lk_cons, lk_nil, ev_tmp, ev, gdO_tt, gdO_ff, gdO_tf, gdO_ft, gdO_u,
  itemsOf, itemsAt, operO, stepO, convO, callO, callB, storeO, pureA, loadA, allocA, serA, selA, binA, binInt, unA, convA, partA, TD.isAgg, TD.isBool, TD.isPtr, TD.isFunc, fieldOf, indexA, indexAddrA_sl, indexAddrA_ptr, lenA_sl, lenA_snil, lenA_str, buildA, placesA, fillA, repl, eqA, eqV, eqV.eqFs,
  ofConst, ofLeaf, ofLeafs, AV.cells, AV.leaf, List.all_cons, List.all_nil, Bool.true_and, Bool.and_true, Bool.false_and, Bool.and_false, Bool.true_or, Bool.false_or, Bool.or_false, Bool.or_true, Bool.not_true, Bool.not_false, Bool.not_not,
  Option.bind_some, Option.bind_none, Option.map_some, Option.map_none, Option.getD_some, Option.getD_none, Option.bind_eq_bind, List.getElem?_cons_zero, List.getElem?_cons_succ, List.getElem?_nil, List.getElem?_toArray, List.map_cons, List.map_nil, List.append_nil, List.nil_append, List.cons_append, List.singleton_append,
  List.take_zero, List.drop_zero, List.take_succ_cons, List.drop_succ_cons, List.take_nil, List.drop_nil, List.length_cons, List.length_nil, List.length_append, List.tail_cons, List.headD_cons, List.headD_nil, List.tail_nil,
  Nat.reduceEqDiff, Nat.reduceAdd, Nat.reduceMul, Nat.reduceLeDiff, ↓reduceIte, if_true, if_false, reduceCtorEq, true_and, and_true, false_and, and_false, decide_true, decide_false, Int.natCast_nonneg, Int.toNat_natCast, Nat.mul_one, Nat.one_mul, Nat.zero_add, Nat.add_zero, ne_eq, not_true_eq_false, not_false_eq_true, Nat.zero_le, Nat.zero_lt_succ, Nat.zero_lt_one, Nat.le_refl, Int.toNat_zero, Nat.zero_mul, Nat.mul_zero, and_self, beq_self_eq_true, Nat.succ_ne_self,
  wrap64, wrap32, wrapU64, wrapU8, wrapU32, ti41, ti21, hm4]
  refine gN_call_of (f15_up hc.1 hc.2 ⟨fun _ => Ext.refl _, ?_⟩)
  simp -implicitDefEqProofs (disch := omega) only [gO_nil, gO_cons, gN_cond, gN_val, gN_bad, outV_some, outV_none, outV_guard, outA_guard, outP_guard, outA_some, outA_none, outP_some, outP_none, guardO_true, gN_store, putd_lk, putd_lk0, lk_cons, lk_nil, ev_tmp, ev, gdO_tt, gdO_ff, gdO_tf, gdO_ft, gdO_u,
  itemsOf, itemsAt, operO, stepO, convO, callO, callB, storeO, pureA, loadA, allocA, serA, selA, binA, binInt, unA, convA, partA, TD.isAgg, TD.isBool, TD.isPtr, TD.isFunc, fieldOf, indexA, indexAddrA_sl, indexAddrA_ptr, lenA_sl, lenA_snil, lenA_str, buildA, placesA, fillA, repl, eqA, eqV, eqV.eqFs,
  ofConst, ofLeaf, ofLeafs, AV.cells, AV.leaf, List.all_cons, List.all_nil, Bool.true_and, Bool.and_true, Bool.false_and, Bool.and_false, Bool.true_or, Bool.false_or, Bool.or_false, Bool.or_true, Bool.not_true, Bool.not_false, Bool.not_not,
  Option.bind_some, Option.bind_none, Option.map_some, Option.map_none, Option.getD_some, Option.getD_none, Option.bind_eq_bind, List.getElem?_cons_zero, List.getElem?_cons_succ, List.getElem?_nil, List.getElem?_toArray, List.map_cons, List.map_nil, List.append_nil, List.nil_append, List.cons_append, List.singleton_append,
  List.take_zero, List.drop_zero, List.take_succ_cons, List.drop_succ_cons, List.take_nil, List.drop_nil, List.length_cons, List.length_nil, List.length_append, List.tail_cons, List.headD_cons, List.headD_nil, List.tail_nil,
  Nat.reduceEqDiff, Nat.reduceAdd, Nat.reduceMul, Nat.reduceLeDiff, ↓reduceIte, if_true, if_false, reduceCtorEq, true_and, and_true, false_and, and_false, decide_true, decide_false, Int.natCast_nonneg, Int.toNat_natCast, Nat.mul_one, Nat.one_mul, Nat.zero_add, Nat.add_zero, ne_eq, not_true_eq_false, not_false_eq_true, Nat.zero_le, Nat.zero_lt_succ, Nat.zero_lt_one, Nat.le_refl, Int.toNat_zero, Nat.zero_mul, Nat.mul_zero, and_self, beq_self_eq_true, Nat.succ_ne_self,
  wrap64, wrap32, wrapU64, wrapU8, wrapU32, ti41, ti21, hm4]
  refine gN_callF (f16_up hc.1 hc.2 ?_)
  simp -implicitDefEqProofs (disch := omega) only [gO_nil, gO_cons, gN_cond, gN_val, gN_bad, outV_some, outV_none, outV_guard, outA_guard, outP_guard, outA_some, outA_none, outP_some, outP_none, guardO_true, gN_store, putd_lk, putd_lk0, lk_cons, lk_nil, ev_tmp, ev, gdO_tt, gdO_ff, gdO_tf, gdO_ft, gdO_u,
  itemsOf, itemsAt, operO, stepO, convO, callO, callB, storeO, pureA, loadA, allocA, serA, selA, binA, binInt, unA, convA, partA, TD.isAgg, TD.isBool, TD.isPtr, TD.isFunc, fieldOf, indexA, indexAddrA_sl, indexAddrA_ptr, lenA_sl, lenA_snil, lenA_str, buildA, placesA, fillA, repl, eqA, eqV, eqV.eqFs,
  ofConst, ofLeaf, ofLeafs, AV.cells, AV.leaf, List.all_cons, List.all_nil, Bool.true_and, Bool.and_true, Bool.false_and, Bool.and_false, Bool.true_or, Bool.false_or, Bool.or_false, Bool.or_true, Bool.not_true, Bool.not_false, Bool.not_not,
  Option.bind_some, Option.bind_none, Option.map_some, Option.map_none, Option.getD_some, Option.getD_none, Option.bind_eq_bind, List.getElem?_cons_zero, List.getElem?_cons_succ, List.getElem?_nil, List.getElem?_toArray, List.map_cons, List.map_nil, List.append_nil, List.nil_append, List.cons_append, List.singleton_append,
  List.take_zero, List.drop_zero, List.take_succ_cons, List.drop_succ_cons, List.take_nil, List.drop_nil, List.length_cons, List.length_nil, List.length_append, List.tail_cons, List.headD_cons, List.headD_nil, List.tail_nil,
  Nat.reduceEqDiff, Nat.reduceAdd, Nat.reduceMul, Nat.reduceLeDiff, ↓reduceIte, if_true, if_false, reduceCtorEq, true_and, and_true, false_and, and_false, decide_true, decide_false, Int.natCast_nonneg, Int.toNat_natCast, Nat.mul_one, Nat.one_mul, Nat.zero_add, Nat.add_zero, ne_eq, not_true_eq_false, not_false_eq_true, Nat.zero_le, Nat.zero_lt_succ, Nat.zero_lt_one, Nat.le_refl, Int.toNat_zero, Nat.zero_mul, Nat.mul_zero, and_self, beq_self_eq_true, Nat.succ_ne_self,
  wrap64, wrap32, wrapU64, wrapU8, wrapU32]
  refine hq _ _ ?_
  simp only [pickL, lk_cons, Nat.reduceEqDiff, ↓reduceIte, reduceCtorEq, if_true, if_false]
  clear hq q
  repeat' (first | refine wpL_seq ?_ | refine wpL_skip ?_ | refine wpL_label ?_)
  refine wpL_cond rfl (fun h => ?_) (fun h => ?_)
  · cases h
  clear h
  repeat' (first | refine wpL_seq ?_ | refine wpL_skip ?_ | refine wpL_label ?_)
  refine wpL_region [3, 4, 5, 6, 9] fun q hq => ?_
  simp -implicitDefEqProofs (disch := omega) only [gO_nil, gO_cons, gN_cond, gN_val, gN_bad, outV_some, outV_none, outV_guard, outA_guard, outP_guard, outA_some, outA_none, outP_some, outP_none, guardO_true, gN_store, putd_lk, putd_lk0, lk_cons, lk_nil, ev_tmp, ev, gdO_tt, gdO_ff, gdO_tf, gdO_ft, gdO_u,
  itemsOf, itemsAt, operO, stepO, convO, callO, callB, storeO, pureA, loadA, allocA, serA, selA, binA, binInt, unA, convA, partA, TD.isAgg, TD.isBool, TD.isPtr, TD.isFunc, fieldOf, indexA, indexAddrA_sl, indexAddrA_ptr, lenA_sl, lenA_snil, lenA_str, buildA, placesA, fillA, repl, eqA, eqV, eqV.eqFs,
  ofConst, ofLeaf, ofLeafs, AV.cells, AV.leaf, List.all_cons, List.all_nil, Bool.true_and, Bool.and_true, Bool.false_and, Bool.and_false, Bool.true_or, Bool.false_or, Bool.or_false, Bool.or_true, Bool.not_true, Bool.not_false, Bool.not_not,
  Option.bind_some, Option.bind_none, Option.map_some, Option.map_none, Option.getD_some, Option.getD_none, Option.bind_eq_bind, List.getElem?_cons_zero, List.getElem?_cons_succ, List.getElem?_nil, List.getElem?_toArray, List.map_cons, List.map_nil, List.append_nil, List.nil_append, List.cons_append, List.singleton_append,
  List.take_zero, List.drop_zero, List.take_succ_cons, List.drop_succ_cons, List.take_nil, List.drop_nil, List.length_cons, List.length_nil, List.length_append, List.tail_cons, List.headD_cons, List.headD_nil, List.tail_nil,
  Nat.reduceEqDiff, Nat.reduceAdd, Nat.reduceMul, Nat.reduceLeDiff, ↓reduceIte, if_true, if_false, reduceCtorEq, true_and, and_true, false_and, and_false, decide_true, decide_false, Int.natCast_nonneg, Int.toNat_natCast, Nat.mul_one, Nat.one_mul, Nat.zero_add, Nat.add_zero, ne_eq, not_true_eq_false, not_false_eq_true, Nat.zero_le, Nat.zero_lt_succ, Nat.zero_lt_one, Nat.le_refl, Int.toNat_zero, Nat.zero_mul, Nat.mul_zero, and_self, beq_self_eq_true, Nat.succ_ne_self,
  wrap64, wrap32, wrapU64, wrapU8, wrapU32, ti41, hm4]
  refine gN_callF (f17_timer (r := r) hc.1 hc.2 fun m5' hk5 => ?_)
  have H := H.keep0 hk5
  generalize hz : (if r then upV c else c) = z
  simp -implicitDefEqProofs (disch := omega) only [gO_nil, gO_cons, gN_cond, gN_val, gN_bad, outV_some, outV_none, outV_guard, outA_guard, outP_guard, outA_some, outA_none, outP_some, outP_none, guardO_true, gN_store, putd_lk, putd_lk0, lk_cons, lk_nil, ev_tmp, ev, gdO_tt, gdO_ff, gdO_tf, gdO_ft, gdO_u,
  itemsOf, itemsAt, operO, stepO, convO, callO, callB, storeO, pureA, loadA, allocA, serA, selA, binA, binInt, unA, convA, partA, TD.isAgg, TD.isBool, TD.isPtr, TD.isFunc, fieldOf, indexA, indexAddrA_sl, indexAddrA_ptr, lenA_sl, lenA_snil, lenA_str, buildA, placesA, fillA, repl, eqA, eqV, eqV.eqFs,
  ofConst, ofLeaf, ofLeafs, AV.cells, AV.leaf, List.all_cons, List.all_nil, Bool.true_and, Bool.and_true, Bool.false_and, Bool.and_false, Bool.true_or, Bool.false_or, Bool.or_false, Bool.or_true, Bool.not_true, Bool.not_false, Bool.not_not,
  Option.bind_some, Option.bind_none, Option.map_some, Option.map_none, Option.getD_some, Option.getD_none, Option.bind_eq_bind, List.getElem?_cons_zero, List.getElem?_cons_succ, List.getElem?_nil, List.getElem?_toArray, List.map_cons, List.map_nil, List.append_nil, List.nil_append, List.cons_append, List.singleton_append,
  List.take_zero, List.drop_zero, List.take_succ_cons, List.drop_succ_cons, List.take_nil, List.drop_nil, List.length_cons, List.length_nil, List.length_append, List.tail_cons, List.headD_cons, List.headD_nil, List.tail_nil,
  Nat.reduceEqDiff, Nat.reduceAdd, Nat.reduceMul, Nat.reduceLeDiff, ↓reduceIte, if_true, if_false, reduceCtorEq, true_and, and_true, false_and, and_false, decide_true, decide_false, Int.natCast_nonneg, Int.toNat_natCast, Nat.mul_one, Nat.one_mul, Nat.zero_add, Nat.add_zero, ne_eq, not_true_eq_false, not_false_eq_true, Nat.zero_le, Nat.zero_lt_succ, Nat.zero_lt_one, Nat.le_refl, Int.toNat_zero, Nat.zero_mul, Nat.mul_zero, and_self, beq_self_eq_true, Nat.succ_ne_self,
  wrap64, wrap32, wrapU64, wrapU8, wrapU32, ti41, tmA]
  refine gN_alloc_ptr fun b9 m6 hf9 hm9 hk9 => ?_
  have H := H.alloc hf9 hm9 hk9
  simp -implicitDefEqProofs (disch := omega) only [gO_nil, gO_cons, gN_cond, gN_val, gN_bad, outV_some, outV_none, outV_guard, outA_guard, outP_guard, outA_some, outA_none, outP_some, outP_none, guardO_true, gN_store, putd_lk, putd_lk0, lk_cons, lk_nil, ev_tmp, ev, gdO_tt, gdO_ff, gdO_tf, gdO_ft, gdO_u,
  itemsOf, itemsAt, operO, stepO, convO, callO, callB, storeO, pureA, loadA, allocA, serA, selA, binA, binInt, unA, convA, partA, TD.isAgg, TD.isBool, TD.isPtr, TD.isFunc, fieldOf, indexA, indexAddrA_sl, indexAddrA_ptr, lenA_sl, lenA_snil, lenA_str, buildA, placesA, fillA, repl, eqA, eqV, eqV.eqFs,
  ofConst, ofLeaf, ofLeafs, AV.cells, AV.leaf, List.all_cons, List.all_nil, Bool.true_and, Bool.and_true, Bool.false_and, Bool.and_false, Bool.true_or, Bool.false_or, Bool.or_false, Bool.or_true, Bool.not_true, Bool.not_false, Bool.not_not,
  Option.bind_some, Option.bind_none, Option.map_some, Option.map_none, Option.getD_some, Option.getD_none, Option.bind_eq_bind, List.getElem?_cons_zero, List.getElem?_cons_succ, List.getElem?_nil, List.getElem?_toArray, List.map_cons, List.map_nil, List.append_nil, List.nil_append, List.cons_append, List.singleton_append,
  List.take_zero, List.drop_zero, List.take_succ_cons, List.drop_succ_cons, List.take_nil, List.drop_nil, List.length_cons, List.length_nil, List.length_append, List.tail_cons, List.headD_cons, List.headD_nil, List.tail_nil,
  Nat.reduceEqDiff, Nat.reduceAdd, Nat.reduceMul, Nat.reduceLeDiff, ↓reduceIte, if_true, if_false, reduceCtorEq, true_and, and_true, false_and, and_false, decide_true, decide_false, Int.natCast_nonneg, Int.toNat_natCast, Nat.mul_one, Nat.one_mul, Nat.zero_add, Nat.add_zero, ne_eq, not_true_eq_false, not_false_eq_true, Nat.zero_le, Nat.zero_lt_succ, Nat.zero_lt_one, Nat.le_refl, Int.toNat_zero, Nat.zero_mul, Nat.mul_zero, and_self, beq_self_eq_true, Nat.succ_ne_self,
  wrap64, wrap32, wrapU64, wrapU8, wrapU32, ti41, hm9]
  refine gN_store_of rfl rfl fun m7 hm9 hk9 => ?_
  simp only [List.take_zero, List.take_succ_cons, List.drop_zero, List.drop_succ_cons, List.nil_append, List.cons_append, List.length_cons, List.length_nil, Nat.zero_add, Nat.reduceAdd, List.append_nil, List.drop_nil] at hm9
  have H := H.store hm9 hk9
  simp -implicitDefEqProofs (disch := omega) only [gO_nil, gO_cons, gN_cond, gN_val, gN_bad, outV_some, outV_none, outV_guard, outA_guard, outP_guard, outA_some, outA_none, outP_some, outP_none, guardO_true, gN_store, putd_lk, putd_lk0, lk_cons, lk_nil, ev_tmp, ev, gdO_tt, gdO_ff, gdO_tf, gdO_ft, gdO_u,
  itemsOf, itemsAt, operO, stepO, convO, callO, callB, storeO, pureA, loadA, allocA, serA, selA, binA, binInt, unA, convA, partA, TD.isAgg, TD.isBool, TD.isPtr, TD.isFunc, fieldOf, indexA, indexAddrA_sl, indexAddrA_ptr, lenA_sl, lenA_snil, lenA_str, buildA, placesA, fillA, repl, eqA, eqV, eqV.eqFs,
  ofConst, ofLeaf, ofLeafs, AV.cells, AV.leaf, List.all_cons, List.all_nil, Bool.true_and, Bool.and_true, Bool.false_and, Bool.and_false, Bool.true_or, Bool.false_or, Bool.or_false, Bool.or_true, Bool.not_true, Bool.not_false, Bool.not_not,
  Option.bind_some, Option.bind_none, Option.map_some, Option.map_none, Option.getD_some, Option.getD_none, Option.bind_eq_bind, List.getElem?_cons_zero, List.getElem?_cons_succ, List.getElem?_nil, List.getElem?_toArray, List.map_cons, List.map_nil, List.append_nil, List.nil_append, List.cons_append, List.singleton_append,
  List.take_zero, List.drop_zero, List.take_succ_cons, List.drop_succ_cons, List.take_nil, List.drop_nil, List.length_cons, List.length_nil, List.length_append, List.tail_cons, List.headD_cons, List.headD_nil, List.tail_nil,
  Nat.reduceEqDiff, Nat.reduceAdd, Nat.reduceMul, Nat.reduceLeDiff, ↓reduceIte, if_true, if_false, reduceCtorEq, true_and, and_true, false_and, and_false, decide_true, decide_false, Int.natCast_nonneg, Int.toNat_natCast, Nat.mul_one, Nat.one_mul, Nat.zero_add, Nat.add_zero, ne_eq, not_true_eq_false, not_false_eq_true, Nat.zero_le, Nat.zero_lt_succ, Nat.zero_lt_one, Nat.le_refl, Int.toNat_zero, Nat.zero_mul, Nat.mul_zero, and_self, beq_self_eq_true, Nat.succ_ne_self,
  wrap64, wrap32, wrapU64, wrapU8, wrapU32]
  refine hq _ _ ?_
  simp only [pickL, lk_cons, Nat.reduceEqDiff, ↓reduceIte, reduceCtorEq, if_true, if_false]
  clear hq q
  have hm4 := H.all (b4, _) (.tail _ (.tail _ (.tail _ (.head _))))
  dsimp only at hm4
  repeat' (first | refine wpL_seq ?_ | refine wpL_skip ?_ | refine wpL_label ?_)
  refine wpL_region [3, 5, 6, 9, 10] fun q hq => ?_
  simp -implicitDefEqProofs (disch := omega) only [gO_nil, gO_cons, gN_cond, gN_val, gN_bad, outV_some, outV_none, outV_guard, outA_guard, outP_guard, outA_some, outA_none, outP_some, outP_none, guardO_true, gN_store, putd_lk, putd_lk0, lk_cons, lk_nil, ev_tmp, ev, gdO_tt, gdO_ff, gdO_tf, gdO_ft, gdO_u,
  itemsOf, itemsAt, operO, stepO, convO, callO, callB, storeO, pureA, loadA, allocA, serA, selA, binA, binInt, unA, convA, partA, TD.isAgg, TD.isBool, TD.isPtr, TD.isFunc, fieldOf, indexA, indexAddrA_sl, indexAddrA_ptr, lenA_sl, lenA_snil, lenA_str, buildA, placesA, fillA, repl, eqA, eqV, eqV.eqFs,
  ofConst, ofLeaf, ofLeafs, AV.cells, AV.leaf, List.all_cons, List.all_nil, Bool.true_and, Bool.and_true, Bool.false_and, Bool.and_false, Bool.true_or, Bool.false_or, Bool.or_false, Bool.or_true, Bool.not_true, Bool.not_false, Bool.not_not,
  Option.bind_some, Option.bind_none, Option.map_some, Option.map_none, Option.getD_some, Option.getD_none, Option.bind_eq_bind, List.getElem?_cons_zero, List.getElem?_cons_succ, List.getElem?_nil, List.getElem?_toArray, List.map_cons, List.map_nil, List.append_nil, List.nil_append, List.cons_append, List.singleton_append,
  List.take_zero, List.drop_zero, List.take_succ_cons, List.drop_succ_cons, List.take_nil, List.drop_nil, List.length_cons, List.length_nil, List.length_append, List.tail_cons, List.headD_cons, List.headD_nil, List.tail_nil,
  Nat.reduceEqDiff, Nat.reduceAdd, Nat.reduceMul, Nat.reduceLeDiff, ↓reduceIte, if_true, if_false, reduceCtorEq, true_and, and_true, false_and, and_false, decide_true, decide_false, Int.natCast_nonneg, Int.toNat_natCast, Nat.mul_one, Nat.one_mul, Nat.zero_add, Nat.add_zero, ne_eq, not_true_eq_false, not_false_eq_true, Nat.zero_le, Nat.zero_lt_succ, Nat.zero_lt_one, Nat.le_refl, Int.toNat_zero, Nat.zero_mul, Nat.mul_zero, and_self, beq_self_eq_true, Nat.succ_ne_self,
  wrap64, wrap32, wrapU64, wrapU8, wrapU32, ti41, hm4]
  refine gN_callF (f18_timer (r := r) hc.1 hc.2 fun m8 hk8 => ?_)
  have H := H.keep0 hk8
  rw [hz]
  simp -implicitDefEqProofs (disch := omega) only [gO_nil, gO_cons, gN_cond, gN_val, gN_bad, outV_some, outV_none, outV_guard, outA_guard, outP_guard, outA_some, outA_none, outP_some, outP_none, guardO_true, gN_store, putd_lk, putd_lk0, lk_cons, lk_nil, ev_tmp, ev, gdO_tt, gdO_ff, gdO_tf, gdO_ft, gdO_u,
  itemsOf, itemsAt, operO, stepO, convO, callO, callB, storeO, pureA, loadA, allocA, serA, selA, binA, binInt, unA, convA, partA, TD.isAgg, TD.isBool, TD.isPtr, TD.isFunc, fieldOf, indexA, indexAddrA_sl, indexAddrA_ptr, lenA_sl, lenA_snil, lenA_str, buildA, placesA, fillA, repl, eqA, eqV, eqV.eqFs,
  ofConst, ofLeaf, ofLeafs, AV.cells, AV.leaf, List.all_cons, List.all_nil, Bool.true_and, Bool.and_true, Bool.false_and, Bool.and_false, Bool.true_or, Bool.false_or, Bool.or_false, Bool.or_true, Bool.not_true, Bool.not_false, Bool.not_not,
  Option.bind_some, Option.bind_none, Option.map_some, Option.map_none, Option.getD_some, Option.getD_none, Option.bind_eq_bind, List.getElem?_cons_zero, List.getElem?_cons_succ, List.getElem?_nil, List.getElem?_toArray, List.map_cons, List.map_nil, List.append_nil, List.nil_append, List.cons_append, List.singleton_append,
  List.take_zero, List.drop_zero, List.take_succ_cons, List.drop_succ_cons, List.take_nil, List.drop_nil, List.length_cons, List.length_nil, List.length_append, List.tail_cons, List.headD_cons, List.headD_nil, List.tail_nil,
  Nat.reduceEqDiff, Nat.reduceAdd, Nat.reduceMul, Nat.reduceLeDiff, ↓reduceIte, if_true, if_false, reduceCtorEq, true_and, and_true, false_and, and_false, decide_true, decide_false, Int.natCast_nonneg, Int.toNat_natCast, Nat.mul_one, Nat.one_mul, Nat.zero_add, Nat.add_zero, ne_eq, not_true_eq_false, not_false_eq_true, Nat.zero_le, Nat.zero_lt_succ, Nat.zero_lt_one, Nat.le_refl, Int.toNat_zero, Nat.zero_mul, Nat.mul_zero, and_self, beq_self_eq_true, Nat.succ_ne_self,
  wrap64, wrap32, wrapU64, wrapU8, wrapU32, ti41, tmA]
  refine gN_alloc_ptr fun b10 m9 hf10 hm10 hk10 => ?_
  have H := H.alloc hf10 hm10 hk10
  simp -implicitDefEqProofs (disch := omega) only [gO_nil, gO_cons, gN_cond, gN_val, gN_bad, outV_some, outV_none, outV_guard, outA_guard, outP_guard, outA_some, outA_none, outP_some, outP_none, guardO_true, gN_store, putd_lk, putd_lk0, lk_cons, lk_nil, ev_tmp, ev, gdO_tt, gdO_ff, gdO_tf, gdO_ft, gdO_u,
  itemsOf, itemsAt, operO, stepO, convO, callO, callB, storeO, pureA, loadA, allocA, serA, selA, binA, binInt, unA, convA, partA, TD.isAgg, TD.isBool, TD.isPtr, TD.isFunc, fieldOf, indexA, indexAddrA_sl, indexAddrA_ptr, lenA_sl, lenA_snil, lenA_str, buildA, placesA, fillA, repl, eqA, eqV, eqV.eqFs,
  ofConst, ofLeaf, ofLeafs, AV.cells, AV.leaf, List.all_cons, List.all_nil, Bool.true_and, Bool.and_true, Bool.false_and, Bool.and_false, Bool.true_or, Bool.false_or, Bool.or_false, Bool.or_true, Bool.not_true, Bool.not_false, Bool.not_not,
  Option.bind_some, Option.bind_none, Option.map_some, Option.map_none, Option.getD_some, Option.getD_none, Option.bind_eq_bind, List.getElem?_cons_zero, List.getElem?_cons_succ, List.getElem?_nil, List.getElem?_toArray, List.map_cons, List.map_nil, List.append_nil, List.nil_append, List.cons_append, List.singleton_append,
  List.take_zero, List.drop_zero, List.take_succ_cons, List.drop_succ_cons, List.take_nil, List.drop_nil, List.length_cons, List.length_nil, List.length_append, List.tail_cons, List.headD_cons, List.headD_nil, List.tail_nil,
  Nat.reduceEqDiff, Nat.reduceAdd, Nat.reduceMul, Nat.reduceLeDiff, ↓reduceIte, if_true, if_false, reduceCtorEq, true_and, and_true, false_and, and_false, decide_true, decide_false, Int.natCast_nonneg, Int.toNat_natCast, Nat.mul_one, Nat.one_mul, Nat.zero_add, Nat.add_zero, ne_eq, not_true_eq_false, not_false_eq_true, Nat.zero_le, Nat.zero_lt_succ, Nat.zero_lt_one, Nat.le_refl, Int.toNat_zero, Nat.zero_mul, Nat.mul_zero, and_self, beq_self_eq_true, Nat.succ_ne_self,
  wrap64, wrap32, wrapU64, wrapU8, wrapU32, ti41, hm10]
  refine gN_store_of rfl rfl fun m10 hm10 hk10 => ?_
  simp only [List.take_zero, List.take_succ_cons, List.drop_zero, List.drop_succ_cons, List.nil_append, List.cons_append, List.length_cons, List.length_nil, Nat.zero_add, Nat.reduceAdd, List.append_nil, List.drop_nil] at hm10
  have H := H.store hm10 hk10
  simp -implicitDefEqProofs (disch := omega) only [gO_nil, gO_cons, gN_cond, gN_val, gN_bad, outV_some, outV_none, outV_guard, outA_guard, outP_guard, outA_some, outA_none, outP_some, outP_none, guardO_true, gN_store, putd_lk, putd_lk0, lk_cons, lk_nil, ev_tmp, ev, gdO_tt, gdO_ff, gdO_tf, gdO_ft, gdO_u,
  itemsOf, itemsAt, operO, stepO, convO, callO, callB, storeO, pureA, loadA, allocA, serA, selA, binA, binInt, unA, convA, partA, TD.isAgg, TD.isBool, TD.isPtr, TD.isFunc, fieldOf, indexA, indexAddrA_sl, indexAddrA_ptr, lenA_sl, lenA_snil, lenA_str, buildA, placesA, fillA, repl, eqA, eqV, eqV.eqFs,
  ofConst, ofLeaf, ofLeafs, AV.cells, AV.leaf, List.all_cons, List.all_nil, Bool.true_and, Bool.and_true, Bool.false_and, Bool.and_false, Bool.true_or, Bool.false_or, Bool.or_false, Bool.or_true, Bool.not_true, Bool.not_false, Bool.not_not,
  Option.bind_some, Option.bind_none, Option.map_some, Option.map_none, Option.getD_some, Option.getD_none, Option.bind_eq_bind, List.getElem?_cons_zero, List.getElem?_cons_succ, List.getElem?_nil, List.getElem?_toArray, List.map_cons, List.map_nil, List.append_nil, List.nil_append, List.cons_append, List.singleton_append,
  List.take_zero, List.drop_zero, List.take_succ_cons, List.drop_succ_cons, List.take_nil, List.drop_nil, List.length_cons, List.length_nil, List.length_append, List.tail_cons, List.headD_cons, List.headD_nil, List.tail_nil,
  Nat.reduceEqDiff, Nat.reduceAdd, Nat.reduceMul, Nat.reduceLeDiff, ↓reduceIte, if_true, if_false, reduceCtorEq, true_and, and_true, false_and, and_false, decide_true, decide_false, Int.natCast_nonneg, Int.toNat_natCast, Nat.mul_one, Nat.one_mul, Nat.zero_add, Nat.add_zero, ne_eq, not_true_eq_false, not_false_eq_true, Nat.zero_le, Nat.zero_lt_succ, Nat.zero_lt_one, Nat.le_refl, Int.toNat_zero, Nat.zero_mul, Nat.mul_zero, and_self, beq_self_eq_true, Nat.succ_ne_self,
  wrap64, wrap32, wrapU64, wrapU8, wrapU32]
  refine hq _ _ ?_
  simp only [pickL, lk_cons, Nat.reduceEqDiff, ↓reduceIte, reduceCtorEq, if_true, if_false]
  clear hq q
  have q10 := H.all (b10, _) (.head _)
  have q9 := H.all (b9, _) (.tail _ (.head _))
  have q6 := H.all (b6, _) (.tail _ (.tail _ (.head _)))
  have q5 := H.all (b5, _) (.tail _ (.tail _ (.tail _ (.head _))))
  dsimp only at q10 q9 q6 q5
  repeat' (first | refine wpL_seq ?_ | refine wpL_skip ?_ | refine wpL_label ?_)
  refine wpL_region [3, 5, 6, 37] fun q hq => ?_
  simp -implicitDefEqProofs (disch := omega) only [gO_nil, gO_cons, gN_cond, gN_val, gN_bad, outV_some, outV_none, outV_guard, outA_guard, outP_guard, outA_some, outA_none, outP_some, outP_none, guardO_true, gN_store, putd_lk, putd_lk0, lk_cons, lk_nil, ev_tmp, ev, gdO_tt, gdO_ff, gdO_tf, gdO_ft, gdO_u,
  itemsOf, itemsAt, operO, stepO, convO, callO, callB, storeO, pureA, loadA, allocA, serA, selA, binA, binInt, unA, convA, partA, TD.isAgg, TD.isBool, TD.isPtr, TD.isFunc, fieldOf, indexA, indexAddrA_sl, indexAddrA_ptr, lenA_sl, lenA_snil, lenA_str, buildA, placesA, fillA, repl, eqA, eqV, eqV.eqFs,
  ofConst, ofLeaf, ofLeafs, AV.cells, AV.leaf, List.all_cons, List.all_nil, Bool.true_and, Bool.and_true, Bool.false_and, Bool.and_false, Bool.true_or, Bool.false_or, Bool.or_false, Bool.or_true, Bool.not_true, Bool.not_false, Bool.not_not,
  Option.bind_some, Option.bind_none, Option.map_some, Option.map_none, Option.getD_some, Option.getD_none, Option.bind_eq_bind, List.getElem?_cons_zero, List.getElem?_cons_succ, List.getElem?_nil, List.getElem?_toArray, List.map_cons, List.map_nil, List.append_nil, List.nil_append, List.cons_append, List.singleton_append,
  List.take_zero, List.drop_zero, List.take_succ_cons, List.drop_succ_cons, List.take_nil, List.drop_nil, List.length_cons, List.length_nil, List.length_append, List.tail_cons, List.headD_cons, List.headD_nil, List.tail_nil,
  Nat.reduceEqDiff, Nat.reduceAdd, Nat.reduceMul, Nat.reduceLeDiff, ↓reduceIte, if_true, if_false, reduceCtorEq, true_and, and_true, false_and, and_false, decide_true, decide_false, Int.natCast_nonneg, Int.toNat_natCast, Nat.mul_one, Nat.one_mul, Nat.zero_add, Nat.add_zero, ne_eq, not_true_eq_false, not_false_eq_true, Nat.zero_le, Nat.zero_lt_succ, Nat.zero_lt_one, Nat.le_refl, Int.toNat_zero, Nat.zero_mul, Nat.mul_zero, and_self, beq_self_eq_true, Nat.succ_ne_self,
  wrap64, wrap32, wrapU64, wrapU8, wrapU32, ti41, ti21, ti4, q10, q9]
  refine hq _ _ ?_
  simp only [pickL, lk_cons, Nat.reduceEqDiff, ↓reduceIte, reduceCtorEq, if_true, if_false]
  clear hq q
  repeat' (first | refine wpL_seq ?_ | refine wpL_skip ?_ | refine wpL_label ?_)
  refine wpL_cond rfl (fun h => ?_) (fun h => ?_)
  · cases h
  clear h
  repeat' (first | refine wpL_seq ?_ | refine wpL_skip ?_ | refine wpL_label ?_)
  refine wpL_region [3, 5, 6, 11] fun q hq => ?_
  simp -implicitDefEqProofs (disch := omega) only [gO_nil, gO_cons, gN_cond, gN_val, gN_bad, outV_some, outV_none, outV_guard, outA_guard, outP_guard, outA_some, outA_none, outP_some, outP_none, guardO_true, gN_store, putd_lk, putd_lk0, lk_cons, lk_nil, ev_tmp, ev, gdO_tt, gdO_ff, gdO_tf, gdO_ft, gdO_u,
  itemsOf, itemsAt, operO, stepO, convO, callO, callB, storeO, pureA, loadA, allocA, serA, selA, binA, binInt, unA, convA, partA, TD.isAgg, TD.isBool, TD.isPtr, TD.isFunc, fieldOf, indexA, indexAddrA_sl, indexAddrA_ptr, lenA_sl, lenA_snil, lenA_str, buildA, placesA, fillA, repl, eqA, eqV, eqV.eqFs,
  ofConst, ofLeaf, ofLeafs, AV.cells, AV.leaf, List.all_cons, List.all_nil, Bool.true_and, Bool.and_true, Bool.false_and, Bool.and_false, Bool.true_or, Bool.false_or, Bool.or_false, Bool.or_true, Bool.not_true, Bool.not_false, Bool.not_not,
  Option.bind_some, Option.bind_none, Option.map_some, Option.map_none, Option.getD_some, Option.getD_none, Option.bind_eq_bind, List.getElem?_cons_zero, List.getElem?_cons_succ, List.getElem?_nil, List.getElem?_toArray, List.map_cons, List.map_nil, List.append_nil, List.nil_append, List.cons_append, List.singleton_append,
  List.take_zero, List.drop_zero, List.take_succ_cons, List.drop_succ_cons, List.take_nil, List.drop_nil, List.length_cons, List.length_nil, List.length_append, List.tail_cons, List.headD_cons, List.headD_nil, List.tail_nil,
  Nat.reduceEqDiff, Nat.reduceAdd, Nat.reduceMul, Nat.reduceLeDiff, ↓reduceIte, if_true, if_false, reduceCtorEq, true_and, and_true, false_and, and_false, decide_true, decide_false, Int.natCast_nonneg, Int.toNat_natCast, Nat.mul_one, Nat.one_mul, Nat.zero_add, Nat.add_zero, ne_eq, not_true_eq_false, not_false_eq_true, Nat.zero_le, Nat.zero_lt_succ, Nat.zero_lt_one, Nat.le_refl, Int.toNat_zero, Nat.zero_mul, Nat.mul_zero, and_self, beq_self_eq_true, Nat.succ_ne_self,
  wrap64, wrap32, wrapU64, wrapU8, wrapU32, ti32, ti34, q5, q6]
  refine gN_callF (f11_sense h1 h2 hde hho fun m11 hk11 => ?_)
  have H := H.keep0 hk11
  obtain ⟨s1, s2, s3, s4, hs⟩ := senseA_form de ho la l1 l2 me raw h1 h2
  rw [hs]
  simp -implicitDefEqProofs (disch := omega) only [gO_nil, gO_cons, gN_cond, gN_val, gN_bad, outV_some, outV_none, outV_guard, outA_guard, outP_guard, outA_some, outA_none, outP_some, outP_none, guardO_true, gN_store, putd_lk, putd_lk0, lk_cons, lk_nil, ev_tmp, ev, gdO_tt, gdO_ff, gdO_tf, gdO_ft, gdO_u,
  itemsOf, itemsAt, operO, stepO, convO, callO, callB, storeO, pureA, loadA, allocA, serA, selA, binA, binInt, unA, convA, partA, TD.isAgg, TD.isBool, TD.isPtr, TD.isFunc, fieldOf, indexA, indexAddrA_sl, indexAddrA_ptr, lenA_sl, lenA_snil, lenA_str, buildA, placesA, fillA, repl, eqA, eqV, eqV.eqFs,
  ofConst, ofLeaf, ofLeafs, AV.cells, AV.leaf, List.all_cons, List.all_nil, Bool.true_and, Bool.and_true, Bool.false_and, Bool.and_false, Bool.true_or, Bool.false_or, Bool.or_false, Bool.or_true, Bool.not_true, Bool.not_false, Bool.not_not,
  Option.bind_some, Option.bind_none, Option.map_some, Option.map_none, Option.getD_some, Option.getD_none, Option.bind_eq_bind, List.getElem?_cons_zero, List.getElem?_cons_succ, List.getElem?_nil, List.getElem?_toArray, List.map_cons, List.map_nil, List.append_nil, List.nil_append, List.cons_append, List.singleton_append,
  List.take_zero, List.drop_zero, List.take_succ_cons, List.drop_succ_cons, List.take_nil, List.drop_nil, List.length_cons, List.length_nil, List.length_append, List.tail_cons, List.headD_cons, List.headD_nil, List.tail_nil,
  Nat.reduceEqDiff, Nat.reduceAdd, Nat.reduceMul, Nat.reduceLeDiff, ↓reduceIte, if_true, if_false, reduceCtorEq, true_and, and_true, false_and, and_false, decide_true, decide_false, Int.natCast_nonneg, Int.toNat_natCast, Nat.mul_one, Nat.one_mul, Nat.zero_add, Nat.add_zero, ne_eq, not_true_eq_false, not_false_eq_true, Nat.zero_le, Nat.zero_lt_succ, Nat.zero_lt_one, Nat.le_refl, Int.toNat_zero, Nat.zero_mul, Nat.mul_zero, and_self, beq_self_eq_true, Nat.succ_ne_self,
  wrap64, wrap32, wrapU64, wrapU8, wrapU32, ti34, stA]
  refine gN_alloc_ptr fun b11 m12 hf11 hm11 hk11 => ?_
  have H := H.alloc hf11 hm11 hk11
  simp -implicitDefEqProofs (disch := omega) only [gO_nil, gO_cons, gN_cond, gN_val, gN_bad, outV_some, outV_none, outV_guard, outA_guard, outP_guard, outA_some, outA_none, outP_some, outP_none, guardO_true, gN_store, putd_lk, putd_lk0, lk_cons, lk_nil, ev_tmp, ev, gdO_tt, gdO_ff, gdO_tf, gdO_ft, gdO_u,
  itemsOf, itemsAt, operO, stepO, convO, callO, callB, storeO, pureA, loadA, allocA, serA, selA, binA, binInt, unA, convA, partA, TD.isAgg, TD.isBool, TD.isPtr, TD.isFunc, fieldOf, indexA, indexAddrA_sl, indexAddrA_ptr, lenA_sl, lenA_snil, lenA_str, buildA, placesA, fillA, repl, eqA, eqV, eqV.eqFs,
  ofConst, ofLeaf, ofLeafs, AV.cells, AV.leaf, List.all_cons, List.all_nil, Bool.true_and, Bool.and_true, Bool.false_and, Bool.and_false, Bool.true_or, Bool.false_or, Bool.or_false, Bool.or_true, Bool.not_true, Bool.not_false, Bool.not_not,
  Option.bind_some, Option.bind_none, Option.map_some, Option.map_none, Option.getD_some, Option.getD_none, Option.bind_eq_bind, List.getElem?_cons_zero, List.getElem?_cons_succ, List.getElem?_nil, List.getElem?_toArray, List.map_cons, List.map_nil, List.append_nil, List.nil_append, List.cons_append, List.singleton_append,
  List.take_zero, List.drop_zero, List.take_succ_cons, List.drop_succ_cons, List.take_nil, List.drop_nil, List.length_cons, List.length_nil, List.length_append, List.tail_cons, List.headD_cons, List.headD_nil, List.tail_nil,
  Nat.reduceEqDiff, Nat.reduceAdd, Nat.reduceMul, Nat.reduceLeDiff, ↓reduceIte, if_true, if_false, reduceCtorEq, true_and, and_true, false_and, and_false, decide_true, decide_false, Int.natCast_nonneg, Int.toNat_natCast, Nat.mul_one, Nat.one_mul, Nat.zero_add, Nat.add_zero, ne_eq, not_true_eq_false, not_false_eq_true, Nat.zero_le, Nat.zero_lt_succ, Nat.zero_lt_one, Nat.le_refl, Int.toNat_zero, Nat.zero_mul, Nat.mul_zero, and_self, beq_self_eq_true, Nat.succ_ne_self,
  wrap64, wrap32, wrapU64, wrapU8, wrapU32, ti34, hm11]
  refine gN_store_of rfl rfl fun m12 hm11 hk11 => ?_
  simp only [List.take_zero, List.take_succ_cons, List.drop_zero, List.drop_succ_cons, List.nil_append, List.cons_append, List.length_cons, List.length_nil, Nat.zero_add, Nat.reduceAdd, List.append_nil, List.drop_nil] at hm11
  have H := H.store hm11 hk11
  simp -implicitDefEqProofs (disch := omega) only [gO_nil, gO_cons, gN_cond, gN_val, gN_bad, outV_some, outV_none, outV_guard, outA_guard, outP_guard, outA_some, outA_none, outP_some, outP_none, guardO_true, gN_store, putd_lk, putd_lk0, lk_cons, lk_nil, ev_tmp, ev, gdO_tt, gdO_ff, gdO_tf, gdO_ft, gdO_u,
  itemsOf, itemsAt, operO, stepO, convO, callO, callB, storeO, pureA, loadA, allocA, serA, selA, binA, binInt, unA, convA, partA, TD.isAgg, TD.isBool, TD.isPtr, TD.isFunc, fieldOf, indexA, indexAddrA_sl, indexAddrA_ptr, lenA_sl, lenA_snil, lenA_str, buildA, placesA, fillA, repl, eqA, eqV, eqV.eqFs,
  ofConst, ofLeaf, ofLeafs, AV.cells, AV.leaf, List.all_cons, List.all_nil, Bool.true_and, Bool.and_true, Bool.false_and, Bool.and_false, Bool.true_or, Bool.false_or, Bool.or_false, Bool.or_true, Bool.not_true, Bool.not_false, Bool.not_not,
  Option.bind_some, Option.bind_none, Option.map_some, Option.map_none, Option.getD_some, Option.getD_none, Option.bind_eq_bind, List.getElem?_cons_zero, List.getElem?_cons_succ, List.getElem?_nil, List.getElem?_toArray, List.map_cons, List.map_nil, List.append_nil, List.nil_append, List.cons_append, List.singleton_append,
  List.take_zero, List.drop_zero, List.take_succ_cons, List.drop_succ_cons, List.take_nil, List.drop_nil, List.length_cons, List.length_nil, List.length_append, List.tail_cons, List.headD_cons, List.headD_nil, List.tail_nil,
  Nat.reduceEqDiff, Nat.reduceAdd, Nat.reduceMul, Nat.reduceLeDiff, ↓reduceIte, if_true, if_false, reduceCtorEq, true_and, and_true, false_and, and_false, decide_true, decide_false, Int.natCast_nonneg, Int.toNat_natCast, Nat.mul_one, Nat.one_mul, Nat.zero_add, Nat.add_zero, ne_eq, not_true_eq_false, not_false_eq_true, Nat.zero_le, Nat.zero_lt_succ, Nat.zero_lt_one, Nat.le_refl, Int.toNat_zero, Nat.zero_mul, Nat.mul_zero, and_self, beq_self_eq_true, Nat.succ_ne_self,
  wrap64, wrap32, wrapU64, wrapU8, wrapU32]
  refine hq _ _ ?_
  simp only [pickL, lk_cons, Nat.reduceEqDiff, ↓reduceIte, reduceCtorEq, if_true, if_false]
  clear hq q
  have q6 := H.all (b6, _) (.tail _ (.tail _ (.tail _ (.head _))))
  have q5 := H.all (b5, _) (.tail _ (.tail _ (.tail _ (.tail _ (.head _)))))
  dsimp only at q6 q5
  repeat' (first | refine wpL_seq ?_ | refine wpL_skip ?_ | refine wpL_label ?_)
  refine wpL_region [5, 6, 11, 12] fun q hq => ?_
  simp -implicitDefEqProofs (disch := omega) only [gO_nil, gO_cons, gN_cond, gN_val, gN_bad, outV_some, outV_none, outV_guard, outA_guard, outP_guard, outA_some, outA_none, outP_some, outP_none, guardO_true, gN_store, putd_lk, putd_lk0, lk_cons, lk_nil, ev_tmp, ev, gdO_tt, gdO_ff, gdO_tf, gdO_ft, gdO_u,
  itemsOf, itemsAt, operO, stepO, convO, callO, callB, storeO, pureA, loadA, allocA, serA, selA, binA, binInt, unA, convA, partA, TD.isAgg, TD.isBool, TD.isPtr, TD.isFunc, fieldOf, indexA, indexAddrA_sl, indexAddrA_ptr, lenA_sl, lenA_snil, lenA_str, buildA, placesA, fillA, repl, eqA, eqV, eqV.eqFs,
  ofConst, ofLeaf, ofLeafs, AV.cells, AV.leaf, List.all_cons, List.all_nil, Bool.true_and, Bool.and_true, Bool.false_and, Bool.and_false, Bool.true_or, Bool.false_or, Bool.or_false, Bool.or_true, Bool.not_true, Bool.not_false, Bool.not_not,
  Option.bind_some, Option.bind_none, Option.map_some, Option.map_none, Option.getD_some, Option.getD_none, Option.bind_eq_bind, List.getElem?_cons_zero, List.getElem?_cons_succ, List.getElem?_nil, List.getElem?_toArray, List.map_cons, List.map_nil, List.append_nil, List.nil_append, List.cons_append, List.singleton_append,
  List.take_zero, List.drop_zero, List.take_succ_cons, List.drop_succ_cons, List.take_nil, List.drop_nil, List.length_cons, List.length_nil, List.length_append, List.tail_cons, List.headD_cons, List.headD_nil, List.tail_nil,
  Nat.reduceEqDiff, Nat.reduceAdd, Nat.reduceMul, Nat.reduceLeDiff, ↓reduceIte, if_true, if_false, reduceCtorEq, true_and, and_true, false_and, and_false, decide_true, decide_false, Int.natCast_nonneg, Int.toNat_natCast, Nat.mul_one, Nat.one_mul, Nat.zero_add, Nat.add_zero, ne_eq, not_true_eq_false, not_false_eq_true, Nat.zero_le, Nat.zero_lt_succ, Nat.zero_lt_one, Nat.le_refl, Int.toNat_zero, Nat.zero_mul, Nat.mul_zero, and_self, beq_self_eq_true, Nat.succ_ne_self,
  wrap64, wrap32, wrapU64, wrapU8, wrapU32, ti32, ti34, q5, q6]
  refine gN_callF (f19_sense h1 h2 hde hho fun m13 hk13 => ?_)
  have H := H.keep0 hk13
  rw [hs]
  simp -implicitDefEqProofs (disch := omega) only [gO_nil, gO_cons, gN_cond, gN_val, gN_bad, outV_some, outV_none, outV_guard, outA_guard, outP_guard, outA_some, outA_none, outP_some, outP_none, guardO_true, gN_store, putd_lk, putd_lk0, lk_cons, lk_nil, ev_tmp, ev, gdO_tt, gdO_ff, gdO_tf, gdO_ft, gdO_u,
  itemsOf, itemsAt, operO, stepO, convO, callO, callB, storeO, pureA, loadA, allocA, serA, selA, binA, binInt, unA, convA, partA, TD.isAgg, TD.isBool, TD.isPtr, TD.isFunc, fieldOf, indexA, indexAddrA_sl, indexAddrA_ptr, lenA_sl, lenA_snil, lenA_str, buildA, placesA, fillA, repl, eqA, eqV, eqV.eqFs,
  ofConst, ofLeaf, ofLeafs, AV.cells, AV.leaf, List.all_cons, List.all_nil, Bool.true_and, Bool.and_true, Bool.false_and, Bool.and_false, Bool.true_or, Bool.false_or, Bool.or_false, Bool.or_true, Bool.not_true, Bool.not_false, Bool.not_not,
  Option.bind_some, Option.bind_none, Option.map_some, Option.map_none, Option.getD_some, Option.getD_none, Option.bind_eq_bind, List.getElem?_cons_zero, List.getElem?_cons_succ, List.getElem?_nil, List.getElem?_toArray, List.map_cons, List.map_nil, List.append_nil, List.nil_append, List.cons_append, List.singleton_append,
  List.take_zero, List.drop_zero, List.take_succ_cons, List.drop_succ_cons, List.take_nil, List.drop_nil, List.length_cons, List.length_nil, List.length_append, List.tail_cons, List.headD_cons, List.headD_nil, List.tail_nil,
  Nat.reduceEqDiff, Nat.reduceAdd, Nat.reduceMul, Nat.reduceLeDiff, ↓reduceIte, if_true, if_false, reduceCtorEq, true_and, and_true, false_and, and_false, decide_true, decide_false, Int.natCast_nonneg, Int.toNat_natCast, Nat.mul_one, Nat.one_mul, Nat.zero_add, Nat.add_zero, ne_eq, not_true_eq_false, not_false_eq_true, Nat.zero_le, Nat.zero_lt_succ, Nat.zero_lt_one, Nat.le_refl, Int.toNat_zero, Nat.zero_mul, Nat.mul_zero, and_self, beq_self_eq_true, Nat.succ_ne_self,
  wrap64, wrap32, wrapU64, wrapU8, wrapU32, ti34, stA]
  refine gN_alloc_ptr fun b12 m14 hf12 hm12 hk12 => ?_
  have H := H.alloc hf12 hm12 hk12
  simp -implicitDefEqProofs (disch := omega) only [gO_nil, gO_cons, gN_cond, gN_val, gN_bad, outV_some, outV_none, outV_guard, outA_guard, outP_guard, outA_some, outA_none, outP_some, outP_none, guardO_true, gN_store, putd_lk, putd_lk0, lk_cons, lk_nil, ev_tmp, ev, gdO_tt, gdO_ff, gdO_tf, gdO_ft, gdO_u,
  itemsOf, itemsAt, operO, stepO, convO, callO, callB, storeO, pureA, loadA, allocA, serA, selA, binA, binInt, unA, convA, partA, TD.isAgg, TD.isBool, TD.isPtr, TD.isFunc, fieldOf, indexA, indexAddrA_sl, indexAddrA_ptr, lenA_sl, lenA_snil, lenA_str, buildA, placesA, fillA, repl, eqA, eqV, eqV.eqFs,
  ofConst, ofLeaf, ofLeafs, AV.cells, AV.leaf, List.all_cons, List.all_nil, Bool.true_and, Bool.and_true, Bool.false_and, Bool.and_false, Bool.true_or, Bool.false_or, Bool.or_false, Bool.or_true, Bool.not_true, Bool.not_false, Bool.not_not,
  Option.bind_some, Option.bind_none, Option.map_some, Option.map_none, Option.getD_some, Option.getD_none, Option.bind_eq_bind, List.getElem?_cons_zero, List.getElem?_cons_succ, List.getElem?_nil, List.getElem?_toArray, List.map_cons, List.map_nil, List.append_nil, List.nil_append, List.cons_append, List.singleton_append,
  List.take_zero, List.drop_zero, List.take_succ_cons, List.drop_succ_cons, List.take_nil, List.drop_nil, List.length_cons, List.length_nil, List.length_append, List.tail_cons, List.headD_cons, List.headD_nil, List.tail_nil,
  Nat.reduceEqDiff, Nat.reduceAdd, Nat.reduceMul, Nat.reduceLeDiff, ↓reduceIte, if_true, if_false, reduceCtorEq, true_and, and_true, false_and, and_false, decide_true, decide_false, Int.natCast_nonneg, Int.toNat_natCast, Nat.mul_one, Nat.one_mul, Nat.zero_add, Nat.add_zero, ne_eq, not_true_eq_false, not_false_eq_true, Nat.zero_le, Nat.zero_lt_succ, Nat.zero_lt_one, Nat.le_refl, Int.toNat_zero, Nat.zero_mul, Nat.mul_zero, and_self, beq_self_eq_true, Nat.succ_ne_self,
  wrap64, wrap32, wrapU64, wrapU8, wrapU32, ti34, hm12]
  refine gN_store_of rfl rfl fun m15 hm12 hk12 => ?_
  simp only [List.take_zero, List.take_succ_cons, List.drop_zero, List.drop_succ_cons, List.nil_append, List.cons_append, List.length_cons, List.length_nil, Nat.zero_add, Nat.reduceAdd, List.append_nil, List.drop_nil] at hm12
  have H := H.store hm12 hk12
  simp -implicitDefEqProofs (disch := omega) only [gO_nil, gO_cons, gN_cond, gN_val, gN_bad, outV_some, outV_none, outV_guard, outA_guard, outP_guard, outA_some, outA_none, outP_some, outP_none, guardO_true, gN_store, putd_lk, putd_lk0, lk_cons, lk_nil, ev_tmp, ev, gdO_tt, gdO_ff, gdO_tf, gdO_ft, gdO_u,
  itemsOf, itemsAt, operO, stepO, convO, callO, callB, storeO, pureA, loadA, allocA, serA, selA, binA, binInt, unA, convA, partA, TD.isAgg, TD.isBool, TD.isPtr, TD.isFunc, fieldOf, indexA, indexAddrA_sl, indexAddrA_ptr, lenA_sl, lenA_snil, lenA_str, buildA, placesA, fillA, repl, eqA, eqV, eqV.eqFs,
  ofConst, ofLeaf, ofLeafs, AV.cells, AV.leaf, List.all_cons, List.all_nil, Bool.true_and, Bool.and_true, Bool.false_and, Bool.and_false, Bool.true_or, Bool.false_or, Bool.or_false, Bool.or_true, Bool.not_true, Bool.not_false, Bool.not_not,
  Option.bind_some, Option.bind_none, Option.map_some, Option.map_none, Option.getD_some, Option.getD_none, Option.bind_eq_bind, List.getElem?_cons_zero, List.getElem?_cons_succ, List.getElem?_nil, List.getElem?_toArray, List.map_cons, List.map_nil, List.append_nil, List.nil_append, List.cons_append, List.singleton_append,
  List.take_zero, List.drop_zero, List.take_succ_cons, List.drop_succ_cons, List.take_nil, List.drop_nil, List.length_cons, List.length_nil, List.length_append, List.tail_cons, List.headD_cons, List.headD_nil, List.tail_nil,
  Nat.reduceEqDiff, Nat.reduceAdd, Nat.reduceMul, Nat.reduceLeDiff, ↓reduceIte, if_true, if_false, reduceCtorEq, true_and, and_true, false_and, and_false, decide_true, decide_false, Int.natCast_nonneg, Int.toNat_natCast, Nat.mul_one, Nat.one_mul, Nat.zero_add, Nat.add_zero, ne_eq, not_true_eq_false, not_false_eq_true, Nat.zero_le, Nat.zero_lt_succ, Nat.zero_lt_one, Nat.le_refl, Int.toNat_zero, Nat.zero_mul, Nat.mul_zero, and_self, beq_self_eq_true, Nat.succ_ne_self,
  wrap64, wrap32, wrapU64, wrapU8, wrapU32]
  refine hq _ _ ?_
  simp only [pickL, lk_cons, Nat.reduceEqDiff, ↓reduceIte, reduceCtorEq, if_true, if_false]
  clear hq q
  have q12 := H.all (b12, _) (.head _)
  have q11 := H.all (b11, _) (.tail _ (.head _))
  have q6 := H.all (b6, _) (.tail _ (.tail _ (.tail _ (.tail _ (.head _)))))
  have q5 := H.all (b5, _) (.tail _ (.tail _ (.tail _ (.tail _ (.tail _ (.head _))))))
  dsimp only at q12 q11 q6 q5
  repeat' (first | refine wpL_seq ?_ | refine wpL_skip ?_ | refine wpL_label ?_)
  refine wpL_region [5, 6, 11, 12, 71] fun q hq => ?_
  simp -implicitDefEqProofs (disch := omega) only [gO_nil, gO_cons, gN_cond, gN_val, gN_bad, outV_some, outV_none, outV_guard, outA_guard, outP_guard, outA_some, outA_none, outP_some, outP_none, guardO_true, gN_store, putd_lk, putd_lk0, lk_cons, lk_nil, ev_tmp, ev, gdO_tt, gdO_ff, gdO_tf, gdO_ft, gdO_u,
  itemsOf, itemsAt, operO, stepO, convO, callO, callB, storeO, pureA, loadA, allocA, serA, selA, binA, binInt, unA, convA, partA, TD.isAgg, TD.isBool, TD.isPtr, TD.isFunc, fieldOf, indexA, indexAddrA_sl, indexAddrA_ptr, lenA_sl, lenA_snil, lenA_str, buildA, placesA, fillA, repl, eqA, eqV, eqV.eqFs,
  ofConst, ofLeaf, ofLeafs, AV.cells, AV.leaf, List.all_cons, List.all_nil, Bool.true_and, Bool.and_true, Bool.false_and, Bool.and_false, Bool.true_or, Bool.false_or, Bool.or_false, Bool.or_true, Bool.not_true, Bool.not_false, Bool.not_not,
  Option.bind_some, Option.bind_none, Option.map_some, Option.map_none, Option.getD_some, Option.getD_none, Option.bind_eq_bind, List.getElem?_cons_zero, List.getElem?_cons_succ, List.getElem?_nil, List.getElem?_toArray, List.map_cons, List.map_nil, List.append_nil, List.nil_append, List.cons_append, List.singleton_append,
  List.take_zero, List.drop_zero, List.take_succ_cons, List.drop_succ_cons, List.take_nil, List.drop_nil, List.length_cons, List.length_nil, List.length_append, List.tail_cons, List.headD_cons, List.headD_nil, List.tail_nil,
  Nat.reduceEqDiff, Nat.reduceAdd, Nat.reduceMul, Nat.reduceLeDiff, ↓reduceIte, if_true, if_false, reduceCtorEq, true_and, and_true, false_and, and_false, decide_true, decide_false, Int.natCast_nonneg, Int.toNat_natCast, Nat.mul_one, Nat.one_mul, Nat.zero_add, Nat.add_zero, ne_eq, not_true_eq_false, not_false_eq_true, Nat.zero_le, Nat.zero_lt_succ, Nat.zero_lt_one, Nat.le_refl, Int.toNat_zero, Nat.zero_mul, Nat.mul_zero, and_self, beq_self_eq_true, Nat.succ_ne_self,
  wrap64, wrap32, wrapU64, wrapU8, wrapU32, ti34, ti21, ti4, q12, q11]
  refine hq _ _ ?_
  simp only [pickL, lk_cons, Nat.reduceEqDiff, ↓reduceIte, reduceCtorEq, if_true, if_false]
  clear hq q
  repeat' (first | refine wpL_seq ?_ | refine wpL_skip ?_ | refine wpL_label ?_)
  refine wpL_cond rfl (fun h => ?_) (fun h => ?_)
  · cases h
  clear h
  repeat' (first | refine wpL_seq ?_ | refine wpL_skip ?_ | refine wpL_label ?_)
  refine wpL_draw [6, 87] [0, 1, 3, 4, 2, 5, 6, 7, 8, 9, 11, 12, 10, 13, 14, 15] [false, false, false, false, true, false, false, false, false, false, false, false, true] (by kernel_rfl) (by kernel_rfl) (by kernel_rfl) fun q hq => ?_
  simp -implicitDefEqProofs (disch := omega) only [gO_nil, gO_cons, gN_cond, gN_val, gN_bad, outV_some, outV_none, outV_guard, outA_guard, outP_guard, outA_some, outA_none, outP_some, outP_none, guardO_true, gN_store, putd_lk, putd_lk0, lk_cons, lk_nil, ev_tmp, ev, gdO_tt, gdO_ff, gdO_tf, gdO_ft, gdO_u,
  itemsOf, itemsAt, operO, stepO, convO, callO, callB, storeO, pureA, loadA, allocA, serA, selA, binA, binInt, unA, convA, partA, TD.isAgg, TD.isBool, TD.isPtr, TD.isFunc, fieldOf, indexA, indexAddrA_sl, indexAddrA_ptr, lenA_sl, lenA_snil, lenA_str, buildA, placesA, fillA, repl, eqA, eqV, eqV.eqFs,
  ofConst, ofLeaf, ofLeafs, AV.cells, AV.leaf, List.all_cons, List.all_nil, Bool.true_and, Bool.and_true, Bool.false_and, Bool.and_false, Bool.true_or, Bool.false_or, Bool.or_false, Bool.or_true, Bool.not_true, Bool.not_false, Bool.not_not,
  Option.bind_some, Option.bind_none, Option.map_some, Option.map_none, Option.getD_some, Option.getD_none, Option.bind_eq_bind, List.getElem?_cons_zero, List.getElem?_cons_succ, List.getElem?_nil, List.getElem?_toArray, List.map_cons, List.map_nil, List.append_nil, List.nil_append, List.cons_append, List.singleton_append,
  List.take_zero, List.drop_zero, List.take_succ_cons, List.drop_succ_cons, List.take_nil, List.drop_nil, List.length_cons, List.length_nil, List.length_append, List.tail_cons, List.headD_cons, List.headD_nil, List.tail_nil,
  Nat.reduceEqDiff, Nat.reduceAdd, Nat.reduceMul, Nat.reduceLeDiff, ↓reduceIte, if_true, if_false, reduceCtorEq, true_and, and_true, false_and, and_false, decide_true, decide_false, Int.natCast_nonneg, Int.toNat_natCast, Nat.mul_one, Nat.one_mul, Nat.zero_add, Nat.add_zero, ne_eq, not_true_eq_false, not_false_eq_true, Nat.zero_le, Nat.zero_lt_succ, Nat.zero_lt_one, Nat.le_refl, Int.toNat_zero, Nat.zero_mul, Nat.mul_zero, and_self, beq_self_eq_true, Nat.succ_ne_self,
  wrap64, wrap32, wrapU64, wrapU8, wrapU32, ti32, ti34, q5, q6]
  refine gN_call_of (f13_says fun m16 hk16 => ⟨fun _ => hk16.ext, ?_⟩)
  have H := H.keep0 hk16
  simp -implicitDefEqProofs (disch := omega) only [gO_nil, gO_cons, gN_cond, gN_val, gN_bad, outV_some, outV_none, outV_guard, outA_guard, outP_guard, outA_some, outA_none, outP_some, outP_none, guardO_true, gN_store, putd_lk, putd_lk0, lk_cons, lk_nil, ev_tmp, ev, gdO_tt, gdO_ff, gdO_tf, gdO_ft, gdO_u,
  itemsOf, itemsAt, operO, stepO, convO, callO, callB, storeO, pureA, loadA, allocA, serA, selA, binA, binInt, unA, convA, partA, TD.isAgg, TD.isBool, TD.isPtr, TD.isFunc, fieldOf, indexA, indexAddrA_sl, indexAddrA_ptr, lenA_sl, lenA_snil, lenA_str, buildA, placesA, fillA, repl, eqA, eqV, eqV.eqFs,
  ofConst, ofLeaf, ofLeafs, AV.cells, AV.leaf, List.all_cons, List.all_nil, Bool.true_and, Bool.and_true, Bool.false_and, Bool.and_false, Bool.true_or, Bool.false_or, Bool.or_false, Bool.or_true, Bool.not_true, Bool.not_false, Bool.not_not,
  Option.bind_some, Option.bind_none, Option.map_some, Option.map_none, Option.getD_some, Option.getD_none, Option.bind_eq_bind, List.getElem?_cons_zero, List.getElem?_cons_succ, List.getElem?_nil, List.getElem?_toArray, List.map_cons, List.map_nil, List.append_nil, List.nil_append, List.cons_append, List.singleton_append,
  List.take_zero, List.drop_zero, List.take_succ_cons, List.drop_succ_cons, List.take_nil, List.drop_nil, List.length_cons, List.length_nil, List.length_append, List.tail_cons, List.headD_cons, List.headD_nil, List.tail_nil,
  Nat.reduceEqDiff, Nat.reduceAdd, Nat.reduceMul, Nat.reduceLeDiff, ↓reduceIte, if_true, if_false, reduceCtorEq, true_and, and_true, false_and, and_false, decide_true, decide_false, Int.natCast_nonneg, Int.toNat_natCast, Nat.mul_one, Nat.one_mul, Nat.zero_add, Nat.add_zero, ne_eq, not_true_eq_false, not_false_eq_true, Nat.zero_le, Nat.zero_lt_succ, Nat.zero_lt_one, Nat.le_refl, Int.toNat_zero, Nat.zero_mul, Nat.mul_zero, and_self, beq_self_eq_true, Nat.succ_ne_self,
  wrap64, wrap32, wrapU64, wrapU8, wrapU32]
  refine gN_call_of (f20_says fun m17 hk17 => ⟨fun _ => hk17.ext, ?_⟩)
  have H := H.keep0 hk17
  have q12 := H.all (b12, _) (.head _)
  have q11 := H.all (b11, _) (.tail _ (.head _))
  have q6 := H.all (b6, _) (.tail _ (.tail _ (.tail _ (.tail _ (.head _)))))
  have q5 := H.all (b5, _) (.tail _ (.tail _ (.tail _ (.tail _ (.tail _ (.head _))))))
  dsimp only at q12 q11 q6 q5
  simp -implicitDefEqProofs (disch := omega) only [gO_nil, gO_cons, gN_cond, gN_val, gN_bad, outV_some, outV_none, outV_guard, outA_guard, outP_guard, outA_some, outA_none, outP_some, outP_none, guardO_true, gN_store, putd_lk, putd_lk0, lk_cons, lk_nil, ev_tmp, ev, gdO_tt, gdO_ff, gdO_tf, gdO_ft, gdO_u,
  itemsOf, itemsAt, operO, stepO, convO, callO, callB, storeO, pureA, loadA, allocA, serA, selA, binA, binInt, unA, convA, partA, TD.isAgg, TD.isBool, TD.isPtr, TD.isFunc, fieldOf, indexA, indexAddrA_sl, indexAddrA_ptr, lenA_sl, lenA_snil, lenA_str, buildA, placesA, fillA, repl, eqA, eqV, eqV.eqFs,
  ofConst, ofLeaf, ofLeafs, AV.cells, AV.leaf, List.all_cons, List.all_nil, Bool.true_and, Bool.and_true, Bool.false_and, Bool.and_false, Bool.true_or, Bool.false_or, Bool.or_false, Bool.or_true, Bool.not_true, Bool.not_false, Bool.not_not,
  Option.bind_some, Option.bind_none, Option.map_some, Option.map_none, Option.getD_some, Option.getD_none, Option.bind_eq_bind, List.getElem?_cons_zero, List.getElem?_cons_succ, List.getElem?_nil, List.getElem?_toArray, List.map_cons, List.map_nil, List.append_nil, List.nil_append, List.cons_append, List.singleton_append,
  List.take_zero, List.drop_zero, List.take_succ_cons, List.drop_succ_cons, List.take_nil, List.drop_nil, List.length_cons, List.length_nil, List.length_append, List.tail_cons, List.headD_cons, List.headD_nil, List.tail_nil,
  Nat.reduceEqDiff, Nat.reduceAdd, Nat.reduceMul, Nat.reduceLeDiff, ↓reduceIte, if_true, if_false, reduceCtorEq, true_and, and_true, false_and, and_false, decide_true, decide_false, Int.natCast_nonneg, Int.toNat_natCast, Nat.mul_one, Nat.one_mul, Nat.zero_add, Nat.add_zero, ne_eq, not_true_eq_false, not_false_eq_true, Nat.zero_le, Nat.zero_lt_succ, Nat.zero_lt_one, Nat.le_refl, Int.toNat_zero, Nat.zero_mul, Nat.mul_zero, and_self, beq_self_eq_true, Nat.succ_ne_self,
  wrap64, wrap32, wrapU64, wrapU8, wrapU32, ti32, ti34, ti4, q5, q11, q12]
  refine gN_call_of (f13_says fun m18 hk18 => ⟨fun _ => hk18.ext, ?_⟩)
  have H := H.keep0 hk18
  simp -implicitDefEqProofs (disch := omega) only [gO_nil, gO_cons, gN_cond, gN_val, gN_bad, outV_some, outV_none, outV_guard, outA_guard, outP_guard, outA_some, outA_none, outP_some, outP_none, guardO_true, gN_store, putd_lk, putd_lk0, lk_cons, lk_nil, ev_tmp, ev, gdO_tt, gdO_ff, gdO_tf, gdO_ft, gdO_u,
  itemsOf, itemsAt, operO, stepO, convO, callO, callB, storeO, pureA, loadA, allocA, serA, selA, binA, binInt, unA, convA, partA, TD.isAgg, TD.isBool, TD.isPtr, TD.isFunc, fieldOf, indexA, indexAddrA_sl, indexAddrA_ptr, lenA_sl, lenA_snil, lenA_str, buildA, placesA, fillA, repl, eqA, eqV, eqV.eqFs,
  ofConst, ofLeaf, ofLeafs, AV.cells, AV.leaf, List.all_cons, List.all_nil, Bool.true_and, Bool.and_true, Bool.false_and, Bool.and_false, Bool.true_or, Bool.false_or, Bool.or_false, Bool.or_true, Bool.not_true, Bool.not_false, Bool.not_not,
  Option.bind_some, Option.bind_none, Option.map_some, Option.map_none, Option.getD_some, Option.getD_none, Option.bind_eq_bind, List.getElem?_cons_zero, List.getElem?_cons_succ, List.getElem?_nil, List.getElem?_toArray, List.map_cons, List.map_nil, List.append_nil, List.nil_append, List.cons_append, List.singleton_append,
  List.take_zero, List.drop_zero, List.take_succ_cons, List.drop_succ_cons, List.take_nil, List.drop_nil, List.length_cons, List.length_nil, List.length_append, List.tail_cons, List.headD_cons, List.headD_nil, List.tail_nil,
  Nat.reduceEqDiff, Nat.reduceAdd, Nat.reduceMul, Nat.reduceLeDiff, ↓reduceIte, if_true, if_false, reduceCtorEq, true_and, and_true, false_and, and_false, decide_true, decide_false, Int.natCast_nonneg, Int.toNat_natCast, Nat.mul_one, Nat.one_mul, Nat.zero_add, Nat.add_zero, ne_eq, not_true_eq_false, not_false_eq_true, Nat.zero_le, Nat.zero_lt_succ, Nat.zero_lt_one, Nat.le_refl, Int.toNat_zero, Nat.zero_mul, Nat.mul_zero, and_self, beq_self_eq_true, Nat.succ_ne_self,
  wrap64, wrap32, wrapU64, wrapU8, wrapU32]
  refine gN_call_of (f20_says fun m19 hk19 => ⟨fun _ => hk19.ext, ?_⟩)
  have H := H.keep0 hk19
  simp -implicitDefEqProofs (disch := omega) only [gO_nil, gO_cons, gN_cond, gN_val, gN_bad, outV_some, outV_none, outV_guard, outA_guard, outP_guard, outA_some, outA_none, outP_some, outP_none, guardO_true, gN_store, putd_lk, putd_lk0, lk_cons, lk_nil, ev_tmp, ev, gdO_tt, gdO_ff, gdO_tf, gdO_ft, gdO_u,
  itemsOf, itemsAt, operO, stepO, convO, callO, callB, storeO, pureA, loadA, allocA, serA, selA, binA, binInt, unA, convA, partA, TD.isAgg, TD.isBool, TD.isPtr, TD.isFunc, fieldOf, indexA, indexAddrA_sl, indexAddrA_ptr, lenA_sl, lenA_snil, lenA_str, buildA, placesA, fillA, repl, eqA, eqV, eqV.eqFs,
  ofConst, ofLeaf, ofLeafs, AV.cells, AV.leaf, List.all_cons, List.all_nil, Bool.true_and, Bool.and_true, Bool.false_and, Bool.and_false, Bool.true_or, Bool.false_or, Bool.or_false, Bool.or_true, Bool.not_true, Bool.not_false, Bool.not_not,
  Option.bind_some, Option.bind_none, Option.map_some, Option.map_none, Option.getD_some, Option.getD_none, Option.bind_eq_bind, List.getElem?_cons_zero, List.getElem?_cons_succ, List.getElem?_nil, List.getElem?_toArray, List.map_cons, List.map_nil, List.append_nil, List.nil_append, List.cons_append, List.singleton_append,
  List.take_zero, List.drop_zero, List.take_succ_cons, List.drop_succ_cons, List.take_nil, List.drop_nil, List.length_cons, List.length_nil, List.length_append, List.tail_cons, List.headD_cons, List.headD_nil, List.tail_nil,
  Nat.reduceEqDiff, Nat.reduceAdd, Nat.reduceMul, Nat.reduceLeDiff, ↓reduceIte, if_true, if_false, reduceCtorEq, true_and, and_true, false_and, and_false, decide_true, decide_false, Int.natCast_nonneg, Int.toNat_natCast, Nat.mul_one, Nat.one_mul, Nat.zero_add, Nat.add_zero, ne_eq, not_true_eq_false, not_false_eq_true, Nat.zero_le, Nat.zero_lt_succ, Nat.zero_lt_one, Nat.le_refl, Int.toNat_zero, Nat.zero_mul, Nat.mul_zero, and_self, beq_self_eq_true, Nat.succ_ne_self,
  wrap64, wrap32, wrapU64, wrapU8, wrapU32, ti4]
  refine hq _ _ ?_
  simp only [pickL, lk_cons, Nat.reduceEqDiff, ↓reduceIte, reduceCtorEq, if_true, if_false]
  clear hq q
  repeat' (first | refine wpL_seq ?_ | refine wpL_skip ?_ | refine wpL_label ?_)
  refine wpL_cond rfl (fun h => ?_) (fun h => ?_)
  · cases h
  clear h
  have q6 := H.all (b6, _) (.tail _ (.tail _ (.tail _ (.tail _ (.head _)))))
  dsimp only at q6
  repeat' (first | refine wpL_seq ?_ | refine wpL_skip ?_ | refine wpL_label ?_)
  refine wpL_region [6, 13] fun q hq => ?_
  simp -implicitDefEqProofs (disch := omega) only [gO_nil, gO_cons, gN_cond, gN_val, gN_bad, outV_some, outV_none, outV_guard, outA_guard, outP_guard, outA_some, outA_none, outP_some, outP_none, guardO_true, gN_store, putd_lk, putd_lk0, lk_cons, lk_nil, ev_tmp, ev, gdO_tt, gdO_ff, gdO_tf, gdO_ft, gdO_u,
  itemsOf, itemsAt, operO, stepO, convO, callO, callB, storeO, pureA, loadA, allocA, serA, selA, binA, binInt, unA, convA, partA, TD.isAgg, TD.isBool, TD.isPtr, TD.isFunc, fieldOf, indexA, indexAddrA_sl, indexAddrA_ptr, lenA_sl, lenA_snil, lenA_str, buildA, placesA, fillA, repl, eqA, eqV, eqV.eqFs,
  ofConst, ofLeaf, ofLeafs, AV.cells, AV.leaf, List.all_cons, List.all_nil, Bool.true_and, Bool.and_true, Bool.false_and, Bool.and_false, Bool.true_or, Bool.false_or, Bool.or_false, Bool.or_true, Bool.not_true, Bool.not_false, Bool.not_not,
  Option.bind_some, Option.bind_none, Option.map_some, Option.map_none, Option.getD_some, Option.getD_none, Option.bind_eq_bind, List.getElem?_cons_zero, List.getElem?_cons_succ, List.getElem?_nil, List.getElem?_toArray, List.map_cons, List.map_nil, List.append_nil, List.nil_append, List.cons_append, List.singleton_append,
  List.take_zero, List.drop_zero, List.take_succ_cons, List.drop_succ_cons, List.take_nil, List.drop_nil, List.length_cons, List.length_nil, List.length_append, List.tail_cons, List.headD_cons, List.headD_nil, List.tail_nil,
  Nat.reduceEqDiff, Nat.reduceAdd, Nat.reduceMul, Nat.reduceLeDiff, ↓reduceIte, if_true, if_false, reduceCtorEq, true_and, and_true, false_and, and_false, decide_true, decide_false, Int.natCast_nonneg, Int.toNat_natCast, Nat.mul_one, Nat.one_mul, Nat.zero_add, Nat.add_zero, ne_eq, not_true_eq_false, not_false_eq_true, Nat.zero_le, Nat.zero_lt_succ, Nat.zero_lt_one, Nat.le_refl, Int.toNat_zero, Nat.zero_mul, Nat.mul_zero, and_self, beq_self_eq_true, Nat.succ_ne_self,
  wrap64, wrap32, wrapU64, wrapU8, wrapU32, ti34, q6]
  refine gN_callF (f14_clear fun m20 hk20 => ?_)
  have H := H.keep0 hk20
  simp -implicitDefEqProofs (disch := omega) only [gO_nil, gO_cons, gN_cond, gN_val, gN_bad, outV_some, outV_none, outV_guard, outA_guard, outP_guard, outA_some, outA_none, outP_some, outP_none, guardO_true, gN_store, putd_lk, putd_lk0, lk_cons, lk_nil, ev_tmp, ev, gdO_tt, gdO_ff, gdO_tf, gdO_ft, gdO_u,
  itemsOf, itemsAt, operO, stepO, convO, callO, callB, storeO, pureA, loadA, allocA, serA, selA, binA, binInt, unA, convA, partA, TD.isAgg, TD.isBool, TD.isPtr, TD.isFunc, fieldOf, indexA, indexAddrA_sl, indexAddrA_ptr, lenA_sl, lenA_snil, lenA_str, buildA, placesA, fillA, repl, eqA, eqV, eqV.eqFs,
  ofConst, ofLeaf, ofLeafs, AV.cells, AV.leaf, List.all_cons, List.all_nil, Bool.true_and, Bool.and_true, Bool.false_and, Bool.and_false, Bool.true_or, Bool.false_or, Bool.or_false, Bool.or_true, Bool.not_true, Bool.not_false, Bool.not_not,
  Option.bind_some, Option.bind_none, Option.map_some, Option.map_none, Option.getD_some, Option.getD_none, Option.bind_eq_bind, List.getElem?_cons_zero, List.getElem?_cons_succ, List.getElem?_nil, List.getElem?_toArray, List.map_cons, List.map_nil, List.append_nil, List.nil_append, List.cons_append, List.singleton_append,
  List.take_zero, List.drop_zero, List.take_succ_cons, List.drop_succ_cons, List.take_nil, List.drop_nil, List.length_cons, List.length_nil, List.length_append, List.tail_cons, List.headD_cons, List.headD_nil, List.tail_nil,
  Nat.reduceEqDiff, Nat.reduceAdd, Nat.reduceMul, Nat.reduceLeDiff, ↓reduceIte, if_true, if_false, reduceCtorEq, true_and, and_true, false_and, and_false, decide_true, decide_false, Int.natCast_nonneg, Int.toNat_natCast, Nat.mul_one, Nat.one_mul, Nat.zero_add, Nat.add_zero, ne_eq, not_true_eq_false, not_false_eq_true, Nat.zero_le, Nat.zero_lt_succ, Nat.zero_lt_one, Nat.le_refl, Int.toNat_zero, Nat.zero_mul, Nat.mul_zero, and_self, beq_self_eq_true, Nat.succ_ne_self,
  wrap64, wrap32, wrapU64, wrapU8, wrapU32, ti34, stA]
  refine gN_alloc_ptr fun b13 m21 hf13 hm13 hk13 => ?_
  have H := H.alloc hf13 hm13 hk13
  simp -implicitDefEqProofs (disch := omega) only [gO_nil, gO_cons, gN_cond, gN_val, gN_bad, outV_some, outV_none, outV_guard, outA_guard, outP_guard, outA_some, outA_none, outP_some, outP_none, guardO_true, gN_store, putd_lk, putd_lk0, lk_cons, lk_nil, ev_tmp, ev, gdO_tt, gdO_ff, gdO_tf, gdO_ft, gdO_u,
  itemsOf, itemsAt, operO, stepO, convO, callO, callB, storeO, pureA, loadA, allocA, serA, selA, binA, binInt, unA, convA, partA, TD.isAgg, TD.isBool, TD.isPtr, TD.isFunc, fieldOf, indexA, indexAddrA_sl, indexAddrA_ptr, lenA_sl, lenA_snil, lenA_str, buildA, placesA, fillA, repl, eqA, eqV, eqV.eqFs,
  ofConst, ofLeaf, ofLeafs, AV.cells, AV.leaf, List.all_cons, List.all_nil, Bool.true_and, Bool.and_true, Bool.false_and, Bool.and_false, Bool.true_or, Bool.false_or, Bool.or_false, Bool.or_true, Bool.not_true, Bool.not_false, Bool.not_not,
  Option.bind_some, Option.bind_none, Option.map_some, Option.map_none, Option.getD_some, Option.getD_none, Option.bind_eq_bind, List.getElem?_cons_zero, List.getElem?_cons_succ, List.getElem?_nil, List.getElem?_toArray, List.map_cons, List.map_nil, List.append_nil, List.nil_append, List.cons_append, List.singleton_append,
  List.take_zero, List.drop_zero, List.take_succ_cons, List.drop_succ_cons, List.take_nil, List.drop_nil, List.length_cons, List.length_nil, List.length_append, List.tail_cons, List.headD_cons, List.headD_nil, List.tail_nil,
  Nat.reduceEqDiff, Nat.reduceAdd, Nat.reduceMul, Nat.reduceLeDiff, ↓reduceIte, if_true, if_false, reduceCtorEq, true_and, and_true, false_and, and_false, decide_true, decide_false, Int.natCast_nonneg, Int.toNat_natCast, Nat.mul_one, Nat.one_mul, Nat.zero_add, Nat.add_zero, ne_eq, not_true_eq_false, not_false_eq_true, Nat.zero_le, Nat.zero_lt_succ, Nat.zero_lt_one, Nat.le_refl, Int.toNat_zero, Nat.zero_mul, Nat.mul_zero, and_self, beq_self_eq_true, Nat.succ_ne_self,
  wrap64, wrap32, wrapU64, wrapU8, wrapU32, ti34, hm13]
  refine gN_store_of rfl rfl fun m22 hm13 hk13 => ?_
  simp only [List.take_zero, List.take_succ_cons, List.drop_zero, List.drop_succ_cons, List.nil_append, List.cons_append, List.length_cons, List.length_nil, Nat.zero_add, Nat.reduceAdd, List.append_nil, List.drop_nil] at hm13
  have H := H.store hm13 hk13
  simp -implicitDefEqProofs (disch := omega) only [gO_nil, gO_cons, gN_cond, gN_val, gN_bad, outV_some, outV_none, outV_guard, outA_guard, outP_guard, outA_some, outA_none, outP_some, outP_none, guardO_true, gN_store, putd_lk, putd_lk0, lk_cons, lk_nil, ev_tmp, ev, gdO_tt, gdO_ff, gdO_tf, gdO_ft, gdO_u,
  itemsOf, itemsAt, operO, stepO, convO, callO, callB, storeO, pureA, loadA, allocA, serA, selA, binA, binInt, unA, convA, partA, TD.isAgg, TD.isBool, TD.isPtr, TD.isFunc, fieldOf, indexA, indexAddrA_sl, indexAddrA_ptr, lenA_sl, lenA_snil, lenA_str, buildA, placesA, fillA, repl, eqA, eqV, eqV.eqFs,
  ofConst, ofLeaf, ofLeafs, AV.cells, AV.leaf, List.all_cons, List.all_nil, Bool.true_and, Bool.and_true, Bool.false_and, Bool.and_false, Bool.true_or, Bool.false_or, Bool.or_false, Bool.or_true, Bool.not_true, Bool.not_false, Bool.not_not,
  Option.bind_some, Option.bind_none, Option.map_some, Option.map_none, Option.getD_some, Option.getD_none, Option.bind_eq_bind, List.getElem?_cons_zero, List.getElem?_cons_succ, List.getElem?_nil, List.getElem?_toArray, List.map_cons, List.map_nil, List.append_nil, List.nil_append, List.cons_append, List.singleton_append,
  List.take_zero, List.drop_zero, List.take_succ_cons, List.drop_succ_cons, List.take_nil, List.drop_nil, List.length_cons, List.length_nil, List.length_append, List.tail_cons, List.headD_cons, List.headD_nil, List.tail_nil,
  Nat.reduceEqDiff, Nat.reduceAdd, Nat.reduceMul, Nat.reduceLeDiff, ↓reduceIte, if_true, if_false, reduceCtorEq, true_and, and_true, false_and, and_false, decide_true, decide_false, Int.natCast_nonneg, Int.toNat_natCast, Nat.mul_one, Nat.one_mul, Nat.zero_add, Nat.add_zero, ne_eq, not_true_eq_false, not_false_eq_true, Nat.zero_le, Nat.zero_lt_succ, Nat.zero_lt_one, Nat.le_refl, Int.toNat_zero, Nat.zero_mul, Nat.mul_zero, and_self, beq_self_eq_true, Nat.succ_ne_self,
  wrap64, wrap32, wrapU64, wrapU8, wrapU32]
  refine hq _ _ ?_
  simp only [pickL, lk_cons, Nat.reduceEqDiff, ↓reduceIte, reduceCtorEq, if_true, if_false]
  clear hq q
  have q6 := H.all (b6, _) (.tail _ (.tail _ (.tail _ (.tail _ (.tail _ (.head _))))))
  dsimp only at q6
  repeat' (first | refine wpL_seq ?_ | refine wpL_skip ?_ | refine wpL_label ?_)
  refine wpL_region [13, 14] fun q hq => ?_
  simp -implicitDefEqProofs (disch := omega) only [gO_nil, gO_cons, gN_cond, gN_val, gN_bad, outV_some, outV_none, outV_guard, outA_guard, outP_guard, outA_some, outA_none, outP_some, outP_none, guardO_true, gN_store, putd_lk, putd_lk0, lk_cons, lk_nil, ev_tmp, ev, gdO_tt, gdO_ff, gdO_tf, gdO_ft, gdO_u,
  itemsOf, itemsAt, operO, stepO, convO, callO, callB, storeO, pureA, loadA, allocA, serA, selA, binA, binInt, unA, convA, partA, TD.isAgg, TD.isBool, TD.isPtr, TD.isFunc, fieldOf, indexA, indexAddrA_sl, indexAddrA_ptr, lenA_sl, lenA_snil, lenA_str, buildA, placesA, fillA, repl, eqA, eqV, eqV.eqFs,
  ofConst, ofLeaf, ofLeafs, AV.cells, AV.leaf, List.all_cons, List.all_nil, Bool.true_and, Bool.and_true, Bool.false_and, Bool.and_false, Bool.true_or, Bool.false_or, Bool.or_false, Bool.or_true, Bool.not_true, Bool.not_false, Bool.not_not,
  Option.bind_some, Option.bind_none, Option.map_some, Option.map_none, Option.getD_some, Option.getD_none, Option.bind_eq_bind, List.getElem?_cons_zero, List.getElem?_cons_succ, List.getElem?_nil, List.getElem?_toArray, List.map_cons, List.map_nil, List.append_nil, List.nil_append, List.cons_append, List.singleton_append,
  List.take_zero, List.drop_zero, List.take_succ_cons, List.drop_succ_cons, List.take_nil, List.drop_nil, List.length_cons, List.length_nil, List.length_append, List.tail_cons, List.headD_cons, List.headD_nil, List.tail_nil,
  Nat.reduceEqDiff, Nat.reduceAdd, Nat.reduceMul, Nat.reduceLeDiff, ↓reduceIte, if_true, if_false, reduceCtorEq, true_and, and_true, false_and, and_false, decide_true, decide_false, Int.natCast_nonneg, Int.toNat_natCast, Nat.mul_one, Nat.one_mul, Nat.zero_add, Nat.add_zero, ne_eq, not_true_eq_false, not_false_eq_true, Nat.zero_le, Nat.zero_lt_succ, Nat.zero_lt_one, Nat.le_refl, Int.toNat_zero, Nat.zero_mul, Nat.mul_zero, and_self, beq_self_eq_true, Nat.succ_ne_self,
  wrap64, wrap32, wrapU64, wrapU8, wrapU32, ti34, q6]
  refine gN_callF (f21_clear fun m23 hk23 => ?_)
  have H := H.keep0 hk23
  simp -implicitDefEqProofs (disch := omega) only [gO_nil, gO_cons, gN_cond, gN_val, gN_bad, outV_some, outV_none, outV_guard, outA_guard, outP_guard, outA_some, outA_none, outP_some, outP_none, guardO_true, gN_store, putd_lk, putd_lk0, lk_cons, lk_nil, ev_tmp, ev, gdO_tt, gdO_ff, gdO_tf, gdO_ft, gdO_u,
  itemsOf, itemsAt, operO, stepO, convO, callO, callB, storeO, pureA, loadA, allocA, serA, selA, binA, binInt, unA, convA, partA, TD.isAgg, TD.isBool, TD.isPtr, TD.isFunc, fieldOf, indexA, indexAddrA_sl, indexAddrA_ptr, lenA_sl, lenA_snil, lenA_str, buildA, placesA, fillA, repl, eqA, eqV, eqV.eqFs,
  ofConst, ofLeaf, ofLeafs, AV.cells, AV.leaf, List.all_cons, List.all_nil, Bool.true_and, Bool.and_true, Bool.false_and, Bool.and_false, Bool.true_or, Bool.false_or, Bool.or_false, Bool.or_true, Bool.not_true, Bool.not_false, Bool.not_not,
  Option.bind_some, Option.bind_none, Option.map_some, Option.map_none, Option.getD_some, Option.getD_none, Option.bind_eq_bind, List.getElem?_cons_zero, List.getElem?_cons_succ, List.getElem?_nil, List.getElem?_toArray, List.map_cons, List.map_nil, List.append_nil, List.nil_append, List.cons_append, List.singleton_append,
  List.take_zero, List.drop_zero, List.take_succ_cons, List.drop_succ_cons, List.take_nil, List.drop_nil, List.length_cons, List.length_nil, List.length_append, List.tail_cons, List.headD_cons, List.headD_nil, List.tail_nil,
  Nat.reduceEqDiff, Nat.reduceAdd, Nat.reduceMul, Nat.reduceLeDiff, ↓reduceIte, if_true, if_false, reduceCtorEq, true_and, and_true, false_and, and_false, decide_true, decide_false, Int.natCast_nonneg, Int.toNat_natCast, Nat.mul_one, Nat.one_mul, Nat.zero_add, Nat.add_zero, ne_eq, not_true_eq_false, not_false_eq_true, Nat.zero_le, Nat.zero_lt_succ, Nat.zero_lt_one, Nat.le_refl, Int.toNat_zero, Nat.zero_mul, Nat.mul_zero, and_self, beq_self_eq_true, Nat.succ_ne_self,
  wrap64, wrap32, wrapU64, wrapU8, wrapU32, ti34, stA]
  refine gN_alloc_ptr fun b14 m24 hf14 hm14 hk14 => ?_
  have H := H.alloc hf14 hm14 hk14
  simp -implicitDefEqProofs (disch := omega) only [gO_nil, gO_cons, gN_cond, gN_val, gN_bad, outV_some, outV_none, outV_guard, outA_guard, outP_guard, outA_some, outA_none, outP_some, outP_none, guardO_true, gN_store, putd_lk, putd_lk0, lk_cons, lk_nil, ev_tmp, ev, gdO_tt, gdO_ff, gdO_tf, gdO_ft, gdO_u,
  itemsOf, itemsAt, operO, stepO, convO, callO, callB, storeO, pureA, loadA, allocA, serA, selA, binA, binInt, unA, convA, partA, TD.isAgg, TD.isBool, TD.isPtr, TD.isFunc, fieldOf, indexA, indexAddrA_sl, indexAddrA_ptr, lenA_sl, lenA_snil, lenA_str, buildA, placesA, fillA, repl, eqA, eqV, eqV.eqFs,
  ofConst, ofLeaf, ofLeafs, AV.cells, AV.leaf, List.all_cons, List.all_nil, Bool.true_and, Bool.and_true, Bool.false_and, Bool.and_false, Bool.true_or, Bool.false_or, Bool.or_false, Bool.or_true, Bool.not_true, Bool.not_false, Bool.not_not,
  Option.bind_some, Option.bind_none, Option.map_some, Option.map_none, Option.getD_some, Option.getD_none, Option.bind_eq_bind, List.getElem?_cons_zero, List.getElem?_cons_succ, List.getElem?_nil, List.getElem?_toArray, List.map_cons, List.map_nil, List.append_nil, List.nil_append, List.cons_append, List.singleton_append,
  List.take_zero, List.drop_zero, List.take_succ_cons, List.drop_succ_cons, List.take_nil, List.drop_nil, List.length_cons, List.length_nil, List.length_append, List.tail_cons, List.headD_cons, List.headD_nil, List.tail_nil,
  Nat.reduceEqDiff, Nat.reduceAdd, Nat.reduceMul, Nat.reduceLeDiff, ↓reduceIte, if_true, if_false, reduceCtorEq, true_and, and_true, false_and, and_false, decide_true, decide_false, Int.natCast_nonneg, Int.toNat_natCast, Nat.mul_one, Nat.one_mul, Nat.zero_add, Nat.add_zero, ne_eq, not_true_eq_false, not_false_eq_true, Nat.zero_le, Nat.zero_lt_succ, Nat.zero_lt_one, Nat.le_refl, Int.toNat_zero, Nat.zero_mul, Nat.mul_zero, and_self, beq_self_eq_true, Nat.succ_ne_self,
  wrap64, wrap32, wrapU64, wrapU8, wrapU32, ti34, hm14]
  refine gN_store_of rfl rfl fun m25 hm14 hk14 => ?_
  simp only [List.take_zero, List.take_succ_cons, List.drop_zero, List.drop_succ_cons, List.nil_append, List.cons_append, List.length_cons, List.length_nil, Nat.zero_add, Nat.reduceAdd, List.append_nil, List.drop_nil] at hm14
  have H := H.store hm14 hk14
  simp -implicitDefEqProofs (disch := omega) only [gO_nil, gO_cons, gN_cond, gN_val, gN_bad, outV_some, outV_none, outV_guard, outA_guard, outP_guard, outA_some, outA_none, outP_some, outP_none, guardO_true, gN_store, putd_lk, putd_lk0, lk_cons, lk_nil, ev_tmp, ev, gdO_tt, gdO_ff, gdO_tf, gdO_ft, gdO_u,
  itemsOf, itemsAt, operO, stepO, convO, callO, callB, storeO, pureA, loadA, allocA, serA, selA, binA, binInt, unA, convA, partA, TD.isAgg, TD.isBool, TD.isPtr, TD.isFunc, fieldOf, indexA, indexAddrA_sl, indexAddrA_ptr, lenA_sl, lenA_snil, lenA_str, buildA, placesA, fillA, repl, eqA, eqV, eqV.eqFs,
  ofConst, ofLeaf, ofLeafs, AV.cells, AV.leaf, List.all_cons, List.all_nil, Bool.true_and, Bool.and_true, Bool.false_and, Bool.and_false, Bool.true_or, Bool.false_or, Bool.or_false, Bool.or_true, Bool.not_true, Bool.not_false, Bool.not_not,
  Option.bind_some, Option.bind_none, Option.map_some, Option.map_none, Option.getD_some, Option.getD_none, Option.bind_eq_bind, List.getElem?_cons_zero, List.getElem?_cons_succ, List.getElem?_nil, List.getElem?_toArray, List.map_cons, List.map_nil, List.append_nil, List.nil_append, List.cons_append, List.singleton_append,
  List.take_zero, List.drop_zero, List.take_succ_cons, List.drop_succ_cons, List.take_nil, List.drop_nil, List.length_cons, List.length_nil, List.length_append, List.tail_cons, List.headD_cons, List.headD_nil, List.tail_nil,
  Nat.reduceEqDiff, Nat.reduceAdd, Nat.reduceMul, Nat.reduceLeDiff, ↓reduceIte, if_true, if_false, reduceCtorEq, true_and, and_true, false_and, and_false, decide_true, decide_false, Int.natCast_nonneg, Int.toNat_natCast, Nat.mul_one, Nat.one_mul, Nat.zero_add, Nat.add_zero, ne_eq, not_true_eq_false, not_false_eq_true, Nat.zero_le, Nat.zero_lt_succ, Nat.zero_lt_one, Nat.le_refl, Int.toNat_zero, Nat.zero_mul, Nat.mul_zero, and_self, beq_self_eq_true, Nat.succ_ne_self,
  wrap64, wrap32, wrapU64, wrapU8, wrapU32]
  refine hq _ _ ?_
  simp only [pickL, lk_cons, Nat.reduceEqDiff, ↓reduceIte, reduceCtorEq, if_true, if_false]
  clear hq q
  have q14 := H.all (b14, _) (.head _)
  have q13 := H.all (b13, _) (.tail _ (.head _))
  dsimp only at q14 q13
  repeat' (first | refine wpL_seq ?_ | refine wpL_skip ?_ | refine wpL_label ?_)
  refine wpL_region [8] fun q hq => ?_
  simp -implicitDefEqProofs (disch := omega) only [gO_nil, gO_cons, gN_cond, gN_val, gN_bad, outV_some, outV_none, outV_guard, outA_guard, outP_guard, outA_some, outA_none, outP_some, outP_none, guardO_true, gN_store, putd_lk, putd_lk0, lk_cons, lk_nil, ev_tmp, ev, gdO_tt, gdO_ff, gdO_tf, gdO_ft, gdO_u,
  itemsOf, itemsAt, operO, stepO, convO, callO, callB, storeO, pureA, loadA, allocA, serA, selA, binA, binInt, unA, convA, partA, TD.isAgg, TD.isBool, TD.isPtr, TD.isFunc, fieldOf, indexA, indexAddrA_sl, indexAddrA_ptr, lenA_sl, lenA_snil, lenA_str, buildA, placesA, fillA, repl, eqA, eqV, eqV.eqFs,
  ofConst, ofLeaf, ofLeafs, AV.cells, AV.leaf, List.all_cons, List.all_nil, Bool.true_and, Bool.and_true, Bool.false_and, Bool.and_false, Bool.true_or, Bool.false_or, Bool.or_false, Bool.or_true, Bool.not_true, Bool.not_false, Bool.not_not,
  Option.bind_some, Option.bind_none, Option.map_some, Option.map_none, Option.getD_some, Option.getD_none, Option.bind_eq_bind, List.getElem?_cons_zero, List.getElem?_cons_succ, List.getElem?_nil, List.getElem?_toArray, List.map_cons, List.map_nil, List.append_nil, List.nil_append, List.cons_append, List.singleton_append,
  List.take_zero, List.drop_zero, List.take_succ_cons, List.drop_succ_cons, List.take_nil, List.drop_nil, List.length_cons, List.length_nil, List.length_append, List.tail_cons, List.headD_cons, List.headD_nil, List.tail_nil,
  Nat.reduceEqDiff, Nat.reduceAdd, Nat.reduceMul, Nat.reduceLeDiff, ↓reduceIte, if_true, if_false, reduceCtorEq, true_and, and_true, false_and, and_false, decide_true, decide_false, Int.natCast_nonneg, Int.toNat_natCast, Nat.mul_one, Nat.one_mul, Nat.zero_add, Nat.add_zero, ne_eq, not_true_eq_false, not_false_eq_true, Nat.zero_le, Nat.zero_lt_succ, Nat.zero_lt_one, Nat.le_refl, Int.toNat_zero, Nat.zero_mul, Nat.mul_zero, and_self, beq_self_eq_true, Nat.succ_ne_self,
  wrap64, wrap32, wrapU64, wrapU8, wrapU32, ti34, ti21, ti4, q14, q13]
  refine hq _ _ ?_
  simp only [pickL, lk_cons, Nat.reduceEqDiff, ↓reduceIte, reduceCtorEq, if_true, if_false]
  clear hq q
  repeat' (first | refine wpL_seq ?_ | refine wpL_skip ?_ | refine wpL_label ?_)
  refine wpL_ret (hK' _ _ _ _ (.inr rfl) rfl ?_)
  simp only [pickL, lk_cons, Nat.reduceEqDiff, ↓reduceIte, reduceCtorEq, if_true, if_false]
end Go.Proofs.Ytchhknkflhikmaa.Am
