/- The law of masks: what it answers is true. -/
import Derived.Test.YtchhknkflhikmaaM2
namespace Go.Proofs.Ytchhknkflhikmaa.Am
open Go Go.Proofs
set_option linter.unusedVariables false
set_option linter.unusedSimpArgs false
set_option maxRecDepth 100000

theorem maskV_form (xs : Nat → Int) (n : Nat) : ∃ a b : Int, maskV xs n = .tup [.int .u64 a, .int .i64 b] := by
  unfold maskV; split
  · exact ⟨_, _, rfl⟩
  · exact ⟨_, _, rfl⟩

theorem Ow.ints {m v et} {zs : List Int} (h : Ow m v et (zs.map fun z => .int .i64 z)) : Sl m v zs.length fun i => .int .i64 (zs.getD i 0) := by
  have := h.sl
  rw [List.length_map] at this
  refine this.congr fun i hi => ?_
  simp [List.getD, List.getElem?_eq_getElem hi]

def memZ (M : BitVec 64) : List Int := ((List.range 64).filter fun i => M.getLsbD i).map fun (i : Nat) => (i : Int)
theorem memL_memZ (M : BitVec 64) : memL M 64 = (memZ M).map fun z => .int .i64 z := by simp [memL, memZ]
theorem memZ_len (M : BitVec 64) : (memZ M).length ≤ 64 := by have := memL_len M 64; rw [memL_memZ] at this; simpa using this

theorem Ow.thereExt {m m' v et cs} (h : Ow m v et cs) (hx : Ext m m') : ∀ b o l s, v = .sl b o l s → m'.blk b ≠ none := by
  rintro b o l s rfl
  rcases h with ⟨h, _⟩ | ⟨b', k, h, h2, h3, _⟩
  · cases h
  · cases h
    obtain ⟨k', h4, _⟩ := hx _ _ h2 (by rw [h3]; decide)
    rw [h4]; simp
theorem Ow.there {m v et cs} (h : Ow m v et cs) : ∀ b o l s, v = .sl b o l s → m.blk b ≠ none := h.thereExt (Ext.refl _)

theorem f3_core {m : Mem} {a : AV} {n : Nat} {xs : Nat → Int} (M1 M2 : BitVec 64) (ha : Sl m a n fun i => .int .i64 (xs i)) (hn : n * 8 ≤ 140737488351232) :
    wpF Try.prog 3 [.int .u64 M1.toNat, .int .u64 M2.toNat, a] m fun v _ => v = .bool true := by
  obtain ⟨V, W, hVW⟩ := maskV_form xs n
  refine wpF_intro (fn := Try.f3) rfl rfl (by decide) (by kernel_rfl) fun K' hK' => ?_
  repeat' (first | refine wpL_seq ?_ | refine wpL_skip ?_ | refine wpL_label ?_)
  refine wpL_region [0, 1, 2] fun q hq => ?_
  simp -implicitDefEqProofs (disch := omega) only [gO_nil, gO_cons, gN_cond, gN_val, gN_bad, outV_some, outV_none, outV_guard, outA_guard, outP_guard, outA, outP, gN_store, putd_lk, putd_lk0, lk_cons, lk_nil, ev_tmp, ev, gdO_tt, gdO_ff, gdO_tf, gdO_ft, gdO_u,
  itemsOf, itemsAt, operO, stepO, convO, callO, callB, storeO, pureA, loadA, allocA, serA, selA, binA, binInt, unA, convA, partA, TD.isAgg, TD.isBool, TD.isPtr, TD.isFunc, fieldOf, indexA, indexAddrA_sl, indexAddrA_ptr, lenA_sl, lenA_snil, lenA_str, buildA, placesA, fillA, repl, eqA, eqV, eqV.eqFs,
  ofConst, ofLeaf, ofLeafs, AV.cells, AV.leaf, List.all_cons, List.all_nil, Bool.true_and, Bool.and_true, Bool.false_and, Bool.and_false, Bool.true_or, Bool.false_or, Bool.or_false, Bool.or_true, Bool.not_true, Bool.not_false, Bool.not_not,
  Option.bind_some, Option.bind_none, Option.map_some, Option.map_none, Option.getD_some, Option.getD_none, Option.bind_eq_bind, List.getElem?_cons_zero, List.getElem?_cons_succ, List.getElem?_nil, List.getElem?_toArray, List.map_cons, List.map_nil, List.append_nil, List.nil_append, List.cons_append, List.singleton_append,
  List.take_zero, List.drop_zero, List.take_succ_cons, List.drop_succ_cons, List.take_nil, List.drop_nil, List.length_cons, List.length_nil, List.length_append, List.tail_cons, List.headD_cons, List.headD_nil, List.tail_nil,
  Nat.reduceEqDiff, Nat.reduceAdd, Nat.reduceMul, Nat.reduceLeDiff, ↓reduceIte, if_true, if_false, reduceCtorEq, true_and, and_true, false_and, and_false, decide_true, decide_false, Int.natCast_nonneg, Int.toNat_natCast, Nat.mul_one, Nat.one_mul, Nat.zero_add, Nat.add_zero, ne_eq, not_true_eq_false, not_false_eq_true, Nat.zero_le, Nat.le_refl, Int.toNat_zero, Nat.zero_mul, Nat.mul_zero, and_self, Nat.succ_ne_self,
  wrap64, wrap32, wrapU64, wrapU8, wrapU32, argL]
  refine hq _ _ ?_
  simp only [pickL, lk_cons, Nat.reduceEqDiff, ↓reduceIte, reduceCtorEq, if_true, if_false]
  clear hq q
  -- what is handed in, and two more
  repeat' (first | refine wpL_seq ?_ | refine wpL_skip ?_ | refine wpL_label ?_)
  refine wpL_region [0, 1, 2, 7] fun q hq => ?_
  simp -implicitDefEqProofs (disch := omega) only [gO_nil, gO_cons, gN_cond, gN_val, gN_bad, outV_some, outV_none, outV_guard, outA_guard, outP_guard, outA, outP, gN_store, putd_lk, putd_lk0, lk_cons, lk_nil, ev_tmp, ev, gdO_tt, gdO_ff, gdO_tf, gdO_ft, gdO_u,
  itemsOf, itemsAt, operO, stepO, convO, callO, callB, storeO, pureA, loadA, allocA, serA, selA, binA, binInt, unA, convA, partA, TD.isAgg, TD.isBool, TD.isPtr, TD.isFunc, fieldOf, indexA, indexAddrA_sl, indexAddrA_ptr, lenA_sl, lenA_snil, lenA_str, buildA, placesA, fillA, repl, eqA, eqV, eqV.eqFs,
  ofConst, ofLeaf, ofLeafs, AV.cells, AV.leaf, List.all_cons, List.all_nil, Bool.true_and, Bool.and_true, Bool.false_and, Bool.and_false, Bool.true_or, Bool.false_or, Bool.or_false, Bool.or_true, Bool.not_true, Bool.not_false, Bool.not_not,
  Option.bind_some, Option.bind_none, Option.map_some, Option.map_none, Option.getD_some, Option.getD_none, Option.bind_eq_bind, List.getElem?_cons_zero, List.getElem?_cons_succ, List.getElem?_nil, List.getElem?_toArray, List.map_cons, List.map_nil, List.append_nil, List.nil_append, List.cons_append, List.singleton_append,
  List.take_zero, List.drop_zero, List.take_succ_cons, List.drop_succ_cons, List.take_nil, List.drop_nil, List.length_cons, List.length_nil, List.length_append, List.tail_cons, List.headD_cons, List.headD_nil, List.tail_nil,
  Nat.reduceEqDiff, Nat.reduceAdd, Nat.reduceMul, Nat.reduceLeDiff, ↓reduceIte, if_true, if_false, reduceCtorEq, true_and, and_true, false_and, and_false, decide_true, decide_false, Int.natCast_nonneg, Int.toNat_natCast, Nat.mul_one, Nat.one_mul, Nat.zero_add, Nat.add_zero, ne_eq, not_true_eq_false, not_false_eq_true, Nat.zero_le, Nat.le_refl, Int.toNat_zero, Nat.zero_mul, Nat.mul_zero, and_self, Nat.succ_ne_self,
  wrap64, wrap32, wrapU64, wrapU8, wrapU32, ti23, ti3]
  refine gN_append ti23 rfl ti3 rfl Ow.nil (Src.of_sl ha fun _ _ => rfl) ?_ ?_ There.nil fun v1 m1 hT1 hO1 hx1 hk1 hf1 => ?_
  · simp; omega
  · simp [maxInt]; omega
  simp only [List.nil_append] at hO1
  have hkk1 : Keep [] m m1 := fun b hb => hk1 b (by simp [blkOf])
  simp -implicitDefEqProofs (disch := omega) only [gO_nil, gO_cons, gN_cond, gN_val, gN_bad, outV_some, outV_none, outV_guard, outA_guard, outP_guard, outA, outP, gN_store, putd_lk, putd_lk0, lk_cons, lk_nil, ev_tmp, ev, gdO_tt, gdO_ff, gdO_tf, gdO_ft, gdO_u,
  itemsOf, itemsAt, operO, stepO, convO, callO, callB, storeO, pureA, loadA, allocA, serA, selA, binA, binInt, unA, convA, partA, TD.isAgg, TD.isBool, TD.isPtr, TD.isFunc, fieldOf, indexA, indexAddrA_sl, indexAddrA_ptr, lenA_sl, lenA_snil, lenA_str, buildA, placesA, fillA, repl, eqA, eqV, eqV.eqFs,
  ofConst, ofLeaf, ofLeafs, AV.cells, AV.leaf, List.all_cons, List.all_nil, Bool.true_and, Bool.and_true, Bool.false_and, Bool.and_false, Bool.true_or, Bool.false_or, Bool.or_false, Bool.or_true, Bool.not_true, Bool.not_false, Bool.not_not,
  Option.bind_some, Option.bind_none, Option.map_some, Option.map_none, Option.getD_some, Option.getD_none, Option.bind_eq_bind, List.getElem?_cons_zero, List.getElem?_cons_succ, List.getElem?_nil, List.getElem?_toArray, List.map_cons, List.map_nil, List.append_nil, List.nil_append, List.cons_append, List.singleton_append,
  List.take_zero, List.drop_zero, List.take_succ_cons, List.drop_succ_cons, List.take_nil, List.drop_nil, List.length_cons, List.length_nil, List.length_append, List.tail_cons, List.headD_cons, List.headD_nil, List.tail_nil,
  Nat.reduceEqDiff, Nat.reduceAdd, Nat.reduceMul, Nat.reduceLeDiff, ↓reduceIte, if_true, if_false, reduceCtorEq, true_and, and_true, false_and, and_false, decide_true, decide_false, Int.natCast_nonneg, Int.toNat_natCast, Nat.mul_one, Nat.one_mul, Nat.zero_add, Nat.add_zero, ne_eq, not_true_eq_false, not_false_eq_true, Nat.zero_le, Nat.le_refl, Int.toNat_zero, Nat.zero_mul, Nat.mul_zero, and_self, Nat.succ_ne_self,
  wrap64, wrap32, wrapU64, wrapU8, wrapU32, ti23, ti3]
  refine gN_alloc_sl fun b2 m2 hb2 hm2 hk2 => ?_
  simp -implicitDefEqProofs (disch := omega) only [gO_nil, gO_cons, gN_cond, gN_val, gN_bad, outV_some, outV_none, outV_guard, outA_guard, outP_guard, outA, outP, gN_store, putd_lk, putd_lk0, lk_cons, lk_nil, ev_tmp, ev, gdO_tt, gdO_ff, gdO_tf, gdO_ft, gdO_u,
  itemsOf, itemsAt, operO, stepO, convO, callO, callB, storeO, pureA, loadA, allocA, serA, selA, binA, binInt, unA, convA, partA, TD.isAgg, TD.isBool, TD.isPtr, TD.isFunc, fieldOf, indexA, indexAddrA_sl, indexAddrA_ptr, lenA_sl, lenA_snil, lenA_str, buildA, placesA, fillA, repl, eqA, eqV, eqV.eqFs,
  ofConst, ofLeaf, ofLeafs, AV.cells, AV.leaf, List.all_cons, List.all_nil, Bool.true_and, Bool.and_true, Bool.false_and, Bool.and_false, Bool.true_or, Bool.false_or, Bool.or_false, Bool.or_true, Bool.not_true, Bool.not_false, Bool.not_not,
  Option.bind_some, Option.bind_none, Option.map_some, Option.map_none, Option.getD_some, Option.getD_none, Option.bind_eq_bind, List.getElem?_cons_zero, List.getElem?_cons_succ, List.getElem?_nil, List.getElem?_toArray, List.map_cons, List.map_nil, List.append_nil, List.nil_append, List.cons_append, List.singleton_append,
  List.take_zero, List.drop_zero, List.take_succ_cons, List.drop_succ_cons, List.take_nil, List.drop_nil, List.length_cons, List.length_nil, List.length_append, List.tail_cons, List.headD_cons, List.headD_nil, List.tail_nil,
  Nat.reduceEqDiff, Nat.reduceAdd, Nat.reduceMul, Nat.reduceLeDiff, ↓reduceIte, if_true, if_false, reduceCtorEq, true_and, and_true, false_and, and_false, decide_true, decide_false, Int.natCast_nonneg, Int.toNat_natCast, Nat.mul_one, Nat.one_mul, Nat.zero_add, Nat.add_zero, ne_eq, not_true_eq_false, not_false_eq_true, Nat.zero_le, Nat.le_refl, Int.toNat_zero, Nat.zero_mul, Nat.mul_zero, and_self, Nat.succ_ne_self,
  wrap64, wrap32, wrapU64, wrapU8, wrapU32, ti23, ti3]
  refine gN_append ti23 rfl ti3 rfl (hO1.keep0 hk2) (Src.of_ow (et := 3) (cs := [.int .i64 (-41), .int .i64 (-42)]) (.inr ⟨b2, _, rfl, hm2, rfl, rfl, rfl⟩) rfl) ?_ ?_ (hT1.keep0 hk2) fun v2 m3 hT3 hO3 hx3 hk3 hf3 => ?_
  · simp; omega
  · simp [maxInt]; omega
  have ha3 := ((ha.keep0 hkk1).keep0 hk2).ext hx3
  simp -implicitDefEqProofs (disch := omega) only [gO_nil, gO_cons, gN_cond, gN_val, gN_bad, outV_some, outV_none, outV_guard, outA_guard, outP_guard, outA, outP, gN_store, putd_lk, putd_lk0, lk_cons, lk_nil, ev_tmp, ev, gdO_tt, gdO_ff, gdO_tf, gdO_ft, gdO_u,
  itemsOf, itemsAt, operO, stepO, convO, callO, callB, storeO, pureA, loadA, allocA, serA, selA, binA, binInt, unA, convA, partA, TD.isAgg, TD.isBool, TD.isPtr, TD.isFunc, fieldOf, indexA, indexAddrA_sl, indexAddrA_ptr, lenA_sl, lenA_snil, lenA_str, buildA, placesA, fillA, repl, eqA, eqV, eqV.eqFs,
  ofConst, ofLeaf, ofLeafs, AV.cells, AV.leaf, List.all_cons, List.all_nil, Bool.true_and, Bool.and_true, Bool.false_and, Bool.and_false, Bool.true_or, Bool.false_or, Bool.or_false, Bool.or_true, Bool.not_true, Bool.not_false, Bool.not_not,
  Option.bind_some, Option.bind_none, Option.map_some, Option.map_none, Option.getD_some, Option.getD_none, Option.bind_eq_bind, List.getElem?_cons_zero, List.getElem?_cons_succ, List.getElem?_nil, List.getElem?_toArray, List.map_cons, List.map_nil, List.append_nil, List.nil_append, List.cons_append, List.singleton_append,
  List.take_zero, List.drop_zero, List.take_succ_cons, List.drop_succ_cons, List.take_nil, List.drop_nil, List.length_cons, List.length_nil, List.length_append, List.tail_cons, List.headD_cons, List.headD_nil, List.tail_nil,
  Nat.reduceEqDiff, Nat.reduceAdd, Nat.reduceMul, Nat.reduceLeDiff, ↓reduceIte, if_true, if_false, reduceCtorEq, true_and, and_true, false_and, and_false, decide_true, decide_false, Int.natCast_nonneg, Int.toNat_natCast, Nat.mul_one, Nat.one_mul, Nat.zero_add, Nat.add_zero, ne_eq, not_true_eq_false, not_false_eq_true, Nat.zero_le, Nat.le_refl, Int.toNat_zero, Nat.zero_mul, Nat.mul_zero, and_self, Nat.succ_ne_self,
  wrap64, wrap32, wrapU64, wrapU8, wrapU32]
  refine hq _ _ ?_
  simp only [pickL, lk_cons, Nat.reduceEqDiff, ↓reduceIte, reduceCtorEq, if_true, if_false]
  clear hq q
  have hl3 : ((List.range n).map (fun i => AV.int .i64 (xs i)) ++ [AV.int .i64 (-41), AV.int .i64 (-42)]).length = n + 2 := by simp
  have hS := hO3.sl
  rw [hl3] at hS
  obtain ⟨v2', hcut, hS2, hbl2⟩ := hS.cut (P := Try.prog) (kk := .i64) (k := n) ti23 rfl ti3 rfl (by omega)
  have hS2' : Sl m3 v2' n fun i => .int .i64 (xs i) := hS2.congr fun i hi => by
    have h1 : ((List.range n).map (fun i => AV.int .i64 (xs i)) ++ [AV.int .i64 (-41), AV.int .i64 (-42)])[i]? = some (AV.int .i64 (xs i)) := by
      rw [List.getElem?_append_left (by simpa using hi)]; simp [hi]
    simp only [List.getD, h1, Option.getD_some]
  have hla := ha3.len ti23 rfl
  -- its mask
  repeat' (first | refine wpL_seq ?_ | refine wpL_skip ?_ | refine wpL_label ?_)
  refine wpL_region [0, 1, 2, 7, 8, 9] fun q hq => ?_
  simp -implicitDefEqProofs (disch := omega) only [gO_nil, gO_cons, gN_cond, gN_val, gN_bad, outV_some, outV_none, outV_guard, outA_guard, outP_guard, outA, outP, gN_store, putd_lk, putd_lk0, lk_cons, lk_nil, ev_tmp, ev, gdO_tt, gdO_ff, gdO_tf, gdO_ft, gdO_u,
  itemsOf, itemsAt, operO, stepO, convO, callO, callB, storeO, pureA, loadA, allocA, serA, selA, binA, binInt, unA, convA, partA, TD.isAgg, TD.isBool, TD.isPtr, TD.isFunc, fieldOf, indexA, indexAddrA_sl, indexAddrA_ptr, lenA_sl, lenA_snil, lenA_str, buildA, placesA, fillA, repl, eqA, eqV, eqV.eqFs,
  ofConst, ofLeaf, ofLeafs, AV.cells, AV.leaf, List.all_cons, List.all_nil, Bool.true_and, Bool.and_true, Bool.false_and, Bool.and_false, Bool.true_or, Bool.false_or, Bool.or_false, Bool.or_true, Bool.not_true, Bool.not_false, Bool.not_not,
  Option.bind_some, Option.bind_none, Option.map_some, Option.map_none, Option.getD_some, Option.getD_none, Option.bind_eq_bind, List.getElem?_cons_zero, List.getElem?_cons_succ, List.getElem?_nil, List.getElem?_toArray, List.map_cons, List.map_nil, List.append_nil, List.nil_append, List.cons_append, List.singleton_append,
  List.take_zero, List.drop_zero, List.take_succ_cons, List.drop_succ_cons, List.take_nil, List.drop_nil, List.length_cons, List.length_nil, List.length_append, List.tail_cons, List.headD_cons, List.headD_nil, List.tail_nil,
  Nat.reduceEqDiff, Nat.reduceAdd, Nat.reduceMul, Nat.reduceLeDiff, ↓reduceIte, if_true, if_false, reduceCtorEq, true_and, and_true, false_and, and_false, decide_true, decide_false, Int.natCast_nonneg, Int.toNat_natCast, Nat.mul_one, Nat.one_mul, Nat.zero_add, Nat.add_zero, ne_eq, not_true_eq_false, not_false_eq_true, Nat.zero_le, Nat.le_refl, Int.toNat_zero, Nat.zero_mul, Nat.mul_zero, and_self, Nat.succ_ne_self,
  wrap64, wrap32, wrapU64, wrapU8, wrapU32, hla, hcut]
  refine gN_callF (f6_mask hS2' (by omega) ?_)
  rw [hVW]
  simp -implicitDefEqProofs (disch := omega) only [gO_nil, gO_cons, gN_cond, gN_val, gN_bad, outV_some, outV_none, outV_guard, outA_guard, outP_guard, outA, outP, gN_store, putd_lk, putd_lk0, lk_cons, lk_nil, ev_tmp, ev, gdO_tt, gdO_ff, gdO_tf, gdO_ft, gdO_u,
  itemsOf, itemsAt, operO, stepO, convO, callO, callB, storeO, pureA, loadA, allocA, serA, selA, binA, binInt, unA, convA, partA, TD.isAgg, TD.isBool, TD.isPtr, TD.isFunc, fieldOf, indexA, indexAddrA_sl, indexAddrA_ptr, lenA_sl, lenA_snil, lenA_str, buildA, placesA, fillA, repl, eqA, eqV, eqV.eqFs,
  ofConst, ofLeaf, ofLeafs, AV.cells, AV.leaf, List.all_cons, List.all_nil, Bool.true_and, Bool.and_true, Bool.false_and, Bool.and_false, Bool.true_or, Bool.false_or, Bool.or_false, Bool.or_true, Bool.not_true, Bool.not_false, Bool.not_not,
  Option.bind_some, Option.bind_none, Option.map_some, Option.map_none, Option.getD_some, Option.getD_none, Option.bind_eq_bind, List.getElem?_cons_zero, List.getElem?_cons_succ, List.getElem?_nil, List.getElem?_toArray, List.map_cons, List.map_nil, List.append_nil, List.nil_append, List.cons_append, List.singleton_append,
  List.take_zero, List.drop_zero, List.take_succ_cons, List.drop_succ_cons, List.take_nil, List.drop_nil, List.length_cons, List.length_nil, List.length_append, List.tail_cons, List.headD_cons, List.headD_nil, List.tail_nil,
  Nat.reduceEqDiff, Nat.reduceAdd, Nat.reduceMul, Nat.reduceLeDiff, ↓reduceIte, if_true, if_false, reduceCtorEq, true_and, and_true, false_and, and_false, decide_true, decide_false, Int.natCast_nonneg, Int.toNat_natCast, Nat.mul_one, Nat.one_mul, Nat.zero_add, Nat.add_zero, ne_eq, not_true_eq_false, not_false_eq_true, Nat.zero_le, Nat.le_refl, Int.toNat_zero, Nat.zero_mul, Nat.mul_zero, and_self, Nat.succ_ne_self,
  wrap64, wrap32, wrapU64, wrapU8, wrapU32]
  refine hq _ _ ?_
  simp only [pickL, lk_cons, Nat.reduceEqDiff, ↓reduceIte, reduceCtorEq, if_true, if_false]
  clear hq q
  repeat' (first | refine wpL_seq ?_ | refine wpL_skip ?_ | refine wpL_label ?_)
  refine wpL_region [0, 1, 2, 7, 8, 9, 10, 11] fun q hq => ?_
  simp -implicitDefEqProofs (disch := omega) only [gO_nil, gO_cons, gN_cond, gN_val, gN_bad, outV_some, outV_none, outV_guard, outA_guard, outP_guard, outA, outP, gN_store, putd_lk, putd_lk0, lk_cons, lk_nil, ev_tmp, ev, gdO_tt, gdO_ff, gdO_tf, gdO_ft, gdO_u,
  itemsOf, itemsAt, operO, stepO, convO, callO, callB, storeO, pureA, loadA, allocA, serA, selA, binA, binInt, unA, convA, partA, TD.isAgg, TD.isBool, TD.isPtr, TD.isFunc, fieldOf, indexA, indexAddrA_sl, indexAddrA_ptr, lenA_sl, lenA_snil, lenA_str, buildA, placesA, fillA, repl, eqA, eqV, eqV.eqFs,
  ofConst, ofLeaf, ofLeafs, AV.cells, AV.leaf, List.all_cons, List.all_nil, Bool.true_and, Bool.and_true, Bool.false_and, Bool.and_false, Bool.true_or, Bool.false_or, Bool.or_false, Bool.or_true, Bool.not_true, Bool.not_false, Bool.not_not,
  Option.bind_some, Option.bind_none, Option.map_some, Option.map_none, Option.getD_some, Option.getD_none, Option.bind_eq_bind, List.getElem?_cons_zero, List.getElem?_cons_succ, List.getElem?_nil, List.getElem?_toArray, List.map_cons, List.map_nil, List.append_nil, List.nil_append, List.cons_append, List.singleton_append,
  List.take_zero, List.drop_zero, List.take_succ_cons, List.drop_succ_cons, List.take_nil, List.drop_nil, List.length_cons, List.length_nil, List.length_append, List.tail_cons, List.headD_cons, List.headD_nil, List.tail_nil,
  Nat.reduceEqDiff, Nat.reduceAdd, Nat.reduceMul, Nat.reduceLeDiff, ↓reduceIte, if_true, if_false, reduceCtorEq, true_and, and_true, false_and, and_false, decide_true, decide_false, Int.natCast_nonneg, Int.toNat_natCast, Nat.mul_one, Nat.one_mul, Nat.zero_add, Nat.add_zero, ne_eq, not_true_eq_false, not_false_eq_true, Nat.zero_le, Nat.le_refl, Int.toNat_zero, Nat.zero_mul, Nat.mul_zero, and_self, Nat.succ_ne_self,
  wrap64, wrap32, wrapU64, wrapU8, wrapU32]
  refine gN_callF (f7_mask ha3 (by omega) fun m4 hk4 => ?_)
  rw [hVW]
  simp -implicitDefEqProofs (disch := omega) only [gO_nil, gO_cons, gN_cond, gN_val, gN_bad, outV_some, outV_none, outV_guard, outA_guard, outP_guard, outA, outP, gN_store, putd_lk, putd_lk0, lk_cons, lk_nil, ev_tmp, ev, gdO_tt, gdO_ff, gdO_tf, gdO_ft, gdO_u,
  itemsOf, itemsAt, operO, stepO, convO, callO, callB, storeO, pureA, loadA, allocA, serA, selA, binA, binInt, unA, convA, partA, TD.isAgg, TD.isBool, TD.isPtr, TD.isFunc, fieldOf, indexA, indexAddrA_sl, indexAddrA_ptr, lenA_sl, lenA_snil, lenA_str, buildA, placesA, fillA, repl, eqA, eqV, eqV.eqFs,
  ofConst, ofLeaf, ofLeafs, AV.cells, AV.leaf, List.all_cons, List.all_nil, Bool.true_and, Bool.and_true, Bool.false_and, Bool.and_false, Bool.true_or, Bool.false_or, Bool.or_false, Bool.or_true, Bool.not_true, Bool.not_false, Bool.not_not,
  Option.bind_some, Option.bind_none, Option.map_some, Option.map_none, Option.getD_some, Option.getD_none, Option.bind_eq_bind, List.getElem?_cons_zero, List.getElem?_cons_succ, List.getElem?_nil, List.getElem?_toArray, List.map_cons, List.map_nil, List.append_nil, List.nil_append, List.cons_append, List.singleton_append,
  List.take_zero, List.drop_zero, List.take_succ_cons, List.drop_succ_cons, List.take_nil, List.drop_nil, List.length_cons, List.length_nil, List.length_append, List.tail_cons, List.headD_cons, List.headD_nil, List.tail_nil,
  Nat.reduceEqDiff, Nat.reduceAdd, Nat.reduceMul, Nat.reduceLeDiff, ↓reduceIte, if_true, if_false, reduceCtorEq, true_and, and_true, false_and, and_false, decide_true, decide_false, Int.natCast_nonneg, Int.toNat_natCast, Nat.mul_one, Nat.one_mul, Nat.zero_add, Nat.add_zero, ne_eq, not_true_eq_false, not_false_eq_true, Nat.zero_le, Nat.le_refl, Int.toNat_zero, Nat.zero_mul, Nat.mul_zero, and_self, Nat.succ_ne_self,
  wrap64, wrap32, wrapU64, wrapU8, wrapU32]
  refine hq _ _ ?_
  simp only [pickL, lk_cons, Nat.reduceEqDiff, ↓reduceIte, reduceCtorEq, if_true, if_false]
  clear hq q
  have ha4 := ha3.keep0 hk4
  have hS4 := hS2'.keep0 hk4
  have hSS := hS.keep0 hk4
  obtain ⟨p1, o1, q1, i1, i2, i3, i4⟩ := hSS.at (P := Try.prog) (k0 := .i64) (i := n) ti23 rfl ti3 rfl (by omega)
  obtain ⟨p2, o2, q2, j1, j2, j3, j4⟩ := hSS.at (P := Try.prog) (k0 := .i64) (i := n + 1) ti23 rfl ti3 rfl (by omega)
  have e1 : ((List.range n).map (fun i => AV.int .i64 (xs i)) ++ [AV.int .i64 (-41), AV.int .i64 (-42)]).getD n .any = .int .i64 (-41) := by
    rw [List.getD, List.getElem?_append_right (by simp)]; simp
  have e2 : ((List.range n).map (fun i => AV.int .i64 (xs i)) ++ [AV.int .i64 (-41), AV.int .i64 (-42)]).getD (n + 1) .any = .int .i64 (-42) := by
    rw [List.getD, List.getElem?_append_right (by simp)]; simp
  rw [e1] at i4
  rw [e2] at j4
  have hcut4 := hcut
  have hnn : ((n : Int) + 1) = ((n + 1 : Nat) : Int) := by omega
  have hla4 := ha4.len ti23 rfl
  repeat' (first | refine wpL_seq ?_ | refine wpL_skip ?_ | refine wpL_label ?_)
  refine wpL_region [0, 1, 72] fun q hq => ?_
  simp -implicitDefEqProofs (disch := omega) only [gO_nil, gO_cons, gN_cond, gN_val, gN_bad, outV_some, outV_none, outV_guard, outA_guard, outP_guard, outA, outP, gN_store, putd_lk, putd_lk0, lk_cons, lk_nil, ev_tmp, ev, gdO_tt, gdO_ff, gdO_tf, gdO_ft, gdO_u,
  itemsOf, itemsAt, operO, stepO, convO, callO, callB, storeO, pureA, loadA, allocA, serA, selA, binA, binInt, unA, convA, partA, TD.isAgg, TD.isBool, TD.isPtr, TD.isFunc, fieldOf, indexA, indexAddrA_sl, indexAddrA_ptr, lenA_sl, lenA_snil, lenA_str, buildA, placesA, fillA, repl, eqA, eqV, eqV.eqFs,
  ofConst, ofLeaf, ofLeafs, AV.cells, AV.leaf, List.all_cons, List.all_nil, Bool.true_and, Bool.and_true, Bool.false_and, Bool.and_false, Bool.true_or, Bool.false_or, Bool.or_false, Bool.or_true, Bool.not_true, Bool.not_false, Bool.not_not,
  Option.bind_some, Option.bind_none, Option.map_some, Option.map_none, Option.getD_some, Option.getD_none, Option.bind_eq_bind, List.getElem?_cons_zero, List.getElem?_cons_succ, List.getElem?_nil, List.getElem?_toArray, List.map_cons, List.map_nil, List.append_nil, List.nil_append, List.cons_append, List.singleton_append,
  List.take_zero, List.drop_zero, List.take_succ_cons, List.drop_succ_cons, List.take_nil, List.drop_nil, List.length_cons, List.length_nil, List.length_append, List.tail_cons, List.headD_cons, List.headD_nil, List.tail_nil,
  Nat.reduceEqDiff, Nat.reduceAdd, Nat.reduceMul, Nat.reduceLeDiff, ↓reduceIte, if_true, if_false, reduceCtorEq, true_and, and_true, false_and, and_false, decide_true, decide_false, Int.natCast_nonneg, Int.toNat_natCast, Nat.mul_one, Nat.one_mul, Nat.zero_add, Nat.add_zero, ne_eq, not_true_eq_false, not_false_eq_true, Nat.zero_le, Nat.le_refl, Int.toNat_zero, Nat.zero_mul, Nat.mul_zero, and_self, Nat.succ_ne_self,
  wrap64, wrap32, wrapU64, wrapU8, wrapU32, hla4, hcut]
  refine gN_callF (f8_same hS4 ha4 (by omega) (by omega) xs xs (fun _ _ => rfl) (fun _ _ => rfl) ?_)
  rw [decide_eq_true ⟨rfl, fun _ _ => rfl⟩]
  simp -implicitDefEqProofs (disch := omega) only [gO_nil, gO_cons, gN_cond, gN_val, gN_bad, outV_some, outV_none, outV_guard, outA_guard, outP_guard, outA, outP, gN_store, putd_lk, putd_lk0, lk_cons, lk_nil, ev_tmp, ev, gdO_tt, gdO_ff, gdO_tf, gdO_ft, gdO_u,
  itemsOf, itemsAt, operO, stepO, convO, callO, callB, storeO, pureA, loadA, allocA, serA, selA, binA, binInt, unA, convA, partA, TD.isAgg, TD.isBool, TD.isPtr, TD.isFunc, fieldOf, indexA, indexAddrA_sl, indexAddrA_ptr, lenA_sl, lenA_snil, lenA_str, buildA, placesA, fillA, repl, eqA, eqV, eqV.eqFs,
  ofConst, ofLeaf, ofLeafs, AV.cells, AV.leaf, List.all_cons, List.all_nil, Bool.true_and, Bool.and_true, Bool.false_and, Bool.and_false, Bool.true_or, Bool.false_or, Bool.or_false, Bool.or_true, Bool.not_true, Bool.not_false, Bool.not_not,
  Option.bind_some, Option.bind_none, Option.map_some, Option.map_none, Option.getD_some, Option.getD_none, Option.bind_eq_bind, List.getElem?_cons_zero, List.getElem?_cons_succ, List.getElem?_nil, List.getElem?_toArray, List.map_cons, List.map_nil, List.append_nil, List.nil_append, List.cons_append, List.singleton_append,
  List.take_zero, List.drop_zero, List.take_succ_cons, List.drop_succ_cons, List.take_nil, List.drop_nil, List.length_cons, List.length_nil, List.length_append, List.tail_cons, List.headD_cons, List.headD_nil, List.tail_nil,
  Nat.reduceEqDiff, Nat.reduceAdd, Nat.reduceMul, Nat.reduceLeDiff, ↓reduceIte, if_true, if_false, reduceCtorEq, true_and, and_true, false_and, and_false, decide_true, decide_false, Int.natCast_nonneg, Int.toNat_natCast, Nat.mul_one, Nat.one_mul, Nat.zero_add, Nat.add_zero, ne_eq, not_true_eq_false, not_false_eq_true, Nat.zero_le, Nat.le_refl, Int.toNat_zero, Nat.zero_mul, Nat.mul_zero, and_self, Nat.succ_ne_self,
  wrap64, wrap32, wrapU64, wrapU8, wrapU32, hla4, i1, i2, i3, i4, ti3, hnn, j1, j2, j3, j4]
  refine hq _ _ ?_
  simp only [pickL, lk_cons, Nat.reduceEqDiff, ↓reduceIte, reduceCtorEq, if_true, if_false]
  clear hq q
  repeat' (first | refine wpL_seq ?_ | refine wpL_skip ?_ | refine wpL_label ?_)
  refine wpL_cond rfl (fun h => ?_) (fun h => ?_)
  · cases h
  clear h
  -- members
  repeat' (first | refine wpL_seq ?_ | refine wpL_skip ?_ | refine wpL_label ?_)
  refine wpL_region [0, 1, 12] fun q hq => ?_
  simp -implicitDefEqProofs (disch := omega) only [gO_nil, gO_cons, gN_cond, gN_val, gN_bad, outV_some, outV_none, outV_guard, outA_guard, outP_guard, outA, outP, gN_store, putd_lk, putd_lk0, lk_cons, lk_nil, ev_tmp, ev, gdO_tt, gdO_ff, gdO_tf, gdO_ft, gdO_u,
  itemsOf, itemsAt, operO, stepO, convO, callO, callB, storeO, pureA, loadA, allocA, serA, selA, binA, binInt, unA, convA, partA, TD.isAgg, TD.isBool, TD.isPtr, TD.isFunc, fieldOf, indexA, indexAddrA_sl, indexAddrA_ptr, lenA_sl, lenA_snil, lenA_str, buildA, placesA, fillA, repl, eqA, eqV, eqV.eqFs,
  ofConst, ofLeaf, ofLeafs, AV.cells, AV.leaf, List.all_cons, List.all_nil, Bool.true_and, Bool.and_true, Bool.false_and, Bool.and_false, Bool.true_or, Bool.false_or, Bool.or_false, Bool.or_true, Bool.not_true, Bool.not_false, Bool.not_not,
  Option.bind_some, Option.bind_none, Option.map_some, Option.map_none, Option.getD_some, Option.getD_none, Option.bind_eq_bind, List.getElem?_cons_zero, List.getElem?_cons_succ, List.getElem?_nil, List.getElem?_toArray, List.map_cons, List.map_nil, List.append_nil, List.nil_append, List.cons_append, List.singleton_append,
  List.take_zero, List.drop_zero, List.take_succ_cons, List.drop_succ_cons, List.take_nil, List.drop_nil, List.length_cons, List.length_nil, List.length_append, List.tail_cons, List.headD_cons, List.headD_nil, List.tail_nil,
  Nat.reduceEqDiff, Nat.reduceAdd, Nat.reduceMul, Nat.reduceLeDiff, ↓reduceIte, if_true, if_false, reduceCtorEq, true_and, and_true, false_and, and_false, decide_true, decide_false, Int.natCast_nonneg, Int.toNat_natCast, Nat.mul_one, Nat.one_mul, Nat.zero_add, Nat.add_zero, ne_eq, not_true_eq_false, not_false_eq_true, Nat.zero_le, Nat.le_refl, Int.toNat_zero, Nat.zero_mul, Nat.mul_zero, and_self, Nat.succ_ne_self,
  wrap64, wrap32, wrapU64, wrapU8, wrapU32]
  refine gN_callF (f9_members fun v3 m5 hk5 hO5 hf5 hT5 => ?_)
  simp -implicitDefEqProofs (disch := omega) only [gO_nil, gO_cons, gN_cond, gN_val, gN_bad, outV_some, outV_none, outV_guard, outA_guard, outP_guard, outA, outP, gN_store, putd_lk, putd_lk0, lk_cons, lk_nil, ev_tmp, ev, gdO_tt, gdO_ff, gdO_tf, gdO_ft, gdO_u,
  itemsOf, itemsAt, operO, stepO, convO, callO, callB, storeO, pureA, loadA, allocA, serA, selA, binA, binInt, unA, convA, partA, TD.isAgg, TD.isBool, TD.isPtr, TD.isFunc, fieldOf, indexA, indexAddrA_sl, indexAddrA_ptr, lenA_sl, lenA_snil, lenA_str, buildA, placesA, fillA, repl, eqA, eqV, eqV.eqFs,
  ofConst, ofLeaf, ofLeafs, AV.cells, AV.leaf, List.all_cons, List.all_nil, Bool.true_and, Bool.and_true, Bool.false_and, Bool.and_false, Bool.true_or, Bool.false_or, Bool.or_false, Bool.or_true, Bool.not_true, Bool.not_false, Bool.not_not,
  Option.bind_some, Option.bind_none, Option.map_some, Option.map_none, Option.getD_some, Option.getD_none, Option.bind_eq_bind, List.getElem?_cons_zero, List.getElem?_cons_succ, List.getElem?_nil, List.getElem?_toArray, List.map_cons, List.map_nil, List.append_nil, List.nil_append, List.cons_append, List.singleton_append,
  List.take_zero, List.drop_zero, List.take_succ_cons, List.drop_succ_cons, List.take_nil, List.drop_nil, List.length_cons, List.length_nil, List.length_append, List.tail_cons, List.headD_cons, List.headD_nil, List.tail_nil,
  Nat.reduceEqDiff, Nat.reduceAdd, Nat.reduceMul, Nat.reduceLeDiff, ↓reduceIte, if_true, if_false, reduceCtorEq, true_and, and_true, false_and, and_false, decide_true, decide_false, Int.natCast_nonneg, Int.toNat_natCast, Nat.mul_one, Nat.one_mul, Nat.zero_add, Nat.add_zero, ne_eq, not_true_eq_false, not_false_eq_true, Nat.zero_le, Nat.le_refl, Int.toNat_zero, Nat.zero_mul, Nat.mul_zero, and_self, Nat.succ_ne_self,
  wrap64, wrap32, wrapU64, wrapU8, wrapU32]
  refine hq _ _ ?_
  simp only [pickL, lk_cons, Nat.reduceEqDiff, ↓reduceIte, reduceCtorEq, if_true, if_false]
  clear hq q
  repeat' (first | refine wpL_seq ?_ | refine wpL_skip ?_ | refine wpL_label ?_)
  refine wpL_region [0, 1, 12, 13] fun q hq => ?_
  simp -implicitDefEqProofs (disch := omega) only [gO_nil, gO_cons, gN_cond, gN_val, gN_bad, outV_some, outV_none, outV_guard, outA_guard, outP_guard, outA, outP, gN_store, putd_lk, putd_lk0, lk_cons, lk_nil, ev_tmp, ev, gdO_tt, gdO_ff, gdO_tf, gdO_ft, gdO_u,
  itemsOf, itemsAt, operO, stepO, convO, callO, callB, storeO, pureA, loadA, allocA, serA, selA, binA, binInt, unA, convA, partA, TD.isAgg, TD.isBool, TD.isPtr, TD.isFunc, fieldOf, indexA, indexAddrA_sl, indexAddrA_ptr, lenA_sl, lenA_snil, lenA_str, buildA, placesA, fillA, repl, eqA, eqV, eqV.eqFs,
  ofConst, ofLeaf, ofLeafs, AV.cells, AV.leaf, List.all_cons, List.all_nil, Bool.true_and, Bool.and_true, Bool.false_and, Bool.and_false, Bool.true_or, Bool.false_or, Bool.or_false, Bool.or_true, Bool.not_true, Bool.not_false, Bool.not_not,
  Option.bind_some, Option.bind_none, Option.map_some, Option.map_none, Option.getD_some, Option.getD_none, Option.bind_eq_bind, List.getElem?_cons_zero, List.getElem?_cons_succ, List.getElem?_nil, List.getElem?_toArray, List.map_cons, List.map_nil, List.append_nil, List.nil_append, List.cons_append, List.singleton_append,
  List.take_zero, List.drop_zero, List.take_succ_cons, List.drop_succ_cons, List.take_nil, List.drop_nil, List.length_cons, List.length_nil, List.length_append, List.tail_cons, List.headD_cons, List.headD_nil, List.tail_nil,
  Nat.reduceEqDiff, Nat.reduceAdd, Nat.reduceMul, Nat.reduceLeDiff, ↓reduceIte, if_true, if_false, reduceCtorEq, true_and, and_true, false_and, and_false, decide_true, decide_false, Int.natCast_nonneg, Int.toNat_natCast, Nat.mul_one, Nat.one_mul, Nat.zero_add, Nat.add_zero, ne_eq, not_true_eq_false, not_false_eq_true, Nat.zero_le, Nat.le_refl, Int.toNat_zero, Nat.zero_mul, Nat.mul_zero, and_self, Nat.succ_ne_self,
  wrap64, wrap32, wrapU64, wrapU8, wrapU32]
  refine gN_callF (f10_members fun v4 m6 hk6 hO6 hf6 hT6 => ?_)
  simp -implicitDefEqProofs (disch := omega) only [gO_nil, gO_cons, gN_cond, gN_val, gN_bad, outV_some, outV_none, outV_guard, outA_guard, outP_guard, outA, outP, gN_store, putd_lk, putd_lk0, lk_cons, lk_nil, ev_tmp, ev, gdO_tt, gdO_ff, gdO_tf, gdO_ft, gdO_u,
  itemsOf, itemsAt, operO, stepO, convO, callO, callB, storeO, pureA, loadA, allocA, serA, selA, binA, binInt, unA, convA, partA, TD.isAgg, TD.isBool, TD.isPtr, TD.isFunc, fieldOf, indexA, indexAddrA_sl, indexAddrA_ptr, lenA_sl, lenA_snil, lenA_str, buildA, placesA, fillA, repl, eqA, eqV, eqV.eqFs,
  ofConst, ofLeaf, ofLeafs, AV.cells, AV.leaf, List.all_cons, List.all_nil, Bool.true_and, Bool.and_true, Bool.false_and, Bool.and_false, Bool.true_or, Bool.false_or, Bool.or_false, Bool.or_true, Bool.not_true, Bool.not_false, Bool.not_not,
  Option.bind_some, Option.bind_none, Option.map_some, Option.map_none, Option.getD_some, Option.getD_none, Option.bind_eq_bind, List.getElem?_cons_zero, List.getElem?_cons_succ, List.getElem?_nil, List.getElem?_toArray, List.map_cons, List.map_nil, List.append_nil, List.nil_append, List.cons_append, List.singleton_append,
  List.take_zero, List.drop_zero, List.take_succ_cons, List.drop_succ_cons, List.take_nil, List.drop_nil, List.length_cons, List.length_nil, List.length_append, List.tail_cons, List.headD_cons, List.headD_nil, List.tail_nil,
  Nat.reduceEqDiff, Nat.reduceAdd, Nat.reduceMul, Nat.reduceLeDiff, ↓reduceIte, if_true, if_false, reduceCtorEq, true_and, and_true, false_and, and_false, decide_true, decide_false, Int.natCast_nonneg, Int.toNat_natCast, Nat.mul_one, Nat.one_mul, Nat.zero_add, Nat.add_zero, ne_eq, not_true_eq_false, not_false_eq_true, Nat.zero_le, Nat.le_refl, Int.toNat_zero, Nat.zero_mul, Nat.mul_zero, and_self, Nat.succ_ne_self,
  wrap64, wrap32, wrapU64, wrapU8, wrapU32]
  refine hq _ _ ?_
  simp only [pickL, lk_cons, Nat.reduceEqDiff, ↓reduceIte, reduceCtorEq, if_true, if_false]
  clear hq q
  rw [memL_memZ] at hO5 hO6
  have hO5' := hO5.keep0 hk6
  have hL := memZ_len M1
  repeat' (first | refine wpL_seq ?_ | refine wpL_skip ?_ | refine wpL_label ?_)
  refine wpL_region [0, 1, 12, 13, 80] fun q hq => ?_
  simp -implicitDefEqProofs (disch := omega) only [gO_nil, gO_cons, gN_cond, gN_val, gN_bad, outV_some, outV_none, outV_guard, outA_guard, outP_guard, outA, outP, gN_store, putd_lk, putd_lk0, lk_cons, lk_nil, ev_tmp, ev, gdO_tt, gdO_ff, gdO_tf, gdO_ft, gdO_u,
  itemsOf, itemsAt, operO, stepO, convO, callO, callB, storeO, pureA, loadA, allocA, serA, selA, binA, binInt, unA, convA, partA, TD.isAgg, TD.isBool, TD.isPtr, TD.isFunc, fieldOf, indexA, indexAddrA_sl, indexAddrA_ptr, lenA_sl, lenA_snil, lenA_str, buildA, placesA, fillA, repl, eqA, eqV, eqV.eqFs,
  ofConst, ofLeaf, ofLeafs, AV.cells, AV.leaf, List.all_cons, List.all_nil, Bool.true_and, Bool.and_true, Bool.false_and, Bool.and_false, Bool.true_or, Bool.false_or, Bool.or_false, Bool.or_true, Bool.not_true, Bool.not_false, Bool.not_not,
  Option.bind_some, Option.bind_none, Option.map_some, Option.map_none, Option.getD_some, Option.getD_none, Option.bind_eq_bind, List.getElem?_cons_zero, List.getElem?_cons_succ, List.getElem?_nil, List.getElem?_toArray, List.map_cons, List.map_nil, List.append_nil, List.nil_append, List.cons_append, List.singleton_append,
  List.take_zero, List.drop_zero, List.take_succ_cons, List.drop_succ_cons, List.take_nil, List.drop_nil, List.length_cons, List.length_nil, List.length_append, List.tail_cons, List.headD_cons, List.headD_nil, List.tail_nil,
  Nat.reduceEqDiff, Nat.reduceAdd, Nat.reduceMul, Nat.reduceLeDiff, ↓reduceIte, if_true, if_false, reduceCtorEq, true_and, and_true, false_and, and_false, decide_true, decide_false, Int.natCast_nonneg, Int.toNat_natCast, Nat.mul_one, Nat.one_mul, Nat.zero_add, Nat.add_zero, ne_eq, not_true_eq_false, not_false_eq_true, Nat.zero_le, Nat.le_refl, Int.toNat_zero, Nat.zero_mul, Nat.mul_zero, and_self, Nat.succ_ne_self,
  wrap64, wrap32, wrapU64, wrapU8, wrapU32]
  refine gN_callF (f8_same hO5'.ints hO6.ints (by omega) (by omega) (fun i => (memZ M1).getD i 0) (fun i => (memZ M1).getD i 0) (fun _ _ => rfl) (fun _ _ => rfl) ?_)
  rw [decide_eq_true ⟨rfl, fun _ _ => rfl⟩]
  simp -implicitDefEqProofs (disch := omega) only [gO_nil, gO_cons, gN_cond, gN_val, gN_bad, outV_some, outV_none, outV_guard, outA_guard, outP_guard, outA, outP, gN_store, putd_lk, putd_lk0, lk_cons, lk_nil, ev_tmp, ev, gdO_tt, gdO_ff, gdO_tf, gdO_ft, gdO_u,
  itemsOf, itemsAt, operO, stepO, convO, callO, callB, storeO, pureA, loadA, allocA, serA, selA, binA, binInt, unA, convA, partA, TD.isAgg, TD.isBool, TD.isPtr, TD.isFunc, fieldOf, indexA, indexAddrA_sl, indexAddrA_ptr, lenA_sl, lenA_snil, lenA_str, buildA, placesA, fillA, repl, eqA, eqV, eqV.eqFs,
  ofConst, ofLeaf, ofLeafs, AV.cells, AV.leaf, List.all_cons, List.all_nil, Bool.true_and, Bool.and_true, Bool.false_and, Bool.and_false, Bool.true_or, Bool.false_or, Bool.or_false, Bool.or_true, Bool.not_true, Bool.not_false, Bool.not_not,
  Option.bind_some, Option.bind_none, Option.map_some, Option.map_none, Option.getD_some, Option.getD_none, Option.bind_eq_bind, List.getElem?_cons_zero, List.getElem?_cons_succ, List.getElem?_nil, List.getElem?_toArray, List.map_cons, List.map_nil, List.append_nil, List.nil_append, List.cons_append, List.singleton_append,
  List.take_zero, List.drop_zero, List.take_succ_cons, List.drop_succ_cons, List.take_nil, List.drop_nil, List.length_cons, List.length_nil, List.length_append, List.tail_cons, List.headD_cons, List.headD_nil, List.tail_nil,
  Nat.reduceEqDiff, Nat.reduceAdd, Nat.reduceMul, Nat.reduceLeDiff, ↓reduceIte, if_true, if_false, reduceCtorEq, true_and, and_true, false_and, and_false, decide_true, decide_false, Int.natCast_nonneg, Int.toNat_natCast, Nat.mul_one, Nat.one_mul, Nat.zero_add, Nat.add_zero, ne_eq, not_true_eq_false, not_false_eq_true, Nat.zero_le, Nat.le_refl, Int.toNat_zero, Nat.zero_mul, Nat.mul_zero, and_self, Nat.succ_ne_self,
  wrap64, wrap32, wrapU64, wrapU8, wrapU32]
  refine hq _ _ ?_
  simp only [pickL, lk_cons, Nat.reduceEqDiff, ↓reduceIte, reduceCtorEq, if_true, if_false]
  clear hq q
  repeat' (first | refine wpL_seq ?_ | refine wpL_skip ?_ | refine wpL_label ?_)
  refine wpL_cond rfl (fun h => ?_) (fun h => ?_)
  · cases h
  clear h
  have hl5 := hO5'.ints.len ti23 rfl
  repeat' (first | refine wpL_seq ?_ | refine wpL_skip ?_ | refine wpL_label ?_)
  refine wpL_region [0, 1, 12, 13, 14] fun q hq => ?_
  simp -implicitDefEqProofs (disch := omega) only [gO_nil, gO_cons, gN_cond, gN_val, gN_bad, outV_some, outV_none, outV_guard, outA_guard, outP_guard, outA, outP, gN_store, putd_lk, putd_lk0, lk_cons, lk_nil, ev_tmp, ev, gdO_tt, gdO_ff, gdO_tf, gdO_ft, gdO_u,
  itemsOf, itemsAt, operO, stepO, convO, callO, callB, storeO, pureA, loadA, allocA, serA, selA, binA, binInt, unA, convA, partA, TD.isAgg, TD.isBool, TD.isPtr, TD.isFunc, fieldOf, indexA, indexAddrA_sl, indexAddrA_ptr, lenA_sl, lenA_snil, lenA_str, buildA, placesA, fillA, repl, eqA, eqV, eqV.eqFs,
  ofConst, ofLeaf, ofLeafs, AV.cells, AV.leaf, List.all_cons, List.all_nil, Bool.true_and, Bool.and_true, Bool.false_and, Bool.and_false, Bool.true_or, Bool.false_or, Bool.or_false, Bool.or_true, Bool.not_true, Bool.not_false, Bool.not_not,
  Option.bind_some, Option.bind_none, Option.map_some, Option.map_none, Option.getD_some, Option.getD_none, Option.bind_eq_bind, List.getElem?_cons_zero, List.getElem?_cons_succ, List.getElem?_nil, List.getElem?_toArray, List.map_cons, List.map_nil, List.append_nil, List.nil_append, List.cons_append, List.singleton_append,
  List.take_zero, List.drop_zero, List.take_succ_cons, List.drop_succ_cons, List.take_nil, List.drop_nil, List.length_cons, List.length_nil, List.length_append, List.tail_cons, List.headD_cons, List.headD_nil, List.tail_nil,
  Nat.reduceEqDiff, Nat.reduceAdd, Nat.reduceMul, Nat.reduceLeDiff, ↓reduceIte, if_true, if_false, reduceCtorEq, true_and, and_true, false_and, and_false, decide_true, decide_false, Int.natCast_nonneg, Int.toNat_natCast, Nat.mul_one, Nat.one_mul, Nat.zero_add, Nat.add_zero, ne_eq, not_true_eq_false, not_false_eq_true, Nat.zero_le, Nat.le_refl, Int.toNat_zero, Nat.zero_mul, Nat.mul_zero, and_self, Nat.succ_ne_self,
  wrap64, wrap32, wrapU64, wrapU8, wrapU32, hl5]
  refine hq _ _ ?_
  simp only [pickL, lk_cons, Nat.reduceEqDiff, ↓reduceIte, reduceCtorEq, if_true, if_false]
  clear hq q
  repeat' (first | refine wpL_seq ?_ | refine wpL_skip ?_ | refine wpL_label ?_)
  refine wpL_region [0, 1, 12, 13, 14, 15] fun q hq => ?_
  simp -implicitDefEqProofs (disch := omega) only [gO_nil, gO_cons, gN_cond, gN_val, gN_bad, outV_some, outV_none, outV_guard, outA_guard, outP_guard, outA, outP, gN_store, putd_lk, putd_lk0, lk_cons, lk_nil, ev_tmp, ev, gdO_tt, gdO_ff, gdO_tf, gdO_ft, gdO_u,
  itemsOf, itemsAt, operO, stepO, convO, callO, callB, storeO, pureA, loadA, allocA, serA, selA, binA, binInt, unA, convA, partA, TD.isAgg, TD.isBool, TD.isPtr, TD.isFunc, fieldOf, indexA, indexAddrA_sl, indexAddrA_ptr, lenA_sl, lenA_snil, lenA_str, buildA, placesA, fillA, repl, eqA, eqV, eqV.eqFs,
  ofConst, ofLeaf, ofLeafs, AV.cells, AV.leaf, List.all_cons, List.all_nil, Bool.true_and, Bool.and_true, Bool.false_and, Bool.and_false, Bool.true_or, Bool.false_or, Bool.or_false, Bool.or_true, Bool.not_true, Bool.not_false, Bool.not_not,
  Option.bind_some, Option.bind_none, Option.map_some, Option.map_none, Option.getD_some, Option.getD_none, Option.bind_eq_bind, List.getElem?_cons_zero, List.getElem?_cons_succ, List.getElem?_nil, List.getElem?_toArray, List.map_cons, List.map_nil, List.append_nil, List.nil_append, List.cons_append, List.singleton_append,
  List.take_zero, List.drop_zero, List.take_succ_cons, List.drop_succ_cons, List.take_nil, List.drop_nil, List.length_cons, List.length_nil, List.length_append, List.tail_cons, List.headD_cons, List.headD_nil, List.tail_nil,
  Nat.reduceEqDiff, Nat.reduceAdd, Nat.reduceMul, Nat.reduceLeDiff, ↓reduceIte, if_true, if_false, reduceCtorEq, true_and, and_true, false_and, and_false, decide_true, decide_false, Int.natCast_nonneg, Int.toNat_natCast, Nat.mul_one, Nat.one_mul, Nat.zero_add, Nat.add_zero, ne_eq, not_true_eq_false, not_false_eq_true, Nat.zero_le, Nat.le_refl, Int.toNat_zero, Nat.zero_mul, Nat.mul_zero, and_self, Nat.succ_ne_self,
  wrap64, wrap32, wrapU64, wrapU8, wrapU32]
  refine hq _ _ ?_
  simp only [pickL, lk_cons, Nat.reduceEqDiff, ↓reduceIte, reduceCtorEq, if_true, if_false]
  clear hq q
  -- written over
  obtain ⟨m6', rfl⟩ : ∃ m6', m6' = m6 := ⟨m6, rfl⟩
  have hT5' := hT5.keep0 hk6
  have hD : ∀ x ∈ blkOf v4, x ∉ ancOf m6' v3 := fun x hx hx2 => by
    rw [ancOf_keep hO5 hk6 (by simp)] at hx2
    exact hT5 x hx2 (hf6 x (blkOf_anc hO6 x hx))
  repeat' (first | refine wpL_seq ?_ | refine wpL_skip ?_ | refine wpL_label ?_)
  refine wpL_block fun k1 hn1 hx1 ho1 => ?_
  refine wpL_loop (fun j e m' => ∃ (i : Nat) (cs : List AV), i ≤ (memZ M1).length ∧ j = (memZ M1).length - i ∧
      e = lk [(0, .int .u64 M1.toNat), (1, .int .u64 M2.toNat), (12, v3), (13, v4), (14, .int .i64 (memZ M1).length), (15, .int .i64 i)] ∧ Keep (ancOf m6' v3) m6' m' ∧ Ow m' v3 3 cs ∧ cs.length = (memZ M1).length ∧
      (∀ j, j < i → cs[j]? = some (AV.int .i64 (-7 - (j : Int)))) ∧ There m' v3 ∧ ∀ x ∈ ancOf m' v3, x ∈ ancOf m6' v3) (memZ M1).length
    ⟨0, _, by omega, by omega, rfl, Keep.refl _ _, hO5', by simp, by omega, hT5', fun x hx => hx⟩ ?_
  · rintro j e m' ⟨i, cs, hi, rfl, rfl, hkp, hO, hcl, hcs, hT, hA⟩ k2 hn2 hx2
    repeat' (first | refine wpL_seq ?_ | refine wpL_skip ?_ | refine wpL_label ?_)
    refine wpL_region [0, 1, 12, 13, 14, 15, 85] fun q hq => ?_
    simp -implicitDefEqProofs (disch := omega) only [gO_nil, gO_cons, gN_cond, gN_val, gN_bad, outV_some, outV_none, outV_guard, outA_guard, outP_guard, outA, outP, gN_store, putd_lk, putd_lk0, lk_cons, lk_nil, ev_tmp, ev, gdO_tt, gdO_ff, gdO_tf, gdO_ft, gdO_u,
  itemsOf, itemsAt, operO, stepO, convO, callO, callB, storeO, pureA, loadA, allocA, serA, selA, binA, binInt, unA, convA, partA, TD.isAgg, TD.isBool, TD.isPtr, TD.isFunc, fieldOf, indexA, indexAddrA_sl, indexAddrA_ptr, lenA_sl, lenA_snil, lenA_str, buildA, placesA, fillA, repl, eqA, eqV, eqV.eqFs,
  ofConst, ofLeaf, ofLeafs, AV.cells, AV.leaf, List.all_cons, List.all_nil, Bool.true_and, Bool.and_true, Bool.false_and, Bool.and_false, Bool.true_or, Bool.false_or, Bool.or_false, Bool.or_true, Bool.not_true, Bool.not_false, Bool.not_not,
  Option.bind_some, Option.bind_none, Option.map_some, Option.map_none, Option.getD_some, Option.getD_none, Option.bind_eq_bind, List.getElem?_cons_zero, List.getElem?_cons_succ, List.getElem?_nil, List.getElem?_toArray, List.map_cons, List.map_nil, List.append_nil, List.nil_append, List.cons_append, List.singleton_append,
  List.take_zero, List.drop_zero, List.take_succ_cons, List.drop_succ_cons, List.take_nil, List.drop_nil, List.length_cons, List.length_nil, List.length_append, List.tail_cons, List.headD_cons, List.headD_nil, List.tail_nil,
  Nat.reduceEqDiff, Nat.reduceAdd, Nat.reduceMul, Nat.reduceLeDiff, ↓reduceIte, if_true, if_false, reduceCtorEq, true_and, and_true, false_and, and_false, decide_true, decide_false, Int.natCast_nonneg, Int.toNat_natCast, Nat.mul_one, Nat.one_mul, Nat.zero_add, Nat.add_zero, ne_eq, not_true_eq_false, not_false_eq_true, Nat.zero_le, Nat.le_refl, Int.toNat_zero, Nat.zero_mul, Nat.mul_zero, and_self, Nat.succ_ne_self,
  wrap64, wrap32, wrapU64, wrapU8, wrapU32]
    refine hq _ _ ?_
    simp only [pickL, lk_cons, Nat.reduceEqDiff, ↓reduceIte, reduceCtorEq, if_true, if_false]
    clear hq q
    repeat' (first | refine wpL_seq ?_ | refine wpL_skip ?_ | refine wpL_label ?_)
    refine wpL_cond rfl (fun hc => ?_) (fun hc => ?_)
    · have hlt : i < (memZ M1).length := by simp at hc; omega
      obtain ⟨b, anc, rfl, hb, hanc⟩ := hO.inv (by omega)
      have hii : (i : Int) < ((cs.length : Nat) : Int) := by omega
      have hi1 : i + 1 ≤ cs.length := by omega
      repeat' (first | refine wpL_seq ?_ | refine wpL_skip ?_ | refine wpL_label ?_)
      refine wpL_block fun k3 hn3 hx3 ho3 => ?_
      repeat' (first | refine wpL_seq ?_ | refine wpL_skip ?_ | refine wpL_label ?_)
      refine wpL_region [0, 1, 12, 13, 14, 15] fun q hq => ?_
      simp -implicitDefEqProofs (disch := omega) only [gO_nil, gO_cons, gN_cond, gN_val, gN_bad, outV_some, outV_none, outV_guard, outA_guard, outP_guard, outA, outP, gN_store, putd_lk, putd_lk0, lk_cons, lk_nil, ev_tmp, ev, gdO_tt, gdO_ff, gdO_tf, gdO_ft, gdO_u,
  itemsOf, itemsAt, operO, stepO, convO, callO, callB, storeO, pureA, loadA, allocA, serA, selA, binA, binInt, unA, convA, partA, TD.isAgg, TD.isBool, TD.isPtr, TD.isFunc, fieldOf, indexA, indexAddrA_sl, indexAddrA_ptr, lenA_sl, lenA_snil, lenA_str, buildA, placesA, fillA, repl, eqA, eqV, eqV.eqFs,
  ofConst, ofLeaf, ofLeafs, AV.cells, AV.leaf, List.all_cons, List.all_nil, Bool.true_and, Bool.and_true, Bool.false_and, Bool.and_false, Bool.true_or, Bool.false_or, Bool.or_false, Bool.or_true, Bool.not_true, Bool.not_false, Bool.not_not,
  Option.bind_some, Option.bind_none, Option.map_some, Option.map_none, Option.getD_some, Option.getD_none, Option.bind_eq_bind, List.getElem?_cons_zero, List.getElem?_cons_succ, List.getElem?_nil, List.getElem?_toArray, List.map_cons, List.map_nil, List.append_nil, List.nil_append, List.cons_append, List.singleton_append,
  List.take_zero, List.drop_zero, List.take_succ_cons, List.drop_succ_cons, List.take_nil, List.drop_nil, List.length_cons, List.length_nil, List.length_append, List.tail_cons, List.headD_cons, List.headD_nil, List.tail_nil,
  Nat.reduceEqDiff, Nat.reduceAdd, Nat.reduceMul, Nat.reduceLeDiff, ↓reduceIte, if_true, if_false, reduceCtorEq, true_and, and_true, false_and, and_false, decide_true, decide_false, Int.natCast_nonneg, Int.toNat_natCast, Nat.mul_one, Nat.one_mul, Nat.zero_add, Nat.add_zero, ne_eq, not_true_eq_false, not_false_eq_true, Nat.zero_le, Nat.le_refl, Int.toNat_zero, Nat.zero_mul, Nat.mul_zero, and_self, Nat.succ_ne_self,
  wrap64, wrap32, wrapU64, wrapU8, wrapU32, ti23, ti3, hii, guardO, hb, hi1]
      refine gN_store_of rfl rfl fun m1' hb1 hk1' => ?_
      simp only [List.length_cons, List.length_nil, Nat.zero_add] at hb1
      rw [set_of_take (by omega)] at hb1
      simp -implicitDefEqProofs (disch := omega) only [gO_nil, gO_cons, gN_cond, gN_val, gN_bad, outV_some, outV_none, outV_guard, outA_guard, outP_guard, outA, outP, gN_store, putd_lk, putd_lk0, lk_cons, lk_nil, ev_tmp, ev, gdO_tt, gdO_ff, gdO_tf, gdO_ft, gdO_u,
  itemsOf, itemsAt, operO, stepO, convO, callO, callB, storeO, pureA, loadA, allocA, serA, selA, binA, binInt, unA, convA, partA, TD.isAgg, TD.isBool, TD.isPtr, TD.isFunc, fieldOf, indexA, indexAddrA_sl, indexAddrA_ptr, lenA_sl, lenA_snil, lenA_str, buildA, placesA, fillA, repl, eqA, eqV, eqV.eqFs,
  ofConst, ofLeaf, ofLeafs, AV.cells, AV.leaf, List.all_cons, List.all_nil, Bool.true_and, Bool.and_true, Bool.false_and, Bool.and_false, Bool.true_or, Bool.false_or, Bool.or_false, Bool.or_true, Bool.not_true, Bool.not_false, Bool.not_not,
  Option.bind_some, Option.bind_none, Option.map_some, Option.map_none, Option.getD_some, Option.getD_none, Option.bind_eq_bind, List.getElem?_cons_zero, List.getElem?_cons_succ, List.getElem?_nil, List.getElem?_toArray, List.map_cons, List.map_nil, List.append_nil, List.nil_append, List.cons_append, List.singleton_append,
  List.take_zero, List.drop_zero, List.take_succ_cons, List.drop_succ_cons, List.take_nil, List.drop_nil, List.length_cons, List.length_nil, List.length_append, List.tail_cons, List.headD_cons, List.headD_nil, List.tail_nil,
  Nat.reduceEqDiff, Nat.reduceAdd, Nat.reduceMul, Nat.reduceLeDiff, ↓reduceIte, if_true, if_false, reduceCtorEq, true_and, and_true, false_and, and_false, decide_true, decide_false, Int.natCast_nonneg, Int.toNat_natCast, Nat.mul_one, Nat.one_mul, Nat.zero_add, Nat.add_zero, ne_eq, not_true_eq_false, not_false_eq_true, Nat.zero_le, Nat.le_refl, Int.toNat_zero, Nat.zero_mul, Nat.mul_zero, and_self, Nat.succ_ne_self,
  wrap64, wrap32, wrapU64, wrapU8, wrapU32]
      refine hq _ _ ?_
      simp only [pickL, lk_cons, Nat.reduceEqDiff, ↓reduceIte, reduceCtorEq, if_true, if_false]
      clear hq q
      repeat' (first | refine wpL_seq ?_ | refine wpL_skip ?_ | refine wpL_label ?_)
      refine wpL_nil (hn3 _ _ ?_)
      repeat' (first | refine wpL_seq ?_ | refine wpL_skip ?_ | refine wpL_label ?_)
      refine wpL_region [0, 1, 12, 13, 14, 15] fun q hq => ?_
      simp -implicitDefEqProofs (disch := omega) only [gO_nil, gO_cons, gN_cond, gN_val, gN_bad, outV_some, outV_none, outV_guard, outA_guard, outP_guard, outA, outP, gN_store, putd_lk, putd_lk0, lk_cons, lk_nil, ev_tmp, ev, gdO_tt, gdO_ff, gdO_tf, gdO_ft, gdO_u,
  itemsOf, itemsAt, operO, stepO, convO, callO, callB, storeO, pureA, loadA, allocA, serA, selA, binA, binInt, unA, convA, partA, TD.isAgg, TD.isBool, TD.isPtr, TD.isFunc, fieldOf, indexA, indexAddrA_sl, indexAddrA_ptr, lenA_sl, lenA_snil, lenA_str, buildA, placesA, fillA, repl, eqA, eqV, eqV.eqFs,
  ofConst, ofLeaf, ofLeafs, AV.cells, AV.leaf, List.all_cons, List.all_nil, Bool.true_and, Bool.and_true, Bool.false_and, Bool.and_false, Bool.true_or, Bool.false_or, Bool.or_false, Bool.or_true, Bool.not_true, Bool.not_false, Bool.not_not,
  Option.bind_some, Option.bind_none, Option.map_some, Option.map_none, Option.getD_some, Option.getD_none, Option.bind_eq_bind, List.getElem?_cons_zero, List.getElem?_cons_succ, List.getElem?_nil, List.getElem?_toArray, List.map_cons, List.map_nil, List.append_nil, List.nil_append, List.cons_append, List.singleton_append,
  List.take_zero, List.drop_zero, List.take_succ_cons, List.drop_succ_cons, List.take_nil, List.drop_nil, List.length_cons, List.length_nil, List.length_append, List.tail_cons, List.headD_cons, List.headD_nil, List.tail_nil,
  Nat.reduceEqDiff, Nat.reduceAdd, Nat.reduceMul, Nat.reduceLeDiff, ↓reduceIte, if_true, if_false, reduceCtorEq, true_and, and_true, false_and, and_false, decide_true, decide_false, Int.natCast_nonneg, Int.toNat_natCast, Nat.mul_one, Nat.one_mul, Nat.zero_add, Nat.add_zero, ne_eq, not_true_eq_false, not_false_eq_true, Nat.zero_le, Nat.le_refl, Int.toNat_zero, Nat.zero_mul, Nat.mul_zero, and_self, Nat.succ_ne_self,
  wrap64, wrap32, wrapU64, wrapU8, wrapU32]
      refine hq _ _ ?_
      simp only [pickL, lk_cons, Nat.reduceEqDiff, ↓reduceIte, reduceCtorEq, if_true, if_false]
      clear hq q
      have hlen : (cs.set i (AV.int .i64 (-7 - (i : Int)))).length = cs.length := by simp
      refine wpL_nil (hn2 ((memZ M1).length - (i + 1)) _ _ (by omega) ⟨i + 1, _, by omega, rfl, rfl, ?_, .inr ⟨b, _, by rw [hlen], hb1, rfl, rfl, rfl⟩, by rw [hlen, hcl], ?_, ?_, ?_⟩)
      · intro x hx kx hkx
        refine hk1' x (fun h => hx (hA x ?_)) kx (hkp x hx kx hkx)
        rw [hanc]; exact h
      · intro j hj
        rw [List.getElem?_set]
        by_cases h : i = j
        · subst h; simp [hcl, hlt]
        · rw [if_neg h]; exact hcs j (by omega)
      · intro x hx
        simp [ancOf, hb1] at hx; subst hx; simp [hb1]
      · intro x hx
        simp [ancOf, hb1] at hx; subst hx
        exact hA _ (by rw [hanc]; simp)
    · have hin : i = (memZ M1).length := by simp at hc; omega
      subst hin
      repeat' (first | refine wpL_seq ?_ | refine wpL_skip ?_ | refine wpL_label ?_)
      refine wpL_exit (hx2 _ _ _ (by simp) (hx1 _ _ ?_))
      -- what has grown
      have hO6a : Ow m' v4 3 ((memZ M1).map fun z => .int .i64 z) := hO6.keep hkp hD
      repeat' (first | refine wpL_seq ?_ | refine wpL_skip ?_ | refine wpL_label ?_)
      refine wpL_region [0, 1, 12, 13, 14, 16] fun q hq => ?_
      simp -implicitDefEqProofs (disch := omega) only [gO_nil, gO_cons, gN_cond, gN_val, gN_bad, outV_some, outV_none, outV_guard, outA_guard, outP_guard, outA, outP, gN_store, putd_lk, putd_lk0, lk_cons, lk_nil, ev_tmp, ev, gdO_tt, gdO_ff, gdO_tf, gdO_ft, gdO_u,
  itemsOf, itemsAt, operO, stepO, convO, callO, callB, storeO, pureA, loadA, allocA, serA, selA, binA, binInt, unA, convA, partA, TD.isAgg, TD.isBool, TD.isPtr, TD.isFunc, fieldOf, indexA, indexAddrA_sl, indexAddrA_ptr, lenA_sl, lenA_snil, lenA_str, buildA, placesA, fillA, repl, eqA, eqV, eqV.eqFs,
  ofConst, ofLeaf, ofLeafs, AV.cells, AV.leaf, List.all_cons, List.all_nil, Bool.true_and, Bool.and_true, Bool.false_and, Bool.and_false, Bool.true_or, Bool.false_or, Bool.or_false, Bool.or_true, Bool.not_true, Bool.not_false, Bool.not_not,
  Option.bind_some, Option.bind_none, Option.map_some, Option.map_none, Option.getD_some, Option.getD_none, Option.bind_eq_bind, List.getElem?_cons_zero, List.getElem?_cons_succ, List.getElem?_nil, List.getElem?_toArray, List.map_cons, List.map_nil, List.append_nil, List.nil_append, List.cons_append, List.singleton_append,
  List.take_zero, List.drop_zero, List.take_succ_cons, List.drop_succ_cons, List.take_nil, List.drop_nil, List.length_cons, List.length_nil, List.length_append, List.tail_cons, List.headD_cons, List.headD_nil, List.tail_nil,
  Nat.reduceEqDiff, Nat.reduceAdd, Nat.reduceMul, Nat.reduceLeDiff, ↓reduceIte, if_true, if_false, reduceCtorEq, true_and, and_true, false_and, and_false, decide_true, decide_false, Int.natCast_nonneg, Int.toNat_natCast, Nat.mul_one, Nat.one_mul, Nat.zero_add, Nat.add_zero, ne_eq, not_true_eq_false, not_false_eq_true, Nat.zero_le, Nat.le_refl, Int.toNat_zero, Nat.zero_mul, Nat.mul_zero, and_self, Nat.succ_ne_self,
  wrap64, wrap32, wrapU64, wrapU8, wrapU32, ti23, ti3]
      refine gN_alloc_sl fun b8 m8 hb8 hm8 hk8 => ?_
      simp -implicitDefEqProofs (disch := omega) only [gO_nil, gO_cons, gN_cond, gN_val, gN_bad, outV_some, outV_none, outV_guard, outA_guard, outP_guard, outA, outP, gN_store, putd_lk, putd_lk0, lk_cons, lk_nil, ev_tmp, ev, gdO_tt, gdO_ff, gdO_tf, gdO_ft, gdO_u,
  itemsOf, itemsAt, operO, stepO, convO, callO, callB, storeO, pureA, loadA, allocA, serA, selA, binA, binInt, unA, convA, partA, TD.isAgg, TD.isBool, TD.isPtr, TD.isFunc, fieldOf, indexA, indexAddrA_sl, indexAddrA_ptr, lenA_sl, lenA_snil, lenA_str, buildA, placesA, fillA, repl, eqA, eqV, eqV.eqFs,
  ofConst, ofLeaf, ofLeafs, AV.cells, AV.leaf, List.all_cons, List.all_nil, Bool.true_and, Bool.and_true, Bool.false_and, Bool.and_false, Bool.true_or, Bool.false_or, Bool.or_false, Bool.or_true, Bool.not_true, Bool.not_false, Bool.not_not,
  Option.bind_some, Option.bind_none, Option.map_some, Option.map_none, Option.getD_some, Option.getD_none, Option.bind_eq_bind, List.getElem?_cons_zero, List.getElem?_cons_succ, List.getElem?_nil, List.getElem?_toArray, List.map_cons, List.map_nil, List.append_nil, List.nil_append, List.cons_append, List.singleton_append,
  List.take_zero, List.drop_zero, List.take_succ_cons, List.drop_succ_cons, List.take_nil, List.drop_nil, List.length_cons, List.length_nil, List.length_append, List.tail_cons, List.headD_cons, List.headD_nil, List.tail_nil,
  Nat.reduceEqDiff, Nat.reduceAdd, Nat.reduceMul, Nat.reduceLeDiff, ↓reduceIte, if_true, if_false, reduceCtorEq, true_and, and_true, false_and, and_false, decide_true, decide_false, Int.natCast_nonneg, Int.toNat_natCast, Nat.mul_one, Nat.one_mul, Nat.zero_add, Nat.add_zero, ne_eq, not_true_eq_false, not_false_eq_true, Nat.zero_le, Nat.le_refl, Int.toNat_zero, Nat.zero_mul, Nat.mul_zero, and_self, Nat.succ_ne_self,
  wrap64, wrap32, wrapU64, wrapU8, wrapU32, ti23, ti3]
      have hlf : cs.length + 1 ≤ 65 := by omega
      refine gN_append ti23 rfl ti3 rfl (hO.keep0 hk8) (Src.of_ow (et := 3) (cs := [.int .i64 (-1000)]) (.inr ⟨b8, _, rfl, hm8, rfl, rfl, rfl⟩) rfl) ?_ ?_ (hT.keep0 hk8) fun v7 m9 hT9 hO9 hx9 hk9 hf9 => ?_
      · simp; omega
      · simp [maxInt]; omega
      have hS3 := (hO.sl.keep0 hk8).ext hx9
      have hD2 : ∀ x ∈ blkOf v4, x ∉ blkOf v3 := fun x hx hx2 => hD x hx (hA x (blkOf_anc hO x hx2))
      have hO4 : Ow m9 v4 3 ((memZ M1).map fun z => .int .i64 z) := (hO6a.keep0 hk8).keep hk9 hD2
      simp -implicitDefEqProofs (disch := omega) only [gO_nil, gO_cons, gN_cond, gN_val, gN_bad, outV_some, outV_none, outV_guard, outA_guard, outP_guard, outA, outP, gN_store, putd_lk, putd_lk0, lk_cons, lk_nil, ev_tmp, ev, gdO_tt, gdO_ff, gdO_tf, gdO_ft, gdO_u,
  itemsOf, itemsAt, operO, stepO, convO, callO, callB, storeO, pureA, loadA, allocA, serA, selA, binA, binInt, unA, convA, partA, TD.isAgg, TD.isBool, TD.isPtr, TD.isFunc, fieldOf, indexA, indexAddrA_sl, indexAddrA_ptr, lenA_sl, lenA_snil, lenA_str, buildA, placesA, fillA, repl, eqA, eqV, eqV.eqFs,
  ofConst, ofLeaf, ofLeafs, AV.cells, AV.leaf, List.all_cons, List.all_nil, Bool.true_and, Bool.and_true, Bool.false_and, Bool.and_false, Bool.true_or, Bool.false_or, Bool.or_false, Bool.or_true, Bool.not_true, Bool.not_false, Bool.not_not,
  Option.bind_some, Option.bind_none, Option.map_some, Option.map_none, Option.getD_some, Option.getD_none, Option.bind_eq_bind, List.getElem?_cons_zero, List.getElem?_cons_succ, List.getElem?_nil, List.getElem?_toArray, List.map_cons, List.map_nil, List.append_nil, List.nil_append, List.cons_append, List.singleton_append,
  List.take_zero, List.drop_zero, List.take_succ_cons, List.drop_succ_cons, List.take_nil, List.drop_nil, List.length_cons, List.length_nil, List.length_append, List.tail_cons, List.headD_cons, List.headD_nil, List.tail_nil,
  Nat.reduceEqDiff, Nat.reduceAdd, Nat.reduceMul, Nat.reduceLeDiff, ↓reduceIte, if_true, if_false, reduceCtorEq, true_and, and_true, false_and, and_false, decide_true, decide_false, Int.natCast_nonneg, Int.toNat_natCast, Nat.mul_one, Nat.one_mul, Nat.zero_add, Nat.add_zero, ne_eq, not_true_eq_false, not_false_eq_true, Nat.zero_le, Nat.le_refl, Int.toNat_zero, Nat.zero_mul, Nat.mul_zero, and_self, Nat.succ_ne_self,
  wrap64, wrap32, wrapU64, wrapU8, wrapU32]
      refine hq _ _ ?_
      simp only [pickL, lk_cons, Nat.reduceEqDiff, ↓reduceIte, reduceCtorEq, if_true, if_false]
      clear hq q
      repeat' (first | refine wpL_seq ?_ | refine wpL_skip ?_ | refine wpL_label ?_)
      refine wpL_region [1, 12, 13, 14, 16, 17] fun q hq => ?_
      simp -implicitDefEqProofs (disch := omega) only [gO_nil, gO_cons, gN_cond, gN_val, gN_bad, outV_some, outV_none, outV_guard, outA_guard, outP_guard, outA, outP, gN_store, putd_lk, putd_lk0, lk_cons, lk_nil, ev_tmp, ev, gdO_tt, gdO_ff, gdO_tf, gdO_ft, gdO_u,
  itemsOf, itemsAt, operO, stepO, convO, callO, callB, storeO, pureA, loadA, allocA, serA, selA, binA, binInt, unA, convA, partA, TD.isAgg, TD.isBool, TD.isPtr, TD.isFunc, fieldOf, indexA, indexAddrA_sl, indexAddrA_ptr, lenA_sl, lenA_snil, lenA_str, buildA, placesA, fillA, repl, eqA, eqV, eqV.eqFs,
  ofConst, ofLeaf, ofLeafs, AV.cells, AV.leaf, List.all_cons, List.all_nil, Bool.true_and, Bool.and_true, Bool.false_and, Bool.and_false, Bool.true_or, Bool.false_or, Bool.or_false, Bool.or_true, Bool.not_true, Bool.not_false, Bool.not_not,
  Option.bind_some, Option.bind_none, Option.map_some, Option.map_none, Option.getD_some, Option.getD_none, Option.bind_eq_bind, List.getElem?_cons_zero, List.getElem?_cons_succ, List.getElem?_nil, List.getElem?_toArray, List.map_cons, List.map_nil, List.append_nil, List.nil_append, List.cons_append, List.singleton_append,
  List.take_zero, List.drop_zero, List.take_succ_cons, List.drop_succ_cons, List.take_nil, List.drop_nil, List.length_cons, List.length_nil, List.length_append, List.tail_cons, List.headD_cons, List.headD_nil, List.tail_nil,
  Nat.reduceEqDiff, Nat.reduceAdd, Nat.reduceMul, Nat.reduceLeDiff, ↓reduceIte, if_true, if_false, reduceCtorEq, true_and, and_true, false_and, and_false, decide_true, decide_false, Int.natCast_nonneg, Int.toNat_natCast, Nat.mul_one, Nat.one_mul, Nat.zero_add, Nat.add_zero, ne_eq, not_true_eq_false, not_false_eq_true, Nat.zero_le, Nat.le_refl, Int.toNat_zero, Nat.zero_mul, Nat.mul_zero, and_self, Nat.succ_ne_self,
  wrap64, wrap32, wrapU64, wrapU8, wrapU32]
      refine gN_callF (f9_members fun v5 m10 hk10 hO10 hf10 hT10 => ?_)
      simp -implicitDefEqProofs (disch := omega) only [gO_nil, gO_cons, gN_cond, gN_val, gN_bad, outV_some, outV_none, outV_guard, outA_guard, outP_guard, outA, outP, gN_store, putd_lk, putd_lk0, lk_cons, lk_nil, ev_tmp, ev, gdO_tt, gdO_ff, gdO_tf, gdO_ft, gdO_u,
  itemsOf, itemsAt, operO, stepO, convO, callO, callB, storeO, pureA, loadA, allocA, serA, selA, binA, binInt, unA, convA, partA, TD.isAgg, TD.isBool, TD.isPtr, TD.isFunc, fieldOf, indexA, indexAddrA_sl, indexAddrA_ptr, lenA_sl, lenA_snil, lenA_str, buildA, placesA, fillA, repl, eqA, eqV, eqV.eqFs,
  ofConst, ofLeaf, ofLeafs, AV.cells, AV.leaf, List.all_cons, List.all_nil, Bool.true_and, Bool.and_true, Bool.false_and, Bool.and_false, Bool.true_or, Bool.false_or, Bool.or_false, Bool.or_true, Bool.not_true, Bool.not_false, Bool.not_not,
  Option.bind_some, Option.bind_none, Option.map_some, Option.map_none, Option.getD_some, Option.getD_none, Option.bind_eq_bind, List.getElem?_cons_zero, List.getElem?_cons_succ, List.getElem?_nil, List.getElem?_toArray, List.map_cons, List.map_nil, List.append_nil, List.nil_append, List.cons_append, List.singleton_append,
  List.take_zero, List.drop_zero, List.take_succ_cons, List.drop_succ_cons, List.take_nil, List.drop_nil, List.length_cons, List.length_nil, List.length_append, List.tail_cons, List.headD_cons, List.headD_nil, List.tail_nil,
  Nat.reduceEqDiff, Nat.reduceAdd, Nat.reduceMul, Nat.reduceLeDiff, ↓reduceIte, if_true, if_false, reduceCtorEq, true_and, and_true, false_and, and_false, decide_true, decide_false, Int.natCast_nonneg, Int.toNat_natCast, Nat.mul_one, Nat.one_mul, Nat.zero_add, Nat.add_zero, ne_eq, not_true_eq_false, not_false_eq_true, Nat.zero_le, Nat.le_refl, Int.toNat_zero, Nat.zero_mul, Nat.mul_zero, and_self, Nat.succ_ne_self,
  wrap64, wrap32, wrapU64, wrapU8, wrapU32]
      refine hq _ _ ?_
      simp only [pickL, lk_cons, Nat.reduceEqDiff, ↓reduceIte, reduceCtorEq, if_true, if_false]
      clear hq q
      repeat' (first | refine wpL_seq ?_ | refine wpL_skip ?_ | refine wpL_label ?_)
      refine wpL_region [1, 12, 13, 14, 16, 17, 18] fun q hq => ?_
      simp -implicitDefEqProofs (disch := omega) only [gO_nil, gO_cons, gN_cond, gN_val, gN_bad, outV_some, outV_none, outV_guard, outA_guard, outP_guard, outA, outP, gN_store, putd_lk, putd_lk0, lk_cons, lk_nil, ev_tmp, ev, gdO_tt, gdO_ff, gdO_tf, gdO_ft, gdO_u,
  itemsOf, itemsAt, operO, stepO, convO, callO, callB, storeO, pureA, loadA, allocA, serA, selA, binA, binInt, unA, convA, partA, TD.isAgg, TD.isBool, TD.isPtr, TD.isFunc, fieldOf, indexA, indexAddrA_sl, indexAddrA_ptr, lenA_sl, lenA_snil, lenA_str, buildA, placesA, fillA, repl, eqA, eqV, eqV.eqFs,
  ofConst, ofLeaf, ofLeafs, AV.cells, AV.leaf, List.all_cons, List.all_nil, Bool.true_and, Bool.and_true, Bool.false_and, Bool.and_false, Bool.true_or, Bool.false_or, Bool.or_false, Bool.or_true, Bool.not_true, Bool.not_false, Bool.not_not,
  Option.bind_some, Option.bind_none, Option.map_some, Option.map_none, Option.getD_some, Option.getD_none, Option.bind_eq_bind, List.getElem?_cons_zero, List.getElem?_cons_succ, List.getElem?_nil, List.getElem?_toArray, List.map_cons, List.map_nil, List.append_nil, List.nil_append, List.cons_append, List.singleton_append,
  List.take_zero, List.drop_zero, List.take_succ_cons, List.drop_succ_cons, List.take_nil, List.drop_nil, List.length_cons, List.length_nil, List.length_append, List.tail_cons, List.headD_cons, List.headD_nil, List.tail_nil,
  Nat.reduceEqDiff, Nat.reduceAdd, Nat.reduceMul, Nat.reduceLeDiff, ↓reduceIte, if_true, if_false, reduceCtorEq, true_and, and_true, false_and, and_false, decide_true, decide_false, Int.natCast_nonneg, Int.toNat_natCast, Nat.mul_one, Nat.one_mul, Nat.zero_add, Nat.add_zero, ne_eq, not_true_eq_false, not_false_eq_true, Nat.zero_le, Nat.le_refl, Int.toNat_zero, Nat.zero_mul, Nat.mul_zero, and_self, Nat.succ_ne_self,
  wrap64, wrap32, wrapU64, wrapU8, wrapU32]
      refine gN_callF (f9_members fun v6 m11 hk11 hO11 hf11 hT11 => ?_)
      simp -implicitDefEqProofs (disch := omega) only [gO_nil, gO_cons, gN_cond, gN_val, gN_bad, outV_some, outV_none, outV_guard, outA_guard, outP_guard, outA, outP, gN_store, putd_lk, putd_lk0, lk_cons, lk_nil, ev_tmp, ev, gdO_tt, gdO_ff, gdO_tf, gdO_ft, gdO_u,
  itemsOf, itemsAt, operO, stepO, convO, callO, callB, storeO, pureA, loadA, allocA, serA, selA, binA, binInt, unA, convA, partA, TD.isAgg, TD.isBool, TD.isPtr, TD.isFunc, fieldOf, indexA, indexAddrA_sl, indexAddrA_ptr, lenA_sl, lenA_snil, lenA_str, buildA, placesA, fillA, repl, eqA, eqV, eqV.eqFs,
  ofConst, ofLeaf, ofLeafs, AV.cells, AV.leaf, List.all_cons, List.all_nil, Bool.true_and, Bool.and_true, Bool.false_and, Bool.and_false, Bool.true_or, Bool.false_or, Bool.or_false, Bool.or_true, Bool.not_true, Bool.not_false, Bool.not_not,
  Option.bind_some, Option.bind_none, Option.map_some, Option.map_none, Option.getD_some, Option.getD_none, Option.bind_eq_bind, List.getElem?_cons_zero, List.getElem?_cons_succ, List.getElem?_nil, List.getElem?_toArray, List.map_cons, List.map_nil, List.append_nil, List.nil_append, List.cons_append, List.singleton_append,
  List.take_zero, List.drop_zero, List.take_succ_cons, List.drop_succ_cons, List.take_nil, List.drop_nil, List.length_cons, List.length_nil, List.length_append, List.tail_cons, List.headD_cons, List.headD_nil, List.tail_nil,
  Nat.reduceEqDiff, Nat.reduceAdd, Nat.reduceMul, Nat.reduceLeDiff, ↓reduceIte, if_true, if_false, reduceCtorEq, true_and, and_true, false_and, and_false, decide_true, decide_false, Int.natCast_nonneg, Int.toNat_natCast, Nat.mul_one, Nat.one_mul, Nat.zero_add, Nat.add_zero, ne_eq, not_true_eq_false, not_false_eq_true, Nat.zero_le, Nat.le_refl, Int.toNat_zero, Nat.zero_mul, Nat.mul_zero, and_self, Nat.succ_ne_self,
  wrap64, wrap32, wrapU64, wrapU8, wrapU32]
      refine hq _ _ ?_
      simp only [pickL, lk_cons, Nat.reduceEqDiff, ↓reduceIte, reduceCtorEq, if_true, if_false]
      clear hq q
      rw [memL_memZ] at hO10 hO11
      have hL2 := memZ_len M2
      have hl7 := ((hO9.keep0 hk10).keep0 hk11).sl
      have hcl7 : (cs ++ [AV.int .i64 (-1000)]).length = (memZ M1).length + 1 := by simp [hcl]
      rw [hcl7] at hl7
      have hA4 := (hO4.keep0 hk10).keep0 hk11
      have hA5 := hO10.keep0 hk11
      -- nothing is shared
      repeat' (first | refine wpL_seq ?_ | refine wpL_skip ?_ | refine wpL_label ?_)
      refine wpL_region [12, 13, 14, 16, 17, 18, 124] fun q hq => ?_
      simp -implicitDefEqProofs (disch := omega) only [gO_nil, gO_cons, gN_cond, gN_val, gN_bad, outV_some, outV_none, outV_guard, outA_guard, outP_guard, outA, outP, gN_store, putd_lk, putd_lk0, lk_cons, lk_nil, ev_tmp, ev, gdO_tt, gdO_ff, gdO_tf, gdO_ft, gdO_u,
  itemsOf, itemsAt, operO, stepO, convO, callO, callB, storeO, pureA, loadA, allocA, serA, selA, binA, binInt, unA, convA, partA, TD.isAgg, TD.isBool, TD.isPtr, TD.isFunc, fieldOf, indexA, indexAddrA_sl, indexAddrA_ptr, lenA_sl, lenA_snil, lenA_str, buildA, placesA, fillA, repl, eqA, eqV, eqV.eqFs,
  ofConst, ofLeaf, ofLeafs, AV.cells, AV.leaf, List.all_cons, List.all_nil, Bool.true_and, Bool.and_true, Bool.false_and, Bool.and_false, Bool.true_or, Bool.false_or, Bool.or_false, Bool.or_true, Bool.not_true, Bool.not_false, Bool.not_not,
  Option.bind_some, Option.bind_none, Option.map_some, Option.map_none, Option.getD_some, Option.getD_none, Option.bind_eq_bind, List.getElem?_cons_zero, List.getElem?_cons_succ, List.getElem?_nil, List.getElem?_toArray, List.map_cons, List.map_nil, List.append_nil, List.nil_append, List.cons_append, List.singleton_append,
  List.take_zero, List.drop_zero, List.take_succ_cons, List.drop_succ_cons, List.take_nil, List.drop_nil, List.length_cons, List.length_nil, List.length_append, List.tail_cons, List.headD_cons, List.headD_nil, List.tail_nil,
  Nat.reduceEqDiff, Nat.reduceAdd, Nat.reduceMul, Nat.reduceLeDiff, ↓reduceIte, if_true, if_false, reduceCtorEq, true_and, and_true, false_and, and_false, decide_true, decide_false, Int.natCast_nonneg, Int.toNat_natCast, Nat.mul_one, Nat.one_mul, Nat.zero_add, Nat.add_zero, ne_eq, not_true_eq_false, not_false_eq_true, Nat.zero_le, Nat.le_refl, Int.toNat_zero, Nat.zero_mul, Nat.mul_zero, and_self, Nat.succ_ne_self,
  wrap64, wrap32, wrapU64, wrapU8, wrapU32]
      refine gN_callF (f8_same hA5.ints hA4.ints (by omega) (by omega) (fun i => (memZ M1).getD i 0) (fun i => (memZ M1).getD i 0) (fun _ _ => rfl) (fun _ _ => rfl) ?_)
      rw [decide_eq_true ⟨rfl, fun _ _ => rfl⟩]
      simp -implicitDefEqProofs (disch := omega) only [gO_nil, gO_cons, gN_cond, gN_val, gN_bad, outV_some, outV_none, outV_guard, outA_guard, outP_guard, outA, outP, gN_store, putd_lk, putd_lk0, lk_cons, lk_nil, ev_tmp, ev, gdO_tt, gdO_ff, gdO_tf, gdO_ft, gdO_u,
  itemsOf, itemsAt, operO, stepO, convO, callO, callB, storeO, pureA, loadA, allocA, serA, selA, binA, binInt, unA, convA, partA, TD.isAgg, TD.isBool, TD.isPtr, TD.isFunc, fieldOf, indexA, indexAddrA_sl, indexAddrA_ptr, lenA_sl, lenA_snil, lenA_str, buildA, placesA, fillA, repl, eqA, eqV, eqV.eqFs,
  ofConst, ofLeaf, ofLeafs, AV.cells, AV.leaf, List.all_cons, List.all_nil, Bool.true_and, Bool.and_true, Bool.false_and, Bool.and_false, Bool.true_or, Bool.false_or, Bool.or_false, Bool.or_true, Bool.not_true, Bool.not_false, Bool.not_not,
  Option.bind_some, Option.bind_none, Option.map_some, Option.map_none, Option.getD_some, Option.getD_none, Option.bind_eq_bind, List.getElem?_cons_zero, List.getElem?_cons_succ, List.getElem?_nil, List.getElem?_toArray, List.map_cons, List.map_nil, List.append_nil, List.nil_append, List.cons_append, List.singleton_append,
  List.take_zero, List.drop_zero, List.take_succ_cons, List.drop_succ_cons, List.take_nil, List.drop_nil, List.length_cons, List.length_nil, List.length_append, List.tail_cons, List.headD_cons, List.headD_nil, List.tail_nil,
  Nat.reduceEqDiff, Nat.reduceAdd, Nat.reduceMul, Nat.reduceLeDiff, ↓reduceIte, if_true, if_false, reduceCtorEq, true_and, and_true, false_and, and_false, decide_true, decide_false, Int.natCast_nonneg, Int.toNat_natCast, Nat.mul_one, Nat.one_mul, Nat.zero_add, Nat.add_zero, ne_eq, not_true_eq_false, not_false_eq_true, Nat.zero_le, Nat.le_refl, Int.toNat_zero, Nat.zero_mul, Nat.mul_zero, and_self, Nat.succ_ne_self,
  wrap64, wrap32, wrapU64, wrapU8, wrapU32]
      refine gN_callF (f10_members fun v8 m12 hk12 hO12 hf12 hT12 => ?_)
      simp -implicitDefEqProofs (disch := omega) only [gO_nil, gO_cons, gN_cond, gN_val, gN_bad, outV_some, outV_none, outV_guard, outA_guard, outP_guard, outA, outP, gN_store, putd_lk, putd_lk0, lk_cons, lk_nil, ev_tmp, ev, gdO_tt, gdO_ff, gdO_tf, gdO_ft, gdO_u,
  itemsOf, itemsAt, operO, stepO, convO, callO, callB, storeO, pureA, loadA, allocA, serA, selA, binA, binInt, unA, convA, partA, TD.isAgg, TD.isBool, TD.isPtr, TD.isFunc, fieldOf, indexA, indexAddrA_sl, indexAddrA_ptr, lenA_sl, lenA_snil, lenA_str, buildA, placesA, fillA, repl, eqA, eqV, eqV.eqFs,
  ofConst, ofLeaf, ofLeafs, AV.cells, AV.leaf, List.all_cons, List.all_nil, Bool.true_and, Bool.and_true, Bool.false_and, Bool.and_false, Bool.true_or, Bool.false_or, Bool.or_false, Bool.or_true, Bool.not_true, Bool.not_false, Bool.not_not,
  Option.bind_some, Option.bind_none, Option.map_some, Option.map_none, Option.getD_some, Option.getD_none, Option.bind_eq_bind, List.getElem?_cons_zero, List.getElem?_cons_succ, List.getElem?_nil, List.getElem?_toArray, List.map_cons, List.map_nil, List.append_nil, List.nil_append, List.cons_append, List.singleton_append,
  List.take_zero, List.drop_zero, List.take_succ_cons, List.drop_succ_cons, List.take_nil, List.drop_nil, List.length_cons, List.length_nil, List.length_append, List.tail_cons, List.headD_cons, List.headD_nil, List.tail_nil,
  Nat.reduceEqDiff, Nat.reduceAdd, Nat.reduceMul, Nat.reduceLeDiff, ↓reduceIte, if_true, if_false, reduceCtorEq, true_and, and_true, false_and, and_false, decide_true, decide_false, Int.natCast_nonneg, Int.toNat_natCast, Nat.mul_one, Nat.one_mul, Nat.zero_add, Nat.add_zero, ne_eq, not_true_eq_false, not_false_eq_true, Nat.zero_le, Nat.le_refl, Int.toNat_zero, Nat.zero_mul, Nat.mul_zero, and_self, Nat.succ_ne_self,
  wrap64, wrap32, wrapU64, wrapU8, wrapU32]
      rw [memL_memZ] at hO12
      refine gN_callF (f8_same (hO11.keep0 hk12).ints hO12.ints (by omega) (by omega) (fun i => (memZ M2).getD i 0) (fun i => (memZ M2).getD i 0) (fun _ _ => rfl) (fun _ _ => rfl) ?_)
      rw [decide_eq_true ⟨rfl, fun _ _ => rfl⟩]
      have hl7' := hl7.keep0 hk12
      have hl7L := hl7'.len (P := Try.prog) ti23 rfl
      obtain ⟨p3, o3, q3, i1, i2, i3, i4⟩ := hl7'.at (P := Try.prog) (k0 := .i64) (i := (memZ M1).length) ti23 rfl ti3 rfl (by omega)
      have e7 : (cs ++ [AV.int .i64 (-1000)]).getD (memZ M1).length .any = AV.int .i64 (-1000) := by
        rw [List.getD, List.getElem?_append_right (by omega)]; simp [hcl]
      rw [e7] at i4
      have hnn : (((memZ M1).length : Nat) : Int) + 1 = (((memZ M1).length + 1 : Nat) : Int) := by omega
      simp -implicitDefEqProofs (disch := omega) only [gO_nil, gO_cons, gN_cond, gN_val, gN_bad, outV_some, outV_none, outV_guard, outA_guard, outP_guard, outA, outP, gN_store, putd_lk, putd_lk0, lk_cons, lk_nil, ev_tmp, ev, gdO_tt, gdO_ff, gdO_tf, gdO_ft, gdO_u,
  itemsOf, itemsAt, operO, stepO, convO, callO, callB, storeO, pureA, loadA, allocA, serA, selA, binA, binInt, unA, convA, partA, TD.isAgg, TD.isBool, TD.isPtr, TD.isFunc, fieldOf, indexA, indexAddrA_sl, indexAddrA_ptr, lenA_sl, lenA_snil, lenA_str, buildA, placesA, fillA, repl, eqA, eqV, eqV.eqFs,
  ofConst, ofLeaf, ofLeafs, AV.cells, AV.leaf, List.all_cons, List.all_nil, Bool.true_and, Bool.and_true, Bool.false_and, Bool.and_false, Bool.true_or, Bool.false_or, Bool.or_false, Bool.or_true, Bool.not_true, Bool.not_false, Bool.not_not,
  Option.bind_some, Option.bind_none, Option.map_some, Option.map_none, Option.getD_some, Option.getD_none, Option.bind_eq_bind, List.getElem?_cons_zero, List.getElem?_cons_succ, List.getElem?_nil, List.getElem?_toArray, List.map_cons, List.map_nil, List.append_nil, List.nil_append, List.cons_append, List.singleton_append,
  List.take_zero, List.drop_zero, List.take_succ_cons, List.drop_succ_cons, List.take_nil, List.drop_nil, List.length_cons, List.length_nil, List.length_append, List.tail_cons, List.headD_cons, List.headD_nil, List.tail_nil,
  Nat.reduceEqDiff, Nat.reduceAdd, Nat.reduceMul, Nat.reduceLeDiff, ↓reduceIte, if_true, if_false, reduceCtorEq, true_and, and_true, false_and, and_false, decide_true, decide_false, Int.natCast_nonneg, Int.toNat_natCast, Nat.mul_one, Nat.one_mul, Nat.zero_add, Nat.add_zero, ne_eq, not_true_eq_false, not_false_eq_true, Nat.zero_le, Nat.le_refl, Int.toNat_zero, Nat.zero_mul, Nat.mul_zero, and_self, Nat.succ_ne_self,
  wrap64, wrap32, wrapU64, wrapU8, wrapU32, hl7L, hnn, i1, i2, i3, i4, ti3]
      refine hq _ _ ?_
      simp only [pickL, lk_cons, Nat.reduceEqDiff, ↓reduceIte, reduceCtorEq, if_true, if_false]
      clear hq q
      repeat' (first | refine wpL_seq ?_ | refine wpL_skip ?_ | refine wpL_label ?_)
      refine wpL_cond rfl (fun h => ?_) (fun h => ?_)
      · cases h
      clear h
      repeat' (first | refine wpL_seq ?_ | refine wpL_skip ?_ | refine wpL_label ?_)
      refine wpL_region [12, 13, 14, 16, 17, 18, 19] fun q hq => ?_
      simp -implicitDefEqProofs (disch := omega) only [gO_nil, gO_cons, gN_cond, gN_val, gN_bad, outV_some, outV_none, outV_guard, outA_guard, outP_guard, outA, outP, gN_store, putd_lk, putd_lk0, lk_cons, lk_nil, ev_tmp, ev, gdO_tt, gdO_ff, gdO_tf, gdO_ft, gdO_u,
  itemsOf, itemsAt, operO, stepO, convO, callO, callB, storeO, pureA, loadA, allocA, serA, selA, binA, binInt, unA, convA, partA, TD.isAgg, TD.isBool, TD.isPtr, TD.isFunc, fieldOf, indexA, indexAddrA_sl, indexAddrA_ptr, lenA_sl, lenA_snil, lenA_str, buildA, placesA, fillA, repl, eqA, eqV, eqV.eqFs,
  ofConst, ofLeaf, ofLeafs, AV.cells, AV.leaf, List.all_cons, List.all_nil, Bool.true_and, Bool.and_true, Bool.false_and, Bool.and_false, Bool.true_or, Bool.false_or, Bool.or_false, Bool.or_true, Bool.not_true, Bool.not_false, Bool.not_not,
  Option.bind_some, Option.bind_none, Option.map_some, Option.map_none, Option.getD_some, Option.getD_none, Option.bind_eq_bind, List.getElem?_cons_zero, List.getElem?_cons_succ, List.getElem?_nil, List.getElem?_toArray, List.map_cons, List.map_nil, List.append_nil, List.nil_append, List.cons_append, List.singleton_append,
  List.take_zero, List.drop_zero, List.take_succ_cons, List.drop_succ_cons, List.take_nil, List.drop_nil, List.length_cons, List.length_nil, List.length_append, List.tail_cons, List.headD_cons, List.headD_nil, List.tail_nil,
  Nat.reduceEqDiff, Nat.reduceAdd, Nat.reduceMul, Nat.reduceLeDiff, ↓reduceIte, if_true, if_false, reduceCtorEq, true_and, and_true, false_and, and_false, decide_true, decide_false, Int.natCast_nonneg, Int.toNat_natCast, Nat.mul_one, Nat.one_mul, Nat.zero_add, Nat.add_zero, ne_eq, not_true_eq_false, not_false_eq_true, Nat.zero_le, Nat.le_refl, Int.toNat_zero, Nat.zero_mul, Nat.mul_zero, and_self, Nat.succ_ne_self,
  wrap64, wrap32, wrapU64, wrapU8, wrapU32, ti23, ti3]
      refine gN_alloc_sl fun b13 m13 hb13 hm13 hk13 => ?_
      simp -implicitDefEqProofs (disch := omega) only [gO_nil, gO_cons, gN_cond, gN_val, gN_bad, outV_some, outV_none, outV_guard, outA_guard, outP_guard, outA, outP, gN_store, putd_lk, putd_lk0, lk_cons, lk_nil, ev_tmp, ev, gdO_tt, gdO_ff, gdO_tf, gdO_ft, gdO_u,
  itemsOf, itemsAt, operO, stepO, convO, callO, callB, storeO, pureA, loadA, allocA, serA, selA, binA, binInt, unA, convA, partA, TD.isAgg, TD.isBool, TD.isPtr, TD.isFunc, fieldOf, indexA, indexAddrA_sl, indexAddrA_ptr, lenA_sl, lenA_snil, lenA_str, buildA, placesA, fillA, repl, eqA, eqV, eqV.eqFs,
  ofConst, ofLeaf, ofLeafs, AV.cells, AV.leaf, List.all_cons, List.all_nil, Bool.true_and, Bool.and_true, Bool.false_and, Bool.and_false, Bool.true_or, Bool.false_or, Bool.or_false, Bool.or_true, Bool.not_true, Bool.not_false, Bool.not_not,
  Option.bind_some, Option.bind_none, Option.map_some, Option.map_none, Option.getD_some, Option.getD_none, Option.bind_eq_bind, List.getElem?_cons_zero, List.getElem?_cons_succ, List.getElem?_nil, List.getElem?_toArray, List.map_cons, List.map_nil, List.append_nil, List.nil_append, List.cons_append, List.singleton_append,
  List.take_zero, List.drop_zero, List.take_succ_cons, List.drop_succ_cons, List.take_nil, List.drop_nil, List.length_cons, List.length_nil, List.length_append, List.tail_cons, List.headD_cons, List.headD_nil, List.tail_nil,
  Nat.reduceEqDiff, Nat.reduceAdd, Nat.reduceMul, Nat.reduceLeDiff, ↓reduceIte, if_true, if_false, reduceCtorEq, true_and, and_true, false_and, and_false, decide_true, decide_false, Int.natCast_nonneg, Int.toNat_natCast, Nat.mul_one, Nat.one_mul, Nat.zero_add, Nat.add_zero, ne_eq, not_true_eq_false, not_false_eq_true, Nat.zero_le, Nat.le_refl, Int.toNat_zero, Nat.zero_mul, Nat.mul_zero, and_self, Nat.succ_ne_self,
  wrap64, wrap32, wrapU64, wrapU8, wrapU32, ti23, ti3]
      have hA5' := (hA5.keep0 hk12).keep0 hk13
      refine gN_append ti23 rfl ti3 rfl hA5' (Src.of_ow (et := 3) (cs := [.int .i64 (-2000)]) (.inr ⟨b13, _, rfl, hm13, rfl, rfl, rfl⟩) rfl) ?_ ?_ (((hT10.keep0 hk11).keep0 hk12).keep0 hk13) fun v9 m14 hT14 hO14 hx14 hk14 hf14 => ?_
      · simp; omega
      · simp [maxInt]; omega
      simp -implicitDefEqProofs (disch := omega) only [gO_nil, gO_cons, gN_cond, gN_val, gN_bad, outV_some, outV_none, outV_guard, outA_guard, outP_guard, outA, outP, gN_store, putd_lk, putd_lk0, lk_cons, lk_nil, ev_tmp, ev, gdO_tt, gdO_ff, gdO_tf, gdO_ft, gdO_u,
  itemsOf, itemsAt, operO, stepO, convO, callO, callB, storeO, pureA, loadA, allocA, serA, selA, binA, binInt, unA, convA, partA, TD.isAgg, TD.isBool, TD.isPtr, TD.isFunc, fieldOf, indexA, indexAddrA_sl, indexAddrA_ptr, lenA_sl, lenA_snil, lenA_str, buildA, placesA, fillA, repl, eqA, eqV, eqV.eqFs,
  ofConst, ofLeaf, ofLeafs, AV.cells, AV.leaf, List.all_cons, List.all_nil, Bool.true_and, Bool.and_true, Bool.false_and, Bool.and_false, Bool.true_or, Bool.false_or, Bool.or_false, Bool.or_true, Bool.not_true, Bool.not_false, Bool.not_not,
  Option.bind_some, Option.bind_none, Option.map_some, Option.map_none, Option.getD_some, Option.getD_none, Option.bind_eq_bind, List.getElem?_cons_zero, List.getElem?_cons_succ, List.getElem?_nil, List.getElem?_toArray, List.map_cons, List.map_nil, List.append_nil, List.nil_append, List.cons_append, List.singleton_append,
  List.take_zero, List.drop_zero, List.take_succ_cons, List.drop_succ_cons, List.take_nil, List.drop_nil, List.length_cons, List.length_nil, List.length_append, List.tail_cons, List.headD_cons, List.headD_nil, List.tail_nil,
  Nat.reduceEqDiff, Nat.reduceAdd, Nat.reduceMul, Nat.reduceLeDiff, ↓reduceIte, if_true, if_false, reduceCtorEq, true_and, and_true, false_and, and_false, decide_true, decide_false, Int.natCast_nonneg, Int.toNat_natCast, Nat.mul_one, Nat.one_mul, Nat.zero_add, Nat.add_zero, ne_eq, not_true_eq_false, not_false_eq_true, Nat.zero_le, Nat.le_refl, Int.toNat_zero, Nat.zero_mul, Nat.mul_zero, and_self, Nat.succ_ne_self,
  wrap64, wrap32, wrapU64, wrapU8, wrapU32]
      refine hq _ _ ?_
      simp only [pickL, lk_cons, Nat.reduceEqDiff, ↓reduceIte, reduceCtorEq, if_true, if_false]
      clear hq q
      have S3 : Sl m14 v3 (memZ M1).length fun i => cs.getD i .any := hcl ▸ ((((hS3.keep0 hk10).keep0 hk11).keep0 hk12).keep0 hk13).ext hx14
      have S7 := (hl7'.keep0 hk13).ext hx14
      have S4 := (((hA4.ints.keep0 hk12).keep0 hk13).ext hx14)
      have S5 := hA5'.ints.ext hx14
      have hcl9 : ((memZ M1).map (fun z => AV.int .i64 z) ++ [AV.int .i64 (-2000)]).length = (memZ M1).length + 1 := by simp
      have S9 := hO14.sl
      rw [hcl9] at S9
      have h65 : ∀ x ∈ blkOf v6, x ∉ blkOf v5 := fun x hx hx2 => by
        have := hf11 x (blkOf_anc hO11 x hx)
        rcases hO10.some x hx2 with ⟨k, hk⟩
        rw [hk] at this; cases this
      have hO6m := ((hO11.keep0 hk12).keep0 hk13).keep hk14 h65
      have hanc6 : ancOf m14 v6 = ancOf m11 v6 := by
        rw [ancOf_keep ((hO11.keep0 hk12).keep0 hk13) hk14 h65, ancOf_keep (hO11.keep0 hk12) hk13 (by simp), ancOf_keep hO11 hk12 (by simp)]
      have hno : ∀ v : AV, (∀ b o l s, v = AV.sl b o l s → m10.blk b ≠ none) → ∀ b o l s, v = AV.sl b o l s → b ∉ ancOf m14 v6 := fun v h b o l s e hb => by
        rw [hanc6] at hb
        exact h b o l s e (hf11 b hb)
      have N3 := hno v3 ((hO.keep0 hk8).thereExt (hx9.trans hk10.ext))
      have N4 := hno v4 (hO4.keep0 hk10).there
      have N5 := hno v5 hO10.there
      have N7 := hno v7 (hO9.keep0 hk10).there
      have hT6 : There m13 v6 := (hT11.keep0 hk12).keep0 hk13
      have N9 : ∀ b o l s, v9 = .sl b o l s → b ∉ ancOf m14 v6 := fun b o l s e hb => by
        rcases hf14 b (blk_anc e) with h | h
        · refine hT6 b ?_ h
          rw [ancOf_keep (hO11.keep0 hk12) hk13 (by simp), ancOf_keep hO11 hk12 (by simp)]
          rwa [hanc6] at hb
        · rw [ancOf_keep (hA5.keep0 hk12) hk13 (by simp), ancOf_keep hA5 hk12 (by simp), ancOf_keep hO10 hk11 (by simp)] at h
          rw [hanc6] at hb
          exact hT10 b h (hf11 b hb)
      have hT6' : There m14 v6 := by
        intro x hx
        rw [hanc6] at hx
        have h1 : m13.blk x ≠ none := hT6 x (by rw [ancOf_keep (hO11.keep0 hk12) hk13 (by simp), ancOf_keep hO11 hk12 (by simp)]; exact hx)
        cases hm : m13.blk x with
        | none => exact absurd hm h1
        | some kx =>
          by_cases h5 : x ∈ blkOf v5
          · rcases hO10.some x h5 with ⟨k, hk⟩
            have := hf11 x hx
            rw [hk] at this; cases this
          · rw [hk14 x h5 kx hm]; simp
      repeat' (first | refine wpL_seq ?_ | refine wpL_skip ?_ | refine wpL_label ?_)
      refine wpL_region [12, 13, 14, 16, 17, 18, 19, 20] fun q hq => ?_
      simp -implicitDefEqProofs (disch := omega) only [gO_nil, gO_cons, gN_cond, gN_val, gN_bad, outV_some, outV_none, outV_guard, outA_guard, outP_guard, outA, outP, gN_store, putd_lk, putd_lk0, lk_cons, lk_nil, ev_tmp, ev, gdO_tt, gdO_ff, gdO_tf, gdO_ft, gdO_u,
  itemsOf, itemsAt, operO, stepO, convO, callO, callB, storeO, pureA, loadA, allocA, serA, selA, binA, binInt, unA, convA, partA, TD.isAgg, TD.isBool, TD.isPtr, TD.isFunc, fieldOf, indexA, indexAddrA_sl, indexAddrA_ptr, lenA_sl, lenA_snil, lenA_str, buildA, placesA, fillA, repl, eqA, eqV, eqV.eqFs,
  ofConst, ofLeaf, ofLeafs, AV.cells, AV.leaf, List.all_cons, List.all_nil, Bool.true_and, Bool.and_true, Bool.false_and, Bool.and_false, Bool.true_or, Bool.false_or, Bool.or_false, Bool.or_true, Bool.not_true, Bool.not_false, Bool.not_not,
  Option.bind_some, Option.bind_none, Option.map_some, Option.map_none, Option.getD_some, Option.getD_none, Option.bind_eq_bind, List.getElem?_cons_zero, List.getElem?_cons_succ, List.getElem?_nil, List.getElem?_toArray, List.map_cons, List.map_nil, List.append_nil, List.nil_append, List.cons_append, List.singleton_append,
  List.take_zero, List.drop_zero, List.take_succ_cons, List.drop_succ_cons, List.take_nil, List.drop_nil, List.length_cons, List.length_nil, List.length_append, List.tail_cons, List.headD_cons, List.headD_nil, List.tail_nil,
  Nat.reduceEqDiff, Nat.reduceAdd, Nat.reduceMul, Nat.reduceLeDiff, ↓reduceIte, if_true, if_false, reduceCtorEq, true_and, and_true, false_and, and_false, decide_true, decide_false, Int.natCast_nonneg, Int.toNat_natCast, Nat.mul_one, Nat.one_mul, Nat.zero_add, Nat.add_zero, ne_eq, not_true_eq_false, not_false_eq_true, Nat.zero_le, Nat.le_refl, Int.toNat_zero, Nat.zero_mul, Nat.mul_zero, and_self, Nat.succ_ne_self,
  wrap64, wrap32, wrapU64, wrapU8, wrapU32]
      refine hq _ _ ?_
      simp only [pickL, lk_cons, Nat.reduceEqDiff, ↓reduceIte, reduceCtorEq, if_true, if_false]
      clear hq q
      repeat' (first | refine wpL_seq ?_ | refine wpL_skip ?_ | refine wpL_label ?_)
      refine wpL_block fun k5 hn5 hx5 ho5 => ?_
      refine wpL_loop (fun j e m' => ∃ (i : Nat) (cs : List AV), i ≤ (memZ M2).length ∧ j = (memZ M2).length - i ∧
          e = lk [(12, v3), (13, v4), (14, .int .i64 (memZ M1).length), (16, v7), (17, v5), (18, v6), (19, v9), (20, .int .i64 i)] ∧ Keep (ancOf m14 v6) m14 m' ∧ Ow m' v6 3 cs ∧ cs.length = (memZ M2).length ∧
          There m' v6 ∧ ∀ x ∈ ancOf m' v6, x ∈ ancOf m14 v6) (memZ M2).length
        ⟨0, _, by omega, by omega, rfl, Keep.refl _ _, hO6m, by simp, hT6', fun x hx => hx⟩ ?_
      rintro j e m' ⟨i, cs2, hi, rfl, rfl, hkp2, hO2, hcl2, hT2, hA2⟩ k6 hn6 hx6
      have hl2 := hO2.sl.len (P := Try.prog) ti23 rfl
      rw [hcl2] at hl2
      repeat' (first | refine wpL_seq ?_ | refine wpL_skip ?_ | refine wpL_label ?_)
      refine wpL_region [12, 13, 14, 16, 17, 18, 19, 20, 131] fun q hq => ?_
      simp -implicitDefEqProofs (disch := omega) only [gO_nil, gO_cons, gN_cond, gN_val, gN_bad, outV_some, outV_none, outV_guard, outA_guard, outP_guard, outA, outP, gN_store, putd_lk, putd_lk0, lk_cons, lk_nil, ev_tmp, ev, gdO_tt, gdO_ff, gdO_tf, gdO_ft, gdO_u,
  itemsOf, itemsAt, operO, stepO, convO, callO, callB, storeO, pureA, loadA, allocA, serA, selA, binA, binInt, unA, convA, partA, TD.isAgg, TD.isBool, TD.isPtr, TD.isFunc, fieldOf, indexA, indexAddrA_sl, indexAddrA_ptr, lenA_sl, lenA_snil, lenA_str, buildA, placesA, fillA, repl, eqA, eqV, eqV.eqFs,
  ofConst, ofLeaf, ofLeafs, AV.cells, AV.leaf, List.all_cons, List.all_nil, Bool.true_and, Bool.and_true, Bool.false_and, Bool.and_false, Bool.true_or, Bool.false_or, Bool.or_false, Bool.or_true, Bool.not_true, Bool.not_false, Bool.not_not,
  Option.bind_some, Option.bind_none, Option.map_some, Option.map_none, Option.getD_some, Option.getD_none, Option.bind_eq_bind, List.getElem?_cons_zero, List.getElem?_cons_succ, List.getElem?_nil, List.getElem?_toArray, List.map_cons, List.map_nil, List.append_nil, List.nil_append, List.cons_append, List.singleton_append,
  List.take_zero, List.drop_zero, List.take_succ_cons, List.drop_succ_cons, List.take_nil, List.drop_nil, List.length_cons, List.length_nil, List.length_append, List.tail_cons, List.headD_cons, List.headD_nil, List.tail_nil,
  Nat.reduceEqDiff, Nat.reduceAdd, Nat.reduceMul, Nat.reduceLeDiff, ↓reduceIte, if_true, if_false, reduceCtorEq, true_and, and_true, false_and, and_false, decide_true, decide_false, Int.natCast_nonneg, Int.toNat_natCast, Nat.mul_one, Nat.one_mul, Nat.zero_add, Nat.add_zero, ne_eq, not_true_eq_false, not_false_eq_true, Nat.zero_le, Nat.le_refl, Int.toNat_zero, Nat.zero_mul, Nat.mul_zero, and_self, Nat.succ_ne_self,
  wrap64, wrap32, wrapU64, wrapU8, wrapU32, hl2]
      refine hq _ _ ?_
      simp only [pickL, lk_cons, Nat.reduceEqDiff, ↓reduceIte, reduceCtorEq, if_true, if_false]
      clear hq q
      repeat' (first | refine wpL_seq ?_ | refine wpL_skip ?_ | refine wpL_label ?_)
      refine wpL_cond rfl (fun hc => ?_) (fun hc => ?_)
      · have hlt : i < (memZ M2).length := by simp at hc; omega
        obtain ⟨b, anc, rfl, hb, hanc⟩ := hO2.inv (by omega)
        have hii : (i : Int) < ((cs2.length : Nat) : Int) := by omega
        have hi1 : i + 1 ≤ cs2.length := by omega
        repeat' (first | refine wpL_seq ?_ | refine wpL_skip ?_ | refine wpL_label ?_)
        refine wpL_block fun k7 hn7 hx7 ho7 => ?_
        repeat' (first | refine wpL_seq ?_ | refine wpL_skip ?_ | refine wpL_label ?_)
        refine wpL_region [12, 13, 14, 16, 17, 18, 19, 20] fun q hq => ?_
        simp -implicitDefEqProofs (disch := omega) only [gO_nil, gO_cons, gN_cond, gN_val, gN_bad, outV_some, outV_none, outV_guard, outA_guard, outP_guard, outA, outP, gN_store, putd_lk, putd_lk0, lk_cons, lk_nil, ev_tmp, ev, gdO_tt, gdO_ff, gdO_tf, gdO_ft, gdO_u,
  itemsOf, itemsAt, operO, stepO, convO, callO, callB, storeO, pureA, loadA, allocA, serA, selA, binA, binInt, unA, convA, partA, TD.isAgg, TD.isBool, TD.isPtr, TD.isFunc, fieldOf, indexA, indexAddrA_sl, indexAddrA_ptr, lenA_sl, lenA_snil, lenA_str, buildA, placesA, fillA, repl, eqA, eqV, eqV.eqFs,
  ofConst, ofLeaf, ofLeafs, AV.cells, AV.leaf, List.all_cons, List.all_nil, Bool.true_and, Bool.and_true, Bool.false_and, Bool.and_false, Bool.true_or, Bool.false_or, Bool.or_false, Bool.or_true, Bool.not_true, Bool.not_false, Bool.not_not,
  Option.bind_some, Option.bind_none, Option.map_some, Option.map_none, Option.getD_some, Option.getD_none, Option.bind_eq_bind, List.getElem?_cons_zero, List.getElem?_cons_succ, List.getElem?_nil, List.getElem?_toArray, List.map_cons, List.map_nil, List.append_nil, List.nil_append, List.cons_append, List.singleton_append,
  List.take_zero, List.drop_zero, List.take_succ_cons, List.drop_succ_cons, List.take_nil, List.drop_nil, List.length_cons, List.length_nil, List.length_append, List.tail_cons, List.headD_cons, List.headD_nil, List.tail_nil,
  Nat.reduceEqDiff, Nat.reduceAdd, Nat.reduceMul, Nat.reduceLeDiff, ↓reduceIte, if_true, if_false, reduceCtorEq, true_and, and_true, false_and, and_false, decide_true, decide_false, Int.natCast_nonneg, Int.toNat_natCast, Nat.mul_one, Nat.one_mul, Nat.zero_add, Nat.add_zero, ne_eq, not_true_eq_false, not_false_eq_true, Nat.zero_le, Nat.le_refl, Int.toNat_zero, Nat.zero_mul, Nat.mul_zero, and_self, Nat.succ_ne_self,
  wrap64, wrap32, wrapU64, wrapU8, wrapU32, ti23, ti3, hii, guardO, hb, hi1]
        refine gN_store_of rfl rfl fun m1' hb1 hk1' => ?_
        simp only [List.length_cons, List.length_nil, Nat.zero_add] at hb1
        rw [set_of_take (by omega)] at hb1
        simp -implicitDefEqProofs (disch := omega) only [gO_nil, gO_cons, gN_cond, gN_val, gN_bad, outV_some, outV_none, outV_guard, outA_guard, outP_guard, outA, outP, gN_store, putd_lk, putd_lk0, lk_cons, lk_nil, ev_tmp, ev, gdO_tt, gdO_ff, gdO_tf, gdO_ft, gdO_u,
  itemsOf, itemsAt, operO, stepO, convO, callO, callB, storeO, pureA, loadA, allocA, serA, selA, binA, binInt, unA, convA, partA, TD.isAgg, TD.isBool, TD.isPtr, TD.isFunc, fieldOf, indexA, indexAddrA_sl, indexAddrA_ptr, lenA_sl, lenA_snil, lenA_str, buildA, placesA, fillA, repl, eqA, eqV, eqV.eqFs,
  ofConst, ofLeaf, ofLeafs, AV.cells, AV.leaf, List.all_cons, List.all_nil, Bool.true_and, Bool.and_true, Bool.false_and, Bool.and_false, Bool.true_or, Bool.false_or, Bool.or_false, Bool.or_true, Bool.not_true, Bool.not_false, Bool.not_not,
  Option.bind_some, Option.bind_none, Option.map_some, Option.map_none, Option.getD_some, Option.getD_none, Option.bind_eq_bind, List.getElem?_cons_zero, List.getElem?_cons_succ, List.getElem?_nil, List.getElem?_toArray, List.map_cons, List.map_nil, List.append_nil, List.nil_append, List.cons_append, List.singleton_append,
  List.take_zero, List.drop_zero, List.take_succ_cons, List.drop_succ_cons, List.take_nil, List.drop_nil, List.length_cons, List.length_nil, List.length_append, List.tail_cons, List.headD_cons, List.headD_nil, List.tail_nil,
  Nat.reduceEqDiff, Nat.reduceAdd, Nat.reduceMul, Nat.reduceLeDiff, ↓reduceIte, if_true, if_false, reduceCtorEq, true_and, and_true, false_and, and_false, decide_true, decide_false, Int.natCast_nonneg, Int.toNat_natCast, Nat.mul_one, Nat.one_mul, Nat.zero_add, Nat.add_zero, ne_eq, not_true_eq_false, not_false_eq_true, Nat.zero_le, Nat.le_refl, Int.toNat_zero, Nat.zero_mul, Nat.mul_zero, and_self, Nat.succ_ne_self,
  wrap64, wrap32, wrapU64, wrapU8, wrapU32]
        refine hq _ _ ?_
        simp only [pickL, lk_cons, Nat.reduceEqDiff, ↓reduceIte, reduceCtorEq, if_true, if_false]
        clear hq q
        repeat' (first | refine wpL_seq ?_ | refine wpL_skip ?_ | refine wpL_label ?_)
        refine wpL_nil (hn7 _ _ ?_)
        repeat' (first | refine wpL_seq ?_ | refine wpL_skip ?_ | refine wpL_label ?_)
        refine wpL_region [12, 13, 14, 16, 17, 18, 19, 20] fun q hq => ?_
        simp -implicitDefEqProofs (disch := omega) only [gO_nil, gO_cons, gN_cond, gN_val, gN_bad, outV_some, outV_none, outV_guard, outA_guard, outP_guard, outA, outP, gN_store, putd_lk, putd_lk0, lk_cons, lk_nil, ev_tmp, ev, gdO_tt, gdO_ff, gdO_tf, gdO_ft, gdO_u,
  itemsOf, itemsAt, operO, stepO, convO, callO, callB, storeO, pureA, loadA, allocA, serA, selA, binA, binInt, unA, convA, partA, TD.isAgg, TD.isBool, TD.isPtr, TD.isFunc, fieldOf, indexA, indexAddrA_sl, indexAddrA_ptr, lenA_sl, lenA_snil, lenA_str, buildA, placesA, fillA, repl, eqA, eqV, eqV.eqFs,
  ofConst, ofLeaf, ofLeafs, AV.cells, AV.leaf, List.all_cons, List.all_nil, Bool.true_and, Bool.and_true, Bool.false_and, Bool.and_false, Bool.true_or, Bool.false_or, Bool.or_false, Bool.or_true, Bool.not_true, Bool.not_false, Bool.not_not,
  Option.bind_some, Option.bind_none, Option.map_some, Option.map_none, Option.getD_some, Option.getD_none, Option.bind_eq_bind, List.getElem?_cons_zero, List.getElem?_cons_succ, List.getElem?_nil, List.getElem?_toArray, List.map_cons, List.map_nil, List.append_nil, List.nil_append, List.cons_append, List.singleton_append,
  List.take_zero, List.drop_zero, List.take_succ_cons, List.drop_succ_cons, List.take_nil, List.drop_nil, List.length_cons, List.length_nil, List.length_append, List.tail_cons, List.headD_cons, List.headD_nil, List.tail_nil,
  Nat.reduceEqDiff, Nat.reduceAdd, Nat.reduceMul, Nat.reduceLeDiff, ↓reduceIte, if_true, if_false, reduceCtorEq, true_and, and_true, false_and, and_false, decide_true, decide_false, Int.natCast_nonneg, Int.toNat_natCast, Nat.mul_one, Nat.one_mul, Nat.zero_add, Nat.add_zero, ne_eq, not_true_eq_false, not_false_eq_true, Nat.zero_le, Nat.le_refl, Int.toNat_zero, Nat.zero_mul, Nat.mul_zero, and_self, Nat.succ_ne_self,
  wrap64, wrap32, wrapU64, wrapU8, wrapU32]
        refine hq _ _ ?_
        simp only [pickL, lk_cons, Nat.reduceEqDiff, ↓reduceIte, reduceCtorEq, if_true, if_false]
        clear hq q
        have hlen : (cs2.set i (AV.int .i64 (-500 - (i : Int)))).length = cs2.length := by simp
        refine wpL_nil (hn6 ((memZ M2).length - (i + 1)) _ _ (by omega) ⟨i + 1, _, by omega, rfl, rfl, ?_, .inr ⟨b, _, by rw [hlen], hb1, rfl, rfl, rfl⟩, by rw [hlen, hcl2], ?_, ?_⟩)
        · intro x hx kx hkx
          refine hk1' x (fun h => hx (hA2 x ?_)) kx (hkp2 x hx kx hkx)
          rw [hanc]; exact h
        · intro x hx
          simp [ancOf, hb1] at hx; subst hx; simp [hb1]
        · intro x hx
          simp [ancOf, hb1] at hx; subst hx
          exact hA2 _ (by rw [hanc]; simp)
      · repeat' (first | refine wpL_seq ?_ | refine wpL_skip ?_ | refine wpL_label ?_)
        refine wpL_exit (hx6 _ _ _ (by simp) (hx5 _ _ ?_))
        have S3 := S3.keep hkp2 (fun b o s e => N3 b o _ s e)
        have S4 := S4.keep hkp2 (fun b o s e => N4 b o _ s e)
        have S5 := S5.keep hkp2 (fun b o s e => N5 b o _ s e)
        have S7 := S7.keep hkp2 (fun b o s e => N7 b o _ s e)
        have S9 := S9.keep hkp2 (fun b o s e => N9 b o _ s e)
        repeat' (first | refine wpL_seq ?_ | refine wpL_skip ?_ | refine wpL_label ?_)
        refine wpL_region [12, 13, 14, 16, 17, 19, 21] fun q hq => ?_
        simp -implicitDefEqProofs (disch := omega) only [gO_nil, gO_cons, gN_cond, gN_val, gN_bad, outV_some, outV_none, outV_guard, outA_guard, outP_guard, outA, outP, gN_store, putd_lk, putd_lk0, lk_cons, lk_nil, ev_tmp, ev, gdO_tt, gdO_ff, gdO_tf, gdO_ft, gdO_u,
  itemsOf, itemsAt, operO, stepO, convO, callO, callB, storeO, pureA, loadA, allocA, serA, selA, binA, binInt, unA, convA, partA, TD.isAgg, TD.isBool, TD.isPtr, TD.isFunc, fieldOf, indexA, indexAddrA_sl, indexAddrA_ptr, lenA_sl, lenA_snil, lenA_str, buildA, placesA, fillA, repl, eqA, eqV, eqV.eqFs,
  ofConst, ofLeaf, ofLeafs, AV.cells, AV.leaf, List.all_cons, List.all_nil, Bool.true_and, Bool.and_true, Bool.false_and, Bool.and_false, Bool.true_or, Bool.false_or, Bool.or_false, Bool.or_true, Bool.not_true, Bool.not_false, Bool.not_not,
  Option.bind_some, Option.bind_none, Option.map_some, Option.map_none, Option.getD_some, Option.getD_none, Option.bind_eq_bind, List.getElem?_cons_zero, List.getElem?_cons_succ, List.getElem?_nil, List.getElem?_toArray, List.map_cons, List.map_nil, List.append_nil, List.nil_append, List.cons_append, List.singleton_append,
  List.take_zero, List.drop_zero, List.take_succ_cons, List.drop_succ_cons, List.take_nil, List.drop_nil, List.length_cons, List.length_nil, List.length_append, List.tail_cons, List.headD_cons, List.headD_nil, List.tail_nil,
  Nat.reduceEqDiff, Nat.reduceAdd, Nat.reduceMul, Nat.reduceLeDiff, ↓reduceIte, if_true, if_false, reduceCtorEq, true_and, and_true, false_and, and_false, decide_true, decide_false, Int.natCast_nonneg, Int.toNat_natCast, Nat.mul_one, Nat.one_mul, Nat.zero_add, Nat.add_zero, ne_eq, not_true_eq_false, not_false_eq_true, Nat.zero_le, Nat.le_refl, Int.toNat_zero, Nat.zero_mul, Nat.mul_zero, and_self, Nat.succ_ne_self,
  wrap64, wrap32, wrapU64, wrapU8, wrapU32]
        refine hq _ _ ?_
        simp only [pickL, lk_cons, Nat.reduceEqDiff, ↓reduceIte, reduceCtorEq, if_true, if_false]
        clear hq q
        repeat' (first | refine wpL_seq ?_ | refine wpL_skip ?_ | refine wpL_label ?_)
        refine wpL_block fun k8 hn8 hx8 ho8 => ?_
        refine wpL_loop (fun j e m2' => ∃ (i : Nat), i ≤ (memZ M1).length ∧ j = (memZ M1).length - i ∧ m2' = m' ∧
            e = lk [(12, v3), (13, v4), (14, .int .i64 (memZ M1).length), (16, v7), (17, v5), (19, v9), (21, .int .i64 i)]) (memZ M1).length
          ⟨0, by omega, by omega, rfl, rfl⟩ ?_
        rintro j e m2' ⟨i, hi, rfl, rfl, rfl⟩ k9 hn9 hx9'
        repeat' (first | refine wpL_seq ?_ | refine wpL_skip ?_ | refine wpL_label ?_)
        refine wpL_region [12, 13, 14, 16, 17, 19, 21, 141] fun q hq => ?_
        simp -implicitDefEqProofs (disch := omega) only [gO_nil, gO_cons, gN_cond, gN_val, gN_bad, outV_some, outV_none, outV_guard, outA_guard, outP_guard, outA, outP, gN_store, putd_lk, putd_lk0, lk_cons, lk_nil, ev_tmp, ev, gdO_tt, gdO_ff, gdO_tf, gdO_ft, gdO_u,
  itemsOf, itemsAt, operO, stepO, convO, callO, callB, storeO, pureA, loadA, allocA, serA, selA, binA, binInt, unA, convA, partA, TD.isAgg, TD.isBool, TD.isPtr, TD.isFunc, fieldOf, indexA, indexAddrA_sl, indexAddrA_ptr, lenA_sl, lenA_snil, lenA_str, buildA, placesA, fillA, repl, eqA, eqV, eqV.eqFs,
  ofConst, ofLeaf, ofLeafs, AV.cells, AV.leaf, List.all_cons, List.all_nil, Bool.true_and, Bool.and_true, Bool.false_and, Bool.and_false, Bool.true_or, Bool.false_or, Bool.or_false, Bool.or_true, Bool.not_true, Bool.not_false, Bool.not_not,
  Option.bind_some, Option.bind_none, Option.map_some, Option.map_none, Option.getD_some, Option.getD_none, Option.bind_eq_bind, List.getElem?_cons_zero, List.getElem?_cons_succ, List.getElem?_nil, List.getElem?_toArray, List.map_cons, List.map_nil, List.append_nil, List.nil_append, List.cons_append, List.singleton_append,
  List.take_zero, List.drop_zero, List.take_succ_cons, List.drop_succ_cons, List.take_nil, List.drop_nil, List.length_cons, List.length_nil, List.length_append, List.tail_cons, List.headD_cons, List.headD_nil, List.tail_nil,
  Nat.reduceEqDiff, Nat.reduceAdd, Nat.reduceMul, Nat.reduceLeDiff, ↓reduceIte, if_true, if_false, reduceCtorEq, true_and, and_true, false_and, and_false, decide_true, decide_false, Int.natCast_nonneg, Int.toNat_natCast, Nat.mul_one, Nat.one_mul, Nat.zero_add, Nat.add_zero, ne_eq, not_true_eq_false, not_false_eq_true, Nat.zero_le, Nat.le_refl, Int.toNat_zero, Nat.zero_mul, Nat.mul_zero, and_self, Nat.succ_ne_self,
  wrap64, wrap32, wrapU64, wrapU8, wrapU32]
        refine hq _ _ ?_
        simp only [pickL, lk_cons, Nat.reduceEqDiff, ↓reduceIte, reduceCtorEq, if_true, if_false]
        clear hq q
        repeat' (first | refine wpL_seq ?_ | refine wpL_skip ?_ | refine wpL_label ?_)
        refine wpL_cond rfl (fun hc2 => ?_) (fun hc2 => ?_)
        · have hlt : i < (memZ M1).length := by simp at hc2; omega
          obtain ⟨a3, b3, c3, d31, d32, d33, d34⟩ := S3.at (P := Try.prog) (k0 := .i64) ti23 rfl ti3 rfl hlt
          obtain ⟨a4, b4, c4, d41, d42, d43, d44⟩ := S4.at (P := Try.prog) (k0 := .i64) ti23 rfl ti3 rfl hlt
          obtain ⟨a5, b5, c5, d51, d52, d53, d54⟩ := S5.at (P := Try.prog) (k0 := .i64) ti23 rfl ti3 rfl hlt
          obtain ⟨a7, b7, c7, d71, d72, d73, d74⟩ := S7.at (P := Try.prog) (k0 := .i64) (i := i) ti23 rfl ti3 rfl (by omega)
          obtain ⟨a9, b9, c9, d91, d92, d93, d94⟩ := S9.at (P := Try.prog) (k0 := .i64) (i := i) ti23 rfl ti3 rfl (by omega)
          have g3 : cs.getD i .any = AV.int .i64 (-7 - (i : Int)) := by rw [List.getD, hcs i hlt]; rfl
          have g7 : (cs ++ [AV.int .i64 (-1000)]).getD i .any = AV.int .i64 (-7 - (i : Int)) := by
            rw [List.getD, List.getElem?_append_left (by omega), hcs i hlt]; rfl
          have g9 : ((memZ M1).map (fun z => AV.int .i64 z) ++ [AV.int .i64 (-2000)]).getD i .any = AV.int .i64 ((memZ M1).getD i 0) := by
            rw [List.getD, List.getElem?_append_left (by simpa using hlt)]; simp [List.getD, List.getElem?_eq_getElem hlt]
          rw [g3] at d34
          rw [g7] at d74
          rw [g9] at d94
          repeat' (first | refine wpL_seq ?_ | refine wpL_skip ?_ | refine wpL_label ?_)
          refine wpL_block fun k10 hn10 hx10 ho10 => ?_
          repeat' (first | refine wpL_seq ?_ | refine wpL_skip ?_ | refine wpL_label ?_)
          refine wpL_draw [12, 13, 14, 16, 17, 19, 21, 181] [0, 1, 2, 3, 4, 5, 6, 7, 8, 9, 10, 11, 12, 13, 14, 15, 16, 17, 18, 19, 20, 21, 22, 23, 24, 25, 26, 27, 28, 29, 30, 31, 32, 33, 34, 35, 36, 37] [] (by kernel_rfl) (by kernel_rfl) (by kernel_rfl) fun q hq => ?_
          simp -implicitDefEqProofs (disch := omega) only [gO_nil, gO_cons, gN_cond, gN_val, gN_bad, outV_some, outV_none, outV_guard, outA_guard, outP_guard, outA, outP, gN_store, putd_lk, putd_lk0, lk_cons, lk_nil, ev_tmp, ev, gdO_tt, gdO_ff, gdO_tf, gdO_ft, gdO_u,
  itemsOf, itemsAt, operO, stepO, convO, callO, callB, storeO, pureA, loadA, allocA, serA, selA, binA, binInt, unA, convA, partA, TD.isAgg, TD.isBool, TD.isPtr, TD.isFunc, fieldOf, indexA, indexAddrA_sl, indexAddrA_ptr, lenA_sl, lenA_snil, lenA_str, buildA, placesA, fillA, repl, eqA, eqV, eqV.eqFs,
  ofConst, ofLeaf, ofLeafs, AV.cells, AV.leaf, List.all_cons, List.all_nil, Bool.true_and, Bool.and_true, Bool.false_and, Bool.and_false, Bool.true_or, Bool.false_or, Bool.or_false, Bool.or_true, Bool.not_true, Bool.not_false, Bool.not_not,
  Option.bind_some, Option.bind_none, Option.map_some, Option.map_none, Option.getD_some, Option.getD_none, Option.bind_eq_bind, List.getElem?_cons_zero, List.getElem?_cons_succ, List.getElem?_nil, List.getElem?_toArray, List.map_cons, List.map_nil, List.append_nil, List.nil_append, List.cons_append, List.singleton_append,
  List.take_zero, List.drop_zero, List.take_succ_cons, List.drop_succ_cons, List.take_nil, List.drop_nil, List.length_cons, List.length_nil, List.length_append, List.tail_cons, List.headD_cons, List.headD_nil, List.tail_nil,
  Nat.reduceEqDiff, Nat.reduceAdd, Nat.reduceMul, Nat.reduceLeDiff, ↓reduceIte, if_true, if_false, reduceCtorEq, true_and, and_true, false_and, and_false, decide_true, decide_false, Int.natCast_nonneg, Int.toNat_natCast, Nat.mul_one, Nat.one_mul, Nat.zero_add, Nat.add_zero, ne_eq, not_true_eq_false, not_false_eq_true, Nat.zero_le, Nat.le_refl, Int.toNat_zero, Nat.zero_mul, Nat.mul_zero, and_self, Nat.succ_ne_self,
  wrap64, wrap32, wrapU64, wrapU8, wrapU32, ti3, d31, d32, d33, d34, d41, d42, d43, d44, d51, d52, d53, d54, d71, d72, d73, d74, d91, d92, d93, d94]
          refine hq _ _ ?_
          simp only [pickL, lk_cons, Nat.reduceEqDiff, ↓reduceIte, reduceCtorEq, if_true, if_false]
          clear hq q
          repeat' (first | refine wpL_seq ?_ | refine wpL_skip ?_ | refine wpL_label ?_)
          refine wpL_cond rfl (fun h => ?_) (fun h => ?_)
          · cases h
          repeat' (first | refine wpL_seq ?_ | refine wpL_skip ?_ | refine wpL_label ?_)
          refine wpL_nil (hn10 _ _ ?_)
          repeat' (first | refine wpL_seq ?_ | refine wpL_skip ?_ | refine wpL_label ?_)
          refine wpL_region [12, 13, 14, 16, 17, 19, 21] fun q hq => ?_
          simp -implicitDefEqProofs (disch := omega) only [gO_nil, gO_cons, gN_cond, gN_val, gN_bad, outV_some, outV_none, outV_guard, outA_guard, outP_guard, outA, outP, gN_store, putd_lk, putd_lk0, lk_cons, lk_nil, ev_tmp, ev, gdO_tt, gdO_ff, gdO_tf, gdO_ft, gdO_u,
  itemsOf, itemsAt, operO, stepO, convO, callO, callB, storeO, pureA, loadA, allocA, serA, selA, binA, binInt, unA, convA, partA, TD.isAgg, TD.isBool, TD.isPtr, TD.isFunc, fieldOf, indexA, indexAddrA_sl, indexAddrA_ptr, lenA_sl, lenA_snil, lenA_str, buildA, placesA, fillA, repl, eqA, eqV, eqV.eqFs,
  ofConst, ofLeaf, ofLeafs, AV.cells, AV.leaf, List.all_cons, List.all_nil, Bool.true_and, Bool.and_true, Bool.false_and, Bool.and_false, Bool.true_or, Bool.false_or, Bool.or_false, Bool.or_true, Bool.not_true, Bool.not_false, Bool.not_not,
  Option.bind_some, Option.bind_none, Option.map_some, Option.map_none, Option.getD_some, Option.getD_none, Option.bind_eq_bind, List.getElem?_cons_zero, List.getElem?_cons_succ, List.getElem?_nil, List.getElem?_toArray, List.map_cons, List.map_nil, List.append_nil, List.nil_append, List.cons_append, List.singleton_append,
  List.take_zero, List.drop_zero, List.take_succ_cons, List.drop_succ_cons, List.take_nil, List.drop_nil, List.length_cons, List.length_nil, List.length_append, List.tail_cons, List.headD_cons, List.headD_nil, List.tail_nil,
  Nat.reduceEqDiff, Nat.reduceAdd, Nat.reduceMul, Nat.reduceLeDiff, ↓reduceIte, if_true, if_false, reduceCtorEq, true_and, and_true, false_and, and_false, decide_true, decide_false, Int.natCast_nonneg, Int.toNat_natCast, Nat.mul_one, Nat.one_mul, Nat.zero_add, Nat.add_zero, ne_eq, not_true_eq_false, not_false_eq_true, Nat.zero_le, Nat.le_refl, Int.toNat_zero, Nat.zero_mul, Nat.mul_zero, and_self, Nat.succ_ne_self,
  wrap64, wrap32, wrapU64, wrapU8, wrapU32]
          refine hq _ _ ?_
          simp only [pickL, lk_cons, Nat.reduceEqDiff, ↓reduceIte, reduceCtorEq, if_true, if_false]
          clear hq q
          exact wpL_nil (hn9 ((memZ M1).length - (i + 1)) _ _ (by omega) ⟨i + 1, by omega, rfl, rfl, rfl⟩)
        · repeat' (first | refine wpL_seq ?_ | refine wpL_skip ?_ | refine wpL_label ?_)
          refine wpL_exit (hx9' _ _ _ (by simp) (hx8 _ _ ?_))
          have hl3' := S3.len (P := Try.prog) ti23 rfl
          obtain ⟨a7, b7, c7, d71, d72, d73, d74⟩ := S7.at (P := Try.prog) (k0 := .i64) (i := (memZ M1).length) ti23 rfl ti3 rfl (by omega)
          obtain ⟨a9, b9, c9, d91, d92, d93, d94⟩ := S9.at (P := Try.prog) (k0 := .i64) (i := (memZ M1).length) ti23 rfl ti3 rfl (by omega)
          have g9 : ((memZ M1).map (fun z => AV.int .i64 z) ++ [AV.int .i64 (-2000)]).getD (memZ M1).length .any = AV.int .i64 (-2000) := by
            rw [List.getD, List.getElem?_append_right (by simp)]; simp
          rw [e7] at d74
          rw [g9] at d94
          repeat' (first | refine wpL_seq ?_ | refine wpL_skip ?_ | refine wpL_label ?_)
          refine wpL_region [6] fun q hq => ?_
          simp -implicitDefEqProofs (disch := omega) only [gO_nil, gO_cons, gN_cond, gN_val, gN_bad, outV_some, outV_none, outV_guard, outA_guard, outP_guard, outA, outP, gN_store, putd_lk, putd_lk0, lk_cons, lk_nil, ev_tmp, ev, gdO_tt, gdO_ff, gdO_tf, gdO_ft, gdO_u,
  itemsOf, itemsAt, operO, stepO, convO, callO, callB, storeO, pureA, loadA, allocA, serA, selA, binA, binInt, unA, convA, partA, TD.isAgg, TD.isBool, TD.isPtr, TD.isFunc, fieldOf, indexA, indexAddrA_sl, indexAddrA_ptr, lenA_sl, lenA_snil, lenA_str, buildA, placesA, fillA, repl, eqA, eqV, eqV.eqFs,
  ofConst, ofLeaf, ofLeafs, AV.cells, AV.leaf, List.all_cons, List.all_nil, Bool.true_and, Bool.and_true, Bool.false_and, Bool.and_false, Bool.true_or, Bool.false_or, Bool.or_false, Bool.or_true, Bool.not_true, Bool.not_false, Bool.not_not,
  Option.bind_some, Option.bind_none, Option.map_some, Option.map_none, Option.getD_some, Option.getD_none, Option.bind_eq_bind, List.getElem?_cons_zero, List.getElem?_cons_succ, List.getElem?_nil, List.getElem?_toArray, List.map_cons, List.map_nil, List.append_nil, List.nil_append, List.cons_append, List.singleton_append,
  List.take_zero, List.drop_zero, List.take_succ_cons, List.drop_succ_cons, List.take_nil, List.drop_nil, List.length_cons, List.length_nil, List.length_append, List.tail_cons, List.headD_cons, List.headD_nil, List.tail_nil,
  Nat.reduceEqDiff, Nat.reduceAdd, Nat.reduceMul, Nat.reduceLeDiff, ↓reduceIte, if_true, if_false, reduceCtorEq, true_and, and_true, false_and, and_false, decide_true, decide_false, Int.natCast_nonneg, Int.toNat_natCast, Nat.mul_one, Nat.one_mul, Nat.zero_add, Nat.add_zero, ne_eq, not_true_eq_false, not_false_eq_true, Nat.zero_le, Nat.le_refl, Int.toNat_zero, Nat.zero_mul, Nat.mul_zero, and_self, Nat.succ_ne_self,
  wrap64, wrap32, wrapU64, wrapU8, wrapU32, ti3, hl3', d71, d72, d73, d74, d91, d92, d93, d94]
          refine hq _ _ ?_
          simp only [pickL, lk_cons, Nat.reduceEqDiff, ↓reduceIte, reduceCtorEq, if_true, if_false]
          clear hq q
          repeat' (first | refine wpL_seq ?_ | refine wpL_skip ?_ | refine wpL_label ?_)
          refine wpL_ret (hK' _ _ _ _ (.inr rfl) rfl ?_)
          simp only [pickL, lk_cons, Nat.reduceEqDiff, ↓reduceIte, reduceCtorEq, if_true, if_false]
end Go.Proofs.Ytchhknkflhikmaa.Am
