/- The reference's group by itself, its intergreens, what is free. -/
import Derived.Test.YtdchdlabdokjnaaH18
namespace Go.Proofs.Ytdchdlabdokjnaa.Am.H
set_option linter.unusedSectionVars false
open Go Go.Proofs Am
set_option linter.unusedVariables false
set_option linter.unusedSimpArgs false
set_option maxRecDepth 100000
attribute [local irreducible] gO gN gW gdO

theorem f52_up (n : Int) (h : -2147483648 ≤ n ∧ n ≤ 2147483647) : wpP Try.prog 52 [.int .i32 n] (.int .i32 (upOf n)) := by
  refine wpP_intro ?_
  refine wpH_intro (fn := Try.f52) rfl rfl (by decide) (by kernel_rfl) fun K' hK' => ?_
  repeat' (first | refine wpL_seq ?_ | refine wpL_skip ?_ | refine wpL_label ?_ | refine wpL_scope ?_)
  refine wpL_region' [0] fun q hq => ?_
  simp -implicitDefEqProofs (disch := omega) only [go_sem, Int.reduceEq, Int.reduceLT, Int.reduceLE, Int.reduceToNat, Int.reduceNeg, Int.reduceAdd, Int.reduceSub, Nat.reduceEqDiff, Nat.reduceAdd, Nat.reduceMul, Nat.reduceLeDiff, Nat.reduceSub, ↓reduceIte, reduceCtorEq]
  repeat (refine And.intro (by omega) ?_)
  refine hq _ _ _ (by simp only [pickL, lk_cons, Nat.reduceEqDiff, ↓reduceIte]; exact rfl) ?_
  clear hq q
  repeat' (first | refine wpL_seq ?_ | refine wpL_skip ?_ | refine wpL_label ?_ | refine wpL_scope ?_)
  refine wpL_region' [0, 4] fun q hq => ?_
  simp -implicitDefEqProofs (disch := omega) only [go_sem, Int.reduceEq, Int.reduceLT, Int.reduceLE, Int.reduceToNat, Int.reduceNeg, Int.reduceAdd, Int.reduceSub, Nat.reduceEqDiff, Nat.reduceAdd, Nat.reduceMul, Nat.reduceLeDiff, Nat.reduceSub, ↓reduceIte, reduceCtorEq]
  repeat (refine And.intro (by omega) ?_)
  refine hq _ _ _ (by simp only [pickL, lk_cons, Nat.reduceEqDiff, ↓reduceIte]; exact rfl) ?_
  clear hq q
  repeat' (first | refine wpL_seq ?_ | refine wpL_skip ?_ | refine wpL_label ?_ | refine wpL_scope ?_)
  refine wpL_cond rfl (fun hc1 => ?_) (fun hc1 => ?_)
  · simp at hc1
    repeat' (first | refine wpL_seq ?_ | refine wpL_skip ?_ | refine wpL_label ?_ | refine wpL_scope ?_)
    refine wpL_region' [2] fun q hq => ?_
    simp -implicitDefEqProofs (disch := omega) only [go_sem, Int.reduceEq, Int.reduceLT, Int.reduceLE, Int.reduceToNat, Int.reduceNeg, Int.reduceAdd, Int.reduceSub, Nat.reduceEqDiff, Nat.reduceAdd, Nat.reduceMul, Nat.reduceLeDiff, Nat.reduceSub, ↓reduceIte, reduceCtorEq]
    repeat (refine And.intro (by omega) ?_)
    refine hq _ _ _ (by simp only [pickL, lk_cons, Nat.reduceEqDiff, ↓reduceIte]; exact rfl) ?_
    clear hq q
    repeat' (first | refine wpL_seq ?_ | refine wpL_skip ?_ | refine wpL_label ?_ | refine wpL_scope ?_)
    refine wpL_ret (hK' _ _ _ _ (.inr rfl) (resTo (rs' := [.tmp 2]) rfl (by simp only [go_sem, Int.reduceEq, Int.reduceLT, Int.reduceLE, Int.reduceToNat, Int.reduceNeg, Int.reduceAdd, Int.reduceSub, Nat.reduceEqDiff, Nat.reduceAdd, Nat.reduceMul, Nat.reduceLeDiff, Nat.reduceSub, ↓reduceIte, reduceCtorEq]; exact rfl)) ?_)
    congr 1; unfold upOf; split <;> omega
  simp at hc1
  repeat' (first | refine wpL_seq ?_ | refine wpL_skip ?_ | refine wpL_label ?_ | refine wpL_scope ?_)
  refine wpL_region' [0, 6] fun q hq => ?_
  simp -implicitDefEqProofs (disch := omega) only [go_sem, Int.reduceEq, Int.reduceLT, Int.reduceLE, Int.reduceToNat, Int.reduceNeg, Int.reduceAdd, Int.reduceSub, Nat.reduceEqDiff, Nat.reduceAdd, Nat.reduceMul, Nat.reduceLeDiff, Nat.reduceSub, ↓reduceIte, reduceCtorEq]
  repeat (refine And.intro (by omega) ?_)
  refine hq _ _ _ (by simp only [pickL, lk_cons, Nat.reduceEqDiff, ↓reduceIte]; exact rfl) ?_
  clear hq q
  repeat' (first | refine wpL_seq ?_ | refine wpL_skip ?_ | refine wpL_label ?_ | refine wpL_scope ?_)
  refine wpL_cond rfl (fun hc2 => ?_) (fun hc2 => ?_)
  · simp at hc2
    repeat' (first | refine wpL_seq ?_ | refine wpL_skip ?_ | refine wpL_label ?_ | refine wpL_scope ?_)
    refine wpL_region' [2] fun q hq => ?_
    simp -implicitDefEqProofs (disch := omega) only [go_sem, Int.reduceEq, Int.reduceLT, Int.reduceLE, Int.reduceToNat, Int.reduceNeg, Int.reduceAdd, Int.reduceSub, Nat.reduceEqDiff, Nat.reduceAdd, Nat.reduceMul, Nat.reduceLeDiff, Nat.reduceSub, ↓reduceIte, reduceCtorEq]
    repeat (refine And.intro (by omega) ?_)
    refine hq _ _ _ (by simp only [pickL, lk_cons, Nat.reduceEqDiff, ↓reduceIte]; exact rfl) ?_
    clear hq q
    repeat' (first | refine wpL_seq ?_ | refine wpL_skip ?_ | refine wpL_label ?_ | refine wpL_scope ?_)
    refine wpL_ret (hK' _ _ _ _ (.inr rfl) (resTo (rs' := [.tmp 2]) rfl (by simp only [go_sem, Int.reduceEq, Int.reduceLT, Int.reduceLE, Int.reduceToNat, Int.reduceNeg, Int.reduceAdd, Int.reduceSub, Nat.reduceEqDiff, Nat.reduceAdd, Nat.reduceMul, Nat.reduceLeDiff, Nat.reduceSub, ↓reduceIte, reduceCtorEq]; exact rfl)) ?_)
    congr 1; unfold upOf; split <;> omega
  simp at hc2
  repeat' (first | refine wpL_seq ?_ | refine wpL_skip ?_ | refine wpL_label ?_ | refine wpL_scope ?_)
  refine wpL_region' [2] fun q hq => ?_
  simp -implicitDefEqProofs (disch := omega) only [go_sem, Int.reduceEq, Int.reduceLT, Int.reduceLE, Int.reduceToNat, Int.reduceNeg, Int.reduceAdd, Int.reduceSub, Nat.reduceEqDiff, Nat.reduceAdd, Nat.reduceMul, Nat.reduceLeDiff, Nat.reduceSub, ↓reduceIte, reduceCtorEq]
  repeat (refine And.intro (by omega) ?_)
  refine hq _ _ _ (by simp only [pickL, lk_cons, Nat.reduceEqDiff, ↓reduceIte]; exact rfl) ?_
  clear hq q
  repeat' (first | refine wpL_seq ?_ | refine wpL_skip ?_ | refine wpL_label ?_ | refine wpL_scope ?_)
  refine wpL_ret (hK' _ _ _ _ (.inr rfl) (resTo (rs' := [.tmp 2]) rfl (by simp only [go_sem, Int.reduceEq, Int.reduceLT, Int.reduceLE, Int.reduceToNat, Int.reduceNeg, Int.reduceAdd, Int.reduceSub, Nat.reduceEqDiff, Nat.reduceAdd, Nat.reduceMul, Nat.reduceLeDiff, Nat.reduceSub, ↓reduceIte, reduceCtorEq]; exact rfl)) ?_)
  congr 1; unfold upOf; split <;> omega
theorem f50_alone (g : Group) (a x : Int) (w : Bool) (hx : -2147483648 ≤ x ∧ x ≤ 2147483647) : wpP Try.prog 50 [.agg g.cells, .int .i64 a, .int .i32 x, .bool w] (.int .i64 (alone g a x w)) := by
  refine wpP_intro ?_
  refine wpH_intro (fn := Try.f50) rfl rfl (by decide) (by kernel_rfl) fun K' hK' => ?_
  repeat' (first | refine wpL_seq ?_ | refine wpL_skip ?_ | refine wpL_label ?_ | refine wpL_scope ?_)
  refine wpL_region' [1, 2, 3, 4] fun q hq => ?_
  simp -implicitDefEqProofs (disch := omega) only [go_sem, Int.reduceEq, Int.reduceLT, Int.reduceLE, Int.reduceToNat, Int.reduceNeg, Int.reduceAdd, Int.reduceSub, Nat.reduceEqDiff, Nat.reduceAdd, Nat.reduceMul, Nat.reduceLeDiff, Nat.reduceSub, ↓reduceIte, reduceCtorEq, Group.cells]
  repeat (refine And.intro (by omega) ?_)
  refine gN_new fun b4 hb4 => ?_
  try simp only [newIn_put, newIn_upd] at hb4
  simp -implicitDefEqProofs (disch := omega) only [go_sem, Int.reduceEq, Int.reduceLT, Int.reduceLE, Int.reduceToNat, Int.reduceNeg, Int.reduceAdd, Int.reduceSub, Nat.reduceEqDiff, Nat.reduceAdd, Nat.reduceMul, Nat.reduceLeDiff, Nat.reduceSub, ↓reduceIte, reduceCtorEq, Group.cells, hb4]
  repeat (refine And.intro (by omega) ?_)
  refine hq _ _ _ (by simp only [pickL, lk_cons, Nat.reduceEqDiff, ↓reduceIte]; exact rfl) ?_
  clear hq q
  refine wpL_frzP' 4 rfl (by simp only [go_sem, hb4, hb4]; exact rfl) rfl (by simp only [go_sem, Int.reduceEq, Int.reduceLT, Int.reduceLE, Int.reduceToNat, Int.reduceNeg, Int.reduceAdd, Int.reduceSub, Nat.reduceEqDiff, Nat.reduceAdd, Nat.reduceMul, Nat.reduceLeDiff, Nat.reduceSub, ↓reduceIte, reduceCtorEq]; exact rfl) (by simp only [go_sem, hb4, hb4]; exact rfl) ?_
  repeat' (first | refine wpL_seq ?_ | refine wpL_skip ?_ | refine wpL_label ?_ | refine wpL_scope ?_)
  refine wpL_region' [2, 3, 4, 9] fun q hq => ?_
  simp -implicitDefEqProofs (disch := omega) only [go_sem, Int.reduceEq, Int.reduceLT, Int.reduceLE, Int.reduceToNat, Int.reduceNeg, Int.reduceAdd, Int.reduceSub, Nat.reduceEqDiff, Nat.reduceAdd, Nat.reduceMul, Nat.reduceLeDiff, Nat.reduceSub, ↓reduceIte, reduceCtorEq, hb4]
  repeat (refine And.intro (by omega) ?_)
  refine hq _ _ _ (by simp only [pickL, lk_cons, Nat.reduceEqDiff, ↓reduceIte]; exact rfl) ?_
  clear hq q
  repeat' (first | refine wpL_seq ?_ | refine wpL_skip ?_ | refine wpL_label ?_ | refine wpL_scope ?_)
  refine wpL_block fun k1 hn1 hx1 ho1 => ?_
  repeat' (first | refine wpL_seq ?_ | refine wpL_skip ?_ | refine wpL_label ?_ | refine wpL_scope ?_)
  refine wpL_region' [2, 3, 4, 9, 10] fun q hq => ?_
  simp -implicitDefEqProofs (disch := omega) only [go_sem, Int.reduceEq, Int.reduceLT, Int.reduceLE, Int.reduceToNat, Int.reduceNeg, Int.reduceAdd, Int.reduceSub, Nat.reduceEqDiff, Nat.reduceAdd, Nat.reduceMul, Nat.reduceLeDiff, Nat.reduceSub, ↓reduceIte, reduceCtorEq, hb4]
  repeat (refine And.intro (by omega) ?_)
  refine hq _ _ _ (by simp only [pickL, lk_cons, Nat.reduceEqDiff, ↓reduceIte]; exact rfl) ?_
  clear hq q
  repeat' (first | refine wpL_seq ?_ | refine wpL_skip ?_ | refine wpL_label ?_ | refine wpL_scope ?_)
  refine wpL_cond rfl (fun hc2 => ?_) (fun hc2 => ?_)
  · simp at hc2
    repeat' (first | refine wpL_seq ?_ | refine wpL_skip ?_ | refine wpL_label ?_ | refine wpL_scope ?_)
    refine wpL_regV [4] 19 (.bool (w || decide (x < g.min))) (by simp only [pickL, put, lk_cons, Int.reduceEq, Int.reduceLT, Int.reduceLE, Int.reduceToNat, Int.reduceNeg, Int.reduceAdd, Int.reduceSub, Nat.reduceEqDiff, Nat.reduceAdd, Nat.reduceMul, Nat.reduceLeDiff, Nat.reduceSub, ↓reduceIte, reduceCtorEq, if_true, if_false]; exact rfl) (by decide) ?_ ?_
    · simp -implicitDefEqProofs (disch := omega) only [go_sem, Int.reduceEq, Int.reduceLT, Int.reduceLE, Int.reduceToNat, Int.reduceNeg, Int.reduceAdd, Int.reduceSub, Nat.reduceEqDiff, Nat.reduceAdd, Nat.reduceMul, Nat.reduceLeDiff, Nat.reduceSub, ↓reduceIte, reduceCtorEq, hb4]
      repeat' (first | (refine gN_split2 (fun hs => ?_) (fun hs => ?_) <;> simp -implicitDefEqProofs (disch := omega) only [go_sem, Int.reduceEq, Int.reduceLT, Int.reduceLE, Int.reduceToNat, Int.reduceNeg, Int.reduceAdd, Int.reduceSub, Nat.reduceEqDiff, Nat.reduceAdd, Nat.reduceMul, Nat.reduceLeDiff, Nat.reduceSub, ↓reduceIte, reduceCtorEq, hs, hb4]) | simp -implicitDefEqProofs (disch := omega) only [go_sem, Int.reduceEq, Int.reduceLT, Int.reduceLE, Int.reduceToNat, Int.reduceNeg, Int.reduceAdd, Int.reduceSub, Nat.reduceEqDiff, Nat.reduceAdd, Nat.reduceMul, Nat.reduceLeDiff, Nat.reduceSub, ↓reduceIte, reduceCtorEq, hb4] | refine And.intro (by omega) ?_)
      all_goals (try clear hK'; try clear hn1; try clear hx1; try clear ho1)
      all_goals (grind)
    repeat' (first | refine wpL_seq ?_ | refine wpL_skip ?_ | refine wpL_label ?_ | refine wpL_scope ?_)
    refine wpL_cond rfl (fun hc3 => ?_) (fun hc3 => ?_)
    · repeat' (first | refine wpL_seq ?_ | refine wpL_skip ?_ | refine wpL_label ?_ | refine wpL_scope ?_)
      refine wpL_region' [8] fun q hq => ?_
      simp -implicitDefEqProofs (disch := omega) only [go_sem, Int.reduceEq, Int.reduceLT, Int.reduceLE, Int.reduceToNat, Int.reduceNeg, Int.reduceAdd, Int.reduceSub, Nat.reduceEqDiff, Nat.reduceAdd, Nat.reduceMul, Nat.reduceLeDiff, Nat.reduceSub, ↓reduceIte, reduceCtorEq, hb4]
      repeat (refine And.intro (by omega) ?_)
      refine hq _ _ _ (by simp only [pickL, lk_cons, Nat.reduceEqDiff, ↓reduceIte]; exact rfl) ?_
      clear hq q
      repeat' (first | refine wpL_seq ?_ | refine wpL_skip ?_ | refine wpL_label ?_ | refine wpL_scope ?_)
      refine wpL_ret (ho1 _ _ _ (by simp) (by simp) (hK' _ _ _ _ (.inr rfl) (resTo (rs' := [.tmp 8]) rfl (by simp only [go_sem, Int.reduceEq, Int.reduceLT, Int.reduceLE, Int.reduceToNat, Int.reduceNeg, Int.reduceAdd, Int.reduceSub, Nat.reduceEqDiff, Nat.reduceAdd, Nat.reduceMul, Nat.reduceLeDiff, Nat.reduceSub, ↓reduceIte, reduceCtorEq, hb4]; exact rfl)) ?_))
      simp only [alone, greenOf, if_pos hc2, hc3, if_true]
    repeat' (first | refine wpL_seq ?_ | refine wpL_skip ?_ | refine wpL_label ?_ | refine wpL_scope ?_)
    refine wpL_region' [22] fun q hq => ?_
    simp -implicitDefEqProofs (disch := omega) only [go_sem, Int.reduceEq, Int.reduceLT, Int.reduceLE, Int.reduceToNat, Int.reduceNeg, Int.reduceAdd, Int.reduceSub, Nat.reduceEqDiff, Nat.reduceAdd, Nat.reduceMul, Nat.reduceLeDiff, Nat.reduceSub, ↓reduceIte, reduceCtorEq, hb4]
    repeat (refine And.intro (by omega) ?_)
    refine hq _ _ _ (by simp only [pickL, lk_cons, Nat.reduceEqDiff, ↓reduceIte]; exact rfl) ?_
    clear hq q
    repeat' (first | refine wpL_seq ?_ | refine wpL_skip ?_ | refine wpL_label ?_ | refine wpL_scope ?_)
    refine wpL_cond rfl (fun hc4 => ?_) (fun hc4 => ?_)
    · simp at hc4
      repeat' (first | refine wpL_seq ?_ | refine wpL_skip ?_ | refine wpL_label ?_ | refine wpL_scope ?_)
      refine wpL_region' [8] fun q hq => ?_
      simp -implicitDefEqProofs (disch := omega) only [go_sem, Int.reduceEq, Int.reduceLT, Int.reduceLE, Int.reduceToNat, Int.reduceNeg, Int.reduceAdd, Int.reduceSub, Nat.reduceEqDiff, Nat.reduceAdd, Nat.reduceMul, Nat.reduceLeDiff, Nat.reduceSub, ↓reduceIte, reduceCtorEq, hb4]
      repeat (refine And.intro (by omega) ?_)
      refine hq _ _ _ (by simp only [pickL, lk_cons, Nat.reduceEqDiff, ↓reduceIte]; exact rfl) ?_
      clear hq q
      repeat' (first | refine wpL_seq ?_ | refine wpL_skip ?_ | refine wpL_label ?_ | refine wpL_scope ?_)
      refine wpL_ret (ho1 _ _ _ (by simp) (by simp) (hK' _ _ _ _ (.inr rfl) (resTo (rs' := [.tmp 8]) rfl (by simp only [go_sem, Int.reduceEq, Int.reduceLT, Int.reduceLE, Int.reduceToNat, Int.reduceNeg, Int.reduceAdd, Int.reduceSub, Nat.reduceEqDiff, Nat.reduceAdd, Nat.reduceMul, Nat.reduceLeDiff, Nat.reduceSub, ↓reduceIte, reduceCtorEq, hb4]; exact rfl)) ?_))
      simp only [alone, greenOf, if_pos hc2, hc3, if_pos hc4]; simp
    simp at hc4
    repeat' (first | refine wpL_seq ?_ | refine wpL_skip ?_ | refine wpL_label ?_ | refine wpL_scope ?_)
    refine wpL_region' [8] fun q hq => ?_
    simp -implicitDefEqProofs (disch := omega) only [go_sem, Int.reduceEq, Int.reduceLT, Int.reduceLE, Int.reduceToNat, Int.reduceNeg, Int.reduceAdd, Int.reduceSub, Nat.reduceEqDiff, Nat.reduceAdd, Nat.reduceMul, Nat.reduceLeDiff, Nat.reduceSub, ↓reduceIte, reduceCtorEq, hb4]
    repeat (refine And.intro (by omega) ?_)
    refine hq _ _ _ (by simp only [pickL, lk_cons, Nat.reduceEqDiff, ↓reduceIte]; exact rfl) ?_
    clear hq q
    repeat' (first | refine wpL_seq ?_ | refine wpL_skip ?_ | refine wpL_label ?_ | refine wpL_scope ?_)
    refine wpL_ret (ho1 _ _ _ (by simp) (by simp) (hK' _ _ _ _ (.inr rfl) (resTo (rs' := [.tmp 8]) rfl (by simp only [go_sem, Int.reduceEq, Int.reduceLT, Int.reduceLE, Int.reduceToNat, Int.reduceNeg, Int.reduceAdd, Int.reduceSub, Nat.reduceEqDiff, Nat.reduceAdd, Nat.reduceMul, Nat.reduceLeDiff, Nat.reduceSub, ↓reduceIte, reduceCtorEq, hb4]; exact rfl)) ?_))
    simp only [alone, greenOf, if_pos hc2, hc3, if_neg (show ¬ 0 < g.amber by omega)]; simp
  simp at hc2
  repeat' (first | refine wpL_seq ?_ | refine wpL_skip ?_ | refine wpL_label ?_ | refine wpL_scope ?_)
  refine wpL_region' [2, 4, 9, 23] fun q hq => ?_
  simp -implicitDefEqProofs (disch := omega) only [go_sem, Int.reduceEq, Int.reduceLT, Int.reduceLE, Int.reduceToNat, Int.reduceNeg, Int.reduceAdd, Int.reduceSub, Nat.reduceEqDiff, Nat.reduceAdd, Nat.reduceMul, Nat.reduceLeDiff, Nat.reduceSub, ↓reduceIte, reduceCtorEq, hb4]
  repeat (refine And.intro (by omega) ?_)
  refine hq _ _ _ (by simp only [pickL, lk_cons, Nat.reduceEqDiff, ↓reduceIte]; exact rfl) ?_
  clear hq q
  repeat' (first | refine wpL_seq ?_ | refine wpL_skip ?_ | refine wpL_label ?_ | refine wpL_scope ?_)
  refine wpL_cond rfl (fun hc5 => ?_) (fun hc5 => ?_)
  · simp at hc5
    repeat' (first | refine wpL_seq ?_ | refine wpL_skip ?_ | refine wpL_label ?_ | refine wpL_scope ?_)
    refine wpL_region' [29] fun q hq => ?_
    simp -implicitDefEqProofs (disch := omega) only [go_sem, Int.reduceEq, Int.reduceLT, Int.reduceLE, Int.reduceToNat, Int.reduceNeg, Int.reduceAdd, Int.reduceSub, Nat.reduceEqDiff, Nat.reduceAdd, Nat.reduceMul, Nat.reduceLeDiff, Nat.reduceSub, ↓reduceIte, reduceCtorEq, hb4]
    repeat (refine And.intro (by omega) ?_)
    refine hq _ _ _ (by simp only [pickL, lk_cons, Nat.reduceEqDiff, ↓reduceIte]; exact rfl) ?_
    clear hq q
    repeat' (first | refine wpL_seq ?_ | refine wpL_skip ?_ | refine wpL_label ?_ | refine wpL_scope ?_)
    refine wpL_cond rfl (fun hc6 => ?_) (fun hc6 => ?_)
    · simp at hc6
      repeat' (first | refine wpL_seq ?_ | refine wpL_skip ?_ | refine wpL_label ?_ | refine wpL_scope ?_)
      refine wpL_region' [8] fun q hq => ?_
      simp -implicitDefEqProofs (disch := omega) only [go_sem, Int.reduceEq, Int.reduceLT, Int.reduceLE, Int.reduceToNat, Int.reduceNeg, Int.reduceAdd, Int.reduceSub, Nat.reduceEqDiff, Nat.reduceAdd, Nat.reduceMul, Nat.reduceLeDiff, Nat.reduceSub, ↓reduceIte, reduceCtorEq, hb4]
      repeat (refine And.intro (by omega) ?_)
      refine hq _ _ _ (by simp only [pickL, lk_cons, Nat.reduceEqDiff, ↓reduceIte]; exact rfl) ?_
      clear hq q
      repeat' (first | refine wpL_seq ?_ | refine wpL_skip ?_ | refine wpL_label ?_ | refine wpL_scope ?_)
      refine wpL_ret (ho1 _ _ _ (by simp) (by simp) (hK' _ _ _ _ (.inr rfl) (resTo (rs' := [.tmp 8]) rfl (by simp only [go_sem, Int.reduceEq, Int.reduceLT, Int.reduceLE, Int.reduceToNat, Int.reduceNeg, Int.reduceAdd, Int.reduceSub, Nat.reduceEqDiff, Nat.reduceAdd, Nat.reduceMul, Nat.reduceLeDiff, Nat.reduceSub, ↓reduceIte, reduceCtorEq, hb4]; exact rfl)) ?_))
      simp only [alone, amberOf, if_neg hc2, if_pos hc5, if_pos hc6]
    simp at hc6
    repeat' (first | refine wpL_seq ?_ | refine wpL_skip ?_ | refine wpL_label ?_ | refine wpL_scope ?_)
    refine wpL_region' [8] fun q hq => ?_
    simp -implicitDefEqProofs (disch := omega) only [go_sem, Int.reduceEq, Int.reduceLT, Int.reduceLE, Int.reduceToNat, Int.reduceNeg, Int.reduceAdd, Int.reduceSub, Nat.reduceEqDiff, Nat.reduceAdd, Nat.reduceMul, Nat.reduceLeDiff, Nat.reduceSub, ↓reduceIte, reduceCtorEq, hb4]
    repeat (refine And.intro (by omega) ?_)
    refine hq _ _ _ (by simp only [pickL, lk_cons, Nat.reduceEqDiff, ↓reduceIte]; exact rfl) ?_
    clear hq q
    repeat' (first | refine wpL_seq ?_ | refine wpL_skip ?_ | refine wpL_label ?_ | refine wpL_scope ?_)
    refine wpL_ret (ho1 _ _ _ (by simp) (by simp) (hK' _ _ _ _ (.inr rfl) (resTo (rs' := [.tmp 8]) rfl (by simp only [go_sem, Int.reduceEq, Int.reduceLT, Int.reduceLE, Int.reduceToNat, Int.reduceNeg, Int.reduceAdd, Int.reduceSub, Nat.reduceEqDiff, Nat.reduceAdd, Nat.reduceMul, Nat.reduceLeDiff, Nat.reduceSub, ↓reduceIte, reduceCtorEq, hb4]; exact rfl)) ?_))
    simp only [alone, amberOf, if_neg hc2, if_pos hc5, if_neg (show ¬ x < g.amber by omega)]
  simp at hc5
  repeat' (first | refine wpL_seq ?_ | refine wpL_skip ?_ | refine wpL_label ?_ | refine wpL_scope ?_)
  refine wpL_region' [2, 4, 30] fun q hq => ?_
  simp -implicitDefEqProofs (disch := omega) only [go_sem, Int.reduceEq, Int.reduceLT, Int.reduceLE, Int.reduceToNat, Int.reduceNeg, Int.reduceAdd, Int.reduceSub, Nat.reduceEqDiff, Nat.reduceAdd, Nat.reduceMul, Nat.reduceLeDiff, Nat.reduceSub, ↓reduceIte, reduceCtorEq, hb4]
  repeat (refine And.intro (by omega) ?_)
  refine hq _ _ _ (by simp only [pickL, lk_cons, Nat.reduceEqDiff, ↓reduceIte]; exact rfl) ?_
  clear hq q
  repeat' (first | refine wpL_seq ?_ | refine wpL_skip ?_ | refine wpL_label ?_ | refine wpL_scope ?_)
  refine wpL_cond rfl (fun hc7 => ?_) (fun hc7 => ?_)
  · simp at hc7
    repeat' (first | refine wpL_seq ?_ | refine wpL_skip ?_ | refine wpL_label ?_ | refine wpL_scope ?_)
    refine wpL_region' [36] fun q hq => ?_
    simp -implicitDefEqProofs (disch := omega) only [go_sem, Int.reduceEq, Int.reduceLT, Int.reduceLE, Int.reduceToNat, Int.reduceNeg, Int.reduceAdd, Int.reduceSub, Nat.reduceEqDiff, Nat.reduceAdd, Nat.reduceMul, Nat.reduceLeDiff, Nat.reduceSub, ↓reduceIte, reduceCtorEq, hb4]
    repeat (refine And.intro (by omega) ?_)
    refine hq _ _ _ (by simp only [pickL, lk_cons, Nat.reduceEqDiff, ↓reduceIte]; exact rfl) ?_
    clear hq q
    repeat' (first | refine wpL_seq ?_ | refine wpL_skip ?_ | refine wpL_label ?_ | refine wpL_scope ?_)
    refine wpL_cond rfl (fun hc8 => ?_) (fun hc8 => ?_)
    · simp at hc8
      repeat' (first | refine wpL_seq ?_ | refine wpL_skip ?_ | refine wpL_label ?_ | refine wpL_scope ?_)
      refine wpL_region' [8] fun q hq => ?_
      simp -implicitDefEqProofs (disch := omega) only [go_sem, Int.reduceEq, Int.reduceLT, Int.reduceLE, Int.reduceToNat, Int.reduceNeg, Int.reduceAdd, Int.reduceSub, Nat.reduceEqDiff, Nat.reduceAdd, Nat.reduceMul, Nat.reduceLeDiff, Nat.reduceSub, ↓reduceIte, reduceCtorEq, hb4]
      repeat (refine And.intro (by omega) ?_)
      refine hq _ _ _ (by simp only [pickL, lk_cons, Nat.reduceEqDiff, ↓reduceIte]; exact rfl) ?_
      clear hq q
      repeat' (first | refine wpL_seq ?_ | refine wpL_skip ?_ | refine wpL_label ?_ | refine wpL_scope ?_)
      refine wpL_ret (ho1 _ _ _ (by simp) (by simp) (hK' _ _ _ _ (.inr rfl) (resTo (rs' := [.tmp 8]) rfl (by simp only [go_sem, Int.reduceEq, Int.reduceLT, Int.reduceLE, Int.reduceToNat, Int.reduceNeg, Int.reduceAdd, Int.reduceSub, Nat.reduceEqDiff, Nat.reduceAdd, Nat.reduceMul, Nat.reduceLeDiff, Nat.reduceSub, ↓reduceIte, reduceCtorEq, hb4]; exact rfl)) ?_))
      simp only [alone, leadOf, if_neg hc2, if_neg hc5, if_pos hc7, if_pos hc8]
    simp at hc8
    repeat' (first | refine wpL_seq ?_ | refine wpL_skip ?_ | refine wpL_label ?_ | refine wpL_scope ?_)
    refine wpL_region' [8] fun q hq => ?_
    simp -implicitDefEqProofs (disch := omega) only [go_sem, Int.reduceEq, Int.reduceLT, Int.reduceLE, Int.reduceToNat, Int.reduceNeg, Int.reduceAdd, Int.reduceSub, Nat.reduceEqDiff, Nat.reduceAdd, Nat.reduceMul, Nat.reduceLeDiff, Nat.reduceSub, ↓reduceIte, reduceCtorEq, hb4]
    repeat (refine And.intro (by omega) ?_)
    refine hq _ _ _ (by simp only [pickL, lk_cons, Nat.reduceEqDiff, ↓reduceIte]; exact rfl) ?_
    clear hq q
    repeat' (first | refine wpL_seq ?_ | refine wpL_skip ?_ | refine wpL_label ?_ | refine wpL_scope ?_)
    refine wpL_ret (ho1 _ _ _ (by simp) (by simp) (hK' _ _ _ _ (.inr rfl) (resTo (rs' := [.tmp 8]) rfl (by simp only [go_sem, Int.reduceEq, Int.reduceLT, Int.reduceLE, Int.reduceToNat, Int.reduceNeg, Int.reduceAdd, Int.reduceSub, Nat.reduceEqDiff, Nat.reduceAdd, Nat.reduceMul, Nat.reduceLeDiff, Nat.reduceSub, ↓reduceIte, reduceCtorEq, hb4]; exact rfl)) ?_))
    simp only [alone, leadOf, if_neg hc2, if_neg hc5, if_pos hc7, if_neg (show ¬ x < g.lead by omega)]
  simp at hc7
  repeat' (first | refine wpL_seq ?_ | refine wpL_skip ?_ | refine wpL_label ?_ | refine wpL_scope ?_)
  refine wpL_nil (hn1 _ _ ?_)
  repeat' (first | refine wpL_seq ?_ | refine wpL_skip ?_ | refine wpL_label ?_ | refine wpL_scope ?_)
  refine wpL_region' [8] fun q hq => ?_
  simp -implicitDefEqProofs (disch := omega) only [go_sem, Int.reduceEq, Int.reduceLT, Int.reduceLE, Int.reduceToNat, Int.reduceNeg, Int.reduceAdd, Int.reduceSub, Nat.reduceEqDiff, Nat.reduceAdd, Nat.reduceMul, Nat.reduceLeDiff, Nat.reduceSub, ↓reduceIte, reduceCtorEq, hb4]
  repeat (refine And.intro (by omega) ?_)
  refine hq _ _ _ (by simp only [pickL, lk_cons, Nat.reduceEqDiff, ↓reduceIte]; exact rfl) ?_
  clear hq q
  repeat' (first | refine wpL_seq ?_ | refine wpL_skip ?_ | refine wpL_label ?_ | refine wpL_scope ?_)
  refine wpL_ret (hK' _ _ _ _ (.inr rfl) (resTo (rs' := [.tmp 8]) rfl (by simp only [go_sem, Int.reduceEq, Int.reduceLT, Int.reduceLE, Int.reduceToNat, Int.reduceNeg, Int.reduceAdd, Int.reduceSub, Nat.reduceEqDiff, Nat.reduceAdd, Nat.reduceMul, Nat.reduceLeDiff, Nat.reduceSub, ↓reduceIte, reduceCtorEq, hb4]; exact rfl)) ?_)
  simp only [alone, if_neg hc2, if_neg hc5, if_neg hc7]
def interL : List Conf → Int → Int → Int
  | [], _, _ => -1
  | c :: l, a, b => if c.a = a ∧ c.b = b then c.ab else if c.a = b ∧ c.b = a then c.ba else interL l a b
theorem f57_inter (t : Tables) (a b : Int) (hc : t.confs.length ≤ 9223372036854775806) : wpP Try.prog 57 [t.av, .int .i64 a, .int .i64 b] (.int .i64 (interL t.confs a b)) := by
  refine wpP_intro ?_
  refine wpH_intro (fn := Try.f57) rfl rfl (by decide) (by kernel_rfl) fun K' hK' => ?_
  repeat' (first | refine wpL_seq ?_ | refine wpL_skip ?_ | refine wpL_label ?_ | refine wpL_scope ?_)
  refine wpL_region' [1, 2, 3] fun q hq => ?_
  simp -implicitDefEqProofs (disch := omega) only [go_sem, Int.reduceEq, Int.reduceLT, Int.reduceLE, Int.reduceToNat, Int.reduceNeg, Int.reduceAdd, Int.reduceSub, Nat.reduceEqDiff, Nat.reduceAdd, Nat.reduceMul, Nat.reduceLeDiff, Nat.reduceSub, ↓reduceIte, reduceCtorEq, Tables.av, Tables.cells]
  repeat (refine And.intro (by omega) ?_)
  refine gN_new fun b3 hb3 => ?_
  try simp only [newIn_put, newIn_upd] at hb3
  simp -implicitDefEqProofs (disch := omega) only [go_sem, Int.reduceEq, Int.reduceLT, Int.reduceLE, Int.reduceToNat, Int.reduceNeg, Int.reduceAdd, Int.reduceSub, Nat.reduceEqDiff, Nat.reduceAdd, Nat.reduceMul, Nat.reduceLeDiff, Nat.reduceSub, ↓reduceIte, reduceCtorEq, Tables.av, Tables.cells, hb3]
  repeat (refine And.intro (by omega) ?_)
  refine hq _ _ _ (by simp only [pickL, lk_cons, Nat.reduceEqDiff, ↓reduceIte]; exact rfl) ?_
  clear hq q
  refine wpL_frzP' 3 rfl (by simp only [go_sem, hb3, hb3]; exact rfl) rfl (by simp only [go_sem, Int.reduceEq, Int.reduceLT, Int.reduceLE, Int.reduceToNat, Int.reduceNeg, Int.reduceAdd, Int.reduceSub, Nat.reduceEqDiff, Nat.reduceAdd, Nat.reduceMul, Nat.reduceLeDiff, Nat.reduceSub, ↓reduceIte, reduceCtorEq]; exact rfl) (by simp only [go_sem, hb3, hb3]; exact rfl) ?_
  repeat' (first | refine wpL_seq ?_ | refine wpL_skip ?_ | refine wpL_label ?_ | refine wpL_scope ?_)
  refine wpL_region' [1, 2, 3, 7] fun q hq => ?_
  simp -implicitDefEqProofs (disch := omega) only [go_sem, Int.reduceEq, Int.reduceLT, Int.reduceLE, Int.reduceToNat, Int.reduceNeg, Int.reduceAdd, Int.reduceSub, Nat.reduceEqDiff, Nat.reduceAdd, Nat.reduceMul, Nat.reduceLeDiff, Nat.reduceSub, ↓reduceIte, reduceCtorEq, hb3]
  repeat (refine And.intro (by omega) ?_)
  refine hq _ _ _ (by simp only [pickL, lk_cons, Nat.reduceEqDiff, ↓reduceIte]; exact rfl) ?_
  clear hq q
  repeat' (first | refine wpL_seq ?_ | refine wpL_skip ?_ | refine wpL_label ?_ | refine wpL_scope ?_)
  refine wpL_block fun k1 hn1 hx1 ho1 => ?_
  refine wpL_loop (fun j e h => ∃ i : Nat, i ≤ t.confs.length ∧ j = t.confs.length - i ∧ h = Heap.emp ∧ interL (t.confs.drop i) a b = interL t.confs a b ∧
    e = lk [(1, .int .i64 a), (2, .int .i64 b), (3, .rp t.cells 0), (7, .int .i64 i)]) t.confs.length ⟨0, by omega, by omega, rfl, rfl, rfl⟩ ?_
  rintro j e h ⟨i, hi, rfl, rfl, hI, rfl⟩ k2 hn2 hx2
  repeat' (first | refine wpL_seq ?_ | refine wpL_skip ?_ | refine wpL_label ?_ | refine wpL_scope ?_)
  refine wpL_region' [1, 2, 3, 7, 13] fun q hq => ?_
  simp -implicitDefEqProofs (disch := omega) only [go_sem, Int.reduceEq, Int.reduceLT, Int.reduceLE, Int.reduceToNat, Int.reduceNeg, Int.reduceAdd, Int.reduceSub, Nat.reduceEqDiff, Nat.reduceAdd, Nat.reduceMul, Nat.reduceLeDiff, Nat.reduceSub, ↓reduceIte, reduceCtorEq, Tables.cells, List.length_map, hb3]
  repeat (refine And.intro (by omega) ?_)
  refine hq _ _ _ (by simp only [pickL, lk_cons, Nat.reduceEqDiff, ↓reduceIte]; exact rfl) ?_
  clear hq q
  repeat' (first | refine wpL_seq ?_ | refine wpL_skip ?_ | refine wpL_label ?_ | refine wpL_scope ?_)
  refine wpL_cond rfl (fun hc3 => ?_) (fun hc3 => ?_)
  · simp at hc3
    obtain ⟨c, hci⟩ := get_of_lt hc3
    rw [drop_get hci, interL] at hI
    repeat' (first | refine wpL_seq ?_ | refine wpL_skip ?_ | refine wpL_label ?_ | refine wpL_scope ?_)
    refine wpL_block fun k4 hn4 hx4 ho4 => ?_
    repeat' (first | refine wpL_seq ?_ | refine wpL_skip ?_ | refine wpL_label ?_ | refine wpL_scope ?_)
    refine wpL_region' [1, 2, 3, 7, 8] fun q hq => ?_
    simp -implicitDefEqProofs (disch := omega) only [go_sem, Int.reduceEq, Int.reduceLT, Int.reduceLE, Int.reduceToNat, Int.reduceNeg, Int.reduceAdd, Int.reduceSub, Nat.reduceEqDiff, Nat.reduceAdd, Nat.reduceMul, Nat.reduceLeDiff, Nat.reduceSub, ↓reduceIte, reduceCtorEq, Tables.cells, List.length_map, hci, Conf.cells, hb3]
    repeat (refine And.intro (by omega) ?_)
    refine gN_new fun b8 hb8 => ?_
    try simp only [newIn_put, newIn_upd] at hb8
    simp -implicitDefEqProofs (disch := omega) only [go_sem, Int.reduceEq, Int.reduceLT, Int.reduceLE, Int.reduceToNat, Int.reduceNeg, Int.reduceAdd, Int.reduceSub, Nat.reduceEqDiff, Nat.reduceAdd, Nat.reduceMul, Nat.reduceLeDiff, Nat.reduceSub, ↓reduceIte, reduceCtorEq, Tables.cells, List.length_map, hci, Conf.cells, hb3, hb8]
    repeat (refine And.intro (by omega) ?_)
    refine hq _ _ _ (by simp only [pickL, lk_cons, Nat.reduceEqDiff, ↓reduceIte]; exact rfl) ?_
    clear hq q
    refine wpL_frzP' 8 rfl (by simp only [go_sem, hb8, hb3, hb8]; exact rfl) rfl (by simp only [go_sem, Int.reduceEq, Int.reduceLT, Int.reduceLE, Int.reduceToNat, Int.reduceNeg, Int.reduceAdd, Int.reduceSub, Nat.reduceEqDiff, Nat.reduceAdd, Nat.reduceMul, Nat.reduceLeDiff, Nat.reduceSub, ↓reduceIte, reduceCtorEq]; exact rfl) (by simp only [go_sem, hb8, hb3, hb8]; exact rfl) ?_
    repeat' (first | refine wpL_seq ?_ | refine wpL_skip ?_ | refine wpL_label ?_ | refine wpL_scope ?_)
    refine wpL_regV [1, 2, 3, 7, 8] 30 (.bool (decide (c.a = a ∧ c.b = b))) (by simp only [pickL, put, lk_cons, Int.reduceEq, Int.reduceLT, Int.reduceLE, Int.reduceToNat, Int.reduceNeg, Int.reduceAdd, Int.reduceSub, Nat.reduceEqDiff, Nat.reduceAdd, Nat.reduceMul, Nat.reduceLeDiff, Nat.reduceSub, ↓reduceIte, reduceCtorEq, if_true, if_false]; exact rfl) (by decide) ?_ ?_
    · simp -implicitDefEqProofs (disch := omega) only [go_sem, Int.reduceEq, Int.reduceLT, Int.reduceLE, Int.reduceToNat, Int.reduceNeg, Int.reduceAdd, Int.reduceSub, Nat.reduceEqDiff, Nat.reduceAdd, Nat.reduceMul, Nat.reduceLeDiff, Nat.reduceSub, ↓reduceIte, reduceCtorEq, hb3, hb8]
      repeat' (first | (refine gN_split2 (fun hs => ?_) (fun hs => ?_) <;> simp -implicitDefEqProofs (disch := omega) only [go_sem, Int.reduceEq, Int.reduceLT, Int.reduceLE, Int.reduceToNat, Int.reduceNeg, Int.reduceAdd, Int.reduceSub, Nat.reduceEqDiff, Nat.reduceAdd, Nat.reduceMul, Nat.reduceLeDiff, Nat.reduceSub, ↓reduceIte, reduceCtorEq, hs, hb3, hb8]) | simp -implicitDefEqProofs (disch := omega) only [go_sem, Int.reduceEq, Int.reduceLT, Int.reduceLE, Int.reduceToNat, Int.reduceNeg, Int.reduceAdd, Int.reduceSub, Nat.reduceEqDiff, Nat.reduceAdd, Nat.reduceMul, Nat.reduceLeDiff, Nat.reduceSub, ↓reduceIte, reduceCtorEq, hb3, hb8] | refine And.intro (by omega) ?_)
      all_goals (try clear hK'; try clear hn1; try clear hx1; try clear ho1; try clear hn2; try clear hx2; try clear hn4; try clear hx4; try clear ho4)
      all_goals (simp_all)
    repeat' (first | refine wpL_seq ?_ | refine wpL_skip ?_ | refine wpL_label ?_ | refine wpL_scope ?_)
    refine wpL_cond rfl (fun hc5 => ?_) (fun hc5 => ?_)
    · simp at hc5
      rw [if_pos hc5] at hI
      repeat' (first | refine wpL_seq ?_ | refine wpL_skip ?_ | refine wpL_label ?_ | refine wpL_scope ?_)
      refine wpL_region' [6] fun q hq => ?_
      simp -implicitDefEqProofs (disch := omega) only [go_sem, Int.reduceEq, Int.reduceLT, Int.reduceLE, Int.reduceToNat, Int.reduceNeg, Int.reduceAdd, Int.reduceSub, Nat.reduceEqDiff, Nat.reduceAdd, Nat.reduceMul, Nat.reduceLeDiff, Nat.reduceSub, ↓reduceIte, reduceCtorEq, hb3, hb8]
      repeat (refine And.intro (by omega) ?_)
      refine hq _ _ _ (by simp only [pickL, lk_cons, Nat.reduceEqDiff, ↓reduceIte]; exact rfl) ?_
      clear hq q
      repeat' (first | refine wpL_seq ?_ | refine wpL_skip ?_ | refine wpL_label ?_ | refine wpL_scope ?_)
      refine wpL_ret (ho4 _ _ _ (by simp) (by simp) (hx2 _ _ _ (by simp) (ho1 _ _ _ (by simp) (by simp) (hK' _ _ _ _ (.inr rfl) (resTo (rs' := [.tmp 6]) rfl (by simp only [go_sem, Int.reduceEq, Int.reduceLT, Int.reduceLE, Int.reduceToNat, Int.reduceNeg, Int.reduceAdd, Int.reduceSub, Nat.reduceEqDiff, Nat.reduceAdd, Nat.reduceMul, Nat.reduceLeDiff, Nat.reduceSub, ↓reduceIte, reduceCtorEq, hb3, hb8]; exact rfl)) ?_))))
      rw [hI]
    simp only [decide_eq_false_iff_not] at hc5
    rw [if_neg hc5] at hI
    repeat' (first | refine wpL_seq ?_ | refine wpL_skip ?_ | refine wpL_label ?_ | refine wpL_scope ?_)
    refine wpL_regV [1, 2, 3, 7, 8] 42 (.bool (decide (c.a = b ∧ c.b = a))) (by simp only [pickL, put, lk_cons, Int.reduceEq, Int.reduceLT, Int.reduceLE, Int.reduceToNat, Int.reduceNeg, Int.reduceAdd, Int.reduceSub, Nat.reduceEqDiff, Nat.reduceAdd, Nat.reduceMul, Nat.reduceLeDiff, Nat.reduceSub, ↓reduceIte, reduceCtorEq, if_true, if_false]; exact rfl) (by decide) ?_ ?_
    · simp -implicitDefEqProofs (disch := omega) only [go_sem, Int.reduceEq, Int.reduceLT, Int.reduceLE, Int.reduceToNat, Int.reduceNeg, Int.reduceAdd, Int.reduceSub, Nat.reduceEqDiff, Nat.reduceAdd, Nat.reduceMul, Nat.reduceLeDiff, Nat.reduceSub, ↓reduceIte, reduceCtorEq, hb3, hb8]
      repeat' (first | (refine gN_split2 (fun hs => ?_) (fun hs => ?_) <;> simp -implicitDefEqProofs (disch := omega) only [go_sem, Int.reduceEq, Int.reduceLT, Int.reduceLE, Int.reduceToNat, Int.reduceNeg, Int.reduceAdd, Int.reduceSub, Nat.reduceEqDiff, Nat.reduceAdd, Nat.reduceMul, Nat.reduceLeDiff, Nat.reduceSub, ↓reduceIte, reduceCtorEq, hs, hb3, hb8]) | simp -implicitDefEqProofs (disch := omega) only [go_sem, Int.reduceEq, Int.reduceLT, Int.reduceLE, Int.reduceToNat, Int.reduceNeg, Int.reduceAdd, Int.reduceSub, Nat.reduceEqDiff, Nat.reduceAdd, Nat.reduceMul, Nat.reduceLeDiff, Nat.reduceSub, ↓reduceIte, reduceCtorEq, hb3, hb8] | refine And.intro (by omega) ?_)
      all_goals (try clear hK'; try clear hn1; try clear hx1; try clear ho1; try clear hn2; try clear hx2; try clear hn4; try clear hx4; try clear ho4)
      all_goals (simp_all)
    repeat' (first | refine wpL_seq ?_ | refine wpL_skip ?_ | refine wpL_label ?_ | refine wpL_scope ?_)
    refine wpL_cond rfl (fun hc6 => ?_) (fun hc6 => ?_)
    · simp at hc6
      rw [if_pos hc6] at hI
      repeat' (first | refine wpL_seq ?_ | refine wpL_skip ?_ | refine wpL_label ?_ | refine wpL_scope ?_)
      refine wpL_region' [6] fun q hq => ?_
      simp -implicitDefEqProofs (disch := omega) only [go_sem, Int.reduceEq, Int.reduceLT, Int.reduceLE, Int.reduceToNat, Int.reduceNeg, Int.reduceAdd, Int.reduceSub, Nat.reduceEqDiff, Nat.reduceAdd, Nat.reduceMul, Nat.reduceLeDiff, Nat.reduceSub, ↓reduceIte, reduceCtorEq, hb3, hb8]
      repeat (refine And.intro (by omega) ?_)
      refine hq _ _ _ (by simp only [pickL, lk_cons, Nat.reduceEqDiff, ↓reduceIte]; exact rfl) ?_
      clear hq q
      repeat' (first | refine wpL_seq ?_ | refine wpL_skip ?_ | refine wpL_label ?_ | refine wpL_scope ?_)
      refine wpL_ret (ho4 _ _ _ (by simp) (by simp) (hx2 _ _ _ (by simp) (ho1 _ _ _ (by simp) (by simp) (hK' _ _ _ _ (.inr rfl) (resTo (rs' := [.tmp 6]) rfl (by simp only [go_sem, Int.reduceEq, Int.reduceLT, Int.reduceLE, Int.reduceToNat, Int.reduceNeg, Int.reduceAdd, Int.reduceSub, Nat.reduceEqDiff, Nat.reduceAdd, Nat.reduceMul, Nat.reduceLeDiff, Nat.reduceSub, ↓reduceIte, reduceCtorEq, hb3, hb8]; exact rfl)) ?_))))
      rw [hI]
    simp only [decide_eq_false_iff_not] at hc6
    rw [if_neg hc6] at hI
    repeat' (first | refine wpL_seq ?_ | refine wpL_skip ?_ | refine wpL_label ?_ | refine wpL_scope ?_)
    refine wpL_nil (hn4 _ _ ?_)
    repeat' (first | refine wpL_seq ?_ | refine wpL_skip ?_ | refine wpL_label ?_ | refine wpL_scope ?_)
    refine wpL_region' [1, 2, 3, 7] fun q hq => ?_
    simp -implicitDefEqProofs (disch := omega) only [go_sem, Int.reduceEq, Int.reduceLT, Int.reduceLE, Int.reduceToNat, Int.reduceNeg, Int.reduceAdd, Int.reduceSub, Nat.reduceEqDiff, Nat.reduceAdd, Nat.reduceMul, Nat.reduceLeDiff, Nat.reduceSub, ↓reduceIte, reduceCtorEq, hb3, hb8]
    repeat (refine And.intro (by omega) ?_)
    refine hq _ _ _ (by simp only [pickL, lk_cons, Nat.reduceEqDiff, ↓reduceIte]; exact rfl) ?_
    clear hq q
    repeat' (first | refine wpL_seq ?_ | refine wpL_skip ?_ | refine wpL_label ?_ | refine wpL_scope ?_)
    exact wpL_nil (hn2 (t.confs.length - (i + 1)) _ _ (by omega) ⟨i + 1, by omega, by omega, rfl, hI, rfl⟩)
  simp at hc3
  rw [List.drop_eq_nil_of_le (by omega), interL] at hI
  repeat' (first | refine wpL_seq ?_ | refine wpL_skip ?_ | refine wpL_label ?_ | refine wpL_scope ?_)
  refine wpL_exit (hx2 _ _ _ (by simp) (hx1 _ _ ?_))
  repeat' (first | refine wpL_seq ?_ | refine wpL_skip ?_ | refine wpL_label ?_ | refine wpL_scope ?_)
  refine wpL_region' [6] fun q hq => ?_
  simp -implicitDefEqProofs (disch := omega) only [go_sem, Int.reduceEq, Int.reduceLT, Int.reduceLE, Int.reduceToNat, Int.reduceNeg, Int.reduceAdd, Int.reduceSub, Nat.reduceEqDiff, Nat.reduceAdd, Nat.reduceMul, Nat.reduceLeDiff, Nat.reduceSub, ↓reduceIte, reduceCtorEq, hb3]
  repeat (refine And.intro (by omega) ?_)
  refine hq _ _ _ (by simp only [pickL, lk_cons, Nat.reduceEqDiff, ↓reduceIte]; exact rfl) ?_
  clear hq q
  repeat' (first | refine wpL_seq ?_ | refine wpL_skip ?_ | refine wpL_label ?_ | refine wpL_scope ?_)
  refine wpL_ret (hK' _ _ _ _ (.inr rfl) (resTo (rs' := [.tmp 6]) rfl (by simp only [go_sem, Int.reduceEq, Int.reduceLT, Int.reduceLE, Int.reduceToNat, Int.reduceNeg, Int.reduceAdd, Int.reduceSub, Nat.reduceEqDiff, Nat.reduceAdd, Nat.reduceMul, Nat.reduceLeDiff, Nat.reduceSub, ↓reduceIte, reduceCtorEq, hb3]; exact rfl)) ?_)
  rw [hI]
def freeFrom (cs : List Conf) (aw : List Int) (g : Int) : Nat → List Int → Bool
  | o, n :: l => (decide (interL cs o g < 0) || (decide (n = 0) && decide (interL cs o g ≤ aw.getD o 0))) && freeFrom cs aw g (o + 1) l
  | _, [] => true
theorem f51_free (t : Tables) (h : Hd) (now : List Int) (g : Int) (hc : t.confs.length ≤ 9223372036854775806) (hl : now.length = h.away.length) (hn : now.length ≤ 64) (hI : I32 h) :
    wpP Try.prog 51 [t.av, h.av, .rs 1 (now.map (c1 .i64)), .int .i64 g] (.bool (freeFrom t.confs h.away g 0 now)) := by
  refine wpP_intro ?_
  refine wpH_intro (fn := Try.f51) rfl rfl (by decide) (by kernel_rfl) fun K' hK' => ?_
  repeat' (first | refine wpL_seq ?_ | refine wpL_skip ?_ | refine wpL_label ?_ | refine wpL_scope ?_)
  refine wpL_region' [2, 3, 4, 5] fun q hq => ?_
  simp -implicitDefEqProofs (disch := omega) only [go_sem, Int.reduceEq, Int.reduceLT, Int.reduceLE, Int.reduceToNat, Int.reduceNeg, Int.reduceAdd, Int.reduceSub, Nat.reduceEqDiff, Nat.reduceAdd, Nat.reduceMul, Nat.reduceLeDiff, Nat.reduceSub, ↓reduceIte, reduceCtorEq, Tables.av, Tables.cells, Hd.av, Hd.cells]
  repeat (refine And.intro (by omega) ?_)
  refine gN_new fun b4 hb4 => ?_
  try simp only [newIn_put, newIn_upd] at hb4
  simp -implicitDefEqProofs (disch := omega) only [go_sem, Int.reduceEq, Int.reduceLT, Int.reduceLE, Int.reduceToNat, Int.reduceNeg, Int.reduceAdd, Int.reduceSub, Nat.reduceEqDiff, Nat.reduceAdd, Nat.reduceMul, Nat.reduceLeDiff, Nat.reduceSub, ↓reduceIte, reduceCtorEq, Tables.av, Tables.cells, Hd.av, Hd.cells, hb4]
  repeat (refine And.intro (by omega) ?_)
  refine gN_new fun b5 hb5 => ?_
  try simp only [newIn_put, newIn_upd] at hb5
  simp -implicitDefEqProofs (disch := omega) only [go_sem, Int.reduceEq, Int.reduceLT, Int.reduceLE, Int.reduceToNat, Int.reduceNeg, Int.reduceAdd, Int.reduceSub, Nat.reduceEqDiff, Nat.reduceAdd, Nat.reduceMul, Nat.reduceLeDiff, Nat.reduceSub, ↓reduceIte, reduceCtorEq, Tables.av, Tables.cells, Hd.av, Hd.cells, hb4, hb5]
  repeat (refine And.intro (by omega) ?_)
  refine hq _ _ _ (by simp only [pickL, lk_cons, Nat.reduceEqDiff, ↓reduceIte]; exact rfl) ?_
  clear hq q
  refine wpL_frzP' 4 rfl (by simp only [go_sem, hb4, hb5]; exact rfl) rfl (by simp only [go_sem, Int.reduceEq, Int.reduceLT, Int.reduceLE, Int.reduceToNat, Int.reduceNeg, Int.reduceAdd, Int.reduceSub, Nat.reduceEqDiff, Nat.reduceAdd, Nat.reduceMul, Nat.reduceLeDiff, Nat.reduceSub, ↓reduceIte, reduceCtorEq]; exact rfl) (by simp only [go_sem, hb4, hb5]; exact rfl) ?_
  refine wpL_frzP' 5 rfl (by simp only [go_sem, hb4, hb5]; exact rfl) rfl (by simp only [go_sem, Int.reduceEq, Int.reduceLT, Int.reduceLE, Int.reduceToNat, Int.reduceNeg, Int.reduceAdd, Int.reduceSub, Nat.reduceEqDiff, Nat.reduceAdd, Nat.reduceMul, Nat.reduceLeDiff, Nat.reduceSub, ↓reduceIte, reduceCtorEq]; exact rfl) (by simp only [go_sem, hb4, hb5]; exact rfl) ?_
  repeat' (first | refine wpL_seq ?_ | refine wpL_skip ?_ | refine wpL_label ?_ | refine wpL_scope ?_)
  refine wpL_region' [2, 3, 4, 5, 9] fun q hq => ?_
  simp -implicitDefEqProofs (disch := omega) only [go_sem, Int.reduceEq, Int.reduceLT, Int.reduceLE, Int.reduceToNat, Int.reduceNeg, Int.reduceAdd, Int.reduceSub, Nat.reduceEqDiff, Nat.reduceAdd, Nat.reduceMul, Nat.reduceLeDiff, Nat.reduceSub, ↓reduceIte, reduceCtorEq, hb4, hb5]
  repeat (refine And.intro (by omega) ?_)
  refine hq _ _ _ (by simp only [pickL, lk_cons, Nat.reduceEqDiff, ↓reduceIte]; exact rfl) ?_
  clear hq q
  repeat' (first | refine wpL_seq ?_ | refine wpL_skip ?_ | refine wpL_label ?_ | refine wpL_scope ?_)
  refine wpL_block fun k1 hn1 hx1 ho1 => ?_
  refine wpL_loop (fun j e H => ∃ i : Nat, i ≤ now.length ∧ j = now.length - i ∧ H = Heap.emp ∧ freeFrom t.confs h.away g i (now.drop i) = freeFrom t.confs h.away g 0 now ∧
    e = lk [(2, .rs 1 (now.map (c1 .i64))), (3, .int .i64 g), (4, .rp t.cells 0), (5, .rp h.cells 0), (9, .int .i64 i)]) now.length ⟨0, by omega, by omega, rfl, rfl, rfl⟩ ?_
  rintro j e H ⟨i, hi, rfl, rfl, hP, rfl⟩ k2 hn2 hx2
  repeat' (first | refine wpL_seq ?_ | refine wpL_skip ?_ | refine wpL_label ?_ | refine wpL_scope ?_)
  refine wpL_region' [2, 3, 4, 5, 9, 14] fun q hq => ?_
  simp -implicitDefEqProofs (disch := omega) only [go_sem, Int.reduceEq, Int.reduceLT, Int.reduceLE, Int.reduceToNat, Int.reduceNeg, Int.reduceAdd, Int.reduceSub, Nat.reduceEqDiff, Nat.reduceAdd, Nat.reduceMul, Nat.reduceLeDiff, Nat.reduceSub, ↓reduceIte, reduceCtorEq, List.length_map, hb4, hb5]
  repeat (refine And.intro (by omega) ?_)
  refine hq _ _ _ (by simp only [pickL, lk_cons, Nat.reduceEqDiff, ↓reduceIte]; exact rfl) ?_
  clear hq q
  repeat' (first | refine wpL_seq ?_ | refine wpL_skip ?_ | refine wpL_label ?_ | refine wpL_scope ?_)
  refine wpL_cond rfl (fun hc3 => ?_) (fun hc3 => ?_)
  · simp at hc3
    obtain ⟨n, hni⟩ := get_of_lt hc3
    obtain ⟨y, hy⟩ := get_of_lt (show i < h.away.length by omega)
    have hyr := hI.w y (List.mem_of_getElem? hy)
    have hyd : h.away.getD i 0 = y := by rw [List.getD_eq_getElem?_getD, hy]; rfl
    rw [drop_get hni, freeFrom, hyd] at hP
    repeat' (first | refine wpL_seq ?_ | refine wpL_skip ?_ | refine wpL_label ?_ | refine wpL_scope ?_)
    refine wpL_block fun k4 hn4 hx4 ho4 => ?_
    repeat' (first | refine wpL_seq ?_ | refine wpL_skip ?_ | refine wpL_label ?_ | refine wpL_scope ?_)
    refine wpL_region' [2, 3, 4, 5, 9, 10] fun q hq => ?_
    simp -implicitDefEqProofs (disch := omega) only [go_sem, Int.reduceEq, Int.reduceLT, Int.reduceLE, Int.reduceToNat, Int.reduceNeg, Int.reduceAdd, Int.reduceSub, Nat.reduceEqDiff, Nat.reduceAdd, Nat.reduceMul, Nat.reduceLeDiff, Nat.reduceSub, ↓reduceIte, reduceCtorEq, Tables.cells, hb4, hb5]
    repeat (refine And.intro (by omega) ?_)
    refine gN_callP (f57_inter t i g hc) ?_
    simp -implicitDefEqProofs (disch := omega) only [go_sem, Int.reduceEq, Int.reduceLT, Int.reduceLE, Int.reduceToNat, Int.reduceNeg, Int.reduceAdd, Int.reduceSub, Nat.reduceEqDiff, Nat.reduceAdd, Nat.reduceMul, Nat.reduceLeDiff, Nat.reduceSub, ↓reduceIte, reduceCtorEq, Tables.cells, hb4, hb5]
    repeat (refine And.intro (by omega) ?_)
    refine hq _ _ _ (by simp only [pickL, lk_cons, Nat.reduceEqDiff, ↓reduceIte]; exact rfl) ?_
    clear hq q
    generalize interL t.confs i g = K at hP
    repeat' (first | refine wpL_seq ?_ | refine wpL_skip ?_ | refine wpL_label ?_ | refine wpL_scope ?_)
    refine wpL_regV [2, 3, 4, 5, 9] 39 (.bool (!(decide (K < 0) || (decide (n = 0) && decide (K ≤ y))))) (by simp only [pickL, put, lk_cons, Int.reduceEq, Int.reduceLT, Int.reduceLE, Int.reduceToNat, Int.reduceNeg, Int.reduceAdd, Int.reduceSub, Nat.reduceEqDiff, Nat.reduceAdd, Nat.reduceMul, Nat.reduceLeDiff, Nat.reduceSub, ↓reduceIte, reduceCtorEq, if_true, if_false]; exact rfl) (by decide) ?_ ?_
    · simp -implicitDefEqProofs (disch := omega) only [go_sem, Int.reduceEq, Int.reduceLT, Int.reduceLE, Int.reduceToNat, Int.reduceNeg, Int.reduceAdd, Int.reduceSub, Nat.reduceEqDiff, Nat.reduceAdd, Nat.reduceMul, Nat.reduceLeDiff, Nat.reduceSub, ↓reduceIte, reduceCtorEq, List.length_map, hni, hy, c1, Hd.cells, hb4, hb5]
      repeat' (first | (refine gN_split2 (fun hs => ?_) (fun hs => ?_) <;> simp -implicitDefEqProofs (disch := omega) only [go_sem, Int.reduceEq, Int.reduceLT, Int.reduceLE, Int.reduceToNat, Int.reduceNeg, Int.reduceAdd, Int.reduceSub, Nat.reduceEqDiff, Nat.reduceAdd, Nat.reduceMul, Nat.reduceLeDiff, Nat.reduceSub, ↓reduceIte, reduceCtorEq, hs, List.length_map, hni, hy, c1, Hd.cells, hb4, hb5]) | simp -implicitDefEqProofs (disch := omega) only [go_sem, Int.reduceEq, Int.reduceLT, Int.reduceLE, Int.reduceToNat, Int.reduceNeg, Int.reduceAdd, Int.reduceSub, Nat.reduceEqDiff, Nat.reduceAdd, Nat.reduceMul, Nat.reduceLeDiff, Nat.reduceSub, ↓reduceIte, reduceCtorEq, List.length_map, hni, hy, c1, Hd.cells, hb4, hb5] | refine And.intro (by omega) ?_)
      all_goals (try clear hK'; try clear hn1; try clear hx1; try clear ho1; try clear hn2; try clear hx2; try clear hn4; try clear hx4; try clear ho4)
      all_goals ((first | omega | (clear hP hyd; grind)))
    repeat' (first | refine wpL_seq ?_ | refine wpL_skip ?_ | refine wpL_label ?_ | refine wpL_scope ?_)
    refine wpL_cond rfl (fun hc5 => ?_) (fun hc5 => ?_)
    · simp only [Bool.not_eq_true'] at hc5
      rw [hc5] at hP
      repeat' (first | refine wpL_seq ?_ | refine wpL_skip ?_ | refine wpL_label ?_ | refine wpL_scope ?_)
      refine wpL_region' [8] fun q hq => ?_
      simp -implicitDefEqProofs (disch := omega) only [go_sem, Int.reduceEq, Int.reduceLT, Int.reduceLE, Int.reduceToNat, Int.reduceNeg, Int.reduceAdd, Int.reduceSub, Nat.reduceEqDiff, Nat.reduceAdd, Nat.reduceMul, Nat.reduceLeDiff, Nat.reduceSub, ↓reduceIte, reduceCtorEq, hb4, hb5]
      repeat (refine And.intro (by omega) ?_)
      refine hq _ _ _ (by simp only [pickL, lk_cons, Nat.reduceEqDiff, ↓reduceIte]; exact rfl) ?_
      clear hq q
      repeat' (first | refine wpL_seq ?_ | refine wpL_skip ?_ | refine wpL_label ?_ | refine wpL_scope ?_)
      refine wpL_ret (ho4 _ _ _ (by simp) (by simp) (hx2 _ _ _ (by simp) (ho1 _ _ _ (by simp) (by simp) (hK' _ _ _ _ (.inr rfl) (resTo (rs' := [.tmp 8]) rfl (by simp only [go_sem, Int.reduceEq, Int.reduceLT, Int.reduceLE, Int.reduceToNat, Int.reduceNeg, Int.reduceAdd, Int.reduceSub, Nat.reduceEqDiff, Nat.reduceAdd, Nat.reduceMul, Nat.reduceLeDiff, Nat.reduceSub, ↓reduceIte, reduceCtorEq, hb4, hb5]; exact rfl)) ?_))))
      rw [← hP]; rfl
    simp only [Bool.not_eq_false'] at hc5
    rw [hc5, Bool.true_and] at hP
    repeat' (first | refine wpL_seq ?_ | refine wpL_skip ?_ | refine wpL_label ?_ | refine wpL_scope ?_)
    refine wpL_nil (hn4 _ _ ?_)
    repeat' (first | refine wpL_seq ?_ | refine wpL_skip ?_ | refine wpL_label ?_ | refine wpL_scope ?_)
    refine wpL_region' [2, 3, 4, 5, 9] fun q hq => ?_
    simp -implicitDefEqProofs (disch := omega) only [go_sem, Int.reduceEq, Int.reduceLT, Int.reduceLE, Int.reduceToNat, Int.reduceNeg, Int.reduceAdd, Int.reduceSub, Nat.reduceEqDiff, Nat.reduceAdd, Nat.reduceMul, Nat.reduceLeDiff, Nat.reduceSub, ↓reduceIte, reduceCtorEq, hb4, hb5]
    repeat (refine And.intro (by omega) ?_)
    refine hq _ _ _ (by simp only [pickL, lk_cons, Nat.reduceEqDiff, ↓reduceIte]; exact rfl) ?_
    clear hq q
    repeat' (first | refine wpL_seq ?_ | refine wpL_skip ?_ | refine wpL_label ?_ | refine wpL_scope ?_)
    exact wpL_nil (hn2 (now.length - (i + 1)) _ _ (by omega) ⟨i + 1, by omega, by omega, rfl, hP, rfl⟩)
  simp at hc3
  rw [List.drop_eq_nil_of_le (by omega), freeFrom] at hP
  repeat' (first | refine wpL_seq ?_ | refine wpL_skip ?_ | refine wpL_label ?_ | refine wpL_scope ?_)
  refine wpL_exit (hx2 _ _ _ (by simp) (hx1 _ _ ?_))
  repeat' (first | refine wpL_seq ?_ | refine wpL_skip ?_ | refine wpL_label ?_ | refine wpL_scope ?_)
  refine wpL_region' [8] fun q hq => ?_
  simp -implicitDefEqProofs (disch := omega) only [go_sem, Int.reduceEq, Int.reduceLT, Int.reduceLE, Int.reduceToNat, Int.reduceNeg, Int.reduceAdd, Int.reduceSub, Nat.reduceEqDiff, Nat.reduceAdd, Nat.reduceMul, Nat.reduceLeDiff, Nat.reduceSub, ↓reduceIte, reduceCtorEq, hb4, hb5]
  repeat (refine And.intro (by omega) ?_)
  refine hq _ _ _ (by simp only [pickL, lk_cons, Nat.reduceEqDiff, ↓reduceIte]; exact rfl) ?_
  clear hq q
  repeat' (first | refine wpL_seq ?_ | refine wpL_skip ?_ | refine wpL_label ?_ | refine wpL_scope ?_)
  refine wpL_ret (hK' _ _ _ _ (.inr rfl) (resTo (rs' := [.tmp 8]) rfl (by simp only [go_sem, Int.reduceEq, Int.reduceLT, Int.reduceLE, Int.reduceToNat, Int.reduceNeg, Int.reduceAdd, Int.reduceSub, Nat.reduceEqDiff, Nat.reduceAdd, Nat.reduceMul, Nat.reduceLeDiff, Nat.reduceSub, ↓reduceIte, reduceCtorEq, hb4, hb5]; exact rfl)) ?_)
  rw [← hP]
end Go.Proofs.Ytdchdlabdokjnaa.Am.H
