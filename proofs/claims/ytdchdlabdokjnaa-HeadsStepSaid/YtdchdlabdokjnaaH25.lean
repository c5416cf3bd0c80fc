/- Runs: the reference's. -/
import Derived.Test.YtdchdlabdokjnaaH24
namespace Go.Proofs.Ytdchdlabdokjnaa.Am.H
set_option linter.unusedSectionVars false
open Go Go.Proofs Am
set_option linter.unusedVariables false
set_option linter.unusedSimpArgs false
set_option maxRecDepth 100000
attribute [local irreducible] gO gN gW gdO

theorem f32_start (t : Tables) (ht : SmallT t) : wpP Try.prog 32 [t.av] (startAV t) := by
  have h1 := ht.g
  have h2 := ht.c
  refine wpP_frzW ?_
  refine wpH_intro (fn := Try.f32) rfl rfl (by decide) (by kernel_rfl) fun K' hK' => ?_
  repeat' (first | refine wpL_seq ?_ | refine wpL_skip ?_ | refine wpL_label ?_ | refine wpL_scope ?_)
  refine wpL_region' [1, 2] fun q hq => ?_
  simp -implicitDefEqProofs (disch := omega) only [go_sem, Int.reduceEq, Int.reduceLT, Int.reduceLE, Int.reduceToNat, Int.reduceNeg, Int.reduceAdd, Int.reduceSub, Nat.reduceEqDiff, Nat.reduceAdd, Nat.reduceMul, Nat.reduceLeDiff, Nat.reduceSub, ↓reduceIte, reduceCtorEq, Tables.av, Tables.cells]
  repeat (refine And.intro (by omega) ?_)
  refine gN_new fun b1 hb1 => ?_
  try simp only [newIn_put, newIn_upd] at hb1
  simp -implicitDefEqProofs (disch := omega) only [go_sem, Int.reduceEq, Int.reduceLT, Int.reduceLE, Int.reduceToNat, Int.reduceNeg, Int.reduceAdd, Int.reduceSub, Nat.reduceEqDiff, Nat.reduceAdd, Nat.reduceMul, Nat.reduceLeDiff, Nat.reduceSub, ↓reduceIte, reduceCtorEq, Tables.av, Tables.cells, hb1]
  repeat (refine And.intro (by omega) ?_)
  refine gN_new fun b2 hb2 => ?_
  try simp only [newIn_put, newIn_upd] at hb2
  simp -implicitDefEqProofs (disch := omega) only [go_sem, Int.reduceEq, Int.reduceLT, Int.reduceLE, Int.reduceToNat, Int.reduceNeg, Int.reduceAdd, Int.reduceSub, Nat.reduceEqDiff, Nat.reduceAdd, Nat.reduceMul, Nat.reduceLeDiff, Nat.reduceSub, ↓reduceIte, reduceCtorEq, Tables.av, Tables.cells, hb1, hb2]
  repeat (refine And.intro (by omega) ?_)
  refine hq _ _ _ (by simp only [pickL, lk_cons, Nat.reduceEqDiff, ↓reduceIte]; exact rfl) ?_
  clear hq q
  refine wpL_frzP' 1 rfl (by simp only [go_sem, hb1, hb1, hb2]; exact rfl) rfl (by simp only [go_sem, Int.reduceEq, Int.reduceLT, Int.reduceLE, Int.reduceToNat, Int.reduceNeg, Int.reduceAdd, Int.reduceSub, Nat.reduceEqDiff, Nat.reduceAdd, Nat.reduceMul, Nat.reduceLeDiff, Nat.reduceSub, ↓reduceIte, reduceCtorEq]; exact rfl) (by simp only [go_sem, hb1, hb1, hb2]; exact rfl) ?_
  repeat' (first | refine wpL_seq ?_ | refine wpL_skip ?_ | refine wpL_label ?_ | refine wpL_scope ?_)
  refine wpL_region' [1, 2, 8] fun q hq => ?_
  simp -implicitDefEqProofs (disch := omega) only [go_sem, Int.reduceEq, Int.reduceLT, Int.reduceLE, Int.reduceToNat, Int.reduceNeg, Int.reduceAdd, Int.reduceSub, Nat.reduceEqDiff, Nat.reduceAdd, Nat.reduceMul, Nat.reduceLeDiff, Nat.reduceSub, ↓reduceIte, reduceCtorEq, hb2, hb1, hb2]
  repeat (refine And.intro (by omega) ?_)
  refine gN_callP (f26_grid t (by omega) (by omega)) ?_
  simp -implicitDefEqProofs (disch := omega) only [go_sem, Int.reduceEq, Int.reduceLT, Int.reduceLE, Int.reduceToNat, Int.reduceNeg, Int.reduceAdd, Int.reduceSub, Nat.reduceEqDiff, Nat.reduceAdd, Nat.reduceMul, Nat.reduceLeDiff, Nat.reduceSub, ↓reduceIte, reduceCtorEq, hb2, hb1, hb2]
  repeat (refine And.intro (by omega) ?_)
  refine hq _ _ _ (by simp only [pickL, lk_cons, Nat.reduceEqDiff, ↓reduceIte]; exact rfl) ?_
  clear hq q
  repeat' (first | refine wpL_seq ?_ | refine wpL_skip ?_ | refine wpL_label ?_ | refine wpL_scope ?_)
  refine wpL_cond rfl (fun hc1 => ?_) (fun hc1 => ?_)
  · repeat' (first | refine wpL_seq ?_ | refine wpL_skip ?_ | refine wpL_label ?_ | refine wpL_scope ?_)
    refine wpL_region' [2, 3] fun q hq => ?_
    simp -implicitDefEqProofs (disch := omega) only [go_sem, Int.reduceEq, Int.reduceLT, Int.reduceLE, Int.reduceToNat, Int.reduceNeg, Int.reduceAdd, Int.reduceSub, Nat.reduceEqDiff, Nat.reduceAdd, Nat.reduceMul, Nat.reduceLeDiff, Nat.reduceSub, ↓reduceIte, reduceCtorEq, hb2, hb1, hb2]
    repeat (refine And.intro (by omega) ?_)
    refine hq _ _ _ (by simp only [pickL, lk_cons, Nat.reduceEqDiff, ↓reduceIte]; exact rfl) ?_
    clear hq q
    repeat' (first | refine wpL_seq ?_ | refine wpL_skip ?_ | refine wpL_label ?_ | refine wpL_scope ?_)
    refine wpL_ret (hK' _ _ _ _ (.inr rfl) (resTo (rs' := [.cell 2 29, .tmp 3]) rfl (by simp only [go_sem, Int.reduceEq, Int.reduceLT, Int.reduceLE, Int.reduceToNat, Int.reduceNeg, Int.reduceAdd, Int.reduceSub, Nat.reduceEqDiff, Nat.reduceAdd, Nat.reduceMul, Nat.reduceLeDiff, Nat.reduceSub, ↓reduceIte, reduceCtorEq, hb1, hb2]; exact rfl)) ?_)
    refine ⟨[], .nil, ?_⟩
    simp at hc1
    simp only [frzAll, startAV, hc1]
    exact Wk.tupL (.cons (Wk.aggL (.cons (.snil _) (.cons (.snil _) (.cons (.snil _) .nil)))) (.cons (.refl _) .nil))
  simp at hc1
  have h64 := ok_64 hc1
  repeat' (first | refine wpL_seq ?_ | refine wpL_skip ?_ | refine wpL_label ?_ | refine wpL_scope ?_)
  refine wpL_region' [1, 2, 4] fun q hq => ?_
  simp -implicitDefEqProofs (disch := omega) only [go_sem, Int.reduceEq, Int.reduceLT, Int.reduceLE, Int.reduceToNat, Int.reduceNeg, Int.reduceAdd, Int.reduceSub, Nat.reduceEqDiff, Nat.reduceAdd, Nat.reduceMul, Nat.reduceLeDiff, Nat.reduceSub, ↓reduceIte, reduceCtorEq, hb2, hb1, hb2]
  repeat (refine And.intro (by omega) ?_)
  refine gN_new fun b4 hb4 => ?_
  try simp only [newIn_put, newIn_upd] at hb4
  simp -implicitDefEqProofs (disch := omega) only [go_sem, Int.reduceEq, Int.reduceLT, Int.reduceLE, Int.reduceToNat, Int.reduceNeg, Int.reduceAdd, Int.reduceSub, Nat.reduceEqDiff, Nat.reduceAdd, Nat.reduceMul, Nat.reduceLeDiff, Nat.reduceSub, ↓reduceIte, reduceCtorEq, hb2, hb1, hb2, hb4]
  repeat (refine And.intro (by omega) ?_)
  refine hq _ _ _ (by simp only [pickL, lk_cons, Nat.reduceEqDiff, ↓reduceIte]; exact rfl) ?_
  clear hq q
  refine wpL_vecC b4 0 1 3 (k := ⟨.own, [.snil, .snil, .snil], 29, []⟩) (by simp only [go_sem, hb2, hb4]) rfl fun a0 ha0 => ?_
  simp only [go_sem, hb2, hb4, List.set_cons_zero, List.set_cons_succ] at ha0 ⊢
  refine wpL_vecC b4 1 1 21 (k := ⟨.own, [.sl a0 0 0 1, .snil, .snil], 29, []⟩) (by simp only [go_sem, hb2, hb4, ha0]) rfl fun c0 hc0 => ?_
  simp only [go_sem, hb2, hb4, ha0, List.set_cons_zero, List.set_cons_succ] at hc0 ⊢
  refine wpL_vecC b4 2 1 21 (k := ⟨.own, [.sl a0 0 0 1, .sl c0 0 0 1, .snil], 29, []⟩) (by simp only [go_sem, hb2, hb4, ha0, hc0]) rfl fun d0 hd0 => ?_
  simp only [go_sem, hb2, hb4, ha0, hc0, List.set_cons_zero, List.set_cons_succ] at hd0 ⊢
  repeat' (first | refine wpL_seq ?_ | refine wpL_skip ?_ | refine wpL_label ?_ | refine wpL_scope ?_)
  refine wpL_region' [1, 2, 4, 5] fun q hq => ?_
  simp -implicitDefEqProofs (disch := omega) only [go_sem, Int.reduceEq, Int.reduceLT, Int.reduceLE, Int.reduceToNat, Int.reduceNeg, Int.reduceAdd, Int.reduceSub, Nat.reduceEqDiff, Nat.reduceAdd, Nat.reduceMul, Nat.reduceLeDiff, Nat.reduceSub, ↓reduceIte, reduceCtorEq, hb2, hb4, hb1, hb2, hb4]
  repeat (refine And.intro (by omega) ?_)
  refine hq _ _ _ (by simp only [pickL, lk_cons, Nat.reduceEqDiff, ↓reduceIte]; exact rfl) ?_
  clear hq q
  repeat' (first | refine wpL_seq ?_ | refine wpL_skip ?_ | refine wpL_label ?_ | refine wpL_scope ?_)
  refine wpL_block fun k2 hn2 hx2 ho2 => ?_
  refine wpL_loop (fun j e H => ∃ (i a c d : Nat), i ≤ t.groups.length ∧ j = t.groups.length - i ∧
      ((a = b4) = False ∧ (b4 = a) = False ∧ (a = b2) = False ∧ (b2 = a) = False ∧ NewIn Heap.emp a) ∧
      ((c = a) = False ∧ (a = c) = False ∧ (c = b4) = False ∧ (b4 = c) = False ∧ (c = b2) = False ∧ (b2 = c) = False ∧ NewIn Heap.emp c) ∧
      ((d = c) = False ∧ (c = d) = False ∧ (d = a) = False ∧ (a = d) = False ∧ (d = b4) = False ∧ (b4 = d) = False ∧ (d = b2) = False ∧ (b2 = d) = False ∧ NewIn Heap.emp d) ∧
      H = ((((Heap.emp.put b2 ⟨.own, [.snil, .snil, .snil], 29, []⟩).put b4 ⟨.own, [.sl a 0 i 1, .sl c 0 i 1, .sl d 0 i 1], 29, []⟩).put a ⟨.own, (List.replicate i 0).map ci, 3, []⟩).put c ⟨.own, (List.replicate i 1).map di, 21, []⟩).put d ⟨.own, (List.replicate i 1).map di, 21, []⟩ ∧
      e = lk [(1, .rp t.cells 0), (2, .ptr b2 0), (4, .ptr b4 0), (5, .int .i64 i)]) t.groups.length ⟨0, a0, c0, d0, by omega, by omega, ha0, hc0, hd0, rfl, rfl⟩ ?_
  clear ha0 hc0 hd0
  rintro j e H ⟨i, a, c, d, hi, rfl, ha, hc, hd, rfl, rfl⟩ k3 hn3 hx3
  repeat' (first | refine wpL_seq ?_ | refine wpL_skip ?_ | refine wpL_label ?_ | refine wpL_scope ?_)
  refine wpL_region' [1, 2, 4, 5, 14] fun q hq => ?_
  simp -implicitDefEqProofs (disch := omega) only [go_sem, Int.reduceEq, Int.reduceLT, Int.reduceLE, Int.reduceToNat, Int.reduceNeg, Int.reduceAdd, Int.reduceSub, Nat.reduceEqDiff, Nat.reduceAdd, Nat.reduceMul, Nat.reduceLeDiff, Nat.reduceSub, ↓reduceIte, reduceCtorEq, Tables.cells, List.length_map, hb2, hb4, ha, hc, hd, hb1, hb2, hb4]
  repeat (refine And.intro (by omega) ?_)
  refine hq _ _ _ (by simp only [pickL, lk_cons, Nat.reduceEqDiff, ↓reduceIte]; exact rfl) ?_
  clear hq q
  repeat' (first | refine wpL_seq ?_ | refine wpL_skip ?_ | refine wpL_label ?_ | refine wpL_scope ?_)
  refine wpL_cond rfl (fun hc4 => ?_) (fun hc4 => ?_)
  · simp at hc4
    repeat' (first | refine wpL_seq ?_ | refine wpL_skip ?_ | refine wpL_label ?_ | refine wpL_scope ?_)
    refine wpL_block fun k5 hn5 hx5 ho5 => ?_
    repeat' (first | refine wpL_seq ?_ | refine wpL_skip ?_ | refine wpL_label ?_ | refine wpL_scope ?_)
    refine wpL_region' [1, 2, 4, 5] fun q hq => ?_
    simp -implicitDefEqProofs (disch := omega) only [go_sem, Int.reduceEq, Int.reduceLT, Int.reduceLE, Int.reduceToNat, Int.reduceNeg, Int.reduceAdd, Int.reduceSub, Nat.reduceEqDiff, Nat.reduceAdd, Nat.reduceMul, Nat.reduceLeDiff, Nat.reduceSub, ↓reduceIte, reduceCtorEq, hb2, hb4, ha, hc, hd, hb1, hb2, hb4]
    repeat (refine And.intro (by omega) ?_)
    refine gN_new fun b19 hb19 => ?_
    try simp only [newIn_put, newIn_upd] at hb19
    simp -implicitDefEqProofs (disch := omega) only [go_sem, Int.reduceEq, Int.reduceLT, Int.reduceLE, Int.reduceToNat, Int.reduceNeg, Int.reduceAdd, Int.reduceSub, Nat.reduceEqDiff, Nat.reduceAdd, Nat.reduceMul, Nat.reduceLeDiff, Nat.reduceSub, ↓reduceIte, reduceCtorEq, hb2, hb4, ha, hc, hd, hb1, hb2, hb4, hb19]
    repeat (refine And.intro (by omega) ?_)
    refine gN_appV ti26 rfl ti3 rfl (by decide) (SrcV.sl (by simp only [go_sem, hb2, hb4, ha, hc, hd, hb1, hb2, hb4, hb19] <;> exact rfl) rfl rfl) (by simp only [go_sem, hb2, hb4, ha, hc, hd, hb1, hb2, hb4, hb19] <;> exact rfl) ((by simp)) (by dsimp only; omega) (by simp only [maxInt]; omega) fun b20 hb20 => ?_
    try simp only [go_sem, hb2, hb4, ha, hc, hd, hb1, hb2, hb4, hb19] at hb20
    simp -implicitDefEqProofs (disch := omega) only [go_sem, Int.reduceEq, Int.reduceLT, Int.reduceLE, Int.reduceToNat, Int.reduceNeg, Int.reduceAdd, Int.reduceSub, Nat.reduceEqDiff, Nat.reduceAdd, Nat.reduceMul, Nat.reduceLeDiff, Nat.reduceSub, ↓reduceIte, reduceCtorEq, hb2, hb4, ha, hc, hd, hb1, hb2, hb4, hb19, hb20]
    repeat (refine And.intro (by omega) ?_)
    refine hq _ _ _ (by simp only [pickL, lk_cons, Nat.reduceEqDiff, ↓reduceIte]; exact rfl) ?_
    clear hq q
    refine wpL_del' b19 (by simp only [go_sem, hb1, hb2, hb4, hb19, hb20]; exact rfl) ?_
    repeat' (first | refine wpL_seq ?_ | refine wpL_skip ?_ | refine wpL_label ?_ | refine wpL_scope ?_)
    refine wpL_region' [1, 2, 4, 5] fun q hq => ?_
    simp -implicitDefEqProofs (disch := omega) only [go_sem, Int.reduceEq, Int.reduceLT, Int.reduceLE, Int.reduceToNat, Int.reduceNeg, Int.reduceAdd, Int.reduceSub, Nat.reduceEqDiff, Nat.reduceAdd, Nat.reduceMul, Nat.reduceLeDiff, Nat.reduceSub, ↓reduceIte, reduceCtorEq, hb2, hb4, ha, hc, hd, hb1, hb2, hb4, hb19, hb20]
    repeat (refine And.intro (by omega) ?_)
    refine gN_new fun b24 hb24 => ?_
    try simp only [newIn_put, newIn_upd] at hb24
    simp -implicitDefEqProofs (disch := omega) only [go_sem, Int.reduceEq, Int.reduceLT, Int.reduceLE, Int.reduceToNat, Int.reduceNeg, Int.reduceAdd, Int.reduceSub, Nat.reduceEqDiff, Nat.reduceAdd, Nat.reduceMul, Nat.reduceLeDiff, Nat.reduceSub, ↓reduceIte, reduceCtorEq, hb2, hb4, ha, hc, hd, hb1, hb2, hb4, hb19, hb20, hb24]
    repeat (refine And.intro (by omega) ?_)
    refine gN_appV ti27 rfl ti21 rfl (by decide) (SrcV.sl (by simp only [go_sem, hb2, hb4, ha, hc, hd, hb1, hb2, hb4, hb19, hb20, hb24] <;> exact rfl) rfl rfl) (by simp only [go_sem, hb2, hb4, ha, hc, hd, hb1, hb2, hb4, hb19, hb20, hb24] <;> exact rfl) ((by simp)) (by dsimp only; omega) (by simp only [maxInt]; omega) fun b25 hb25 => ?_
    try simp only [go_sem, hb2, hb4, ha, hc, hd, hb1, hb2, hb4, hb19, hb20, hb24] at hb25
    simp -implicitDefEqProofs (disch := omega) only [go_sem, Int.reduceEq, Int.reduceLT, Int.reduceLE, Int.reduceToNat, Int.reduceNeg, Int.reduceAdd, Int.reduceSub, Nat.reduceEqDiff, Nat.reduceAdd, Nat.reduceMul, Nat.reduceLeDiff, Nat.reduceSub, ↓reduceIte, reduceCtorEq, hb2, hb4, ha, hc, hd, hb1, hb2, hb4, hb19, hb20, hb24, hb25]
    repeat (refine And.intro (by omega) ?_)
    refine hq _ _ _ (by simp only [pickL, lk_cons, Nat.reduceEqDiff, ↓reduceIte]; exact rfl) ?_
    clear hq q
    refine wpL_del' b24 (by simp only [go_sem, hb1, hb2, hb4, hb19, hb20, hb24, hb25]; exact rfl) ?_
    repeat' (first | refine wpL_seq ?_ | refine wpL_skip ?_ | refine wpL_label ?_ | refine wpL_scope ?_)
    refine wpL_region' [1, 2, 4, 5] fun q hq => ?_
    simp -implicitDefEqProofs (disch := omega) only [go_sem, Int.reduceEq, Int.reduceLT, Int.reduceLE, Int.reduceToNat, Int.reduceNeg, Int.reduceAdd, Int.reduceSub, Nat.reduceEqDiff, Nat.reduceAdd, Nat.reduceMul, Nat.reduceLeDiff, Nat.reduceSub, ↓reduceIte, reduceCtorEq, hb2, hb4, ha, hc, hd, hb1, hb2, hb4, hb19, hb20, hb24, hb25]
    repeat (refine And.intro (by omega) ?_)
    refine gN_new fun b29 hb29 => ?_
    try simp only [newIn_put, newIn_upd] at hb29
    simp -implicitDefEqProofs (disch := omega) only [go_sem, Int.reduceEq, Int.reduceLT, Int.reduceLE, Int.reduceToNat, Int.reduceNeg, Int.reduceAdd, Int.reduceSub, Nat.reduceEqDiff, Nat.reduceAdd, Nat.reduceMul, Nat.reduceLeDiff, Nat.reduceSub, ↓reduceIte, reduceCtorEq, hb2, hb4, ha, hc, hd, hb1, hb2, hb4, hb19, hb20, hb24, hb25, hb29]
    repeat (refine And.intro (by omega) ?_)
    refine gN_appV ti27 rfl ti21 rfl (by decide) (SrcV.sl (by simp only [go_sem, hb2, hb4, ha, hc, hd, hb1, hb2, hb4, hb19, hb20, hb24, hb25, hb29] <;> exact rfl) rfl rfl) (by simp only [go_sem, hb2, hb4, ha, hc, hd, hb1, hb2, hb4, hb19, hb20, hb24, hb25, hb29] <;> exact rfl) ((by simp)) (by dsimp only; omega) (by simp only [maxInt]; omega) fun b30 hb30 => ?_
    try simp only [go_sem, hb2, hb4, ha, hc, hd, hb1, hb2, hb4, hb19, hb20, hb24, hb25, hb29] at hb30
    simp -implicitDefEqProofs (disch := omega) only [go_sem, Int.reduceEq, Int.reduceLT, Int.reduceLE, Int.reduceToNat, Int.reduceNeg, Int.reduceAdd, Int.reduceSub, Nat.reduceEqDiff, Nat.reduceAdd, Nat.reduceMul, Nat.reduceLeDiff, Nat.reduceSub, ↓reduceIte, reduceCtorEq, hb2, hb4, ha, hc, hd, hb1, hb2, hb4, hb19, hb20, hb24, hb25, hb29, hb30]
    repeat (refine And.intro (by omega) ?_)
    refine hq _ _ _ (by simp only [pickL, lk_cons, Nat.reduceEqDiff, ↓reduceIte]; exact rfl) ?_
    clear hq q
    refine wpL_del' b29 (by simp only [go_sem, hb1, hb2, hb4, hb19, hb20, hb24, hb25, hb29, hb30]; exact rfl) ?_
    repeat' (first | refine wpL_seq ?_ | refine wpL_skip ?_ | refine wpL_label ?_ | refine wpL_scope ?_)
    refine wpL_nil (hn5 _ _ ?_)
    repeat' (first | refine wpL_seq ?_ | refine wpL_skip ?_ | refine wpL_label ?_ | refine wpL_scope ?_)
    refine wpL_region' [1, 2, 4, 5] fun q hq => ?_
    simp -implicitDefEqProofs (disch := omega) only [go_sem, Int.reduceEq, Int.reduceLT, Int.reduceLE, Int.reduceToNat, Int.reduceNeg, Int.reduceAdd, Int.reduceSub, Nat.reduceEqDiff, Nat.reduceAdd, Nat.reduceMul, Nat.reduceLeDiff, Nat.reduceSub, ↓reduceIte, reduceCtorEq, hb2, hb4, ha, hc, hd, hb1, hb2, hb4, hb19, hb20, hb24, hb25, hb29, hb30]
    repeat (refine And.intro (by omega) ?_)
    refine hq _ _ _ (by simp only [pickL, lk_cons, Nat.reduceEqDiff, ↓reduceIte]; exact rfl) ?_
    clear hq q
    repeat' (first | refine wpL_seq ?_ | refine wpL_skip ?_ | refine wpL_label ?_ | refine wpL_scope ?_)
    have er : ∀ v : Int, ∀ f : Int → AV, List.map f (List.replicate i v) ++ [f v] = List.map f (List.replicate (i + 1) v) := fun v f => by rw [List.replicate_succ']; simp
    exact wpL_nil (hn3 (t.groups.length - (i + 1)) _ _ (by omega) ⟨i + 1, b20, b25, b30, by omega, by omega, by simp only [hb20, and_self], by simp only [hb25, and_self], by simp only [hb30, and_self], by rw [← er, ← er], rfl⟩)
  simp at hc4
  obtain rfl : i = t.groups.length := by omega
  repeat' (first | refine wpL_seq ?_ | refine wpL_skip ?_ | refine wpL_label ?_ | refine wpL_scope ?_)
  refine wpL_exit (hx3 _ _ _ (by simp) (hx2 _ _ ?_))
  repeat' (first | refine wpL_seq ?_ | refine wpL_skip ?_ | refine wpL_label ?_ | refine wpL_scope ?_)
  refine wpL_region' [2, 3] fun q hq => ?_
  simp -implicitDefEqProofs (disch := omega) only [go_sem, Int.reduceEq, Int.reduceLT, Int.reduceLE, Int.reduceToNat, Int.reduceNeg, Int.reduceAdd, Int.reduceSub, Nat.reduceEqDiff, Nat.reduceAdd, Nat.reduceMul, Nat.reduceLeDiff, Nat.reduceSub, ↓reduceIte, reduceCtorEq, hb2, hb4, ha, hc, hd, hb1, hb2, hb4]
  repeat (refine And.intro (by omega) ?_)
  refine hq _ _ _ (by simp only [pickL, lk_cons, Nat.reduceEqDiff, ↓reduceIte]; exact rfl) ?_
  clear hq q
  repeat' (first | refine wpL_seq ?_ | refine wpL_skip ?_ | refine wpL_label ?_ | refine wpL_scope ?_)
  refine wpL_ret (hK' _ _ _ _ (.inr rfl) (resTo (rs' := [.cell 2 29, .tmp 3]) rfl (by simp only [go_sem, Int.reduceEq, Int.reduceLT, Int.reduceLE, Int.reduceToNat, Int.reduceNeg, Int.reduceAdd, Int.reduceSub, Nat.reduceEqDiff, Nat.reduceAdd, Nat.reduceMul, Nat.reduceLeDiff, Nat.reduceSub, ↓reduceIte, reduceCtorEq, hb2, hb4, ha, hc, hd, hb1, hb2, hb4]; exact rfl)) ?_)
  refine ⟨[⟨a, 1, t.groups.length, (List.replicate t.groups.length 0).map (c1 .i64)⟩, ⟨c, 1, t.groups.length, (List.replicate t.groups.length 1).map (c1 .i32)⟩, ⟨d, 1, t.groups.length, (List.replicate t.groups.length 1).map (c1 .i32)⟩],
    .cons (by simp only [go_sem, hb2, hb4, ha, hc, hd] <;> exact rfl) rfl (Els.of (c1_len _) _ (ci_flat _) (by simp)) (by simp only [go_sem, hb2, hb4, ha, hc, hd])
    (.cons (by simp only [go_sem, hb2, hb4, ha, hc, hd] <;> exact rfl) rfl (Els.of (c1_len _) _ (di_flat _) (by simp)) (by simp only [go_sem, hb2, hb4, ha, hc, hd])
    (.cons (by simp only [go_sem, hb2, hb4, ha, hc, hd] <;> exact rfl) rfl (Els.of (c1_len _) _ (di_flat _) (by simp)) (by simp only [go_sem, hb2, hb4, ha, hc, hd]) .nil)), ?_⟩
  simp only [go_sem, Nat.reduceEqDiff, ↓reduceIte, reduceCtorEq, hb2, hb4, ha, hc, hd]
  rw [startAV, if_pos hc1]
  exact .refl _
theorem f24_bad (t : Tables) (ws : List (BitVec 64)) (ht : SmallT t) (hok : ¬ t.ok = true) : wpP Try.prog 24 [t.av, .rs 1 (ws.map w1)] (.tup [.rs 1 [], .int .i64 70]) := by
  have q32 := f32_start t ht
  rw [startAV, if_neg hok] at q32
  refine wpP_frzW ?_
  refine wpH_intro (fn := Try.f24) rfl rfl (by decide) (by kernel_rfl) fun K' hK' => ?_
  repeat' (first | refine wpL_seq ?_ | refine wpL_skip ?_ | refine wpL_label ?_ | refine wpL_scope ?_)
  refine wpL_region' [1, 2] fun q hq => ?_
  simp -implicitDefEqProofs (disch := omega) only [go_sem, Int.reduceEq, Int.reduceLT, Int.reduceLE, Int.reduceToNat, Int.reduceNeg, Int.reduceAdd, Int.reduceSub, Nat.reduceEqDiff, Nat.reduceAdd, Nat.reduceMul, Nat.reduceLeDiff, Nat.reduceSub, ↓reduceIte, reduceCtorEq, Tables.av, Tables.cells]
  repeat (refine And.intro (by omega) ?_)
  refine gN_new fun b2 hb2 => ?_
  try simp only [newIn_put, newIn_upd] at hb2
  simp -implicitDefEqProofs (disch := omega) only [go_sem, Int.reduceEq, Int.reduceLT, Int.reduceLE, Int.reduceToNat, Int.reduceNeg, Int.reduceAdd, Int.reduceSub, Nat.reduceEqDiff, Nat.reduceAdd, Nat.reduceMul, Nat.reduceLeDiff, Nat.reduceSub, ↓reduceIte, reduceCtorEq, Tables.av, Tables.cells, hb2]
  repeat (refine And.intro (by omega) ?_)
  refine hq _ _ _ (by simp only [pickL, lk_cons, Nat.reduceEqDiff, ↓reduceIte]; exact rfl) ?_
  clear hq q
  refine wpL_frzP' 2 rfl (by simp only [go_sem, hb2]; exact rfl) rfl (by simp only [go_sem, Int.reduceEq, Int.reduceLT, Int.reduceLE, Int.reduceToNat, Int.reduceNeg, Int.reduceAdd, Int.reduceSub, Nat.reduceEqDiff, Nat.reduceAdd, Nat.reduceMul, Nat.reduceLeDiff, Nat.reduceSub, ↓reduceIte, reduceCtorEq]; exact rfl) (by simp only [go_sem, hb2]; exact rfl) ?_
  repeat' (first | refine wpL_seq ?_ | refine wpL_skip ?_ | refine wpL_label ?_ | refine wpL_scope ?_)
  refine wpL_region' [1, 2, 6, 7] fun q hq => ?_
  simp -implicitDefEqProofs (disch := omega) only [go_sem, Int.reduceEq, Int.reduceLT, Int.reduceLE, Int.reduceToNat, Int.reduceNeg, Int.reduceAdd, Int.reduceSub, Nat.reduceEqDiff, Nat.reduceAdd, Nat.reduceMul, Nat.reduceLeDiff, Nat.reduceSub, ↓reduceIte, reduceCtorEq, Tables.cells, Hd.av, Hd.cells, hb2]
  repeat (refine And.intro (by omega) ?_)
  refine gN_callP (q32) ?_
  simp -implicitDefEqProofs (disch := omega) only [go_sem, Int.reduceEq, Int.reduceLT, Int.reduceLE, Int.reduceToNat, Int.reduceNeg, Int.reduceAdd, Int.reduceSub, Nat.reduceEqDiff, Nat.reduceAdd, Nat.reduceMul, Nat.reduceLeDiff, Nat.reduceSub, ↓reduceIte, reduceCtorEq, Tables.cells, Hd.av, Hd.cells, hb2]
  repeat (refine And.intro (by omega) ?_)
  refine gN_new fun b6 hb6 => ?_
  try simp only [newIn_put, newIn_upd] at hb6
  simp -implicitDefEqProofs (disch := omega) only [go_sem, Int.reduceEq, Int.reduceLT, Int.reduceLE, Int.reduceToNat, Int.reduceNeg, Int.reduceAdd, Int.reduceSub, Nat.reduceEqDiff, Nat.reduceAdd, Nat.reduceMul, Nat.reduceLeDiff, Nat.reduceSub, ↓reduceIte, reduceCtorEq, Tables.cells, Hd.av, Hd.cells, hb2, hb6]
  repeat (refine And.intro (by omega) ?_)
  refine hq _ _ _ (by simp only [pickL, lk_cons, Nat.reduceEqDiff, ↓reduceIte]; exact rfl) ?_
  clear hq q
  repeat' (first | refine wpL_seq ?_ | refine wpL_skip ?_ | refine wpL_label ?_ | refine wpL_scope ?_)
  refine wpL_region' [1, 2, 6, 7, 16] fun q hq => ?_
  simp -implicitDefEqProofs (disch := omega) only [go_sem, Int.reduceEq, Int.reduceLT, Int.reduceLE, Int.reduceToNat, Int.reduceNeg, Int.reduceAdd, Int.reduceSub, Nat.reduceEqDiff, Nat.reduceAdd, Nat.reduceMul, Nat.reduceLeDiff, Nat.reduceSub, ↓reduceIte, reduceCtorEq, hb2, hb6]
  repeat (refine And.intro (by omega) ?_)
  refine hq _ _ _ (by simp only [pickL, lk_cons, Nat.reduceEqDiff, ↓reduceIte]; exact rfl) ?_
  clear hq q
  repeat' (first | refine wpL_seq ?_ | refine wpL_skip ?_ | refine wpL_label ?_ | refine wpL_scope ?_)
  refine wpL_cond rfl (fun hc1 => ?_) (fun hc1 => ?_)
  · repeat' (first | refine wpL_seq ?_ | refine wpL_skip ?_ | refine wpL_label ?_ | refine wpL_scope ?_)
    refine wpL_region' [4, 5] fun q hq => ?_
    simp -implicitDefEqProofs (disch := omega) only [go_sem, Int.reduceEq, Int.reduceLT, Int.reduceLE, Int.reduceToNat, Int.reduceNeg, Int.reduceAdd, Int.reduceSub, Nat.reduceEqDiff, Nat.reduceAdd, Nat.reduceMul, Nat.reduceLeDiff, Nat.reduceSub, ↓reduceIte, reduceCtorEq, hb2, hb6]
    repeat (refine And.intro (by omega) ?_)
    refine hq _ _ _ (by simp only [pickL, lk_cons, Nat.reduceEqDiff, ↓reduceIte]; exact rfl) ?_
    clear hq q
    repeat' (first | refine wpL_seq ?_ | refine wpL_skip ?_ | refine wpL_label ?_ | refine wpL_scope ?_)
    refine wpL_ret (hK' _ _ _ _ (.inr rfl) (resTo (rs' := [.tmp 4, .tmp 5]) rfl (by simp only [go_sem, Int.reduceEq, Int.reduceLT, Int.reduceLE, Int.reduceToNat, Int.reduceNeg, Int.reduceAdd, Int.reduceSub, Nat.reduceEqDiff, Nat.reduceAdd, Nat.reduceMul, Nat.reduceLeDiff, Nat.reduceSub, ↓reduceIte, reduceCtorEq, hb2, hb6]; exact rfl)) ?_)
    refine ⟨[], .nil, ?_⟩
    exact Wk.tupL (.cons (.snil _) (.cons (.refl _) .nil))
  · cases hc1
theorem f24_run (t : Tables) (ws : List (BitVec 64)) (ht : SmallT t) (hok : t.ok = true) (hw : ws.length ≤ 1048576) : wpP Try.prog 24 [t.av, .rs 1 (ws.map w1)] (.tup [.rs 1 ((runL t ws).map st1), .int .i64 0]) := by
  have q32 := f32_start t ht
  rw [startAV, if_pos hok] at q32
  obtain ⟨z1, z2⟩ := start_sound hok
  refine wpP_frz ?_
  refine wpH_intro (fn := Try.f24) rfl rfl (by decide) (by kernel_rfl) fun K' hK' => ?_
  repeat' (first | refine wpL_seq ?_ | refine wpL_skip ?_ | refine wpL_label ?_ | refine wpL_scope ?_)
  refine wpL_region' [1, 2] fun q hq => ?_
  simp -implicitDefEqProofs (disch := omega) only [go_sem, Int.reduceEq, Int.reduceLT, Int.reduceLE, Int.reduceToNat, Int.reduceNeg, Int.reduceAdd, Int.reduceSub, Nat.reduceEqDiff, Nat.reduceAdd, Nat.reduceMul, Nat.reduceLeDiff, Nat.reduceSub, ↓reduceIte, reduceCtorEq, Tables.av, Tables.cells]
  repeat (refine And.intro (by omega) ?_)
  refine gN_new fun b2 hb2 => ?_
  try simp only [newIn_put, newIn_upd] at hb2
  simp -implicitDefEqProofs (disch := omega) only [go_sem, Int.reduceEq, Int.reduceLT, Int.reduceLE, Int.reduceToNat, Int.reduceNeg, Int.reduceAdd, Int.reduceSub, Nat.reduceEqDiff, Nat.reduceAdd, Nat.reduceMul, Nat.reduceLeDiff, Nat.reduceSub, ↓reduceIte, reduceCtorEq, Tables.av, Tables.cells, hb2]
  repeat (refine And.intro (by omega) ?_)
  refine hq _ _ _ (by simp only [pickL, lk_cons, Nat.reduceEqDiff, ↓reduceIte]; exact rfl) ?_
  clear hq q
  refine wpL_frzP' 2 rfl (by simp only [go_sem, hb2]; exact rfl) rfl (by simp only [go_sem, Int.reduceEq, Int.reduceLT, Int.reduceLE, Int.reduceToNat, Int.reduceNeg, Int.reduceAdd, Int.reduceSub, Nat.reduceEqDiff, Nat.reduceAdd, Nat.reduceMul, Nat.reduceLeDiff, Nat.reduceSub, ↓reduceIte, reduceCtorEq]; exact rfl) (by simp only [go_sem, hb2]; exact rfl) ?_
  repeat' (first | refine wpL_seq ?_ | refine wpL_skip ?_ | refine wpL_label ?_ | refine wpL_scope ?_)
  refine wpL_region' [1, 2, 6, 7] fun q hq => ?_
  simp -implicitDefEqProofs (disch := omega) only [go_sem, Int.reduceEq, Int.reduceLT, Int.reduceLE, Int.reduceToNat, Int.reduceNeg, Int.reduceAdd, Int.reduceSub, Nat.reduceEqDiff, Nat.reduceAdd, Nat.reduceMul, Nat.reduceLeDiff, Nat.reduceSub, ↓reduceIte, reduceCtorEq, Tables.cells, Hd.av, Hd.cells, hb2]
  repeat (refine And.intro (by omega) ?_)
  refine gN_callP (q32) ?_
  simp -implicitDefEqProofs (disch := omega) only [go_sem, Int.reduceEq, Int.reduceLT, Int.reduceLE, Int.reduceToNat, Int.reduceNeg, Int.reduceAdd, Int.reduceSub, Nat.reduceEqDiff, Nat.reduceAdd, Nat.reduceMul, Nat.reduceLeDiff, Nat.reduceSub, ↓reduceIte, reduceCtorEq, Tables.cells, Hd.av, Hd.cells, hb2]
  repeat (refine And.intro (by omega) ?_)
  refine gN_new fun b6 hb6 => ?_
  try simp only [newIn_put, newIn_upd] at hb6
  simp -implicitDefEqProofs (disch := omega) only [go_sem, Int.reduceEq, Int.reduceLT, Int.reduceLE, Int.reduceToNat, Int.reduceNeg, Int.reduceAdd, Int.reduceSub, Nat.reduceEqDiff, Nat.reduceAdd, Nat.reduceMul, Nat.reduceLeDiff, Nat.reduceSub, ↓reduceIte, reduceCtorEq, Tables.cells, Hd.av, Hd.cells, hb2, hb6]
  repeat (refine And.intro (by omega) ?_)
  refine hq _ _ _ (by simp only [pickL, lk_cons, Nat.reduceEqDiff, ↓reduceIte]; exact rfl) ?_
  clear hq q
  repeat' (first | refine wpL_seq ?_ | refine wpL_skip ?_ | refine wpL_label ?_ | refine wpL_scope ?_)
  refine wpL_region' [1, 2, 6, 7, 16] fun q hq => ?_
  simp -implicitDefEqProofs (disch := omega) only [go_sem, Int.reduceEq, Int.reduceLT, Int.reduceLE, Int.reduceToNat, Int.reduceNeg, Int.reduceAdd, Int.reduceSub, Nat.reduceEqDiff, Nat.reduceAdd, Nat.reduceMul, Nat.reduceLeDiff, Nat.reduceSub, ↓reduceIte, reduceCtorEq, hb2, hb6]
  repeat (refine And.intro (by omega) ?_)
  refine hq _ _ _ (by simp only [pickL, lk_cons, Nat.reduceEqDiff, ↓reduceIte]; exact rfl) ?_
  clear hq q
  repeat' (first | refine wpL_seq ?_ | refine wpL_skip ?_ | refine wpL_label ?_ | refine wpL_scope ?_)
  refine wpL_cond rfl (fun hc1 => ?_) (fun hc1 => ?_)
  · cases hc1
  clear hc1
  repeat' (first | refine wpL_seq ?_ | refine wpL_skip ?_ | refine wpL_label ?_ | refine wpL_scope ?_)
  refine wpL_region' [1, 2, 6, 8] fun q hq => ?_
  simp -implicitDefEqProofs (disch := omega) only [go_sem, Int.reduceEq, Int.reduceLT, Int.reduceLE, Int.reduceToNat, Int.reduceNeg, Int.reduceAdd, Int.reduceSub, Nat.reduceEqDiff, Nat.reduceAdd, Nat.reduceMul, Nat.reduceLeDiff, Nat.reduceSub, ↓reduceIte, reduceCtorEq, Hd.cells, hb2, hb6]
  repeat (refine And.intro (by omega) ?_)
  refine gN_callP ((show_ok z1).2) ?_
  simp -implicitDefEqProofs (disch := omega) only [go_sem, Int.reduceEq, Int.reduceLT, Int.reduceLE, Int.reduceToNat, Int.reduceNeg, Int.reduceAdd, Int.reduceSub, Nat.reduceEqDiff, Nat.reduceAdd, Nat.reduceMul, Nat.reduceLeDiff, Nat.reduceSub, ↓reduceIte, reduceCtorEq, Hd.cells, hb2, hb6]
  repeat (refine And.intro (by omega) ?_)
  refine gN_new fun b20 hb20 => ?_
  try simp only [newIn_put, newIn_upd] at hb20
  simp -implicitDefEqProofs (disch := omega) only [go_sem, Int.reduceEq, Int.reduceLT, Int.reduceLE, Int.reduceToNat, Int.reduceNeg, Int.reduceAdd, Int.reduceSub, Nat.reduceEqDiff, Nat.reduceAdd, Nat.reduceMul, Nat.reduceLeDiff, Nat.reduceSub, ↓reduceIte, reduceCtorEq, Hd.cells, hb2, hb6, hb20]
  repeat (refine And.intro (by omega) ?_)
  refine hq _ _ _ (by simp only [pickL, lk_cons, Nat.reduceEqDiff, ↓reduceIte]; exact rfl) ?_
  clear hq q
  repeat' (first | refine wpL_seq ?_ | refine wpL_skip ?_ | refine wpL_label ?_ | refine wpL_scope ?_)
  refine wpL_region' [1, 2, 6, 8, 9] fun q hq => ?_
  simp -implicitDefEqProofs (disch := omega) only [go_sem, Int.reduceEq, Int.reduceLT, Int.reduceLE, Int.reduceToNat, Int.reduceNeg, Int.reduceAdd, Int.reduceSub, Nat.reduceEqDiff, Nat.reduceAdd, Nat.reduceMul, Nat.reduceLeDiff, Nat.reduceSub, ↓reduceIte, reduceCtorEq, hb2, hb6, hb20]
  repeat (refine And.intro (by omega) ?_)
  refine hq _ _ _ (by simp only [pickL, lk_cons, Nat.reduceEqDiff, ↓reduceIte]; exact rfl) ?_
  clear hq q
  repeat' (first | refine wpL_seq ?_ | refine wpL_skip ?_ | refine wpL_label ?_ | refine wpL_scope ?_)
  refine wpL_block fun k2 hn2 hx2 ho2 => ?_
  refine wpL_loop (fun j e H => ∃ (i b : Nat) (h : Hd) (O : List (List UInt8)), i ≤ ws.length ∧ j = ws.length - i ∧ ((b = b6) = False ∧ (b6 = b) = False ∧ NewIn Heap.emp b) ∧ sound t h = true ∧ I32 h ∧ O.length = i + 1 ∧
      H = (Heap.emp.put b6 ⟨.own, h.cells, 29, []⟩).put b ⟨.own, O.map AV.str, 9, []⟩ ∧ O ++ runT t h (ws.drop i) = runL t ws ∧
      e = lk [(1, .rs 1 (ws.map w1)), (2, .rp t.cells 0), (6, .ptr b6 0), (8, .sl b 0 (i + 1) 1), (9, .int .i64 i)]) ws.length ⟨0, b20, startHd t.groups.length, [(startHd t.groups.length).show], by omega, by omega, hb20, z1, z2, rfl, rfl, rfl, rfl⟩ ?_
  rintro j e H ⟨i, b, h, O, hi, rfl, hb, hs, hI, hO, rfl, hP, rfl⟩ k3 hn3 hx3
  repeat' (first | refine wpL_seq ?_ | refine wpL_skip ?_ | refine wpL_label ?_ | refine wpL_scope ?_)
  refine wpL_region' [1, 2, 6, 8, 9, 24] fun q hq => ?_
  simp -implicitDefEqProofs (disch := omega) only [go_sem, Int.reduceEq, Int.reduceLT, Int.reduceLE, Int.reduceToNat, Int.reduceNeg, Int.reduceAdd, Int.reduceSub, Nat.reduceEqDiff, Nat.reduceAdd, Nat.reduceMul, Nat.reduceLeDiff, Nat.reduceSub, ↓reduceIte, reduceCtorEq, List.length_map, hb, hb6, hb2, hb6, hb20]
  repeat (refine And.intro (by omega) ?_)
  refine hq _ _ _ (by simp only [pickL, lk_cons, Nat.reduceEqDiff, ↓reduceIte]; exact rfl) ?_
  clear hq q
  repeat' (first | refine wpL_seq ?_ | refine wpL_skip ?_ | refine wpL_label ?_ | refine wpL_scope ?_)
  refine wpL_cond rfl (fun hc4 => ?_) (fun hc4 => ?_)
  · simp at hc4
    obtain ⟨w, hwi⟩ := get_of_lt hc4
    obtain ⟨s1, s2, s3⟩ := sound_step w hs hI
    rw [drop_get hwi, runT] at hP
    repeat' (first | refine wpL_seq ?_ | refine wpL_skip ?_ | refine wpL_label ?_ | refine wpL_scope ?_)
    refine wpL_block fun k5 hn5 hx5 ho5 => ?_
    repeat' (first | refine wpL_seq ?_ | refine wpL_skip ?_ | refine wpL_label ?_ | refine wpL_scope ?_)
    refine wpL_draw' [1, 2, 6, 8, 9] [2, 3, 4, 0, 1, 5, 6, 7, 8, 9, 10] [] [] (by kernel_rfl) (by kernel_rfl) (by kernel_rfl) fun q hq => ?_
    simp -implicitDefEqProofs (disch := omega) only [go_sem, Int.reduceEq, Int.reduceLT, Int.reduceLE, Int.reduceToNat, Int.reduceNeg, Int.reduceAdd, Int.reduceSub, Nat.reduceEqDiff, Nat.reduceAdd, Nat.reduceMul, Nat.reduceLeDiff, Nat.reduceSub, ↓reduceIte, reduceCtorEq, List.length_map, hwi, w1, Tables.cells, Hd.cells, Hd.av, hb, hb6, hb2, hb6, hb20]
    repeat (refine And.intro (by omega) ?_)
    refine gN_callP (f36_ok t h w ht (sound_small hs) hI hs) ?_
    simp -implicitDefEqProofs (disch := omega) only [go_sem, Int.reduceEq, Int.reduceLT, Int.reduceLE, Int.reduceToNat, Int.reduceNeg, Int.reduceAdd, Int.reduceSub, Nat.reduceEqDiff, Nat.reduceAdd, Nat.reduceMul, Nat.reduceLeDiff, Nat.reduceSub, ↓reduceIte, reduceCtorEq, List.length_map, hwi, w1, Tables.cells, Hd.cells, Hd.av, hb, hb6, hb2, hb6, hb20]
    repeat (refine And.intro (by omega) ?_)
    refine hq _ _ _ (by simp only [pickL, lk_cons, Nat.reduceEqDiff, ↓reduceIte]; exact rfl) ?_
    clear hq q
    repeat' (first | refine wpL_seq ?_ | refine wpL_skip ?_ | refine wpL_label ?_ | refine wpL_scope ?_)
    refine wpL_region' [1, 2, 6, 8, 9] fun q hq => ?_
    simp -implicitDefEqProofs (disch := omega) only [go_sem, Int.reduceEq, Int.reduceLT, Int.reduceLE, Int.reduceToNat, Int.reduceNeg, Int.reduceAdd, Int.reduceSub, Nat.reduceEqDiff, Nat.reduceAdd, Nat.reduceMul, Nat.reduceLeDiff, Nat.reduceSub, ↓reduceIte, reduceCtorEq, Hd.cells, hb, hb6, hb2, hb6, hb20]
    repeat (refine And.intro (by omega) ?_)
    refine gN_callP ((show_ok s1).2) ?_
    simp -implicitDefEqProofs (disch := omega) only [go_sem, Int.reduceEq, Int.reduceLT, Int.reduceLE, Int.reduceToNat, Int.reduceNeg, Int.reduceAdd, Int.reduceSub, Nat.reduceEqDiff, Nat.reduceAdd, Nat.reduceMul, Nat.reduceLeDiff, Nat.reduceSub, ↓reduceIte, reduceCtorEq, Hd.cells, hb, hb6, hb2, hb6, hb20]
    repeat (refine And.intro (by omega) ?_)
    refine gN_new fun b40 hb40 => ?_
    try simp only [newIn_put, newIn_upd] at hb40
    simp -implicitDefEqProofs (disch := omega) only [go_sem, Int.reduceEq, Int.reduceLT, Int.reduceLE, Int.reduceToNat, Int.reduceNeg, Int.reduceAdd, Int.reduceSub, Nat.reduceEqDiff, Nat.reduceAdd, Nat.reduceMul, Nat.reduceLeDiff, Nat.reduceSub, ↓reduceIte, reduceCtorEq, Hd.cells, hb, hb6, hb2, hb6, hb20, hb40]
    repeat (refine And.intro (by omega) ?_)
    refine gN_appV ti41 rfl ti9 rfl (by decide) (SrcV.sl (by simp only [go_sem, Hd.cells, hb, hb6, hb2, hb6, hb20, hb40] <;> exact rfl) rfl rfl) (by simp only [go_sem, Hd.cells, hb, hb6, hb2, hb6, hb20, hb40] <;> exact rfl) ((by simp [hO])) (by dsimp only; omega) (by simp only [maxInt]; omega) fun b41 hb41 => ?_
    try simp only [go_sem, Hd.cells, hb, hb6, hb2, hb6, hb20, hb40] at hb41
    simp -implicitDefEqProofs (disch := omega) only [go_sem, Int.reduceEq, Int.reduceLT, Int.reduceLE, Int.reduceToNat, Int.reduceNeg, Int.reduceAdd, Int.reduceSub, Nat.reduceEqDiff, Nat.reduceAdd, Nat.reduceMul, Nat.reduceLeDiff, Nat.reduceSub, ↓reduceIte, reduceCtorEq, Hd.cells, hb, hb6, hb2, hb6, hb20, hb40, hb41]
    repeat (refine And.intro (by omega) ?_)
    refine hq _ _ _ (by simp only [pickL, lk_cons, Nat.reduceEqDiff, ↓reduceIte]; exact rfl) ?_
    clear hq q
    refine wpL_del' b40 (by simp only [go_sem, hb2, hb6, hb20, hb40, hb41]; exact rfl) ?_
    repeat' (first | refine wpL_seq ?_ | refine wpL_skip ?_ | refine wpL_label ?_ | refine wpL_scope ?_)
    refine wpL_nil (hn5 _ _ ?_)
    repeat' (first | refine wpL_seq ?_ | refine wpL_skip ?_ | refine wpL_label ?_ | refine wpL_scope ?_)
    refine wpL_region' [1, 2, 6, 8, 9] fun q hq => ?_
    simp -implicitDefEqProofs (disch := omega) only [go_sem, Int.reduceEq, Int.reduceLT, Int.reduceLE, Int.reduceToNat, Int.reduceNeg, Int.reduceAdd, Int.reduceSub, Nat.reduceEqDiff, Nat.reduceAdd, Nat.reduceMul, Nat.reduceLeDiff, Nat.reduceSub, ↓reduceIte, reduceCtorEq, hb, hb6, hb2, hb6, hb20, hb40, hb41]
    repeat (refine And.intro (by omega) ?_)
    refine hq _ _ _ (by simp only [pickL, lk_cons, Nat.reduceEqDiff, ↓reduceIte]; exact rfl) ?_
    clear hq q
    repeat' (first | refine wpL_seq ?_ | refine wpL_skip ?_ | refine wpL_label ?_ | refine wpL_scope ?_)
    exact wpL_nil (hn3 (ws.length - (i + 1)) _ _ (by omega) ⟨i + 1, b41, afterHd t h w, O ++ [(afterHd t h w).show], by omega, by omega, by simp_all, s1, s2, by simp [hO], by simp [Hd.cells], by simpa using hP, rfl⟩)
  simp at hc4
  obtain rfl : i = ws.length := by omega
  rw [List.drop_eq_nil_of_le (Nat.le_refl _), runT, List.append_nil] at hP
  repeat' (first | refine wpL_seq ?_ | refine wpL_skip ?_ | refine wpL_label ?_ | refine wpL_scope ?_)
  refine wpL_exit (hx3 _ _ _ (by simp) (hx2 _ _ ?_))
  repeat' (first | refine wpL_seq ?_ | refine wpL_skip ?_ | refine wpL_label ?_ | refine wpL_scope ?_)
  refine wpL_region' [4, 5] fun q hq => ?_
  simp -implicitDefEqProofs (disch := omega) only [go_sem, Int.reduceEq, Int.reduceLT, Int.reduceLE, Int.reduceToNat, Int.reduceNeg, Int.reduceAdd, Int.reduceSub, Nat.reduceEqDiff, Nat.reduceAdd, Nat.reduceMul, Nat.reduceLeDiff, Nat.reduceSub, ↓reduceIte, reduceCtorEq, hb, hb6, hb2, hb6, hb20]
  repeat (refine And.intro (by omega) ?_)
  refine hq _ _ _ (by simp only [pickL, lk_cons, Nat.reduceEqDiff, ↓reduceIte]; exact rfl) ?_
  clear hq q
  repeat' (first | refine wpL_seq ?_ | refine wpL_skip ?_ | refine wpL_label ?_ | refine wpL_scope ?_)
  refine wpL_ret (hK' _ _ _ _ (.inr rfl) (resTo (rs' := [.tmp 4, .tmp 5]) rfl (by simp only [go_sem, Int.reduceEq, Int.reduceLT, Int.reduceLE, Int.reduceToNat, Int.reduceNeg, Int.reduceAdd, Int.reduceSub, Nat.reduceEqDiff, Nat.reduceAdd, Nat.reduceMul, Nat.reduceLeDiff, Nat.reduceSub, ↓reduceIte, reduceCtorEq, hb, hb6, hb2, hb6, hb20]; exact rfl)) ?_)
  refine ⟨[⟨b, 1, ws.length + 1, (runL t ws).map st1⟩], .cons (by simp only [go_sem, hb, hb6] <;> exact rfl) rfl (Els.of st1_len (runL t ws) (by rw [← hP]; exact st_flat O) (by rw [← hP]; exact hO)) (by simp only [go_sem]) .nil, ?_⟩
  simp only [go_sem, Nat.reduceEqDiff, ↓reduceIte, reduceCtorEq, hb, hb6]
end Go.Proofs.Ytdchdlabdokjnaa.Am.H
