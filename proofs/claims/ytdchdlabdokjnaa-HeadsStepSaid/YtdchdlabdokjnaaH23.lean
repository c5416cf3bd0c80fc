/- The reference's step. -/
import Derived.Test.YtdchdlabdokjnaaHQ
import Derived.Test.YtdchdlabdokjnaaAm18
namespace Go.Proofs.Ytdchdlabdokjnaa.Am.H
set_option linter.unusedSectionVars false
open Go Go.Proofs Am
set_option linter.unusedVariables false
set_option linter.unusedSimpArgs false
set_option maxRecDepth 100000
attribute [local irreducible] gO gN gW gdO

theorem f36_bad (t : Tables) (h : Hd) (w : BitVec 64) (ht : SmallT t) (hh : SmallH h) (hI : I32 h) (hso : ¬ sound t h = true) : wpP Try.prog 36 [t.av, h.av, .int .u64 w.toNat] (.tup [noHd.av, .int .i64 (if t.ok = true then 71 else 70)]) := by
  have hsm := small_of ht hh hI
  refine wpP_frzW ?_
  refine wpH_intro (fn := Try.f36) rfl rfl (by decide) (by kernel_rfl) fun K' hK' => ?_
  repeat' (first | refine wpL_seq ?_ | refine wpL_skip ?_ | refine wpL_label ?_ | refine wpL_scope ?_)
  refine wpL_region' [2, 3, 4, 6] fun q hq => ?_
  simp -implicitDefEqProofs (disch := omega) only [go_sem, Int.reduceEq, Int.reduceLT, Int.reduceLE, Int.reduceToNat, Int.reduceNeg, Int.reduceAdd, Int.reduceSub, Nat.reduceEqDiff, Nat.reduceAdd, Nat.reduceMul, Nat.reduceLeDiff, Nat.reduceSub, ↓reduceIte, reduceCtorEq, Tables.av, Tables.cells, Hd.av, Hd.cells]
  repeat (refine And.intro (by omega) ?_)
  refine gN_new fun b3 hb3 => ?_
  try simp only [newIn_put, newIn_upd] at hb3
  simp -implicitDefEqProofs (disch := omega) only [go_sem, Int.reduceEq, Int.reduceLT, Int.reduceLE, Int.reduceToNat, Int.reduceNeg, Int.reduceAdd, Int.reduceSub, Nat.reduceEqDiff, Nat.reduceAdd, Nat.reduceMul, Nat.reduceLeDiff, Nat.reduceSub, ↓reduceIte, reduceCtorEq, Tables.av, Tables.cells, Hd.av, Hd.cells, hb3]
  repeat (refine And.intro (by omega) ?_)
  refine gN_new fun b4 hb4 => ?_
  try simp only [newIn_put, newIn_upd] at hb4
  simp -implicitDefEqProofs (disch := omega) only [go_sem, Int.reduceEq, Int.reduceLT, Int.reduceLE, Int.reduceToNat, Int.reduceNeg, Int.reduceAdd, Int.reduceSub, Nat.reduceEqDiff, Nat.reduceAdd, Nat.reduceMul, Nat.reduceLeDiff, Nat.reduceSub, ↓reduceIte, reduceCtorEq, Tables.av, Tables.cells, Hd.av, Hd.cells, hb3, hb4]
  repeat (refine And.intro (by omega) ?_)
  refine gN_new fun b6 hb6 => ?_
  try simp only [newIn_put, newIn_upd] at hb6
  simp -implicitDefEqProofs (disch := omega) only [go_sem, Int.reduceEq, Int.reduceLT, Int.reduceLE, Int.reduceToNat, Int.reduceNeg, Int.reduceAdd, Int.reduceSub, Nat.reduceEqDiff, Nat.reduceAdd, Nat.reduceMul, Nat.reduceLeDiff, Nat.reduceSub, ↓reduceIte, reduceCtorEq, Tables.av, Tables.cells, Hd.av, Hd.cells, hb3, hb4, hb6]
  repeat (refine And.intro (by omega) ?_)
  refine hq _ _ _ (by simp only [pickL, lk_cons, Nat.reduceEqDiff, ↓reduceIte]; exact rfl) ?_
  clear hq q
  refine wpL_frzP' 3 rfl (by simp only [go_sem, hb3, hb4, hb6]; exact rfl) rfl (by simp only [go_sem, Int.reduceEq, Int.reduceLT, Int.reduceLE, Int.reduceToNat, Int.reduceNeg, Int.reduceAdd, Int.reduceSub, Nat.reduceEqDiff, Nat.reduceAdd, Nat.reduceMul, Nat.reduceLeDiff, Nat.reduceSub, ↓reduceIte, reduceCtorEq]; exact rfl) (by simp only [go_sem, hb3, hb4, hb6]; exact rfl) ?_
  refine wpL_frzP' 4 rfl (by simp only [go_sem, hb3, hb4, hb6]; exact rfl) rfl (by simp only [go_sem, Int.reduceEq, Int.reduceLT, Int.reduceLE, Int.reduceToNat, Int.reduceNeg, Int.reduceAdd, Int.reduceSub, Nat.reduceEqDiff, Nat.reduceAdd, Nat.reduceMul, Nat.reduceLeDiff, Nat.reduceSub, ↓reduceIte, reduceCtorEq]; exact rfl) (by simp only [go_sem, hb3, hb4, hb6]; exact rfl) ?_
  repeat' (first | refine wpL_seq ?_ | refine wpL_skip ?_ | refine wpL_label ?_ | refine wpL_scope ?_)
  refine wpL_region' [2, 3, 4, 6, 17] fun q hq => ?_
  simp -implicitDefEqProofs (disch := omega) only [go_sem, Int.reduceEq, Int.reduceLT, Int.reduceLE, Int.reduceToNat, Int.reduceNeg, Int.reduceAdd, Int.reduceSub, Nat.reduceEqDiff, Nat.reduceAdd, Nat.reduceMul, Nat.reduceLeDiff, Nat.reduceSub, ↓reduceIte, reduceCtorEq, Tables.cells, hb3, hb4, hb6]
  repeat (refine And.intro (by omega) ?_)
  refine gN_callP (f26_grid t (by have := ht.g; omega) (by have := ht.c; omega)) ?_
  simp -implicitDefEqProofs (disch := omega) only [go_sem, Int.reduceEq, Int.reduceLT, Int.reduceLE, Int.reduceToNat, Int.reduceNeg, Int.reduceAdd, Int.reduceSub, Nat.reduceEqDiff, Nat.reduceAdd, Nat.reduceMul, Nat.reduceLeDiff, Nat.reduceSub, ↓reduceIte, reduceCtorEq, Tables.cells, hb3, hb4, hb6]
  repeat (refine And.intro (by omega) ?_)
  refine hq _ _ _ (by simp only [pickL, lk_cons, Nat.reduceEqDiff, ↓reduceIte]; exact rfl) ?_
  clear hq q
  repeat' (first | refine wpL_seq ?_ | refine wpL_skip ?_ | refine wpL_label ?_ | refine wpL_scope ?_)
  refine wpL_cond rfl (fun hc1 => ?_) (fun hc1 => ?_)
  · repeat' (first | refine wpL_seq ?_ | refine wpL_skip ?_ | refine wpL_label ?_ | refine wpL_scope ?_)
    refine wpL_region' [6, 7] fun q hq => ?_
    simp -implicitDefEqProofs (disch := omega) only [go_sem, Int.reduceEq, Int.reduceLT, Int.reduceLE, Int.reduceToNat, Int.reduceNeg, Int.reduceAdd, Int.reduceSub, Nat.reduceEqDiff, Nat.reduceAdd, Nat.reduceMul, Nat.reduceLeDiff, Nat.reduceSub, ↓reduceIte, reduceCtorEq, hb3, hb4, hb6]
    repeat (refine And.intro (by omega) ?_)
    refine hq _ _ _ (by simp only [pickL, lk_cons, Nat.reduceEqDiff, ↓reduceIte]; exact rfl) ?_
    clear hq q
    repeat' (first | refine wpL_seq ?_ | refine wpL_skip ?_ | refine wpL_label ?_ | refine wpL_scope ?_)
    refine wpL_ret (hK' _ _ _ _ (.inr rfl) (resTo (rs' := [.cell 6 29, .tmp 7]) rfl (by simp only [go_sem, Int.reduceEq, Int.reduceLT, Int.reduceLE, Int.reduceToNat, Int.reduceNeg, Int.reduceAdd, Int.reduceSub, Nat.reduceEqDiff, Nat.reduceAdd, Nat.reduceMul, Nat.reduceLeDiff, Nat.reduceSub, ↓reduceIte, reduceCtorEq, hb3, hb4, hb6]; exact rfl)) ?_)
    refine ⟨[], .nil, ?_⟩
    simp at hc1
    simp only [frzAll, hc1]
    exact Wk.tupL (.cons (Wk.aggL (.cons (.snil _) (.cons (.snil _) (.cons (.snil _) .nil)))) (.cons (.refl _) .nil))
  simp at hc1
  repeat' (first | refine wpL_seq ?_ | refine wpL_skip ?_ | refine wpL_label ?_ | refine wpL_scope ?_)
  refine wpL_region' [2, 3, 4, 6, 22] fun q hq => ?_
  simp -implicitDefEqProofs (disch := omega) only [go_sem, Int.reduceEq, Int.reduceLT, Int.reduceLE, Int.reduceToNat, Int.reduceNeg, Int.reduceAdd, Int.reduceSub, Nat.reduceEqDiff, Nat.reduceAdd, Nat.reduceMul, Nat.reduceLeDiff, Nat.reduceSub, ↓reduceIte, reduceCtorEq, Tables.cells, Hd.cells, hb3, hb4, hb6]
  repeat (refine And.intro (by omega) ?_)
  refine gN_callP (f16_sound t h hsm) ?_
  simp -implicitDefEqProofs (disch := omega) only [go_sem, Int.reduceEq, Int.reduceLT, Int.reduceLE, Int.reduceToNat, Int.reduceNeg, Int.reduceAdd, Int.reduceSub, Nat.reduceEqDiff, Nat.reduceAdd, Nat.reduceMul, Nat.reduceLeDiff, Nat.reduceSub, ↓reduceIte, reduceCtorEq, Tables.cells, Hd.cells, hb3, hb4, hb6]
  repeat (refine And.intro (by omega) ?_)
  refine hq _ _ _ (by simp only [pickL, lk_cons, Nat.reduceEqDiff, ↓reduceIte]; exact rfl) ?_
  clear hq q
  repeat' (first | refine wpL_seq ?_ | refine wpL_skip ?_ | refine wpL_label ?_ | refine wpL_scope ?_)
  refine wpL_cond rfl (fun hc2 => ?_) (fun hc2 => ?_)
  · repeat' (first | refine wpL_seq ?_ | refine wpL_skip ?_ | refine wpL_label ?_ | refine wpL_scope ?_)
    refine wpL_region' [6, 7] fun q hq => ?_
    simp -implicitDefEqProofs (disch := omega) only [go_sem, Int.reduceEq, Int.reduceLT, Int.reduceLE, Int.reduceToNat, Int.reduceNeg, Int.reduceAdd, Int.reduceSub, Nat.reduceEqDiff, Nat.reduceAdd, Nat.reduceMul, Nat.reduceLeDiff, Nat.reduceSub, ↓reduceIte, reduceCtorEq, hb3, hb4, hb6]
    repeat (refine And.intro (by omega) ?_)
    refine hq _ _ _ (by simp only [pickL, lk_cons, Nat.reduceEqDiff, ↓reduceIte]; exact rfl) ?_
    clear hq q
    repeat' (first | refine wpL_seq ?_ | refine wpL_skip ?_ | refine wpL_label ?_ | refine wpL_scope ?_)
    refine wpL_ret (hK' _ _ _ _ (.inr rfl) (resTo (rs' := [.cell 6 29, .tmp 7]) rfl (by simp only [go_sem, Int.reduceEq, Int.reduceLT, Int.reduceLE, Int.reduceToNat, Int.reduceNeg, Int.reduceAdd, Int.reduceSub, Nat.reduceEqDiff, Nat.reduceAdd, Nat.reduceMul, Nat.reduceLeDiff, Nat.reduceSub, ↓reduceIte, reduceCtorEq, hb3, hb4, hb6]; exact rfl)) ?_)
    refine ⟨[], .nil, ?_⟩
    simp only [frzAll, hc1, if_true]
    exact Wk.tupL (.cons (Wk.aggL (.cons (.snil _) (.cons (.snil _) (.cons (.snil _) .nil)))) (.cons (.refl _) .nil))
  · exfalso
    simp at hc2
    exact hso hc2
theorem ci_flat : ∀ l : List Int, l.map ci = (l.map (c1 .i64)).flatten
  | [] => rfl
  | x :: l => by rw [List.map_cons, ci_flat l]; rfl
theorem f36_ok (t : Tables) (h : Hd) (w : BitVec 64) (ht : SmallT t) (hh : SmallH h) (hI : I32 h) (hso : sound t h = true) : wpP Try.prog 36 [t.av, h.av, .int .u64 w.toNat] (.tup [(afterHd t h w).av, .int .i64 0]) := by
  have hsm := small_of ht hh hI
  have hcn : t.confs.length ≤ 9223372036854775806 := by have := ht.c; omega
  have hok := (sound_len hso).ok
  have h64 := ok_64 hok
  obtain ⟨l0, l1, l2, l3, l4⟩ := sound_len hso
  refine wpP_frz ?_
  refine wpH_intro (fn := Try.f36) rfl rfl (by decide) (by kernel_rfl) fun K' hK' => ?_
  repeat' (first | refine wpL_seq ?_ | refine wpL_skip ?_ | refine wpL_label ?_ | refine wpL_scope ?_)
  refine wpL_region' [2, 3, 4, 6] fun q hq => ?_
  simp -implicitDefEqProofs (disch := omega) only [go_sem, Int.reduceEq, Int.reduceLT, Int.reduceLE, Int.reduceToNat, Int.reduceNeg, Int.reduceAdd, Int.reduceSub, Nat.reduceEqDiff, Nat.reduceAdd, Nat.reduceMul, Nat.reduceLeDiff, Nat.reduceSub, ↓reduceIte, reduceCtorEq, Tables.av, Tables.cells, Hd.av, Hd.cells]
  repeat (refine And.intro (by omega) ?_)
  refine gN_new fun b3 hb3 => ?_
  try simp only [newIn_put, newIn_upd] at hb3
  simp -implicitDefEqProofs (disch := omega) only [go_sem, Int.reduceEq, Int.reduceLT, Int.reduceLE, Int.reduceToNat, Int.reduceNeg, Int.reduceAdd, Int.reduceSub, Nat.reduceEqDiff, Nat.reduceAdd, Nat.reduceMul, Nat.reduceLeDiff, Nat.reduceSub, ↓reduceIte, reduceCtorEq, Tables.av, Tables.cells, Hd.av, Hd.cells, hb3]
  repeat (refine And.intro (by omega) ?_)
  refine gN_new fun b4 hb4 => ?_
  try simp only [newIn_put, newIn_upd] at hb4
  simp -implicitDefEqProofs (disch := omega) only [go_sem, Int.reduceEq, Int.reduceLT, Int.reduceLE, Int.reduceToNat, Int.reduceNeg, Int.reduceAdd, Int.reduceSub, Nat.reduceEqDiff, Nat.reduceAdd, Nat.reduceMul, Nat.reduceLeDiff, Nat.reduceSub, ↓reduceIte, reduceCtorEq, Tables.av, Tables.cells, Hd.av, Hd.cells, hb3, hb4]
  repeat (refine And.intro (by omega) ?_)
  refine gN_new fun b6 hb6 => ?_
  try simp only [newIn_put, newIn_upd] at hb6
  simp -implicitDefEqProofs (disch := omega) only [go_sem, Int.reduceEq, Int.reduceLT, Int.reduceLE, Int.reduceToNat, Int.reduceNeg, Int.reduceAdd, Int.reduceSub, Nat.reduceEqDiff, Nat.reduceAdd, Nat.reduceMul, Nat.reduceLeDiff, Nat.reduceSub, ↓reduceIte, reduceCtorEq, Tables.av, Tables.cells, Hd.av, Hd.cells, hb3, hb4, hb6]
  repeat (refine And.intro (by omega) ?_)
  refine hq _ _ _ (by simp only [pickL, lk_cons, Nat.reduceEqDiff, ↓reduceIte]; exact rfl) ?_
  clear hq q
  refine wpL_frzP' 3 rfl (by simp only [go_sem, hb3, hb4, hb6]; exact rfl) rfl (by simp only [go_sem, Int.reduceEq, Int.reduceLT, Int.reduceLE, Int.reduceToNat, Int.reduceNeg, Int.reduceAdd, Int.reduceSub, Nat.reduceEqDiff, Nat.reduceAdd, Nat.reduceMul, Nat.reduceLeDiff, Nat.reduceSub, ↓reduceIte, reduceCtorEq]; exact rfl) (by simp only [go_sem, hb3, hb4, hb6]; exact rfl) ?_
  refine wpL_frzP' 4 rfl (by simp only [go_sem, hb3, hb4, hb6]; exact rfl) rfl (by simp only [go_sem, Int.reduceEq, Int.reduceLT, Int.reduceLE, Int.reduceToNat, Int.reduceNeg, Int.reduceAdd, Int.reduceSub, Nat.reduceEqDiff, Nat.reduceAdd, Nat.reduceMul, Nat.reduceLeDiff, Nat.reduceSub, ↓reduceIte, reduceCtorEq]; exact rfl) (by simp only [go_sem, hb3, hb4, hb6]; exact rfl) ?_
  repeat' (first | refine wpL_seq ?_ | refine wpL_skip ?_ | refine wpL_label ?_ | refine wpL_scope ?_)
  refine wpL_region' [2, 3, 4, 6, 17] fun q hq => ?_
  simp -implicitDefEqProofs (disch := omega) only [go_sem, Int.reduceEq, Int.reduceLT, Int.reduceLE, Int.reduceToNat, Int.reduceNeg, Int.reduceAdd, Int.reduceSub, Nat.reduceEqDiff, Nat.reduceAdd, Nat.reduceMul, Nat.reduceLeDiff, Nat.reduceSub, ↓reduceIte, reduceCtorEq, Tables.cells, hb3, hb4, hb6]
  repeat (refine And.intro (by omega) ?_)
  refine gN_callP (f26_grid t (by have := ht.g; omega) (by have := ht.c; omega)) ?_
  simp -implicitDefEqProofs (disch := omega) only [go_sem, Int.reduceEq, Int.reduceLT, Int.reduceLE, Int.reduceToNat, Int.reduceNeg, Int.reduceAdd, Int.reduceSub, Nat.reduceEqDiff, Nat.reduceAdd, Nat.reduceMul, Nat.reduceLeDiff, Nat.reduceSub, ↓reduceIte, reduceCtorEq, Tables.cells, hb3, hb4, hb6]
  repeat (refine And.intro (by omega) ?_)
  refine hq _ _ _ (by simp only [pickL, lk_cons, Nat.reduceEqDiff, ↓reduceIte]; exact rfl) ?_
  clear hq q
  rw [hok]
  repeat' (first | refine wpL_seq ?_ | refine wpL_skip ?_ | refine wpL_label ?_ | refine wpL_scope ?_)
  refine wpL_cond rfl (fun hc1 => ?_) (fun hc1 => ?_)
  · cases hc1
  repeat' (first | refine wpL_seq ?_ | refine wpL_skip ?_ | refine wpL_label ?_ | refine wpL_scope ?_)
  refine wpL_region' [2, 3, 4, 6, 22] fun q hq => ?_
  simp -implicitDefEqProofs (disch := omega) only [go_sem, Int.reduceEq, Int.reduceLT, Int.reduceLE, Int.reduceToNat, Int.reduceNeg, Int.reduceAdd, Int.reduceSub, Nat.reduceEqDiff, Nat.reduceAdd, Nat.reduceMul, Nat.reduceLeDiff, Nat.reduceSub, ↓reduceIte, reduceCtorEq, Tables.cells, Hd.cells, hb3, hb4, hb6]
  repeat (refine And.intro (by omega) ?_)
  refine gN_callP (f16_sound t h hsm) ?_
  simp -implicitDefEqProofs (disch := omega) only [go_sem, Int.reduceEq, Int.reduceLT, Int.reduceLE, Int.reduceToNat, Int.reduceNeg, Int.reduceAdd, Int.reduceSub, Nat.reduceEqDiff, Nat.reduceAdd, Nat.reduceMul, Nat.reduceLeDiff, Nat.reduceSub, ↓reduceIte, reduceCtorEq, Tables.cells, Hd.cells, hb3, hb4, hb6]
  repeat (refine And.intro (by omega) ?_)
  refine hq _ _ _ (by simp only [pickL, lk_cons, Nat.reduceEqDiff, ↓reduceIte]; exact rfl) ?_
  clear hq q
  rw [hso]
  repeat' (first | refine wpL_seq ?_ | refine wpL_skip ?_ | refine wpL_label ?_ | refine wpL_scope ?_)
  refine wpL_cond rfl (fun hc2 => ?_) (fun hc2 => ?_)
  · cases hc2
  clear hc1 hc2
  repeat' (first | refine wpL_seq ?_ | refine wpL_skip ?_ | refine wpL_label ?_ | refine wpL_scope ?_)
  refine wpL_region' [2, 3, 4, 6, 8] fun q hq => ?_
  simp -implicitDefEqProofs (disch := omega) only [go_sem, Int.reduceEq, Int.reduceLT, Int.reduceLE, Int.reduceToNat, Int.reduceNeg, Int.reduceAdd, Int.reduceSub, Nat.reduceEqDiff, Nat.reduceAdd, Nat.reduceMul, Nat.reduceLeDiff, Nat.reduceSub, ↓reduceIte, reduceCtorEq, hb3, hb4, hb6]
  repeat (refine And.intro (by omega) ?_)
  refine hq _ _ _ (by simp only [pickL, lk_cons, Nat.reduceEqDiff, ↓reduceIte]; exact rfl) ?_
  clear hq q
  refine wpL_vecL' 8 1 3 rfl fun b0 hb0 => ?_
  simp only [setL]
  simp only [go_sem, hb6] at hb0
  repeat' (first | refine wpL_seq ?_ | refine wpL_skip ?_ | refine wpL_label ?_ | refine wpL_scope ?_)
  refine wpL_region' [2, 3, 4, 6, 8, 9] fun q hq => ?_
  simp -implicitDefEqProofs (disch := omega) only [go_sem, Int.reduceEq, Int.reduceLT, Int.reduceLE, Int.reduceToNat, Int.reduceNeg, Int.reduceAdd, Int.reduceSub, Nat.reduceEqDiff, Nat.reduceAdd, Nat.reduceMul, Nat.reduceLeDiff, Nat.reduceSub, ↓reduceIte, reduceCtorEq, hb3, hb4, hb6]
  repeat (refine And.intro (by omega) ?_)
  refine hq _ _ _ (by simp only [pickL, lk_cons, Nat.reduceEqDiff, ↓reduceIte]; exact rfl) ?_
  clear hq q
  repeat' (first | refine wpL_seq ?_ | refine wpL_skip ?_ | refine wpL_label ?_ | refine wpL_scope ?_)
  refine wpL_block fun k3 hn3 hx3 ho3 => ?_
  refine wpL_loop (fun j e H => ∃ (i b : Nat) (O : List Int), i ≤ t.groups.length ∧ j = t.groups.length - i ∧ ((b = b6) = False ∧ (b6 = b) = False ∧ NewIn Heap.emp b) ∧ O.length = i ∧
      H = (Heap.emp.put b6 ⟨.own, [.snil, .snil, .snil], 29, []⟩).put b ⟨.own, O.map ci, 3, []⟩ ∧ O ++ alonesFrom w i (t.groups.drop i) (h.aspect.drop i) (h.ins.drop i) = alonesFrom w 0 t.groups h.aspect h.ins ∧
      e = lk [(2, .int .u64 w.toNat), (3, .rp t.cells 0), (4, .rp h.cells 0), (6, .ptr b6 0), (8, .sl b 0 i 1), (9, .int .i64 i)]) t.groups.length ⟨0, b0, [], by omega, by omega, hb0, rfl, rfl, rfl, rfl⟩ ?_
  rintro j e H ⟨i, b, O, hi, rfl, hb, hO, rfl, hP, rfl⟩ k4 hn4 hx4
  repeat' (first | refine wpL_seq ?_ | refine wpL_skip ?_ | refine wpL_label ?_ | refine wpL_scope ?_)
  refine wpL_region' [2, 3, 4, 6, 8, 9, 28] fun q hq => ?_
  simp -implicitDefEqProofs (disch := omega) only [go_sem, Int.reduceEq, Int.reduceLT, Int.reduceLE, Int.reduceToNat, Int.reduceNeg, Int.reduceAdd, Int.reduceSub, Nat.reduceEqDiff, Nat.reduceAdd, Nat.reduceMul, Nat.reduceLeDiff, Nat.reduceSub, ↓reduceIte, reduceCtorEq, Tables.cells, List.length_map, hb3, hb4, hb6]
  repeat (refine And.intro (by omega) ?_)
  refine hq _ _ _ (by simp only [pickL, lk_cons, Nat.reduceEqDiff, ↓reduceIte]; exact rfl) ?_
  clear hq q
  repeat' (first | refine wpL_seq ?_ | refine wpL_skip ?_ | refine wpL_label ?_ | refine wpL_scope ?_)
  refine wpL_cond rfl (fun hc5 => ?_) (fun hc5 => ?_)
  · simp at hc5
    obtain ⟨g, hg⟩ := get_of_lt hc5
    obtain ⟨a, ha⟩ := get_of_lt (show i < h.aspect.length by omega)
    obtain ⟨x, hx⟩ := get_of_lt (show i < h.ins.length by omega)
    have hxr := hI.i x (List.mem_of_getElem? hx)
    rw [drop_get hg, drop_get ha, drop_get hx, alonesFrom] at hP
    repeat' (first | refine wpL_seq ?_ | refine wpL_skip ?_ | refine wpL_label ?_ | refine wpL_scope ?_)
    refine wpL_block fun k6 hn6 hx6 ho6 => ?_
    repeat' (first | refine wpL_seq ?_ | refine wpL_skip ?_ | refine wpL_label ?_ | refine wpL_scope ?_)
    refine wpL_draw' [2, 3, 4, 6, 8, 9] [0, 1, 3, 6, 8, 11, 13, 16, 17, 2, 4, 5, 7, 9, 10, 12, 14, 15, 18, 19, 20, 21, 22] [] [false, false, false, false, false, false, false, false, false, false, false, false, false, false, false, false, false, false, true] (by kernel_rfl) (by kernel_rfl) (by kernel_rfl) fun q hq => ?_
    simp -implicitDefEqProofs (disch := omega) only [go_sem, Int.reduceEq, Int.reduceLT, Int.reduceLE, Int.reduceToNat, Int.reduceNeg, Int.reduceAdd, Int.reduceSub, Nat.reduceEqDiff, Nat.reduceAdd, Nat.reduceMul, Nat.reduceLeDiff, Nat.reduceSub, ↓reduceIte, reduceCtorEq, Tables.cells, Hd.cells, List.length_map, hg, ha, hx, c1, Group.cells, hb, hb6, hb3, hb4, hb6]
    repeat (refine And.intro (by omega) ?_)
    refine gN_callP (f46_wanted w i (by omega)) ?_
    simp -implicitDefEqProofs (disch := omega) only [go_sem, Int.reduceEq, Int.reduceLT, Int.reduceLE, Int.reduceToNat, Int.reduceNeg, Int.reduceAdd, Int.reduceSub, Nat.reduceEqDiff, Nat.reduceAdd, Nat.reduceMul, Nat.reduceLeDiff, Nat.reduceSub, ↓reduceIte, reduceCtorEq, Tables.cells, Hd.cells, List.length_map, hg, ha, hx, c1, Group.cells, hb, hb6, hb3, hb4, hb6]
    repeat (refine And.intro (by omega) ?_)
    refine gN_callP (f50_alone g a x (w.getLsbD i) hxr) ?_
    simp -implicitDefEqProofs (disch := omega) only [go_sem, Int.reduceEq, Int.reduceLT, Int.reduceLE, Int.reduceToNat, Int.reduceNeg, Int.reduceAdd, Int.reduceSub, Nat.reduceEqDiff, Nat.reduceAdd, Nat.reduceMul, Nat.reduceLeDiff, Nat.reduceSub, ↓reduceIte, reduceCtorEq, Tables.cells, Hd.cells, List.length_map, hg, ha, hx, c1, Group.cells, hb, hb6, hb3, hb4, hb6]
    repeat (refine And.intro (by omega) ?_)
    refine gN_new fun b51 hb51 => ?_
    try simp only [newIn_put, newIn_upd] at hb51
    simp -implicitDefEqProofs (disch := omega) only [go_sem, Int.reduceEq, Int.reduceLT, Int.reduceLE, Int.reduceToNat, Int.reduceNeg, Int.reduceAdd, Int.reduceSub, Nat.reduceEqDiff, Nat.reduceAdd, Nat.reduceMul, Nat.reduceLeDiff, Nat.reduceSub, ↓reduceIte, reduceCtorEq, Tables.cells, Hd.cells, List.length_map, hg, ha, hx, c1, Group.cells, hb, hb6, hb3, hb4, hb6, hb51]
    repeat (refine And.intro (by omega) ?_)
    refine gN_appV ti26 rfl ti3 rfl (by decide) (SrcV.sl (by simp only [go_sem, Tables.cells, Hd.cells, List.length_map, hg, ha, hx, c1, Group.cells, hb, hb6, hb3, hb4, hb6, hb51] <;> exact rfl) rfl rfl) (by simp only [go_sem, Tables.cells, Hd.cells, List.length_map, hg, ha, hx, c1, Group.cells, hb, hb6, hb3, hb4, hb6, hb51] <;> exact rfl) ((by simp [hO])) (by dsimp only; omega) (by simp only [maxInt]; omega) fun b52 hb52 => ?_
    try simp only [go_sem, Tables.cells, Hd.cells, List.length_map, hg, ha, hx, c1, Group.cells, hb, hb6, hb3, hb4, hb6, hb51] at hb52
    simp -implicitDefEqProofs (disch := omega) only [go_sem, Int.reduceEq, Int.reduceLT, Int.reduceLE, Int.reduceToNat, Int.reduceNeg, Int.reduceAdd, Int.reduceSub, Nat.reduceEqDiff, Nat.reduceAdd, Nat.reduceMul, Nat.reduceLeDiff, Nat.reduceSub, ↓reduceIte, reduceCtorEq, Tables.cells, Hd.cells, List.length_map, hg, ha, hx, c1, Group.cells, hb, hb6, hb3, hb4, hb6, hb51, hb52]
    repeat (refine And.intro (by omega) ?_)
    refine hq _ _ _ (by simp only [pickL, lk_cons, Nat.reduceEqDiff, ↓reduceIte]; exact rfl) ?_
    clear hq q
    refine wpL_del' b51 (by simp only [go_sem, hb3, hb4, hb6, hb51, hb52]; exact rfl) ?_
    repeat' (first | refine wpL_seq ?_ | refine wpL_skip ?_ | refine wpL_label ?_ | refine wpL_scope ?_)
    refine wpL_nil (hn6 _ _ ?_)
    repeat' (first | refine wpL_seq ?_ | refine wpL_skip ?_ | refine wpL_label ?_ | refine wpL_scope ?_)
    refine wpL_region' [2, 3, 4, 6, 8, 9] fun q hq => ?_
    simp -implicitDefEqProofs (disch := omega) only [go_sem, Int.reduceEq, Int.reduceLT, Int.reduceLE, Int.reduceToNat, Int.reduceNeg, Int.reduceAdd, Int.reduceSub, Nat.reduceEqDiff, Nat.reduceAdd, Nat.reduceMul, Nat.reduceLeDiff, Nat.reduceSub, ↓reduceIte, reduceCtorEq, hb, hb6, hb3, hb4, hb6, hb51, hb52]
    repeat (refine And.intro (by omega) ?_)
    refine hq _ _ _ (by simp only [pickL, lk_cons, Nat.reduceEqDiff, ↓reduceIte]; exact rfl) ?_
    clear hq q
    repeat' (first | refine wpL_seq ?_ | refine wpL_skip ?_ | refine wpL_label ?_ | refine wpL_scope ?_)
    exact wpL_nil (hn4 (t.groups.length - (i + 1)) _ _ (by omega) ⟨i + 1, b52, O ++ [alone g a x (w.getLsbD i)], by omega, by omega, by simp_all, by simp [hO], by simp [ci], by simpa using hP, rfl⟩)
  simp at hc5
  obtain rfl : i = t.groups.length := by omega
  rw [List.drop_eq_nil_of_le (Nat.le_refl _), alonesFrom.eq_2 _ _ _ _ _ (by simp), List.append_nil] at hP
  subst hP
  repeat' (first | refine wpL_seq ?_ | refine wpL_skip ?_ | refine wpL_label ?_ | refine wpL_scope ?_)
  refine wpL_exit (hx4 _ _ _ (by simp) (hx3 _ _ ?_))
  repeat' (first | refine wpL_seq ?_ | refine wpL_skip ?_ | refine wpL_label ?_ | refine wpL_scope ?_)
  refine wpL_region' [2, 3, 4, 6, 8, 10] fun q hq => ?_
  simp -implicitDefEqProofs (disch := omega) only [go_sem, Int.reduceEq, Int.reduceLT, Int.reduceLE, Int.reduceToNat, Int.reduceNeg, Int.reduceAdd, Int.reduceSub, Nat.reduceEqDiff, Nat.reduceAdd, Nat.reduceMul, Nat.reduceLeDiff, Nat.reduceSub, ↓reduceIte, reduceCtorEq, hb, hb6, hb3, hb4, hb6]
  repeat (refine And.intro (by omega) ?_)
  refine hq _ _ _ (by simp only [pickL, lk_cons, Nat.reduceEqDiff, ↓reduceIte]; exact rfl) ?_
  clear hq q
  repeat' (first | refine wpL_seq ?_ | refine wpL_skip ?_ | refine wpL_label ?_ | refine wpL_scope ?_)
  refine wpL_block fun k7 hn7 hx7 ho7 => ?_
  refine wpL_loop (fun j e H => ∃ (i : Nat) (O : List Int), i ≤ t.groups.length ∧ j = t.groups.length - i ∧ O.length = t.groups.length ∧
      H = (Heap.emp.put b6 ⟨.own, [.snil, .snil, .snil], 29, []⟩).put b ⟨.own, O.map ci, 3, []⟩ ∧ secondFrom t.confs h.away w i (t.groups.drop i) (h.aspect.drop i) O = nextL t h w ∧
      e = lk [(2, .int .u64 w.toNat), (3, .rp t.cells 0), (4, .rp h.cells 0), (6, .ptr b6 0), (8, .sl b 0 t.groups.length 1), (10, .int .i64 i)]) t.groups.length ⟨0, _, by omega, by omega, hO, rfl, rfl, rfl⟩ ?_
  clear hO hn4 hx4 k4
  rintro j e H ⟨i, O, hi, rfl, hO, rfl, hP, rfl⟩ k8 hn8 hx8
  repeat' (first | refine wpL_seq ?_ | refine wpL_skip ?_ | refine wpL_label ?_ | refine wpL_scope ?_)
  refine wpL_region' [2, 3, 4, 6, 8, 10, 56] fun q hq => ?_
  simp -implicitDefEqProofs (disch := omega) only [go_sem, Int.reduceEq, Int.reduceLT, Int.reduceLE, Int.reduceToNat, Int.reduceNeg, Int.reduceAdd, Int.reduceSub, Nat.reduceEqDiff, Nat.reduceAdd, Nat.reduceMul, Nat.reduceLeDiff, Nat.reduceSub, ↓reduceIte, reduceCtorEq, hb, hb6, hb3, hb4, hb6]
  repeat (refine And.intro (by omega) ?_)
  refine hq _ _ _ (by simp only [pickL, lk_cons, Nat.reduceEqDiff, ↓reduceIte]; exact rfl) ?_
  clear hq q
  repeat' (first | refine wpL_seq ?_ | refine wpL_skip ?_ | refine wpL_label ?_ | refine wpL_scope ?_)
  refine wpL_cond rfl (fun hc9 => ?_) (fun hc9 => ?_)
  · simp at hc9
    obtain ⟨g, hg⟩ := get_of_lt hc9
    obtain ⟨a, ha⟩ := get_of_lt (show i < h.aspect.length by omega)
    rw [drop_get hg, drop_get ha, secondFrom] at hP
    have q51 := f51_free t h O i hcn (by omega) (by omega) hI
    rw [free_eq hok i hO] at q51
    have hset : ∀ v : Int, List.take i (List.map ci O) ++ [AV.int .i64 v] ++ List.drop (i + 1) (List.map ci O) = (O.set i v).map ci := fun v => by rw [set_of_take (by simp; omega), List.map_set]
    repeat' (first | refine wpL_seq ?_ | refine wpL_skip ?_ | refine wpL_label ?_ | refine wpL_scope ?_)
    refine wpL_block fun k10 hn10 hx10 ho10 => ?_
    have tail : ∀ O' : List Int, O'.length = t.groups.length → secondFrom t.confs h.away w (i + 1) (t.groups.drop (i + 1)) (h.aspect.drop (i + 1)) O' = nextL t h w →
        k10 .normal (lk [(2, .int .u64 w.toNat), (3, .rp t.cells 0), (4, .rp h.cells 0), (6, .ptr b6 0), (8, .sl b 0 t.groups.length 1), (10, .int .i64 i)]) ((Heap.emp.put b6 ⟨.own, [.snil, .snil, .snil], 29, []⟩).put b ⟨.own, O'.map ci, 3, []⟩) := by
      intro O' h1 h2
      refine hn10 _ _ ?_
      repeat' (first | refine wpL_seq ?_ | refine wpL_skip ?_ | refine wpL_label ?_ | refine wpL_scope ?_)
      refine wpL_region' [2, 3, 4, 6, 8, 10] fun q hq => ?_
      simp -implicitDefEqProofs (disch := omega) only [go_sem, Int.reduceEq, Int.reduceLT, Int.reduceLE, Int.reduceToNat, Int.reduceNeg, Int.reduceAdd, Int.reduceSub, Nat.reduceEqDiff, Nat.reduceAdd, Nat.reduceMul, Nat.reduceLeDiff, Nat.reduceSub, ↓reduceIte, reduceCtorEq, hb, hb6, hb3, hb4, hb6]
      repeat (refine And.intro (by omega) ?_)
      refine hq _ _ _ (by simp only [pickL, lk_cons, Nat.reduceEqDiff, ↓reduceIte]; exact rfl) ?_
      clear hq q
      repeat' (first | refine wpL_seq ?_ | refine wpL_skip ?_ | refine wpL_label ?_ | refine wpL_scope ?_)
      exact wpL_nil (hn8 (t.groups.length - (i + 1)) _ _ (by omega) ⟨i + 1, O', by omega, by omega, h1, rfl, h2, rfl⟩)
    by_cases ha0 : a = 0
    · subst ha0
      cases hw : w.getLsbD i with
      | false =>
        simp only [hw, Bool.and_false, Bool.false_and, Bool.false_eq_true, if_false] at hP
        repeat' (first | refine wpL_seq ?_ | refine wpL_skip ?_ | refine wpL_label ?_ | refine wpL_scope ?_)
        refine wpL_region' [2, 3, 4, 6, 8, 10, 76] fun q hq => ?_
        simp -implicitDefEqProofs (disch := omega) only [go_sem, Int.reduceEq, Int.reduceLT, Int.reduceLE, Int.reduceToNat, Int.reduceNeg, Int.reduceAdd, Int.reduceSub, Nat.reduceEqDiff, Nat.reduceAdd, Nat.reduceMul, Nat.reduceLeDiff, Nat.reduceSub, ↓reduceIte, reduceCtorEq, List.length_map, ha, c1, Hd.cells, Tables.cells, decide_true, eq_self, hb, hb6, hb3, hb4, hb6]
        refine gN_callP (f46_wanted w i (by omega)) ?_
        rw [hw]
        simp -implicitDefEqProofs (disch := omega) only [go_sem, Int.reduceEq, Int.reduceLT, Int.reduceLE, Int.reduceToNat, Int.reduceNeg, Int.reduceAdd, Int.reduceSub, Nat.reduceEqDiff, Nat.reduceAdd, Nat.reduceMul, Nat.reduceLeDiff, Nat.reduceSub, ↓reduceIte, reduceCtorEq, List.length_map, ha, c1, Hd.cells, Tables.cells, decide_true, eq_self, hb, hb6, hb3, hb4, hb6]
        refine hq _ _ _ (by simp only [pickL, lk_cons, Nat.reduceEqDiff, ↓reduceIte]; exact rfl) ?_
        clear hq q
        repeat' (first | refine wpL_seq ?_ | refine wpL_skip ?_ | refine wpL_label ?_ | refine wpL_scope ?_)
        refine wpL_cond rfl (fun hc11 => ?_) (fun hc11 => ?_)
        · cases hc11
        refine wpL_pick' [2, 3, 4, 6, 8, 10] (by simp only [pickL, lk_cons, Nat.reduceEqDiff, ↓reduceIte]; exact rfl) ?_
        repeat' (first | refine wpL_seq ?_ | refine wpL_skip ?_ | refine wpL_label ?_ | refine wpL_scope ?_)
        repeat' (first | refine wpL_seq ?_ | refine wpL_skip ?_ | refine wpL_label ?_ | refine wpL_scope ?_)
        exact wpL_nil (tail O hO hP)
      | true =>
        simp only [hw, decide_true, Bool.true_and] at hP
        repeat' (first | refine wpL_seq ?_ | refine wpL_skip ?_ | refine wpL_label ?_ | refine wpL_scope ?_)
        refine wpL_region' [2, 3, 4, 6, 8, 10, 76] fun q hq => ?_
        simp -implicitDefEqProofs (disch := omega) only [go_sem, Int.reduceEq, Int.reduceLT, Int.reduceLE, Int.reduceToNat, Int.reduceNeg, Int.reduceAdd, Int.reduceSub, Nat.reduceEqDiff, Nat.reduceAdd, Nat.reduceMul, Nat.reduceLeDiff, Nat.reduceSub, ↓reduceIte, reduceCtorEq, List.length_map, ha, c1, Hd.cells, Tables.cells, decide_true, eq_self, hb, hb6, hb3, hb4, hb6]
        refine gN_callP (f46_wanted w i (by omega)) ?_
        rw [hw]
        simp -implicitDefEqProofs (disch := omega) only [go_sem, Int.reduceEq, Int.reduceLT, Int.reduceLE, Int.reduceToNat, Int.reduceNeg, Int.reduceAdd, Int.reduceSub, Nat.reduceEqDiff, Nat.reduceAdd, Nat.reduceMul, Nat.reduceLeDiff, Nat.reduceSub, ↓reduceIte, reduceCtorEq, List.length_map, ha, c1, Hd.cells, Tables.cells, decide_true, eq_self, hb, hb6, hb3, hb4, hb6]
        refine gN_brw (.keep (.keep (.cons (Wk.all O (f := c1 .i64) (by simp only [go_sem, hb, hb6] <;> exact rfl) (ci_flat O) hO (fun _ => rfl)) (.keep .nil)))) q51 rfl ?_
        simp -implicitDefEqProofs (disch := omega) only [go_sem, Int.reduceEq, Int.reduceLT, Int.reduceLE, Int.reduceToNat, Int.reduceNeg, Int.reduceAdd, Int.reduceSub, Nat.reduceEqDiff, Nat.reduceAdd, Nat.reduceMul, Nat.reduceLeDiff, Nat.reduceSub, ↓reduceIte, reduceCtorEq, List.length_map, ha, c1, Hd.cells, Tables.cells, decide_true, eq_self, hb, hb6, hb3, hb4, hb6]
        refine hq _ _ _ (by simp only [pickL, lk_cons, Nat.reduceEqDiff, ↓reduceIte]; exact rfl) ?_
        clear hq q
        repeat' (first | refine wpL_seq ?_ | refine wpL_skip ?_ | refine wpL_label ?_ | refine wpL_scope ?_)
        refine wpL_cond rfl (fun hc11 => ?_) (fun hc11 => ?_)
        · rw [hc11, if_pos rfl] at hP
          repeat' (first | refine wpL_seq ?_ | refine wpL_skip ?_ | refine wpL_label ?_ | refine wpL_scope ?_)
          refine wpL_region' [2, 3, 4, 6, 8, 10] fun q hq => ?_
          simp -implicitDefEqProofs (disch := omega) only [go_sem, Int.reduceEq, Int.reduceLT, Int.reduceLE, Int.reduceToNat, Int.reduceNeg, Int.reduceAdd, Int.reduceSub, Nat.reduceEqDiff, Nat.reduceAdd, Nat.reduceMul, Nat.reduceLeDiff, Nat.reduceSub, ↓reduceIte, reduceCtorEq, List.length_map, hO, hset, hb, hb6, hb3, hb4, hb6]
          repeat (refine And.intro (by omega) ?_)
          refine hq _ _ _ (by simp only [pickL, lk_cons, Nat.reduceEqDiff, ↓reduceIte]; exact rfl) ?_
          clear hq q
          repeat' (first | refine wpL_seq ?_ | refine wpL_skip ?_ | refine wpL_label ?_ | refine wpL_scope ?_)
          refine wpL_region' [2, 3, 4, 6, 8, 10, 86] fun q hq => ?_
          simp -implicitDefEqProofs (disch := omega) only [go_sem, Int.reduceEq, Int.reduceLT, Int.reduceLE, Int.reduceToNat, Int.reduceNeg, Int.reduceAdd, Int.reduceSub, Nat.reduceEqDiff, Nat.reduceAdd, Nat.reduceMul, Nat.reduceLeDiff, Nat.reduceSub, ↓reduceIte, reduceCtorEq, List.length_map, hg, Tables.cells, Group.cells, hb, hb6, hb3, hb4, hb6]
          repeat (refine And.intro (by omega) ?_)
          refine hq _ _ _ (by simp only [pickL, lk_cons, Nat.reduceEqDiff, ↓reduceIte]; exact rfl) ?_
          clear hq q
          repeat' (first | refine wpL_seq ?_ | refine wpL_skip ?_ | refine wpL_label ?_ | refine wpL_scope ?_)
          refine wpL_cond rfl (fun hc12 => ?_) (fun hc12 => ?_)
          · simp at hc12
            have hset2 : ∀ v : Int, List.take i (List.map ci (O.set i 2)) ++ [AV.int .i64 v] ++ List.drop (i + 1) (List.map ci (O.set i 2)) = (O.set i v).map ci := fun v => by rw [set_of_take (by simp; omega), ← List.map_set, List.set_set]
            rw [firstOf, if_pos hc12] at hP
            repeat' (first | refine wpL_seq ?_ | refine wpL_skip ?_ | refine wpL_label ?_ | refine wpL_scope ?_)
            refine wpL_region' [2, 3, 4, 6, 8, 10] fun q hq => ?_
            simp -implicitDefEqProofs (disch := omega) only [go_sem, Int.reduceEq, Int.reduceLT, Int.reduceLE, Int.reduceToNat, Int.reduceNeg, Int.reduceAdd, Int.reduceSub, Nat.reduceEqDiff, Nat.reduceAdd, Nat.reduceMul, Nat.reduceLeDiff, Nat.reduceSub, ↓reduceIte, reduceCtorEq, List.length_map, List.length_set, hO, hset2, hb, hb6, hb3, hb4, hb6]
            repeat (refine And.intro (by omega) ?_)
            refine hq _ _ _ (by simp only [pickL, lk_cons, Nat.reduceEqDiff, ↓reduceIte]; exact rfl) ?_
            clear hq q
            repeat' (first | refine wpL_seq ?_ | refine wpL_skip ?_ | refine wpL_label ?_ | refine wpL_scope ?_)
            exact wpL_nil (tail _ (by simp [hO]) hP)
          · simp at hc12
            rw [firstOf, if_neg (by omega)] at hP
            refine wpL_pick' [2, 3, 4, 6, 8, 10] (by simp only [pickL, lk_cons, Nat.reduceEqDiff, ↓reduceIte]; exact rfl) ?_
            repeat' (first | refine wpL_seq ?_ | refine wpL_skip ?_ | refine wpL_label ?_ | refine wpL_scope ?_)
            repeat' (first | refine wpL_seq ?_ | refine wpL_skip ?_ | refine wpL_label ?_ | refine wpL_scope ?_)
            exact wpL_nil (tail _ (by simp [hO]) hP)
        · rw [hc11] at hP
          simp only [Bool.false_eq_true, if_false] at hP
          refine wpL_pick' [2, 3, 4, 6, 8, 10] (by simp only [pickL, lk_cons, Nat.reduceEqDiff, ↓reduceIte]; exact rfl) ?_
          repeat' (first | refine wpL_seq ?_ | refine wpL_skip ?_ | refine wpL_label ?_ | refine wpL_scope ?_)
          repeat' (first | refine wpL_seq ?_ | refine wpL_skip ?_ | refine wpL_label ?_ | refine wpL_scope ?_)
          exact wpL_nil (tail O hO hP)
    · simp only [ha0, decide_false, Bool.false_and, Bool.false_eq_true, if_false] at hP
      repeat' (first | refine wpL_seq ?_ | refine wpL_skip ?_ | refine wpL_label ?_ | refine wpL_scope ?_)
      refine wpL_region' [2, 3, 4, 6, 8, 10, 76] fun q hq => ?_
      simp -implicitDefEqProofs (disch := omega) only [go_sem, Int.reduceEq, Int.reduceLT, Int.reduceLE, Int.reduceToNat, Int.reduceNeg, Int.reduceAdd, Int.reduceSub, Nat.reduceEqDiff, Nat.reduceAdd, Nat.reduceMul, Nat.reduceLeDiff, Nat.reduceSub, ↓reduceIte, reduceCtorEq, List.length_map, ha, c1, Hd.cells, Tables.cells, ha0, decide_false, hb, hb6, hb3, hb4, hb6]
      repeat (refine And.intro (by omega) ?_)
      refine hq _ _ _ (by simp only [pickL, lk_cons, Nat.reduceEqDiff, ↓reduceIte]; exact rfl) ?_
      clear hq q
      repeat' (first | refine wpL_seq ?_ | refine wpL_skip ?_ | refine wpL_label ?_ | refine wpL_scope ?_)
      refine wpL_cond rfl (fun hc11 => ?_) (fun hc11 => ?_)
      · cases hc11
      refine wpL_pick' [2, 3, 4, 6, 8, 10] (by simp only [pickL, lk_cons, Nat.reduceEqDiff, ↓reduceIte]; exact rfl) ?_
      repeat' (first | refine wpL_seq ?_ | refine wpL_skip ?_ | refine wpL_label ?_ | refine wpL_scope ?_)
      repeat' (first | refine wpL_seq ?_ | refine wpL_skip ?_ | refine wpL_label ?_ | refine wpL_scope ?_)
      exact wpL_nil (tail O hO hP)
  simp at hc9
  obtain rfl : i = t.groups.length := by omega
  rw [List.drop_eq_nil_of_le (Nat.le_refl _), secondFrom.eq_2 _ _ _ _ _ _ _ (by simp)] at hP
  subst hP
  repeat' (first | refine wpL_seq ?_ | refine wpL_skip ?_ | refine wpL_label ?_ | refine wpL_scope ?_)
  refine wpL_exit (hx8 _ _ _ (by simp) (hx7 _ _ ?_))
  have hnl := nextL_length (w := w) l1 l2
  generalize hNX : nextL t h w = NX at hnl
  refine wpL_frzS' 8 (NX.map (c1 .i64)) rfl (by simp only [go_sem, hb, hb6] <;> exact rfl) rfl (ci_flat NX) (by simpa using hnl) (fun e he => by obtain ⟨a, _, rfl⟩ := List.mem_map.1 he; rfl) (by simp only [setL] <;> exact rfl) (by simp only [go_sem, hb, hb6] <;> exact rfl) ?_
  repeat' (first | refine wpL_seq ?_ | refine wpL_skip ?_ | refine wpL_label ?_ | refine wpL_scope ?_)
  refine wpL_region' [4, 6, 8, 11] fun q hq => ?_
  simp -implicitDefEqProofs (disch := omega) only [go_sem, Int.reduceEq, Int.reduceLT, Int.reduceLE, Int.reduceToNat, Int.reduceNeg, Int.reduceAdd, Int.reduceSub, Nat.reduceEqDiff, Nat.reduceAdd, Nat.reduceMul, Nat.reduceLeDiff, Nat.reduceSub, ↓reduceIte, reduceCtorEq, hb6, hb3, hb4, hb6]
  repeat (refine And.intro (by omega) ?_)
  refine gN_new fun b11 hb11 => ?_
  try simp only [newIn_put, newIn_upd] at hb11
  simp -implicitDefEqProofs (disch := omega) only [go_sem, Int.reduceEq, Int.reduceLT, Int.reduceLE, Int.reduceToNat, Int.reduceNeg, Int.reduceAdd, Int.reduceSub, Nat.reduceEqDiff, Nat.reduceAdd, Nat.reduceMul, Nat.reduceLeDiff, Nat.reduceSub, ↓reduceIte, reduceCtorEq, hb6, hb3, hb4, hb6, hb11]
  repeat (refine And.intro (by omega) ?_)
  refine hq _ _ _ (by simp only [pickL, lk_cons, Nat.reduceEqDiff, ↓reduceIte]; exact rfl) ?_
  clear hq q
  refine wpL_vecC b11 1 1 21 (k := ⟨.own, [.rs 1 (NX.map (c1 .i64)), .snil, .snil], 29, []⟩) (by simp only [go_sem, hb6, hb11]) rfl fun c0 hc0 => ?_
  simp only [go_sem, hb6, hb11, List.set_cons_zero, List.set_cons_succ] at hc0 ⊢
  refine wpL_vecC b11 2 1 21 (k := ⟨.own, [.rs 1 (NX.map (c1 .i64)), .sl c0 0 0 1, .snil], 29, []⟩) (by simp only [go_sem, hb6, hb11, hc0]) rfl fun d0 hd0 => ?_
  simp only [go_sem, hb6, hb11, hc0, List.set_cons_zero, List.set_cons_succ] at hd0 ⊢
  repeat' (first | refine wpL_seq ?_ | refine wpL_skip ?_ | refine wpL_label ?_ | refine wpL_scope ?_)
  refine wpL_region' [4, 6, 8, 11, 12] fun q hq => ?_
  simp -implicitDefEqProofs (disch := omega) only [go_sem, Int.reduceEq, Int.reduceLT, Int.reduceLE, Int.reduceToNat, Int.reduceNeg, Int.reduceAdd, Int.reduceSub, Nat.reduceEqDiff, Nat.reduceAdd, Nat.reduceMul, Nat.reduceLeDiff, Nat.reduceSub, ↓reduceIte, reduceCtorEq, hb6, hb11, hb3, hb4, hb6, hb11]
  repeat (refine And.intro (by omega) ?_)
  refine hq _ _ _ (by simp only [pickL, lk_cons, Nat.reduceEqDiff, ↓reduceIte]; exact rfl) ?_
  clear hq q
  repeat' (first | refine wpL_seq ?_ | refine wpL_skip ?_ | refine wpL_label ?_ | refine wpL_scope ?_)
  refine wpL_block fun k13 hn13 hx13 ho13 => ?_
  refine wpL_loop (fun j e H => ∃ (i c d : Nat) (A B : List Int), i ≤ t.groups.length ∧ j = t.groups.length - i ∧
      ((c = b11) = False ∧ (b11 = c) = False ∧ (c = b6) = False ∧ (b6 = c) = False ∧ NewIn Heap.emp c) ∧ ((d = c) = False ∧ (c = d) = False ∧ (d = b11) = False ∧ (b11 = d) = False ∧ (d = b6) = False ∧ (b6 = d) = False ∧ NewIn Heap.emp d) ∧
      A.length = i ∧ B.length = i ∧
      H = (((Heap.emp.put b6 ⟨.own, [.snil, .snil, .snil], 29, []⟩).put b11 ⟨.own, [.rs 1 (NX.map (c1 .i64)), .sl c 0 i 1, .sl d 0 i 1], 29, []⟩).put c ⟨.own, A.map di, 21, []⟩).put d ⟨.own, B.map di, 21, []⟩ ∧
      A ++ insFrom (NX.drop i) (h.aspect.drop i) (h.ins.drop i) = insFrom NX h.aspect h.ins ∧ B ++ awFrom (NX.drop i) (h.away.drop i) = awFrom NX h.away ∧
      e = lk [(4, .rp h.cells 0), (6, .ptr b6 0), (8, .rs 1 (NX.map (c1 .i64))), (11, .ptr b11 0), (12, .int .i64 i)]) t.groups.length ⟨0, c0, d0, [], [], by omega, by omega, hc0, hd0, rfl, rfl, rfl, rfl, rfl, rfl⟩ ?_
  clear hc0 hd0 hn8 hx8 k8
  rintro j e H ⟨i, c, d, A, B, hi, rfl, hc, hd, hA, hB, rfl, hP, hQ, rfl⟩ k14 hn14 hx14
  repeat' (first | refine wpL_seq ?_ | refine wpL_skip ?_ | refine wpL_label ?_ | refine wpL_scope ?_)
  refine wpL_region' [4, 6, 8, 11, 12, 95] fun q hq => ?_
  simp -implicitDefEqProofs (disch := omega) only [go_sem, Int.reduceEq, Int.reduceLT, Int.reduceLE, Int.reduceToNat, Int.reduceNeg, Int.reduceAdd, Int.reduceSub, Nat.reduceEqDiff, Nat.reduceAdd, Nat.reduceMul, Nat.reduceLeDiff, Nat.reduceSub, ↓reduceIte, reduceCtorEq, List.length_map, hnl, hb6, hb11, hc, hd, hb3, hb4, hb6, hb11]
  repeat (refine And.intro (by omega) ?_)
  refine hq _ _ _ (by simp only [pickL, lk_cons, Nat.reduceEqDiff, ↓reduceIte]; exact rfl) ?_
  clear hq q
  repeat' (first | refine wpL_seq ?_ | refine wpL_skip ?_ | refine wpL_label ?_ | refine wpL_scope ?_)
  refine wpL_cond rfl (fun hc15 => ?_) (fun hc15 => ?_)
  · simp at hc15
    obtain ⟨v, hv⟩ := get_of_lt (show i < NX.length by omega)
    obtain ⟨a, ha⟩ := get_of_lt (show i < h.aspect.length by omega)
    obtain ⟨x, hx⟩ := get_of_lt (show i < h.ins.length by omega)
    obtain ⟨y, hy⟩ := get_of_lt (show i < h.away.length by omega)
    have hxr := hI.i x (List.mem_of_getElem? hx)
    have hyr := hI.w y (List.mem_of_getElem? hy)
    rw [drop_get hv, drop_get ha, drop_get hx, insFrom] at hP
    rw [drop_get hv, drop_get hy, awFrom] at hQ
    repeat' (first | refine wpL_seq ?_ | refine wpL_skip ?_ | refine wpL_label ?_ | refine wpL_scope ?_)
    refine wpL_block fun k16 hn16 hx16 ho16 => ?_
    repeat' (first | refine wpL_seq ?_ | refine wpL_skip ?_ | refine wpL_label ?_ | refine wpL_scope ?_)
    refine wpL_region' [4, 6, 8, 11, 12, 13] fun q hq => ?_
    simp -implicitDefEqProofs (disch := omega) only [go_sem, Int.reduceEq, Int.reduceLT, Int.reduceLE, Int.reduceToNat, Int.reduceNeg, Int.reduceAdd, Int.reduceSub, Nat.reduceEqDiff, Nat.reduceAdd, Nat.reduceMul, Nat.reduceLeDiff, Nat.reduceSub, ↓reduceIte, reduceCtorEq, hb6, hb11, hc, hd, hb3, hb4, hb6, hb11]
    repeat (refine And.intro (by omega) ?_)
    refine hq _ _ _ (by simp only [pickL, lk_cons, Nat.reduceEqDiff, ↓reduceIte]; exact rfl) ?_
    clear hq q
    repeat' (first | refine wpL_seq ?_ | refine wpL_skip ?_ | refine wpL_label ?_ | refine wpL_scope ?_)
    refine wpL_draw' [4, 6, 8, 11, 12, 13, 107] [0, 1, 2, 4, 6, 3, 5, 7, 8, 9] [] [] (by kernel_rfl) (by kernel_rfl) (by kernel_rfl) fun q hq => ?_
    simp -implicitDefEqProofs (disch := omega) only [go_sem, Int.reduceEq, Int.reduceLT, Int.reduceLE, Int.reduceToNat, Int.reduceNeg, Int.reduceAdd, Int.reduceSub, Nat.reduceEqDiff, Nat.reduceAdd, Nat.reduceMul, Nat.reduceLeDiff, Nat.reduceSub, ↓reduceIte, reduceCtorEq, List.length_map, hv, ha, c1, Hd.cells, hb6, hb11, hc, hd, hb3, hb4, hb6, hb11]
    repeat (refine And.intro (by omega) ?_)
    refine hq _ _ _ (by simp only [pickL, lk_cons, Nat.reduceEqDiff, ↓reduceIte]; exact rfl) ?_
    clear hq q
    repeat' (first | refine wpL_seq ?_ | refine wpL_skip ?_ | refine wpL_label ?_ | refine wpL_scope ?_)
    refine wpL_condK rfl fun j17 hj17 ox17 => ?_
    have tail17 : ∀ u, u = inOf v a x → j17 .normal (lk [(4, .rp h.cells 0), (6, .ptr b6 0), (8, .rs 1 (NX.map (c1 .i64))), (11, .ptr b11 0), (12, .int .i64 i), (13, .int .i32 u)])
        ((((Heap.emp.put b6 ⟨.own, [.snil, .snil, .snil], 29, []⟩).put b11 ⟨.own, [.rs 1 (NX.map (c1 .i64)), .sl c 0 i 1, .sl d 0 i 1], 29, []⟩).put c ⟨.own, A.map di, 21, []⟩).put d ⟨.own, B.map di, 21, []⟩) := by
      intro u hu
      refine hj17 _ _ ?_
      repeat' (first | refine wpL_seq ?_ | refine wpL_skip ?_ | refine wpL_label ?_ | refine wpL_scope ?_)
      refine wpL_region' [4, 6, 8, 11, 12, 13, 14] fun q hq => ?_
      simp -implicitDefEqProofs (disch := omega) only [go_sem, Int.reduceEq, Int.reduceLT, Int.reduceLE, Int.reduceToNat, Int.reduceNeg, Int.reduceAdd, Int.reduceSub, Nat.reduceEqDiff, Nat.reduceAdd, Nat.reduceMul, Nat.reduceLeDiff, Nat.reduceSub, ↓reduceIte, reduceCtorEq, hb6, hb11, hc, hd, hb3, hb4, hb6, hb11]
      repeat (refine And.intro (by omega) ?_)
      refine hq _ _ _ (by simp only [pickL, lk_cons, Nat.reduceEqDiff, ↓reduceIte]; exact rfl) ?_
      clear hq q
      repeat' (first | refine wpL_seq ?_ | refine wpL_skip ?_ | refine wpL_label ?_ | refine wpL_scope ?_)
      refine wpL_region' [4, 6, 8, 11, 12, 13, 14, 118] fun q hq => ?_
      simp -implicitDefEqProofs (disch := omega) only [go_sem, Int.reduceEq, Int.reduceLT, Int.reduceLE, Int.reduceToNat, Int.reduceNeg, Int.reduceAdd, Int.reduceSub, Nat.reduceEqDiff, Nat.reduceAdd, Nat.reduceMul, Nat.reduceLeDiff, Nat.reduceSub, ↓reduceIte, reduceCtorEq, List.length_map, hv, c1, hb6, hb11, hc, hd, hb3, hb4, hb6, hb11]
      repeat (refine And.intro (by omega) ?_)
      refine hq _ _ _ (by simp only [pickL, lk_cons, Nat.reduceEqDiff, ↓reduceIte]; exact rfl) ?_
      clear hq q
      repeat' (first | refine wpL_seq ?_ | refine wpL_skip ?_ | refine wpL_label ?_ | refine wpL_scope ?_)
      refine wpL_condK rfl fun j18 hj18 ox18 => ?_
      have tail18 : ∀ z, z = awOf v y → j18 .normal (lk [(4, .rp h.cells 0), (6, .ptr b6 0), (8, .rs 1 (NX.map (c1 .i64))), (11, .ptr b11 0), (12, .int .i64 i), (13, .int .i32 u), (14, .int .i32 z)])
          ((((Heap.emp.put b6 ⟨.own, [.snil, .snil, .snil], 29, []⟩).put b11 ⟨.own, [.rs 1 (NX.map (c1 .i64)), .sl c 0 i 1, .sl d 0 i 1], 29, []⟩).put c ⟨.own, A.map di, 21, []⟩).put d ⟨.own, B.map di, 21, []⟩) := by
        intro z hz
        refine hj18 _ _ ?_
        repeat' (first | refine wpL_seq ?_ | refine wpL_skip ?_ | refine wpL_label ?_ | refine wpL_scope ?_)
        refine wpL_region' [4, 6, 8, 11, 12, 14] fun q hq => ?_
        simp -implicitDefEqProofs (disch := omega) only [go_sem, Int.reduceEq, Int.reduceLT, Int.reduceLE, Int.reduceToNat, Int.reduceNeg, Int.reduceAdd, Int.reduceSub, Nat.reduceEqDiff, Nat.reduceAdd, Nat.reduceMul, Nat.reduceLeDiff, Nat.reduceSub, ↓reduceIte, reduceCtorEq, hb6, hb11, hc, hd, hb3, hb4, hb6, hb11]
        repeat (refine And.intro (by omega) ?_)
        refine gN_new fun b128 hb128 => ?_
        try simp only [newIn_put, newIn_upd] at hb128
        simp -implicitDefEqProofs (disch := omega) only [go_sem, Int.reduceEq, Int.reduceLT, Int.reduceLE, Int.reduceToNat, Int.reduceNeg, Int.reduceAdd, Int.reduceSub, Nat.reduceEqDiff, Nat.reduceAdd, Nat.reduceMul, Nat.reduceLeDiff, Nat.reduceSub, ↓reduceIte, reduceCtorEq, hb6, hb11, hc, hd, hb3, hb4, hb6, hb11, hb128]
        repeat (refine And.intro (by omega) ?_)
        refine gN_appV ti27 rfl ti21 rfl (by decide) (SrcV.sl (by simp only [go_sem, hb6, hb11, hc, hd, hb3, hb4, hb6, hb11, hb128] <;> exact rfl) rfl rfl) (by simp only [go_sem, hb6, hb11, hc, hd, hb3, hb4, hb6, hb11, hb128] <;> exact rfl) ((by simp [hA])) (by dsimp only; omega) (by simp only [maxInt]; omega) fun b129 hb129 => ?_
        try simp only [go_sem, hb6, hb11, hc, hd, hb3, hb4, hb6, hb11, hb128] at hb129
        simp -implicitDefEqProofs (disch := omega) only [go_sem, Int.reduceEq, Int.reduceLT, Int.reduceLE, Int.reduceToNat, Int.reduceNeg, Int.reduceAdd, Int.reduceSub, Nat.reduceEqDiff, Nat.reduceAdd, Nat.reduceMul, Nat.reduceLeDiff, Nat.reduceSub, ↓reduceIte, reduceCtorEq, hb6, hb11, hc, hd, hb3, hb4, hb6, hb11, hb128, hb129]
        repeat (refine And.intro (by omega) ?_)
        refine hq _ _ _ (by simp only [pickL, lk_cons, Nat.reduceEqDiff, ↓reduceIte]; exact rfl) ?_
        clear hq q
        refine wpL_del' b128 (by simp only [go_sem, hb3, hb4, hb6, hb11, hb128, hb129]; exact rfl) ?_
        repeat' (first | refine wpL_seq ?_ | refine wpL_skip ?_ | refine wpL_label ?_ | refine wpL_scope ?_)
        refine wpL_region' [4, 6, 8, 11, 12] fun q hq => ?_
        simp -implicitDefEqProofs (disch := omega) only [go_sem, Int.reduceEq, Int.reduceLT, Int.reduceLE, Int.reduceToNat, Int.reduceNeg, Int.reduceAdd, Int.reduceSub, Nat.reduceEqDiff, Nat.reduceAdd, Nat.reduceMul, Nat.reduceLeDiff, Nat.reduceSub, ↓reduceIte, reduceCtorEq, hb6, hb11, hc, hd, hb3, hb4, hb6, hb11, hb128, hb129]
        repeat (refine And.intro (by omega) ?_)
        refine gN_new fun b134 hb134 => ?_
        try simp only [newIn_put, newIn_upd] at hb134
        simp -implicitDefEqProofs (disch := omega) only [go_sem, Int.reduceEq, Int.reduceLT, Int.reduceLE, Int.reduceToNat, Int.reduceNeg, Int.reduceAdd, Int.reduceSub, Nat.reduceEqDiff, Nat.reduceAdd, Nat.reduceMul, Nat.reduceLeDiff, Nat.reduceSub, ↓reduceIte, reduceCtorEq, hb6, hb11, hc, hd, hb3, hb4, hb6, hb11, hb128, hb129, hb134]
        repeat (refine And.intro (by omega) ?_)
        refine gN_appV ti27 rfl ti21 rfl (by decide) (SrcV.sl (by simp only [go_sem, hb6, hb11, hc, hd, hb3, hb4, hb6, hb11, hb128, hb129, hb134] <;> exact rfl) rfl rfl) (by simp only [go_sem, hb6, hb11, hc, hd, hb3, hb4, hb6, hb11, hb128, hb129, hb134] <;> exact rfl) ((by simp [hB])) (by dsimp only; omega) (by simp only [maxInt]; omega) fun b135 hb135 => ?_
        try simp only [go_sem, hb6, hb11, hc, hd, hb3, hb4, hb6, hb11, hb128, hb129, hb134] at hb135
        simp -implicitDefEqProofs (disch := omega) only [go_sem, Int.reduceEq, Int.reduceLT, Int.reduceLE, Int.reduceToNat, Int.reduceNeg, Int.reduceAdd, Int.reduceSub, Nat.reduceEqDiff, Nat.reduceAdd, Nat.reduceMul, Nat.reduceLeDiff, Nat.reduceSub, ↓reduceIte, reduceCtorEq, hb6, hb11, hc, hd, hb3, hb4, hb6, hb11, hb128, hb129, hb134, hb135]
        repeat (refine And.intro (by omega) ?_)
        refine hq _ _ _ (by simp only [pickL, lk_cons, Nat.reduceEqDiff, ↓reduceIte]; exact rfl) ?_
        clear hq q
        refine wpL_del' b134 (by simp only [go_sem, hb3, hb4, hb6, hb11, hb128, hb129, hb134, hb135]; exact rfl) ?_
        repeat' (first | refine wpL_seq ?_ | refine wpL_skip ?_ | refine wpL_label ?_ | refine wpL_scope ?_)
        refine wpL_nil (hn16 _ _ ?_)
        repeat' (first | refine wpL_seq ?_ | refine wpL_skip ?_ | refine wpL_label ?_ | refine wpL_scope ?_)
        refine wpL_region' [4, 6, 8, 11, 12] fun q hq => ?_
        simp -implicitDefEqProofs (disch := omega) only [go_sem, Int.reduceEq, Int.reduceLT, Int.reduceLE, Int.reduceToNat, Int.reduceNeg, Int.reduceAdd, Int.reduceSub, Nat.reduceEqDiff, Nat.reduceAdd, Nat.reduceMul, Nat.reduceLeDiff, Nat.reduceSub, ↓reduceIte, reduceCtorEq, hb6, hb11, hc, hd, hb3, hb4, hb6, hb11, hb128, hb129, hb134, hb135]
        repeat (refine And.intro (by omega) ?_)
        refine hq _ _ _ (by simp only [pickL, lk_cons, Nat.reduceEqDiff, ↓reduceIte]; exact rfl) ?_
        clear hq q
        repeat' (first | refine wpL_seq ?_ | refine wpL_skip ?_ | refine wpL_label ?_ | refine wpL_scope ?_)
        exact wpL_nil (hn14 (t.groups.length - (i + 1)) _ _ (by omega) ⟨i + 1, b129, b135, A ++ [u], B ++ [z], by omega, by omega, by simp_all, by simp_all, by simp [hA], by simp [hB], by simp [di], by rw [hu]; simpa using hP, by rw [hz]; simpa using hQ, rfl⟩)
      refine ⟨fun hc18 => ?_, fun hc18 => ?_⟩
      · simp at hc18
        repeat' (first | refine wpL_seq ?_ | refine wpL_skip ?_ | refine wpL_label ?_ | refine wpL_scope ?_)
        refine wpL_region' [4, 6, 8, 11, 12, 13, 14] fun q hq => ?_
        simp -implicitDefEqProofs (disch := omega) only [go_sem, Int.reduceEq, Int.reduceLT, Int.reduceLE, Int.reduceToNat, Int.reduceNeg, Int.reduceAdd, Int.reduceSub, Nat.reduceEqDiff, Nat.reduceAdd, Nat.reduceMul, Nat.reduceLeDiff, Nat.reduceSub, ↓reduceIte, reduceCtorEq, Hd.cells, List.length_map, hy, c1, hb6, hb11, hc, hd, hb3, hb4, hb6, hb11]
        repeat (refine And.intro (by omega) ?_)
        refine gN_callP (f52_up y hyr) ?_
        simp -implicitDefEqProofs (disch := omega) only [go_sem, Int.reduceEq, Int.reduceLT, Int.reduceLE, Int.reduceToNat, Int.reduceNeg, Int.reduceAdd, Int.reduceSub, Nat.reduceEqDiff, Nat.reduceAdd, Nat.reduceMul, Nat.reduceLeDiff, Nat.reduceSub, ↓reduceIte, reduceCtorEq, Hd.cells, List.length_map, hy, c1, hb6, hb11, hc, hd, hb3, hb4, hb6, hb11]
        repeat (refine And.intro (by omega) ?_)
        refine hq _ _ _ (by simp only [pickL, lk_cons, Nat.reduceEqDiff, ↓reduceIte]; exact rfl) ?_
        clear hq q
        repeat' (first | refine wpL_seq ?_ | refine wpL_skip ?_ | refine wpL_label ?_ | refine wpL_scope ?_)
        exact wpL_nil (tail18 _ (by simp [awOf, hc18]))
      · simp at hc18
        refine wpL_pick' [4, 6, 8, 11, 12, 13, 14] (by simp only [pickL, lk_cons, Nat.reduceEqDiff, ↓reduceIte]; exact rfl) ?_
        repeat' (first | refine wpL_seq ?_ | refine wpL_skip ?_ | refine wpL_label ?_ | refine wpL_scope ?_)
        repeat' (first | refine wpL_seq ?_ | refine wpL_skip ?_ | refine wpL_label ?_ | refine wpL_scope ?_)
        exact wpL_nil (tail18 0 (by simp [awOf, hc18]))
    refine ⟨fun hc17 => ?_, fun hc17 => ?_⟩
    · simp at hc17
      repeat' (first | refine wpL_seq ?_ | refine wpL_skip ?_ | refine wpL_label ?_ | refine wpL_scope ?_)
      refine wpL_region' [4, 6, 8, 11, 12, 13] fun q hq => ?_
      simp -implicitDefEqProofs (disch := omega) only [go_sem, Int.reduceEq, Int.reduceLT, Int.reduceLE, Int.reduceToNat, Int.reduceNeg, Int.reduceAdd, Int.reduceSub, Nat.reduceEqDiff, Nat.reduceAdd, Nat.reduceMul, Nat.reduceLeDiff, Nat.reduceSub, ↓reduceIte, reduceCtorEq, Hd.cells, List.length_map, hx, c1, hb6, hb11, hc, hd, hb3, hb4, hb6, hb11]
      repeat (refine And.intro (by omega) ?_)
      refine gN_callP (f52_up x hxr) ?_
      simp -implicitDefEqProofs (disch := omega) only [go_sem, Int.reduceEq, Int.reduceLT, Int.reduceLE, Int.reduceToNat, Int.reduceNeg, Int.reduceAdd, Int.reduceSub, Nat.reduceEqDiff, Nat.reduceAdd, Nat.reduceMul, Nat.reduceLeDiff, Nat.reduceSub, ↓reduceIte, reduceCtorEq, Hd.cells, List.length_map, hx, c1, hb6, hb11, hc, hd, hb3, hb4, hb6, hb11]
      repeat (refine And.intro (by omega) ?_)
      refine hq _ _ _ (by simp only [pickL, lk_cons, Nat.reduceEqDiff, ↓reduceIte]; exact rfl) ?_
      clear hq q
      repeat' (first | refine wpL_seq ?_ | refine wpL_skip ?_ | refine wpL_label ?_ | refine wpL_scope ?_)
      exact wpL_nil (tail17 _ (by simp [inOf, hc17]))
    · simp at hc17
      refine wpL_pick' [4, 6, 8, 11, 12, 13] (by simp only [pickL, lk_cons, Nat.reduceEqDiff, ↓reduceIte]; exact rfl) ?_
      repeat' (first | refine wpL_seq ?_ | refine wpL_skip ?_ | refine wpL_label ?_ | refine wpL_scope ?_)
      repeat' (first | refine wpL_seq ?_ | refine wpL_skip ?_ | refine wpL_label ?_ | refine wpL_scope ?_)
      exact wpL_nil (tail17 1 (by simp [inOf, hc17]))
  simp at hc15
  obtain rfl : i = t.groups.length := by omega
  rw [List.drop_eq_nil_of_le (by omega), insFrom.eq_2 _ _ _ (by simp), List.append_nil] at hP
  rw [List.drop_eq_nil_of_le (by omega), awFrom.eq_2 _ _ (by simp), List.append_nil] at hQ
  repeat' (first | refine wpL_seq ?_ | refine wpL_skip ?_ | refine wpL_label ?_ | refine wpL_scope ?_)
  refine wpL_exit (hx14 _ _ _ (by simp) (hx13 _ _ ?_))
  repeat' (first | refine wpL_seq ?_ | refine wpL_skip ?_ | refine wpL_label ?_ | refine wpL_scope ?_)
  refine wpL_region' [6, 7] fun q hq => ?_
  simp -implicitDefEqProofs (disch := omega) only [go_sem, Int.reduceEq, Int.reduceLT, Int.reduceLE, Int.reduceToNat, Int.reduceNeg, Int.reduceAdd, Int.reduceSub, Nat.reduceEqDiff, Nat.reduceAdd, Nat.reduceMul, Nat.reduceLeDiff, Nat.reduceSub, ↓reduceIte, reduceCtorEq, hb6, hb11, hc, hd, hb3, hb4, hb6, hb11]
  repeat (refine And.intro (by omega) ?_)
  refine hq _ _ _ (by simp only [pickL, lk_cons, Nat.reduceEqDiff, ↓reduceIte]; exact rfl) ?_
  clear hq q
  repeat' (first | refine wpL_seq ?_ | refine wpL_skip ?_ | refine wpL_label ?_ | refine wpL_scope ?_)
  refine wpL_ret (hK' _ _ _ _ (.inr rfl) (resTo (rs' := [.cell 6 29, .tmp 7]) rfl (by simp only [go_sem, Int.reduceEq, Int.reduceLT, Int.reduceLE, Int.reduceToNat, Int.reduceNeg, Int.reduceAdd, Int.reduceSub, Nat.reduceEqDiff, Nat.reduceAdd, Nat.reduceMul, Nat.reduceLeDiff, Nat.reduceSub, ↓reduceIte, reduceCtorEq, hb6, hb11, hc, hd, hb3, hb4, hb6, hb11]; exact rfl)) ?_)
  subst hP; subst hQ; subst hNX
  refine ⟨[⟨c, 1, t.groups.length, (insFrom (nextL t h w) h.aspect h.ins).map (c1 .i32)⟩, ⟨d, 1, t.groups.length, (awFrom (nextL t h w) h.away).map (c1 .i32)⟩], .cons (by simp only [go_sem, hb6, hb11, hc, hd] <;> exact rfl) rfl (Els.of (c1_len _) _ (di_flat _) hA) (by simp only [go_sem, hb6, hb11, hc, hd]) (.cons (by simp only [go_sem, hb6, hb11, hc, hd] <;> exact rfl) rfl (Els.of (c1_len _) _ (di_flat _) hB) (by simp only [go_sem, hb6, hb11, hc, hd]) (.nil)), ?_⟩
  simp only [go_sem, Nat.reduceEqDiff, ↓reduceIte, reduceCtorEq, hb6, hb11, hc, hd]
  rfl
end Go.Proofs.Ytdchdlabdokjnaa.Am.H
