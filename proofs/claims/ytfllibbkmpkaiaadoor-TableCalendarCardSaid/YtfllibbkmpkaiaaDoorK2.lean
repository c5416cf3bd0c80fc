/- The calendar: a date's number, a number's date. -/
import Derived.Test.YtfllibbkmpkaiaaDoorK1
namespace Go.Proofs.YtfllibbkmpkaiaaDoor.Am.T
set_option linter.unusedSectionVars false
open Go Go.Proofs Am
set_option linter.unusedVariables false
set_option linter.unusedSimpArgs false
set_option maxRecDepth 100000
attribute [local irreducible] gO gN gW gdO

def dn (y m d : Int) : Int := if validD y m d then dayNum y m d else 0
def dnE (y m d : Int) : Int := if validD y m d then 0 else 189
theorem ahead_in {y : Int} (h1 : 2000 ≤ y) (h2 : y ≤ 2400) : 0 ≤ ahead y ∧ ahead y ≤ 146400 := by
  have := ahead_lo h1
  have h := ahead_le h1
  rw [ahead_0] at h
  omega
theorem msum_in (y : Int) {n : Nat} (h : n ≤ 12) : 0 ≤ msum y n ∧ msum y n ≤ 366 := by
  have h1 := msum_mono y (a := 0) (b := n) (by omega)
  have h2 := msum_mono y h
  rw [msum_year] at h2
  have := ylen_pos y
  simp only [msum] at h1
  omega
theorem f7_number (y m d : Int) : wpP Tryd.prog 7 [.int .i64 y, .int .i64 m, .int .i64 d] (.tup [.int .i64 (dn y m d), .int .i64 (dnE y m d)]) := by
  refine wpP_intro ?_
  refine wpH_intro (fn := Tryd.f7) rfl rfl (by decide) (by kernel_rfl) fun K' hK' => ?_
  repeat' (first | refine wpL_seq ?_ | refine wpL_skip ?_ | refine wpL_label ?_ | refine wpL_scope ?_)
  refine wpL_region' [0, 1, 2] fun q hq => ?_
  simp -implicitDefEqProofs (disch := omega) only [go_sem, Int.reduceEq, Int.reduceLT, Int.reduceLE, Int.reduceToNat, Int.reduceNeg, Int.reduceAdd, Int.reduceSub, Nat.reduceEqDiff, Nat.reduceAdd, Nat.reduceMul, Nat.reduceLeDiff, Nat.reduceSub, ↓reduceIte, reduceCtorEq]
  repeat (refine And.intro (by omega) ?_)
  refine hq _ _ _ (by simp only [pickL, lk_cons, Int.reduceEq, Int.reduceLT, Int.reduceLE, Int.reduceToNat, Int.reduceNeg, Int.reduceAdd, Int.reduceSub, Nat.reduceEqDiff, Nat.reduceAdd, Nat.reduceMul, Nat.reduceLeDiff, Nat.reduceSub, ↓reduceIte, reduceCtorEq, if_true, if_false]; exact rfl) ?_
  clear hq q
  repeat' (first | refine wpL_seq ?_ | refine wpL_skip ?_ | refine wpL_label ?_ | refine wpL_scope ?_)
  refine wpL_regV [0, 1, 2] 34 (.bool (decide (¬ validD y m d))) (by simp only [pickL, put, lk_cons, Int.reduceEq, Int.reduceLT, Int.reduceLE, Int.reduceToNat, Int.reduceNeg, Int.reduceAdd, Int.reduceSub, Nat.reduceEqDiff, Nat.reduceAdd, Nat.reduceMul, Nat.reduceLeDiff, Nat.reduceSub, ↓reduceIte, reduceCtorEq, if_true, if_false]; exact rfl) (by decide) ?_ ?_
  · simp -implicitDefEqProofs (disch := omega) only [go_sem, Int.reduceEq, Int.reduceLT, Int.reduceLE, Int.reduceToNat, Int.reduceNeg, Int.reduceAdd, Int.reduceSub, Nat.reduceEqDiff, Nat.reduceAdd, Nat.reduceMul, Nat.reduceLeDiff, Nat.reduceSub, ↓reduceIte, reduceCtorEq]
    repeat' (first | (refine gN_split2 (fun hs => ?_) (fun hs => ?_) <;> simp -implicitDefEqProofs (disch := omega) only [go_sem, Int.reduceEq, Int.reduceLT, Int.reduceLE, Int.reduceToNat, Int.reduceNeg, Int.reduceAdd, Int.reduceSub, Nat.reduceEqDiff, Nat.reduceAdd, Nat.reduceMul, Nat.reduceLeDiff, Nat.reduceSub, ↓reduceIte, reduceCtorEq, hs]) | refine gN_callP (f24_length y m (by first | omega | (simp at *; omega)) (by first | omega | (simp at *; omega)) (by first | omega | (simp at *; omega))) ?_ | simp -implicitDefEqProofs (disch := omega) only [go_sem, Int.reduceEq, Int.reduceLT, Int.reduceLE, Int.reduceToNat, Int.reduceNeg, Int.reduceAdd, Int.reduceSub, Nat.reduceEqDiff, Nat.reduceAdd, Nat.reduceMul, Nat.reduceLeDiff, Nat.reduceSub, ↓reduceIte, reduceCtorEq] | refine And.intro (by omega) ?_)
    all_goals (try clear hK')
    all_goals ((simp only [validD]; grind))
  repeat' (first | refine wpL_seq ?_ | refine wpL_skip ?_ | refine wpL_label ?_ | refine wpL_scope ?_)
  refine wpL_cond rfl (fun hc1 => ?_) (fun hc1 => ?_)
  · simp at hc1
    repeat' (first | refine wpL_seq ?_ | refine wpL_skip ?_ | refine wpL_label ?_ | refine wpL_scope ?_)
    refine wpL_region' [6, 7] fun q hq => ?_
    simp -implicitDefEqProofs (disch := omega) only [go_sem, Int.reduceEq, Int.reduceLT, Int.reduceLE, Int.reduceToNat, Int.reduceNeg, Int.reduceAdd, Int.reduceSub, Nat.reduceEqDiff, Nat.reduceAdd, Nat.reduceMul, Nat.reduceLeDiff, Nat.reduceSub, ↓reduceIte, reduceCtorEq]
    repeat (refine And.intro (by omega) ?_)
    refine hq _ _ _ (by simp only [pickL, lk_cons, Int.reduceEq, Int.reduceLT, Int.reduceLE, Int.reduceToNat, Int.reduceNeg, Int.reduceAdd, Int.reduceSub, Nat.reduceEqDiff, Nat.reduceAdd, Nat.reduceMul, Nat.reduceLeDiff, Nat.reduceSub, ↓reduceIte, reduceCtorEq, if_true, if_false]; exact rfl) ?_
    clear hq q
    repeat' (first | refine wpL_seq ?_ | refine wpL_skip ?_ | refine wpL_label ?_ | refine wpL_scope ?_)
    refine wpL_ret (hK' _ _ _ _ (.inr rfl) (resTo (rs' := [.tmp 6, .tmp 7]) rfl (by simp only [go_sem, Int.reduceEq, Int.reduceLT, Int.reduceLE, Int.reduceToNat, Int.reduceNeg, Int.reduceAdd, Int.reduceSub, Nat.reduceEqDiff, Nat.reduceAdd, Nat.reduceMul, Nat.reduceLeDiff, Nat.reduceSub, ↓reduceIte, reduceCtorEq]; exact rfl)) ?_)
    rw [dn, dnE, if_neg hc1, if_neg hc1]
  have hv : validD y m d := by simpa using hc1
  obtain ⟨v1, v2, v3, v4, v5, v6⟩ := id hv
  have a1 := ahead_in v1 (by omega)
  have a2 := mlen_pos y m
  have hM : m = (m.toNat : Int) := by omega
  generalize m.toNat = M at hM
  subst hM
  repeat' (first | refine wpL_seq ?_ | refine wpL_skip ?_ | refine wpL_label ?_ | refine wpL_scope ?_)
  refine wpL_region' [0, 1, 8] fun q hq => ?_
  simp -implicitDefEqProofs (disch := omega) only [go_sem, Int.reduceEq, Int.reduceLT, Int.reduceLE, Int.reduceToNat, Int.reduceNeg, Int.reduceAdd, Int.reduceSub, Nat.reduceEqDiff, Nat.reduceAdd, Nat.reduceMul, Nat.reduceLeDiff, Nat.reduceSub, ↓reduceIte, reduceCtorEq]
  repeat (refine And.intro (by omega) ?_)
  refine gN_callP (f25_ahead y v1 (by omega)) ?_
  simp -implicitDefEqProofs (disch := omega) only [go_sem, Int.reduceEq, Int.reduceLT, Int.reduceLE, Int.reduceToNat, Int.reduceNeg, Int.reduceAdd, Int.reduceSub, Nat.reduceEqDiff, Nat.reduceAdd, Nat.reduceMul, Nat.reduceLeDiff, Nat.reduceSub, ↓reduceIte, reduceCtorEq]
  repeat (refine And.intro (by omega) ?_)
  refine hq _ _ _ (by simp only [pickL, lk_cons, Int.reduceEq, Int.reduceLT, Int.reduceLE, Int.reduceToNat, Int.reduceNeg, Int.reduceAdd, Int.reduceSub, Nat.reduceEqDiff, Nat.reduceAdd, Nat.reduceMul, Nat.reduceLeDiff, Nat.reduceSub, ↓reduceIte, reduceCtorEq, if_true, if_false]; exact rfl) ?_
  clear hq q
  repeat' (first | refine wpL_seq ?_ | refine wpL_skip ?_ | refine wpL_label ?_ | refine wpL_scope ?_)
  refine wpL_region' [0, 1, 8, 9] fun q hq => ?_
  simp -implicitDefEqProofs (disch := omega) only [go_sem, Int.reduceEq, Int.reduceLT, Int.reduceLE, Int.reduceToNat, Int.reduceNeg, Int.reduceAdd, Int.reduceSub, Nat.reduceEqDiff, Nat.reduceAdd, Nat.reduceMul, Nat.reduceLeDiff, Nat.reduceSub, ↓reduceIte, reduceCtorEq]
  repeat (refine And.intro (by omega) ?_)
  refine hq _ _ _ (by simp only [pickL, lk_cons, Int.reduceEq, Int.reduceLT, Int.reduceLE, Int.reduceToNat, Int.reduceNeg, Int.reduceAdd, Int.reduceSub, Nat.reduceEqDiff, Nat.reduceAdd, Nat.reduceMul, Nat.reduceLeDiff, Nat.reduceSub, ↓reduceIte, reduceCtorEq, if_true, if_false]; exact rfl) ?_
  clear hq q
  repeat' (first | refine wpL_seq ?_ | refine wpL_skip ?_ | refine wpL_label ?_ | refine wpL_scope ?_)
  refine wpL_block fun k2 hn2 hx2 ho2 => ?_
  refine wpL_loop (fun j e h => ∃ i : Nat, i + 1 ≤ M ∧ j = M - i ∧ h = Heap.emp ∧
    e = lk [(0, .int .i64 y), (1, .int .i64 M), (8, .int .i64 (ahead y + d - 1 + msum y i)), (9, .int .i64 (i + 1))]) M ⟨0, by omega, by omega, rfl, by simp [msum]⟩ ?_
  rintro j e h ⟨i, hi, rfl, rfl, rfl⟩ k3 hn3 hx3
  have s1 := msum_in y (n := i) (by omega)
  repeat' (first | refine wpL_seq ?_ | refine wpL_skip ?_ | refine wpL_label ?_ | refine wpL_scope ?_)
  refine wpL_region' [0, 1, 8, 9, 42] fun q hq => ?_
  simp -implicitDefEqProofs (disch := omega) only [go_sem, Int.reduceEq, Int.reduceLT, Int.reduceLE, Int.reduceToNat, Int.reduceNeg, Int.reduceAdd, Int.reduceSub, Nat.reduceEqDiff, Nat.reduceAdd, Nat.reduceMul, Nat.reduceLeDiff, Nat.reduceSub, ↓reduceIte, reduceCtorEq]
  repeat (refine And.intro (by omega) ?_)
  refine hq _ _ _ (by simp only [pickL, lk_cons, Int.reduceEq, Int.reduceLT, Int.reduceLE, Int.reduceToNat, Int.reduceNeg, Int.reduceAdd, Int.reduceSub, Nat.reduceEqDiff, Nat.reduceAdd, Nat.reduceMul, Nat.reduceLeDiff, Nat.reduceSub, ↓reduceIte, reduceCtorEq, if_true, if_false]; exact rfl) ?_
  clear hq q
  repeat' (first | refine wpL_seq ?_ | refine wpL_skip ?_ | refine wpL_label ?_ | refine wpL_scope ?_)
  refine wpL_cond rfl (fun hc4 => ?_) (fun hc4 => ?_)
  · simp at hc4
    have s2 := mlen_pos y (i + 1)
    repeat' (first | refine wpL_seq ?_ | refine wpL_skip ?_ | refine wpL_label ?_ | refine wpL_scope ?_)
    refine wpL_block fun k5 hn5 hx5 ho5 => ?_
    repeat' (first | refine wpL_seq ?_ | refine wpL_skip ?_ | refine wpL_label ?_ | refine wpL_scope ?_)
    refine wpL_region' [0, 1, 8, 9] fun q hq => ?_
    simp -implicitDefEqProofs (disch := omega) only [go_sem, Int.reduceEq, Int.reduceLT, Int.reduceLE, Int.reduceToNat, Int.reduceNeg, Int.reduceAdd, Int.reduceSub, Nat.reduceEqDiff, Nat.reduceAdd, Nat.reduceMul, Nat.reduceLeDiff, Nat.reduceSub, ↓reduceIte, reduceCtorEq]
    repeat (refine And.intro (by omega) ?_)
    refine gN_callP (f24_length y (i + 1) (by omega) (by omega) (by omega)) ?_
    simp -implicitDefEqProofs (disch := omega) only [go_sem, Int.reduceEq, Int.reduceLT, Int.reduceLE, Int.reduceToNat, Int.reduceNeg, Int.reduceAdd, Int.reduceSub, Nat.reduceEqDiff, Nat.reduceAdd, Nat.reduceMul, Nat.reduceLeDiff, Nat.reduceSub, ↓reduceIte, reduceCtorEq]
    repeat (refine And.intro (by omega) ?_)
    refine hq _ _ _ (by simp only [pickL, lk_cons, Int.reduceEq, Int.reduceLT, Int.reduceLE, Int.reduceToNat, Int.reduceNeg, Int.reduceAdd, Int.reduceSub, Nat.reduceEqDiff, Nat.reduceAdd, Nat.reduceMul, Nat.reduceLeDiff, Nat.reduceSub, ↓reduceIte, reduceCtorEq, if_true, if_false]; exact rfl) ?_
    clear hq q
    repeat' (first | refine wpL_seq ?_ | refine wpL_skip ?_ | refine wpL_label ?_ | refine wpL_scope ?_)
    refine wpL_nil (hn5 _ _ ?_)
    repeat' (first | refine wpL_seq ?_ | refine wpL_skip ?_ | refine wpL_label ?_ | refine wpL_scope ?_)
    refine wpL_region' [0, 1, 8, 9] fun q hq => ?_
    simp -implicitDefEqProofs (disch := omega) only [go_sem, Int.reduceEq, Int.reduceLT, Int.reduceLE, Int.reduceToNat, Int.reduceNeg, Int.reduceAdd, Int.reduceSub, Nat.reduceEqDiff, Nat.reduceAdd, Nat.reduceMul, Nat.reduceLeDiff, Nat.reduceSub, ↓reduceIte, reduceCtorEq]
    repeat (refine And.intro (by omega) ?_)
    refine hq _ _ _ (by simp only [pickL, lk_cons, Int.reduceEq, Int.reduceLT, Int.reduceLE, Int.reduceToNat, Int.reduceNeg, Int.reduceAdd, Int.reduceSub, Nat.reduceEqDiff, Nat.reduceAdd, Nat.reduceMul, Nat.reduceLeDiff, Nat.reduceSub, ↓reduceIte, reduceCtorEq, if_true, if_false]; exact rfl) ?_
    clear hq q
    repeat' (first | refine wpL_seq ?_ | refine wpL_skip ?_ | refine wpL_label ?_ | refine wpL_scope ?_)
    exact wpL_nil (hn3 (M - (i + 1)) _ _ (by omega) ⟨i + 1, by omega, by omega, rfl, by simp only [msum, Int.add_assoc]; rfl⟩)
  simp at hc4
  obtain rfl : M = i + 1 := by omega
  repeat' (first | refine wpL_seq ?_ | refine wpL_skip ?_ | refine wpL_label ?_ | refine wpL_scope ?_)
  refine wpL_exit (hx3 _ _ _ (by simp) (hx2 _ _ ?_))
  repeat' (first | refine wpL_seq ?_ | refine wpL_skip ?_ | refine wpL_label ?_ | refine wpL_scope ?_)
  refine wpL_region' [6, 7] fun q hq => ?_
  simp -implicitDefEqProofs (disch := omega) only [go_sem, Int.reduceEq, Int.reduceLT, Int.reduceLE, Int.reduceToNat, Int.reduceNeg, Int.reduceAdd, Int.reduceSub, Nat.reduceEqDiff, Nat.reduceAdd, Nat.reduceMul, Nat.reduceLeDiff, Nat.reduceSub, ↓reduceIte, reduceCtorEq]
  repeat (refine And.intro (by omega) ?_)
  refine hq _ _ _ (by simp only [pickL, lk_cons, Int.reduceEq, Int.reduceLT, Int.reduceLE, Int.reduceToNat, Int.reduceNeg, Int.reduceAdd, Int.reduceSub, Nat.reduceEqDiff, Nat.reduceAdd, Nat.reduceMul, Nat.reduceLeDiff, Nat.reduceSub, ↓reduceIte, reduceCtorEq, if_true, if_false]; exact rfl) ?_
  clear hq q
  repeat' (first | refine wpL_seq ?_ | refine wpL_skip ?_ | refine wpL_label ?_ | refine wpL_scope ?_)
  refine wpL_ret (hK' _ _ _ _ (.inr rfl) (resTo (rs' := [.tmp 6, .tmp 7]) rfl (by simp only [go_sem, Int.reduceEq, Int.reduceLT, Int.reduceLE, Int.reduceToNat, Int.reduceNeg, Int.reduceAdd, Int.reduceSub, Nat.reduceEqDiff, Nat.reduceAdd, Nat.reduceMul, Nat.reduceLeDiff, Nat.reduceSub, ↓reduceIte, reduceCtorEq]; exact rfl)) ?_)
  rw [dn, dnE, if_pos hv, if_pos hv, dayNum, show (((i + 1 : Nat) : Int) - 1).toNat = i by omega, show ahead y + d - 1 + msum y i = ahead y + msum y i + d - 1 by omega]
theorem f8_number (y m d : Int) (hd : -9223372036854775808 ≤ d ∧ d ≤ 9223372036854775807) : wpP Tryd.prog 8 [.int .i64 y, .int .i64 m, .int .i64 d] (.tup [.int .i64 (dn y m d), .int .i64 (dnE y m d)]) := by
  refine wpP_intro ?_
  refine wpH_intro (fn := Tryd.f8) rfl rfl (by decide) (by kernel_rfl) fun K' hK' => ?_
  repeat' (first | refine wpL_seq ?_ | refine wpL_skip ?_ | refine wpL_label ?_ | refine wpL_scope ?_)
  refine wpL_region' [0, 1, 2] fun q hq => ?_
  simp -implicitDefEqProofs (disch := omega) only [go_sem, Int.reduceEq, Int.reduceLT, Int.reduceLE, Int.reduceToNat, Int.reduceNeg, Int.reduceAdd, Int.reduceSub, Nat.reduceEqDiff, Nat.reduceAdd, Nat.reduceMul, Nat.reduceLeDiff, Nat.reduceSub, ↓reduceIte, reduceCtorEq]
  repeat (refine And.intro (by omega) ?_)
  refine hq _ _ _ (by simp only [pickL, lk_cons, Int.reduceEq, Int.reduceLT, Int.reduceLE, Int.reduceToNat, Int.reduceNeg, Int.reduceAdd, Int.reduceSub, Nat.reduceEqDiff, Nat.reduceAdd, Nat.reduceMul, Nat.reduceLeDiff, Nat.reduceSub, ↓reduceIte, reduceCtorEq, if_true, if_false]; exact rfl) ?_
  clear hq q
  repeat' (first | refine wpL_seq ?_ | refine wpL_skip ?_ | refine wpL_label ?_ | refine wpL_scope ?_)
  refine wpL_regV [0, 1, 2] 35 (.bool (decide (¬ validD y m d))) (by simp only [pickL, put, lk_cons, Int.reduceEq, Int.reduceLT, Int.reduceLE, Int.reduceToNat, Int.reduceNeg, Int.reduceAdd, Int.reduceSub, Nat.reduceEqDiff, Nat.reduceAdd, Nat.reduceMul, Nat.reduceLeDiff, Nat.reduceSub, ↓reduceIte, reduceCtorEq, if_true, if_false]; exact rfl) (by decide) ?_ ?_
  · simp -implicitDefEqProofs (disch := omega) only [go_sem, Int.reduceEq, Int.reduceLT, Int.reduceLE, Int.reduceToNat, Int.reduceNeg, Int.reduceAdd, Int.reduceSub, Nat.reduceEqDiff, Nat.reduceAdd, Nat.reduceMul, Nat.reduceLeDiff, Nat.reduceSub, ↓reduceIte, reduceCtorEq]
    repeat' (first | (refine gN_split2 (fun hs => ?_) (fun hs => ?_) <;> simp -implicitDefEqProofs (disch := omega) only [go_sem, Int.reduceEq, Int.reduceLT, Int.reduceLE, Int.reduceToNat, Int.reduceNeg, Int.reduceAdd, Int.reduceSub, Nat.reduceEqDiff, Nat.reduceAdd, Nat.reduceMul, Nat.reduceLeDiff, Nat.reduceSub, ↓reduceIte, reduceCtorEq, hs]) | refine gN_callP (f26_month y m (by first | omega | (simp at *; omega))) ?_ | simp -implicitDefEqProofs (disch := omega) only [go_sem, Int.reduceEq, Int.reduceLT, Int.reduceLE, Int.reduceToNat, Int.reduceNeg, Int.reduceAdd, Int.reduceSub, Nat.reduceEqDiff, Nat.reduceAdd, Nat.reduceMul, Nat.reduceLeDiff, Nat.reduceSub, ↓reduceIte, reduceCtorEq] | refine And.intro (by omega) ?_)
    all_goals (try clear hK')
    all_goals ((simp only [validD]; grind))
  repeat' (first | refine wpL_seq ?_ | refine wpL_skip ?_ | refine wpL_label ?_ | refine wpL_scope ?_)
  refine wpL_cond rfl (fun hc1 => ?_) (fun hc1 => ?_)
  · simp at hc1
    repeat' (first | refine wpL_seq ?_ | refine wpL_skip ?_ | refine wpL_label ?_ | refine wpL_scope ?_)
    refine wpL_region' [6, 7] fun q hq => ?_
    simp -implicitDefEqProofs (disch := omega) only [go_sem, Int.reduceEq, Int.reduceLT, Int.reduceLE, Int.reduceToNat, Int.reduceNeg, Int.reduceAdd, Int.reduceSub, Nat.reduceEqDiff, Nat.reduceAdd, Nat.reduceMul, Nat.reduceLeDiff, Nat.reduceSub, ↓reduceIte, reduceCtorEq]
    repeat (refine And.intro (by omega) ?_)
    refine hq _ _ _ (by simp only [pickL, lk_cons, Int.reduceEq, Int.reduceLT, Int.reduceLE, Int.reduceToNat, Int.reduceNeg, Int.reduceAdd, Int.reduceSub, Nat.reduceEqDiff, Nat.reduceAdd, Nat.reduceMul, Nat.reduceLeDiff, Nat.reduceSub, ↓reduceIte, reduceCtorEq, if_true, if_false]; exact rfl) ?_
    clear hq q
    repeat' (first | refine wpL_seq ?_ | refine wpL_skip ?_ | refine wpL_label ?_ | refine wpL_scope ?_)
    refine wpL_ret (hK' _ _ _ _ (.inr rfl) (resTo (rs' := [.tmp 6, .tmp 7]) rfl (by simp only [go_sem, Int.reduceEq, Int.reduceLT, Int.reduceLE, Int.reduceToNat, Int.reduceNeg, Int.reduceAdd, Int.reduceSub, Nat.reduceEqDiff, Nat.reduceAdd, Nat.reduceMul, Nat.reduceLeDiff, Nat.reduceSub, ↓reduceIte, reduceCtorEq]; exact rfl)) ?_)
    rw [dn, dnE, if_neg hc1, if_neg hc1]
  have hv : validD y m d := by simpa using hc1
  obtain ⟨v1, v2, v3, v4, v5, v6⟩ := id hv
  have a2 := mlen_pos y m
  have hM : m = (m.toNat : Int) := by omega
  generalize m.toNat = M at hM
  subst hM
  have hY : y = 2000 + ((y - 2000).toNat : Int) := by omega
  generalize (y - 2000).toNat = Y at hY
  subst hY
  repeat' (first | refine wpL_seq ?_ | refine wpL_skip ?_ | refine wpL_label ?_ | refine wpL_scope ?_)
  refine wpL_region' [0, 1, 2, 8] fun q hq => ?_
  simp -implicitDefEqProofs (disch := omega) only [go_sem, Int.reduceEq, Int.reduceLT, Int.reduceLE, Int.reduceToNat, Int.reduceNeg, Int.reduceAdd, Int.reduceSub, Nat.reduceEqDiff, Nat.reduceAdd, Nat.reduceMul, Nat.reduceLeDiff, Nat.reduceSub, ↓reduceIte, reduceCtorEq]
  repeat (refine And.intro (by omega) ?_)
  refine hq _ _ _ (by simp only [pickL, lk_cons, Int.reduceEq, Int.reduceLT, Int.reduceLE, Int.reduceToNat, Int.reduceNeg, Int.reduceAdd, Int.reduceSub, Nat.reduceEqDiff, Nat.reduceAdd, Nat.reduceMul, Nat.reduceLeDiff, Nat.reduceSub, ↓reduceIte, reduceCtorEq, if_true, if_false]; exact rfl) ?_
  clear hq q
  repeat' (first | refine wpL_seq ?_ | refine wpL_skip ?_ | refine wpL_label ?_ | refine wpL_scope ?_)
  refine wpL_region' [0, 1, 2, 8, 9] fun q hq => ?_
  simp -implicitDefEqProofs (disch := omega) only [go_sem, Int.reduceEq, Int.reduceLT, Int.reduceLE, Int.reduceToNat, Int.reduceNeg, Int.reduceAdd, Int.reduceSub, Nat.reduceEqDiff, Nat.reduceAdd, Nat.reduceMul, Nat.reduceLeDiff, Nat.reduceSub, ↓reduceIte, reduceCtorEq]
  repeat (refine And.intro (by omega) ?_)
  refine hq _ _ _ (by simp only [pickL, lk_cons, Int.reduceEq, Int.reduceLT, Int.reduceLE, Int.reduceToNat, Int.reduceNeg, Int.reduceAdd, Int.reduceSub, Nat.reduceEqDiff, Nat.reduceAdd, Nat.reduceMul, Nat.reduceLeDiff, Nat.reduceSub, ↓reduceIte, reduceCtorEq, if_true, if_false]; exact rfl) ?_
  clear hq q
  repeat' (first | refine wpL_seq ?_ | refine wpL_skip ?_ | refine wpL_label ?_ | refine wpL_scope ?_)
  refine wpL_block fun k2 hn2 hx2 ho2 => ?_
  refine wpL_loop (fun j e h => ∃ i : Nat, i ≤ Y ∧ j = Y - i ∧ h = Heap.emp ∧
    e = lk [(0, .int .i64 (2000 + Y)), (1, .int .i64 M), (2, .int .i64 d), (8, .int .i64 (ahead (2000 + i))), (9, .int .i64 (2000 + i))]) Y ⟨0, by omega, by omega, rfl, by simp [ahead_0]⟩ ?_
  rintro j e h ⟨i, hi, rfl, rfl, rfl⟩ k3 hn3 hx3
  have s1 := ahead_in (y := 2000 + i) (by omega) (by omega)
  repeat' (first | refine wpL_seq ?_ | refine wpL_skip ?_ | refine wpL_label ?_ | refine wpL_scope ?_)
  refine wpL_region' [0, 1, 2, 8, 9, 38] fun q hq => ?_
  simp -implicitDefEqProofs (disch := omega) only [go_sem, Int.reduceEq, Int.reduceLT, Int.reduceLE, Int.reduceToNat, Int.reduceNeg, Int.reduceAdd, Int.reduceSub, Nat.reduceEqDiff, Nat.reduceAdd, Nat.reduceMul, Nat.reduceLeDiff, Nat.reduceSub, ↓reduceIte, reduceCtorEq]
  repeat (refine And.intro (by omega) ?_)
  refine hq _ _ _ (by simp only [pickL, lk_cons, Int.reduceEq, Int.reduceLT, Int.reduceLE, Int.reduceToNat, Int.reduceNeg, Int.reduceAdd, Int.reduceSub, Nat.reduceEqDiff, Nat.reduceAdd, Nat.reduceMul, Nat.reduceLeDiff, Nat.reduceSub, ↓reduceIte, reduceCtorEq, if_true, if_false]; exact rfl) ?_
  clear hq q
  repeat' (first | refine wpL_seq ?_ | refine wpL_skip ?_ | refine wpL_label ?_ | refine wpL_scope ?_)
  refine wpL_cond rfl (fun hc4 => ?_) (fun hc4 => ?_)
  · simp at hc4
    have s2 := ahead_succ (2000 + (i : Int))
    rw [Int.add_assoc] at s2
    unfold ylen at s2
    repeat' (first | refine wpL_seq ?_ | refine wpL_skip ?_ | refine wpL_label ?_ | refine wpL_scope ?_)
    refine wpL_block fun k5 hn5 hx5 ho5 => ?_
    repeat' (first | refine wpL_seq ?_ | refine wpL_skip ?_ | refine wpL_label ?_ | refine wpL_scope ?_)
    refine wpL_region' [0, 1, 2, 8, 9] fun q hq => ?_
    simp -implicitDefEqProofs (disch := omega) only [go_sem, Int.reduceEq, Int.reduceLT, Int.reduceLE, Int.reduceToNat, Int.reduceNeg, Int.reduceAdd, Int.reduceSub, Nat.reduceEqDiff, Nat.reduceAdd, Nat.reduceMul, Nat.reduceLeDiff, Nat.reduceSub, ↓reduceIte, reduceCtorEq]
    repeat (refine And.intro (by omega) ?_)
    refine hq _ _ _ (by simp only [pickL, lk_cons, Int.reduceEq, Int.reduceLT, Int.reduceLE, Int.reduceToNat, Int.reduceNeg, Int.reduceAdd, Int.reduceSub, Nat.reduceEqDiff, Nat.reduceAdd, Nat.reduceMul, Nat.reduceLeDiff, Nat.reduceSub, ↓reduceIte, reduceCtorEq, if_true, if_false]; exact rfl) ?_
    clear hq q
    repeat' (first | refine wpL_seq ?_ | refine wpL_skip ?_ | refine wpL_label ?_ | refine wpL_scope ?_)
    refine wpL_region' [0, 1, 2, 8, 9, 44] fun q hq => ?_
    simp -implicitDefEqProofs (disch := omega) only [go_sem, Int.reduceEq, Int.reduceLT, Int.reduceLE, Int.reduceToNat, Int.reduceNeg, Int.reduceAdd, Int.reduceSub, Nat.reduceEqDiff, Nat.reduceAdd, Nat.reduceMul, Nat.reduceLeDiff, Nat.reduceSub, ↓reduceIte, reduceCtorEq]
    repeat (refine And.intro (by omega) ?_)
    refine gN_callP (f27_leap (2000 + i) (by omega)) ?_
    simp -implicitDefEqProofs (disch := omega) only [go_sem, Int.reduceEq, Int.reduceLT, Int.reduceLE, Int.reduceToNat, Int.reduceNeg, Int.reduceAdd, Int.reduceSub, Nat.reduceEqDiff, Nat.reduceAdd, Nat.reduceMul, Nat.reduceLeDiff, Nat.reduceSub, ↓reduceIte, reduceCtorEq]
    repeat (refine And.intro (by omega) ?_)
    refine hq _ _ _ (by simp only [pickL, lk_cons, Int.reduceEq, Int.reduceLT, Int.reduceLE, Int.reduceToNat, Int.reduceNeg, Int.reduceAdd, Int.reduceSub, Nat.reduceEqDiff, Nat.reduceAdd, Nat.reduceMul, Nat.reduceLeDiff, Nat.reduceSub, ↓reduceIte, reduceCtorEq, if_true, if_false]; exact rfl) ?_
    clear hq q
    repeat' (first | refine wpL_seq ?_ | refine wpL_skip ?_ | refine wpL_label ?_ | refine wpL_scope ?_)
    refine wpL_cond rfl (fun hc6 => ?_) (fun hc6 => ?_)
    · simp at hc6
      rw [if_pos hc6] at s2
      repeat' (first | refine wpL_seq ?_ | refine wpL_skip ?_ | refine wpL_label ?_ | refine wpL_scope ?_)
      refine wpL_region' [0, 1, 2, 8, 9] fun q hq => ?_
      simp -implicitDefEqProofs (disch := omega) only [go_sem, Int.reduceEq, Int.reduceLT, Int.reduceLE, Int.reduceToNat, Int.reduceNeg, Int.reduceAdd, Int.reduceSub, Nat.reduceEqDiff, Nat.reduceAdd, Nat.reduceMul, Nat.reduceLeDiff, Nat.reduceSub, ↓reduceIte, reduceCtorEq]
      repeat (refine And.intro (by omega) ?_)
      refine hq _ _ _ (by simp only [pickL, lk_cons, Int.reduceEq, Int.reduceLT, Int.reduceLE, Int.reduceToNat, Int.reduceNeg, Int.reduceAdd, Int.reduceSub, Nat.reduceEqDiff, Nat.reduceAdd, Nat.reduceMul, Nat.reduceLeDiff, Nat.reduceSub, ↓reduceIte, reduceCtorEq, if_true, if_false]; exact rfl) ?_
      clear hq q
      repeat' (first | refine wpL_seq ?_ | refine wpL_skip ?_ | refine wpL_label ?_ | refine wpL_scope ?_)
      refine wpL_nil (hn5 _ _ ?_)
      repeat' (first | refine wpL_seq ?_ | refine wpL_skip ?_ | refine wpL_label ?_ | refine wpL_scope ?_)
      refine wpL_region' [0, 1, 2, 8, 9] fun q hq => ?_
      simp -implicitDefEqProofs (disch := omega) only [go_sem, Int.reduceEq, Int.reduceLT, Int.reduceLE, Int.reduceToNat, Int.reduceNeg, Int.reduceAdd, Int.reduceSub, Nat.reduceEqDiff, Nat.reduceAdd, Nat.reduceMul, Nat.reduceLeDiff, Nat.reduceSub, ↓reduceIte, reduceCtorEq]
      repeat (refine And.intro (by omega) ?_)
      refine hq _ _ _ (by simp only [pickL, lk_cons, Int.reduceEq, Int.reduceLT, Int.reduceLE, Int.reduceToNat, Int.reduceNeg, Int.reduceAdd, Int.reduceSub, Nat.reduceEqDiff, Nat.reduceAdd, Nat.reduceMul, Nat.reduceLeDiff, Nat.reduceSub, ↓reduceIte, reduceCtorEq, if_true, if_false]; exact rfl) ?_
      clear hq q
      repeat' (first | refine wpL_seq ?_ | refine wpL_skip ?_ | refine wpL_label ?_ | refine wpL_scope ?_)
      exact wpL_nil (hn3 (Y - (i + 1)) _ _ (by omega) ⟨i + 1, by omega, by omega, rfl, by rw [show ((i + 1 : Nat) : Int) = (i : Int) + 1 by omega, s2, ← Int.add_assoc, show (366 : Int) = 365 + 1 from rfl, ← Int.add_assoc]⟩)
    · simp at hc6
      rw [if_neg hc6] at s2
      refine wpL_pick' [0, 1, 2, 8, 9] (by simp only [pickL, lk_cons, Int.reduceEq, Int.reduceLT, Int.reduceLE, Int.reduceToNat, Int.reduceNeg, Int.reduceAdd, Int.reduceSub, Nat.reduceEqDiff, Nat.reduceAdd, Nat.reduceMul, Nat.reduceLeDiff, Nat.reduceSub, ↓reduceIte, reduceCtorEq, if_true, if_false]; exact rfl) ?_
      repeat' (first | refine wpL_seq ?_ | refine wpL_skip ?_ | refine wpL_label ?_ | refine wpL_scope ?_)
      repeat' (first | refine wpL_seq ?_ | refine wpL_skip ?_ | refine wpL_label ?_ | refine wpL_scope ?_)
      refine wpL_nil (hn5 _ _ ?_)
      repeat' (first | refine wpL_seq ?_ | refine wpL_skip ?_ | refine wpL_label ?_ | refine wpL_scope ?_)
      refine wpL_region' [0, 1, 2, 8, 9] fun q hq => ?_
      simp -implicitDefEqProofs (disch := omega) only [go_sem, Int.reduceEq, Int.reduceLT, Int.reduceLE, Int.reduceToNat, Int.reduceNeg, Int.reduceAdd, Int.reduceSub, Nat.reduceEqDiff, Nat.reduceAdd, Nat.reduceMul, Nat.reduceLeDiff, Nat.reduceSub, ↓reduceIte, reduceCtorEq]
      repeat (refine And.intro (by omega) ?_)
      refine hq _ _ _ (by simp only [pickL, lk_cons, Int.reduceEq, Int.reduceLT, Int.reduceLE, Int.reduceToNat, Int.reduceNeg, Int.reduceAdd, Int.reduceSub, Nat.reduceEqDiff, Nat.reduceAdd, Nat.reduceMul, Nat.reduceLeDiff, Nat.reduceSub, ↓reduceIte, reduceCtorEq, if_true, if_false]; exact rfl) ?_
      clear hq q
      repeat' (first | refine wpL_seq ?_ | refine wpL_skip ?_ | refine wpL_label ?_ | refine wpL_scope ?_)
      exact wpL_nil (hn3 (Y - (i + 1)) _ _ (by omega) ⟨i + 1, by omega, by omega, rfl, by rw [show ((i + 1 : Nat) : Int) = (i : Int) + 1 by omega, s2, ← Int.add_assoc]⟩)
  simp at hc4
  obtain rfl : Y = i := by omega
  repeat' (first | refine wpL_seq ?_ | refine wpL_skip ?_ | refine wpL_label ?_ | refine wpL_scope ?_)
  refine wpL_exit (hx3 _ _ _ (by simp) (hx2 _ _ ?_))
  repeat' (first | refine wpL_seq ?_ | refine wpL_skip ?_ | refine wpL_label ?_ | refine wpL_scope ?_)
  refine wpL_region' [0, 1, 2, 8, 10] fun q hq => ?_
  simp -implicitDefEqProofs (disch := omega) only [go_sem, Int.reduceEq, Int.reduceLT, Int.reduceLE, Int.reduceToNat, Int.reduceNeg, Int.reduceAdd, Int.reduceSub, Nat.reduceEqDiff, Nat.reduceAdd, Nat.reduceMul, Nat.reduceLeDiff, Nat.reduceSub, ↓reduceIte, reduceCtorEq]
  repeat (refine And.intro (by omega) ?_)
  refine hq _ _ _ (by simp only [pickL, lk_cons, Int.reduceEq, Int.reduceLT, Int.reduceLE, Int.reduceToNat, Int.reduceNeg, Int.reduceAdd, Int.reduceSub, Nat.reduceEqDiff, Nat.reduceAdd, Nat.reduceMul, Nat.reduceLeDiff, Nat.reduceSub, ↓reduceIte, reduceCtorEq, if_true, if_false]; exact rfl) ?_
  clear hq q
  repeat' (first | refine wpL_seq ?_ | refine wpL_skip ?_ | refine wpL_label ?_ | refine wpL_scope ?_)
  refine wpL_block fun k7 hn7 hx7 ho7 => ?_
  generalize (2000 + (Y : Int)) = y at *
  refine wpL_loop (fun j e h => ∃ i : Nat, i + 1 ≤ M ∧ j = M - i ∧ h = Heap.emp ∧
    e = lk [(0, .int .i64 y), (1, .int .i64 M), (2, .int .i64 d), (8, .int .i64 (ahead y + msum y i)), (10, .int .i64 (i + 1))]) M ⟨0, by omega, by omega, rfl, by simp [msum]⟩ ?_
  rintro j e h ⟨i, hi, rfl, rfl, rfl⟩ k8 hn8 hx8
  have s1 := msum_in y (n := i) (by omega)
  repeat' (first | refine wpL_seq ?_ | refine wpL_skip ?_ | refine wpL_label ?_ | refine wpL_scope ?_)
  refine wpL_region' [0, 1, 2, 8, 10, 49] fun q hq => ?_
  simp -implicitDefEqProofs (disch := omega) only [go_sem, Int.reduceEq, Int.reduceLT, Int.reduceLE, Int.reduceToNat, Int.reduceNeg, Int.reduceAdd, Int.reduceSub, Nat.reduceEqDiff, Nat.reduceAdd, Nat.reduceMul, Nat.reduceLeDiff, Nat.reduceSub, ↓reduceIte, reduceCtorEq]
  repeat (refine And.intro (by omega) ?_)
  refine hq _ _ _ (by simp only [pickL, lk_cons, Int.reduceEq, Int.reduceLT, Int.reduceLE, Int.reduceToNat, Int.reduceNeg, Int.reduceAdd, Int.reduceSub, Nat.reduceEqDiff, Nat.reduceAdd, Nat.reduceMul, Nat.reduceLeDiff, Nat.reduceSub, ↓reduceIte, reduceCtorEq, if_true, if_false]; exact rfl) ?_
  clear hq q
  repeat' (first | refine wpL_seq ?_ | refine wpL_skip ?_ | refine wpL_label ?_ | refine wpL_scope ?_)
  refine wpL_cond rfl (fun hc9 => ?_) (fun hc9 => ?_)
  · simp at hc9
    have s2 := mlen_pos y (i + 1)
    repeat' (first | refine wpL_seq ?_ | refine wpL_skip ?_ | refine wpL_label ?_ | refine wpL_scope ?_)
    refine wpL_block fun k10 hn10 hx10 ho10 => ?_
    repeat' (first | refine wpL_seq ?_ | refine wpL_skip ?_ | refine wpL_label ?_ | refine wpL_scope ?_)
    refine wpL_region' [0, 1, 2, 8, 10] fun q hq => ?_
    simp -implicitDefEqProofs (disch := omega) only [go_sem, Int.reduceEq, Int.reduceLT, Int.reduceLE, Int.reduceToNat, Int.reduceNeg, Int.reduceAdd, Int.reduceSub, Nat.reduceEqDiff, Nat.reduceAdd, Nat.reduceMul, Nat.reduceLeDiff, Nat.reduceSub, ↓reduceIte, reduceCtorEq]
    repeat (refine And.intro (by omega) ?_)
    refine gN_callP (f26_month y (i + 1) (by omega)) ?_
    simp -implicitDefEqProofs (disch := omega) only [go_sem, Int.reduceEq, Int.reduceLT, Int.reduceLE, Int.reduceToNat, Int.reduceNeg, Int.reduceAdd, Int.reduceSub, Nat.reduceEqDiff, Nat.reduceAdd, Nat.reduceMul, Nat.reduceLeDiff, Nat.reduceSub, ↓reduceIte, reduceCtorEq]
    repeat (refine And.intro (by omega) ?_)
    refine hq _ _ _ (by simp only [pickL, lk_cons, Int.reduceEq, Int.reduceLT, Int.reduceLE, Int.reduceToNat, Int.reduceNeg, Int.reduceAdd, Int.reduceSub, Nat.reduceEqDiff, Nat.reduceAdd, Nat.reduceMul, Nat.reduceLeDiff, Nat.reduceSub, ↓reduceIte, reduceCtorEq, if_true, if_false]; exact rfl) ?_
    clear hq q
    repeat' (first | refine wpL_seq ?_ | refine wpL_skip ?_ | refine wpL_label ?_ | refine wpL_scope ?_)
    refine wpL_nil (hn10 _ _ ?_)
    repeat' (first | refine wpL_seq ?_ | refine wpL_skip ?_ | refine wpL_label ?_ | refine wpL_scope ?_)
    refine wpL_region' [0, 1, 2, 8, 10] fun q hq => ?_
    simp -implicitDefEqProofs (disch := omega) only [go_sem, Int.reduceEq, Int.reduceLT, Int.reduceLE, Int.reduceToNat, Int.reduceNeg, Int.reduceAdd, Int.reduceSub, Nat.reduceEqDiff, Nat.reduceAdd, Nat.reduceMul, Nat.reduceLeDiff, Nat.reduceSub, ↓reduceIte, reduceCtorEq]
    repeat (refine And.intro (by omega) ?_)
    refine hq _ _ _ (by simp only [pickL, lk_cons, Int.reduceEq, Int.reduceLT, Int.reduceLE, Int.reduceToNat, Int.reduceNeg, Int.reduceAdd, Int.reduceSub, Nat.reduceEqDiff, Nat.reduceAdd, Nat.reduceMul, Nat.reduceLeDiff, Nat.reduceSub, ↓reduceIte, reduceCtorEq, if_true, if_false]; exact rfl) ?_
    clear hq q
    repeat' (first | refine wpL_seq ?_ | refine wpL_skip ?_ | refine wpL_label ?_ | refine wpL_scope ?_)
    exact wpL_nil (hn8 (M - (i + 1)) _ _ (by omega) ⟨i + 1, by omega, by omega, rfl, by simp only [msum, Int.add_assoc]; rfl⟩)
  simp at hc9
  obtain rfl : M = i + 1 := by omega
  repeat' (first | refine wpL_seq ?_ | refine wpL_skip ?_ | refine wpL_label ?_ | refine wpL_scope ?_)
  refine wpL_exit (hx8 _ _ _ (by simp) (hx7 _ _ ?_))
  repeat' (first | refine wpL_seq ?_ | refine wpL_skip ?_ | refine wpL_label ?_ | refine wpL_scope ?_)
  refine wpL_region' [6, 7] fun q hq => ?_
  simp -implicitDefEqProofs (disch := omega) only [go_sem, Int.reduceEq, Int.reduceLT, Int.reduceLE, Int.reduceToNat, Int.reduceNeg, Int.reduceAdd, Int.reduceSub, Nat.reduceEqDiff, Nat.reduceAdd, Nat.reduceMul, Nat.reduceLeDiff, Nat.reduceSub, ↓reduceIte, reduceCtorEq]
  repeat (refine And.intro (by omega) ?_)
  refine hq _ _ _ (by simp only [pickL, lk_cons, Int.reduceEq, Int.reduceLT, Int.reduceLE, Int.reduceToNat, Int.reduceNeg, Int.reduceAdd, Int.reduceSub, Nat.reduceEqDiff, Nat.reduceAdd, Nat.reduceMul, Nat.reduceLeDiff, Nat.reduceSub, ↓reduceIte, reduceCtorEq, if_true, if_false]; exact rfl) ?_
  clear hq q
  repeat' (first | refine wpL_seq ?_ | refine wpL_skip ?_ | refine wpL_label ?_ | refine wpL_scope ?_)
  refine wpL_ret (hK' _ _ _ _ (.inr rfl) (resTo (rs' := [.tmp 6, .tmp 7]) rfl (by simp only [go_sem, Int.reduceEq, Int.reduceLT, Int.reduceLE, Int.reduceToNat, Int.reduceNeg, Int.reduceAdd, Int.reduceSub, Nat.reduceEqDiff, Nat.reduceAdd, Nat.reduceMul, Nat.reduceLeDiff, Nat.reduceSub, ↓reduceIte, reduceCtorEq]; exact rfl)) ?_)
  rw [dn, dnE, if_pos hv, if_pos hv, dayNum, show (((i + 1 : Nat) : Int) - 1).toNat = i by omega]
theorem f9_bad (d : Int) (h : ¬ (0 ≤ d ∧ d ≤ 146096)) : wpP Tryd.prog 9 [.int .i64 d] (.tup [.int .i64 0, .int .i64 0, .int .i64 0, .int .i64 189]) := by
  refine wpP_intro ?_
  refine wpH_intro (fn := Tryd.f9) rfl rfl (by decide) (by kernel_rfl) fun K' hK' => ?_
  repeat' (first | refine wpL_seq ?_ | refine wpL_skip ?_ | refine wpL_label ?_ | refine wpL_scope ?_)
  refine wpL_region' [0] fun q hq => ?_
  simp -implicitDefEqProofs (disch := omega) only [go_sem, Int.reduceEq, Int.reduceLT, Int.reduceLE, Int.reduceToNat, Int.reduceNeg, Int.reduceAdd, Int.reduceSub, Nat.reduceEqDiff, Nat.reduceAdd, Nat.reduceMul, Nat.reduceLeDiff, Nat.reduceSub, ↓reduceIte, reduceCtorEq]
  repeat (refine And.intro (by omega) ?_)
  refine hq _ _ _ (by simp only [pickL, lk_cons, Int.reduceEq, Int.reduceLT, Int.reduceLE, Int.reduceToNat, Int.reduceNeg, Int.reduceAdd, Int.reduceSub, Nat.reduceEqDiff, Nat.reduceAdd, Nat.reduceMul, Nat.reduceLeDiff, Nat.reduceSub, ↓reduceIte, reduceCtorEq, if_true, if_false]; exact rfl) ?_
  clear hq q
  repeat' (first | refine wpL_seq ?_ | refine wpL_skip ?_ | refine wpL_label ?_ | refine wpL_scope ?_)
  refine wpL_region' [0, 10] fun q hq => ?_
  simp -implicitDefEqProofs (disch := omega) only [go_sem, Int.reduceEq, Int.reduceLT, Int.reduceLE, Int.reduceToNat, Int.reduceNeg, Int.reduceAdd, Int.reduceSub, Nat.reduceEqDiff, Nat.reduceAdd, Nat.reduceMul, Nat.reduceLeDiff, Nat.reduceSub, ↓reduceIte, reduceCtorEq]
  repeat (refine And.intro (by omega) ?_)
  refine gN_callP (f28_day d) ?_
  simp -implicitDefEqProofs (disch := omega) only [go_sem, Int.reduceEq, Int.reduceLT, Int.reduceLE, Int.reduceToNat, Int.reduceNeg, Int.reduceAdd, Int.reduceSub, Nat.reduceEqDiff, Nat.reduceAdd, Nat.reduceMul, Nat.reduceLeDiff, Nat.reduceSub, ↓reduceIte, reduceCtorEq]
  repeat (refine And.intro (by omega) ?_)
  refine hq _ _ _ (by simp only [pickL, lk_cons, Int.reduceEq, Int.reduceLT, Int.reduceLE, Int.reduceToNat, Int.reduceNeg, Int.reduceAdd, Int.reduceSub, Nat.reduceEqDiff, Nat.reduceAdd, Nat.reduceMul, Nat.reduceLeDiff, Nat.reduceSub, ↓reduceIte, reduceCtorEq, if_true, if_false]; exact rfl) ?_
  clear hq q
  repeat' (first | refine wpL_seq ?_ | refine wpL_skip ?_ | refine wpL_label ?_ | refine wpL_scope ?_)
  refine wpL_cond rfl (fun hc1 => ?_) (fun hc1 => ?_)
  · repeat' (first | refine wpL_seq ?_ | refine wpL_skip ?_ | refine wpL_label ?_ | refine wpL_scope ?_)
    refine wpL_region' [2, 3, 4, 5] fun q hq => ?_
    simp -implicitDefEqProofs (disch := omega) only [go_sem, Int.reduceEq, Int.reduceLT, Int.reduceLE, Int.reduceToNat, Int.reduceNeg, Int.reduceAdd, Int.reduceSub, Nat.reduceEqDiff, Nat.reduceAdd, Nat.reduceMul, Nat.reduceLeDiff, Nat.reduceSub, ↓reduceIte, reduceCtorEq]
    repeat (refine And.intro (by omega) ?_)
    refine hq _ _ _ (by simp only [pickL, lk_cons, Int.reduceEq, Int.reduceLT, Int.reduceLE, Int.reduceToNat, Int.reduceNeg, Int.reduceAdd, Int.reduceSub, Nat.reduceEqDiff, Nat.reduceAdd, Nat.reduceMul, Nat.reduceLeDiff, Nat.reduceSub, ↓reduceIte, reduceCtorEq, if_true, if_false]; exact rfl) ?_
    clear hq q
    repeat' (first | refine wpL_seq ?_ | refine wpL_skip ?_ | refine wpL_label ?_ | refine wpL_scope ?_)
    refine wpL_ret (hK' _ _ _ _ (.inr rfl) (resTo (rs' := [.tmp 2, .tmp 3, .tmp 4, .tmp 5]) rfl (by simp only [go_sem, Int.reduceEq, Int.reduceLT, Int.reduceLE, Int.reduceToNat, Int.reduceNeg, Int.reduceAdd, Int.reduceSub, Nat.reduceEqDiff, Nat.reduceAdd, Nat.reduceMul, Nat.reduceLeDiff, Nat.reduceSub, ↓reduceIte, reduceCtorEq]; exact rfl)) ?_)
    rfl
  · exfalso
    simp at hc1
    exact h hc1
theorem f10_bad (d : Int) (h : ¬ (0 ≤ d ∧ d ≤ 146096)) : wpP Tryd.prog 10 [.int .i64 d] (.tup [.int .i64 0, .int .i64 0, .int .i64 0, .int .i64 189]) := by
  refine wpP_intro ?_
  refine wpH_intro (fn := Tryd.f10) rfl rfl (by decide) (by kernel_rfl) fun K' hK' => ?_
  repeat' (first | refine wpL_seq ?_ | refine wpL_skip ?_ | refine wpL_label ?_ | refine wpL_scope ?_)
  refine wpL_region' [0] fun q hq => ?_
  simp -implicitDefEqProofs (disch := omega) only [go_sem, Int.reduceEq, Int.reduceLT, Int.reduceLE, Int.reduceToNat, Int.reduceNeg, Int.reduceAdd, Int.reduceSub, Nat.reduceEqDiff, Nat.reduceAdd, Nat.reduceMul, Nat.reduceLeDiff, Nat.reduceSub, ↓reduceIte, reduceCtorEq]
  repeat (refine And.intro (by omega) ?_)
  refine hq _ _ _ (by simp only [pickL, lk_cons, Int.reduceEq, Int.reduceLT, Int.reduceLE, Int.reduceToNat, Int.reduceNeg, Int.reduceAdd, Int.reduceSub, Nat.reduceEqDiff, Nat.reduceAdd, Nat.reduceMul, Nat.reduceLeDiff, Nat.reduceSub, ↓reduceIte, reduceCtorEq, if_true, if_false]; exact rfl) ?_
  clear hq q
  repeat' (first | refine wpL_seq ?_ | refine wpL_skip ?_ | refine wpL_label ?_ | refine wpL_scope ?_)
  refine wpL_regV [0] 14 (.bool true) (by simp only [pickL, put, lk_cons, Int.reduceEq, Int.reduceLT, Int.reduceLE, Int.reduceToNat, Int.reduceNeg, Int.reduceAdd, Int.reduceSub, Nat.reduceEqDiff, Nat.reduceAdd, Nat.reduceMul, Nat.reduceLeDiff, Nat.reduceSub, ↓reduceIte, reduceCtorEq, if_true, if_false]; exact rfl) (by decide) ?_ ?_
  · simp -implicitDefEqProofs (disch := omega) only [go_sem, Int.reduceEq, Int.reduceLT, Int.reduceLE, Int.reduceToNat, Int.reduceNeg, Int.reduceAdd, Int.reduceSub, Nat.reduceEqDiff, Nat.reduceAdd, Nat.reduceMul, Nat.reduceLeDiff, Nat.reduceSub, ↓reduceIte, reduceCtorEq]
    repeat' (first | (refine gN_split2 (fun hs => ?_) (fun hs => ?_) <;> simp -implicitDefEqProofs (disch := omega) only [go_sem, Int.reduceEq, Int.reduceLT, Int.reduceLE, Int.reduceToNat, Int.reduceNeg, Int.reduceAdd, Int.reduceSub, Nat.reduceEqDiff, Nat.reduceAdd, Nat.reduceMul, Nat.reduceLeDiff, Nat.reduceSub, ↓reduceIte, reduceCtorEq, hs]) | simp -implicitDefEqProofs (disch := omega) only [go_sem, Int.reduceEq, Int.reduceLT, Int.reduceLE, Int.reduceToNat, Int.reduceNeg, Int.reduceAdd, Int.reduceSub, Nat.reduceEqDiff, Nat.reduceAdd, Nat.reduceMul, Nat.reduceLeDiff, Nat.reduceSub, ↓reduceIte, reduceCtorEq] | refine And.intro (by omega) ?_)
    all_goals (try clear hK')
    all_goals ((first | omega | (simp at *; omega)))
  repeat' (first | refine wpL_seq ?_ | refine wpL_skip ?_ | refine wpL_label ?_ | refine wpL_scope ?_)
  refine wpL_cond rfl (fun hc1 => ?_) (fun hc1 => ?_)
  · repeat' (first | refine wpL_seq ?_ | refine wpL_skip ?_ | refine wpL_label ?_ | refine wpL_scope ?_)
    refine wpL_region' [2, 3, 4, 5] fun q hq => ?_
    simp -implicitDefEqProofs (disch := omega) only [go_sem, Int.reduceEq, Int.reduceLT, Int.reduceLE, Int.reduceToNat, Int.reduceNeg, Int.reduceAdd, Int.reduceSub, Nat.reduceEqDiff, Nat.reduceAdd, Nat.reduceMul, Nat.reduceLeDiff, Nat.reduceSub, ↓reduceIte, reduceCtorEq]
    repeat (refine And.intro (by omega) ?_)
    refine hq _ _ _ (by simp only [pickL, lk_cons, Int.reduceEq, Int.reduceLT, Int.reduceLE, Int.reduceToNat, Int.reduceNeg, Int.reduceAdd, Int.reduceSub, Nat.reduceEqDiff, Nat.reduceAdd, Nat.reduceMul, Nat.reduceLeDiff, Nat.reduceSub, ↓reduceIte, reduceCtorEq, if_true, if_false]; exact rfl) ?_
    clear hq q
    repeat' (first | refine wpL_seq ?_ | refine wpL_skip ?_ | refine wpL_label ?_ | refine wpL_scope ?_)
    refine wpL_ret (hK' _ _ _ _ (.inr rfl) (resTo (rs' := [.tmp 2, .tmp 3, .tmp 4, .tmp 5]) rfl (by simp only [go_sem, Int.reduceEq, Int.reduceLT, Int.reduceLE, Int.reduceToNat, Int.reduceNeg, Int.reduceAdd, Int.reduceSub, Nat.reduceEqDiff, Nat.reduceAdd, Nat.reduceMul, Nat.reduceLeDiff, Nat.reduceSub, ↓reduceIte, reduceCtorEq]; exact rfl)) ?_)
    rfl
  · cases hc1
theorem f9_date {y m k : Int} (hv : validD y m k) : wpP Tryd.prog 9 [.int .i64 (dayNum y m k)] (.tup [.int .i64 y, .int .i64 m, .int .i64 k, .int .i64 0]) := by
  obtain ⟨r1, r2⟩ := dayNum_range hv
  obtain ⟨i1, i2, i3, i4⟩ := dayNum_in hv
  obtain ⟨v1, v2, v3, v4, v5, v6⟩ := id hv
  have hk : dayNum y m k = ahead y + msum y (m - 1).toNat + k - 1 := rfl
  have b0 := ahead_in v1 (by omega)
  generalize dayNum y m k = d at *
  have hq : d.tdiv 366 = d / 366 := tdivE 366 r1
  refine wpP_intro ?_
  refine wpH_intro (fn := Tryd.f9) rfl rfl (by decide) (by kernel_rfl) fun K' hK' => ?_
  repeat' (first | refine wpL_seq ?_ | refine wpL_skip ?_ | refine wpL_label ?_ | refine wpL_scope ?_)
  refine wpL_region' [0] fun q hq => ?_
  simp -implicitDefEqProofs (disch := omega) only [go_sem, Int.reduceEq, Int.reduceLT, Int.reduceLE, Int.reduceToNat, Int.reduceNeg, Int.reduceAdd, Int.reduceSub, Nat.reduceEqDiff, Nat.reduceAdd, Nat.reduceMul, Nat.reduceLeDiff, Nat.reduceSub, ↓reduceIte, reduceCtorEq]
  repeat (refine And.intro (by omega) ?_)
  refine hq _ _ _ (by simp only [pickL, lk_cons, Int.reduceEq, Int.reduceLT, Int.reduceLE, Int.reduceToNat, Int.reduceNeg, Int.reduceAdd, Int.reduceSub, Nat.reduceEqDiff, Nat.reduceAdd, Nat.reduceMul, Nat.reduceLeDiff, Nat.reduceSub, ↓reduceIte, reduceCtorEq, if_true, if_false]; exact rfl) ?_
  clear hq q
  repeat' (first | refine wpL_seq ?_ | refine wpL_skip ?_ | refine wpL_label ?_ | refine wpL_scope ?_)
  refine wpL_region' [0, 10] fun q hq => ?_
  simp -implicitDefEqProofs (disch := omega) only [go_sem, Int.reduceEq, Int.reduceLT, Int.reduceLE, Int.reduceToNat, Int.reduceNeg, Int.reduceAdd, Int.reduceSub, Nat.reduceEqDiff, Nat.reduceAdd, Nat.reduceMul, Nat.reduceLeDiff, Nat.reduceSub, ↓reduceIte, reduceCtorEq]
  repeat (refine And.intro (by omega) ?_)
  refine gN_callP (f28_day d) ?_
  simp -implicitDefEqProofs (disch := omega) only [go_sem, Int.reduceEq, Int.reduceLT, Int.reduceLE, Int.reduceToNat, Int.reduceNeg, Int.reduceAdd, Int.reduceSub, Nat.reduceEqDiff, Nat.reduceAdd, Nat.reduceMul, Nat.reduceLeDiff, Nat.reduceSub, ↓reduceIte, reduceCtorEq]
  repeat (refine And.intro (by omega) ?_)
  refine hq _ _ _ (by simp only [pickL, lk_cons, Int.reduceEq, Int.reduceLT, Int.reduceLE, Int.reduceToNat, Int.reduceNeg, Int.reduceAdd, Int.reduceSub, Nat.reduceEqDiff, Nat.reduceAdd, Nat.reduceMul, Nat.reduceLeDiff, Nat.reduceSub, ↓reduceIte, reduceCtorEq, if_true, if_false]; exact rfl) ?_
  clear hq q
  repeat' (first | refine wpL_seq ?_ | refine wpL_skip ?_ | refine wpL_label ?_ | refine wpL_scope ?_)
  refine wpL_cond rfl (fun hc1 => ?_) (fun hc1 => ?_)
  · exfalso
    simp at hc1
    omega
  clear hc1
  repeat' (first | refine wpL_seq ?_ | refine wpL_skip ?_ | refine wpL_label ?_ | refine wpL_scope ?_)
  refine wpL_region' [0, 6] fun q hq => ?_
  simp -implicitDefEqProofs (disch := omega) only [go_sem, Int.reduceEq, Int.reduceLT, Int.reduceLE, Int.reduceToNat, Int.reduceNeg, Int.reduceAdd, Int.reduceSub, Nat.reduceEqDiff, Nat.reduceAdd, Nat.reduceMul, Nat.reduceLeDiff, Nat.reduceSub, ↓reduceIte, reduceCtorEq, hq]
  repeat (refine And.intro (by omega) ?_)
  refine hq _ _ _ (by simp only [pickL, lk_cons, Int.reduceEq, Int.reduceLT, Int.reduceLE, Int.reduceToNat, Int.reduceNeg, Int.reduceAdd, Int.reduceSub, Nat.reduceEqDiff, Nat.reduceAdd, Nat.reduceMul, Nat.reduceLeDiff, Nat.reduceSub, ↓reduceIte, reduceCtorEq, if_true, if_false]; exact rfl) ?_
  clear hq q
  repeat' (first | refine wpL_seq ?_ | refine wpL_skip ?_ | refine wpL_label ?_ | refine wpL_scope ?_)
  refine wpL_block fun k2 hn2 hx2 ho2 => ?_
  refine wpL_loop (fun j e h => ∃ Y : Int, 2000 ≤ Y ∧ Y ≤ 2399 ∧ ahead Y ≤ d ∧ j = (2400 - Y).toNat ∧ h = Heap.emp ∧ e = lk [(0, .int .i64 d), (6, .int .i64 Y)]) (2400 - (2000 + d / 366)).toNat
    ⟨2000 + d / 366, by omega, by omega, by have := ahead_lo (y := 2000 + d / 366) (by omega); omega, rfl, rfl, by rw [hq]⟩ ?_
  rintro j e h ⟨Y, hY1, hY2, hY3, hj, rfl, rfl⟩ k3 hn3 hx3
  repeat' (first | refine wpL_seq ?_ | refine wpL_skip ?_ | refine wpL_label ?_ | refine wpL_scope ?_)
  refine wpL_region' [0, 6, 18] fun q hq => ?_
  simp -implicitDefEqProofs (disch := omega) only [go_sem, Int.reduceEq, Int.reduceLT, Int.reduceLE, Int.reduceToNat, Int.reduceNeg, Int.reduceAdd, Int.reduceSub, Nat.reduceEqDiff, Nat.reduceAdd, Nat.reduceMul, Nat.reduceLeDiff, Nat.reduceSub, ↓reduceIte, reduceCtorEq]
  repeat (refine And.intro (by omega) ?_)
  refine gN_callP (f25_ahead (Y + 1) (by omega) (by omega)) ?_
  simp -implicitDefEqProofs (disch := omega) only [go_sem, Int.reduceEq, Int.reduceLT, Int.reduceLE, Int.reduceToNat, Int.reduceNeg, Int.reduceAdd, Int.reduceSub, Nat.reduceEqDiff, Nat.reduceAdd, Nat.reduceMul, Nat.reduceLeDiff, Nat.reduceSub, ↓reduceIte, reduceCtorEq]
  repeat (refine And.intro (by omega) ?_)
  refine hq _ _ _ (by simp only [pickL, lk_cons, Int.reduceEq, Int.reduceLT, Int.reduceLE, Int.reduceToNat, Int.reduceNeg, Int.reduceAdd, Int.reduceSub, Nat.reduceEqDiff, Nat.reduceAdd, Nat.reduceMul, Nat.reduceLeDiff, Nat.reduceSub, ↓reduceIte, reduceCtorEq, if_true, if_false]; exact rfl) ?_
  clear hq q
  repeat' (first | refine wpL_seq ?_ | refine wpL_skip ?_ | refine wpL_label ?_ | refine wpL_scope ?_)
  refine wpL_cond rfl (fun hc4 => ?_) (fun hc4 => ?_)
  · simp at hc4
    have hY : Y ≠ 2399 := by rintro rfl; have := ahead_end; rw [show (2399 : Int) + 1 = 2400 from rfl, this] at hc4; omega
    repeat' (first | refine wpL_seq ?_ | refine wpL_skip ?_ | refine wpL_label ?_ | refine wpL_scope ?_)
    refine wpL_block fun k5 hn5 hx5 ho5 => ?_
    repeat' (first | refine wpL_seq ?_ | refine wpL_skip ?_ | refine wpL_label ?_ | refine wpL_scope ?_)
    refine wpL_region' [0, 6] fun q hq => ?_
    simp -implicitDefEqProofs (disch := omega) only [go_sem, Int.reduceEq, Int.reduceLT, Int.reduceLE, Int.reduceToNat, Int.reduceNeg, Int.reduceAdd, Int.reduceSub, Nat.reduceEqDiff, Nat.reduceAdd, Nat.reduceMul, Nat.reduceLeDiff, Nat.reduceSub, ↓reduceIte, reduceCtorEq]
    repeat (refine And.intro (by omega) ?_)
    refine hq _ _ _ (by simp only [pickL, lk_cons, Int.reduceEq, Int.reduceLT, Int.reduceLE, Int.reduceToNat, Int.reduceNeg, Int.reduceAdd, Int.reduceSub, Nat.reduceEqDiff, Nat.reduceAdd, Nat.reduceMul, Nat.reduceLeDiff, Nat.reduceSub, ↓reduceIte, reduceCtorEq, if_true, if_false]; exact rfl) ?_
    clear hq q
    repeat' (first | refine wpL_seq ?_ | refine wpL_skip ?_ | refine wpL_label ?_ | refine wpL_scope ?_)
    refine wpL_nil (hn5 _ _ ?_)
    repeat' (first | refine wpL_seq ?_ | refine wpL_skip ?_ | refine wpL_label ?_ | refine wpL_scope ?_)
    exact wpL_nil (hn3 (2400 - (Y + 1)).toNat _ _ (by omega) ⟨Y + 1, by omega, by omega, hc4, rfl, rfl, rfl⟩)
  simp at hc4
  obtain rfl : Y = y := year_uniq hY3 hc4 i1 i2
  repeat' (first | refine wpL_seq ?_ | refine wpL_skip ?_ | refine wpL_label ?_ | refine wpL_scope ?_)
  refine wpL_exit (hx3 _ _ _ (by simp) (hx2 _ _ ?_))
  repeat' (first | refine wpL_seq ?_ | refine wpL_skip ?_ | refine wpL_label ?_ | refine wpL_scope ?_)
  refine wpL_region' [0, 6] fun q hq => ?_
  simp -implicitDefEqProofs (disch := omega) only [go_sem, Int.reduceEq, Int.reduceLT, Int.reduceLE, Int.reduceToNat, Int.reduceNeg, Int.reduceAdd, Int.reduceSub, Nat.reduceEqDiff, Nat.reduceAdd, Nat.reduceMul, Nat.reduceLeDiff, Nat.reduceSub, ↓reduceIte, reduceCtorEq]
  repeat (refine And.intro (by omega) ?_)
  refine gN_callP (f25_ahead Y hY1 (by omega)) ?_
  simp -implicitDefEqProofs (disch := omega) only [go_sem, Int.reduceEq, Int.reduceLT, Int.reduceLE, Int.reduceToNat, Int.reduceNeg, Int.reduceAdd, Int.reduceSub, Nat.reduceEqDiff, Nat.reduceAdd, Nat.reduceMul, Nat.reduceLeDiff, Nat.reduceSub, ↓reduceIte, reduceCtorEq]
  repeat (refine And.intro (by omega) ?_)
  refine hq _ _ _ (by simp only [pickL, lk_cons, Int.reduceEq, Int.reduceLT, Int.reduceLE, Int.reduceToNat, Int.reduceNeg, Int.reduceAdd, Int.reduceSub, Nat.reduceEqDiff, Nat.reduceAdd, Nat.reduceMul, Nat.reduceLeDiff, Nat.reduceSub, ↓reduceIte, reduceCtorEq, if_true, if_false]; exact rfl) ?_
  clear hq q
  repeat' (first | refine wpL_seq ?_ | refine wpL_skip ?_ | refine wpL_label ?_ | refine wpL_scope ?_)
  refine wpL_region' [0, 6, 7] fun q hq => ?_
  simp -implicitDefEqProofs (disch := omega) only [go_sem, Int.reduceEq, Int.reduceLT, Int.reduceLE, Int.reduceToNat, Int.reduceNeg, Int.reduceAdd, Int.reduceSub, Nat.reduceEqDiff, Nat.reduceAdd, Nat.reduceMul, Nat.reduceLeDiff, Nat.reduceSub, ↓reduceIte, reduceCtorEq]
  repeat (refine And.intro (by omega) ?_)
  refine hq _ _ _ (by simp only [pickL, lk_cons, Int.reduceEq, Int.reduceLT, Int.reduceLE, Int.reduceToNat, Int.reduceNeg, Int.reduceAdd, Int.reduceSub, Nat.reduceEqDiff, Nat.reduceAdd, Nat.reduceMul, Nat.reduceLeDiff, Nat.reduceSub, ↓reduceIte, reduceCtorEq, if_true, if_false]; exact rfl) ?_
  clear hq q
  have hyl := msum_year Y
  have has := ahead_succ Y
  have hyp := ylen_pos Y
  generalize hR : d - ahead Y = R at *
  have hR0 : 0 ≤ R := by omega
  repeat' (first | refine wpL_seq ?_ | refine wpL_skip ?_ | refine wpL_label ?_ | refine wpL_scope ?_)
  refine wpL_block fun k6 hn6 hx6 ho6 => ?_
  refine wpL_loop (fun j e h => ∃ i : Nat, i ≤ 11 ∧ msum Y i ≤ R ∧ j = 12 - i ∧ h = Heap.emp ∧ e = lk [(0, .int .i64 (R - msum Y i)), (6, .int .i64 Y), (7, .int .i64 (i + 1))]) 12
    ⟨0, by omega, by simpa [msum] using hR0, rfl, rfl, by simp [msum]⟩ ?_
  rintro j e h ⟨i, hi, hiR, rfl, rfl, rfl⟩ k7 hn7 hx7
  have s1 := msum_in Y (n := i) (by omega)
  have s2 := mlen_pos Y (i + 1)
  repeat' (first | refine wpL_seq ?_ | refine wpL_skip ?_ | refine wpL_label ?_ | refine wpL_scope ?_)
  refine wpL_region' [0, 6, 7, 29] fun q hq => ?_
  simp -implicitDefEqProofs (disch := omega) only [go_sem, Int.reduceEq, Int.reduceLT, Int.reduceLE, Int.reduceToNat, Int.reduceNeg, Int.reduceAdd, Int.reduceSub, Nat.reduceEqDiff, Nat.reduceAdd, Nat.reduceMul, Nat.reduceLeDiff, Nat.reduceSub, ↓reduceIte, reduceCtorEq]
  repeat (refine And.intro (by omega) ?_)
  refine gN_callP (f24_length Y (i + 1) (by omega) (by omega) (by omega)) ?_
  simp -implicitDefEqProofs (disch := omega) only [go_sem, Int.reduceEq, Int.reduceLT, Int.reduceLE, Int.reduceToNat, Int.reduceNeg, Int.reduceAdd, Int.reduceSub, Nat.reduceEqDiff, Nat.reduceAdd, Nat.reduceMul, Nat.reduceLeDiff, Nat.reduceSub, ↓reduceIte, reduceCtorEq]
  repeat (refine And.intro (by omega) ?_)
  refine hq _ _ _ (by simp only [pickL, lk_cons, Int.reduceEq, Int.reduceLT, Int.reduceLE, Int.reduceToNat, Int.reduceNeg, Int.reduceAdd, Int.reduceSub, Nat.reduceEqDiff, Nat.reduceAdd, Nat.reduceMul, Nat.reduceLeDiff, Nat.reduceSub, ↓reduceIte, reduceCtorEq, if_true, if_false]; exact rfl) ?_
  clear hq q
  repeat' (first | refine wpL_seq ?_ | refine wpL_skip ?_ | refine wpL_label ?_ | refine wpL_scope ?_)
  refine wpL_cond rfl (fun hc8 => ?_) (fun hc8 => ?_)
  · simp at hc8
    have hi11 : i ≠ 11 := by
      rintro rfl
      have h9 : msum Y 12 = msum Y 11 + mlen Y ((11 : Nat) + 1) := rfl
      omega
    repeat' (first | refine wpL_seq ?_ | refine wpL_skip ?_ | refine wpL_label ?_ | refine wpL_scope ?_)
    refine wpL_block fun k9 hn9 hx9 ho9 => ?_
    repeat' (first | refine wpL_seq ?_ | refine wpL_skip ?_ | refine wpL_label ?_ | refine wpL_scope ?_)
    refine wpL_region' [0, 6, 7] fun q hq => ?_
    simp -implicitDefEqProofs (disch := omega) only [go_sem, Int.reduceEq, Int.reduceLT, Int.reduceLE, Int.reduceToNat, Int.reduceNeg, Int.reduceAdd, Int.reduceSub, Nat.reduceEqDiff, Nat.reduceAdd, Nat.reduceMul, Nat.reduceLeDiff, Nat.reduceSub, ↓reduceIte, reduceCtorEq]
    repeat (refine And.intro (by omega) ?_)
    refine gN_callP (f24_length Y (i + 1) (by omega) (by omega) (by omega)) ?_
    simp -implicitDefEqProofs (disch := omega) only [go_sem, Int.reduceEq, Int.reduceLT, Int.reduceLE, Int.reduceToNat, Int.reduceNeg, Int.reduceAdd, Int.reduceSub, Nat.reduceEqDiff, Nat.reduceAdd, Nat.reduceMul, Nat.reduceLeDiff, Nat.reduceSub, ↓reduceIte, reduceCtorEq]
    repeat (refine And.intro (by omega) ?_)
    refine hq _ _ _ (by simp only [pickL, lk_cons, Int.reduceEq, Int.reduceLT, Int.reduceLE, Int.reduceToNat, Int.reduceNeg, Int.reduceAdd, Int.reduceSub, Nat.reduceEqDiff, Nat.reduceAdd, Nat.reduceMul, Nat.reduceLeDiff, Nat.reduceSub, ↓reduceIte, reduceCtorEq, if_true, if_false]; exact rfl) ?_
    clear hq q
    repeat' (first | refine wpL_seq ?_ | refine wpL_skip ?_ | refine wpL_label ?_ | refine wpL_scope ?_)
    refine wpL_region' [0, 6, 7] fun q hq => ?_
    simp -implicitDefEqProofs (disch := omega) only [go_sem, Int.reduceEq, Int.reduceLT, Int.reduceLE, Int.reduceToNat, Int.reduceNeg, Int.reduceAdd, Int.reduceSub, Nat.reduceEqDiff, Nat.reduceAdd, Nat.reduceMul, Nat.reduceLeDiff, Nat.reduceSub, ↓reduceIte, reduceCtorEq]
    repeat (refine And.intro (by omega) ?_)
    refine hq _ _ _ (by simp only [pickL, lk_cons, Int.reduceEq, Int.reduceLT, Int.reduceLE, Int.reduceToNat, Int.reduceNeg, Int.reduceAdd, Int.reduceSub, Nat.reduceEqDiff, Nat.reduceAdd, Nat.reduceMul, Nat.reduceLeDiff, Nat.reduceSub, ↓reduceIte, reduceCtorEq, if_true, if_false]; exact rfl) ?_
    clear hq q
    repeat' (first | refine wpL_seq ?_ | refine wpL_skip ?_ | refine wpL_label ?_ | refine wpL_scope ?_)
    refine wpL_nil (hn9 _ _ ?_)
    repeat' (first | refine wpL_seq ?_ | refine wpL_skip ?_ | refine wpL_label ?_ | refine wpL_scope ?_)
    exact wpL_nil (hn7 (12 - (i + 1)) _ _ (by omega) ⟨i + 1, by omega, by simp only [msum]; omega, rfl, rfl, by simp only [msum]; rw [show R - msum Y i - mlen Y (↑i + 1) = R - (msum Y i + mlen Y (↑i + 1)) by omega]; rfl⟩)
  simp at hc8
  have hm : i = (m - 1).toNat := month_uniq (y := Y) (r := R) hiR (by simp only [msum]; omega) (by omega) (by omega)
  repeat' (first | refine wpL_seq ?_ | refine wpL_skip ?_ | refine wpL_label ?_ | refine wpL_scope ?_)
  refine wpL_exit (hx7 _ _ _ (by simp) (hx6 _ _ ?_))
  repeat' (first | refine wpL_seq ?_ | refine wpL_skip ?_ | refine wpL_label ?_ | refine wpL_scope ?_)
  refine wpL_region' [2, 3, 4, 5] fun q hq => ?_
  simp -implicitDefEqProofs (disch := omega) only [go_sem, Int.reduceEq, Int.reduceLT, Int.reduceLE, Int.reduceToNat, Int.reduceNeg, Int.reduceAdd, Int.reduceSub, Nat.reduceEqDiff, Nat.reduceAdd, Nat.reduceMul, Nat.reduceLeDiff, Nat.reduceSub, ↓reduceIte, reduceCtorEq]
  repeat (refine And.intro (by omega) ?_)
  refine hq _ _ _ (by simp only [pickL, lk_cons, Int.reduceEq, Int.reduceLT, Int.reduceLE, Int.reduceToNat, Int.reduceNeg, Int.reduceAdd, Int.reduceSub, Nat.reduceEqDiff, Nat.reduceAdd, Nat.reduceMul, Nat.reduceLeDiff, Nat.reduceSub, ↓reduceIte, reduceCtorEq, if_true, if_false]; exact rfl) ?_
  clear hq q
  repeat' (first | refine wpL_seq ?_ | refine wpL_skip ?_ | refine wpL_label ?_ | refine wpL_scope ?_)
  refine wpL_ret (hK' _ _ _ _ (.inr rfl) (resTo (rs' := [.tmp 2, .tmp 3, .tmp 4, .tmp 5]) rfl (by simp only [go_sem, Int.reduceEq, Int.reduceLT, Int.reduceLE, Int.reduceToNat, Int.reduceNeg, Int.reduceAdd, Int.reduceSub, Nat.reduceEqDiff, Nat.reduceAdd, Nat.reduceMul, Nat.reduceLeDiff, Nat.reduceSub, ↓reduceIte, reduceCtorEq]; exact rfl)) ?_)
  rw [← hm] at hk
  rw [show (i : Int) + 1 = m by omega, show R - msum Y i + 1 = k by omega]
theorem f10_date {y m k : Int} (hv : validD y m k) : wpP Tryd.prog 10 [.int .i64 (dayNum y m k)] (.tup [.int .i64 y, .int .i64 m, .int .i64 k, .int .i64 0]) := by
  obtain ⟨r1, r2⟩ := dayNum_range hv
  obtain ⟨i1, i2, i3, i4⟩ := dayNum_in hv
  obtain ⟨v1, v2, v3, v4, v5, v6⟩ := id hv
  have hk : dayNum y m k = ahead y + msum y (m - 1).toNat + k - 1 := rfl
  have b0 := ahead_in v1 (by omega)
  generalize dayNum y m k = d at *
  refine wpP_intro ?_
  refine wpH_intro (fn := Tryd.f10) rfl rfl (by decide) (by kernel_rfl) fun K' hK' => ?_
  repeat' (first | refine wpL_seq ?_ | refine wpL_skip ?_ | refine wpL_label ?_ | refine wpL_scope ?_)
  refine wpL_region' [0] fun q hq => ?_
  simp -implicitDefEqProofs (disch := omega) only [go_sem, Int.reduceEq, Int.reduceLT, Int.reduceLE, Int.reduceToNat, Int.reduceNeg, Int.reduceAdd, Int.reduceSub, Nat.reduceEqDiff, Nat.reduceAdd, Nat.reduceMul, Nat.reduceLeDiff, Nat.reduceSub, ↓reduceIte, reduceCtorEq]
  repeat (refine And.intro (by omega) ?_)
  refine hq _ _ _ (by simp only [pickL, lk_cons, Int.reduceEq, Int.reduceLT, Int.reduceLE, Int.reduceToNat, Int.reduceNeg, Int.reduceAdd, Int.reduceSub, Nat.reduceEqDiff, Nat.reduceAdd, Nat.reduceMul, Nat.reduceLeDiff, Nat.reduceSub, ↓reduceIte, reduceCtorEq, if_true, if_false]; exact rfl) ?_
  clear hq q
  repeat' (first | refine wpL_seq ?_ | refine wpL_skip ?_ | refine wpL_label ?_ | refine wpL_scope ?_)
  refine wpL_regV [0] 14 (.bool false) (by simp only [pickL, put, lk_cons, Int.reduceEq, Int.reduceLT, Int.reduceLE, Int.reduceToNat, Int.reduceNeg, Int.reduceAdd, Int.reduceSub, Nat.reduceEqDiff, Nat.reduceAdd, Nat.reduceMul, Nat.reduceLeDiff, Nat.reduceSub, ↓reduceIte, reduceCtorEq, if_true, if_false]; exact rfl) (by decide) ?_ ?_
  · simp -implicitDefEqProofs (disch := omega) only [go_sem, Int.reduceEq, Int.reduceLT, Int.reduceLE, Int.reduceToNat, Int.reduceNeg, Int.reduceAdd, Int.reduceSub, Nat.reduceEqDiff, Nat.reduceAdd, Nat.reduceMul, Nat.reduceLeDiff, Nat.reduceSub, ↓reduceIte, reduceCtorEq]
    repeat' (first | (refine gN_split2 (fun hs => ?_) (fun hs => ?_) <;> simp -implicitDefEqProofs (disch := omega) only [go_sem, Int.reduceEq, Int.reduceLT, Int.reduceLE, Int.reduceToNat, Int.reduceNeg, Int.reduceAdd, Int.reduceSub, Nat.reduceEqDiff, Nat.reduceAdd, Nat.reduceMul, Nat.reduceLeDiff, Nat.reduceSub, ↓reduceIte, reduceCtorEq, hs]) | simp -implicitDefEqProofs (disch := omega) only [go_sem, Int.reduceEq, Int.reduceLT, Int.reduceLE, Int.reduceToNat, Int.reduceNeg, Int.reduceAdd, Int.reduceSub, Nat.reduceEqDiff, Nat.reduceAdd, Nat.reduceMul, Nat.reduceLeDiff, Nat.reduceSub, ↓reduceIte, reduceCtorEq] | refine And.intro (by omega) ?_)
    all_goals (try clear hK')
    all_goals ((first | omega | (simp at *; omega)))
  repeat' (first | refine wpL_seq ?_ | refine wpL_skip ?_ | refine wpL_label ?_ | refine wpL_scope ?_)
  refine wpL_cond rfl (fun hc1 => ?_) (fun hc1 => ?_)
  · cases hc1
  clear hc1
  repeat' (first | refine wpL_seq ?_ | refine wpL_skip ?_ | refine wpL_label ?_ | refine wpL_scope ?_)
  refine wpL_region' [0, 6] fun q hq => ?_
  simp -implicitDefEqProofs (disch := omega) only [go_sem, Int.reduceEq, Int.reduceLT, Int.reduceLE, Int.reduceToNat, Int.reduceNeg, Int.reduceAdd, Int.reduceSub, Nat.reduceEqDiff, Nat.reduceAdd, Nat.reduceMul, Nat.reduceLeDiff, Nat.reduceSub, ↓reduceIte, reduceCtorEq]
  repeat (refine And.intro (by omega) ?_)
  refine hq _ _ _ (by simp only [pickL, lk_cons, Int.reduceEq, Int.reduceLT, Int.reduceLE, Int.reduceToNat, Int.reduceNeg, Int.reduceAdd, Int.reduceSub, Nat.reduceEqDiff, Nat.reduceAdd, Nat.reduceMul, Nat.reduceLeDiff, Nat.reduceSub, ↓reduceIte, reduceCtorEq, if_true, if_false]; exact rfl) ?_
  clear hq q
  repeat' (first | refine wpL_seq ?_ | refine wpL_skip ?_ | refine wpL_label ?_ | refine wpL_scope ?_)
  refine wpL_block fun k2 hn2 hx2 ho2 => ?_
  refine wpL_loop (fun j e h => ∃ Y : Int, 2000 ≤ Y ∧ Y ≤ 2399 ∧ ahead Y ≤ d ∧ j = (2400 - Y).toNat ∧ h = Heap.emp ∧ e = lk [(0, .int .i64 (d - ahead Y)), (6, .int .i64 Y)]) 400
    ⟨2000, by omega, by omega, by rw [ahead_0]; exact r1, rfl, rfl, by rw [ahead_0, Int.sub_zero]⟩ ?_
  rintro j e h ⟨Y, hY1, hY2, hY3, hj, rfl, rfl⟩ k3 hn3 hx3
  have b1 := ahead_in hY1 (by omega)
  have has := ahead_succ Y
  have hyp := ylen_pos Y
  repeat' (first | refine wpL_seq ?_ | refine wpL_skip ?_ | refine wpL_label ?_ | refine wpL_scope ?_)
  refine wpL_block fun k4 hn4 hx4 ho4 => ?_
  repeat' (first | refine wpL_seq ?_ | refine wpL_skip ?_ | refine wpL_label ?_ | refine wpL_scope ?_)
  refine wpL_region' [0, 6, 7] fun q hq => ?_
  simp -implicitDefEqProofs (disch := omega) only [go_sem, Int.reduceEq, Int.reduceLT, Int.reduceLE, Int.reduceToNat, Int.reduceNeg, Int.reduceAdd, Int.reduceSub, Nat.reduceEqDiff, Nat.reduceAdd, Nat.reduceMul, Nat.reduceLeDiff, Nat.reduceSub, ↓reduceIte, reduceCtorEq]
  repeat (refine And.intro (by omega) ?_)
  refine hq _ _ _ (by simp only [pickL, lk_cons, Int.reduceEq, Int.reduceLT, Int.reduceLE, Int.reduceToNat, Int.reduceNeg, Int.reduceAdd, Int.reduceSub, Nat.reduceEqDiff, Nat.reduceAdd, Nat.reduceMul, Nat.reduceLeDiff, Nat.reduceSub, ↓reduceIte, reduceCtorEq, if_true, if_false]; exact rfl) ?_
  clear hq q
  repeat' (first | refine wpL_seq ?_ | refine wpL_skip ?_ | refine wpL_label ?_ | refine wpL_scope ?_)
  refine wpL_region' [0, 6, 7, 16] fun q hq => ?_
  simp -implicitDefEqProofs (disch := omega) only [go_sem, Int.reduceEq, Int.reduceLT, Int.reduceLE, Int.reduceToNat, Int.reduceNeg, Int.reduceAdd, Int.reduceSub, Nat.reduceEqDiff, Nat.reduceAdd, Nat.reduceMul, Nat.reduceLeDiff, Nat.reduceSub, ↓reduceIte, reduceCtorEq]
  repeat (refine And.intro (by omega) ?_)
  refine gN_callP (f27_leap Y (by omega)) ?_
  simp -implicitDefEqProofs (disch := omega) only [go_sem, Int.reduceEq, Int.reduceLT, Int.reduceLE, Int.reduceToNat, Int.reduceNeg, Int.reduceAdd, Int.reduceSub, Nat.reduceEqDiff, Nat.reduceAdd, Nat.reduceMul, Nat.reduceLeDiff, Nat.reduceSub, ↓reduceIte, reduceCtorEq]
  repeat (refine And.intro (by omega) ?_)
  refine hq _ _ _ (by simp only [pickL, lk_cons, Int.reduceEq, Int.reduceLT, Int.reduceLE, Int.reduceToNat, Int.reduceNeg, Int.reduceAdd, Int.reduceSub, Nat.reduceEqDiff, Nat.reduceAdd, Nat.reduceMul, Nat.reduceLeDiff, Nat.reduceSub, ↓reduceIte, reduceCtorEq, if_true, if_false]; exact rfl) ?_
  clear hq q
  repeat' (first | refine wpL_seq ?_ | refine wpL_skip ?_ | refine wpL_label ?_ | refine wpL_scope ?_)
  refine wpL_condK rfl fun j5 hj5 ox5 => ?_
  have tail5 : j5 .normal (lk [(0, .int .i64 (d - ahead Y)), (6, .int .i64 Y), (7, .int .i64 (ylen Y))]) Heap.emp := by
    refine hj5 _ _ ?_
    repeat' (first | refine wpL_seq ?_ | refine wpL_skip ?_ | refine wpL_label ?_ | refine wpL_scope ?_)
    refine wpL_region' [0, 6, 7, 19] fun q hq => ?_
    simp -implicitDefEqProofs (disch := omega) only [go_sem, Int.reduceEq, Int.reduceLT, Int.reduceLE, Int.reduceToNat, Int.reduceNeg, Int.reduceAdd, Int.reduceSub, Nat.reduceEqDiff, Nat.reduceAdd, Nat.reduceMul, Nat.reduceLeDiff, Nat.reduceSub, ↓reduceIte, reduceCtorEq]
    repeat (refine And.intro (by omega) ?_)
    refine hq _ _ _ (by simp only [pickL, lk_cons, Int.reduceEq, Int.reduceLT, Int.reduceLE, Int.reduceToNat, Int.reduceNeg, Int.reduceAdd, Int.reduceSub, Nat.reduceEqDiff, Nat.reduceAdd, Nat.reduceMul, Nat.reduceLeDiff, Nat.reduceSub, ↓reduceIte, reduceCtorEq, if_true, if_false]; exact rfl) ?_
    clear hq q
    repeat' (first | refine wpL_seq ?_ | refine wpL_skip ?_ | refine wpL_label ?_ | refine wpL_scope ?_)
    refine wpL_cond rfl (fun hc6 => ?_) (fun hc6 => ?_)
    · simp at hc6
      obtain rfl : Y = y := year_uniq hY3 (by omega) i1 i2
      repeat' (first | refine wpL_seq ?_ | refine wpL_skip ?_ | refine wpL_label ?_ | refine wpL_scope ?_)
      refine wpL_exit (ho4 _ _ _ (by simp) (by simp) (hx3 _ _ _ (by simp) (hx2 _ _ ?_)))
      repeat' (first | refine wpL_seq ?_ | refine wpL_skip ?_ | refine wpL_label ?_ | refine wpL_scope ?_)
      refine wpL_region' [0, 6, 8] fun q hq => ?_
      simp -implicitDefEqProofs (disch := omega) only [go_sem, Int.reduceEq, Int.reduceLT, Int.reduceLE, Int.reduceToNat, Int.reduceNeg, Int.reduceAdd, Int.reduceSub, Nat.reduceEqDiff, Nat.reduceAdd, Nat.reduceMul, Nat.reduceLeDiff, Nat.reduceSub, ↓reduceIte, reduceCtorEq]
      repeat (refine And.intro (by omega) ?_)
      refine hq _ _ _ (by simp only [pickL, lk_cons, Int.reduceEq, Int.reduceLT, Int.reduceLE, Int.reduceToNat, Int.reduceNeg, Int.reduceAdd, Int.reduceSub, Nat.reduceEqDiff, Nat.reduceAdd, Nat.reduceMul, Nat.reduceLeDiff, Nat.reduceSub, ↓reduceIte, reduceCtorEq, if_true, if_false]; exact rfl) ?_
      clear hq q
      have hyl := msum_year Y
      generalize hR : d - ahead Y = R at *
      have hR0 : 0 ≤ R := by omega
      repeat' (first | refine wpL_seq ?_ | refine wpL_skip ?_ | refine wpL_label ?_ | refine wpL_scope ?_)
      refine wpL_block fun k7 hn7 hx7 ho7 => ?_
      refine wpL_loop (fun j e h => ∃ i : Nat, i ≤ 11 ∧ msum Y i ≤ R ∧ j = 12 - i ∧ h = Heap.emp ∧ e = lk [(0, .int .i64 (R - msum Y i)), (6, .int .i64 Y), (8, .int .i64 (i + 1))]) 12
        ⟨0, by omega, by simpa [msum] using hR0, rfl, rfl, by simp [msum]⟩ ?_
      rintro j e h ⟨i, hi, hiR, rfl, rfl, rfl⟩ k8 hn8 hx8
      have s1 := msum_in Y (n := i) (by omega)
      have s2 := mlen_pos Y (i + 1)
      repeat' (first | refine wpL_seq ?_ | refine wpL_skip ?_ | refine wpL_label ?_ | refine wpL_scope ?_)
      refine wpL_region' [0, 6, 8, 29] fun q hq => ?_
      simp -implicitDefEqProofs (disch := omega) only [go_sem, Int.reduceEq, Int.reduceLT, Int.reduceLE, Int.reduceToNat, Int.reduceNeg, Int.reduceAdd, Int.reduceSub, Nat.reduceEqDiff, Nat.reduceAdd, Nat.reduceMul, Nat.reduceLeDiff, Nat.reduceSub, ↓reduceIte, reduceCtorEq]
      repeat (refine And.intro (by omega) ?_)
      refine gN_callP (f26_month Y (i + 1) (by omega)) ?_
      simp -implicitDefEqProofs (disch := omega) only [go_sem, Int.reduceEq, Int.reduceLT, Int.reduceLE, Int.reduceToNat, Int.reduceNeg, Int.reduceAdd, Int.reduceSub, Nat.reduceEqDiff, Nat.reduceAdd, Nat.reduceMul, Nat.reduceLeDiff, Nat.reduceSub, ↓reduceIte, reduceCtorEq]
      repeat (refine And.intro (by omega) ?_)
      refine hq _ _ _ (by simp only [pickL, lk_cons, Int.reduceEq, Int.reduceLT, Int.reduceLE, Int.reduceToNat, Int.reduceNeg, Int.reduceAdd, Int.reduceSub, Nat.reduceEqDiff, Nat.reduceAdd, Nat.reduceMul, Nat.reduceLeDiff, Nat.reduceSub, ↓reduceIte, reduceCtorEq, if_true, if_false]; exact rfl) ?_
      clear hq q
      repeat' (first | refine wpL_seq ?_ | refine wpL_skip ?_ | refine wpL_label ?_ | refine wpL_scope ?_)
      refine wpL_cond rfl (fun hc8 => ?_) (fun hc8 => ?_)
      · simp at hc8
        have hi11 : i ≠ 11 := by
          rintro rfl
          have h9 : msum Y 12 = msum Y 11 + mlen Y ((11 : Nat) + 1) := rfl
          omega
        repeat' (first | refine wpL_seq ?_ | refine wpL_skip ?_ | refine wpL_label ?_ | refine wpL_scope ?_)
        refine wpL_block fun k10 hn10 hx10 ho10 => ?_
        repeat' (first | refine wpL_seq ?_ | refine wpL_skip ?_ | refine wpL_label ?_ | refine wpL_scope ?_)
        refine wpL_region' [0, 6, 8] fun q hq => ?_
        simp -implicitDefEqProofs (disch := omega) only [go_sem, Int.reduceEq, Int.reduceLT, Int.reduceLE, Int.reduceToNat, Int.reduceNeg, Int.reduceAdd, Int.reduceSub, Nat.reduceEqDiff, Nat.reduceAdd, Nat.reduceMul, Nat.reduceLeDiff, Nat.reduceSub, ↓reduceIte, reduceCtorEq]
        repeat (refine And.intro (by omega) ?_)
        refine gN_callP (f26_month Y (i + 1) (by omega)) ?_
        simp -implicitDefEqProofs (disch := omega) only [go_sem, Int.reduceEq, Int.reduceLT, Int.reduceLE, Int.reduceToNat, Int.reduceNeg, Int.reduceAdd, Int.reduceSub, Nat.reduceEqDiff, Nat.reduceAdd, Nat.reduceMul, Nat.reduceLeDiff, Nat.reduceSub, ↓reduceIte, reduceCtorEq]
        repeat (refine And.intro (by omega) ?_)
        refine hq _ _ _ (by simp only [pickL, lk_cons, Int.reduceEq, Int.reduceLT, Int.reduceLE, Int.reduceToNat, Int.reduceNeg, Int.reduceAdd, Int.reduceSub, Nat.reduceEqDiff, Nat.reduceAdd, Nat.reduceMul, Nat.reduceLeDiff, Nat.reduceSub, ↓reduceIte, reduceCtorEq, if_true, if_false]; exact rfl) ?_
        clear hq q
        repeat' (first | refine wpL_seq ?_ | refine wpL_skip ?_ | refine wpL_label ?_ | refine wpL_scope ?_)
        refine wpL_region' [0, 6, 8] fun q hq => ?_
        simp -implicitDefEqProofs (disch := omega) only [go_sem, Int.reduceEq, Int.reduceLT, Int.reduceLE, Int.reduceToNat, Int.reduceNeg, Int.reduceAdd, Int.reduceSub, Nat.reduceEqDiff, Nat.reduceAdd, Nat.reduceMul, Nat.reduceLeDiff, Nat.reduceSub, ↓reduceIte, reduceCtorEq]
        repeat (refine And.intro (by omega) ?_)
        refine hq _ _ _ (by simp only [pickL, lk_cons, Int.reduceEq, Int.reduceLT, Int.reduceLE, Int.reduceToNat, Int.reduceNeg, Int.reduceAdd, Int.reduceSub, Nat.reduceEqDiff, Nat.reduceAdd, Nat.reduceMul, Nat.reduceLeDiff, Nat.reduceSub, ↓reduceIte, reduceCtorEq, if_true, if_false]; exact rfl) ?_
        clear hq q
        repeat' (first | refine wpL_seq ?_ | refine wpL_skip ?_ | refine wpL_label ?_ | refine wpL_scope ?_)
        refine wpL_nil (hn10 _ _ ?_)
        repeat' (first | refine wpL_seq ?_ | refine wpL_skip ?_ | refine wpL_label ?_ | refine wpL_scope ?_)
        exact wpL_nil (hn8 (12 - (i + 1)) _ _ (by omega) ⟨i + 1, by omega, by simp only [msum]; omega, rfl, rfl, by simp only [msum]; rw [show R - msum Y i - mlen Y (↑i + 1) = R - (msum Y i + mlen Y (↑i + 1)) by omega]; rfl⟩)
      simp at hc8
      have hm : i = (m - 1).toNat := month_uniq (y := Y) (r := R) hiR (by simp only [msum]; omega) (by omega) (by omega)
      repeat' (first | refine wpL_seq ?_ | refine wpL_skip ?_ | refine wpL_label ?_ | refine wpL_scope ?_)
      refine wpL_exit (hx8 _ _ _ (by simp) (hx7 _ _ ?_))
      repeat' (first | refine wpL_seq ?_ | refine wpL_skip ?_ | refine wpL_label ?_ | refine wpL_scope ?_)
      refine wpL_region' [2, 3, 4, 5] fun q hq => ?_
      simp -implicitDefEqProofs (disch := omega) only [go_sem, Int.reduceEq, Int.reduceLT, Int.reduceLE, Int.reduceToNat, Int.reduceNeg, Int.reduceAdd, Int.reduceSub, Nat.reduceEqDiff, Nat.reduceAdd, Nat.reduceMul, Nat.reduceLeDiff, Nat.reduceSub, ↓reduceIte, reduceCtorEq]
      repeat (refine And.intro (by omega) ?_)
      refine hq _ _ _ (by simp only [pickL, lk_cons, Int.reduceEq, Int.reduceLT, Int.reduceLE, Int.reduceToNat, Int.reduceNeg, Int.reduceAdd, Int.reduceSub, Nat.reduceEqDiff, Nat.reduceAdd, Nat.reduceMul, Nat.reduceLeDiff, Nat.reduceSub, ↓reduceIte, reduceCtorEq, if_true, if_false]; exact rfl) ?_
      clear hq q
      repeat' (first | refine wpL_seq ?_ | refine wpL_skip ?_ | refine wpL_label ?_ | refine wpL_scope ?_)
      refine wpL_ret (hK' _ _ _ _ (.inr rfl) (resTo (rs' := [.tmp 2, .tmp 3, .tmp 4, .tmp 5]) rfl (by simp only [go_sem, Int.reduceEq, Int.reduceLT, Int.reduceLE, Int.reduceToNat, Int.reduceNeg, Int.reduceAdd, Int.reduceSub, Nat.reduceEqDiff, Nat.reduceAdd, Nat.reduceMul, Nat.reduceLeDiff, Nat.reduceSub, ↓reduceIte, reduceCtorEq]; exact rfl)) ?_)
      rw [← hm] at hk
      rw [show (i : Int) + 1 = m by omega, show R - msum Y i + 1 = k by omega]
    simp at hc6
    have hY : Y ≠ 2399 := by rintro rfl; have := ahead_end; rw [show (2400 : Int) = 2399 + 1 from rfl, has] at this; omega
    repeat' (first | refine wpL_seq ?_ | refine wpL_skip ?_ | refine wpL_label ?_ | refine wpL_scope ?_)
    refine wpL_region' [0, 6] fun q hq => ?_
    simp -implicitDefEqProofs (disch := omega) only [go_sem, Int.reduceEq, Int.reduceLT, Int.reduceLE, Int.reduceToNat, Int.reduceNeg, Int.reduceAdd, Int.reduceSub, Nat.reduceEqDiff, Nat.reduceAdd, Nat.reduceMul, Nat.reduceLeDiff, Nat.reduceSub, ↓reduceIte, reduceCtorEq]
    repeat (refine And.intro (by omega) ?_)
    refine hq _ _ _ (by simp only [pickL, lk_cons, Int.reduceEq, Int.reduceLT, Int.reduceLE, Int.reduceToNat, Int.reduceNeg, Int.reduceAdd, Int.reduceSub, Nat.reduceEqDiff, Nat.reduceAdd, Nat.reduceMul, Nat.reduceLeDiff, Nat.reduceSub, ↓reduceIte, reduceCtorEq, if_true, if_false]; exact rfl) ?_
    clear hq q
    repeat' (first | refine wpL_seq ?_ | refine wpL_skip ?_ | refine wpL_label ?_ | refine wpL_scope ?_)
    refine wpL_region' [0, 6] fun q hq => ?_
    simp -implicitDefEqProofs (disch := omega) only [go_sem, Int.reduceEq, Int.reduceLT, Int.reduceLE, Int.reduceToNat, Int.reduceNeg, Int.reduceAdd, Int.reduceSub, Nat.reduceEqDiff, Nat.reduceAdd, Nat.reduceMul, Nat.reduceLeDiff, Nat.reduceSub, ↓reduceIte, reduceCtorEq]
    repeat (refine And.intro (by omega) ?_)
    refine hq _ _ _ (by simp only [pickL, lk_cons, Int.reduceEq, Int.reduceLT, Int.reduceLE, Int.reduceToNat, Int.reduceNeg, Int.reduceAdd, Int.reduceSub, Nat.reduceEqDiff, Nat.reduceAdd, Nat.reduceMul, Nat.reduceLeDiff, Nat.reduceSub, ↓reduceIte, reduceCtorEq, if_true, if_false]; exact rfl) ?_
    clear hq q
    repeat' (first | refine wpL_seq ?_ | refine wpL_skip ?_ | refine wpL_label ?_ | refine wpL_scope ?_)
    refine wpL_nil (hn4 _ _ ?_)
    repeat' (first | refine wpL_seq ?_ | refine wpL_skip ?_ | refine wpL_label ?_ | refine wpL_scope ?_)
    exact wpL_nil (hn3 (2400 - (Y + 1)).toNat _ _ (by omega) ⟨Y + 1, by omega, by omega, by omega, rfl, rfl, by rw [has, show d - ahead Y - ylen Y = d - (ahead Y + ylen Y) by omega]⟩)
  refine ⟨fun hc5 => ?_, fun hc5 => ?_⟩
  · simp at hc5
    repeat' (first | refine wpL_seq ?_ | refine wpL_skip ?_ | refine wpL_label ?_ | refine wpL_scope ?_)
    refine wpL_region' [0, 6, 7] fun q hq => ?_
    simp -implicitDefEqProofs (disch := omega) only [go_sem, Int.reduceEq, Int.reduceLT, Int.reduceLE, Int.reduceToNat, Int.reduceNeg, Int.reduceAdd, Int.reduceSub, Nat.reduceEqDiff, Nat.reduceAdd, Nat.reduceMul, Nat.reduceLeDiff, Nat.reduceSub, ↓reduceIte, reduceCtorEq]
    repeat (refine And.intro (by omega) ?_)
    refine hq _ _ _ (by simp only [pickL, lk_cons, Int.reduceEq, Int.reduceLT, Int.reduceLE, Int.reduceToNat, Int.reduceNeg, Int.reduceAdd, Int.reduceSub, Nat.reduceEqDiff, Nat.reduceAdd, Nat.reduceMul, Nat.reduceLeDiff, Nat.reduceSub, ↓reduceIte, reduceCtorEq, if_true, if_false]; exact rfl) ?_
    clear hq q
    repeat' (first | refine wpL_seq ?_ | refine wpL_skip ?_ | refine wpL_label ?_ | refine wpL_scope ?_)
    refine wpL_nil ?_
    rw [ylen, if_pos hc5] at tail5
    exact tail5
  · simp at hc5
    rw [ylen, if_neg hc5] at tail5
    refine wpL_pick' [0, 6, 7] (by simp only [pickL, lk_cons, Int.reduceEq, Int.reduceLT, Int.reduceLE, Int.reduceToNat, Int.reduceNeg, Int.reduceAdd, Int.reduceSub, Nat.reduceEqDiff, Nat.reduceAdd, Nat.reduceMul, Nat.reduceLeDiff, Nat.reduceSub, ↓reduceIte, reduceCtorEq, if_true, if_false]; exact rfl) ?_
    repeat' (first | refine wpL_seq ?_ | refine wpL_skip ?_ | refine wpL_label ?_ | refine wpL_scope ?_)
    repeat' (first | refine wpL_seq ?_ | refine wpL_skip ?_ | refine wpL_label ?_ | refine wpL_scope ?_)
    exact wpL_nil tail5
end Go.Proofs.YtfllibbkmpkaiaaDoor.Am.T
