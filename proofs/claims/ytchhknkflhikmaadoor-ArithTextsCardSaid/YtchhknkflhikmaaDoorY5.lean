/- A word read of its text by the program; the law ArithTexts; what came in; the table as it is laid. -/
import Derived.Test.YtchhknkflhikmaaDoorY4
import Derived.Test.YtchhknkflhikmaaDoorAm18
import Derived.Test.YtchhknkflhikmaaDoorRows
namespace Go.Proofs.YtchhknkflhikmaaDoor.Am.Y
set_option linter.unusedSectionVars false
open Go Go.Proofs Am Am.P
set_option linter.unusedVariables false
set_option linter.unusedSimpArgs false
set_option maxRecDepth 100000
section
attribute [local irreducible] gO gN gW gdO
def badF (s : List UInt8) : Bool := decide (body s = [] ∨ ((body s)[0]? = some 48 ∧ s ≠ [48]))
set_option maxHeartbeats 2000000 in
theorem f17_number (s : List UInt8) (hs : s.length ≤ 140737488351232) : wpP Tryd.prog 17 [.str s] (ansP (ansA 11 23 s)) := by
  refine wpP_intro ?_
  refine wpH_intro (fn := Tryd.f17) rfl rfl (by decide) (by kernel_rfl) fun K' hK' => ?_
  repeat' (first | refine wpL_seq ?_ | refine wpL_skip ?_ | refine wpL_label ?_ | refine wpL_scope ?_)
  refine wpL_region' [0] fun q hq => ?_
  simp -implicitDefEqProofs (disch := omega) only [go_sem, Int.reduceEq, Int.reduceLT, Int.reduceLE, Int.reduceToNat, Int.reduceNeg, Int.reduceAdd, Int.reduceSub, Nat.reduceEqDiff, Nat.reduceAdd, Nat.reduceMul, Nat.reduceLeDiff, Nat.reduceSub, ↓reduceIte, reduceCtorEq]
  repeat (refine And.intro (by omega) ?_)
  refine hq _ _ _ (by simp only [pickL, lk_cons, Nat.reduceEqDiff, ↓reduceIte]; exact rfl) ?_
  clear hq q
  repeat' (first | refine wpL_seq ?_ | refine wpL_skip ?_ | refine wpL_label ?_ | refine wpL_scope ?_)
  refine wpL_region' [0, 4, 5] fun q hq => ?_
  simp -implicitDefEqProofs (disch := omega) only [go_sem, Int.reduceEq, Int.reduceLT, Int.reduceLE, Int.reduceToNat, Int.reduceNeg, Int.reduceAdd, Int.reduceSub, Nat.reduceEqDiff, Nat.reduceAdd, Nat.reduceMul, Nat.reduceLeDiff, Nat.reduceSub, ↓reduceIte, reduceCtorEq]
  repeat (refine And.intro (by omega) ?_)
  refine hq _ _ _ (by simp only [pickL, lk_cons, Nat.reduceEqDiff, ↓reduceIte]; exact rfl) ?_
  clear hq q
  by_cases hS : s = []
  · have d1 : decide (s = []) = true := decide_eq_true hS
    have cN : isNeg s = false := by rw [hS]; rfl
    repeat' (first | refine wpL_seq ?_ | refine wpL_skip ?_ | refine wpL_label ?_ | refine wpL_scope ?_)
    refine wpL_regV [0, 4, 5] 16 (.bool (isNeg s)) (by simp only [pickL, put, lk_cons, Int.reduceEq, Int.reduceLT, Int.reduceLE, Int.reduceToNat, Int.reduceNeg, Int.reduceAdd, Int.reduceSub, Nat.reduceEqDiff, Nat.reduceAdd, Nat.reduceMul, Nat.reduceLeDiff, Nat.reduceSub, ↓reduceIte, reduceCtorEq, if_true, if_false]; exact rfl) (by decide) ?_ ?_
    · simp -implicitDefEqProofs (disch := omega) only [go_sem, Int.reduceEq, Int.reduceLT, Int.reduceLE, Int.reduceToNat, Int.reduceNeg, Int.reduceAdd, Int.reduceSub, Nat.reduceEqDiff, Nat.reduceAdd, Nat.reduceMul, Nat.reduceLeDiff, Nat.reduceSub, ↓reduceIte, reduceCtorEq, d1]
      repeat' (first | (refine gN_split2 (fun hs => ?_) (fun hs => ?_) <;> simp -implicitDefEqProofs (disch := omega) only [go_sem, Int.reduceEq, Int.reduceLT, Int.reduceLE, Int.reduceToNat, Int.reduceNeg, Int.reduceAdd, Int.reduceSub, Nat.reduceEqDiff, Nat.reduceAdd, Nat.reduceMul, Nat.reduceLeDiff, Nat.reduceSub, ↓reduceIte, reduceCtorEq, hs, d1]) | simp -implicitDefEqProofs (disch := omega) only [go_sem, Int.reduceEq, Int.reduceLT, Int.reduceLE, Int.reduceToNat, Int.reduceNeg, Int.reduceAdd, Int.reduceSub, Nat.reduceEqDiff, Nat.reduceAdd, Nat.reduceMul, Nat.reduceLeDiff, Nat.reduceSub, ↓reduceIte, reduceCtorEq, d1] | refine And.intro (by omega) ?_)
      all_goals (try clear hK')
      all_goals ((first | (rw [cN]; done) | rfl | grind))
    repeat' (first | refine wpL_seq ?_ | refine wpL_skip ?_ | refine wpL_label ?_ | refine wpL_scope ?_)
    refine wpL_condK rfl fun j1 hj1 ox1 => ?_
    have tail1 : j1 .normal (lk [(0, .str s), (4, .str (body s)), (5, .int .i64 (sgn s))]) Heap.emp := by
      have hbl : (body s).length ≤ s.length := by unfold body; split <;> simp
      refine hj1 _ _ ?_
      by_cases hB : body s = []
      · have hbF : badF s = true := decide_eq_true (.inl hB)
        have d1 : decide (body s = []) = true := decide_eq_true hB
        repeat' (first | refine wpL_seq ?_ | refine wpL_skip ?_ | refine wpL_label ?_ | refine wpL_scope ?_)
        refine wpL_regV [4, 5] 29 (.bool (badF s)) (by simp only [pickL, put, lk_cons, Int.reduceEq, Int.reduceLT, Int.reduceLE, Int.reduceToNat, Int.reduceNeg, Int.reduceAdd, Int.reduceSub, Nat.reduceEqDiff, Nat.reduceAdd, Nat.reduceMul, Nat.reduceLeDiff, Nat.reduceSub, ↓reduceIte, reduceCtorEq, if_true, if_false]; exact rfl) (by decide) ?_ ?_
        · simp -implicitDefEqProofs (disch := omega) only [go_sem, Int.reduceEq, Int.reduceLT, Int.reduceLE, Int.reduceToNat, Int.reduceNeg, Int.reduceAdd, Int.reduceSub, Nat.reduceEqDiff, Nat.reduceAdd, Nat.reduceMul, Nat.reduceLeDiff, Nat.reduceSub, ↓reduceIte, reduceCtorEq, d1]
          repeat' (first | (refine gN_split2 (fun hs => ?_) (fun hs => ?_) <;> simp -implicitDefEqProofs (disch := omega) only [go_sem, Int.reduceEq, Int.reduceLT, Int.reduceLE, Int.reduceToNat, Int.reduceNeg, Int.reduceAdd, Int.reduceSub, Nat.reduceEqDiff, Nat.reduceAdd, Nat.reduceMul, Nat.reduceLeDiff, Nat.reduceSub, ↓reduceIte, reduceCtorEq, hs, d1]) | simp -implicitDefEqProofs (disch := omega) only [go_sem, Int.reduceEq, Int.reduceLT, Int.reduceLE, Int.reduceToNat, Int.reduceNeg, Int.reduceAdd, Int.reduceSub, Nat.reduceEqDiff, Nat.reduceAdd, Nat.reduceMul, Nat.reduceLeDiff, Nat.reduceSub, ↓reduceIte, reduceCtorEq, d1] | refine And.intro (by omega) ?_)
          all_goals (try clear hK'; try clear hj1; try clear ox1)
          all_goals ((first | (rw [hbF]; done) | rfl | grind))
        repeat' (first | refine wpL_seq ?_ | refine wpL_skip ?_ | refine wpL_label ?_ | refine wpL_scope ?_)
        refine wpL_cond rfl (fun hc2 => ?_) (fun hc2 => ?_)
        · have hb : body s = [] ∨ ((body s)[0]? = some 48 ∧ s ≠ [48]) := of_decide_eq_true hc2
          repeat' (first | refine wpL_seq ?_ | refine wpL_skip ?_ | refine wpL_label ?_ | refine wpL_scope ?_)
          refine wpL_region' [2, 3] fun q hq => ?_
          simp -implicitDefEqProofs (disch := omega) only [go_sem, Int.reduceEq, Int.reduceLT, Int.reduceLE, Int.reduceToNat, Int.reduceNeg, Int.reduceAdd, Int.reduceSub, Nat.reduceEqDiff, Nat.reduceAdd, Nat.reduceMul, Nat.reduceLeDiff, Nat.reduceSub, ↓reduceIte, reduceCtorEq]
          repeat (refine And.intro (by omega) ?_)
          refine hq _ _ _ (by simp only [pickL, lk_cons, Nat.reduceEqDiff, ↓reduceIte]; exact rfl) ?_
          clear hq q
          repeat' (first | refine wpL_seq ?_ | refine wpL_skip ?_ | refine wpL_label ?_ | refine wpL_scope ?_)
          refine wpL_ret (hK' _ _ _ _ (.inr rfl) (resTo (rs' := [.tmp 2, .tmp 3]) rfl (by simp only [go_sem, Int.reduceEq, Int.reduceLT, Int.reduceLE, Int.reduceToNat, Int.reduceNeg, Int.reduceAdd, Int.reduceSub, Nat.reduceEqDiff, Nat.reduceAdd, Nat.reduceMul, Nat.reduceLeDiff, Nat.reduceSub, ↓reduceIte, reduceCtorEq]; exact rfl)) ?_)
          rw [ansP, ansA, if_pos hb]
        have hb : ¬ (body s = [] ∨ ((body s)[0]? = some 48 ∧ s ≠ [48])) := of_decide_eq_false hc2
        repeat' (first | refine wpL_seq ?_ | refine wpL_skip ?_ | refine wpL_label ?_ | refine wpL_scope ?_)
        refine wpL_region' [4, 5, 6, 7] fun q hq => ?_
        simp -implicitDefEqProofs (disch := omega) only [go_sem, Int.reduceEq, Int.reduceLT, Int.reduceLE, Int.reduceToNat, Int.reduceNeg, Int.reduceAdd, Int.reduceSub, Nat.reduceEqDiff, Nat.reduceAdd, Nat.reduceMul, Nat.reduceLeDiff, Nat.reduceSub, ↓reduceIte, reduceCtorEq]
        repeat (refine And.intro (by omega) ?_)
        refine hq _ _ _ (by simp only [pickL, lk_cons, Nat.reduceEqDiff, ↓reduceIte]; exact rfl) ?_
        clear hq q
        repeat' (first | refine wpL_seq ?_ | refine wpL_skip ?_ | refine wpL_label ?_ | refine wpL_scope ?_)
        refine wpL_region' [4, 5, 6, 7, 31, 32] fun q hq => ?_
        simp -implicitDefEqProofs (disch := omega) only [go_sem, Int.reduceEq, Int.reduceLT, Int.reduceLE, Int.reduceToNat, Int.reduceNeg, Int.reduceAdd, Int.reduceSub, Nat.reduceEqDiff, Nat.reduceAdd, Nat.reduceMul, Nat.reduceLeDiff, Nat.reduceSub, ↓reduceIte, reduceCtorEq]
        repeat (refine And.intro (by omega) ?_)
        refine hq _ _ _ (by simp only [pickL, lk_cons, Nat.reduceEqDiff, ↓reduceIte]; exact rfl) ?_
        clear hq q
        generalize hD : body s = D at *
        refine wpL_pick' [4, 5, 6, 7, 31, 32] (by simp only [pickL, lk_cons, Nat.reduceEqDiff, ↓reduceIte]; exact rfl) ?_
        repeat' (first | refine wpL_seq ?_ | refine wpL_skip ?_ | refine wpL_label ?_ | refine wpL_scope ?_)
        repeat' (first | refine wpL_seq ?_ | refine wpL_skip ?_ | refine wpL_label ?_ | refine wpL_scope ?_)
        refine wpL_block fun k3 hn3 hx3 ho3 => ?_
        refine wpL_loop (fun j e h => ∃ (i : Nat) (n : Int) (b : Bool), i ≤ D.length ∧ j = D.length - i ∧ h = Heap.emp ∧ 0 ≤ n ∧ n ≤ 1099511627776 ∧ foldD D 0 false = foldD (D.drop i) n b ∧
          e = lk [(4, .str D), (5, .int .i64 (sgn s)), (6, .int .i64 n), (7, .bool b), (31, .int .i64 D.length), (32, .int .i64 i)]) D.length ⟨0, 0, false, by omega, by omega, rfl, by omega, by omega, by rw [List.drop_zero], rfl⟩ ?_
        rintro j e h ⟨i, n, b, hi, hj, rfl, hn0, hn1, hF, rfl⟩ k4 hn4 hx4
        repeat' (first | refine wpL_seq ?_ | refine wpL_skip ?_ | refine wpL_label ?_ | refine wpL_scope ?_)
        refine wpL_region' [4, 5, 6, 7, 31, 32, 33] fun q hq => ?_
        simp -implicitDefEqProofs (disch := omega) only [go_sem, Int.reduceEq, Int.reduceLT, Int.reduceLE, Int.reduceToNat, Int.reduceNeg, Int.reduceAdd, Int.reduceSub, Nat.reduceEqDiff, Nat.reduceAdd, Nat.reduceMul, Nat.reduceLeDiff, Nat.reduceSub, ↓reduceIte, reduceCtorEq]
        repeat (refine And.intro (by omega) ?_)
        refine hq _ _ _ (by simp only [pickL, lk_cons, Nat.reduceEqDiff, ↓reduceIte]; exact rfl) ?_
        clear hq q
        repeat' (first | refine wpL_seq ?_ | refine wpL_skip ?_ | refine wpL_label ?_ | refine wpL_scope ?_)
        refine wpL_cond rfl (fun hc5 => ?_) (fun hc5 => ?_)
        · have hc5 := of_decide_eq_true hc5
          obtain ⟨c, hc⟩ := get_of_lt (show i < D.length by omega)
          rw [drop_get hc, foldD] at hF
          have ed := isD_dec c
          repeat' (first | refine wpL_seq ?_ | refine wpL_skip ?_ | refine wpL_label ?_ | refine wpL_scope ?_)
          refine wpL_block fun k6 hn6 hx6 ho6 => ?_
          repeat' (first | refine wpL_seq ?_ | refine wpL_skip ?_ | refine wpL_label ?_ | refine wpL_scope ?_)
          refine wpL_region' [4, 5, 6, 7, 8, 31, 32] fun q hq => ?_
          simp -implicitDefEqProofs (disch := omega) only [go_sem, Int.reduceEq, Int.reduceLT, Int.reduceLE, Int.reduceToNat, Int.reduceNeg, Int.reduceAdd, Int.reduceSub, Nat.reduceEqDiff, Nat.reduceAdd, Nat.reduceMul, Nat.reduceLeDiff, Nat.reduceSub, ↓reduceIte, reduceCtorEq]
          repeat (refine And.intro (by omega) ?_)
          refine hq _ _ _ (by simp only [pickL, lk_cons, Nat.reduceEqDiff, ↓reduceIte]; exact rfl) ?_
          clear hq q
          repeat' (first | refine wpL_seq ?_ | refine wpL_skip ?_ | refine wpL_label ?_ | refine wpL_scope ?_)
          refine wpL_regV [4, 5, 6, 7, 8, 31, 32] 44 (.bool (!isD c)) (by simp only [pickL, put, lk_cons, Int.reduceEq, Int.reduceLT, Int.reduceLE, Int.reduceToNat, Int.reduceNeg, Int.reduceAdd, Int.reduceSub, Nat.reduceEqDiff, Nat.reduceAdd, Nat.reduceMul, Nat.reduceLeDiff, Nat.reduceSub, ↓reduceIte, reduceCtorEq, if_true, if_false]; exact rfl) (by decide) ?_ ?_
          · simp -implicitDefEqProofs (disch := omega) only [go_sem, Int.reduceEq, Int.reduceLT, Int.reduceLE, Int.reduceToNat, Int.reduceNeg, Int.reduceAdd, Int.reduceSub, Nat.reduceEqDiff, Nat.reduceAdd, Nat.reduceMul, Nat.reduceLeDiff, Nat.reduceSub, ↓reduceIte, reduceCtorEq, hc]
            repeat' (first | (refine gN_split2 (fun hs => ?_) (fun hs => ?_) <;> simp -implicitDefEqProofs (disch := omega) only [go_sem, Int.reduceEq, Int.reduceLT, Int.reduceLE, Int.reduceToNat, Int.reduceNeg, Int.reduceAdd, Int.reduceSub, Nat.reduceEqDiff, Nat.reduceAdd, Nat.reduceMul, Nat.reduceLeDiff, Nat.reduceSub, ↓reduceIte, reduceCtorEq, hs, hc]) | simp -implicitDefEqProofs (disch := omega) only [go_sem, Int.reduceEq, Int.reduceLT, Int.reduceLE, Int.reduceToNat, Int.reduceNeg, Int.reduceAdd, Int.reduceSub, Nat.reduceEqDiff, Nat.reduceAdd, Nat.reduceMul, Nat.reduceLeDiff, Nat.reduceSub, ↓reduceIte, reduceCtorEq, hc] | refine And.intro (by omega) ?_)
            all_goals (try clear hK'; try clear hj1; try clear ox1; try clear hn3; try clear hx3; try clear ho3; try clear hn4; try clear hx4; try clear hn6; try clear hx6; try clear ho6)
            all_goals ((first | rfl | (rw [← ed]; grind) | grind))
          repeat' (first | refine wpL_seq ?_ | refine wpL_skip ?_ | refine wpL_label ?_ | refine wpL_scope ?_)
          refine wpL_cond rfl (fun hc7 => ?_) (fun hc7 => ?_)
          · have h1 : isD c = false := by simpa using hc7
            rw [if_pos h1] at hF
            repeat' (first | refine wpL_seq ?_ | refine wpL_skip ?_ | refine wpL_label ?_ | refine wpL_scope ?_)
            refine wpL_region' [2, 3] fun q hq => ?_
            simp -implicitDefEqProofs (disch := omega) only [go_sem, Int.reduceEq, Int.reduceLT, Int.reduceLE, Int.reduceToNat, Int.reduceNeg, Int.reduceAdd, Int.reduceSub, Nat.reduceEqDiff, Nat.reduceAdd, Nat.reduceMul, Nat.reduceLeDiff, Nat.reduceSub, ↓reduceIte, reduceCtorEq]
            repeat (refine And.intro (by omega) ?_)
            refine hq _ _ _ (by simp only [pickL, lk_cons, Nat.reduceEqDiff, ↓reduceIte]; exact rfl) ?_
            clear hq q
            repeat' (first | refine wpL_seq ?_ | refine wpL_skip ?_ | refine wpL_label ?_ | refine wpL_scope ?_)
            refine wpL_ret (ho6 _ _ _ (by simp) (by simp) (hx4 _ _ _ (by simp) (ho3 _ _ _ (by simp) (by simp) (hK' _ _ _ _ (.inr rfl) (resTo (rs' := [.tmp 2, .tmp 3]) rfl (by simp only [go_sem, Int.reduceEq, Int.reduceLT, Int.reduceLE, Int.reduceToNat, Int.reduceNeg, Int.reduceAdd, Int.reduceSub, Nat.reduceEqDiff, Nat.reduceAdd, Nat.reduceMul, Nat.reduceLeDiff, Nat.reduceSub, ↓reduceIte, reduceCtorEq]; exact rfl)) ?_))))
            rw [ansP, ansA, hD, if_neg hb, hF]
          have h1 : isD c = true := by simpa using hc7
          rw [if_neg (by simp [h1])] at hF
          have hD2 := h1
          simp only [isD, Bool.and_eq_true, decide_eq_true_eq] at hD2
          have e1 : IntKind.wrap .u8 ((c.toNat : Int) - 48) = (c.toNat : Int) - 48 := wrapU8 (by omega) (by omega)
          have e2 : IntKind.wrap .i64 ((c.toNat : Int) - 48) = (c.toNat : Int) - 48 := wrap64 (by omega) (by omega)
          have e3 : IntKind.wrap .i64 (10 * n) = 10 * n := wrap64 (by omega) (by omega)
          have e4 : IntKind.wrap .i64 (10 * n + ((c.toNat : Int) - 48)) = 10 * n + ((c.toNat : Int) - 48) := wrap64 (by omega) (by omega)
          repeat' (first | refine wpL_seq ?_ | refine wpL_skip ?_ | refine wpL_label ?_ | refine wpL_scope ?_)
          refine wpL_region' [4, 5, 6, 7, 31, 32] fun q hq => ?_
          simp -implicitDefEqProofs (disch := omega) only [go_sem, Int.reduceEq, Int.reduceLT, Int.reduceLE, Int.reduceToNat, Int.reduceNeg, Int.reduceAdd, Int.reduceSub, Nat.reduceEqDiff, Nat.reduceAdd, Nat.reduceMul, Nat.reduceLeDiff, Nat.reduceSub, ↓reduceIte, reduceCtorEq, hc, e1, e2, e3, e4]
          repeat (refine And.intro (by omega) ?_)
          refine hq _ _ _ (by simp only [pickL, lk_cons, Nat.reduceEqDiff, ↓reduceIte]; exact rfl) ?_
          clear hq q
          repeat' (first | refine wpL_seq ?_ | refine wpL_skip ?_ | refine wpL_label ?_ | refine wpL_scope ?_)
          refine wpL_region' [4, 5, 6, 7, 31, 32, 54] fun q hq => ?_
          simp -implicitDefEqProofs (disch := omega) only [go_sem, Int.reduceEq, Int.reduceLT, Int.reduceLE, Int.reduceToNat, Int.reduceNeg, Int.reduceAdd, Int.reduceSub, Nat.reduceEqDiff, Nat.reduceAdd, Nat.reduceMul, Nat.reduceLeDiff, Nat.reduceSub, ↓reduceIte, reduceCtorEq]
          repeat (refine And.intro (by omega) ?_)
          refine hq _ _ _ (by simp only [pickL, lk_cons, Nat.reduceEqDiff, ↓reduceIte]; exact rfl) ?_
          clear hq q
          repeat' (first | refine wpL_seq ?_ | refine wpL_skip ?_ | refine wpL_label ?_ | refine wpL_scope ?_)
          refine wpL_condK rfl fun j8 hj8 ox8 => ?_
          have tail8 : ∀ (n' : Int) (b' : Bool), 0 ≤ n' → n' ≤ 1099511627776 → foldD D 0 false = foldD (D.drop (i + 1)) n' b' → j8 .normal (lk [(4, .str D), (5, .int .i64 (sgn s)), (6, .int .i64 n'), (7, .bool b'), (31, .int .i64 D.length), (32, .int .i64 i)]) Heap.emp := by
            intro n' b' h1 h2 h3
            refine hj8 _ _ ?_
            repeat' (first | refine wpL_seq ?_ | refine wpL_skip ?_ | refine wpL_label ?_ | refine wpL_scope ?_)
            refine wpL_nil (hn6 _ _ ?_)
            repeat' (first | refine wpL_seq ?_ | refine wpL_skip ?_ | refine wpL_label ?_ | refine wpL_scope ?_)
            refine wpL_region' [4, 5, 6, 7, 31, 32] fun q hq => ?_
            simp -implicitDefEqProofs (disch := omega) only [go_sem, Int.reduceEq, Int.reduceLT, Int.reduceLE, Int.reduceToNat, Int.reduceNeg, Int.reduceAdd, Int.reduceSub, Nat.reduceEqDiff, Nat.reduceAdd, Nat.reduceMul, Nat.reduceLeDiff, Nat.reduceSub, ↓reduceIte, reduceCtorEq]
            repeat (refine And.intro (by omega) ?_)
            refine hq _ _ _ (by simp only [pickL, lk_cons, Nat.reduceEqDiff, ↓reduceIte]; exact rfl) ?_
            clear hq q
            repeat' (first | refine wpL_seq ?_ | refine wpL_skip ?_ | refine wpL_label ?_ | refine wpL_scope ?_)
            exact wpL_nil (hn4 (D.length - (i + 1)) _ _ (by omega) ⟨i + 1, n', b', by omega, rfl, rfl, h1, h2, h3, rfl⟩)
          refine ⟨fun hc8 => ?_, fun hc8 => ?_⟩
          · have hc8 := of_decide_eq_true hc8
            rw [if_pos hc8] at hF
            repeat' (first | refine wpL_seq ?_ | refine wpL_skip ?_ | refine wpL_label ?_ | refine wpL_scope ?_)
            refine wpL_region' [4, 5, 6, 7, 31, 32] fun q hq => ?_
            simp -implicitDefEqProofs (disch := omega) only [go_sem, Int.reduceEq, Int.reduceLT, Int.reduceLE, Int.reduceToNat, Int.reduceNeg, Int.reduceAdd, Int.reduceSub, Nat.reduceEqDiff, Nat.reduceAdd, Nat.reduceMul, Nat.reduceLeDiff, Nat.reduceSub, ↓reduceIte, reduceCtorEq]
            repeat (refine And.intro (by omega) ?_)
            refine hq _ _ _ (by simp only [pickL, lk_cons, Nat.reduceEqDiff, ↓reduceIte]; exact rfl) ?_
            clear hq q
            repeat' (first | refine wpL_seq ?_ | refine wpL_skip ?_ | refine wpL_label ?_ | refine wpL_scope ?_)
            exact wpL_nil (tail8 _ _ (by omega) (by omega) hF)
          · have hc8 := of_decide_eq_false hc8
            rw [if_neg hc8] at hF
            refine wpL_pick' [4, 5, 6, 7, 31, 32] (by simp only [pickL, lk_cons, Nat.reduceEqDiff, ↓reduceIte]; exact rfl) ?_
            repeat' (first | refine wpL_seq ?_ | refine wpL_skip ?_ | refine wpL_label ?_ | refine wpL_scope ?_)
            repeat' (first | refine wpL_seq ?_ | refine wpL_skip ?_ | refine wpL_label ?_ | refine wpL_scope ?_)
            exact wpL_nil (tail8 _ _ (by omega) (by omega) hF)
        have hc5 := of_decide_eq_false hc5
        have hie : i = D.length := by omega
        rw [hie, List.drop_length, foldD] at hF
        have hsg : sgn s = 1 ∨ sgn s = -1 := by unfold sgn; split; exact .inr rfl; exact .inl rfl
        have hA : ansA 11 23 s = fin 23 b (n * sgn s) := by rw [ansA, hD, if_neg hb, hF]
        rw [hA] at hK'
        obtain ⟨m, hm⟩ : ∃ m, m = n * sgn s := ⟨_, rfl⟩
        have hmb : -1099511627776 ≤ m ∧ m ≤ 1099511627776 := by rcases hsg with h | h <;> rw [h] at hm <;> omega
        have e : IntKind.wrap .i64 (n * sgn s) = m := by rw [← hm]; exact wrap64 (by omega) (by omega)
        rw [← hm] at hK'
        repeat' (first | refine wpL_seq ?_ | refine wpL_skip ?_ | refine wpL_label ?_ | refine wpL_scope ?_)
        refine wpL_exit (hx4 _ _ _ (by simp) (hx3 _ _ ?_))
        repeat' (first | refine wpL_seq ?_ | refine wpL_skip ?_ | refine wpL_label ?_ | refine wpL_scope ?_)
        refine wpL_region' [6, 7] fun q hq => ?_
        simp -implicitDefEqProofs (disch := omega) only [go_sem, Int.reduceEq, Int.reduceLT, Int.reduceLE, Int.reduceToNat, Int.reduceNeg, Int.reduceAdd, Int.reduceSub, Nat.reduceEqDiff, Nat.reduceAdd, Nat.reduceMul, Nat.reduceLeDiff, Nat.reduceSub, ↓reduceIte, reduceCtorEq, e, ← hm]
        repeat (refine And.intro (by omega) ?_)
        refine hq _ _ _ (by simp only [pickL, lk_cons, Nat.reduceEqDiff, ↓reduceIte]; exact rfl) ?_
        clear hq q
        repeat' (first | refine wpL_seq ?_ | refine wpL_skip ?_ | refine wpL_label ?_ | refine wpL_scope ?_)
        refine wpL_regV [6] 67 (.bool (b || decide (m < -2147483648 ∨ m > 2147483647))) (by simp only [pickL, put, lk_cons, Int.reduceEq, Int.reduceLT, Int.reduceLE, Int.reduceToNat, Int.reduceNeg, Int.reduceAdd, Int.reduceSub, Nat.reduceEqDiff, Nat.reduceAdd, Nat.reduceMul, Nat.reduceLeDiff, Nat.reduceSub, ↓reduceIte, reduceCtorEq, if_true, if_false]; exact rfl) (by decide) ?_ ?_
        · simp -implicitDefEqProofs (disch := omega) only [go_sem, Int.reduceEq, Int.reduceLT, Int.reduceLE, Int.reduceToNat, Int.reduceNeg, Int.reduceAdd, Int.reduceSub, Nat.reduceEqDiff, Nat.reduceAdd, Nat.reduceMul, Nat.reduceLeDiff, Nat.reduceSub, ↓reduceIte, reduceCtorEq]
          repeat' (first | (refine gN_split2 (fun hs => ?_) (fun hs => ?_) <;> simp -implicitDefEqProofs (disch := omega) only [go_sem, Int.reduceEq, Int.reduceLT, Int.reduceLE, Int.reduceToNat, Int.reduceNeg, Int.reduceAdd, Int.reduceSub, Nat.reduceEqDiff, Nat.reduceAdd, Nat.reduceMul, Nat.reduceLeDiff, Nat.reduceSub, ↓reduceIte, reduceCtorEq, hs]) | simp -implicitDefEqProofs (disch := omega) only [go_sem, Int.reduceEq, Int.reduceLT, Int.reduceLE, Int.reduceToNat, Int.reduceNeg, Int.reduceAdd, Int.reduceSub, Nat.reduceEqDiff, Nat.reduceAdd, Nat.reduceMul, Nat.reduceLeDiff, Nat.reduceSub, ↓reduceIte, reduceCtorEq] | refine And.intro (by omega) ?_)
          all_goals (try clear hK'; try clear hj1; try clear ox1; try clear hn3; try clear hx3; try clear ho3; try clear hn4; try clear hx4; try clear hn6; try clear hx6; try clear ho6; try clear hj8; try clear ox8)
          all_goals (grind)
        repeat' (first | refine wpL_seq ?_ | refine wpL_skip ?_ | refine wpL_label ?_ | refine wpL_scope ?_)
        refine wpL_cond rfl (fun hc9 => ?_) (fun hc9 => ?_)
        · have hc9 : b = true ∨ (m < -2147483648 ∨ m > 2147483647) := by simpa using hc9
          repeat' (first | refine wpL_seq ?_ | refine wpL_skip ?_ | refine wpL_label ?_ | refine wpL_scope ?_)
          refine wpL_region' [2, 3] fun q hq => ?_
          simp -implicitDefEqProofs (disch := omega) only [go_sem, Int.reduceEq, Int.reduceLT, Int.reduceLE, Int.reduceToNat, Int.reduceNeg, Int.reduceAdd, Int.reduceSub, Nat.reduceEqDiff, Nat.reduceAdd, Nat.reduceMul, Nat.reduceLeDiff, Nat.reduceSub, ↓reduceIte, reduceCtorEq]
          repeat (refine And.intro (by omega) ?_)
          refine hq _ _ _ (by simp only [pickL, lk_cons, Nat.reduceEqDiff, ↓reduceIte]; exact rfl) ?_
          clear hq q
          repeat' (first | refine wpL_seq ?_ | refine wpL_skip ?_ | refine wpL_label ?_ | refine wpL_scope ?_)
          refine wpL_ret (hK' _ _ _ _ (.inr rfl) (resTo (rs' := [.tmp 2, .tmp 3]) rfl (by simp only [go_sem, Int.reduceEq, Int.reduceLT, Int.reduceLE, Int.reduceToNat, Int.reduceNeg, Int.reduceAdd, Int.reduceSub, Nat.reduceEqDiff, Nat.reduceAdd, Nat.reduceMul, Nat.reduceLeDiff, Nat.reduceSub, ↓reduceIte, reduceCtorEq]; exact rfl)) ?_)
          rw [ansP, fin, if_pos hc9]
        have hc9 : ¬ (b = true ∨ (m < -2147483648 ∨ m > 2147483647)) := by simpa using hc9
        have e9 : IntKind.wrap .i32 m = m := wrap32 (by omega) (by omega)
        repeat' (first | refine wpL_seq ?_ | refine wpL_skip ?_ | refine wpL_label ?_ | refine wpL_scope ?_)
        refine wpL_region' [2, 3] fun q hq => ?_
        simp -implicitDefEqProofs (disch := omega) only [go_sem, Int.reduceEq, Int.reduceLT, Int.reduceLE, Int.reduceToNat, Int.reduceNeg, Int.reduceAdd, Int.reduceSub, Nat.reduceEqDiff, Nat.reduceAdd, Nat.reduceMul, Nat.reduceLeDiff, Nat.reduceSub, ↓reduceIte, reduceCtorEq, e9]
        repeat (refine And.intro (by omega) ?_)
        refine hq _ _ _ (by simp only [pickL, lk_cons, Nat.reduceEqDiff, ↓reduceIte]; exact rfl) ?_
        clear hq q
        repeat' (first | refine wpL_seq ?_ | refine wpL_skip ?_ | refine wpL_label ?_ | refine wpL_scope ?_)
        refine wpL_ret (hK' _ _ _ _ (.inr rfl) (resTo (rs' := [.tmp 2, .tmp 3]) rfl (by simp only [go_sem, Int.reduceEq, Int.reduceLT, Int.reduceLE, Int.reduceToNat, Int.reduceNeg, Int.reduceAdd, Int.reduceSub, Nat.reduceEqDiff, Nat.reduceAdd, Nat.reduceMul, Nat.reduceLeDiff, Nat.reduceSub, ↓reduceIte, reduceCtorEq]; exact rfl)) ?_)
        rw [ansP, fin, if_neg hc9]
      · have d1 : decide (body s = []) = false := decide_eq_false hB
        obtain ⟨c, g0⟩ := get_of_lt (show 0 < (body s).length from List.length_pos_iff.2 hB)
        have c48 : decide ((c.toNat : Int) = 48) = decide (c = 48) := u8eq c 48 48 rfl
        have hbF : badF s = (decide (c = 48) && !decide (s = [48])) := by rw [badF, g0]; simp [hB]
        repeat' (first | refine wpL_seq ?_ | refine wpL_skip ?_ | refine wpL_label ?_ | refine wpL_scope ?_)
        refine wpL_regV [4, 5] 29 (.bool (badF s)) (by simp only [pickL, put, lk_cons, Int.reduceEq, Int.reduceLT, Int.reduceLE, Int.reduceToNat, Int.reduceNeg, Int.reduceAdd, Int.reduceSub, Nat.reduceEqDiff, Nat.reduceAdd, Nat.reduceMul, Nat.reduceLeDiff, Nat.reduceSub, ↓reduceIte, reduceCtorEq, if_true, if_false]; exact rfl) (by decide) ?_ ?_
        · simp -implicitDefEqProofs (disch := omega) only [go_sem, Int.reduceEq, Int.reduceLT, Int.reduceLE, Int.reduceToNat, Int.reduceNeg, Int.reduceAdd, Int.reduceSub, Nat.reduceEqDiff, Nat.reduceAdd, Nat.reduceMul, Nat.reduceLeDiff, Nat.reduceSub, ↓reduceIte, reduceCtorEq, d1, g0, c48]
          repeat' (first | (refine gN_split2 (fun hs => ?_) (fun hs => ?_) <;> simp -implicitDefEqProofs (disch := omega) only [go_sem, Int.reduceEq, Int.reduceLT, Int.reduceLE, Int.reduceToNat, Int.reduceNeg, Int.reduceAdd, Int.reduceSub, Nat.reduceEqDiff, Nat.reduceAdd, Nat.reduceMul, Nat.reduceLeDiff, Nat.reduceSub, ↓reduceIte, reduceCtorEq, hs, d1, g0, c48]) | simp -implicitDefEqProofs (disch := omega) only [go_sem, Int.reduceEq, Int.reduceLT, Int.reduceLE, Int.reduceToNat, Int.reduceNeg, Int.reduceAdd, Int.reduceSub, Nat.reduceEqDiff, Nat.reduceAdd, Nat.reduceMul, Nat.reduceLeDiff, Nat.reduceSub, ↓reduceIte, reduceCtorEq, d1, g0, c48] | refine And.intro (by omega) ?_)
          all_goals (try clear hK'; try clear hj1; try clear ox1; try clear hn3; try clear hx3; try clear ho3; try clear hn4; try clear hx4; try clear hn6; try clear hx6; try clear ho6; try clear hj8; try clear ox8)
          all_goals ((first | (rw [hbF]; done) | rfl | (rw [hbF]; grind)))
        repeat' (first | refine wpL_seq ?_ | refine wpL_skip ?_ | refine wpL_label ?_ | refine wpL_scope ?_)
        refine wpL_cond rfl (fun hc2 => ?_) (fun hc2 => ?_)
        · have hb : body s = [] ∨ ((body s)[0]? = some 48 ∧ s ≠ [48]) := of_decide_eq_true hc2
          repeat' (first | refine wpL_seq ?_ | refine wpL_skip ?_ | refine wpL_label ?_ | refine wpL_scope ?_)
          refine wpL_region' [2, 3] fun q hq => ?_
          simp -implicitDefEqProofs (disch := omega) only [go_sem, Int.reduceEq, Int.reduceLT, Int.reduceLE, Int.reduceToNat, Int.reduceNeg, Int.reduceAdd, Int.reduceSub, Nat.reduceEqDiff, Nat.reduceAdd, Nat.reduceMul, Nat.reduceLeDiff, Nat.reduceSub, ↓reduceIte, reduceCtorEq]
          repeat (refine And.intro (by omega) ?_)
          refine hq _ _ _ (by simp only [pickL, lk_cons, Nat.reduceEqDiff, ↓reduceIte]; exact rfl) ?_
          clear hq q
          repeat' (first | refine wpL_seq ?_ | refine wpL_skip ?_ | refine wpL_label ?_ | refine wpL_scope ?_)
          refine wpL_ret (hK' _ _ _ _ (.inr rfl) (resTo (rs' := [.tmp 2, .tmp 3]) rfl (by simp only [go_sem, Int.reduceEq, Int.reduceLT, Int.reduceLE, Int.reduceToNat, Int.reduceNeg, Int.reduceAdd, Int.reduceSub, Nat.reduceEqDiff, Nat.reduceAdd, Nat.reduceMul, Nat.reduceLeDiff, Nat.reduceSub, ↓reduceIte, reduceCtorEq]; exact rfl)) ?_)
          rw [ansP, ansA, if_pos hb]
        have hb : ¬ (body s = [] ∨ ((body s)[0]? = some 48 ∧ s ≠ [48])) := of_decide_eq_false hc2
        repeat' (first | refine wpL_seq ?_ | refine wpL_skip ?_ | refine wpL_label ?_ | refine wpL_scope ?_)
        refine wpL_region' [4, 5, 6, 7] fun q hq => ?_
        simp -implicitDefEqProofs (disch := omega) only [go_sem, Int.reduceEq, Int.reduceLT, Int.reduceLE, Int.reduceToNat, Int.reduceNeg, Int.reduceAdd, Int.reduceSub, Nat.reduceEqDiff, Nat.reduceAdd, Nat.reduceMul, Nat.reduceLeDiff, Nat.reduceSub, ↓reduceIte, reduceCtorEq]
        repeat (refine And.intro (by omega) ?_)
        refine hq _ _ _ (by simp only [pickL, lk_cons, Nat.reduceEqDiff, ↓reduceIte]; exact rfl) ?_
        clear hq q
        repeat' (first | refine wpL_seq ?_ | refine wpL_skip ?_ | refine wpL_label ?_ | refine wpL_scope ?_)
        refine wpL_region' [4, 5, 6, 7, 31, 32] fun q hq => ?_
        simp -implicitDefEqProofs (disch := omega) only [go_sem, Int.reduceEq, Int.reduceLT, Int.reduceLE, Int.reduceToNat, Int.reduceNeg, Int.reduceAdd, Int.reduceSub, Nat.reduceEqDiff, Nat.reduceAdd, Nat.reduceMul, Nat.reduceLeDiff, Nat.reduceSub, ↓reduceIte, reduceCtorEq]
        repeat (refine And.intro (by omega) ?_)
        refine hq _ _ _ (by simp only [pickL, lk_cons, Nat.reduceEqDiff, ↓reduceIte]; exact rfl) ?_
        clear hq q
        generalize hD : body s = D at *
        refine wpL_pick' [4, 5, 6, 7, 31, 32] (by simp only [pickL, lk_cons, Nat.reduceEqDiff, ↓reduceIte]; exact rfl) ?_
        repeat' (first | refine wpL_seq ?_ | refine wpL_skip ?_ | refine wpL_label ?_ | refine wpL_scope ?_)
        repeat' (first | refine wpL_seq ?_ | refine wpL_skip ?_ | refine wpL_label ?_ | refine wpL_scope ?_)
        refine wpL_block fun k3 hn3 hx3 ho3 => ?_
        refine wpL_loop (fun j e h => ∃ (i : Nat) (n : Int) (b : Bool), i ≤ D.length ∧ j = D.length - i ∧ h = Heap.emp ∧ 0 ≤ n ∧ n ≤ 1099511627776 ∧ foldD D 0 false = foldD (D.drop i) n b ∧
          e = lk [(4, .str D), (5, .int .i64 (sgn s)), (6, .int .i64 n), (7, .bool b), (31, .int .i64 D.length), (32, .int .i64 i)]) D.length ⟨0, 0, false, by omega, by omega, rfl, by omega, by omega, by rw [List.drop_zero], rfl⟩ ?_
        rintro j e h ⟨i, n, b, hi, hj, rfl, hn0, hn1, hF, rfl⟩ k4 hn4 hx4
        repeat' (first | refine wpL_seq ?_ | refine wpL_skip ?_ | refine wpL_label ?_ | refine wpL_scope ?_)
        refine wpL_region' [4, 5, 6, 7, 31, 32, 33] fun q hq => ?_
        simp -implicitDefEqProofs (disch := omega) only [go_sem, Int.reduceEq, Int.reduceLT, Int.reduceLE, Int.reduceToNat, Int.reduceNeg, Int.reduceAdd, Int.reduceSub, Nat.reduceEqDiff, Nat.reduceAdd, Nat.reduceMul, Nat.reduceLeDiff, Nat.reduceSub, ↓reduceIte, reduceCtorEq]
        repeat (refine And.intro (by omega) ?_)
        refine hq _ _ _ (by simp only [pickL, lk_cons, Nat.reduceEqDiff, ↓reduceIte]; exact rfl) ?_
        clear hq q
        repeat' (first | refine wpL_seq ?_ | refine wpL_skip ?_ | refine wpL_label ?_ | refine wpL_scope ?_)
        refine wpL_cond rfl (fun hc5 => ?_) (fun hc5 => ?_)
        · have hc5 := of_decide_eq_true hc5
          obtain ⟨c, hc⟩ := get_of_lt (show i < D.length by omega)
          rw [drop_get hc, foldD] at hF
          have ed := isD_dec c
          repeat' (first | refine wpL_seq ?_ | refine wpL_skip ?_ | refine wpL_label ?_ | refine wpL_scope ?_)
          refine wpL_block fun k6 hn6 hx6 ho6 => ?_
          repeat' (first | refine wpL_seq ?_ | refine wpL_skip ?_ | refine wpL_label ?_ | refine wpL_scope ?_)
          refine wpL_region' [4, 5, 6, 7, 8, 31, 32] fun q hq => ?_
          simp -implicitDefEqProofs (disch := omega) only [go_sem, Int.reduceEq, Int.reduceLT, Int.reduceLE, Int.reduceToNat, Int.reduceNeg, Int.reduceAdd, Int.reduceSub, Nat.reduceEqDiff, Nat.reduceAdd, Nat.reduceMul, Nat.reduceLeDiff, Nat.reduceSub, ↓reduceIte, reduceCtorEq]
          repeat (refine And.intro (by omega) ?_)
          refine hq _ _ _ (by simp only [pickL, lk_cons, Nat.reduceEqDiff, ↓reduceIte]; exact rfl) ?_
          clear hq q
          repeat' (first | refine wpL_seq ?_ | refine wpL_skip ?_ | refine wpL_label ?_ | refine wpL_scope ?_)
          refine wpL_regV [4, 5, 6, 7, 8, 31, 32] 44 (.bool (!isD c)) (by simp only [pickL, put, lk_cons, Int.reduceEq, Int.reduceLT, Int.reduceLE, Int.reduceToNat, Int.reduceNeg, Int.reduceAdd, Int.reduceSub, Nat.reduceEqDiff, Nat.reduceAdd, Nat.reduceMul, Nat.reduceLeDiff, Nat.reduceSub, ↓reduceIte, reduceCtorEq, if_true, if_false]; exact rfl) (by decide) ?_ ?_
          · simp -implicitDefEqProofs (disch := omega) only [go_sem, Int.reduceEq, Int.reduceLT, Int.reduceLE, Int.reduceToNat, Int.reduceNeg, Int.reduceAdd, Int.reduceSub, Nat.reduceEqDiff, Nat.reduceAdd, Nat.reduceMul, Nat.reduceLeDiff, Nat.reduceSub, ↓reduceIte, reduceCtorEq, hc]
            repeat' (first | (refine gN_split2 (fun hs => ?_) (fun hs => ?_) <;> simp -implicitDefEqProofs (disch := omega) only [go_sem, Int.reduceEq, Int.reduceLT, Int.reduceLE, Int.reduceToNat, Int.reduceNeg, Int.reduceAdd, Int.reduceSub, Nat.reduceEqDiff, Nat.reduceAdd, Nat.reduceMul, Nat.reduceLeDiff, Nat.reduceSub, ↓reduceIte, reduceCtorEq, hs, hc]) | simp -implicitDefEqProofs (disch := omega) only [go_sem, Int.reduceEq, Int.reduceLT, Int.reduceLE, Int.reduceToNat, Int.reduceNeg, Int.reduceAdd, Int.reduceSub, Nat.reduceEqDiff, Nat.reduceAdd, Nat.reduceMul, Nat.reduceLeDiff, Nat.reduceSub, ↓reduceIte, reduceCtorEq, hc] | refine And.intro (by omega) ?_)
            all_goals (try clear hK'; try clear hj1; try clear ox1; try clear hn3; try clear hx3; try clear ho3; try clear hn4; try clear hx4; try clear hn6; try clear hx6; try clear ho6; try clear hj8; try clear ox8; try clear hn3; try clear hx3; try clear ho3; try clear hn4; try clear hx4; try clear hn6; try clear hx6; try clear ho6)
            all_goals ((first | rfl | (rw [← ed]; grind) | grind))
          repeat' (first | refine wpL_seq ?_ | refine wpL_skip ?_ | refine wpL_label ?_ | refine wpL_scope ?_)
          refine wpL_cond rfl (fun hc7 => ?_) (fun hc7 => ?_)
          · have h1 : isD c = false := by simpa using hc7
            rw [if_pos h1] at hF
            repeat' (first | refine wpL_seq ?_ | refine wpL_skip ?_ | refine wpL_label ?_ | refine wpL_scope ?_)
            refine wpL_region' [2, 3] fun q hq => ?_
            simp -implicitDefEqProofs (disch := omega) only [go_sem, Int.reduceEq, Int.reduceLT, Int.reduceLE, Int.reduceToNat, Int.reduceNeg, Int.reduceAdd, Int.reduceSub, Nat.reduceEqDiff, Nat.reduceAdd, Nat.reduceMul, Nat.reduceLeDiff, Nat.reduceSub, ↓reduceIte, reduceCtorEq]
            repeat (refine And.intro (by omega) ?_)
            refine hq _ _ _ (by simp only [pickL, lk_cons, Nat.reduceEqDiff, ↓reduceIte]; exact rfl) ?_
            clear hq q
            repeat' (first | refine wpL_seq ?_ | refine wpL_skip ?_ | refine wpL_label ?_ | refine wpL_scope ?_)
            refine wpL_ret (ho6 _ _ _ (by simp) (by simp) (hx4 _ _ _ (by simp) (ho3 _ _ _ (by simp) (by simp) (hK' _ _ _ _ (.inr rfl) (resTo (rs' := [.tmp 2, .tmp 3]) rfl (by simp only [go_sem, Int.reduceEq, Int.reduceLT, Int.reduceLE, Int.reduceToNat, Int.reduceNeg, Int.reduceAdd, Int.reduceSub, Nat.reduceEqDiff, Nat.reduceAdd, Nat.reduceMul, Nat.reduceLeDiff, Nat.reduceSub, ↓reduceIte, reduceCtorEq]; exact rfl)) ?_))))
            rw [ansP, ansA, hD, if_neg hb, hF]
          have h1 : isD c = true := by simpa using hc7
          rw [if_neg (by simp [h1])] at hF
          have hD2 := h1
          simp only [isD, Bool.and_eq_true, decide_eq_true_eq] at hD2
          have e1 : IntKind.wrap .u8 ((c.toNat : Int) - 48) = (c.toNat : Int) - 48 := wrapU8 (by omega) (by omega)
          have e2 : IntKind.wrap .i64 ((c.toNat : Int) - 48) = (c.toNat : Int) - 48 := wrap64 (by omega) (by omega)
          have e3 : IntKind.wrap .i64 (10 * n) = 10 * n := wrap64 (by omega) (by omega)
          have e4 : IntKind.wrap .i64 (10 * n + ((c.toNat : Int) - 48)) = 10 * n + ((c.toNat : Int) - 48) := wrap64 (by omega) (by omega)
          repeat' (first | refine wpL_seq ?_ | refine wpL_skip ?_ | refine wpL_label ?_ | refine wpL_scope ?_)
          refine wpL_region' [4, 5, 6, 7, 31, 32] fun q hq => ?_
          simp -implicitDefEqProofs (disch := omega) only [go_sem, Int.reduceEq, Int.reduceLT, Int.reduceLE, Int.reduceToNat, Int.reduceNeg, Int.reduceAdd, Int.reduceSub, Nat.reduceEqDiff, Nat.reduceAdd, Nat.reduceMul, Nat.reduceLeDiff, Nat.reduceSub, ↓reduceIte, reduceCtorEq, hc, e1, e2, e3, e4]
          repeat (refine And.intro (by omega) ?_)
          refine hq _ _ _ (by simp only [pickL, lk_cons, Nat.reduceEqDiff, ↓reduceIte]; exact rfl) ?_
          clear hq q
          repeat' (first | refine wpL_seq ?_ | refine wpL_skip ?_ | refine wpL_label ?_ | refine wpL_scope ?_)
          refine wpL_region' [4, 5, 6, 7, 31, 32, 54] fun q hq => ?_
          simp -implicitDefEqProofs (disch := omega) only [go_sem, Int.reduceEq, Int.reduceLT, Int.reduceLE, Int.reduceToNat, Int.reduceNeg, Int.reduceAdd, Int.reduceSub, Nat.reduceEqDiff, Nat.reduceAdd, Nat.reduceMul, Nat.reduceLeDiff, Nat.reduceSub, ↓reduceIte, reduceCtorEq]
          repeat (refine And.intro (by omega) ?_)
          refine hq _ _ _ (by simp only [pickL, lk_cons, Nat.reduceEqDiff, ↓reduceIte]; exact rfl) ?_
          clear hq q
          repeat' (first | refine wpL_seq ?_ | refine wpL_skip ?_ | refine wpL_label ?_ | refine wpL_scope ?_)
          refine wpL_condK rfl fun j8 hj8 ox8 => ?_
          have tail8 : ∀ (n' : Int) (b' : Bool), 0 ≤ n' → n' ≤ 1099511627776 → foldD D 0 false = foldD (D.drop (i + 1)) n' b' → j8 .normal (lk [(4, .str D), (5, .int .i64 (sgn s)), (6, .int .i64 n'), (7, .bool b'), (31, .int .i64 D.length), (32, .int .i64 i)]) Heap.emp := by
            intro n' b' h1 h2 h3
            refine hj8 _ _ ?_
            repeat' (first | refine wpL_seq ?_ | refine wpL_skip ?_ | refine wpL_label ?_ | refine wpL_scope ?_)
            refine wpL_nil (hn6 _ _ ?_)
            repeat' (first | refine wpL_seq ?_ | refine wpL_skip ?_ | refine wpL_label ?_ | refine wpL_scope ?_)
            refine wpL_region' [4, 5, 6, 7, 31, 32] fun q hq => ?_
            simp -implicitDefEqProofs (disch := omega) only [go_sem, Int.reduceEq, Int.reduceLT, Int.reduceLE, Int.reduceToNat, Int.reduceNeg, Int.reduceAdd, Int.reduceSub, Nat.reduceEqDiff, Nat.reduceAdd, Nat.reduceMul, Nat.reduceLeDiff, Nat.reduceSub, ↓reduceIte, reduceCtorEq]
            repeat (refine And.intro (by omega) ?_)
            refine hq _ _ _ (by simp only [pickL, lk_cons, Nat.reduceEqDiff, ↓reduceIte]; exact rfl) ?_
            clear hq q
            repeat' (first | refine wpL_seq ?_ | refine wpL_skip ?_ | refine wpL_label ?_ | refine wpL_scope ?_)
            exact wpL_nil (hn4 (D.length - (i + 1)) _ _ (by omega) ⟨i + 1, n', b', by omega, rfl, rfl, h1, h2, h3, rfl⟩)
          refine ⟨fun hc8 => ?_, fun hc8 => ?_⟩
          · have hc8 := of_decide_eq_true hc8
            rw [if_pos hc8] at hF
            repeat' (first | refine wpL_seq ?_ | refine wpL_skip ?_ | refine wpL_label ?_ | refine wpL_scope ?_)
            refine wpL_region' [4, 5, 6, 7, 31, 32] fun q hq => ?_
            simp -implicitDefEqProofs (disch := omega) only [go_sem, Int.reduceEq, Int.reduceLT, Int.reduceLE, Int.reduceToNat, Int.reduceNeg, Int.reduceAdd, Int.reduceSub, Nat.reduceEqDiff, Nat.reduceAdd, Nat.reduceMul, Nat.reduceLeDiff, Nat.reduceSub, ↓reduceIte, reduceCtorEq]
            repeat (refine And.intro (by omega) ?_)
            refine hq _ _ _ (by simp only [pickL, lk_cons, Nat.reduceEqDiff, ↓reduceIte]; exact rfl) ?_
            clear hq q
            repeat' (first | refine wpL_seq ?_ | refine wpL_skip ?_ | refine wpL_label ?_ | refine wpL_scope ?_)
            exact wpL_nil (tail8 _ _ (by omega) (by omega) hF)
          · have hc8 := of_decide_eq_false hc8
            rw [if_neg hc8] at hF
            refine wpL_pick' [4, 5, 6, 7, 31, 32] (by simp only [pickL, lk_cons, Nat.reduceEqDiff, ↓reduceIte]; exact rfl) ?_
            repeat' (first | refine wpL_seq ?_ | refine wpL_skip ?_ | refine wpL_label ?_ | refine wpL_scope ?_)
            repeat' (first | refine wpL_seq ?_ | refine wpL_skip ?_ | refine wpL_label ?_ | refine wpL_scope ?_)
            exact wpL_nil (tail8 _ _ (by omega) (by omega) hF)
        have hc5 := of_decide_eq_false hc5
        have hie : i = D.length := by omega
        rw [hie, List.drop_length, foldD] at hF
        have hsg : sgn s = 1 ∨ sgn s = -1 := by unfold sgn; split; exact .inr rfl; exact .inl rfl
        have hA : ansA 11 23 s = fin 23 b (n * sgn s) := by rw [ansA, hD, if_neg hb, hF]
        rw [hA] at hK'
        obtain ⟨m, hm⟩ : ∃ m, m = n * sgn s := ⟨_, rfl⟩
        have hmb : -1099511627776 ≤ m ∧ m ≤ 1099511627776 := by rcases hsg with h | h <;> rw [h] at hm <;> omega
        have e : IntKind.wrap .i64 (n * sgn s) = m := by rw [← hm]; exact wrap64 (by omega) (by omega)
        rw [← hm] at hK'
        repeat' (first | refine wpL_seq ?_ | refine wpL_skip ?_ | refine wpL_label ?_ | refine wpL_scope ?_)
        refine wpL_exit (hx4 _ _ _ (by simp) (hx3 _ _ ?_))
        repeat' (first | refine wpL_seq ?_ | refine wpL_skip ?_ | refine wpL_label ?_ | refine wpL_scope ?_)
        refine wpL_region' [6, 7] fun q hq => ?_
        simp -implicitDefEqProofs (disch := omega) only [go_sem, Int.reduceEq, Int.reduceLT, Int.reduceLE, Int.reduceToNat, Int.reduceNeg, Int.reduceAdd, Int.reduceSub, Nat.reduceEqDiff, Nat.reduceAdd, Nat.reduceMul, Nat.reduceLeDiff, Nat.reduceSub, ↓reduceIte, reduceCtorEq, e, ← hm]
        repeat (refine And.intro (by omega) ?_)
        refine hq _ _ _ (by simp only [pickL, lk_cons, Nat.reduceEqDiff, ↓reduceIte]; exact rfl) ?_
        clear hq q
        repeat' (first | refine wpL_seq ?_ | refine wpL_skip ?_ | refine wpL_label ?_ | refine wpL_scope ?_)
        refine wpL_regV [6] 67 (.bool (b || decide (m < -2147483648 ∨ m > 2147483647))) (by simp only [pickL, put, lk_cons, Int.reduceEq, Int.reduceLT, Int.reduceLE, Int.reduceToNat, Int.reduceNeg, Int.reduceAdd, Int.reduceSub, Nat.reduceEqDiff, Nat.reduceAdd, Nat.reduceMul, Nat.reduceLeDiff, Nat.reduceSub, ↓reduceIte, reduceCtorEq, if_true, if_false]; exact rfl) (by decide) ?_ ?_
        · simp -implicitDefEqProofs (disch := omega) only [go_sem, Int.reduceEq, Int.reduceLT, Int.reduceLE, Int.reduceToNat, Int.reduceNeg, Int.reduceAdd, Int.reduceSub, Nat.reduceEqDiff, Nat.reduceAdd, Nat.reduceMul, Nat.reduceLeDiff, Nat.reduceSub, ↓reduceIte, reduceCtorEq]
          repeat' (first | (refine gN_split2 (fun hs => ?_) (fun hs => ?_) <;> simp -implicitDefEqProofs (disch := omega) only [go_sem, Int.reduceEq, Int.reduceLT, Int.reduceLE, Int.reduceToNat, Int.reduceNeg, Int.reduceAdd, Int.reduceSub, Nat.reduceEqDiff, Nat.reduceAdd, Nat.reduceMul, Nat.reduceLeDiff, Nat.reduceSub, ↓reduceIte, reduceCtorEq, hs]) | simp -implicitDefEqProofs (disch := omega) only [go_sem, Int.reduceEq, Int.reduceLT, Int.reduceLE, Int.reduceToNat, Int.reduceNeg, Int.reduceAdd, Int.reduceSub, Nat.reduceEqDiff, Nat.reduceAdd, Nat.reduceMul, Nat.reduceLeDiff, Nat.reduceSub, ↓reduceIte, reduceCtorEq] | refine And.intro (by omega) ?_)
          all_goals (try clear hK'; try clear hj1; try clear ox1; try clear hn3; try clear hx3; try clear ho3; try clear hn4; try clear hx4; try clear hn6; try clear hx6; try clear ho6; try clear hj8; try clear ox8; try clear hn3; try clear hx3; try clear ho3; try clear hn4; try clear hx4; try clear hn6; try clear hx6; try clear ho6; try clear hj8; try clear ox8)
          all_goals (grind)
        repeat' (first | refine wpL_seq ?_ | refine wpL_skip ?_ | refine wpL_label ?_ | refine wpL_scope ?_)
        refine wpL_cond rfl (fun hc9 => ?_) (fun hc9 => ?_)
        · have hc9 : b = true ∨ (m < -2147483648 ∨ m > 2147483647) := by simpa using hc9
          repeat' (first | refine wpL_seq ?_ | refine wpL_skip ?_ | refine wpL_label ?_ | refine wpL_scope ?_)
          refine wpL_region' [2, 3] fun q hq => ?_
          simp -implicitDefEqProofs (disch := omega) only [go_sem, Int.reduceEq, Int.reduceLT, Int.reduceLE, Int.reduceToNat, Int.reduceNeg, Int.reduceAdd, Int.reduceSub, Nat.reduceEqDiff, Nat.reduceAdd, Nat.reduceMul, Nat.reduceLeDiff, Nat.reduceSub, ↓reduceIte, reduceCtorEq]
          repeat (refine And.intro (by omega) ?_)
          refine hq _ _ _ (by simp only [pickL, lk_cons, Nat.reduceEqDiff, ↓reduceIte]; exact rfl) ?_
          clear hq q
          repeat' (first | refine wpL_seq ?_ | refine wpL_skip ?_ | refine wpL_label ?_ | refine wpL_scope ?_)
          refine wpL_ret (hK' _ _ _ _ (.inr rfl) (resTo (rs' := [.tmp 2, .tmp 3]) rfl (by simp only [go_sem, Int.reduceEq, Int.reduceLT, Int.reduceLE, Int.reduceToNat, Int.reduceNeg, Int.reduceAdd, Int.reduceSub, Nat.reduceEqDiff, Nat.reduceAdd, Nat.reduceMul, Nat.reduceLeDiff, Nat.reduceSub, ↓reduceIte, reduceCtorEq]; exact rfl)) ?_)
          rw [ansP, fin, if_pos hc9]
        have hc9 : ¬ (b = true ∨ (m < -2147483648 ∨ m > 2147483647)) := by simpa using hc9
        have e9 : IntKind.wrap .i32 m = m := wrap32 (by omega) (by omega)
        repeat' (first | refine wpL_seq ?_ | refine wpL_skip ?_ | refine wpL_label ?_ | refine wpL_scope ?_)
        refine wpL_region' [2, 3] fun q hq => ?_
        simp -implicitDefEqProofs (disch := omega) only [go_sem, Int.reduceEq, Int.reduceLT, Int.reduceLE, Int.reduceToNat, Int.reduceNeg, Int.reduceAdd, Int.reduceSub, Nat.reduceEqDiff, Nat.reduceAdd, Nat.reduceMul, Nat.reduceLeDiff, Nat.reduceSub, ↓reduceIte, reduceCtorEq, e9]
        repeat (refine And.intro (by omega) ?_)
        refine hq _ _ _ (by simp only [pickL, lk_cons, Nat.reduceEqDiff, ↓reduceIte]; exact rfl) ?_
        clear hq q
        repeat' (first | refine wpL_seq ?_ | refine wpL_skip ?_ | refine wpL_label ?_ | refine wpL_scope ?_)
        refine wpL_ret (hK' _ _ _ _ (.inr rfl) (resTo (rs' := [.tmp 2, .tmp 3]) rfl (by simp only [go_sem, Int.reduceEq, Int.reduceLT, Int.reduceLE, Int.reduceToNat, Int.reduceNeg, Int.reduceAdd, Int.reduceSub, Nat.reduceEqDiff, Nat.reduceAdd, Nat.reduceMul, Nat.reduceLeDiff, Nat.reduceSub, ↓reduceIte, reduceCtorEq]; exact rfl)) ?_)
        rw [ansP, fin, if_neg hc9]
    refine ⟨fun hc1 => ?_, fun hc1 => ?_⟩
    · have e1 : body s = s.drop 1 := by rw [body_drop, if_pos hc1]
      have e2 : sgn s = -1 := by rw [sgn, if_pos hc1]
      have hpos : 1 ≤ s.length := by
        cases hs0 : s with
        | nil => rw [hs0] at hc1; cases hc1
        | cons _ _ => simp
      have l1 : (1 ≤ (s.length : Int)) = True := eq_true (by omega)
      have l2 : List.take (s.length - 1) (s.drop 1) = s.drop 1 := List.take_of_length_le (by simp)
      rw [e1, e2] at tail1
      repeat' (first | refine wpL_seq ?_ | refine wpL_skip ?_ | refine wpL_label ?_ | refine wpL_scope ?_)
      refine wpL_region' [0, 4, 5] fun q hq => ?_
      simp -implicitDefEqProofs (disch := omega) only [go_sem, Int.reduceEq, Int.reduceLT, Int.reduceLE, Int.reduceToNat, Int.reduceNeg, Int.reduceAdd, Int.reduceSub, Nat.reduceEqDiff, Nat.reduceAdd, Nat.reduceMul, Nat.reduceLeDiff, Nat.reduceSub, ↓reduceIte, reduceCtorEq, l1, l2]
      repeat (refine And.intro (by omega) ?_)
      refine hq _ _ _ (by simp only [pickL, lk_cons, Nat.reduceEqDiff, ↓reduceIte]; exact rfl) ?_
      clear hq q
      repeat' (first | refine wpL_seq ?_ | refine wpL_skip ?_ | refine wpL_label ?_ | refine wpL_scope ?_)
      exact wpL_nil tail1
    · have hc1 : isNeg s = false := hc1
      have e1 : body s = s := by rw [body_drop, if_neg (by simp [hc1])]; rfl
      have e2 : sgn s = 1 := by rw [sgn, if_neg (by simp [hc1])]
      rw [e1, e2] at tail1
      refine wpL_pick' [0, 4, 5] (by simp only [pickL, lk_cons, Nat.reduceEqDiff, ↓reduceIte]; exact rfl) ?_
      repeat' (first | refine wpL_seq ?_ | refine wpL_skip ?_ | refine wpL_label ?_ | refine wpL_scope ?_)
      repeat' (first | refine wpL_seq ?_ | refine wpL_skip ?_ | refine wpL_label ?_ | refine wpL_scope ?_)
      exact wpL_nil tail1
  · have d1 : decide (s = []) = false := decide_eq_false hS
    obtain ⟨c, g0⟩ := get_of_lt (show 0 < s.length from List.length_pos_iff.2 hS)
    have c45 : decide ((c.toNat : Int) = 45) = decide (c = 45) := u8eq c 45 45 rfl
    have cN : isNeg s = decide (c = 45) := by rw [isNeg, g0]; simp
    repeat' (first | refine wpL_seq ?_ | refine wpL_skip ?_ | refine wpL_label ?_ | refine wpL_scope ?_)
    refine wpL_regV [0, 4, 5] 16 (.bool (isNeg s)) (by simp only [pickL, put, lk_cons, Int.reduceEq, Int.reduceLT, Int.reduceLE, Int.reduceToNat, Int.reduceNeg, Int.reduceAdd, Int.reduceSub, Nat.reduceEqDiff, Nat.reduceAdd, Nat.reduceMul, Nat.reduceLeDiff, Nat.reduceSub, ↓reduceIte, reduceCtorEq, if_true, if_false]; exact rfl) (by decide) ?_ ?_
    · simp -implicitDefEqProofs (disch := omega) only [go_sem, Int.reduceEq, Int.reduceLT, Int.reduceLE, Int.reduceToNat, Int.reduceNeg, Int.reduceAdd, Int.reduceSub, Nat.reduceEqDiff, Nat.reduceAdd, Nat.reduceMul, Nat.reduceLeDiff, Nat.reduceSub, ↓reduceIte, reduceCtorEq, d1, g0, c45]
      repeat' (first | (refine gN_split2 (fun hs => ?_) (fun hs => ?_) <;> simp -implicitDefEqProofs (disch := omega) only [go_sem, Int.reduceEq, Int.reduceLT, Int.reduceLE, Int.reduceToNat, Int.reduceNeg, Int.reduceAdd, Int.reduceSub, Nat.reduceEqDiff, Nat.reduceAdd, Nat.reduceMul, Nat.reduceLeDiff, Nat.reduceSub, ↓reduceIte, reduceCtorEq, hs, d1, g0, c45]) | simp -implicitDefEqProofs (disch := omega) only [go_sem, Int.reduceEq, Int.reduceLT, Int.reduceLE, Int.reduceToNat, Int.reduceNeg, Int.reduceAdd, Int.reduceSub, Nat.reduceEqDiff, Nat.reduceAdd, Nat.reduceMul, Nat.reduceLeDiff, Nat.reduceSub, ↓reduceIte, reduceCtorEq, d1, g0, c45] | refine And.intro (by omega) ?_)
      all_goals (try clear hK'; try clear hj1; try clear ox1; try clear hn3; try clear hx3; try clear ho3; try clear hn4; try clear hx4; try clear hn6; try clear hx6; try clear ho6; try clear hj8; try clear ox8; try clear hn3; try clear hx3; try clear ho3; try clear hn4; try clear hx4; try clear hn6; try clear hx6; try clear ho6; try clear hj8; try clear ox8)
      all_goals ((first | (rw [cN]; done) | rfl | (rw [cN]; grind)))
    repeat' (first | refine wpL_seq ?_ | refine wpL_skip ?_ | refine wpL_label ?_ | refine wpL_scope ?_)
    refine wpL_condK rfl fun j1 hj1 ox1 => ?_
    have tail1 : j1 .normal (lk [(0, .str s), (4, .str (body s)), (5, .int .i64 (sgn s))]) Heap.emp := by
      have hbl : (body s).length ≤ s.length := by unfold body; split <;> simp
      refine hj1 _ _ ?_
      by_cases hB : body s = []
      · have hbF : badF s = true := decide_eq_true (.inl hB)
        have d1 : decide (body s = []) = true := decide_eq_true hB
        repeat' (first | refine wpL_seq ?_ | refine wpL_skip ?_ | refine wpL_label ?_ | refine wpL_scope ?_)
        refine wpL_regV [4, 5] 29 (.bool (badF s)) (by simp only [pickL, put, lk_cons, Int.reduceEq, Int.reduceLT, Int.reduceLE, Int.reduceToNat, Int.reduceNeg, Int.reduceAdd, Int.reduceSub, Nat.reduceEqDiff, Nat.reduceAdd, Nat.reduceMul, Nat.reduceLeDiff, Nat.reduceSub, ↓reduceIte, reduceCtorEq, if_true, if_false]; exact rfl) (by decide) ?_ ?_
        · simp -implicitDefEqProofs (disch := omega) only [go_sem, Int.reduceEq, Int.reduceLT, Int.reduceLE, Int.reduceToNat, Int.reduceNeg, Int.reduceAdd, Int.reduceSub, Nat.reduceEqDiff, Nat.reduceAdd, Nat.reduceMul, Nat.reduceLeDiff, Nat.reduceSub, ↓reduceIte, reduceCtorEq, d1]
          repeat' (first | (refine gN_split2 (fun hs => ?_) (fun hs => ?_) <;> simp -implicitDefEqProofs (disch := omega) only [go_sem, Int.reduceEq, Int.reduceLT, Int.reduceLE, Int.reduceToNat, Int.reduceNeg, Int.reduceAdd, Int.reduceSub, Nat.reduceEqDiff, Nat.reduceAdd, Nat.reduceMul, Nat.reduceLeDiff, Nat.reduceSub, ↓reduceIte, reduceCtorEq, hs, d1]) | simp -implicitDefEqProofs (disch := omega) only [go_sem, Int.reduceEq, Int.reduceLT, Int.reduceLE, Int.reduceToNat, Int.reduceNeg, Int.reduceAdd, Int.reduceSub, Nat.reduceEqDiff, Nat.reduceAdd, Nat.reduceMul, Nat.reduceLeDiff, Nat.reduceSub, ↓reduceIte, reduceCtorEq, d1] | refine And.intro (by omega) ?_)
          all_goals (try clear hK'; try clear hj1; try clear ox1; try clear hn3; try clear hx3; try clear ho3; try clear hn4; try clear hx4; try clear hn6; try clear hx6; try clear ho6; try clear hj8; try clear ox8; try clear hn3; try clear hx3; try clear ho3; try clear hn4; try clear hx4; try clear hn6; try clear hx6; try clear ho6; try clear hj8; try clear ox8; try clear hj1; try clear ox1)
          all_goals ((first | (rw [hbF]; done) | rfl | grind))
        repeat' (first | refine wpL_seq ?_ | refine wpL_skip ?_ | refine wpL_label ?_ | refine wpL_scope ?_)
        refine wpL_cond rfl (fun hc2 => ?_) (fun hc2 => ?_)
        · have hb : body s = [] ∨ ((body s)[0]? = some 48 ∧ s ≠ [48]) := of_decide_eq_true hc2
          repeat' (first | refine wpL_seq ?_ | refine wpL_skip ?_ | refine wpL_label ?_ | refine wpL_scope ?_)
          refine wpL_region' [2, 3] fun q hq => ?_
          simp -implicitDefEqProofs (disch := omega) only [go_sem, Int.reduceEq, Int.reduceLT, Int.reduceLE, Int.reduceToNat, Int.reduceNeg, Int.reduceAdd, Int.reduceSub, Nat.reduceEqDiff, Nat.reduceAdd, Nat.reduceMul, Nat.reduceLeDiff, Nat.reduceSub, ↓reduceIte, reduceCtorEq]
          repeat (refine And.intro (by omega) ?_)
          refine hq _ _ _ (by simp only [pickL, lk_cons, Nat.reduceEqDiff, ↓reduceIte]; exact rfl) ?_
          clear hq q
          repeat' (first | refine wpL_seq ?_ | refine wpL_skip ?_ | refine wpL_label ?_ | refine wpL_scope ?_)
          refine wpL_ret (hK' _ _ _ _ (.inr rfl) (resTo (rs' := [.tmp 2, .tmp 3]) rfl (by simp only [go_sem, Int.reduceEq, Int.reduceLT, Int.reduceLE, Int.reduceToNat, Int.reduceNeg, Int.reduceAdd, Int.reduceSub, Nat.reduceEqDiff, Nat.reduceAdd, Nat.reduceMul, Nat.reduceLeDiff, Nat.reduceSub, ↓reduceIte, reduceCtorEq]; exact rfl)) ?_)
          rw [ansP, ansA, if_pos hb]
        have hb : ¬ (body s = [] ∨ ((body s)[0]? = some 48 ∧ s ≠ [48])) := of_decide_eq_false hc2
        repeat' (first | refine wpL_seq ?_ | refine wpL_skip ?_ | refine wpL_label ?_ | refine wpL_scope ?_)
        refine wpL_region' [4, 5, 6, 7] fun q hq => ?_
        simp -implicitDefEqProofs (disch := omega) only [go_sem, Int.reduceEq, Int.reduceLT, Int.reduceLE, Int.reduceToNat, Int.reduceNeg, Int.reduceAdd, Int.reduceSub, Nat.reduceEqDiff, Nat.reduceAdd, Nat.reduceMul, Nat.reduceLeDiff, Nat.reduceSub, ↓reduceIte, reduceCtorEq]
        repeat (refine And.intro (by omega) ?_)
        refine hq _ _ _ (by simp only [pickL, lk_cons, Nat.reduceEqDiff, ↓reduceIte]; exact rfl) ?_
        clear hq q
        repeat' (first | refine wpL_seq ?_ | refine wpL_skip ?_ | refine wpL_label ?_ | refine wpL_scope ?_)
        refine wpL_region' [4, 5, 6, 7, 31, 32] fun q hq => ?_
        simp -implicitDefEqProofs (disch := omega) only [go_sem, Int.reduceEq, Int.reduceLT, Int.reduceLE, Int.reduceToNat, Int.reduceNeg, Int.reduceAdd, Int.reduceSub, Nat.reduceEqDiff, Nat.reduceAdd, Nat.reduceMul, Nat.reduceLeDiff, Nat.reduceSub, ↓reduceIte, reduceCtorEq]
        repeat (refine And.intro (by omega) ?_)
        refine hq _ _ _ (by simp only [pickL, lk_cons, Nat.reduceEqDiff, ↓reduceIte]; exact rfl) ?_
        clear hq q
        generalize hD : body s = D at *
        refine wpL_pick' [4, 5, 6, 7, 31, 32] (by simp only [pickL, lk_cons, Nat.reduceEqDiff, ↓reduceIte]; exact rfl) ?_
        repeat' (first | refine wpL_seq ?_ | refine wpL_skip ?_ | refine wpL_label ?_ | refine wpL_scope ?_)
        repeat' (first | refine wpL_seq ?_ | refine wpL_skip ?_ | refine wpL_label ?_ | refine wpL_scope ?_)
        refine wpL_block fun k3 hn3 hx3 ho3 => ?_
        refine wpL_loop (fun j e h => ∃ (i : Nat) (n : Int) (b : Bool), i ≤ D.length ∧ j = D.length - i ∧ h = Heap.emp ∧ 0 ≤ n ∧ n ≤ 1099511627776 ∧ foldD D 0 false = foldD (D.drop i) n b ∧
          e = lk [(4, .str D), (5, .int .i64 (sgn s)), (6, .int .i64 n), (7, .bool b), (31, .int .i64 D.length), (32, .int .i64 i)]) D.length ⟨0, 0, false, by omega, by omega, rfl, by omega, by omega, by rw [List.drop_zero], rfl⟩ ?_
        rintro j e h ⟨i, n, b, hi, hj, rfl, hn0, hn1, hF, rfl⟩ k4 hn4 hx4
        repeat' (first | refine wpL_seq ?_ | refine wpL_skip ?_ | refine wpL_label ?_ | refine wpL_scope ?_)
        refine wpL_region' [4, 5, 6, 7, 31, 32, 33] fun q hq => ?_
        simp -implicitDefEqProofs (disch := omega) only [go_sem, Int.reduceEq, Int.reduceLT, Int.reduceLE, Int.reduceToNat, Int.reduceNeg, Int.reduceAdd, Int.reduceSub, Nat.reduceEqDiff, Nat.reduceAdd, Nat.reduceMul, Nat.reduceLeDiff, Nat.reduceSub, ↓reduceIte, reduceCtorEq]
        repeat (refine And.intro (by omega) ?_)
        refine hq _ _ _ (by simp only [pickL, lk_cons, Nat.reduceEqDiff, ↓reduceIte]; exact rfl) ?_
        clear hq q
        repeat' (first | refine wpL_seq ?_ | refine wpL_skip ?_ | refine wpL_label ?_ | refine wpL_scope ?_)
        refine wpL_cond rfl (fun hc5 => ?_) (fun hc5 => ?_)
        · have hc5 := of_decide_eq_true hc5
          obtain ⟨c, hc⟩ := get_of_lt (show i < D.length by omega)
          rw [drop_get hc, foldD] at hF
          have ed := isD_dec c
          repeat' (first | refine wpL_seq ?_ | refine wpL_skip ?_ | refine wpL_label ?_ | refine wpL_scope ?_)
          refine wpL_block fun k6 hn6 hx6 ho6 => ?_
          repeat' (first | refine wpL_seq ?_ | refine wpL_skip ?_ | refine wpL_label ?_ | refine wpL_scope ?_)
          refine wpL_region' [4, 5, 6, 7, 8, 31, 32] fun q hq => ?_
          simp -implicitDefEqProofs (disch := omega) only [go_sem, Int.reduceEq, Int.reduceLT, Int.reduceLE, Int.reduceToNat, Int.reduceNeg, Int.reduceAdd, Int.reduceSub, Nat.reduceEqDiff, Nat.reduceAdd, Nat.reduceMul, Nat.reduceLeDiff, Nat.reduceSub, ↓reduceIte, reduceCtorEq]
          repeat (refine And.intro (by omega) ?_)
          refine hq _ _ _ (by simp only [pickL, lk_cons, Nat.reduceEqDiff, ↓reduceIte]; exact rfl) ?_
          clear hq q
          repeat' (first | refine wpL_seq ?_ | refine wpL_skip ?_ | refine wpL_label ?_ | refine wpL_scope ?_)
          refine wpL_regV [4, 5, 6, 7, 8, 31, 32] 44 (.bool (!isD c)) (by simp only [pickL, put, lk_cons, Int.reduceEq, Int.reduceLT, Int.reduceLE, Int.reduceToNat, Int.reduceNeg, Int.reduceAdd, Int.reduceSub, Nat.reduceEqDiff, Nat.reduceAdd, Nat.reduceMul, Nat.reduceLeDiff, Nat.reduceSub, ↓reduceIte, reduceCtorEq, if_true, if_false]; exact rfl) (by decide) ?_ ?_
          · simp -implicitDefEqProofs (disch := omega) only [go_sem, Int.reduceEq, Int.reduceLT, Int.reduceLE, Int.reduceToNat, Int.reduceNeg, Int.reduceAdd, Int.reduceSub, Nat.reduceEqDiff, Nat.reduceAdd, Nat.reduceMul, Nat.reduceLeDiff, Nat.reduceSub, ↓reduceIte, reduceCtorEq, hc]
            repeat' (first | (refine gN_split2 (fun hs => ?_) (fun hs => ?_) <;> simp -implicitDefEqProofs (disch := omega) only [go_sem, Int.reduceEq, Int.reduceLT, Int.reduceLE, Int.reduceToNat, Int.reduceNeg, Int.reduceAdd, Int.reduceSub, Nat.reduceEqDiff, Nat.reduceAdd, Nat.reduceMul, Nat.reduceLeDiff, Nat.reduceSub, ↓reduceIte, reduceCtorEq, hs, hc]) | simp -implicitDefEqProofs (disch := omega) only [go_sem, Int.reduceEq, Int.reduceLT, Int.reduceLE, Int.reduceToNat, Int.reduceNeg, Int.reduceAdd, Int.reduceSub, Nat.reduceEqDiff, Nat.reduceAdd, Nat.reduceMul, Nat.reduceLeDiff, Nat.reduceSub, ↓reduceIte, reduceCtorEq, hc] | refine And.intro (by omega) ?_)
            all_goals (try clear hK'; try clear hj1; try clear ox1; try clear hn3; try clear hx3; try clear ho3; try clear hn4; try clear hx4; try clear hn6; try clear hx6; try clear ho6; try clear hj8; try clear ox8; try clear hn3; try clear hx3; try clear ho3; try clear hn4; try clear hx4; try clear hn6; try clear hx6; try clear ho6; try clear hj8; try clear ox8; try clear hj1; try clear ox1; try clear hn3; try clear hx3; try clear ho3; try clear hn4; try clear hx4; try clear hn6; try clear hx6; try clear ho6)
            all_goals ((first | rfl | (rw [← ed]; grind) | grind))
          repeat' (first | refine wpL_seq ?_ | refine wpL_skip ?_ | refine wpL_label ?_ | refine wpL_scope ?_)
          refine wpL_cond rfl (fun hc7 => ?_) (fun hc7 => ?_)
          · have h1 : isD c = false := by simpa using hc7
            rw [if_pos h1] at hF
            repeat' (first | refine wpL_seq ?_ | refine wpL_skip ?_ | refine wpL_label ?_ | refine wpL_scope ?_)
            refine wpL_region' [2, 3] fun q hq => ?_
            simp -implicitDefEqProofs (disch := omega) only [go_sem, Int.reduceEq, Int.reduceLT, Int.reduceLE, Int.reduceToNat, Int.reduceNeg, Int.reduceAdd, Int.reduceSub, Nat.reduceEqDiff, Nat.reduceAdd, Nat.reduceMul, Nat.reduceLeDiff, Nat.reduceSub, ↓reduceIte, reduceCtorEq]
            repeat (refine And.intro (by omega) ?_)
            refine hq _ _ _ (by simp only [pickL, lk_cons, Nat.reduceEqDiff, ↓reduceIte]; exact rfl) ?_
            clear hq q
            repeat' (first | refine wpL_seq ?_ | refine wpL_skip ?_ | refine wpL_label ?_ | refine wpL_scope ?_)
            refine wpL_ret (ho6 _ _ _ (by simp) (by simp) (hx4 _ _ _ (by simp) (ho3 _ _ _ (by simp) (by simp) (hK' _ _ _ _ (.inr rfl) (resTo (rs' := [.tmp 2, .tmp 3]) rfl (by simp only [go_sem, Int.reduceEq, Int.reduceLT, Int.reduceLE, Int.reduceToNat, Int.reduceNeg, Int.reduceAdd, Int.reduceSub, Nat.reduceEqDiff, Nat.reduceAdd, Nat.reduceMul, Nat.reduceLeDiff, Nat.reduceSub, ↓reduceIte, reduceCtorEq]; exact rfl)) ?_))))
            rw [ansP, ansA, hD, if_neg hb, hF]
          have h1 : isD c = true := by simpa using hc7
          rw [if_neg (by simp [h1])] at hF
          have hD2 := h1
          simp only [isD, Bool.and_eq_true, decide_eq_true_eq] at hD2
          have e1 : IntKind.wrap .u8 ((c.toNat : Int) - 48) = (c.toNat : Int) - 48 := wrapU8 (by omega) (by omega)
          have e2 : IntKind.wrap .i64 ((c.toNat : Int) - 48) = (c.toNat : Int) - 48 := wrap64 (by omega) (by omega)
          have e3 : IntKind.wrap .i64 (10 * n) = 10 * n := wrap64 (by omega) (by omega)
          have e4 : IntKind.wrap .i64 (10 * n + ((c.toNat : Int) - 48)) = 10 * n + ((c.toNat : Int) - 48) := wrap64 (by omega) (by omega)
          repeat' (first | refine wpL_seq ?_ | refine wpL_skip ?_ | refine wpL_label ?_ | refine wpL_scope ?_)
          refine wpL_region' [4, 5, 6, 7, 31, 32] fun q hq => ?_
          simp -implicitDefEqProofs (disch := omega) only [go_sem, Int.reduceEq, Int.reduceLT, Int.reduceLE, Int.reduceToNat, Int.reduceNeg, Int.reduceAdd, Int.reduceSub, Nat.reduceEqDiff, Nat.reduceAdd, Nat.reduceMul, Nat.reduceLeDiff, Nat.reduceSub, ↓reduceIte, reduceCtorEq, hc, e1, e2, e3, e4]
          repeat (refine And.intro (by omega) ?_)
          refine hq _ _ _ (by simp only [pickL, lk_cons, Nat.reduceEqDiff, ↓reduceIte]; exact rfl) ?_
          clear hq q
          repeat' (first | refine wpL_seq ?_ | refine wpL_skip ?_ | refine wpL_label ?_ | refine wpL_scope ?_)
          refine wpL_region' [4, 5, 6, 7, 31, 32, 54] fun q hq => ?_
          simp -implicitDefEqProofs (disch := omega) only [go_sem, Int.reduceEq, Int.reduceLT, Int.reduceLE, Int.reduceToNat, Int.reduceNeg, Int.reduceAdd, Int.reduceSub, Nat.reduceEqDiff, Nat.reduceAdd, Nat.reduceMul, Nat.reduceLeDiff, Nat.reduceSub, ↓reduceIte, reduceCtorEq]
          repeat (refine And.intro (by omega) ?_)
          refine hq _ _ _ (by simp only [pickL, lk_cons, Nat.reduceEqDiff, ↓reduceIte]; exact rfl) ?_
          clear hq q
          repeat' (first | refine wpL_seq ?_ | refine wpL_skip ?_ | refine wpL_label ?_ | refine wpL_scope ?_)
          refine wpL_condK rfl fun j8 hj8 ox8 => ?_
          have tail8 : ∀ (n' : Int) (b' : Bool), 0 ≤ n' → n' ≤ 1099511627776 → foldD D 0 false = foldD (D.drop (i + 1)) n' b' → j8 .normal (lk [(4, .str D), (5, .int .i64 (sgn s)), (6, .int .i64 n'), (7, .bool b'), (31, .int .i64 D.length), (32, .int .i64 i)]) Heap.emp := by
            intro n' b' h1 h2 h3
            refine hj8 _ _ ?_
            repeat' (first | refine wpL_seq ?_ | refine wpL_skip ?_ | refine wpL_label ?_ | refine wpL_scope ?_)
            refine wpL_nil (hn6 _ _ ?_)
            repeat' (first | refine wpL_seq ?_ | refine wpL_skip ?_ | refine wpL_label ?_ | refine wpL_scope ?_)
            refine wpL_region' [4, 5, 6, 7, 31, 32] fun q hq => ?_
            simp -implicitDefEqProofs (disch := omega) only [go_sem, Int.reduceEq, Int.reduceLT, Int.reduceLE, Int.reduceToNat, Int.reduceNeg, Int.reduceAdd, Int.reduceSub, Nat.reduceEqDiff, Nat.reduceAdd, Nat.reduceMul, Nat.reduceLeDiff, Nat.reduceSub, ↓reduceIte, reduceCtorEq]
            repeat (refine And.intro (by omega) ?_)
            refine hq _ _ _ (by simp only [pickL, lk_cons, Nat.reduceEqDiff, ↓reduceIte]; exact rfl) ?_
            clear hq q
            repeat' (first | refine wpL_seq ?_ | refine wpL_skip ?_ | refine wpL_label ?_ | refine wpL_scope ?_)
            exact wpL_nil (hn4 (D.length - (i + 1)) _ _ (by omega) ⟨i + 1, n', b', by omega, rfl, rfl, h1, h2, h3, rfl⟩)
          refine ⟨fun hc8 => ?_, fun hc8 => ?_⟩
          · have hc8 := of_decide_eq_true hc8
            rw [if_pos hc8] at hF
            repeat' (first | refine wpL_seq ?_ | refine wpL_skip ?_ | refine wpL_label ?_ | refine wpL_scope ?_)
            refine wpL_region' [4, 5, 6, 7, 31, 32] fun q hq => ?_
            simp -implicitDefEqProofs (disch := omega) only [go_sem, Int.reduceEq, Int.reduceLT, Int.reduceLE, Int.reduceToNat, Int.reduceNeg, Int.reduceAdd, Int.reduceSub, Nat.reduceEqDiff, Nat.reduceAdd, Nat.reduceMul, Nat.reduceLeDiff, Nat.reduceSub, ↓reduceIte, reduceCtorEq]
            repeat (refine And.intro (by omega) ?_)
            refine hq _ _ _ (by simp only [pickL, lk_cons, Nat.reduceEqDiff, ↓reduceIte]; exact rfl) ?_
            clear hq q
            repeat' (first | refine wpL_seq ?_ | refine wpL_skip ?_ | refine wpL_label ?_ | refine wpL_scope ?_)
            exact wpL_nil (tail8 _ _ (by omega) (by omega) hF)
          · have hc8 := of_decide_eq_false hc8
            rw [if_neg hc8] at hF
            refine wpL_pick' [4, 5, 6, 7, 31, 32] (by simp only [pickL, lk_cons, Nat.reduceEqDiff, ↓reduceIte]; exact rfl) ?_
            repeat' (first | refine wpL_seq ?_ | refine wpL_skip ?_ | refine wpL_label ?_ | refine wpL_scope ?_)
            repeat' (first | refine wpL_seq ?_ | refine wpL_skip ?_ | refine wpL_label ?_ | refine wpL_scope ?_)
            exact wpL_nil (tail8 _ _ (by omega) (by omega) hF)
        have hc5 := of_decide_eq_false hc5
        have hie : i = D.length := by omega
        rw [hie, List.drop_length, foldD] at hF
        have hsg : sgn s = 1 ∨ sgn s = -1 := by unfold sgn; split; exact .inr rfl; exact .inl rfl
        have hA : ansA 11 23 s = fin 23 b (n * sgn s) := by rw [ansA, hD, if_neg hb, hF]
        rw [hA] at hK'
        obtain ⟨m, hm⟩ : ∃ m, m = n * sgn s := ⟨_, rfl⟩
        have hmb : -1099511627776 ≤ m ∧ m ≤ 1099511627776 := by rcases hsg with h | h <;> rw [h] at hm <;> omega
        have e : IntKind.wrap .i64 (n * sgn s) = m := by rw [← hm]; exact wrap64 (by omega) (by omega)
        rw [← hm] at hK'
        repeat' (first | refine wpL_seq ?_ | refine wpL_skip ?_ | refine wpL_label ?_ | refine wpL_scope ?_)
        refine wpL_exit (hx4 _ _ _ (by simp) (hx3 _ _ ?_))
        repeat' (first | refine wpL_seq ?_ | refine wpL_skip ?_ | refine wpL_label ?_ | refine wpL_scope ?_)
        refine wpL_region' [6, 7] fun q hq => ?_
        simp -implicitDefEqProofs (disch := omega) only [go_sem, Int.reduceEq, Int.reduceLT, Int.reduceLE, Int.reduceToNat, Int.reduceNeg, Int.reduceAdd, Int.reduceSub, Nat.reduceEqDiff, Nat.reduceAdd, Nat.reduceMul, Nat.reduceLeDiff, Nat.reduceSub, ↓reduceIte, reduceCtorEq, e, ← hm]
        repeat (refine And.intro (by omega) ?_)
        refine hq _ _ _ (by simp only [pickL, lk_cons, Nat.reduceEqDiff, ↓reduceIte]; exact rfl) ?_
        clear hq q
        repeat' (first | refine wpL_seq ?_ | refine wpL_skip ?_ | refine wpL_label ?_ | refine wpL_scope ?_)
        refine wpL_regV [6] 67 (.bool (b || decide (m < -2147483648 ∨ m > 2147483647))) (by simp only [pickL, put, lk_cons, Int.reduceEq, Int.reduceLT, Int.reduceLE, Int.reduceToNat, Int.reduceNeg, Int.reduceAdd, Int.reduceSub, Nat.reduceEqDiff, Nat.reduceAdd, Nat.reduceMul, Nat.reduceLeDiff, Nat.reduceSub, ↓reduceIte, reduceCtorEq, if_true, if_false]; exact rfl) (by decide) ?_ ?_
        · simp -implicitDefEqProofs (disch := omega) only [go_sem, Int.reduceEq, Int.reduceLT, Int.reduceLE, Int.reduceToNat, Int.reduceNeg, Int.reduceAdd, Int.reduceSub, Nat.reduceEqDiff, Nat.reduceAdd, Nat.reduceMul, Nat.reduceLeDiff, Nat.reduceSub, ↓reduceIte, reduceCtorEq]
          repeat' (first | (refine gN_split2 (fun hs => ?_) (fun hs => ?_) <;> simp -implicitDefEqProofs (disch := omega) only [go_sem, Int.reduceEq, Int.reduceLT, Int.reduceLE, Int.reduceToNat, Int.reduceNeg, Int.reduceAdd, Int.reduceSub, Nat.reduceEqDiff, Nat.reduceAdd, Nat.reduceMul, Nat.reduceLeDiff, Nat.reduceSub, ↓reduceIte, reduceCtorEq, hs]) | simp -implicitDefEqProofs (disch := omega) only [go_sem, Int.reduceEq, Int.reduceLT, Int.reduceLE, Int.reduceToNat, Int.reduceNeg, Int.reduceAdd, Int.reduceSub, Nat.reduceEqDiff, Nat.reduceAdd, Nat.reduceMul, Nat.reduceLeDiff, Nat.reduceSub, ↓reduceIte, reduceCtorEq] | refine And.intro (by omega) ?_)
          all_goals (try clear hK'; try clear hj1; try clear ox1; try clear hn3; try clear hx3; try clear ho3; try clear hn4; try clear hx4; try clear hn6; try clear hx6; try clear ho6; try clear hj8; try clear ox8; try clear hn3; try clear hx3; try clear ho3; try clear hn4; try clear hx4; try clear hn6; try clear hx6; try clear ho6; try clear hj8; try clear ox8; try clear hj1; try clear ox1; try clear hn3; try clear hx3; try clear ho3; try clear hn4; try clear hx4; try clear hn6; try clear hx6; try clear ho6; try clear hj8; try clear ox8)
          all_goals (grind)
        repeat' (first | refine wpL_seq ?_ | refine wpL_skip ?_ | refine wpL_label ?_ | refine wpL_scope ?_)
        refine wpL_cond rfl (fun hc9 => ?_) (fun hc9 => ?_)
        · have hc9 : b = true ∨ (m < -2147483648 ∨ m > 2147483647) := by simpa using hc9
          repeat' (first | refine wpL_seq ?_ | refine wpL_skip ?_ | refine wpL_label ?_ | refine wpL_scope ?_)
          refine wpL_region' [2, 3] fun q hq => ?_
          simp -implicitDefEqProofs (disch := omega) only [go_sem, Int.reduceEq, Int.reduceLT, Int.reduceLE, Int.reduceToNat, Int.reduceNeg, Int.reduceAdd, Int.reduceSub, Nat.reduceEqDiff, Nat.reduceAdd, Nat.reduceMul, Nat.reduceLeDiff, Nat.reduceSub, ↓reduceIte, reduceCtorEq]
          repeat (refine And.intro (by omega) ?_)
          refine hq _ _ _ (by simp only [pickL, lk_cons, Nat.reduceEqDiff, ↓reduceIte]; exact rfl) ?_
          clear hq q
          repeat' (first | refine wpL_seq ?_ | refine wpL_skip ?_ | refine wpL_label ?_ | refine wpL_scope ?_)
          refine wpL_ret (hK' _ _ _ _ (.inr rfl) (resTo (rs' := [.tmp 2, .tmp 3]) rfl (by simp only [go_sem, Int.reduceEq, Int.reduceLT, Int.reduceLE, Int.reduceToNat, Int.reduceNeg, Int.reduceAdd, Int.reduceSub, Nat.reduceEqDiff, Nat.reduceAdd, Nat.reduceMul, Nat.reduceLeDiff, Nat.reduceSub, ↓reduceIte, reduceCtorEq]; exact rfl)) ?_)
          rw [ansP, fin, if_pos hc9]
        have hc9 : ¬ (b = true ∨ (m < -2147483648 ∨ m > 2147483647)) := by simpa using hc9
        have e9 : IntKind.wrap .i32 m = m := wrap32 (by omega) (by omega)
        repeat' (first | refine wpL_seq ?_ | refine wpL_skip ?_ | refine wpL_label ?_ | refine wpL_scope ?_)
        refine wpL_region' [2, 3] fun q hq => ?_
        simp -implicitDefEqProofs (disch := omega) only [go_sem, Int.reduceEq, Int.reduceLT, Int.reduceLE, Int.reduceToNat, Int.reduceNeg, Int.reduceAdd, Int.reduceSub, Nat.reduceEqDiff, Nat.reduceAdd, Nat.reduceMul, Nat.reduceLeDiff, Nat.reduceSub, ↓reduceIte, reduceCtorEq, e9]
        repeat (refine And.intro (by omega) ?_)
        refine hq _ _ _ (by simp only [pickL, lk_cons, Nat.reduceEqDiff, ↓reduceIte]; exact rfl) ?_
        clear hq q
        repeat' (first | refine wpL_seq ?_ | refine wpL_skip ?_ | refine wpL_label ?_ | refine wpL_scope ?_)
        refine wpL_ret (hK' _ _ _ _ (.inr rfl) (resTo (rs' := [.tmp 2, .tmp 3]) rfl (by simp only [go_sem, Int.reduceEq, Int.reduceLT, Int.reduceLE, Int.reduceToNat, Int.reduceNeg, Int.reduceAdd, Int.reduceSub, Nat.reduceEqDiff, Nat.reduceAdd, Nat.reduceMul, Nat.reduceLeDiff, Nat.reduceSub, ↓reduceIte, reduceCtorEq]; exact rfl)) ?_)
        rw [ansP, fin, if_neg hc9]
      · have d1 : decide (body s = []) = false := decide_eq_false hB
        obtain ⟨c, g0⟩ := get_of_lt (show 0 < (body s).length from List.length_pos_iff.2 hB)
        have c48 : decide ((c.toNat : Int) = 48) = decide (c = 48) := u8eq c 48 48 rfl
        have hbF : badF s = (decide (c = 48) && !decide (s = [48])) := by rw [badF, g0]; simp [hB]
        repeat' (first | refine wpL_seq ?_ | refine wpL_skip ?_ | refine wpL_label ?_ | refine wpL_scope ?_)
        refine wpL_regV [4, 5] 29 (.bool (badF s)) (by simp only [pickL, put, lk_cons, Int.reduceEq, Int.reduceLT, Int.reduceLE, Int.reduceToNat, Int.reduceNeg, Int.reduceAdd, Int.reduceSub, Nat.reduceEqDiff, Nat.reduceAdd, Nat.reduceMul, Nat.reduceLeDiff, Nat.reduceSub, ↓reduceIte, reduceCtorEq, if_true, if_false]; exact rfl) (by decide) ?_ ?_
        · simp -implicitDefEqProofs (disch := omega) only [go_sem, Int.reduceEq, Int.reduceLT, Int.reduceLE, Int.reduceToNat, Int.reduceNeg, Int.reduceAdd, Int.reduceSub, Nat.reduceEqDiff, Nat.reduceAdd, Nat.reduceMul, Nat.reduceLeDiff, Nat.reduceSub, ↓reduceIte, reduceCtorEq, d1, g0, c48]
          repeat' (first | (refine gN_split2 (fun hs => ?_) (fun hs => ?_) <;> simp -implicitDefEqProofs (disch := omega) only [go_sem, Int.reduceEq, Int.reduceLT, Int.reduceLE, Int.reduceToNat, Int.reduceNeg, Int.reduceAdd, Int.reduceSub, Nat.reduceEqDiff, Nat.reduceAdd, Nat.reduceMul, Nat.reduceLeDiff, Nat.reduceSub, ↓reduceIte, reduceCtorEq, hs, d1, g0, c48]) | simp -implicitDefEqProofs (disch := omega) only [go_sem, Int.reduceEq, Int.reduceLT, Int.reduceLE, Int.reduceToNat, Int.reduceNeg, Int.reduceAdd, Int.reduceSub, Nat.reduceEqDiff, Nat.reduceAdd, Nat.reduceMul, Nat.reduceLeDiff, Nat.reduceSub, ↓reduceIte, reduceCtorEq, d1, g0, c48] | refine And.intro (by omega) ?_)
          all_goals (try clear hK'; try clear hj1; try clear ox1; try clear hn3; try clear hx3; try clear ho3; try clear hn4; try clear hx4; try clear hn6; try clear hx6; try clear ho6; try clear hj8; try clear ox8; try clear hn3; try clear hx3; try clear ho3; try clear hn4; try clear hx4; try clear hn6; try clear hx6; try clear ho6; try clear hj8; try clear ox8; try clear hj1; try clear ox1; try clear hn3; try clear hx3; try clear ho3; try clear hn4; try clear hx4; try clear hn6; try clear hx6; try clear ho6; try clear hj8; try clear ox8)
          all_goals ((first | (rw [hbF]; done) | rfl | (rw [hbF]; grind)))
        repeat' (first | refine wpL_seq ?_ | refine wpL_skip ?_ | refine wpL_label ?_ | refine wpL_scope ?_)
        refine wpL_cond rfl (fun hc2 => ?_) (fun hc2 => ?_)
        · have hb : body s = [] ∨ ((body s)[0]? = some 48 ∧ s ≠ [48]) := of_decide_eq_true hc2
          repeat' (first | refine wpL_seq ?_ | refine wpL_skip ?_ | refine wpL_label ?_ | refine wpL_scope ?_)
          refine wpL_region' [2, 3] fun q hq => ?_
          simp -implicitDefEqProofs (disch := omega) only [go_sem, Int.reduceEq, Int.reduceLT, Int.reduceLE, Int.reduceToNat, Int.reduceNeg, Int.reduceAdd, Int.reduceSub, Nat.reduceEqDiff, Nat.reduceAdd, Nat.reduceMul, Nat.reduceLeDiff, Nat.reduceSub, ↓reduceIte, reduceCtorEq]
          repeat (refine And.intro (by omega) ?_)
          refine hq _ _ _ (by simp only [pickL, lk_cons, Nat.reduceEqDiff, ↓reduceIte]; exact rfl) ?_
          clear hq q
          repeat' (first | refine wpL_seq ?_ | refine wpL_skip ?_ | refine wpL_label ?_ | refine wpL_scope ?_)
          refine wpL_ret (hK' _ _ _ _ (.inr rfl) (resTo (rs' := [.tmp 2, .tmp 3]) rfl (by simp only [go_sem, Int.reduceEq, Int.reduceLT, Int.reduceLE, Int.reduceToNat, Int.reduceNeg, Int.reduceAdd, Int.reduceSub, Nat.reduceEqDiff, Nat.reduceAdd, Nat.reduceMul, Nat.reduceLeDiff, Nat.reduceSub, ↓reduceIte, reduceCtorEq]; exact rfl)) ?_)
          rw [ansP, ansA, if_pos hb]
        have hb : ¬ (body s = [] ∨ ((body s)[0]? = some 48 ∧ s ≠ [48])) := of_decide_eq_false hc2
        repeat' (first | refine wpL_seq ?_ | refine wpL_skip ?_ | refine wpL_label ?_ | refine wpL_scope ?_)
        refine wpL_region' [4, 5, 6, 7] fun q hq => ?_
        simp -implicitDefEqProofs (disch := omega) only [go_sem, Int.reduceEq, Int.reduceLT, Int.reduceLE, Int.reduceToNat, Int.reduceNeg, Int.reduceAdd, Int.reduceSub, Nat.reduceEqDiff, Nat.reduceAdd, Nat.reduceMul, Nat.reduceLeDiff, Nat.reduceSub, ↓reduceIte, reduceCtorEq]
        repeat (refine And.intro (by omega) ?_)
        refine hq _ _ _ (by simp only [pickL, lk_cons, Nat.reduceEqDiff, ↓reduceIte]; exact rfl) ?_
        clear hq q
        repeat' (first | refine wpL_seq ?_ | refine wpL_skip ?_ | refine wpL_label ?_ | refine wpL_scope ?_)
        refine wpL_region' [4, 5, 6, 7, 31, 32] fun q hq => ?_
        simp -implicitDefEqProofs (disch := omega) only [go_sem, Int.reduceEq, Int.reduceLT, Int.reduceLE, Int.reduceToNat, Int.reduceNeg, Int.reduceAdd, Int.reduceSub, Nat.reduceEqDiff, Nat.reduceAdd, Nat.reduceMul, Nat.reduceLeDiff, Nat.reduceSub, ↓reduceIte, reduceCtorEq]
        repeat (refine And.intro (by omega) ?_)
        refine hq _ _ _ (by simp only [pickL, lk_cons, Nat.reduceEqDiff, ↓reduceIte]; exact rfl) ?_
        clear hq q
        generalize hD : body s = D at *
        refine wpL_pick' [4, 5, 6, 7, 31, 32] (by simp only [pickL, lk_cons, Nat.reduceEqDiff, ↓reduceIte]; exact rfl) ?_
        repeat' (first | refine wpL_seq ?_ | refine wpL_skip ?_ | refine wpL_label ?_ | refine wpL_scope ?_)
        repeat' (first | refine wpL_seq ?_ | refine wpL_skip ?_ | refine wpL_label ?_ | refine wpL_scope ?_)
        refine wpL_block fun k3 hn3 hx3 ho3 => ?_
        refine wpL_loop (fun j e h => ∃ (i : Nat) (n : Int) (b : Bool), i ≤ D.length ∧ j = D.length - i ∧ h = Heap.emp ∧ 0 ≤ n ∧ n ≤ 1099511627776 ∧ foldD D 0 false = foldD (D.drop i) n b ∧
          e = lk [(4, .str D), (5, .int .i64 (sgn s)), (6, .int .i64 n), (7, .bool b), (31, .int .i64 D.length), (32, .int .i64 i)]) D.length ⟨0, 0, false, by omega, by omega, rfl, by omega, by omega, by rw [List.drop_zero], rfl⟩ ?_
        rintro j e h ⟨i, n, b, hi, hj, rfl, hn0, hn1, hF, rfl⟩ k4 hn4 hx4
        repeat' (first | refine wpL_seq ?_ | refine wpL_skip ?_ | refine wpL_label ?_ | refine wpL_scope ?_)
        refine wpL_region' [4, 5, 6, 7, 31, 32, 33] fun q hq => ?_
        simp -implicitDefEqProofs (disch := omega) only [go_sem, Int.reduceEq, Int.reduceLT, Int.reduceLE, Int.reduceToNat, Int.reduceNeg, Int.reduceAdd, Int.reduceSub, Nat.reduceEqDiff, Nat.reduceAdd, Nat.reduceMul, Nat.reduceLeDiff, Nat.reduceSub, ↓reduceIte, reduceCtorEq]
        repeat (refine And.intro (by omega) ?_)
        refine hq _ _ _ (by simp only [pickL, lk_cons, Nat.reduceEqDiff, ↓reduceIte]; exact rfl) ?_
        clear hq q
        repeat' (first | refine wpL_seq ?_ | refine wpL_skip ?_ | refine wpL_label ?_ | refine wpL_scope ?_)
        refine wpL_cond rfl (fun hc5 => ?_) (fun hc5 => ?_)
        · have hc5 := of_decide_eq_true hc5
          obtain ⟨c, hc⟩ := get_of_lt (show i < D.length by omega)
          rw [drop_get hc, foldD] at hF
          have ed := isD_dec c
          repeat' (first | refine wpL_seq ?_ | refine wpL_skip ?_ | refine wpL_label ?_ | refine wpL_scope ?_)
          refine wpL_block fun k6 hn6 hx6 ho6 => ?_
          repeat' (first | refine wpL_seq ?_ | refine wpL_skip ?_ | refine wpL_label ?_ | refine wpL_scope ?_)
          refine wpL_region' [4, 5, 6, 7, 8, 31, 32] fun q hq => ?_
          simp -implicitDefEqProofs (disch := omega) only [go_sem, Int.reduceEq, Int.reduceLT, Int.reduceLE, Int.reduceToNat, Int.reduceNeg, Int.reduceAdd, Int.reduceSub, Nat.reduceEqDiff, Nat.reduceAdd, Nat.reduceMul, Nat.reduceLeDiff, Nat.reduceSub, ↓reduceIte, reduceCtorEq]
          repeat (refine And.intro (by omega) ?_)
          refine hq _ _ _ (by simp only [pickL, lk_cons, Nat.reduceEqDiff, ↓reduceIte]; exact rfl) ?_
          clear hq q
          repeat' (first | refine wpL_seq ?_ | refine wpL_skip ?_ | refine wpL_label ?_ | refine wpL_scope ?_)
          refine wpL_regV [4, 5, 6, 7, 8, 31, 32] 44 (.bool (!isD c)) (by simp only [pickL, put, lk_cons, Int.reduceEq, Int.reduceLT, Int.reduceLE, Int.reduceToNat, Int.reduceNeg, Int.reduceAdd, Int.reduceSub, Nat.reduceEqDiff, Nat.reduceAdd, Nat.reduceMul, Nat.reduceLeDiff, Nat.reduceSub, ↓reduceIte, reduceCtorEq, if_true, if_false]; exact rfl) (by decide) ?_ ?_
          · simp -implicitDefEqProofs (disch := omega) only [go_sem, Int.reduceEq, Int.reduceLT, Int.reduceLE, Int.reduceToNat, Int.reduceNeg, Int.reduceAdd, Int.reduceSub, Nat.reduceEqDiff, Nat.reduceAdd, Nat.reduceMul, Nat.reduceLeDiff, Nat.reduceSub, ↓reduceIte, reduceCtorEq, hc]
            repeat' (first | (refine gN_split2 (fun hs => ?_) (fun hs => ?_) <;> simp -implicitDefEqProofs (disch := omega) only [go_sem, Int.reduceEq, Int.reduceLT, Int.reduceLE, Int.reduceToNat, Int.reduceNeg, Int.reduceAdd, Int.reduceSub, Nat.reduceEqDiff, Nat.reduceAdd, Nat.reduceMul, Nat.reduceLeDiff, Nat.reduceSub, ↓reduceIte, reduceCtorEq, hs, hc]) | simp -implicitDefEqProofs (disch := omega) only [go_sem, Int.reduceEq, Int.reduceLT, Int.reduceLE, Int.reduceToNat, Int.reduceNeg, Int.reduceAdd, Int.reduceSub, Nat.reduceEqDiff, Nat.reduceAdd, Nat.reduceMul, Nat.reduceLeDiff, Nat.reduceSub, ↓reduceIte, reduceCtorEq, hc] | refine And.intro (by omega) ?_)
            all_goals (try clear hK'; try clear hj1; try clear ox1; try clear hn3; try clear hx3; try clear ho3; try clear hn4; try clear hx4; try clear hn6; try clear hx6; try clear ho6; try clear hj8; try clear ox8; try clear hn3; try clear hx3; try clear ho3; try clear hn4; try clear hx4; try clear hn6; try clear hx6; try clear ho6; try clear hj8; try clear ox8; try clear hj1; try clear ox1; try clear hn3; try clear hx3; try clear ho3; try clear hn4; try clear hx4; try clear hn6; try clear hx6; try clear ho6; try clear hj8; try clear ox8; try clear hn3; try clear hx3; try clear ho3; try clear hn4; try clear hx4; try clear hn6; try clear hx6; try clear ho6)
            all_goals ((first | rfl | (rw [← ed]; grind) | grind))
          repeat' (first | refine wpL_seq ?_ | refine wpL_skip ?_ | refine wpL_label ?_ | refine wpL_scope ?_)
          refine wpL_cond rfl (fun hc7 => ?_) (fun hc7 => ?_)
          · have h1 : isD c = false := by simpa using hc7
            rw [if_pos h1] at hF
            repeat' (first | refine wpL_seq ?_ | refine wpL_skip ?_ | refine wpL_label ?_ | refine wpL_scope ?_)
            refine wpL_region' [2, 3] fun q hq => ?_
            simp -implicitDefEqProofs (disch := omega) only [go_sem, Int.reduceEq, Int.reduceLT, Int.reduceLE, Int.reduceToNat, Int.reduceNeg, Int.reduceAdd, Int.reduceSub, Nat.reduceEqDiff, Nat.reduceAdd, Nat.reduceMul, Nat.reduceLeDiff, Nat.reduceSub, ↓reduceIte, reduceCtorEq]
            repeat (refine And.intro (by omega) ?_)
            refine hq _ _ _ (by simp only [pickL, lk_cons, Nat.reduceEqDiff, ↓reduceIte]; exact rfl) ?_
            clear hq q
            repeat' (first | refine wpL_seq ?_ | refine wpL_skip ?_ | refine wpL_label ?_ | refine wpL_scope ?_)
            refine wpL_ret (ho6 _ _ _ (by simp) (by simp) (hx4 _ _ _ (by simp) (ho3 _ _ _ (by simp) (by simp) (hK' _ _ _ _ (.inr rfl) (resTo (rs' := [.tmp 2, .tmp 3]) rfl (by simp only [go_sem, Int.reduceEq, Int.reduceLT, Int.reduceLE, Int.reduceToNat, Int.reduceNeg, Int.reduceAdd, Int.reduceSub, Nat.reduceEqDiff, Nat.reduceAdd, Nat.reduceMul, Nat.reduceLeDiff, Nat.reduceSub, ↓reduceIte, reduceCtorEq]; exact rfl)) ?_))))
            rw [ansP, ansA, hD, if_neg hb, hF]
          have h1 : isD c = true := by simpa using hc7
          rw [if_neg (by simp [h1])] at hF
          have hD2 := h1
          simp only [isD, Bool.and_eq_true, decide_eq_true_eq] at hD2
          have e1 : IntKind.wrap .u8 ((c.toNat : Int) - 48) = (c.toNat : Int) - 48 := wrapU8 (by omega) (by omega)
          have e2 : IntKind.wrap .i64 ((c.toNat : Int) - 48) = (c.toNat : Int) - 48 := wrap64 (by omega) (by omega)
          have e3 : IntKind.wrap .i64 (10 * n) = 10 * n := wrap64 (by omega) (by omega)
          have e4 : IntKind.wrap .i64 (10 * n + ((c.toNat : Int) - 48)) = 10 * n + ((c.toNat : Int) - 48) := wrap64 (by omega) (by omega)
          repeat' (first | refine wpL_seq ?_ | refine wpL_skip ?_ | refine wpL_label ?_ | refine wpL_scope ?_)
          refine wpL_region' [4, 5, 6, 7, 31, 32] fun q hq => ?_
          simp -implicitDefEqProofs (disch := omega) only [go_sem, Int.reduceEq, Int.reduceLT, Int.reduceLE, Int.reduceToNat, Int.reduceNeg, Int.reduceAdd, Int.reduceSub, Nat.reduceEqDiff, Nat.reduceAdd, Nat.reduceMul, Nat.reduceLeDiff, Nat.reduceSub, ↓reduceIte, reduceCtorEq, hc, e1, e2, e3, e4]
          repeat (refine And.intro (by omega) ?_)
          refine hq _ _ _ (by simp only [pickL, lk_cons, Nat.reduceEqDiff, ↓reduceIte]; exact rfl) ?_
          clear hq q
          repeat' (first | refine wpL_seq ?_ | refine wpL_skip ?_ | refine wpL_label ?_ | refine wpL_scope ?_)
          refine wpL_region' [4, 5, 6, 7, 31, 32, 54] fun q hq => ?_
          simp -implicitDefEqProofs (disch := omega) only [go_sem, Int.reduceEq, Int.reduceLT, Int.reduceLE, Int.reduceToNat, Int.reduceNeg, Int.reduceAdd, Int.reduceSub, Nat.reduceEqDiff, Nat.reduceAdd, Nat.reduceMul, Nat.reduceLeDiff, Nat.reduceSub, ↓reduceIte, reduceCtorEq]
          repeat (refine And.intro (by omega) ?_)
          refine hq _ _ _ (by simp only [pickL, lk_cons, Nat.reduceEqDiff, ↓reduceIte]; exact rfl) ?_
          clear hq q
          repeat' (first | refine wpL_seq ?_ | refine wpL_skip ?_ | refine wpL_label ?_ | refine wpL_scope ?_)
          refine wpL_condK rfl fun j8 hj8 ox8 => ?_
          have tail8 : ∀ (n' : Int) (b' : Bool), 0 ≤ n' → n' ≤ 1099511627776 → foldD D 0 false = foldD (D.drop (i + 1)) n' b' → j8 .normal (lk [(4, .str D), (5, .int .i64 (sgn s)), (6, .int .i64 n'), (7, .bool b'), (31, .int .i64 D.length), (32, .int .i64 i)]) Heap.emp := by
            intro n' b' h1 h2 h3
            refine hj8 _ _ ?_
            repeat' (first | refine wpL_seq ?_ | refine wpL_skip ?_ | refine wpL_label ?_ | refine wpL_scope ?_)
            refine wpL_nil (hn6 _ _ ?_)
            repeat' (first | refine wpL_seq ?_ | refine wpL_skip ?_ | refine wpL_label ?_ | refine wpL_scope ?_)
            refine wpL_region' [4, 5, 6, 7, 31, 32] fun q hq => ?_
            simp -implicitDefEqProofs (disch := omega) only [go_sem, Int.reduceEq, Int.reduceLT, Int.reduceLE, Int.reduceToNat, Int.reduceNeg, Int.reduceAdd, Int.reduceSub, Nat.reduceEqDiff, Nat.reduceAdd, Nat.reduceMul, Nat.reduceLeDiff, Nat.reduceSub, ↓reduceIte, reduceCtorEq]
            repeat (refine And.intro (by omega) ?_)
            refine hq _ _ _ (by simp only [pickL, lk_cons, Nat.reduceEqDiff, ↓reduceIte]; exact rfl) ?_
            clear hq q
            repeat' (first | refine wpL_seq ?_ | refine wpL_skip ?_ | refine wpL_label ?_ | refine wpL_scope ?_)
            exact wpL_nil (hn4 (D.length - (i + 1)) _ _ (by omega) ⟨i + 1, n', b', by omega, rfl, rfl, h1, h2, h3, rfl⟩)
          refine ⟨fun hc8 => ?_, fun hc8 => ?_⟩
          · have hc8 := of_decide_eq_true hc8
            rw [if_pos hc8] at hF
            repeat' (first | refine wpL_seq ?_ | refine wpL_skip ?_ | refine wpL_label ?_ | refine wpL_scope ?_)
            refine wpL_region' [4, 5, 6, 7, 31, 32] fun q hq => ?_
            simp -implicitDefEqProofs (disch := omega) only [go_sem, Int.reduceEq, Int.reduceLT, Int.reduceLE, Int.reduceToNat, Int.reduceNeg, Int.reduceAdd, Int.reduceSub, Nat.reduceEqDiff, Nat.reduceAdd, Nat.reduceMul, Nat.reduceLeDiff, Nat.reduceSub, ↓reduceIte, reduceCtorEq]
            repeat (refine And.intro (by omega) ?_)
            refine hq _ _ _ (by simp only [pickL, lk_cons, Nat.reduceEqDiff, ↓reduceIte]; exact rfl) ?_
            clear hq q
            repeat' (first | refine wpL_seq ?_ | refine wpL_skip ?_ | refine wpL_label ?_ | refine wpL_scope ?_)
            exact wpL_nil (tail8 _ _ (by omega) (by omega) hF)
          · have hc8 := of_decide_eq_false hc8
            rw [if_neg hc8] at hF
            refine wpL_pick' [4, 5, 6, 7, 31, 32] (by simp only [pickL, lk_cons, Nat.reduceEqDiff, ↓reduceIte]; exact rfl) ?_
            repeat' (first | refine wpL_seq ?_ | refine wpL_skip ?_ | refine wpL_label ?_ | refine wpL_scope ?_)
            repeat' (first | refine wpL_seq ?_ | refine wpL_skip ?_ | refine wpL_label ?_ | refine wpL_scope ?_)
            exact wpL_nil (tail8 _ _ (by omega) (by omega) hF)
        have hc5 := of_decide_eq_false hc5
        have hie : i = D.length := by omega
        rw [hie, List.drop_length, foldD] at hF
        have hsg : sgn s = 1 ∨ sgn s = -1 := by unfold sgn; split; exact .inr rfl; exact .inl rfl
        have hA : ansA 11 23 s = fin 23 b (n * sgn s) := by rw [ansA, hD, if_neg hb, hF]
        rw [hA] at hK'
        obtain ⟨m, hm⟩ : ∃ m, m = n * sgn s := ⟨_, rfl⟩
        have hmb : -1099511627776 ≤ m ∧ m ≤ 1099511627776 := by rcases hsg with h | h <;> rw [h] at hm <;> omega
        have e : IntKind.wrap .i64 (n * sgn s) = m := by rw [← hm]; exact wrap64 (by omega) (by omega)
        rw [← hm] at hK'
        repeat' (first | refine wpL_seq ?_ | refine wpL_skip ?_ | refine wpL_label ?_ | refine wpL_scope ?_)
        refine wpL_exit (hx4 _ _ _ (by simp) (hx3 _ _ ?_))
        repeat' (first | refine wpL_seq ?_ | refine wpL_skip ?_ | refine wpL_label ?_ | refine wpL_scope ?_)
        refine wpL_region' [6, 7] fun q hq => ?_
        simp -implicitDefEqProofs (disch := omega) only [go_sem, Int.reduceEq, Int.reduceLT, Int.reduceLE, Int.reduceToNat, Int.reduceNeg, Int.reduceAdd, Int.reduceSub, Nat.reduceEqDiff, Nat.reduceAdd, Nat.reduceMul, Nat.reduceLeDiff, Nat.reduceSub, ↓reduceIte, reduceCtorEq, e, ← hm]
        repeat (refine And.intro (by omega) ?_)
        refine hq _ _ _ (by simp only [pickL, lk_cons, Nat.reduceEqDiff, ↓reduceIte]; exact rfl) ?_
        clear hq q
        repeat' (first | refine wpL_seq ?_ | refine wpL_skip ?_ | refine wpL_label ?_ | refine wpL_scope ?_)
        refine wpL_regV [6] 67 (.bool (b || decide (m < -2147483648 ∨ m > 2147483647))) (by simp only [pickL, put, lk_cons, Int.reduceEq, Int.reduceLT, Int.reduceLE, Int.reduceToNat, Int.reduceNeg, Int.reduceAdd, Int.reduceSub, Nat.reduceEqDiff, Nat.reduceAdd, Nat.reduceMul, Nat.reduceLeDiff, Nat.reduceSub, ↓reduceIte, reduceCtorEq, if_true, if_false]; exact rfl) (by decide) ?_ ?_
        · simp -implicitDefEqProofs (disch := omega) only [go_sem, Int.reduceEq, Int.reduceLT, Int.reduceLE, Int.reduceToNat, Int.reduceNeg, Int.reduceAdd, Int.reduceSub, Nat.reduceEqDiff, Nat.reduceAdd, Nat.reduceMul, Nat.reduceLeDiff, Nat.reduceSub, ↓reduceIte, reduceCtorEq]
          repeat' (first | (refine gN_split2 (fun hs => ?_) (fun hs => ?_) <;> simp -implicitDefEqProofs (disch := omega) only [go_sem, Int.reduceEq, Int.reduceLT, Int.reduceLE, Int.reduceToNat, Int.reduceNeg, Int.reduceAdd, Int.reduceSub, Nat.reduceEqDiff, Nat.reduceAdd, Nat.reduceMul, Nat.reduceLeDiff, Nat.reduceSub, ↓reduceIte, reduceCtorEq, hs]) | simp -implicitDefEqProofs (disch := omega) only [go_sem, Int.reduceEq, Int.reduceLT, Int.reduceLE, Int.reduceToNat, Int.reduceNeg, Int.reduceAdd, Int.reduceSub, Nat.reduceEqDiff, Nat.reduceAdd, Nat.reduceMul, Nat.reduceLeDiff, Nat.reduceSub, ↓reduceIte, reduceCtorEq] | refine And.intro (by omega) ?_)
          all_goals (try clear hK'; try clear hj1; try clear ox1; try clear hn3; try clear hx3; try clear ho3; try clear hn4; try clear hx4; try clear hn6; try clear hx6; try clear ho6; try clear hj8; try clear ox8; try clear hn3; try clear hx3; try clear ho3; try clear hn4; try clear hx4; try clear hn6; try clear hx6; try clear ho6; try clear hj8; try clear ox8; try clear hj1; try clear ox1; try clear hn3; try clear hx3; try clear ho3; try clear hn4; try clear hx4; try clear hn6; try clear hx6; try clear ho6; try clear hj8; try clear ox8; try clear hn3; try clear hx3; try clear ho3; try clear hn4; try clear hx4; try clear hn6; try clear hx6; try clear ho6; try clear hj8; try clear ox8)
          all_goals (grind)
        repeat' (first | refine wpL_seq ?_ | refine wpL_skip ?_ | refine wpL_label ?_ | refine wpL_scope ?_)
        refine wpL_cond rfl (fun hc9 => ?_) (fun hc9 => ?_)
        · have hc9 : b = true ∨ (m < -2147483648 ∨ m > 2147483647) := by simpa using hc9
          repeat' (first | refine wpL_seq ?_ | refine wpL_skip ?_ | refine wpL_label ?_ | refine wpL_scope ?_)
          refine wpL_region' [2, 3] fun q hq => ?_
          simp -implicitDefEqProofs (disch := omega) only [go_sem, Int.reduceEq, Int.reduceLT, Int.reduceLE, Int.reduceToNat, Int.reduceNeg, Int.reduceAdd, Int.reduceSub, Nat.reduceEqDiff, Nat.reduceAdd, Nat.reduceMul, Nat.reduceLeDiff, Nat.reduceSub, ↓reduceIte, reduceCtorEq]
          repeat (refine And.intro (by omega) ?_)
          refine hq _ _ _ (by simp only [pickL, lk_cons, Nat.reduceEqDiff, ↓reduceIte]; exact rfl) ?_
          clear hq q
          repeat' (first | refine wpL_seq ?_ | refine wpL_skip ?_ | refine wpL_label ?_ | refine wpL_scope ?_)
          refine wpL_ret (hK' _ _ _ _ (.inr rfl) (resTo (rs' := [.tmp 2, .tmp 3]) rfl (by simp only [go_sem, Int.reduceEq, Int.reduceLT, Int.reduceLE, Int.reduceToNat, Int.reduceNeg, Int.reduceAdd, Int.reduceSub, Nat.reduceEqDiff, Nat.reduceAdd, Nat.reduceMul, Nat.reduceLeDiff, Nat.reduceSub, ↓reduceIte, reduceCtorEq]; exact rfl)) ?_)
          rw [ansP, fin, if_pos hc9]
        have hc9 : ¬ (b = true ∨ (m < -2147483648 ∨ m > 2147483647)) := by simpa using hc9
        have e9 : IntKind.wrap .i32 m = m := wrap32 (by omega) (by omega)
        repeat' (first | refine wpL_seq ?_ | refine wpL_skip ?_ | refine wpL_label ?_ | refine wpL_scope ?_)
        refine wpL_region' [2, 3] fun q hq => ?_
        simp -implicitDefEqProofs (disch := omega) only [go_sem, Int.reduceEq, Int.reduceLT, Int.reduceLE, Int.reduceToNat, Int.reduceNeg, Int.reduceAdd, Int.reduceSub, Nat.reduceEqDiff, Nat.reduceAdd, Nat.reduceMul, Nat.reduceLeDiff, Nat.reduceSub, ↓reduceIte, reduceCtorEq, e9]
        repeat (refine And.intro (by omega) ?_)
        refine hq _ _ _ (by simp only [pickL, lk_cons, Nat.reduceEqDiff, ↓reduceIte]; exact rfl) ?_
        clear hq q
        repeat' (first | refine wpL_seq ?_ | refine wpL_skip ?_ | refine wpL_label ?_ | refine wpL_scope ?_)
        refine wpL_ret (hK' _ _ _ _ (.inr rfl) (resTo (rs' := [.tmp 2, .tmp 3]) rfl (by simp only [go_sem, Int.reduceEq, Int.reduceLT, Int.reduceLE, Int.reduceToNat, Int.reduceNeg, Int.reduceAdd, Int.reduceSub, Nat.reduceEqDiff, Nat.reduceAdd, Nat.reduceMul, Nat.reduceLeDiff, Nat.reduceSub, ↓reduceIte, reduceCtorEq]; exact rfl)) ?_)
        rw [ansP, fin, if_neg hc9]
    refine ⟨fun hc1 => ?_, fun hc1 => ?_⟩
    · have e1 : body s = s.drop 1 := by rw [body_drop, if_pos hc1]
      have e2 : sgn s = -1 := by rw [sgn, if_pos hc1]
      have hpos : 1 ≤ s.length := by
        cases hs0 : s with
        | nil => rw [hs0] at hc1; cases hc1
        | cons _ _ => simp
      have l1 : (1 ≤ (s.length : Int)) = True := eq_true (by omega)
      have l2 : List.take (s.length - 1) (s.drop 1) = s.drop 1 := List.take_of_length_le (by simp)
      rw [e1, e2] at tail1
      repeat' (first | refine wpL_seq ?_ | refine wpL_skip ?_ | refine wpL_label ?_ | refine wpL_scope ?_)
      refine wpL_region' [0, 4, 5] fun q hq => ?_
      simp -implicitDefEqProofs (disch := omega) only [go_sem, Int.reduceEq, Int.reduceLT, Int.reduceLE, Int.reduceToNat, Int.reduceNeg, Int.reduceAdd, Int.reduceSub, Nat.reduceEqDiff, Nat.reduceAdd, Nat.reduceMul, Nat.reduceLeDiff, Nat.reduceSub, ↓reduceIte, reduceCtorEq, l1, l2]
      repeat (refine And.intro (by omega) ?_)
      refine hq _ _ _ (by simp only [pickL, lk_cons, Nat.reduceEqDiff, ↓reduceIte]; exact rfl) ?_
      clear hq q
      repeat' (first | refine wpL_seq ?_ | refine wpL_skip ?_ | refine wpL_label ?_ | refine wpL_scope ?_)
      exact wpL_nil tail1
    · have hc1 : isNeg s = false := hc1
      have e1 : body s = s := by rw [body_drop, if_neg (by simp [hc1])]; rfl
      have e2 : sgn s = 1 := by rw [sgn, if_neg (by simp [hc1])]
      rw [e1, e2] at tail1
      refine wpL_pick' [0, 4, 5] (by simp only [pickL, lk_cons, Nat.reduceEqDiff, ↓reduceIte]; exact rfl) ?_
      repeat' (first | refine wpL_seq ?_ | refine wpL_skip ?_ | refine wpL_label ?_ | refine wpL_scope ?_)
      repeat' (first | refine wpL_seq ?_ | refine wpL_skip ?_ | refine wpL_label ?_ | refine wpL_scope ?_)
      exact wpL_nil tail1
end
end Go.Proofs.YtchhknkflhikmaaDoor.Am.Y
