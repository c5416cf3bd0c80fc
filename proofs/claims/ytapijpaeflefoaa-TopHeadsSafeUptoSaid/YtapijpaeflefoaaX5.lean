/- The reference's Gate; Settled; pictures. -/
import Derived.Test.YtapijpaeflefoaaX4
namespace Go.Proofs.Ytapijpaeflefoaa.Am.X
set_option linter.unusedSectionVars false
open Go Go.Proofs Am
set_option linter.unusedVariables false
set_option linter.unusedSimpArgs false
set_option maxRecDepth 100000
attribute [local irreducible] gO gN gW gdO

def settledFrom (w : BitVec 64) : Nat → List Int → Bool
  | _, [] => true
  | i, a :: l => (if w.getLsbD i then decide (a = 2) else decide (a = 0)) && settledFrom w (i + 1) l
def settled (t : Tables) (h : Hd) (w : BitVec 64) : Bool := sound t h && settledFrom w 0 h.aspect

def letter (a : Int) : UInt8 := if a = 0 then 114 else if a = 1 then 108 else if a = 2 then 103 else if a = 3 then 97 else 63
def Hd.show (h : Hd) : List UInt8 := h.aspect.map letter

theorem f15_show (h : Hd) (hn : h.aspect.length ≤ 17592186043904) : wpP Try.prog 15 [h.av] (.str h.show) := by
  refine wpP_intro ?_
  refine wpH_intro (fn := Try.f15) rfl rfl (by decide) (by kernel_rfl) fun K' hK' => ?_
  repeat' (first | refine wpL_seq ?_ | refine wpL_skip ?_ | refine wpL_label ?_ | refine wpL_scope ?_)
  refine wpL_region' [1] fun q hq => ?_
  simp -implicitDefEqProofs (disch := omega) only [go_sem, Int.reduceEq, Int.reduceLT, Int.reduceLE, Int.reduceToNat, Int.reduceNeg, Int.reduceAdd, Int.reduceSub, Nat.reduceEqDiff, Nat.reduceAdd, Nat.reduceMul, Nat.reduceLeDiff, Nat.reduceSub, ↓reduceIte, reduceCtorEq, Hd.av, Hd.cells]
  repeat (refine And.intro (by omega) ?_)
  refine gN_new fun b1 hb1 => ?_
  try simp only [newIn_put, newIn_upd] at hb1
  simp -implicitDefEqProofs (disch := omega) only [go_sem, Int.reduceEq, Int.reduceLT, Int.reduceLE, Int.reduceToNat, Int.reduceNeg, Int.reduceAdd, Int.reduceSub, Nat.reduceEqDiff, Nat.reduceAdd, Nat.reduceMul, Nat.reduceLeDiff, Nat.reduceSub, ↓reduceIte, reduceCtorEq, Hd.av, Hd.cells, hb1]
  repeat (refine And.intro (by omega) ?_)
  refine hq _ _ _ (by simp only [pickL, lk_cons, Nat.reduceEqDiff, ↓reduceIte]; exact rfl) ?_
  clear hq q
  refine wpL_frzP' 1 rfl (by simp only [go_sem, hb1]; exact rfl) rfl (by simp only [go_sem, Int.reduceEq, Int.reduceLT, Int.reduceLE, Int.reduceToNat, Int.reduceNeg, Int.reduceAdd, Int.reduceSub, Nat.reduceEqDiff, Nat.reduceAdd, Nat.reduceMul, Nat.reduceLeDiff, Nat.reduceSub, ↓reduceIte, reduceCtorEq]; exact rfl) (by simp only [go_sem, hb1]; exact rfl) ?_
  repeat' (first | refine wpL_seq ?_ | refine wpL_skip ?_ | refine wpL_label ?_ | refine wpL_scope ?_)
  refine wpL_region' [1, 3] fun q hq => ?_
  simp -implicitDefEqProofs (disch := omega) only [go_sem, Int.reduceEq, Int.reduceLT, Int.reduceLE, Int.reduceToNat, Int.reduceNeg, Int.reduceAdd, Int.reduceSub, Nat.reduceEqDiff, Nat.reduceAdd, Nat.reduceMul, Nat.reduceLeDiff, Nat.reduceSub, ↓reduceIte, reduceCtorEq, Hd.cells, hb1]
  repeat (refine And.intro (by omega) ?_)
  refine gN_new fun b9 hb9 => ?_
  try simp only [newIn_put, newIn_upd] at hb9
  simp -implicitDefEqProofs (disch := omega) only [go_sem, Int.reduceEq, Int.reduceLT, Int.reduceLE, Int.reduceToNat, Int.reduceNeg, Int.reduceAdd, Int.reduceSub, Nat.reduceEqDiff, Nat.reduceAdd, Nat.reduceMul, Nat.reduceLeDiff, Nat.reduceSub, ↓reduceIte, reduceCtorEq, Hd.cells, hb1, hb9]
  repeat (refine And.intro (by omega) ?_)
  refine hq _ _ _ (by simp only [pickL, lk_cons, Nat.reduceEqDiff, ↓reduceIte]; exact rfl) ?_
  clear hq q
  repeat' (first | refine wpL_seq ?_ | refine wpL_skip ?_ | refine wpL_label ?_ | refine wpL_scope ?_)
  refine wpL_region' [3, 11, 12, 13] fun q hq => ?_
  simp -implicitDefEqProofs (disch := omega) only [go_sem, Int.reduceEq, Int.reduceLT, Int.reduceLE, Int.reduceToNat, Int.reduceNeg, Int.reduceAdd, Int.reduceSub, Nat.reduceEqDiff, Nat.reduceAdd, Nat.reduceMul, Nat.reduceLeDiff, Nat.reduceSub, ↓reduceIte, reduceCtorEq, Hd.cells, hb1, hb9]
  repeat (refine And.intro (by omega) ?_)
  refine hq _ _ _ (by simp only [pickL, lk_cons, Nat.reduceEqDiff, ↓reduceIte]; exact rfl) ?_
  clear hq q
  repeat' (first | refine wpL_seq ?_ | refine wpL_skip ?_ | refine wpL_label ?_ | refine wpL_scope ?_)
  refine wpL_block fun k1 hn1 hx1 ho1 => ?_
  refine wpL_loop (fun j e h' => ∃ (i : Nat) (C : List AV), i ≤ h.aspect.length ∧ j = h.aspect.length - i ∧ h' = Heap.emp.put b9 ⟨.own, C, 5, []⟩ ∧ C.length = h.aspect.length ∧
    C.take i = (h.aspect.take i).map (fun a => .int .u8 (letter a).toNat) ∧
    e = lk [(3, .sl b9 0 h.aspect.length 1), (11, .rs 1 (h.aspect.map (c1 .i64))), (12, .int .i64 h.aspect.length), (13, .int .i64 i)]) h.aspect.length ⟨0, _, by omega, by omega, rfl, by simp, by simp, rfl⟩ ?_
  rintro j e h' ⟨i, C, hi, rfl, rfl, hC, hI, rfl⟩ k2 hn2 hx2
  repeat' (first | refine wpL_seq ?_ | refine wpL_skip ?_ | refine wpL_label ?_ | refine wpL_scope ?_)
  refine wpL_region' [3, 11, 12, 13, 14] fun q hq => ?_
  simp -implicitDefEqProofs (disch := omega) only [go_sem, Int.reduceEq, Int.reduceLT, Int.reduceLE, Int.reduceToNat, Int.reduceNeg, Int.reduceAdd, Int.reduceSub, Nat.reduceEqDiff, Nat.reduceAdd, Nat.reduceMul, Nat.reduceLeDiff, Nat.reduceSub, ↓reduceIte, reduceCtorEq, hb1, hb9]
  repeat (refine And.intro (by omega) ?_)
  refine hq _ _ _ (by simp only [pickL, lk_cons, Nat.reduceEqDiff, ↓reduceIte]; exact rfl) ?_
  clear hq q
  repeat' (first | refine wpL_seq ?_ | refine wpL_skip ?_ | refine wpL_label ?_ | refine wpL_scope ?_)
  refine wpL_cond rfl (fun hc3 => ?_) (fun hc3 => ?_)
  · simp at hc3
    obtain ⟨a, ha⟩ := get_of_lt hc3
    repeat' (first | refine wpL_seq ?_ | refine wpL_skip ?_ | refine wpL_label ?_ | refine wpL_scope ?_)
    refine wpL_block fun k4 hn4 hx4 ho4 => ?_
    repeat' (first | refine wpL_seq ?_ | refine wpL_skip ?_ | refine wpL_label ?_ | refine wpL_scope ?_)
    refine wpL_region' [3, 4, 5, 11, 12, 13] fun q hq => ?_
    simp -implicitDefEqProofs (disch := omega) only [go_sem, Int.reduceEq, Int.reduceLT, Int.reduceLE, Int.reduceToNat, Int.reduceNeg, Int.reduceAdd, Int.reduceSub, Nat.reduceEqDiff, Nat.reduceAdd, Nat.reduceMul, Nat.reduceLeDiff, Nat.reduceSub, ↓reduceIte, reduceCtorEq, ha, c1, hb1, hb9]
    repeat (refine And.intro (by omega) ?_)
    refine hq _ _ _ (by simp only [pickL, lk_cons, Nat.reduceEqDiff, ↓reduceIte]; exact rfl) ?_
    clear hq q
    repeat' (first | refine wpL_seq ?_ | refine wpL_skip ?_ | refine wpL_label ?_ | refine wpL_scope ?_)
    refine wpL_region' [3, 4, 5, 11, 12, 13] fun q hq => ?_
    simp -implicitDefEqProofs (disch := omega) only [go_sem, Int.reduceEq, Int.reduceLT, Int.reduceLE, Int.reduceToNat, Int.reduceNeg, Int.reduceAdd, Int.reduceSub, Nat.reduceEqDiff, Nat.reduceAdd, Nat.reduceMul, Nat.reduceLeDiff, Nat.reduceSub, ↓reduceIte, reduceCtorEq, hC, hb1, hb9]
    repeat (refine And.intro (by omega) ?_)
    refine hq _ _ _ (by simp only [pickL, lk_cons, Nat.reduceEqDiff, ↓reduceIte]; exact rfl) ?_
    clear hq q
    repeat' (first | refine wpL_seq ?_ | refine wpL_skip ?_ | refine wpL_label ?_ | refine wpL_scope ?_)
    refine wpL_regV [3, 4, 5, 11, 12, 13] 26 (.bool (decide (0 ≤ a ∧ a ≤ 3))) (by simp only [pickL, put, lk_cons, Int.reduceEq, Int.reduceLT, Int.reduceLE, Int.reduceToNat, Int.reduceNeg, Int.reduceAdd, Int.reduceSub, Nat.reduceEqDiff, Nat.reduceAdd, Nat.reduceMul, Nat.reduceLeDiff, Nat.reduceSub, ↓reduceIte, reduceCtorEq, if_true, if_false]; exact rfl) (by decide) ?_ ?_
    · simp -implicitDefEqProofs (disch := omega) only [go_sem, Int.reduceEq, Int.reduceLT, Int.reduceLE, Int.reduceToNat, Int.reduceNeg, Int.reduceAdd, Int.reduceSub, Nat.reduceEqDiff, Nat.reduceAdd, Nat.reduceMul, Nat.reduceLeDiff, Nat.reduceSub, ↓reduceIte, reduceCtorEq, hb1, hb9]
      repeat' (first | (refine gN_split2 (fun hs => ?_) (fun hs => ?_) <;> simp -implicitDefEqProofs (disch := omega) only [go_sem, Int.reduceEq, Int.reduceLT, Int.reduceLE, Int.reduceToNat, Int.reduceNeg, Int.reduceAdd, Int.reduceSub, Nat.reduceEqDiff, Nat.reduceAdd, Nat.reduceMul, Nat.reduceLeDiff, Nat.reduceSub, ↓reduceIte, reduceCtorEq, hs, hb1, hb9]) | simp -implicitDefEqProofs (disch := omega) only [go_sem, Int.reduceEq, Int.reduceLT, Int.reduceLE, Int.reduceToNat, Int.reduceNeg, Int.reduceAdd, Int.reduceSub, Nat.reduceEqDiff, Nat.reduceAdd, Nat.reduceMul, Nat.reduceLeDiff, Nat.reduceSub, ↓reduceIte, reduceCtorEq, hb1, hb9] | refine And.intro (by omega) ?_)
      all_goals (try clear hK'; try clear hn1; try clear hx1; try clear ho1; try clear hn2; try clear hx2; try clear hn4; try clear hx4; try clear ho4)
      all_goals (grind)
    repeat' (first | refine wpL_seq ?_ | refine wpL_skip ?_ | refine wpL_label ?_ | refine wpL_scope ?_)
    refine wpL_condK rfl fun j5 hj5 ox5 => ?_
    have tail5 : ∀ D : List AV, D = C.set i (.int .u8 (letter a).toNat) → j5 .normal (lk [(3, .sl b9 0 h.aspect.length 1), (11, .rs 1 (h.aspect.map (c1 .i64))), (12, .int .i64 h.aspect.length), (13, .int .i64 i)]) (Heap.emp.put b9 ⟨.own, D, 5, []⟩) := by
      intro D hD
      refine hj5 _ _ ?_
      repeat' (first | refine wpL_seq ?_ | refine wpL_skip ?_ | refine wpL_label ?_ | refine wpL_scope ?_)
      refine wpL_nil (hn4 _ _ ?_)
      repeat' (first | refine wpL_seq ?_ | refine wpL_skip ?_ | refine wpL_label ?_ | refine wpL_scope ?_)
      refine wpL_region' [3, 11, 12, 13] fun q hq => ?_
      simp -implicitDefEqProofs (disch := omega) only [go_sem, Int.reduceEq, Int.reduceLT, Int.reduceLE, Int.reduceToNat, Int.reduceNeg, Int.reduceAdd, Int.reduceSub, Nat.reduceEqDiff, Nat.reduceAdd, Nat.reduceMul, Nat.reduceLeDiff, Nat.reduceSub, ↓reduceIte, reduceCtorEq, hb1, hb9]
      repeat (refine And.intro (by omega) ?_)
      refine hq _ _ _ (by simp only [pickL, lk_cons, Nat.reduceEqDiff, ↓reduceIte]; exact rfl) ?_
      clear hq q
      repeat' (first | refine wpL_seq ?_ | refine wpL_skip ?_ | refine wpL_label ?_ | refine wpL_scope ?_)
      refine wpL_nil (hn2 (h.aspect.length - (i + 1)) _ _ (by omega) ⟨i + 1, D, by omega, by omega, rfl, by simp [hD, hC], ?_, rfl⟩)
      rw [hD, take_set_succ (by omega), hI, List.take_add_one, ha]; simp
    refine ⟨fun hc5 => ?_, fun hc5 => ?_⟩
    · simp at hc5
      have hl : ([114, 108, 103, 97] : List UInt8)[a.toNat]? = some (letter a) := by
        have : a = 0 ∨ a = 1 ∨ a = 2 ∨ a = 3 := by omega
        rcases this with rfl | rfl | rfl | rfl <;> rfl
      have hC' : (C.set i (.int .u8 63)).length = h.aspect.length := by simp [hC]
      repeat' (first | refine wpL_seq ?_ | refine wpL_skip ?_ | refine wpL_label ?_ | refine wpL_scope ?_)
      refine wpL_region' [3, 11, 12, 13] fun q hq => ?_
      simp -implicitDefEqProofs (disch := omega) only [go_sem, Int.reduceEq, Int.reduceLT, Int.reduceLE, Int.reduceToNat, Int.reduceNeg, Int.reduceAdd, Int.reduceSub, Nat.reduceEqDiff, Nat.reduceAdd, Nat.reduceMul, Nat.reduceLeDiff, Nat.reduceSub, ↓reduceIte, reduceCtorEq, hl, hC, hC', List.set_set, hb1, hb9]
      repeat (refine And.intro (by omega) ?_)
      refine hq _ _ _ (by simp only [pickL, lk_cons, Nat.reduceEqDiff, ↓reduceIte]; exact rfl) ?_
      clear hq q
      repeat' (first | refine wpL_seq ?_ | refine wpL_skip ?_ | refine wpL_label ?_ | refine wpL_scope ?_)
      exact wpL_nil (tail5 _ (by simp))
    · simp at hc5
      refine wpL_pick' [3, 11, 12, 13] (by simp only [pickL, lk_cons, Nat.reduceEqDiff, ↓reduceIte]; exact rfl) ?_
      repeat' (first | refine wpL_seq ?_ | refine wpL_skip ?_ | refine wpL_label ?_ | refine wpL_scope ?_)
      have hl : letter a = 63 := by unfold letter; (repeat' split) <;> first | rfl | omega
      exact wpL_nil (tail5 _ (by rw [hl]; rfl))
  simp at hc3
  have hin : i = h.aspect.length := by omega
  subst hin
  rw [List.take_length, List.take_of_length_le (by omega)] at hI
  subst hI
  repeat' (first | refine wpL_seq ?_ | refine wpL_skip ?_ | refine wpL_label ?_ | refine wpL_scope ?_)
  refine wpL_exit (hx2 _ _ _ (by simp) (hx1 _ _ ?_))
  have hby := bytesA_map letter h.aspect
  repeat' (first | refine wpL_seq ?_ | refine wpL_skip ?_ | refine wpL_label ?_ | refine wpL_scope ?_)
  refine wpL_region' [2] fun q hq => ?_
  simp -implicitDefEqProofs (disch := omega) only [go_sem, Int.reduceEq, Int.reduceLT, Int.reduceLE, Int.reduceToNat, Int.reduceNeg, Int.reduceAdd, Int.reduceSub, Nat.reduceEqDiff, Nat.reduceAdd, Nat.reduceMul, Nat.reduceLeDiff, Nat.reduceSub, ↓reduceIte, reduceCtorEq, List.take_length, List.take_of_length_le, hby, hb1, hb9]
  repeat (refine And.intro (by omega) ?_)
  refine hq _ _ _ (by simp only [pickL, lk_cons, Nat.reduceEqDiff, ↓reduceIte]; exact rfl) ?_
  clear hq q
  repeat' (first | refine wpL_seq ?_ | refine wpL_skip ?_ | refine wpL_label ?_ | refine wpL_scope ?_)
  refine wpL_ret (hK' _ _ _ _ (.inr rfl) (resTo (rs' := [.tmp 2]) rfl (by simp only [go_sem, Int.reduceEq, Int.reduceLT, Int.reduceLE, Int.reduceToNat, Int.reduceNeg, Int.reduceAdd, Int.reduceSub, Nat.reduceEqDiff, Nat.reduceAdd, Nat.reduceMul, Nat.reduceLeDiff, Nat.reduceSub, ↓reduceIte, reduceCtorEq, hb1, hb9]; exact rfl)) ?_)
  rfl

end Go.Proofs.Ytapijpaeflefoaa.Am.X
