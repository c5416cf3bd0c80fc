/- LexPlaces: the law, what came in. -/
import Derived.Test.YtlalbjkdlkhjiaaL2
namespace Go.Proofs.Ytlalbjkdlkhjiaa.Am.L
set_option linter.unusedSectionVars false
open Go Go.Proofs Am
set_option linter.unusedVariables false
set_option linter.unusedSimpArgs false
set_option maxRecDepth 100000
section
attribute [local irreducible] gO gN gW gdO
theorem f3_places (s : List UInt8) (a line : Int) (hs : s.length ≤ 140737488351232) (hl : line ≤ 9223372036854775807) : wpP Try.prog 3 [.str s, .int .i64 a, .int .i64 line] (.bool true) := by
  have q4 := f4_place s a hs
  have q5 := f5_place s a hs
  have q6 := f6_line s line hs hl
  have q7 := f7_line s line hs hl
  generalize placeP s a = P at *
  generalize lineO s line = L at *
  refine wpP_intro ?_
  refine wpH_intro (fn := Try.f3) rfl rfl (by decide) (by kernel_rfl) fun K' hK' => ?_
  repeat' (first | refine wpL_seq ?_ | refine wpL_skip ?_ | refine wpL_label ?_ | refine wpL_scope ?_)
  refine wpL_region' [0, 1, 2] fun q hq => ?_
  simp -implicitDefEqProofs (disch := omega) only [go_sem, Int.reduceEq, Int.reduceLT, Int.reduceLE, Int.reduceToNat, Int.reduceNeg, Int.reduceAdd, Int.reduceSub, Nat.reduceEqDiff, Nat.reduceAdd, Nat.reduceMul, Nat.reduceLeDiff, Nat.reduceSub, ↓reduceIte, reduceCtorEq]
  repeat (refine And.intro (by omega) ?_)
  refine hq _ _ _ (by simp only [pickL, lk_cons, Nat.reduceEqDiff, ↓reduceIte]; exact rfl) ?_
  clear hq q
  repeat' (first | refine wpL_seq ?_ | refine wpL_skip ?_ | refine wpL_label ?_ | refine wpL_scope ?_)
  refine wpL_regV [] 6 (.bool true) (by simp only [pickL, put, lk_cons, Int.reduceEq, Int.reduceLT, Int.reduceLE, Int.reduceToNat, Int.reduceNeg, Int.reduceAdd, Int.reduceSub, Nat.reduceEqDiff, Nat.reduceAdd, Nat.reduceMul, Nat.reduceLeDiff, Nat.reduceSub, ↓reduceIte, reduceCtorEq, if_true, if_false]; exact rfl) (by decide) ?_ ?_
  · simp -implicitDefEqProofs (disch := omega) only [go_sem, Int.reduceEq, Int.reduceLT, Int.reduceLE, Int.reduceToNat, Int.reduceNeg, Int.reduceAdd, Int.reduceSub, Nat.reduceEqDiff, Nat.reduceAdd, Nat.reduceMul, Nat.reduceLeDiff, Nat.reduceSub, ↓reduceIte, reduceCtorEq, posC, decide_true, eq_self, Bool.and_self]
    repeat' (first | (refine gN_split2 (fun hs => ?_) (fun hs => ?_) <;> simp -implicitDefEqProofs (disch := omega) only [go_sem, Int.reduceEq, Int.reduceLT, Int.reduceLE, Int.reduceToNat, Int.reduceNeg, Int.reduceAdd, Int.reduceSub, Nat.reduceEqDiff, Nat.reduceAdd, Nat.reduceMul, Nat.reduceLeDiff, Nat.reduceSub, ↓reduceIte, reduceCtorEq, hs, posC, decide_true, eq_self, Bool.and_self]) | refine gN_callP ((by first | exact q4 | exact q5 | exact q6 | exact q7)) ?_ | simp -implicitDefEqProofs (disch := omega) only [go_sem, Int.reduceEq, Int.reduceLT, Int.reduceLE, Int.reduceToNat, Int.reduceNeg, Int.reduceAdd, Int.reduceSub, Nat.reduceEqDiff, Nat.reduceAdd, Nat.reduceMul, Nat.reduceLeDiff, Nat.reduceSub, ↓reduceIte, reduceCtorEq, posC, decide_true, eq_self, Bool.and_self] | refine And.intro (by omega) ?_)
    all_goals (try clear hK')
    all_goals ((first | rfl | simp_all))
  repeat' (first | refine wpL_seq ?_ | refine wpL_skip ?_ | refine wpL_label ?_ | refine wpL_scope ?_)
  refine wpL_ret (hK' _ _ _ _ (.inr rfl) (resTo (rs' := [.tmp 6]) rfl (by simp only [go_sem, Int.reduceEq, Int.reduceLT, Int.reduceLE, Int.reduceToNat, Int.reduceNeg, Int.reduceAdd, Int.reduceSub, Nat.reduceEqDiff, Nat.reduceAdd, Nat.reduceMul, Nat.reduceLeDiff, Nat.reduceSub, ↓reduceIte, reduceCtorEq]; exact rfl)) ?_)
  rfl
end
section
variable {H : Type}
theorem tabs_none' {W : World} : TabsOk W := fun g cs h => by cases h
theorem lexPlaces_core (avs : List AV) (ds : List (DataW H)) (h : RdL Try.prog Try.f3.params.toList avs ds) (hs : ∀ n ∈ DataW.weightsEach Try.prog Try.f3.params.toList ds, n ≤ reachBytes) :
    wpP Try.prog 3 avs (.bool true) := by
  have hp : Try.f3.params.toList = [9, 3, 3] := by rw [Try.params3]
  rw [hp] at h hs
  obtain ⟨v0, _, d0, _, rfl, rfl, q0, _, h, hs⟩ := h.consW hs
  obtain ⟨v1, _, d1, _, rfl, rfl, q1, _, h, hs⟩ := h.consW hs
  obtain ⟨v2, _, d2, _, rfl, rfl, q2, _, h, hs⟩ := h.consW hs
  obtain ⟨rfl, rfl⟩ := h.nil
  obtain ⟨s, rfl, hsl⟩ := (q0 (by kernel_rfl)).str Try.underlying9
  obtain ⟨a, rfl, w1⟩ := (q1 (by kernel_rfl)).int Try.underlying3
  obtain ⟨l, rfl, w2⟩ := (q2 (by kernel_rfl)).int Try.underlying3
  refine f3_places s a l hsl ?_
  simp [Lit.wf, IntKind.min, IntKind.max, IntKind.signed, IntKind.bits] at w2
  omega
end
end Go.Proofs.Ytlalbjkdlkhjiaa.Am.L
