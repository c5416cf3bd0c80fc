/- The law WireFrames answers true. -/
import Derived.Test.YtindglcpailjgaaDoorW9
namespace Go.Proofs.YtindglcpailjgaaDoor.Am.W
set_option linter.unusedSectionVars false
open Go Go.Proofs Am
set_option linter.unusedVariables false
set_option linter.unusedSimpArgs false
set_option maxRecDepth 100000
attribute [local irreducible] gO gN gW gdO

theorem f26_same (f : Fr) (hd : f.data.length ≤ 9223372036854775806) : wpP Tryd.prog 26 [f.av, f.av] (.bool true) := by
  refine wpP_intro ?_
  refine wpH_intro (fn := Tryd.f26) rfl rfl (by decide) (by kernel_rfl) fun K' hK' => ?_
  repeat' (first | refine wpL_seq ?_ | refine wpL_skip ?_ | refine wpL_label ?_ | refine wpL_scope ?_)
  refine wpL_region' [2, 3] fun q hq => ?_
  simp -implicitDefEqProofs (disch := omega) only [go_sem, Int.reduceEq, Int.reduceLT, Int.reduceLE, Int.reduceToNat, Int.reduceNeg, Int.reduceAdd, Int.reduceSub, Nat.reduceEqDiff, Nat.reduceAdd, Nat.reduceMul, Nat.reduceLeDiff, Nat.reduceSub, ↓reduceIte, reduceCtorEq, Fr.av, Fr.cells]
  repeat (refine And.intro (by omega) ?_)
  refine gN_new fun b2 hb2 => ?_
  try simp only [newIn_put, newIn_upd] at hb2
  simp -implicitDefEqProofs (disch := omega) only [go_sem, Int.reduceEq, Int.reduceLT, Int.reduceLE, Int.reduceToNat, Int.reduceNeg, Int.reduceAdd, Int.reduceSub, Nat.reduceEqDiff, Nat.reduceAdd, Nat.reduceMul, Nat.reduceLeDiff, Nat.reduceSub, ↓reduceIte, reduceCtorEq, Fr.av, Fr.cells, hb2]
  repeat (refine And.intro (by omega) ?_)
  refine gN_new fun b3 hb3 => ?_
  try simp only [newIn_put, newIn_upd] at hb3
  simp -implicitDefEqProofs (disch := omega) only [go_sem, Int.reduceEq, Int.reduceLT, Int.reduceLE, Int.reduceToNat, Int.reduceNeg, Int.reduceAdd, Int.reduceSub, Nat.reduceEqDiff, Nat.reduceAdd, Nat.reduceMul, Nat.reduceLeDiff, Nat.reduceSub, ↓reduceIte, reduceCtorEq, Fr.av, Fr.cells, hb2, hb3]
  repeat (refine And.intro (by omega) ?_)
  refine hq _ _ _ (by simp only [pickL, lk_cons, Int.reduceEq, Int.reduceLT, Int.reduceLE, Int.reduceToNat, Int.reduceNeg, Int.reduceAdd, Int.reduceSub, Nat.reduceEqDiff, Nat.reduceAdd, Nat.reduceMul, Nat.reduceLeDiff, Nat.reduceSub, ↓reduceIte, reduceCtorEq, if_true, if_false]; exact rfl) ?_
  clear hq q
  refine wpL_frzP' 2 rfl (by simp only [go_sem, hb2, hb2, hb3]; exact rfl) rfl (by simp only [go_sem, Int.reduceEq, Int.reduceLT, Int.reduceLE, Int.reduceToNat, Int.reduceNeg, Int.reduceAdd, Int.reduceSub, Nat.reduceEqDiff, Nat.reduceAdd, Nat.reduceMul, Nat.reduceLeDiff, Nat.reduceSub, ↓reduceIte, reduceCtorEq]; exact rfl) (by simp only [go_sem, hb2, hb2, hb3]; exact rfl) ?_
  refine wpL_frzP' 3 rfl (by simp only [go_sem, hb3, hb2, hb3]; exact rfl) rfl (by simp only [go_sem, Int.reduceEq, Int.reduceLT, Int.reduceLE, Int.reduceToNat, Int.reduceNeg, Int.reduceAdd, Int.reduceSub, Nat.reduceEqDiff, Nat.reduceAdd, Nat.reduceMul, Nat.reduceLeDiff, Nat.reduceSub, ↓reduceIte, reduceCtorEq]; exact rfl) (by simp only [go_sem, hb3, hb2, hb3]; exact rfl) ?_
  repeat' (first | refine wpL_seq ?_ | refine wpL_skip ?_ | refine wpL_label ?_ | refine wpL_scope ?_)
  refine wpL_regV [] 4 (.bool true) (by simp only [pickL, put, lk_cons, Int.reduceEq, Int.reduceLT, Int.reduceLE, Int.reduceToNat, Int.reduceNeg, Int.reduceAdd, Int.reduceSub, Nat.reduceEqDiff, Nat.reduceAdd, Nat.reduceMul, Nat.reduceLeDiff, Nat.reduceSub, ↓reduceIte, reduceCtorEq, if_true, if_false]; exact rfl) (by decide) ?_ ?_
  · simp -implicitDefEqProofs (disch := omega) only [go_sem, Int.reduceEq, Int.reduceLT, Int.reduceLE, Int.reduceToNat, Int.reduceNeg, Int.reduceAdd, Int.reduceSub, Nat.reduceEqDiff, Nat.reduceAdd, Nat.reduceMul, Nat.reduceLeDiff, Nat.reduceSub, ↓reduceIte, reduceCtorEq, decide_true, eq_self, hb2, hb3]
    repeat' (first | (refine gN_split2 (fun hs => ?_) (fun hs => ?_) <;> simp -implicitDefEqProofs (disch := omega) only [go_sem, Int.reduceEq, Int.reduceLT, Int.reduceLE, Int.reduceToNat, Int.reduceNeg, Int.reduceAdd, Int.reduceSub, Nat.reduceEqDiff, Nat.reduceAdd, Nat.reduceMul, Nat.reduceLeDiff, Nat.reduceSub, ↓reduceIte, reduceCtorEq, hs, decide_true, eq_self, hb2, hb3]) | refine gN_callP (f17_bytes f.data f.data hd hd) ?_ | simp -implicitDefEqProofs (disch := omega) only [go_sem, Int.reduceEq, Int.reduceLT, Int.reduceLE, Int.reduceToNat, Int.reduceNeg, Int.reduceAdd, Int.reduceSub, Nat.reduceEqDiff, Nat.reduceAdd, Nat.reduceMul, Nat.reduceLeDiff, Nat.reduceSub, ↓reduceIte, reduceCtorEq, decide_true, eq_self, hb2, hb3] | refine And.intro (by omega) ?_)
    all_goals (try clear hK')
    all_goals (simp)
  repeat' (first | refine wpL_seq ?_ | refine wpL_skip ?_ | refine wpL_label ?_ | refine wpL_scope ?_)
  refine wpL_ret (hK' _ _ _ _ (.inr rfl) (resTo (rs' := [.tmp 4]) rfl (by simp only [go_sem, Int.reduceEq, Int.reduceLT, Int.reduceLE, Int.reduceToNat, Int.reduceNeg, Int.reduceAdd, Int.reduceSub, Nat.reduceEqDiff, Nat.reduceAdd, Nat.reduceMul, Nat.reduceLeDiff, Nat.reduceSub, ↓reduceIte, reduceCtorEq, hb2, hb3]; exact rfl)) ?_)
  rfl

theorem Fr.bytes_len (f : Fr) : f.bytes.length ≤ 600 := by
  unfold Fr.bytes
  split
  · rename_i h
    have := stuff_len f.inner
    have := f.inner_len
    obtain ⟨h1, h2, h3, h4, h5⟩ := f.ok_iff.1 h
    simp; omega
  · simp
theorem readF_len (l : List UInt8) : (readF l).1.data.length ≤ 300 := by
  unfold readF
  split
  · simp [Fr.zero]
  · unfold readIn
    split
    · simp [Fr.zero]
    · rename_i h
      simp only
      split
      · split
        · rename_i c data hc
          have h2 := congrArg List.length hc
          unfold readFr
          simp at h2 ⊢
          split <;> (try split) <;> (try split) <;> simp [Fr.zero] <;> omega
        · simp [Fr.zero]
      · simp [Fr.zero]

theorem f4_frames (f : Fr) (b : List UInt8) (hr : FrR f) (hb : b.length ≤ 140737488351232) : wpP Tryd.prog 4 [f.av, .rs 1 (b.map by1)] (.bool true) := by
  have hF := f.bytes_len
  have hU := readF_len b
  have hd := hr.d
  refine wpP_intro ?_
  refine wpH_intro (fn := Tryd.f4) rfl rfl (by decide) (by kernel_rfl) fun K' hK' => ?_
  repeat' (first | refine wpL_seq ?_ | refine wpL_skip ?_ | refine wpL_label ?_ | refine wpL_scope ?_)
  refine wpL_region' [1, 2] fun q hq => ?_
  simp -implicitDefEqProofs (disch := omega) only [go_sem, Int.reduceEq, Int.reduceLT, Int.reduceLE, Int.reduceToNat, Int.reduceNeg, Int.reduceAdd, Int.reduceSub, Nat.reduceEqDiff, Nat.reduceAdd, Nat.reduceMul, Nat.reduceLeDiff, Nat.reduceSub, ↓reduceIte, reduceCtorEq, Fr.av, Fr.cells]
  repeat (refine And.intro (by omega) ?_)
  refine gN_new fun b2 hb2 => ?_
  try simp only [newIn_put, newIn_upd] at hb2
  simp -implicitDefEqProofs (disch := omega) only [go_sem, Int.reduceEq, Int.reduceLT, Int.reduceLE, Int.reduceToNat, Int.reduceNeg, Int.reduceAdd, Int.reduceSub, Nat.reduceEqDiff, Nat.reduceAdd, Nat.reduceMul, Nat.reduceLeDiff, Nat.reduceSub, ↓reduceIte, reduceCtorEq, Fr.av, Fr.cells, hb2]
  repeat (refine And.intro (by omega) ?_)
  refine hq _ _ _ (by simp only [pickL, lk_cons, Int.reduceEq, Int.reduceLT, Int.reduceLE, Int.reduceToNat, Int.reduceNeg, Int.reduceAdd, Int.reduceSub, Nat.reduceEqDiff, Nat.reduceAdd, Nat.reduceMul, Nat.reduceLeDiff, Nat.reduceSub, ↓reduceIte, reduceCtorEq, if_true, if_false]; exact rfl) ?_
  clear hq q
  refine wpL_frzP' 2 rfl (by simp only [go_sem, hb2, hb2]; exact rfl) rfl (by simp only [go_sem, Int.reduceEq, Int.reduceLT, Int.reduceLE, Int.reduceToNat, Int.reduceNeg, Int.reduceAdd, Int.reduceSub, Nat.reduceEqDiff, Nat.reduceAdd, Nat.reduceMul, Nat.reduceLeDiff, Nat.reduceSub, ↓reduceIte, reduceCtorEq]; exact rfl) (by simp only [go_sem, hb2, hb2]; exact rfl) ?_
  repeat' (first | refine wpL_seq ?_ | refine wpL_skip ?_ | refine wpL_label ?_ | refine wpL_scope ?_)
  refine wpL_region' [1, 2, 5] fun q hq => ?_
  simp -implicitDefEqProofs (disch := omega) only [go_sem, Int.reduceEq, Int.reduceLT, Int.reduceLE, Int.reduceToNat, Int.reduceNeg, Int.reduceAdd, Int.reduceSub, Nat.reduceEqDiff, Nat.reduceAdd, Nat.reduceMul, Nat.reduceLeDiff, Nat.reduceSub, ↓reduceIte, reduceCtorEq, hb2]
  repeat (refine And.intro (by omega) ?_)
  refine gN_ownF (f10_padded f.data (by omega)) fun bf hbf => ?_
  simp -implicitDefEqProofs (disch := omega) only [go_sem, Int.reduceEq, Int.reduceLT, Int.reduceLE, Int.reduceToNat, Int.reduceNeg, Int.reduceAdd, Int.reduceSub, Nat.reduceEqDiff, Nat.reduceAdd, Nat.reduceMul, Nat.reduceLeDiff, Nat.reduceSub, ↓reduceIte, reduceCtorEq, hb2, hbf]
  repeat (refine And.intro (by omega) ?_)
  refine hq _ _ _ (by simp only [pickL, lk_cons, Int.reduceEq, Int.reduceLT, Int.reduceLE, Int.reduceToNat, Int.reduceNeg, Int.reduceAdd, Int.reduceSub, Nat.reduceEqDiff, Nat.reduceAdd, Nat.reduceMul, Nat.reduceLeDiff, Nat.reduceSub, ↓reduceIte, reduceCtorEq, if_true, if_false]; exact rfl) ?_
  clear hq q
  repeat' (first | refine wpL_seq ?_ | refine wpL_skip ?_ | refine wpL_label ?_ | refine wpL_scope ?_)
  refine wpL_region' [1, 2, 5, 6] fun q hq => ?_
  simp -implicitDefEqProofs (disch := omega) only [go_sem, Int.reduceEq, Int.reduceLT, Int.reduceLE, Int.reduceToNat, Int.reduceNeg, Int.reduceAdd, Int.reduceSub, Nat.reduceEqDiff, Nat.reduceAdd, Nat.reduceMul, Nat.reduceLeDiff, Nat.reduceSub, ↓reduceIte, reduceCtorEq, hb2, hbf]
  repeat (refine And.intro (by omega) ?_)
  refine gN_new fun b6 hb6 => ?_
  try simp only [newIn_put, newIn_upd] at hb6
  simp -implicitDefEqProofs (disch := omega) only [go_sem, Int.reduceEq, Int.reduceLT, Int.reduceLE, Int.reduceToNat, Int.reduceNeg, Int.reduceAdd, Int.reduceSub, Nat.reduceEqDiff, Nat.reduceAdd, Nat.reduceMul, Nat.reduceLeDiff, Nat.reduceSub, ↓reduceIte, reduceCtorEq, hb2, hbf, hb6]
  repeat (refine And.intro (by omega) ?_)
  refine hq _ _ _ (by simp only [pickL, lk_cons, Int.reduceEq, Int.reduceLT, Int.reduceLE, Int.reduceToNat, Int.reduceNeg, Int.reduceAdd, Int.reduceSub, Nat.reduceEqDiff, Nat.reduceAdd, Nat.reduceMul, Nat.reduceLeDiff, Nat.reduceSub, ↓reduceIte, reduceCtorEq, if_true, if_false]; exact rfl) ?_
  clear hq q
  repeat' (first | refine wpL_seq ?_ | refine wpL_skip ?_ | refine wpL_label ?_ | refine wpL_scope ?_)
  refine wpL_region' [1, 2, 5, 6] fun q hq => ?_
  simp -implicitDefEqProofs (disch := omega) only [go_sem, Int.reduceEq, Int.reduceLT, Int.reduceLE, Int.reduceToNat, Int.reduceNeg, Int.reduceAdd, Int.reduceSub, Nat.reduceEqDiff, Nat.reduceAdd, Nat.reduceMul, Nat.reduceLeDiff, Nat.reduceSub, ↓reduceIte, reduceCtorEq, List.length_map, Nat.sub_zero, hb2, hbf, hb6]
  repeat (refine And.intro (by omega) ?_)
  refine hq _ _ _ (by simp only [pickL, lk_cons, Int.reduceEq, Int.reduceLT, Int.reduceLE, Int.reduceToNat, Int.reduceNeg, Int.reduceAdd, Int.reduceSub, Nat.reduceEqDiff, Nat.reduceAdd, Nat.reduceMul, Nat.reduceLeDiff, Nat.reduceSub, ↓reduceIte, reduceCtorEq, if_true, if_false]; exact rfl) ?_
  clear hq q
  repeat' (first | refine wpL_seq ?_ | refine wpL_skip ?_ | refine wpL_label ?_ | refine wpL_scope ?_)
  refine wpL_region' [1, 2, 5, 6, 7, 8] fun q hq => ?_
  simp -implicitDefEqProofs (disch := omega) only [go_sem, Int.reduceEq, Int.reduceLT, Int.reduceLE, Int.reduceToNat, Int.reduceNeg, Int.reduceAdd, Int.reduceSub, Nat.reduceEqDiff, Nat.reduceAdd, Nat.reduceMul, Nat.reduceLeDiff, Nat.reduceSub, ↓reduceIte, reduceCtorEq, hb2, hbf, hb6]
  repeat (refine And.intro (by omega) ?_)
  refine gN_ownF (f22_frame f hr) fun bv hbv => ?_
  simp only [go_sem, hbf, hb6] at hbv
  simp -implicitDefEqProofs (disch := omega) only [go_sem, Int.reduceEq, Int.reduceLT, Int.reduceLE, Int.reduceToNat, Int.reduceNeg, Int.reduceAdd, Int.reduceSub, Nat.reduceEqDiff, Nat.reduceAdd, Nat.reduceMul, Nat.reduceLeDiff, Nat.reduceSub, ↓reduceIte, reduceCtorEq, hb2, hbf, hb6, hbv]
  repeat (refine And.intro (by omega) ?_)
  refine hq _ _ _ (by simp only [pickL, lk_cons, Int.reduceEq, Int.reduceLT, Int.reduceLE, Int.reduceToNat, Int.reduceNeg, Int.reduceAdd, Int.reduceSub, Nat.reduceEqDiff, Nat.reduceAdd, Nat.reduceMul, Nat.reduceLeDiff, Nat.reduceSub, ↓reduceIte, reduceCtorEq, if_true, if_false]; exact rfl) ?_
  clear hq q
  refine frzB 7 f.bytes rfl (by simp only [go_sem, hbf, hb6, hbv] <;> exact rfl) rfl (by simp only [setL] <;> exact rfl) (by simp only [go_sem, hbf, hb6, hbv] <;> exact rfl) ?_
  repeat' (first | refine wpL_seq ?_ | refine wpL_skip ?_ | refine wpL_label ?_ | refine wpL_scope ?_)
  refine wpL_region' [1, 2, 5, 6, 7, 8, 9, 10] fun q hq => ?_
  simp -implicitDefEqProofs (disch := omega) only [go_sem, Int.reduceEq, Int.reduceLT, Int.reduceLE, Int.reduceToNat, Int.reduceNeg, Int.reduceAdd, Int.reduceSub, Nat.reduceEqDiff, Nat.reduceAdd, Nat.reduceMul, Nat.reduceLeDiff, Nat.reduceSub, ↓reduceIte, reduceCtorEq, hbf, hb6, hbv, hb2, hbf, hb6, hbv]
  repeat (refine And.intro (by omega) ?_)
  refine gN_brwF (.cons (Wk.aggL (.cons (.refl _) (.cons (.refl _) (.cons (.refl _) (.cons (Wk.bytes (f.data) [] (marks.map byc) (by simp only [go_sem, hbf, hb6, hbv] <;> exact rfl) (by simp) rfl (rfl)) .nil))))) .nil) (f23_frame f hr) (fun _ => rfl) (byc_noIs _) fun bs hbs => ?_
  simp only [go_sem, hbf, hb6, hbv] at hbs
  simp -implicitDefEqProofs (disch := omega) only [go_sem, Int.reduceEq, Int.reduceLT, Int.reduceLE, Int.reduceToNat, Int.reduceNeg, Int.reduceAdd, Int.reduceSub, Nat.reduceEqDiff, Nat.reduceAdd, Nat.reduceMul, Nat.reduceLeDiff, Nat.reduceSub, ↓reduceIte, reduceCtorEq, hbf, hb6, hbv, hb2, hbf, hb6, hbv, hbs]
  repeat (refine And.intro (by omega) ?_)
  refine hq _ _ _ (by simp only [pickL, lk_cons, Int.reduceEq, Int.reduceLT, Int.reduceLE, Int.reduceToNat, Int.reduceNeg, Int.reduceAdd, Int.reduceSub, Nat.reduceEqDiff, Nat.reduceAdd, Nat.reduceMul, Nat.reduceLeDiff, Nat.reduceSub, ↓reduceIte, reduceCtorEq, if_true, if_false]; exact rfl) ?_
  clear hq q
  repeat' (first | refine wpL_seq ?_ | refine wpL_skip ?_ | refine wpL_label ?_ | refine wpL_scope ?_)
  refine wpL_region' [1, 2, 5, 6, 7, 8, 9, 51] fun q hq => ?_
  simp -implicitDefEqProofs (disch := omega) only [go_sem, Int.reduceEq, Int.reduceLT, Int.reduceLE, Int.reduceToNat, Int.reduceNeg, Int.reduceAdd, Int.reduceSub, Nat.reduceEqDiff, Nat.reduceAdd, Nat.reduceMul, Nat.reduceLeDiff, Nat.reduceSub, ↓reduceIte, reduceCtorEq, decide_true, eq_self, Bool.not_true, Bool.not_false, hbf, hb6, hbv, hbs, hb2, hbf, hb6, hbv, hbs]
  refine gN_brw (.cons (Wk.bytes (f.bytes) [] ([]) (by simp only [go_sem, hbf, hb6, hbv, hbs] <;> exact rfl) (by simp) rfl (rfl)) (.keep .nil)) (f17_bytes (f.bytes) (f.bytes) (by omega) (by omega)) rfl ?_
  simp -implicitDefEqProofs (disch := omega) only [go_sem, Int.reduceEq, Int.reduceLT, Int.reduceLE, Int.reduceToNat, Int.reduceNeg, Int.reduceAdd, Int.reduceSub, Nat.reduceEqDiff, Nat.reduceAdd, Nat.reduceMul, Nat.reduceLeDiff, Nat.reduceSub, ↓reduceIte, reduceCtorEq, decide_true, eq_self, Bool.not_true, Bool.not_false, hbf, hb6, hbv, hbs, hb2, hbf, hb6, hbv, hbs]
  refine gN_brw (.cons (Wk.bytes (f.data ++ marks) [] ([]) (by simp only [go_sem, hbf, hb6, hbv, hbs] <;> exact rfl) (by simp) rfl (by simp)) (.keep .nil)) (f18_whole f.data (by omega)) rfl ?_
  simp -implicitDefEqProofs (disch := omega) only [go_sem, Int.reduceEq, Int.reduceLT, Int.reduceLE, Int.reduceToNat, Int.reduceNeg, Int.reduceAdd, Int.reduceSub, Nat.reduceEqDiff, Nat.reduceAdd, Nat.reduceMul, Nat.reduceLeDiff, Nat.reduceSub, ↓reduceIte, reduceCtorEq, decide_true, eq_self, Bool.not_true, Bool.not_false, hbf, hb6, hbv, hbs, hb2, hbf, hb6, hbv, hbs]
  refine hq _ _ _ (by simp only [pickL, lk_cons, Int.reduceEq, Int.reduceLT, Int.reduceLE, Int.reduceToNat, Int.reduceNeg, Int.reduceAdd, Int.reduceSub, Nat.reduceEqDiff, Nat.reduceAdd, Nat.reduceMul, Nat.reduceLeDiff, Nat.reduceSub, ↓reduceIte, reduceCtorEq, if_true, if_false]; exact rfl) ?_
  clear hq q
  repeat' (first | refine wpL_seq ?_ | refine wpL_skip ?_ | refine wpL_label ?_ | refine wpL_scope ?_)
  refine wpL_cond rfl (fun hc1 => ?_) (fun hc1 => ?_)
  · cases hc1
  clear hc1
  repeat' (first | refine wpL_seq ?_ | refine wpL_skip ?_ | refine wpL_label ?_ | refine wpL_scope ?_)
  refine wpL_region' [1, 2, 5, 6, 7, 8, 11] fun q hq => ?_
  simp -implicitDefEqProofs (disch := omega) only [go_sem, Int.reduceEq, Int.reduceLT, Int.reduceLE, Int.reduceToNat, Int.reduceNeg, Int.reduceAdd, Int.reduceSub, Nat.reduceEqDiff, Nat.reduceAdd, Nat.reduceMul, Nat.reduceLeDiff, Nat.reduceSub, ↓reduceIte, reduceCtorEq, hbf, hb6, hbv, hbs, hb2, hbf, hb6, hbv, hbs]
  repeat (refine And.intro (by omega) ?_)
  refine gN_callH (f19_spoil _ bs (f.bytes) 33 (by simp only [go_sem, hbf, hb6, hbv, hbs] <;> exact rfl) (by omega)) ?_
  rintro _ _ ⟨g1, A1, hg1, rfl, rfl⟩
  simp only [go_sem, hbf, hb6, hbv, hbs] at hg1
  simp -implicitDefEqProofs (disch := omega) only [go_sem, Int.reduceEq, Int.reduceLT, Int.reduceLE, Int.reduceToNat, Int.reduceNeg, Int.reduceAdd, Int.reduceSub, Nat.reduceEqDiff, Nat.reduceAdd, Nat.reduceMul, Nat.reduceLeDiff, Nat.reduceSub, ↓reduceIte, reduceCtorEq, hbf, hb6, hbv, hbs, hb2, hbf, hb6, hbv, hbs, hg1]
  repeat (refine And.intro (by omega) ?_)
  refine gN_new fun b11 hb11 => ?_
  try simp only [newIn_put, newIn_upd] at hb11
  simp -implicitDefEqProofs (disch := omega) only [go_sem, Int.reduceEq, Int.reduceLT, Int.reduceLE, Int.reduceToNat, Int.reduceNeg, Int.reduceAdd, Int.reduceSub, Nat.reduceEqDiff, Nat.reduceAdd, Nat.reduceMul, Nat.reduceLeDiff, Nat.reduceSub, ↓reduceIte, reduceCtorEq, hbf, hb6, hbv, hbs, hb2, hbf, hb6, hbv, hbs, hg1, hb11]
  repeat (refine And.intro (by omega) ?_)
  refine hq _ _ _ (by simp only [pickL, lk_cons, Int.reduceEq, Int.reduceLT, Int.reduceLE, Int.reduceToNat, Int.reduceNeg, Int.reduceAdd, Int.reduceSub, Nat.reduceEqDiff, Nat.reduceAdd, Nat.reduceMul, Nat.reduceLeDiff, Nat.reduceSub, ↓reduceIte, reduceCtorEq, if_true, if_false]; exact rfl) ?_
  clear hq q
  refine wpL_frzP' 11 rfl (by simp only [go_sem, hb2, hbf, hb6, hbv, hbs, hg1, hb11]; exact rfl) rfl (by simp only [go_sem, Int.reduceEq, Int.reduceLT, Int.reduceLE, Int.reduceToNat, Int.reduceNeg, Int.reduceAdd, Int.reduceSub, Nat.reduceEqDiff, Nat.reduceAdd, Nat.reduceMul, Nat.reduceLeDiff, Nat.reduceSub, ↓reduceIte, reduceCtorEq]; exact rfl) (by simp only [go_sem, hb2, hbf, hb6, hbv, hbs, hg1, hb11]; exact rfl) ?_
  repeat' (first | refine wpL_seq ?_ | refine wpL_skip ?_ | refine wpL_label ?_ | refine wpL_scope ?_)
  refine wpL_region' [1, 2, 5, 6, 7, 8, 9, 10, 11] fun q hq => ?_
  simp -implicitDefEqProofs (disch := omega) only [go_sem, Int.reduceEq, Int.reduceLT, Int.reduceLE, Int.reduceToNat, Int.reduceNeg, Int.reduceAdd, Int.reduceSub, Nat.reduceEqDiff, Nat.reduceAdd, Nat.reduceMul, Nat.reduceLeDiff, Nat.reduceSub, ↓reduceIte, reduceCtorEq, hbf, hb6, hbv, hbs, hg1, hb2, hbf, hb6, hbv, hbs, hg1, hb11]
  repeat (refine And.intro (by omega) ?_)
  refine gN_brwF (.cons (Wk.aggL (.cons (.refl _) (.cons (.refl _) (.cons (.refl _) (.cons (Wk.bytes (f.data) [] (marks.map byc) (by simp only [go_sem, hbf, hb6, hbv, hbs, hg1] <;> exact rfl) (by simp) rfl (rfl)) .nil))))) .nil) (f23_frame f hr) (fun _ => rfl) (byc_noIs _) fun bs2 hbs2 => ?_
  simp only [go_sem, hbf, hb6, hbv, hbs, hg1] at hbs2
  simp -implicitDefEqProofs (disch := omega) only [go_sem, Int.reduceEq, Int.reduceLT, Int.reduceLE, Int.reduceToNat, Int.reduceNeg, Int.reduceAdd, Int.reduceSub, Nat.reduceEqDiff, Nat.reduceAdd, Nat.reduceMul, Nat.reduceLeDiff, Nat.reduceSub, ↓reduceIte, reduceCtorEq, hbf, hb6, hbv, hbs, hg1, hb2, hbf, hb6, hbv, hbs, hg1, hb11, hbs2]
  repeat (refine And.intro (by omega) ?_)
  refine hq _ _ _ (by simp only [pickL, lk_cons, Int.reduceEq, Int.reduceLT, Int.reduceLE, Int.reduceToNat, Int.reduceNeg, Int.reduceAdd, Int.reduceSub, Nat.reduceEqDiff, Nat.reduceAdd, Nat.reduceMul, Nat.reduceLeDiff, Nat.reduceSub, ↓reduceIte, reduceCtorEq, if_true, if_false]; exact rfl) ?_
  clear hq q
  repeat' (first | refine wpL_seq ?_ | refine wpL_skip ?_ | refine wpL_label ?_ | refine wpL_scope ?_)
  refine wpL_region' [1, 6, 7, 9, 11, 68] fun q hq => ?_
  simp -implicitDefEqProofs (disch := omega) only [go_sem, Int.reduceEq, Int.reduceLT, Int.reduceLE, Int.reduceToNat, Int.reduceNeg, Int.reduceAdd, Int.reduceSub, Nat.reduceEqDiff, Nat.reduceAdd, Nat.reduceMul, Nat.reduceLeDiff, Nat.reduceSub, ↓reduceIte, reduceCtorEq, decide_true, eq_self, Bool.not_true, Bool.not_false, hbf, hb6, hbv, hbs, hg1, hbs2, hb2, hbf, hb6, hbv, hbs, hg1, hb11, hbs2]
  refine gN_brw (.cons (Wk.bytes (f.data ++ marks) [] ([]) (by simp only [go_sem, hbf, hb6, hbv, hbs, hg1, hbs2] <;> exact rfl) (by simp) rfl (by simp)) (.keep .nil)) (f18_whole f.data (by omega)) rfl ?_
  simp -implicitDefEqProofs (disch := omega) only [go_sem, Int.reduceEq, Int.reduceLT, Int.reduceLE, Int.reduceToNat, Int.reduceNeg, Int.reduceAdd, Int.reduceSub, Nat.reduceEqDiff, Nat.reduceAdd, Nat.reduceMul, Nat.reduceLeDiff, Nat.reduceSub, ↓reduceIte, reduceCtorEq, decide_true, eq_self, Bool.not_true, Bool.not_false, hbf, hb6, hbv, hbs, hg1, hbs2, hb2, hbf, hb6, hbv, hbs, hg1, hb11, hbs2]
  refine hq _ _ _ (by simp only [pickL, lk_cons, Int.reduceEq, Int.reduceLT, Int.reduceLE, Int.reduceToNat, Int.reduceNeg, Int.reduceAdd, Int.reduceSub, Nat.reduceEqDiff, Nat.reduceAdd, Nat.reduceMul, Nat.reduceLeDiff, Nat.reduceSub, ↓reduceIte, reduceCtorEq, if_true, if_false]; exact rfl) ?_
  clear hq q
  repeat' (first | refine wpL_seq ?_ | refine wpL_skip ?_ | refine wpL_label ?_ | refine wpL_scope ?_)
  refine wpL_cond rfl (fun hc2 => ?_) (fun hc2 => ?_)
  · cases hc2
  clear hc2
  repeat' (first | refine wpL_seq ?_ | refine wpL_skip ?_ | refine wpL_label ?_ | refine wpL_scope ?_)
  refine wpL_region' [1, 7, 9, 11] fun q hq => ?_
  simp -implicitDefEqProofs (disch := omega) only [go_sem, Int.reduceEq, Int.reduceLT, Int.reduceLE, Int.reduceToNat, Int.reduceNeg, Int.reduceAdd, Int.reduceSub, Nat.reduceEqDiff, Nat.reduceAdd, Nat.reduceMul, Nat.reduceLeDiff, Nat.reduceSub, ↓reduceIte, reduceCtorEq, hbf, hb6, hbv, hbs, hg1, hbs2, hb2, hbf, hb6, hbv, hbs, hg1, hb11, hbs2]
  repeat (refine And.intro (by omega) ?_)
  refine gN_callH (f20_blot _ bf f.data marks (by simp only [go_sem, hbf, hb6, hbv, hbs, hg1, hbs2] <;> exact rfl) (by omega)) ?_
  rintro _ _ ⟨rfl, rfl⟩
  simp -implicitDefEqProofs (disch := omega) only [go_sem, Int.reduceEq, Int.reduceLT, Int.reduceLE, Int.reduceToNat, Int.reduceNeg, Int.reduceAdd, Int.reduceSub, Nat.reduceEqDiff, Nat.reduceAdd, Nat.reduceMul, Nat.reduceLeDiff, Nat.reduceSub, ↓reduceIte, reduceCtorEq, hbf, hb6, hbv, hbs, hg1, hbs2, hb2, hbf, hb6, hbv, hbs, hg1, hb11, hbs2]
  repeat (refine And.intro (by omega) ?_)
  refine hq _ _ _ (by simp only [pickL, lk_cons, Int.reduceEq, Int.reduceLT, Int.reduceLE, Int.reduceToNat, Int.reduceNeg, Int.reduceAdd, Int.reduceSub, Nat.reduceEqDiff, Nat.reduceAdd, Nat.reduceMul, Nat.reduceLeDiff, Nat.reduceSub, ↓reduceIte, reduceCtorEq, if_true, if_false]; exact rfl) ?_
  clear hq q
  repeat' (first | refine wpL_seq ?_ | refine wpL_skip ?_ | refine wpL_label ?_ | refine wpL_scope ?_)
  refine wpL_region' [1, 7, 9, 11, 75] fun q hq => ?_
  simp -implicitDefEqProofs (disch := omega) only [go_sem, Int.reduceEq, Int.reduceLT, Int.reduceLE, Int.reduceToNat, Int.reduceNeg, Int.reduceAdd, Int.reduceSub, Nat.reduceEqDiff, Nat.reduceAdd, Nat.reduceMul, Nat.reduceLeDiff, Nat.reduceSub, ↓reduceIte, reduceCtorEq, decide_true, eq_self, Bool.not_true, Bool.not_false, hbf, hb6, hbv, hbs, hg1, hbs2, hb2, hbf, hb6, hbv, hbs, hg1, hb11, hbs2]
  repeat (refine And.intro (by omega) ?_)
  refine gN_brw (.cons (Wk.bytes (f.bytes) [] ([]) (by simp only [go_sem, hbf, hb6, hbv, hbs, hg1, hbs2] <;> exact rfl) (by simp) rfl (rfl)) (.keep .nil)) (f17_bytes f.bytes f.bytes (by omega) (by omega)) rfl ?_
  simp -implicitDefEqProofs (disch := omega) only [go_sem, Int.reduceEq, Int.reduceLT, Int.reduceLE, Int.reduceToNat, Int.reduceNeg, Int.reduceAdd, Int.reduceSub, Nat.reduceEqDiff, Nat.reduceAdd, Nat.reduceMul, Nat.reduceLeDiff, Nat.reduceSub, ↓reduceIte, reduceCtorEq, decide_true, eq_self, Bool.not_true, Bool.not_false, hbf, hb6, hbv, hbs, hg1, hbs2, hb2, hbf, hb6, hbv, hbs, hg1, hb11, hbs2]
  repeat (refine And.intro (by omega) ?_)
  refine hq _ _ _ (by simp only [pickL, lk_cons, Int.reduceEq, Int.reduceLT, Int.reduceLE, Int.reduceToNat, Int.reduceNeg, Int.reduceAdd, Int.reduceSub, Nat.reduceEqDiff, Nat.reduceAdd, Nat.reduceMul, Nat.reduceLeDiff, Nat.reduceSub, ↓reduceIte, reduceCtorEq, if_true, if_false]; exact rfl) ?_
  clear hq q
  repeat' (first | refine wpL_seq ?_ | refine wpL_skip ?_ | refine wpL_label ?_ | refine wpL_scope ?_)
  refine wpL_cond rfl (fun hc3 => ?_) (fun hc3 => ?_)
  · cases hc3
  clear hc3
  repeat' (first | refine wpL_seq ?_ | refine wpL_skip ?_ | refine wpL_label ?_ | refine wpL_scope ?_)
  refine wpL_region' [1, 7, 9, 11, 12] fun q hq => ?_
  simp -implicitDefEqProofs (disch := omega) only [go_sem, Int.reduceEq, Int.reduceLT, Int.reduceLE, Int.reduceToNat, Int.reduceNeg, Int.reduceAdd, Int.reduceSub, Nat.reduceEqDiff, Nat.reduceAdd, Nat.reduceMul, Nat.reduceLeDiff, Nat.reduceSub, ↓reduceIte, reduceCtorEq, hbf, hb6, hbv, hbs, hg1, hbs2, hb2, hbf, hb6, hbv, hbs, hg1, hb11, hbs2]
  repeat (refine And.intro (by omega) ?_)
  refine gN_ownF (f10_padded b (by omega)) fun bq hbq => ?_
  simp only [go_sem, hbf, hb6, hbv, hbs, hg1, hbs2] at hbq
  simp -implicitDefEqProofs (disch := omega) only [go_sem, Int.reduceEq, Int.reduceLT, Int.reduceLE, Int.reduceToNat, Int.reduceNeg, Int.reduceAdd, Int.reduceSub, Nat.reduceEqDiff, Nat.reduceAdd, Nat.reduceMul, Nat.reduceLeDiff, Nat.reduceSub, ↓reduceIte, reduceCtorEq, hbf, hb6, hbv, hbs, hg1, hbs2, hb2, hbf, hb6, hbv, hbs, hg1, hb11, hbs2, hbq]
  repeat (refine And.intro (by omega) ?_)
  refine hq _ _ _ (by simp only [pickL, lk_cons, Int.reduceEq, Int.reduceLT, Int.reduceLE, Int.reduceToNat, Int.reduceNeg, Int.reduceAdd, Int.reduceSub, Nat.reduceEqDiff, Nat.reduceAdd, Nat.reduceMul, Nat.reduceLeDiff, Nat.reduceSub, ↓reduceIte, reduceCtorEq, if_true, if_false]; exact rfl) ?_
  clear hq q
  repeat' (first | refine wpL_seq ?_ | refine wpL_skip ?_ | refine wpL_label ?_ | refine wpL_scope ?_)
  refine wpL_region' [1, 7, 8, 9, 11, 12, 13] fun q hq => ?_
  simp -implicitDefEqProofs (disch := omega) only [go_sem, Int.reduceEq, Int.reduceLT, Int.reduceLE, Int.reduceToNat, Int.reduceNeg, Int.reduceAdd, Int.reduceSub, Nat.reduceEqDiff, Nat.reduceAdd, Nat.reduceMul, Nat.reduceLeDiff, Nat.reduceSub, ↓reduceIte, reduceCtorEq, hbf, hb6, hbv, hbs, hg1, hbs2, hbq, hb2, hbf, hb6, hbv, hbs, hg1, hb11, hbs2, hbq]
  repeat (refine And.intro (by omega) ?_)
  refine gN_ownF (f24_unframe b hb) fun bu hbu => ?_
  simp only [go_sem, hbf, hb6, hbv, hbs, hg1, hbs2, hbq] at hbu
  simp -implicitDefEqProofs (disch := omega) only [go_sem, Int.reduceEq, Int.reduceLT, Int.reduceLE, Int.reduceToNat, Int.reduceNeg, Int.reduceAdd, Int.reduceSub, Nat.reduceEqDiff, Nat.reduceAdd, Nat.reduceMul, Nat.reduceLeDiff, Nat.reduceSub, ↓reduceIte, reduceCtorEq, hbf, hb6, hbv, hbs, hg1, hbs2, hbq, hb2, hbf, hb6, hbv, hbs, hg1, hb11, hbs2, hbq, hbu]
  repeat (refine And.intro (by omega) ?_)
  refine gN_new fun b13 hb13 => ?_
  try simp only [newIn_put, newIn_upd] at hb13
  simp -implicitDefEqProofs (disch := omega) only [go_sem, Int.reduceEq, Int.reduceLT, Int.reduceLE, Int.reduceToNat, Int.reduceNeg, Int.reduceAdd, Int.reduceSub, Nat.reduceEqDiff, Nat.reduceAdd, Nat.reduceMul, Nat.reduceLeDiff, Nat.reduceSub, ↓reduceIte, reduceCtorEq, hbf, hb6, hbv, hbs, hg1, hbs2, hbq, hb2, hbf, hb6, hbv, hbs, hg1, hb11, hbs2, hbq, hbu, hb13]
  repeat (refine And.intro (by omega) ?_)
  refine hq _ _ _ (by simp only [pickL, lk_cons, Int.reduceEq, Int.reduceLT, Int.reduceLE, Int.reduceToNat, Int.reduceNeg, Int.reduceAdd, Int.reduceSub, Nat.reduceEqDiff, Nat.reduceAdd, Nat.reduceMul, Nat.reduceLeDiff, Nat.reduceSub, ↓reduceIte, reduceCtorEq, if_true, if_false]; exact rfl) ?_
  clear hq q
  repeat' (first | refine wpL_seq ?_ | refine wpL_skip ?_ | refine wpL_label ?_ | refine wpL_scope ?_)
  refine wpL_region' [1, 7, 8, 9, 10, 11, 12, 13, 14] fun q hq => ?_
  simp -implicitDefEqProofs (disch := omega) only [go_sem, Int.reduceEq, Int.reduceLT, Int.reduceLE, Int.reduceToNat, Int.reduceNeg, Int.reduceAdd, Int.reduceSub, Nat.reduceEqDiff, Nat.reduceAdd, Nat.reduceMul, Nat.reduceLeDiff, Nat.reduceSub, ↓reduceIte, reduceCtorEq, hbf, hb6, hbv, hbs, hg1, hbs2, hbq, hbu, hb13, hb2, hbf, hb6, hbv, hbs, hg1, hb11, hbs2, hbq, hbu, hb13]
  repeat (refine And.intro (by omega) ?_)
  refine gN_brwF (.cons (Wk.bytes (b) [] (marks.map byc) (by simp only [go_sem, hbf, hb6, hbv, hbs, hg1, hbs2, hbq, hbu, hb13] <;> exact rfl) (by simp) rfl (rfl)) .nil) (f25_unframe b hb) (fun _ => rfl) (byc_noIs _) fun bw hbw => ?_
  simp only [go_sem, hbf, hb6, hbv, hbs, hg1, hbs2, hbq, hbu, hb13] at hbw
  simp -implicitDefEqProofs (disch := omega) only [go_sem, Int.reduceEq, Int.reduceLT, Int.reduceLE, Int.reduceToNat, Int.reduceNeg, Int.reduceAdd, Int.reduceSub, Nat.reduceEqDiff, Nat.reduceAdd, Nat.reduceMul, Nat.reduceLeDiff, Nat.reduceSub, ↓reduceIte, reduceCtorEq, hbf, hb6, hbv, hbs, hg1, hbs2, hbq, hbu, hb13, hb2, hbf, hb6, hbv, hbs, hg1, hb11, hbs2, hbq, hbu, hb13, hbw]
  repeat (refine And.intro (by omega) ?_)
  refine gN_new fun b14 hb14 => ?_
  try simp only [newIn_put, newIn_upd] at hb14
  simp -implicitDefEqProofs (disch := omega) only [go_sem, Int.reduceEq, Int.reduceLT, Int.reduceLE, Int.reduceToNat, Int.reduceNeg, Int.reduceAdd, Int.reduceSub, Nat.reduceEqDiff, Nat.reduceAdd, Nat.reduceMul, Nat.reduceLeDiff, Nat.reduceSub, ↓reduceIte, reduceCtorEq, hbf, hb6, hbv, hbs, hg1, hbs2, hbq, hbu, hb13, hb2, hbf, hb6, hbv, hbs, hg1, hb11, hbs2, hbq, hbu, hb13, hbw, hb14]
  repeat (refine And.intro (by omega) ?_)
  refine hq _ _ _ (by simp only [pickL, lk_cons, Int.reduceEq, Int.reduceLT, Int.reduceLE, Int.reduceToNat, Int.reduceNeg, Int.reduceAdd, Int.reduceSub, Nat.reduceEqDiff, Nat.reduceAdd, Nat.reduceMul, Nat.reduceLeDiff, Nat.reduceSub, ↓reduceIte, reduceCtorEq, if_true, if_false]; exact rfl) ?_
  clear hq q
  repeat' (first | refine wpL_seq ?_ | refine wpL_skip ?_ | refine wpL_label ?_ | refine wpL_scope ?_)
  refine wpL_region' [1, 7, 8, 9, 11, 12, 13, 14, 105] fun q hq => ?_
  simp -implicitDefEqProofs (disch := omega) only [go_sem, Int.reduceEq, Int.reduceLT, Int.reduceLE, Int.reduceToNat, Int.reduceNeg, Int.reduceAdd, Int.reduceSub, Nat.reduceEqDiff, Nat.reduceAdd, Nat.reduceMul, Nat.reduceLeDiff, Nat.reduceSub, ↓reduceIte, reduceCtorEq, decide_true, eq_self, Bool.not_true, Bool.not_false, hbf, hb6, hbv, hbs, hg1, hbs2, hbq, hbu, hb13, hbw, hb14, hb2, hbf, hb6, hbv, hbs, hg1, hb11, hbs2, hbq, hbu, hb13, hbw, hb14]
  refine gN_brw (.cons (Wk.aggL (.cons (.refl _) (.cons (.refl _) (.cons (.refl _) (.cons (Wk.bytes ((readF b).1.data) [] ([]) (by simp only [go_sem, hbf, hb6, hbv, hbs, hg1, hbs2, hbq, hbu, hb13, hbw, hb14] <;> exact rfl) (by simp) rfl (rfl)) .nil))))) (.cons (Wk.aggL (.cons (.refl _) (.cons (.refl _) (.cons (.refl _) (.cons (Wk.bytes ((readF b).1.data) [] ([]) (by simp only [go_sem, hbf, hb6, hbv, hbs, hg1, hbs2, hbq, hbu, hb13, hbw, hb14] <;> exact rfl) (by simp) rfl (rfl)) .nil))))) .nil)) (f26_same (readF b).1 (by omega)) rfl ?_
  simp -implicitDefEqProofs (disch := omega) only [go_sem, Int.reduceEq, Int.reduceLT, Int.reduceLE, Int.reduceToNat, Int.reduceNeg, Int.reduceAdd, Int.reduceSub, Nat.reduceEqDiff, Nat.reduceAdd, Nat.reduceMul, Nat.reduceLeDiff, Nat.reduceSub, ↓reduceIte, reduceCtorEq, decide_true, eq_self, Bool.not_true, Bool.not_false, hbf, hb6, hbv, hbs, hg1, hbs2, hbq, hbu, hb13, hbw, hb14, hb2, hbf, hb6, hbv, hbs, hg1, hb11, hbs2, hbq, hbu, hb13, hbw, hb14]
  refine gN_brw (.cons (Wk.bytes (b ++ marks) [] ([]) (by simp only [go_sem, hbf, hb6, hbv, hbs, hg1, hbs2, hbq, hbu, hb13, hbw, hb14] <;> exact rfl) (by simp) rfl (by simp)) (.keep .nil)) (f18_whole b (by omega)) rfl ?_
  simp -implicitDefEqProofs (disch := omega) only [go_sem, Int.reduceEq, Int.reduceLT, Int.reduceLE, Int.reduceToNat, Int.reduceNeg, Int.reduceAdd, Int.reduceSub, Nat.reduceEqDiff, Nat.reduceAdd, Nat.reduceMul, Nat.reduceLeDiff, Nat.reduceSub, ↓reduceIte, reduceCtorEq, decide_true, eq_self, Bool.not_true, Bool.not_false, hbf, hb6, hbv, hbs, hg1, hbs2, hbq, hbu, hb13, hbw, hb14, hb2, hbf, hb6, hbv, hbs, hg1, hb11, hbs2, hbq, hbu, hb13, hbw, hb14]
  refine hq _ _ _ (by simp only [pickL, lk_cons, Int.reduceEq, Int.reduceLT, Int.reduceLE, Int.reduceToNat, Int.reduceNeg, Int.reduceAdd, Int.reduceSub, Nat.reduceEqDiff, Nat.reduceAdd, Nat.reduceMul, Nat.reduceLeDiff, Nat.reduceSub, ↓reduceIte, reduceCtorEq, if_true, if_false]; exact rfl) ?_
  clear hq q
  repeat' (first | refine wpL_seq ?_ | refine wpL_skip ?_ | refine wpL_label ?_ | refine wpL_scope ?_)
  refine wpL_cond rfl (fun hc4 => ?_) (fun hc4 => ?_)
  · cases hc4
  clear hc4
  repeat' (first | refine wpL_seq ?_ | refine wpL_skip ?_ | refine wpL_label ?_ | refine wpL_scope ?_)
  refine wpL_region' [1, 7, 8, 9, 11, 12, 13, 14, 15] fun q hq => ?_
  simp -implicitDefEqProofs (disch := omega) only [go_sem, Int.reduceEq, Int.reduceLT, Int.reduceLE, Int.reduceToNat, Int.reduceNeg, Int.reduceAdd, Int.reduceSub, Nat.reduceEqDiff, Nat.reduceAdd, Nat.reduceMul, Nat.reduceLeDiff, Nat.reduceSub, ↓reduceIte, reduceCtorEq, hbf, hb6, hbv, hbs, hg1, hbs2, hbq, hbu, hb13, hbw, hb14, hb2, hbf, hb6, hbv, hbs, hg1, hb11, hbs2, hbq, hbu, hb13, hbw, hb14]
  repeat (refine And.intro (by omega) ?_)
  refine gN_callH (f19_spoil _ bw ((readF b).1.data) 67 (by simp only [go_sem, hbf, hb6, hbv, hbs, hg1, hbs2, hbq, hbu, hb13, hbw, hb14] <;> exact rfl) (by omega)) ?_
  rintro _ _ ⟨g2, A2, hg2, rfl, rfl⟩
  simp only [go_sem, hbf, hb6, hbv, hbs, hg1, hbs2, hbq, hbu, hb13, hbw, hb14] at hg2
  simp -implicitDefEqProofs (disch := omega) only [go_sem, Int.reduceEq, Int.reduceLT, Int.reduceLE, Int.reduceToNat, Int.reduceNeg, Int.reduceAdd, Int.reduceSub, Nat.reduceEqDiff, Nat.reduceAdd, Nat.reduceMul, Nat.reduceLeDiff, Nat.reduceSub, ↓reduceIte, reduceCtorEq, hbf, hb6, hbv, hbs, hg1, hbs2, hbq, hbu, hb13, hbw, hb14, hb2, hbf, hb6, hbv, hbs, hg1, hb11, hbs2, hbq, hbu, hb13, hbw, hb14, hg2]
  repeat (refine And.intro (by omega) ?_)
  refine gN_new fun b15 hb15 => ?_
  try simp only [newIn_put, newIn_upd] at hb15
  simp -implicitDefEqProofs (disch := omega) only [go_sem, Int.reduceEq, Int.reduceLT, Int.reduceLE, Int.reduceToNat, Int.reduceNeg, Int.reduceAdd, Int.reduceSub, Nat.reduceEqDiff, Nat.reduceAdd, Nat.reduceMul, Nat.reduceLeDiff, Nat.reduceSub, ↓reduceIte, reduceCtorEq, hbf, hb6, hbv, hbs, hg1, hbs2, hbq, hbu, hb13, hbw, hb14, hb2, hbf, hb6, hbv, hbs, hg1, hb11, hbs2, hbq, hbu, hb13, hbw, hb14, hg2, hb15]
  repeat (refine And.intro (by omega) ?_)
  refine hq _ _ _ (by simp only [pickL, lk_cons, Int.reduceEq, Int.reduceLT, Int.reduceLE, Int.reduceToNat, Int.reduceNeg, Int.reduceAdd, Int.reduceSub, Nat.reduceEqDiff, Nat.reduceAdd, Nat.reduceMul, Nat.reduceLeDiff, Nat.reduceSub, ↓reduceIte, reduceCtorEq, if_true, if_false]; exact rfl) ?_
  clear hq q
  refine wpL_frzP' 15 rfl (by simp only [go_sem, hb2, hbf, hb6, hbv, hbs, hg1, hb11, hbs2, hbq, hbu, hb13, hbw, hb14, hg2, hb15]; exact rfl) rfl (by simp only [go_sem, Int.reduceEq, Int.reduceLT, Int.reduceLE, Int.reduceToNat, Int.reduceNeg, Int.reduceAdd, Int.reduceSub, Nat.reduceEqDiff, Nat.reduceAdd, Nat.reduceMul, Nat.reduceLeDiff, Nat.reduceSub, ↓reduceIte, reduceCtorEq]; exact rfl) (by simp only [go_sem, hb2, hbf, hb6, hbv, hbs, hg1, hb11, hbs2, hbq, hbu, hb13, hbw, hb14, hg2, hb15]; exact rfl) ?_
  repeat' (first | refine wpL_seq ?_ | refine wpL_skip ?_ | refine wpL_label ?_ | refine wpL_scope ?_)
  refine wpL_region' [1, 7, 8, 9, 10, 11, 12, 13, 14, 15] fun q hq => ?_
  simp -implicitDefEqProofs (disch := omega) only [go_sem, Int.reduceEq, Int.reduceLT, Int.reduceLE, Int.reduceToNat, Int.reduceNeg, Int.reduceAdd, Int.reduceSub, Nat.reduceEqDiff, Nat.reduceAdd, Nat.reduceMul, Nat.reduceLeDiff, Nat.reduceSub, ↓reduceIte, reduceCtorEq, hbf, hb6, hbv, hbs, hg1, hbs2, hbq, hbu, hb13, hbw, hb14, hg2, hb2, hbf, hb6, hbv, hbs, hg1, hb11, hbs2, hbq, hbu, hb13, hbw, hb14, hg2, hb15]
  repeat (refine And.intro (by omega) ?_)
  refine gN_brwF (.cons (Wk.bytes (b) [] (marks.map byc) (by simp only [go_sem, hbf, hb6, hbv, hbs, hg1, hbs2, hbq, hbu, hb13, hbw, hb14, hg2] <;> exact rfl) (by simp) rfl (rfl)) .nil) (f25_unframe b hb) (fun _ => rfl) (byc_noIs _) fun bw2 hbw2 => ?_
  simp only [go_sem, hbf, hb6, hbv, hbs, hg1, hbs2, hbq, hbu, hb13, hbw, hb14, hg2] at hbw2
  simp -implicitDefEqProofs (disch := omega) only [go_sem, Int.reduceEq, Int.reduceLT, Int.reduceLE, Int.reduceToNat, Int.reduceNeg, Int.reduceAdd, Int.reduceSub, Nat.reduceEqDiff, Nat.reduceAdd, Nat.reduceMul, Nat.reduceLeDiff, Nat.reduceSub, ↓reduceIte, reduceCtorEq, hbf, hb6, hbv, hbs, hg1, hbs2, hbq, hbu, hb13, hbw, hb14, hg2, hb2, hbf, hb6, hbv, hbs, hg1, hb11, hbs2, hbq, hbu, hb13, hbw, hb14, hg2, hb15, hbw2]
  repeat (refine And.intro (by omega) ?_)
  refine hq _ _ _ (by simp only [pickL, lk_cons, Int.reduceEq, Int.reduceLT, Int.reduceLE, Int.reduceToNat, Int.reduceNeg, Int.reduceAdd, Int.reduceSub, Nat.reduceEqDiff, Nat.reduceAdd, Nat.reduceMul, Nat.reduceLeDiff, Nat.reduceSub, ↓reduceIte, reduceCtorEq, if_true, if_false]; exact rfl) ?_
  clear hq q
  repeat' (first | refine wpL_seq ?_ | refine wpL_skip ?_ | refine wpL_label ?_ | refine wpL_scope ?_)
  refine wpL_region' [7, 9, 11, 12, 13, 14, 15, 125] fun q hq => ?_
  simp -implicitDefEqProofs (disch := omega) only [go_sem, Int.reduceEq, Int.reduceLT, Int.reduceLE, Int.reduceToNat, Int.reduceNeg, Int.reduceAdd, Int.reduceSub, Nat.reduceEqDiff, Nat.reduceAdd, Nat.reduceMul, Nat.reduceLeDiff, Nat.reduceSub, ↓reduceIte, reduceCtorEq, decide_true, eq_self, Bool.not_true, Bool.not_false, hbf, hb6, hbv, hbs, hg1, hbs2, hbq, hbu, hb13, hbw, hb14, hg2, hbw2, hb2, hbf, hb6, hbv, hbs, hg1, hb11, hbs2, hbq, hbu, hb13, hbw, hb14, hg2, hb15, hbw2]
  refine gN_brw (.cons (Wk.bytes (b ++ marks) [] ([]) (by simp only [go_sem, hbf, hb6, hbv, hbs, hg1, hbs2, hbq, hbu, hb13, hbw, hb14, hg2, hbw2] <;> exact rfl) (by simp) rfl (by simp)) (.keep .nil)) (f18_whole b (by omega)) rfl ?_
  simp -implicitDefEqProofs (disch := omega) only [go_sem, Int.reduceEq, Int.reduceLT, Int.reduceLE, Int.reduceToNat, Int.reduceNeg, Int.reduceAdd, Int.reduceSub, Nat.reduceEqDiff, Nat.reduceAdd, Nat.reduceMul, Nat.reduceLeDiff, Nat.reduceSub, ↓reduceIte, reduceCtorEq, decide_true, eq_self, Bool.not_true, Bool.not_false, hbf, hb6, hbv, hbs, hg1, hbs2, hbq, hbu, hb13, hbw, hb14, hg2, hbw2, hb2, hbf, hb6, hbv, hbs, hg1, hb11, hbs2, hbq, hbu, hb13, hbw, hb14, hg2, hb15, hbw2]
  refine hq _ _ _ (by simp only [pickL, lk_cons, Int.reduceEq, Int.reduceLT, Int.reduceLE, Int.reduceToNat, Int.reduceNeg, Int.reduceAdd, Int.reduceSub, Nat.reduceEqDiff, Nat.reduceAdd, Nat.reduceMul, Nat.reduceLeDiff, Nat.reduceSub, ↓reduceIte, reduceCtorEq, if_true, if_false]; exact rfl) ?_
  clear hq q
  repeat' (first | refine wpL_seq ?_ | refine wpL_skip ?_ | refine wpL_label ?_ | refine wpL_scope ?_)
  refine wpL_cond rfl (fun hc5 => ?_) (fun hc5 => ?_)
  · cases hc5
  clear hc5
  repeat' (first | refine wpL_seq ?_ | refine wpL_skip ?_ | refine wpL_label ?_ | refine wpL_scope ?_)
  refine wpL_region' [7, 9, 11, 13, 14, 15] fun q hq => ?_
  simp -implicitDefEqProofs (disch := omega) only [go_sem, Int.reduceEq, Int.reduceLT, Int.reduceLE, Int.reduceToNat, Int.reduceNeg, Int.reduceAdd, Int.reduceSub, Nat.reduceEqDiff, Nat.reduceAdd, Nat.reduceMul, Nat.reduceLeDiff, Nat.reduceSub, ↓reduceIte, reduceCtorEq, hbf, hb6, hbv, hbs, hg1, hbs2, hbq, hbu, hb13, hbw, hb14, hg2, hbw2, hb2, hbf, hb6, hbv, hbs, hg1, hb11, hbs2, hbq, hbu, hb13, hbw, hb14, hg2, hb15, hbw2]
  repeat (refine And.intro (by omega) ?_)
  rw [show b.length + 3 = (b ++ marks).length by simp [marks]]
  refine gN_callH (f20_blot _ bq (b ++ marks) [] (by simp only [List.append_nil, go_sem, hbf, hb6, hbv, hbs, hg1, hbs2, hbq, hbu, hb13, hbw, hb14, hg2, hbw2] <;> exact rfl) (by simp; omega)) ?_
  rintro _ _ ⟨rfl, rfl⟩
  simp -implicitDefEqProofs (disch := omega) only [go_sem, Int.reduceEq, Int.reduceLT, Int.reduceLE, Int.reduceToNat, Int.reduceNeg, Int.reduceAdd, Int.reduceSub, Nat.reduceEqDiff, Nat.reduceAdd, Nat.reduceMul, Nat.reduceLeDiff, Nat.reduceSub, ↓reduceIte, reduceCtorEq, hbf, hb6, hbv, hbs, hg1, hbs2, hbq, hbu, hb13, hbw, hb14, hg2, hbw2, hb2, hbf, hb6, hbv, hbs, hg1, hb11, hbs2, hbq, hbu, hb13, hbw, hb14, hg2, hb15, hbw2]
  repeat (refine And.intro (by omega) ?_)
  refine hq _ _ _ (by simp only [pickL, lk_cons, Int.reduceEq, Int.reduceLT, Int.reduceLE, Int.reduceToNat, Int.reduceNeg, Int.reduceAdd, Int.reduceSub, Nat.reduceEqDiff, Nat.reduceAdd, Nat.reduceMul, Nat.reduceLeDiff, Nat.reduceSub, ↓reduceIte, reduceCtorEq, if_true, if_false]; exact rfl) ?_
  clear hq q
  repeat' (first | refine wpL_seq ?_ | refine wpL_skip ?_ | refine wpL_label ?_ | refine wpL_scope ?_)
  refine wpL_region' [4] fun q hq => ?_
  simp -implicitDefEqProofs (disch := omega) only [go_sem, Int.reduceEq, Int.reduceLT, Int.reduceLE, Int.reduceToNat, Int.reduceNeg, Int.reduceAdd, Int.reduceSub, Nat.reduceEqDiff, Nat.reduceAdd, Nat.reduceMul, Nat.reduceLeDiff, Nat.reduceSub, ↓reduceIte, reduceCtorEq, decide_true, eq_self, Bool.not_true, Bool.not_false, hbf, hb6, hbv, hbs, hg1, hbs2, hbq, hbu, hb13, hbw, hb14, hg2, hbw2, hb2, hbf, hb6, hbv, hbs, hg1, hb11, hbs2, hbq, hbu, hb13, hbw, hb14, hg2, hb15, hbw2]
  repeat (refine And.intro (by omega) ?_)
  refine gN_brw (.cons (Wk.aggL (.cons (.refl _) (.cons (.refl _) (.cons (.refl _) (.cons (Wk.bytes ((readF b).1.data) [] ([]) (by simp only [go_sem, hbf, hb6, hbv, hbs, hg1, hbs2, hbq, hbu, hb13, hbw, hb14, hg2, hbw2] <;> exact rfl) (by simp) rfl (rfl)) .nil))))) (.cons (Wk.aggL (.cons (.refl _) (.cons (.refl _) (.cons (.refl _) (.cons (Wk.bytes ((readF b).1.data) [] ([]) (by simp only [go_sem, hbf, hb6, hbv, hbs, hg1, hbs2, hbq, hbu, hb13, hbw, hb14, hg2, hbw2] <;> exact rfl) (by simp) rfl (rfl)) .nil))))) .nil)) (f26_same (readF b).1 (by omega)) rfl ?_
  simp -implicitDefEqProofs (disch := omega) only [go_sem, Int.reduceEq, Int.reduceLT, Int.reduceLE, Int.reduceToNat, Int.reduceNeg, Int.reduceAdd, Int.reduceSub, Nat.reduceEqDiff, Nat.reduceAdd, Nat.reduceMul, Nat.reduceLeDiff, Nat.reduceSub, ↓reduceIte, reduceCtorEq, decide_true, eq_self, Bool.not_true, Bool.not_false, hbf, hb6, hbv, hbs, hg1, hbs2, hbq, hbu, hb13, hbw, hb14, hg2, hbw2, hb2, hbf, hb6, hbv, hbs, hg1, hb11, hbs2, hbq, hbu, hb13, hbw, hb14, hg2, hb15, hbw2]
  refine gN_brw (.cons (Wk.aggL (.cons (Wk.bytes (rep (f.bytes).length 33) [] [] (by simp only [go_sem, hbf, hb6, hbv, hbs, hg1, hbs2, hbq, hbu, hb13, hbw, hb14, hg2, hbw2] <;> exact rfl) (by simp) rfl (by simp [rep])) (.cons (Wk.bytes (rep (f.bytes).length 33 ++ rep 64 (33 + 1)) [] [] (by simp only [go_sem, hbf, hb6, hbv, hbs, hg1, hbs2, hbq, hbu, hb13, hbw, hb14, hg2, hbw2] <;> exact rfl) (by simp) rfl (by simp [rep])) (.cons (.refl _) .nil)))) .nil) (f21_stands (f.bytes).length 33 (by omega)) rfl ?_
  simp -implicitDefEqProofs (disch := omega) only [go_sem, Int.reduceEq, Int.reduceLT, Int.reduceLE, Int.reduceToNat, Int.reduceNeg, Int.reduceAdd, Int.reduceSub, Nat.reduceEqDiff, Nat.reduceAdd, Nat.reduceMul, Nat.reduceLeDiff, Nat.reduceSub, ↓reduceIte, reduceCtorEq, decide_true, eq_self, Bool.not_true, Bool.not_false, hbf, hb6, hbv, hbs, hg1, hbs2, hbq, hbu, hb13, hbw, hb14, hg2, hbw2, hb2, hbf, hb6, hbv, hbs, hg1, hb11, hbs2, hbq, hbu, hb13, hbw, hb14, hg2, hb15, hbw2]
  refine gN_brw (.cons (Wk.aggL (.cons (Wk.bytes (rep ((readF b).1.data).length 67) [] [] (by simp only [go_sem, hbf, hb6, hbv, hbs, hg1, hbs2, hbq, hbu, hb13, hbw, hb14, hg2, hbw2] <;> exact rfl) (by simp) rfl (by simp [rep])) (.cons (Wk.bytes (rep ((readF b).1.data).length 67 ++ rep 64 (67 + 1)) [] [] (by simp only [go_sem, hbf, hb6, hbv, hbs, hg1, hbs2, hbq, hbu, hb13, hbw, hb14, hg2, hbw2] <;> exact rfl) (by simp) rfl (by simp [rep])) (.cons (.refl _) .nil)))) .nil) (f21_stands ((readF b).1.data).length 67 (by omega)) rfl ?_
  simp -implicitDefEqProofs (disch := omega) only [go_sem, Int.reduceEq, Int.reduceLT, Int.reduceLE, Int.reduceToNat, Int.reduceNeg, Int.reduceAdd, Int.reduceSub, Nat.reduceEqDiff, Nat.reduceAdd, Nat.reduceMul, Nat.reduceLeDiff, Nat.reduceSub, ↓reduceIte, reduceCtorEq, decide_true, eq_self, Bool.not_true, Bool.not_false, hbf, hb6, hbv, hbs, hg1, hbs2, hbq, hbu, hb13, hbw, hb14, hg2, hbw2, hb2, hbf, hb6, hbv, hbs, hg1, hb11, hbs2, hbq, hbu, hb13, hbw, hb14, hg2, hb15, hbw2]
  refine gN_brw (.cons (Wk.bytes (f.bytes) [] ([]) (by simp only [go_sem, hbf, hb6, hbv, hbs, hg1, hbs2, hbq, hbu, hb13, hbw, hb14, hg2, hbw2] <;> exact rfl) (by simp) rfl (rfl)) (.keep .nil)) (f17_bytes (f.bytes) (f.bytes) (by omega) (by omega)) rfl ?_
  simp -implicitDefEqProofs (disch := omega) only [go_sem, Int.reduceEq, Int.reduceLT, Int.reduceLE, Int.reduceToNat, Int.reduceNeg, Int.reduceAdd, Int.reduceSub, Nat.reduceEqDiff, Nat.reduceAdd, Nat.reduceMul, Nat.reduceLeDiff, Nat.reduceSub, ↓reduceIte, reduceCtorEq, decide_true, eq_self, Bool.not_true, Bool.not_false, hbf, hb6, hbv, hbs, hg1, hbs2, hbq, hbu, hb13, hbw, hb14, hg2, hbw2, hb2, hbf, hb6, hbv, hbs, hg1, hb11, hbs2, hbq, hbu, hb13, hbw, hb14, hg2, hb15, hbw2]
  refine hq _ _ _ (by simp only [pickL, lk_cons, Int.reduceEq, Int.reduceLT, Int.reduceLE, Int.reduceToNat, Int.reduceNeg, Int.reduceAdd, Int.reduceSub, Nat.reduceEqDiff, Nat.reduceAdd, Nat.reduceMul, Nat.reduceLeDiff, Nat.reduceSub, ↓reduceIte, reduceCtorEq, if_true, if_false]; exact rfl) ?_
  clear hq q
  repeat' (first | refine wpL_seq ?_ | refine wpL_skip ?_ | refine wpL_label ?_ | refine wpL_scope ?_)
  refine wpL_ret (hK' _ _ _ _ (.inr rfl) (resTo (rs' := [.tmp 4]) rfl (by simp only [go_sem, Int.reduceEq, Int.reduceLT, Int.reduceLE, Int.reduceToNat, Int.reduceNeg, Int.reduceAdd, Int.reduceSub, Nat.reduceEqDiff, Nat.reduceAdd, Nat.reduceMul, Nat.reduceLeDiff, Nat.reduceSub, ↓reduceIte, reduceCtorEq, hb2, hbf, hb6, hbv, hbs, hg1, hb11, hbs2, hbq, hbu, hb13, hbw, hb14, hg2, hb15, hbw2]; exact rfl)) ?_)
  rfl
end Go.Proofs.YtindglcpailjgaaDoor.Am.W
