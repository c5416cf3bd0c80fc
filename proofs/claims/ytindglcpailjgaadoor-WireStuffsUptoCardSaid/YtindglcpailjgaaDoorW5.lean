/- The law WireStuffs answers true. -/
import Derived.Test.YtindglcpailjgaaDoorW4
namespace Go.Proofs.YtindglcpailjgaaDoor.Am.W
set_option linter.unusedSectionVars false
open Go Go.Proofs Am
set_option linter.unusedVariables false
set_option linter.unusedSimpArgs false
set_option maxRecDepth 100000
attribute [local irreducible] gO gN gW gdO

theorem frzBytes {P : Program} {cs : List Code} {S S' : List (Nat × AV)} {h h' : Heap} {K : Ex → Env → Heap → Prop} (t : Nat) (l : List UInt8) {b n : Nat} {ty A} (he : lk S t = .sl b 0 n 1) (hb : h b = some ⟨.own, l.map byc, ty, A⟩) (hn : l.length = n)
    (hL : setL t (.rs 1 (l.map by1)) S = S') (hh : h.del b = h') (hk : wpL P cs (lk S') h' K) : wpL P cs (lk S) h K :=
  wpL_frzS' t (l.map by1) he hb rfl (by1_flat l).symm (by simpa using hn) (fun e he => by obtain ⟨a, _, rfl⟩ := List.mem_map.1 he; rfl) hL hh hk

theorem f3_stuffs (l : List UInt8) (hl : l.length ≤ 1048576) : wpP Tryd.prog 3 [.rs 1 (l.map by1)] (.bool true) := by
  have hS := stuff_len l
  have hU := un_len l
  refine wpP_intro ?_
  refine wpH_intro (fn := Tryd.f3) rfl rfl (by decide) (by kernel_rfl) fun K' hK' => ?_
  repeat' (first | refine wpL_seq ?_ | refine wpL_skip ?_ | refine wpL_label ?_ | refine wpL_scope ?_)
  refine wpL_region' [0] fun q hq => ?_
  simp -implicitDefEqProofs (disch := omega) only [go_sem, Int.reduceEq, Int.reduceLT, Int.reduceLE, Int.reduceToNat, Int.reduceNeg, Int.reduceAdd, Int.reduceSub, Nat.reduceEqDiff, Nat.reduceAdd, Nat.reduceMul, Nat.reduceLeDiff, Nat.reduceSub, ↓reduceIte, reduceCtorEq]
  repeat (refine And.intro (by omega) ?_)
  refine hq _ _ _ (by simp only [pickL, lk_cons, Int.reduceEq, Int.reduceLT, Int.reduceLE, Int.reduceToNat, Int.reduceNeg, Int.reduceAdd, Int.reduceSub, Nat.reduceEqDiff, Nat.reduceAdd, Nat.reduceMul, Nat.reduceLeDiff, Nat.reduceSub, ↓reduceIte, reduceCtorEq, if_true, if_false]; exact rfl) ?_
  clear hq q
  repeat' (first | refine wpL_seq ?_ | refine wpL_skip ?_ | refine wpL_label ?_ | refine wpL_scope ?_)
  refine wpL_region' [0, 3] fun q hq => ?_
  simp -implicitDefEqProofs (disch := omega) only [go_sem, Int.reduceEq, Int.reduceLT, Int.reduceLE, Int.reduceToNat, Int.reduceNeg, Int.reduceAdd, Int.reduceSub, Nat.reduceEqDiff, Nat.reduceAdd, Nat.reduceMul, Nat.reduceLeDiff, Nat.reduceSub, ↓reduceIte, reduceCtorEq]
  repeat (refine And.intro (by omega) ?_)
  refine gN_ownF (f10_padded l (by omega)) fun bf hbf => ?_
  simp -implicitDefEqProofs (disch := omega) only [go_sem, Int.reduceEq, Int.reduceLT, Int.reduceLE, Int.reduceToNat, Int.reduceNeg, Int.reduceAdd, Int.reduceSub, Nat.reduceEqDiff, Nat.reduceAdd, Nat.reduceMul, Nat.reduceLeDiff, Nat.reduceSub, ↓reduceIte, reduceCtorEq, hbf]
  repeat (refine And.intro (by omega) ?_)
  refine hq _ _ _ (by simp only [pickL, lk_cons, Int.reduceEq, Int.reduceLT, Int.reduceLE, Int.reduceToNat, Int.reduceNeg, Int.reduceAdd, Int.reduceSub, Nat.reduceEqDiff, Nat.reduceAdd, Nat.reduceMul, Nat.reduceLeDiff, Nat.reduceSub, ↓reduceIte, reduceCtorEq, if_true, if_false]; exact rfl) ?_
  clear hq q
  repeat' (first | refine wpL_seq ?_ | refine wpL_skip ?_ | refine wpL_label ?_ | refine wpL_scope ?_)
  refine wpL_region' [0, 3, 4] fun q hq => ?_
  simp -implicitDefEqProofs (disch := omega) only [go_sem, Int.reduceEq, Int.reduceLT, Int.reduceLE, Int.reduceToNat, Int.reduceNeg, Int.reduceAdd, Int.reduceSub, Nat.reduceEqDiff, Nat.reduceAdd, Nat.reduceMul, Nat.reduceLeDiff, Nat.reduceSub, ↓reduceIte, reduceCtorEq, List.length_map, Nat.sub_zero, hbf]
  repeat (refine And.intro (by omega) ?_)
  refine hq _ _ _ (by simp only [pickL, lk_cons, Int.reduceEq, Int.reduceLT, Int.reduceLE, Int.reduceToNat, Int.reduceNeg, Int.reduceAdd, Int.reduceSub, Nat.reduceEqDiff, Nat.reduceAdd, Nat.reduceMul, Nat.reduceLeDiff, Nat.reduceSub, ↓reduceIte, reduceCtorEq, if_true, if_false]; exact rfl) ?_
  clear hq q
  repeat' (first | refine wpL_seq ?_ | refine wpL_skip ?_ | refine wpL_label ?_ | refine wpL_scope ?_)
  refine wpL_region' [0, 3, 4, 5, 6] fun q hq => ?_
  simp -implicitDefEqProofs (disch := omega) only [go_sem, Int.reduceEq, Int.reduceLT, Int.reduceLE, Int.reduceToNat, Int.reduceNeg, Int.reduceAdd, Int.reduceSub, Nat.reduceEqDiff, Nat.reduceAdd, Nat.reduceMul, Nat.reduceLeDiff, Nat.reduceSub, ↓reduceIte, reduceCtorEq, hbf]
  repeat (refine And.intro (by omega) ?_)
  refine gN_ownF (f11_unstuff l (by omega)) fun bw hbw => ?_
  simp only [go_sem, hbf] at hbw
  simp -implicitDefEqProofs (disch := omega) only [go_sem, Int.reduceEq, Int.reduceLT, Int.reduceLE, Int.reduceToNat, Int.reduceNeg, Int.reduceAdd, Int.reduceSub, Nat.reduceEqDiff, Nat.reduceAdd, Nat.reduceMul, Nat.reduceLeDiff, Nat.reduceSub, ↓reduceIte, reduceCtorEq, hbf, hbw]
  repeat (refine And.intro (by omega) ?_)
  refine hq _ _ _ (by simp only [pickL, lk_cons, Int.reduceEq, Int.reduceLT, Int.reduceLE, Int.reduceToNat, Int.reduceNeg, Int.reduceAdd, Int.reduceSub, Nat.reduceEqDiff, Nat.reduceAdd, Nat.reduceMul, Nat.reduceLeDiff, Nat.reduceSub, ↓reduceIte, reduceCtorEq, if_true, if_false]; exact rfl) ?_
  clear hq q
  refine frzBytes 5 (un l) rfl (by simp only [go_sem, hbf, hbw] <;> exact rfl) rfl (by simp only [setL] <;> exact rfl) (by simp only [go_sem, hbf, hbw] <;> exact rfl) ?_
  repeat' (first | refine wpL_seq ?_ | refine wpL_skip ?_ | refine wpL_label ?_ | refine wpL_scope ?_)
  refine wpL_region' [0, 3, 4, 5, 6, 7] fun q hq => ?_
  simp -implicitDefEqProofs (disch := omega) only [go_sem, Int.reduceEq, Int.reduceLT, Int.reduceLE, Int.reduceToNat, Int.reduceNeg, Int.reduceAdd, Int.reduceSub, Nat.reduceEqDiff, Nat.reduceAdd, Nat.reduceMul, Nat.reduceLeDiff, Nat.reduceSub, ↓reduceIte, reduceCtorEq, hbf, hbw]
  repeat (refine And.intro (by omega) ?_)
  refine gN_ownF (f12_stuff l (by omega)) fun bv hbv => ?_
  simp only [go_sem, hbf] at hbv
  simp -implicitDefEqProofs (disch := omega) only [go_sem, Int.reduceEq, Int.reduceLT, Int.reduceLE, Int.reduceToNat, Int.reduceNeg, Int.reduceAdd, Int.reduceSub, Nat.reduceEqDiff, Nat.reduceAdd, Nat.reduceMul, Nat.reduceLeDiff, Nat.reduceSub, ↓reduceIte, reduceCtorEq, hbf, hbw, hbv]
  repeat (refine And.intro (by omega) ?_)
  refine hq _ _ _ (by simp only [pickL, lk_cons, Int.reduceEq, Int.reduceLT, Int.reduceLE, Int.reduceToNat, Int.reduceNeg, Int.reduceAdd, Int.reduceSub, Nat.reduceEqDiff, Nat.reduceAdd, Nat.reduceMul, Nat.reduceLeDiff, Nat.reduceSub, ↓reduceIte, reduceCtorEq, if_true, if_false]; exact rfl) ?_
  clear hq q
  refine frzBytes 7 (stuff l) rfl (by simp only [go_sem, hbf, hbv] <;> exact rfl) rfl (by simp only [setL] <;> exact rfl) (by simp only [go_sem, hbf, hbv] <;> exact rfl) ?_
  repeat' (first | refine wpL_seq ?_ | refine wpL_skip ?_ | refine wpL_label ?_ | refine wpL_scope ?_)
  refine wpL_region' [0, 3, 4, 5, 6, 7, 8] fun q hq => ?_
  simp -implicitDefEqProofs (disch := omega) only [go_sem, Int.reduceEq, Int.reduceLT, Int.reduceLE, Int.reduceToNat, Int.reduceNeg, Int.reduceAdd, Int.reduceSub, Nat.reduceEqDiff, Nat.reduceAdd, Nat.reduceMul, Nat.reduceLeDiff, Nat.reduceSub, ↓reduceIte, reduceCtorEq, hbf, hbw, hbv]
  repeat (refine And.intro (by omega) ?_)
  refine gN_brwF (.cons (Wk.bytes l [] (marks.map byc) (by simp only [go_sem, hbf] <;> exact rfl) (by simp) rfl rfl) .nil) (f13_stuff l (by omega)) (fun _ => rfl) (byc_noIs _) fun bs hbs => ?_
  simp only [go_sem, hbf] at hbs
  simp -implicitDefEqProofs (disch := omega) only [go_sem, Int.reduceEq, Int.reduceLT, Int.reduceLE, Int.reduceToNat, Int.reduceNeg, Int.reduceAdd, Int.reduceSub, Nat.reduceEqDiff, Nat.reduceAdd, Nat.reduceMul, Nat.reduceLeDiff, Nat.reduceSub, ↓reduceIte, reduceCtorEq, hbf, hbw, hbv, hbs]
  repeat (refine And.intro (by omega) ?_)
  refine hq _ _ _ (by simp only [pickL, lk_cons, Int.reduceEq, Int.reduceLT, Int.reduceLE, Int.reduceToNat, Int.reduceNeg, Int.reduceAdd, Int.reduceSub, Nat.reduceEqDiff, Nat.reduceAdd, Nat.reduceMul, Nat.reduceLeDiff, Nat.reduceSub, ↓reduceIte, reduceCtorEq, if_true, if_false]; exact rfl) ?_
  clear hq q
  repeat' (first | refine wpL_seq ?_ | refine wpL_skip ?_ | refine wpL_label ?_ | refine wpL_scope ?_)
  refine wpL_region' [0, 3, 4, 5, 6, 7, 8, 9, 10] fun q hq => ?_
  simp -implicitDefEqProofs (disch := omega) only [go_sem, Int.reduceEq, Int.reduceLT, Int.reduceLE, Int.reduceToNat, Int.reduceNeg, Int.reduceAdd, Int.reduceSub, Nat.reduceEqDiff, Nat.reduceAdd, Nat.reduceMul, Nat.reduceLeDiff, Nat.reduceSub, ↓reduceIte, reduceCtorEq, hbf, hbw, hbv, hbs]
  repeat (refine And.intro (by omega) ?_)
  refine gN_brwF (.cons (Wk.bytes l [] (marks.map byc) (by simp only [go_sem, hbf, hbs] <;> exact rfl) (by simp) rfl rfl) .nil) (f14_unstuff l (by omega)) (fun _ => rfl) (byc_noIs _) fun bu hbu => ?_
  simp only [go_sem, hbf, hbs] at hbu
  simp -implicitDefEqProofs (disch := omega) only [go_sem, Int.reduceEq, Int.reduceLT, Int.reduceLE, Int.reduceToNat, Int.reduceNeg, Int.reduceAdd, Int.reduceSub, Nat.reduceEqDiff, Nat.reduceAdd, Nat.reduceMul, Nat.reduceLeDiff, Nat.reduceSub, ↓reduceIte, reduceCtorEq, hbf, hbw, hbv, hbs, hbu]
  repeat (refine And.intro (by omega) ?_)
  refine hq _ _ _ (by simp only [pickL, lk_cons, Int.reduceEq, Int.reduceLT, Int.reduceLE, Int.reduceToNat, Int.reduceNeg, Int.reduceAdd, Int.reduceSub, Nat.reduceEqDiff, Nat.reduceAdd, Nat.reduceMul, Nat.reduceLeDiff, Nat.reduceSub, ↓reduceIte, reduceCtorEq, if_true, if_false]; exact rfl) ?_
  clear hq q
  repeat' (first | refine wpL_seq ?_ | refine wpL_skip ?_ | refine wpL_label ?_ | refine wpL_scope ?_)
  refine wpL_region' [0, 3, 4, 5, 6, 7, 8, 9, 60] fun q hq => ?_
  simp -implicitDefEqProofs (disch := omega) only [go_sem, Int.reduceEq, Int.reduceLT, Int.reduceLE, Int.reduceToNat, Int.reduceNeg, Int.reduceAdd, Int.reduceSub, Nat.reduceEqDiff, Nat.reduceAdd, Nat.reduceMul, Nat.reduceLeDiff, Nat.reduceSub, ↓reduceIte, reduceCtorEq, decide_true, eq_self, Bool.not_true, Bool.not_false, hbf, hbw, hbv, hbs, hbu]
  repeat (refine And.intro (by omega) ?_)
  refine gN_brw (.cons (Wk.bytes l [] (marks.map byc) (by simp only [go_sem, hbf, hbs, hbu] <;> exact rfl) (by simp) rfl rfl) .nil) (f15_sum l (by omega)) rfl ?_
  simp -implicitDefEqProofs (disch := omega) only [go_sem, Int.reduceEq, Int.reduceLT, Int.reduceLE, Int.reduceToNat, Int.reduceNeg, Int.reduceAdd, Int.reduceSub, Nat.reduceEqDiff, Nat.reduceAdd, Nat.reduceMul, Nat.reduceLeDiff, Nat.reduceSub, ↓reduceIte, reduceCtorEq, decide_true, eq_self, Bool.not_true, Bool.not_false, hbf, hbw, hbv, hbs, hbu]
  repeat (refine And.intro (by omega) ?_)
  refine gN_callP (f16_sum l (by omega)) ?_
  simp -implicitDefEqProofs (disch := omega) only [go_sem, Int.reduceEq, Int.reduceLT, Int.reduceLE, Int.reduceToNat, Int.reduceNeg, Int.reduceAdd, Int.reduceSub, Nat.reduceEqDiff, Nat.reduceAdd, Nat.reduceMul, Nat.reduceLeDiff, Nat.reduceSub, ↓reduceIte, reduceCtorEq, decide_true, eq_self, Bool.not_true, Bool.not_false, hbf, hbw, hbv, hbs, hbu]
  refine gN_brw (.cons (Wk.bytes (stuff l) [] [] (by simp only [go_sem, hbf, hbs, hbu] <;> exact rfl) (by simp) rfl rfl) (.keep .nil)) (f17_bytes (stuff l) (stuff l) (by omega) (by omega)) rfl ?_
  simp -implicitDefEqProofs (disch := omega) only [go_sem, Int.reduceEq, Int.reduceLT, Int.reduceLE, Int.reduceToNat, Int.reduceNeg, Int.reduceAdd, Int.reduceSub, Nat.reduceEqDiff, Nat.reduceAdd, Nat.reduceMul, Nat.reduceLeDiff, Nat.reduceSub, ↓reduceIte, reduceCtorEq, decide_true, eq_self, Bool.not_true, Bool.not_false, hbf, hbs, hbu, hbf, hbw, hbv, hbs, hbu]
  refine gN_brw (.cons (Wk.bytes (un l) [] [] (by simp only [go_sem, hbf, hbs, hbu] <;> exact rfl) (by simp) rfl rfl) (.keep .nil)) (f17_bytes (un l) (un l) (by omega) (by omega)) rfl ?_
  simp -implicitDefEqProofs (disch := omega) only [go_sem, Int.reduceEq, Int.reduceLT, Int.reduceLE, Int.reduceToNat, Int.reduceNeg, Int.reduceAdd, Int.reduceSub, Nat.reduceEqDiff, Nat.reduceAdd, Nat.reduceMul, Nat.reduceLeDiff, Nat.reduceSub, ↓reduceIte, reduceCtorEq, decide_true, eq_self, Bool.not_true, Bool.not_false, hbf, hbs, hbu, hbf, hbw, hbv, hbs, hbu]
  refine gN_brw (.cons (Wk.bytes (l ++ marks) [] [] (by simp only [go_sem, hbf, hbs, hbu] <;> exact rfl) (by simp) rfl (by simp)) (.keep .nil)) (f18_whole l (by omega)) rfl ?_
  simp -implicitDefEqProofs (disch := omega) only [go_sem, Int.reduceEq, Int.reduceLT, Int.reduceLE, Int.reduceToNat, Int.reduceNeg, Int.reduceAdd, Int.reduceSub, Nat.reduceEqDiff, Nat.reduceAdd, Nat.reduceMul, Nat.reduceLeDiff, Nat.reduceSub, ↓reduceIte, reduceCtorEq, decide_true, eq_self, Bool.not_true, Bool.not_false, hbf, hbs, hbu, hbf, hbw, hbv, hbs, hbu]
  refine hq _ _ _ (by simp only [pickL, lk_cons, Int.reduceEq, Int.reduceLT, Int.reduceLE, Int.reduceToNat, Int.reduceNeg, Int.reduceAdd, Int.reduceSub, Nat.reduceEqDiff, Nat.reduceAdd, Nat.reduceMul, Nat.reduceLeDiff, Nat.reduceSub, ↓reduceIte, reduceCtorEq, if_true, if_false]; exact rfl) ?_
  clear hq q
  repeat' (first | refine wpL_seq ?_ | refine wpL_skip ?_ | refine wpL_label ?_ | refine wpL_scope ?_)
  refine wpL_cond rfl (fun hc1 => ?_) (fun hc1 => ?_)
  · cases hc1
  clear hc1
  repeat' (first | refine wpL_seq ?_ | refine wpL_skip ?_ | refine wpL_label ?_ | refine wpL_scope ?_)
  refine wpL_region' [0, 3, 4, 5, 6, 7, 11, 12] fun q hq => ?_
  simp -implicitDefEqProofs (disch := omega) only [go_sem, Int.reduceEq, Int.reduceLT, Int.reduceLE, Int.reduceToNat, Int.reduceNeg, Int.reduceAdd, Int.reduceSub, Nat.reduceEqDiff, Nat.reduceAdd, Nat.reduceMul, Nat.reduceLeDiff, Nat.reduceSub, ↓reduceIte, reduceCtorEq, hbf, hbs, hbu, hbf, hbw, hbv, hbs, hbu]
  repeat (refine And.intro (by omega) ?_)
  refine gN_callH (f19_spoil _ bs (stuff l) 33 (by simp only [go_sem, hbf, hbs, hbu] <;> exact rfl) (by omega)) ?_
  rintro _ _ ⟨g1, A1, hg1, rfl, rfl⟩
  simp only [go_sem, hbf, hbs, hbu] at hg1
  simp -implicitDefEqProofs (disch := omega) only [go_sem, Int.reduceEq, Int.reduceLT, Int.reduceLE, Int.reduceToNat, Int.reduceNeg, Int.reduceAdd, Int.reduceSub, Nat.reduceEqDiff, Nat.reduceAdd, Nat.reduceMul, Nat.reduceLeDiff, Nat.reduceSub, ↓reduceIte, reduceCtorEq, hbf, hbs, hbu, hbf, hbw, hbv, hbs, hbu, hg1]
  repeat (refine And.intro (by omega) ?_)
  refine gN_callH (f19_spoil _ bu (un l) 67 (by simp only [go_sem, hbf, hbs, hbu, hg1] <;> exact rfl) (by omega)) ?_
  rintro _ _ ⟨g2, A2, hg2, rfl, rfl⟩
  simp only [go_sem, hbf, hbs, hbu, hg1] at hg2
  simp -implicitDefEqProofs (disch := omega) only [go_sem, Int.reduceEq, Int.reduceLT, Int.reduceLE, Int.reduceToNat, Int.reduceNeg, Int.reduceAdd, Int.reduceSub, Nat.reduceEqDiff, Nat.reduceAdd, Nat.reduceMul, Nat.reduceLeDiff, Nat.reduceSub, ↓reduceIte, reduceCtorEq, hbf, hbs, hbu, hbf, hbw, hbv, hbs, hbu, hg1, hg2]
  repeat (refine And.intro (by omega) ?_)
  refine gN_new fun b11 hb11 => ?_
  try simp only [newIn_put, newIn_upd] at hb11
  simp -implicitDefEqProofs (disch := omega) only [go_sem, Int.reduceEq, Int.reduceLT, Int.reduceLE, Int.reduceToNat, Int.reduceNeg, Int.reduceAdd, Int.reduceSub, Nat.reduceEqDiff, Nat.reduceAdd, Nat.reduceMul, Nat.reduceLeDiff, Nat.reduceSub, ↓reduceIte, reduceCtorEq, hbf, hbs, hbu, hbf, hbw, hbv, hbs, hbu, hg1, hg2, hb11]
  repeat (refine And.intro (by omega) ?_)
  refine gN_new fun b12 hb12 => ?_
  try simp only [newIn_put, newIn_upd] at hb12
  simp -implicitDefEqProofs (disch := omega) only [go_sem, Int.reduceEq, Int.reduceLT, Int.reduceLE, Int.reduceToNat, Int.reduceNeg, Int.reduceAdd, Int.reduceSub, Nat.reduceEqDiff, Nat.reduceAdd, Nat.reduceMul, Nat.reduceLeDiff, Nat.reduceSub, ↓reduceIte, reduceCtorEq, hbf, hbs, hbu, hbf, hbw, hbv, hbs, hbu, hg1, hg2, hb11, hb12]
  repeat (refine And.intro (by omega) ?_)
  refine hq _ _ _ (by simp only [pickL, lk_cons, Int.reduceEq, Int.reduceLT, Int.reduceLE, Int.reduceToNat, Int.reduceNeg, Int.reduceAdd, Int.reduceSub, Nat.reduceEqDiff, Nat.reduceAdd, Nat.reduceMul, Nat.reduceLeDiff, Nat.reduceSub, ↓reduceIte, reduceCtorEq, if_true, if_false]; exact rfl) ?_
  clear hq q
  refine wpL_frzP' 11 rfl (by simp only [go_sem, hbf, hbw, hbv, hbs, hbu, hg1, hg2, hb11, hb12]; exact rfl) rfl (by simp only [go_sem, Int.reduceEq, Int.reduceLT, Int.reduceLE, Int.reduceToNat, Int.reduceNeg, Int.reduceAdd, Int.reduceSub, Nat.reduceEqDiff, Nat.reduceAdd, Nat.reduceMul, Nat.reduceLeDiff, Nat.reduceSub, ↓reduceIte, reduceCtorEq]; exact rfl) (by simp only [go_sem, hbf, hbw, hbv, hbs, hbu, hg1, hg2, hb11, hb12]; exact rfl) ?_
  refine wpL_frzP' 12 rfl (by simp only [go_sem, hbf, hbw, hbv, hbs, hbu, hg1, hg2, hb11, hb12]; exact rfl) rfl (by simp only [go_sem, Int.reduceEq, Int.reduceLT, Int.reduceLE, Int.reduceToNat, Int.reduceNeg, Int.reduceAdd, Int.reduceSub, Nat.reduceEqDiff, Nat.reduceAdd, Nat.reduceMul, Nat.reduceLeDiff, Nat.reduceSub, ↓reduceIte, reduceCtorEq]; exact rfl) (by simp only [go_sem, hbf, hbw, hbv, hbs, hbu, hg1, hg2, hb11, hb12]; exact rfl) ?_
  repeat' (first | refine wpL_seq ?_ | refine wpL_skip ?_ | refine wpL_label ?_ | refine wpL_scope ?_)
  refine wpL_region' [0, 3, 4, 5, 6, 7, 8, 11, 12] fun q hq => ?_
  simp -implicitDefEqProofs (disch := omega) only [go_sem, Int.reduceEq, Int.reduceLT, Int.reduceLE, Int.reduceToNat, Int.reduceNeg, Int.reduceAdd, Int.reduceSub, Nat.reduceEqDiff, Nat.reduceAdd, Nat.reduceMul, Nat.reduceLeDiff, Nat.reduceSub, ↓reduceIte, reduceCtorEq, hbf, hbs, hbu, hg1, hg2, hbf, hbw, hbv, hbs, hbu, hg1, hg2, hb11, hb12]
  repeat (refine And.intro (by omega) ?_)
  refine gN_brwF (.cons (Wk.bytes l [] (marks.map byc) (by simp only [go_sem, hbf, hbs, hbu, hg1, hg2] <;> exact rfl) (by simp) rfl rfl) .nil) (f13_stuff l (by omega)) (fun _ => rfl) (byc_noIs _) fun bs2 hbs2 => ?_
  simp only [go_sem, hbf, hbs, hbu, hg1, hg2] at hbs2
  simp -implicitDefEqProofs (disch := omega) only [go_sem, Int.reduceEq, Int.reduceLT, Int.reduceLE, Int.reduceToNat, Int.reduceNeg, Int.reduceAdd, Int.reduceSub, Nat.reduceEqDiff, Nat.reduceAdd, Nat.reduceMul, Nat.reduceLeDiff, Nat.reduceSub, ↓reduceIte, reduceCtorEq, hbf, hbs, hbu, hg1, hg2, hbf, hbw, hbv, hbs, hbu, hg1, hg2, hb11, hb12, hbs2]
  repeat (refine And.intro (by omega) ?_)
  refine hq _ _ _ (by simp only [pickL, lk_cons, Int.reduceEq, Int.reduceLT, Int.reduceLE, Int.reduceToNat, Int.reduceNeg, Int.reduceAdd, Int.reduceSub, Nat.reduceEqDiff, Nat.reduceAdd, Nat.reduceMul, Nat.reduceLeDiff, Nat.reduceSub, ↓reduceIte, reduceCtorEq, if_true, if_false]; exact rfl) ?_
  clear hq q
  repeat' (first | refine wpL_seq ?_ | refine wpL_skip ?_ | refine wpL_label ?_ | refine wpL_scope ?_)
  refine wpL_region' [0, 3, 4, 5, 6, 7, 8, 9, 10, 11, 12] fun q hq => ?_
  simp -implicitDefEqProofs (disch := omega) only [go_sem, Int.reduceEq, Int.reduceLT, Int.reduceLE, Int.reduceToNat, Int.reduceNeg, Int.reduceAdd, Int.reduceSub, Nat.reduceEqDiff, Nat.reduceAdd, Nat.reduceMul, Nat.reduceLeDiff, Nat.reduceSub, ↓reduceIte, reduceCtorEq, hbf, hbs, hbu, hg1, hg2, hbs2, hbf, hbw, hbv, hbs, hbu, hg1, hg2, hb11, hb12, hbs2]
  repeat (refine And.intro (by omega) ?_)
  refine gN_brwF (.cons (Wk.bytes l [] (marks.map byc) (by simp only [go_sem, hbf, hbs, hbu, hg1, hg2, hbs2] <;> exact rfl) (by simp) rfl rfl) .nil) (f14_unstuff l (by omega)) (fun _ => rfl) (byc_noIs _) fun bu2 hbu2 => ?_
  simp only [go_sem, hbf, hbs, hbu, hg1, hg2, hbs2] at hbu2
  simp -implicitDefEqProofs (disch := omega) only [go_sem, Int.reduceEq, Int.reduceLT, Int.reduceLE, Int.reduceToNat, Int.reduceNeg, Int.reduceAdd, Int.reduceSub, Nat.reduceEqDiff, Nat.reduceAdd, Nat.reduceMul, Nat.reduceLeDiff, Nat.reduceSub, ↓reduceIte, reduceCtorEq, hbf, hbs, hbu, hg1, hg2, hbs2, hbf, hbw, hbv, hbs, hbu, hg1, hg2, hb11, hb12, hbs2, hbu2]
  repeat (refine And.intro (by omega) ?_)
  refine hq _ _ _ (by simp only [pickL, lk_cons, Int.reduceEq, Int.reduceLT, Int.reduceLE, Int.reduceToNat, Int.reduceNeg, Int.reduceAdd, Int.reduceSub, Nat.reduceEqDiff, Nat.reduceAdd, Nat.reduceMul, Nat.reduceLeDiff, Nat.reduceSub, ↓reduceIte, reduceCtorEq, if_true, if_false]; exact rfl) ?_
  clear hq q
  repeat' (first | refine wpL_seq ?_ | refine wpL_skip ?_ | refine wpL_label ?_ | refine wpL_scope ?_)
  refine wpL_region' [4, 5, 7, 8, 9, 11, 12, 80] fun q hq => ?_
  simp -implicitDefEqProofs (disch := omega) only [go_sem, Int.reduceEq, Int.reduceLT, Int.reduceLE, Int.reduceToNat, Int.reduceNeg, Int.reduceAdd, Int.reduceSub, Nat.reduceEqDiff, Nat.reduceAdd, Nat.reduceMul, Nat.reduceLeDiff, Nat.reduceSub, ↓reduceIte, reduceCtorEq, decide_true, eq_self, Bool.not_true, Bool.not_false, hbf, hbs, hbu, hg1, hg2, hbs2, hbu2, hbf, hbw, hbv, hbs, hbu, hg1, hg2, hb11, hb12, hbs2, hbu2]
  refine gN_brw (.cons (Wk.bytes (l ++ marks) [] [] (by simp only [go_sem, hbf, hbs, hbu, hg1, hg2, hbs2, hbu2] <;> exact rfl) (by simp) rfl (by simp)) (.keep .nil)) (f18_whole l (by omega)) rfl ?_
  simp -implicitDefEqProofs (disch := omega) only [go_sem, Int.reduceEq, Int.reduceLT, Int.reduceLE, Int.reduceToNat, Int.reduceNeg, Int.reduceAdd, Int.reduceSub, Nat.reduceEqDiff, Nat.reduceAdd, Nat.reduceMul, Nat.reduceLeDiff, Nat.reduceSub, ↓reduceIte, reduceCtorEq, decide_true, eq_self, Bool.not_true, Bool.not_false, hbf, hbs, hbu, hg1, hg2, hbs2, hbu2, hbf, hbw, hbv, hbs, hbu, hg1, hg2, hb11, hb12, hbs2, hbu2]
  refine hq _ _ _ (by simp only [pickL, lk_cons, Int.reduceEq, Int.reduceLT, Int.reduceLE, Int.reduceToNat, Int.reduceNeg, Int.reduceAdd, Int.reduceSub, Nat.reduceEqDiff, Nat.reduceAdd, Nat.reduceMul, Nat.reduceLeDiff, Nat.reduceSub, ↓reduceIte, reduceCtorEq, if_true, if_false]; exact rfl) ?_
  clear hq q
  repeat' (first | refine wpL_seq ?_ | refine wpL_skip ?_ | refine wpL_label ?_ | refine wpL_scope ?_)
  refine wpL_cond rfl (fun hc2 => ?_) (fun hc2 => ?_)
  · cases hc2
  clear hc2
  repeat' (first | refine wpL_seq ?_ | refine wpL_skip ?_ | refine wpL_label ?_ | refine wpL_scope ?_)
  refine wpL_region' [5, 7, 8, 9, 11, 12] fun q hq => ?_
  simp -implicitDefEqProofs (disch := omega) only [go_sem, Int.reduceEq, Int.reduceLT, Int.reduceLE, Int.reduceToNat, Int.reduceNeg, Int.reduceAdd, Int.reduceSub, Nat.reduceEqDiff, Nat.reduceAdd, Nat.reduceMul, Nat.reduceLeDiff, Nat.reduceSub, ↓reduceIte, reduceCtorEq, hbf, hbs, hbu, hg1, hg2, hbs2, hbu2, hbf, hbw, hbv, hbs, hbu, hg1, hg2, hb11, hb12, hbs2, hbu2]
  repeat (refine And.intro (by omega) ?_)
  refine gN_callH (f20_blot _ bf l marks (by simp only [go_sem, hbf, hbs, hbu, hg1, hg2, hbs2, hbu2] <;> exact rfl) (by omega)) ?_
  rintro _ _ ⟨rfl, rfl⟩
  simp -implicitDefEqProofs (disch := omega) only [go_sem, Int.reduceEq, Int.reduceLT, Int.reduceLE, Int.reduceToNat, Int.reduceNeg, Int.reduceAdd, Int.reduceSub, Nat.reduceEqDiff, Nat.reduceAdd, Nat.reduceMul, Nat.reduceLeDiff, Nat.reduceSub, ↓reduceIte, reduceCtorEq, hbf, hbs, hbu, hg1, hg2, hbs2, hbu2, hbf, hbw, hbv, hbs, hbu, hg1, hg2, hb11, hb12, hbs2, hbu2]
  repeat (refine And.intro (by omega) ?_)
  refine hq _ _ _ (by simp only [pickL, lk_cons, Int.reduceEq, Int.reduceLT, Int.reduceLE, Int.reduceToNat, Int.reduceNeg, Int.reduceAdd, Int.reduceSub, Nat.reduceEqDiff, Nat.reduceAdd, Nat.reduceMul, Nat.reduceLeDiff, Nat.reduceSub, ↓reduceIte, reduceCtorEq, if_true, if_false]; exact rfl) ?_
  clear hq q
  repeat' (first | refine wpL_seq ?_ | refine wpL_skip ?_ | refine wpL_label ?_ | refine wpL_scope ?_)
  refine wpL_region' [5, 8, 9, 11, 12, 92] fun q hq => ?_
  simp -implicitDefEqProofs (disch := omega) only [go_sem, Int.reduceEq, Int.reduceLT, Int.reduceLE, Int.reduceToNat, Int.reduceNeg, Int.reduceAdd, Int.reduceSub, Nat.reduceEqDiff, Nat.reduceAdd, Nat.reduceMul, Nat.reduceLeDiff, Nat.reduceSub, ↓reduceIte, reduceCtorEq, decide_true, eq_self, Bool.not_true, Bool.not_false, hbf, hbs, hbu, hg1, hg2, hbs2, hbu2, hbf, hbw, hbv, hbs, hbu, hg1, hg2, hb11, hb12, hbs2, hbu2]
  repeat (refine And.intro (by omega) ?_)
  refine gN_brw (.cons (Wk.bytes (stuff l) [] [] (by simp only [go_sem, hbf, hbs, hbu, hg1, hg2, hbs2, hbu2] <;> exact rfl) (by simp) rfl rfl) (.keep .nil)) (f17_bytes (stuff l) (stuff l) (by omega) (by omega)) rfl ?_
  simp -implicitDefEqProofs (disch := omega) only [go_sem, Int.reduceEq, Int.reduceLT, Int.reduceLE, Int.reduceToNat, Int.reduceNeg, Int.reduceAdd, Int.reduceSub, Nat.reduceEqDiff, Nat.reduceAdd, Nat.reduceMul, Nat.reduceLeDiff, Nat.reduceSub, ↓reduceIte, reduceCtorEq, decide_true, eq_self, Bool.not_true, Bool.not_false, hbf, hbs, hbu, hg1, hg2, hbs2, hbu2, hbf, hbw, hbv, hbs, hbu, hg1, hg2, hb11, hb12, hbs2, hbu2]
  refine gN_brw (.cons (Wk.bytes (un l) [] [] (by simp only [go_sem, hbf, hbs, hbu, hg1, hg2, hbs2, hbu2] <;> exact rfl) (by simp) rfl rfl) (.keep .nil)) (f17_bytes (un l) (un l) (by omega) (by omega)) rfl ?_
  simp -implicitDefEqProofs (disch := omega) only [go_sem, Int.reduceEq, Int.reduceLT, Int.reduceLE, Int.reduceToNat, Int.reduceNeg, Int.reduceAdd, Int.reduceSub, Nat.reduceEqDiff, Nat.reduceAdd, Nat.reduceMul, Nat.reduceLeDiff, Nat.reduceSub, ↓reduceIte, reduceCtorEq, decide_true, eq_self, Bool.not_true, Bool.not_false, hbf, hbs, hbu, hg1, hg2, hbs2, hbu2, hbf, hbw, hbv, hbs, hbu, hg1, hg2, hb11, hb12, hbs2, hbu2]
  refine hq _ _ _ (by simp only [pickL, lk_cons, Int.reduceEq, Int.reduceLT, Int.reduceLE, Int.reduceToNat, Int.reduceNeg, Int.reduceAdd, Int.reduceSub, Nat.reduceEqDiff, Nat.reduceAdd, Nat.reduceMul, Nat.reduceLeDiff, Nat.reduceSub, ↓reduceIte, reduceCtorEq, if_true, if_false]; exact rfl) ?_
  clear hq q
  repeat' (first | refine wpL_seq ?_ | refine wpL_skip ?_ | refine wpL_label ?_ | refine wpL_scope ?_)
  refine wpL_cond rfl (fun hc3 => ?_) (fun hc3 => ?_)
  · cases hc3
  clear hc3
  repeat' (first | refine wpL_seq ?_ | refine wpL_skip ?_ | refine wpL_label ?_ | refine wpL_scope ?_)
  refine wpL_region' [5, 9, 11, 12] fun q hq => ?_
  simp -implicitDefEqProofs (disch := omega) only [go_sem, Int.reduceEq, Int.reduceLT, Int.reduceLE, Int.reduceToNat, Int.reduceNeg, Int.reduceAdd, Int.reduceSub, Nat.reduceEqDiff, Nat.reduceAdd, Nat.reduceMul, Nat.reduceLeDiff, Nat.reduceSub, ↓reduceIte, reduceCtorEq, hbf, hbs, hbu, hg1, hg2, hbs2, hbu2, hbf, hbw, hbv, hbs, hbu, hg1, hg2, hb11, hb12, hbs2, hbu2]
  repeat (refine And.intro (by omega) ?_)
  refine gN_callH (f20_blot _ bs2 (stuff l) [] (by simp only [List.append_nil, go_sem, hbf, hbs, hbu, hg1, hg2, hbs2, hbu2] <;> exact rfl) (by omega)) ?_
  rintro _ _ ⟨rfl, rfl⟩
  simp -implicitDefEqProofs (disch := omega) only [go_sem, Int.reduceEq, Int.reduceLT, Int.reduceLE, Int.reduceToNat, Int.reduceNeg, Int.reduceAdd, Int.reduceSub, Nat.reduceEqDiff, Nat.reduceAdd, Nat.reduceMul, Nat.reduceLeDiff, Nat.reduceSub, ↓reduceIte, reduceCtorEq, hbf, hbs, hbu, hg1, hg2, hbs2, hbu2, hbf, hbw, hbv, hbs, hbu, hg1, hg2, hb11, hb12, hbs2, hbu2]
  repeat (refine And.intro (by omega) ?_)
  refine hq _ _ _ (by simp only [pickL, lk_cons, Int.reduceEq, Int.reduceLT, Int.reduceLE, Int.reduceToNat, Int.reduceNeg, Int.reduceAdd, Int.reduceSub, Nat.reduceEqDiff, Nat.reduceAdd, Nat.reduceMul, Nat.reduceLeDiff, Nat.reduceSub, ↓reduceIte, reduceCtorEq, if_true, if_false]; exact rfl) ?_
  clear hq q
  repeat' (first | refine wpL_seq ?_ | refine wpL_skip ?_ | refine wpL_label ?_ | refine wpL_scope ?_)
  refine wpL_region' [2] fun q hq => ?_
  simp -implicitDefEqProofs (disch := omega) only [go_sem, Int.reduceEq, Int.reduceLT, Int.reduceLE, Int.reduceToNat, Int.reduceNeg, Int.reduceAdd, Int.reduceSub, Nat.reduceEqDiff, Nat.reduceAdd, Nat.reduceMul, Nat.reduceLeDiff, Nat.reduceSub, ↓reduceIte, reduceCtorEq, decide_true, eq_self, Bool.not_true, Bool.not_false, hbf, hbs, hbu, hg1, hg2, hbs2, hbu2, hbf, hbw, hbv, hbs, hbu, hg1, hg2, hb11, hb12, hbs2, hbu2]
  repeat (refine And.intro (by omega) ?_)
  refine gN_brw (.cons (Wk.bytes (un l) [] [] (by simp only [go_sem, hbf, hbs, hbu, hg1, hg2, hbs2, hbu2] <;> exact rfl) (by simp) rfl rfl) (.keep .nil)) (f17_bytes (un l) (un l) (by omega) (by omega)) rfl ?_
  simp -implicitDefEqProofs (disch := omega) only [go_sem, Int.reduceEq, Int.reduceLT, Int.reduceLE, Int.reduceToNat, Int.reduceNeg, Int.reduceAdd, Int.reduceSub, Nat.reduceEqDiff, Nat.reduceAdd, Nat.reduceMul, Nat.reduceLeDiff, Nat.reduceSub, ↓reduceIte, reduceCtorEq, decide_true, eq_self, Bool.not_true, Bool.not_false, hbf, hbs, hbu, hg1, hg2, hbs2, hbu2, hbf, hbw, hbv, hbs, hbu, hg1, hg2, hb11, hb12, hbs2, hbu2]
  refine gN_brw (.cons (Wk.aggL (.cons (Wk.bytes (rep (stuff l).length 33) [] [] (by simp only [go_sem, hbf, hbs, hbu, hg1, hg2, hbs2, hbu2] <;> exact rfl) (by simp) rfl (by simp [rep])) (.cons (Wk.bytes (rep (stuff l).length 33 ++ rep 64 (33 + 1)) [] [] (by simp only [go_sem, hbf, hbs, hbu, hg1, hg2, hbs2, hbu2] <;> exact rfl) (by simp) rfl (by simp [rep])) (.cons (.refl _) .nil)))) .nil) (f21_stands (stuff l).length 33 (by omega)) rfl ?_
  simp -implicitDefEqProofs (disch := omega) only [go_sem, Int.reduceEq, Int.reduceLT, Int.reduceLE, Int.reduceToNat, Int.reduceNeg, Int.reduceAdd, Int.reduceSub, Nat.reduceEqDiff, Nat.reduceAdd, Nat.reduceMul, Nat.reduceLeDiff, Nat.reduceSub, ↓reduceIte, reduceCtorEq, decide_true, eq_self, Bool.not_true, Bool.not_false, hbf, hbs, hbu, hg1, hg2, hbs2, hbu2, hbf, hbw, hbv, hbs, hbu, hg1, hg2, hb11, hb12, hbs2, hbu2]
  refine gN_brw (.cons (Wk.aggL (.cons (Wk.bytes (rep (un l).length 67) [] [] (by simp only [go_sem, hbf, hbs, hbu, hg1, hg2, hbs2, hbu2] <;> exact rfl) (by simp) rfl (by simp [rep])) (.cons (Wk.bytes (rep (un l).length 67 ++ rep 64 (67 + 1)) [] [] (by simp only [go_sem, hbf, hbs, hbu, hg1, hg2, hbs2, hbu2] <;> exact rfl) (by simp) rfl (by simp [rep])) (.cons (.refl _) .nil)))) .nil) (f21_stands (un l).length 67 (by omega)) rfl ?_
  simp -implicitDefEqProofs (disch := omega) only [go_sem, Int.reduceEq, Int.reduceLT, Int.reduceLE, Int.reduceToNat, Int.reduceNeg, Int.reduceAdd, Int.reduceSub, Nat.reduceEqDiff, Nat.reduceAdd, Nat.reduceMul, Nat.reduceLeDiff, Nat.reduceSub, ↓reduceIte, reduceCtorEq, decide_true, eq_self, Bool.not_true, Bool.not_false, hbf, hbs, hbu, hg1, hg2, hbs2, hbu2, hbf, hbw, hbv, hbs, hbu, hg1, hg2, hb11, hb12, hbs2, hbu2]
  refine hq _ _ _ (by simp only [pickL, lk_cons, Int.reduceEq, Int.reduceLT, Int.reduceLE, Int.reduceToNat, Int.reduceNeg, Int.reduceAdd, Int.reduceSub, Nat.reduceEqDiff, Nat.reduceAdd, Nat.reduceMul, Nat.reduceLeDiff, Nat.reduceSub, ↓reduceIte, reduceCtorEq, if_true, if_false]; exact rfl) ?_
  clear hq q
  repeat' (first | refine wpL_seq ?_ | refine wpL_skip ?_ | refine wpL_label ?_ | refine wpL_scope ?_)
  refine wpL_ret (hK' _ _ _ _ (.inr rfl) (resTo (rs' := [.tmp 2]) rfl (by simp only [go_sem, Int.reduceEq, Int.reduceLT, Int.reduceLE, Int.reduceToNat, Int.reduceNeg, Int.reduceAdd, Int.reduceSub, Nat.reduceEqDiff, Nat.reduceAdd, Nat.reduceMul, Nat.reduceLeDiff, Nat.reduceSub, ↓reduceIte, reduceCtorEq, hbf, hbw, hbv, hbs, hbu, hg1, hg2, hb11, hb12, hbs2, hbu2]; exact rfl)) ?_)
  rfl
end Go.Proofs.YtindglcpailjgaaDoor.Am.W
