/- Room whose heads are written; spoiling. -/
import Derived.Test.YtdchdlabdokjnaaH41
import Derived.Test.YtdchdlabdokjnaaH9
namespace Go.Proofs.Ytdchdlabdokjnaa.Am.H
set_option linter.unusedSectionVars false
open Go Go.Proofs Am
set_option linter.unusedVariables false
set_option linter.unusedSimpArgs false
set_option maxRecDepth 100000
attribute [local irreducible] gO gN gW gdO

/-- A room whose heads lie in blocks of their own. -/
def roomO (t : Tables) (n1 n2 n3 : Nat) (ws : List (BitVec 64)) (a b c : Nat) : List AV :=
  [.rs 5 ((t.groups ++ [markG]).map Group.cells), .rs 4 ((t.confs ++ [markC]).map Conf.cells), .sl a 0 (n1 + 1) 1, .sl b 0 (n2 + 1) 1, .sl c 0 (n3 + 1) 1, .rs 1 ((ws ++ [777#64]).map c64)]
theorem flat1_ci (l : List Int) : flat1 .i64 l = l.map ci := by
  induction l with
  | nil => rfl
  | cons x l ih => rw [List.map_cons, ← ih]; rfl
theorem flat1_di (l : List Int) : flat1 .i32 l = l.map di := (di_flat l).symm
theorem f12_roomO (t : Tables) (h : Hd) (ws : List (BitVec 64)) (w : AV) (hw : ∀ h, SrcV h 1 w ws.length (ws.map c64).flatten) (ht : SmallT t) (hs : SmallH h) (hn : ws.length * 8 ≤ 140737488351232) :
    wpH Try.prog 12 [t.av, h.av, w] Heap.emp (OwnF3 (fun a b c => .agg (roomO t h.aspect.length h.ins.length h.away.length ws a b c)) ((h.aspect ++ [-7]).map ci) 3 ((h.ins ++ [-7]).map di) 21 ((h.away ++ [-7]).map di) 21) := by
  have g1 := ht.g
  have g2 := ht.c
  have h1 := hs.a
  have h2 := hs.i
  have h3 := hs.w
  refine wpH.le (wpH_frzD ?_)
  refine wpH_intro (fn := Try.f12) rfl rfl (by decide) (by kernel_rfl) fun K' hK' => ?_
  repeat' (first | refine wpL_seq ?_ | refine wpL_skip ?_ | refine wpL_label ?_ | refine wpL_scope ?_)
  refine wpL_region' [2, 3, 4, 6] fun q hq => ?_
  simp -implicitDefEqProofs (disch := omega) only [go_sem, Int.reduceEq, Int.reduceLT, Int.reduceLE, Int.reduceToNat, Int.reduceNeg, Int.reduceAdd, Int.reduceSub, Nat.reduceEqDiff, Nat.reduceAdd, Nat.reduceMul, Nat.reduceLeDiff, Nat.reduceSub, ↓reduceIte, reduceCtorEq, Tables.av, Tables.cells, Hd.av, Hd.cells]
  repeat (refine And.intro (by omega) ?_)
  refine gN_new fun b3 hb3 => ?_
  try simp only [newIn_put, newIn_upd] at hb3
  simp -implicitDefEqProofs (disch := omega) only [go_sem, Int.reduceEq, Int.reduceLT, Int.reduceLE, Int.reduceToNat, Int.reduceNeg, Int.reduceAdd, Int.reduceSub, Nat.reduceEqDiff, Nat.reduceAdd, Nat.reduceMul, Nat.reduceLeDiff, Nat.reduceSub, ↓reduceIte, reduceCtorEq, Tables.av, Tables.cells, Hd.av, Hd.cells, hb3]
  repeat (refine And.intro (by omega) ?_)
  refine gN_new fun b4 hb4 => ?_
  try simp only [newIn_put, newIn_upd] at hb4
  simp -implicitDefEqProofs (disch := omega) only [go_sem, Int.reduceEq, Int.reduceLT, Int.reduceLE, Int.reduceToNat, Int.reduceNeg, Int.reduceAdd, Int.reduceSub, Nat.reduceEqDiff, Nat.reduceAdd, Nat.reduceMul, Nat.reduceLeDiff, Nat.reduceSub, ↓reduceIte, reduceCtorEq, Tables.av, Tables.cells, Hd.av, Hd.cells, hb3, hb4]
  repeat (refine And.intro (by omega) ?_)
  refine gN_new fun b6 hb6 => ?_
  try simp only [newIn_put, newIn_upd] at hb6
  simp -implicitDefEqProofs (disch := omega) only [go_sem, Int.reduceEq, Int.reduceLT, Int.reduceLE, Int.reduceToNat, Int.reduceNeg, Int.reduceAdd, Int.reduceSub, Nat.reduceEqDiff, Nat.reduceAdd, Nat.reduceMul, Nat.reduceLeDiff, Nat.reduceSub, ↓reduceIte, reduceCtorEq, Tables.av, Tables.cells, Hd.av, Hd.cells, hb3, hb4, hb6]
  repeat (refine And.intro (by omega) ?_)
  refine hq _ _ _ (by simp only [pickL, lk_cons, Nat.reduceEqDiff, ↓reduceIte]; exact rfl) ?_
  clear hq q
  repeat' (first | refine wpL_seq ?_ | refine wpL_skip ?_ | refine wpL_label ?_ | refine wpL_scope ?_)
  refine wpL_region' [2, 3, 4, 6] fun q hq => ?_
  simp -implicitDefEqProofs (disch := omega) only [go_sem, Int.reduceEq, Int.reduceLT, Int.reduceLE, Int.reduceToNat, Int.reduceNeg, Int.reduceAdd, Int.reduceSub, Nat.reduceEqDiff, Nat.reduceAdd, Nat.reduceMul, Nat.reduceLeDiff, Nat.reduceSub, ↓reduceIte, reduceCtorEq, hb3, hb4, hb6]
  repeat (refine And.intro (by omega) ?_)
  refine gN_own2 (f42_copy t ht) fun bg bc hbg hbc => ?_
  simp only [newIn_put] at hbg hbc
  simp -implicitDefEqProofs (disch := omega) only [go_sem, Int.reduceEq, Int.reduceLT, Int.reduceLE, Int.reduceToNat, Int.reduceNeg, Int.reduceAdd, Int.reduceSub, Nat.reduceEqDiff, Nat.reduceAdd, Nat.reduceMul, Nat.reduceLeDiff, Nat.reduceSub, ↓reduceIte, reduceCtorEq, hb3, hb4, hb6, hbg, hbc]
  repeat (refine And.intro (by omega) ?_)
  refine hq _ _ _ (by simp only [pickL, lk_cons, Nat.reduceEqDiff, ↓reduceIte]; exact rfl) ?_
  clear hq q
  repeat' (first | refine wpL_seq ?_ | refine wpL_skip ?_ | refine wpL_label ?_ | refine wpL_scope ?_)
  refine wpL_region' [2, 3, 4, 6] fun q hq => ?_
  simp -implicitDefEqProofs (disch := omega) only [go_sem, Int.reduceEq, Int.reduceLT, Int.reduceLE, Int.reduceToNat, Int.reduceNeg, Int.reduceAdd, Int.reduceSub, Nat.reduceEqDiff, Nat.reduceAdd, Nat.reduceMul, Nat.reduceLeDiff, Nat.reduceSub, ↓reduceIte, reduceCtorEq, hb3, hb4, hb6, hbg, hbc]
  repeat (refine And.intro (by omega) ?_)
  refine gN_own3 (f37_copy h hs) fun ba bi bw hba hbi hbw => ?_
  simp only [newIn_put, newIn_upd] at hba hbi hbw
  simp -implicitDefEqProofs (disch := omega) only [go_sem, Int.reduceEq, Int.reduceLT, Int.reduceLE, Int.reduceToNat, Int.reduceNeg, Int.reduceAdd, Int.reduceSub, Nat.reduceEqDiff, Nat.reduceAdd, Nat.reduceMul, Nat.reduceLeDiff, Nat.reduceSub, ↓reduceIte, reduceCtorEq, hb3, hb4, hb6, hbg, hbc, hba, hbi, hbw]
  repeat (refine And.intro (by omega) ?_)
  refine hq _ _ _ (by simp only [pickL, lk_cons, Nat.reduceEqDiff, ↓reduceIte]; exact rfl) ?_
  clear hq q
  repeat' (first | refine wpL_seq ?_ | refine wpL_skip ?_ | refine wpL_label ?_ | refine wpL_scope ?_)
  refine wpL_draw' [6] [0, 2, 5, 7, 11, 15, 19, 24, 1, 6, 12, 16, 20, 3, 4, 8, 9, 10, 13, 14, 17, 18, 21, 22, 23, 25, 26, 27, 28, 29] [] [false, false, false, false, false, false, false, false, false, false, false, false, false, false, true, false, true, false, false, true, false, true] (by kernel_rfl) (by kernel_rfl) (by kernel_rfl) fun q hq => ?_
  simp -implicitDefEqProofs (disch := omega) only [go_sem, Int.reduceEq, Int.reduceLT, Int.reduceLE, Int.reduceToNat, Int.reduceNeg, Int.reduceAdd, Int.reduceSub, Nat.reduceEqDiff, Nat.reduceAdd, Nat.reduceMul, Nat.reduceLeDiff, Nat.reduceSub, ↓reduceIte, reduceCtorEq, hb3, hb4, hb6, hbg, hbc, hba, hbi, hbw]
  repeat (refine And.intro (by omega) ?_)
  refine gN_new fun b14 hb14 => ?_
  try simp only [newIn_put, newIn_upd] at hb14
  simp -implicitDefEqProofs (disch := omega) only [go_sem, Int.reduceEq, Int.reduceLT, Int.reduceLE, Int.reduceToNat, Int.reduceNeg, Int.reduceAdd, Int.reduceSub, Nat.reduceEqDiff, Nat.reduceAdd, Nat.reduceMul, Nat.reduceLeDiff, Nat.reduceSub, ↓reduceIte, reduceCtorEq, hb3, hb4, hb6, hbg, hbc, hba, hbi, hbw, hb14]
  repeat (refine And.intro (by omega) ?_)
  refine gN_appV ti22 rfl ti54 rfl (by decide) (SrcV.sl (by simp only [go_sem, hb3, hb4, hb6, hbg, hbc, hba, hbi, hbw, hb14] <;> exact rfl) rfl rfl) (by simp only [go_sem, hb3, hb4, hb6, hbg, hbc, hba, hbi, hbw, hb14] <;> exact rfl) ((src_map Group.len Group.leaf Heap.emp _).cells) (by dsimp only; omega) (by simp only [maxInt]; omega) fun b15 hb15 => ?_
  try simp only [go_sem, hb3, hb4, hb6, hbg, hbc, hba, hbi, hbw, hb14] at hb15
  simp -implicitDefEqProofs (disch := omega) only [go_sem, Int.reduceEq, Int.reduceLT, Int.reduceLE, Int.reduceToNat, Int.reduceNeg, Int.reduceAdd, Int.reduceSub, Nat.reduceEqDiff, Nat.reduceAdd, Nat.reduceMul, Nat.reduceLeDiff, Nat.reduceSub, ↓reduceIte, reduceCtorEq, hb3, hb4, hb6, hbg, hbc, hba, hbi, hbw, hb14, hb15]
  repeat (refine And.intro (by omega) ?_)
  refine gN_new fun b19 hb19 => ?_
  try simp only [newIn_put, newIn_upd] at hb19
  simp -implicitDefEqProofs (disch := omega) only [go_sem, Int.reduceEq, Int.reduceLT, Int.reduceLE, Int.reduceToNat, Int.reduceNeg, Int.reduceAdd, Int.reduceSub, Nat.reduceEqDiff, Nat.reduceAdd, Nat.reduceMul, Nat.reduceLeDiff, Nat.reduceSub, ↓reduceIte, reduceCtorEq, hb3, hb4, hb6, hbg, hbc, hba, hbi, hbw, hb14, hb15, hb19]
  repeat (refine And.intro (by omega) ?_)
  refine gN_appV ti23 rfl ti56 rfl (by decide) (SrcV.sl (by simp only [go_sem, hb3, hb4, hb6, hbg, hbc, hba, hbi, hbw, hb14, hb15, hb19] <;> exact rfl) rfl rfl) (by simp only [go_sem, hb3, hb4, hb6, hbg, hbc, hba, hbi, hbw, hb14, hb15, hb19] <;> exact rfl) ((src_map Conf.len Conf.leaf Heap.emp _).cells) (by dsimp only; omega) (by simp only [maxInt]; omega) fun b20 hb20 => ?_
  try simp only [go_sem, hb3, hb4, hb6, hbg, hbc, hba, hbi, hbw, hb14, hb15, hb19] at hb20
  simp -implicitDefEqProofs (disch := omega) only [go_sem, Int.reduceEq, Int.reduceLT, Int.reduceLE, Int.reduceToNat, Int.reduceNeg, Int.reduceAdd, Int.reduceSub, Nat.reduceEqDiff, Nat.reduceAdd, Nat.reduceMul, Nat.reduceLeDiff, Nat.reduceSub, ↓reduceIte, reduceCtorEq, hb3, hb4, hb6, hbg, hbc, hba, hbi, hbw, hb14, hb15, hb19, hb20]
  repeat (refine And.intro (by omega) ?_)
  refine gN_new fun b24 hb24 => ?_
  try simp only [newIn_put, newIn_upd] at hb24
  simp -implicitDefEqProofs (disch := omega) only [go_sem, Int.reduceEq, Int.reduceLT, Int.reduceLE, Int.reduceToNat, Int.reduceNeg, Int.reduceAdd, Int.reduceSub, Nat.reduceEqDiff, Nat.reduceAdd, Nat.reduceMul, Nat.reduceLeDiff, Nat.reduceSub, ↓reduceIte, reduceCtorEq, hb3, hb4, hb6, hbg, hbc, hba, hbi, hbw, hb14, hb15, hb19, hb20, hb24]
  repeat (refine And.intro (by omega) ?_)
  refine gN_appV ti26 rfl ti3 rfl (by decide) (SrcV.sl (by simp only [go_sem, hb3, hb4, hb6, hbg, hbc, hba, hbi, hbw, hb14, hb15, hb19, hb20, hb24] <;> exact rfl) rfl rfl) (by simp only [go_sem, hb3, hb4, hb6, hbg, hbc, hba, hbi, hbw, hb14, hb15, hb19, hb20, hb24] <;> exact rfl) ((src_map (c1_len _) (c1_leaf _) Heap.emp _).cells) (by dsimp only; omega) (by simp only [maxInt]; omega) fun b25 hb25 => ?_
  try simp only [go_sem, hb3, hb4, hb6, hbg, hbc, hba, hbi, hbw, hb14, hb15, hb19, hb20, hb24] at hb25
  simp -implicitDefEqProofs (disch := omega) only [go_sem, Int.reduceEq, Int.reduceLT, Int.reduceLE, Int.reduceToNat, Int.reduceNeg, Int.reduceAdd, Int.reduceSub, Nat.reduceEqDiff, Nat.reduceAdd, Nat.reduceMul, Nat.reduceLeDiff, Nat.reduceSub, ↓reduceIte, reduceCtorEq, hb3, hb4, hb6, hbg, hbc, hba, hbi, hbw, hb14, hb15, hb19, hb20, hb24, hb25]
  repeat (refine And.intro (by omega) ?_)
  refine gN_new fun b28 hb28 => ?_
  try simp only [newIn_put, newIn_upd] at hb28
  simp -implicitDefEqProofs (disch := omega) only [go_sem, Int.reduceEq, Int.reduceLT, Int.reduceLE, Int.reduceToNat, Int.reduceNeg, Int.reduceAdd, Int.reduceSub, Nat.reduceEqDiff, Nat.reduceAdd, Nat.reduceMul, Nat.reduceLeDiff, Nat.reduceSub, ↓reduceIte, reduceCtorEq, hb3, hb4, hb6, hbg, hbc, hba, hbi, hbw, hb14, hb15, hb19, hb20, hb24, hb25, hb28]
  repeat (refine And.intro (by omega) ?_)
  refine gN_appV ti27 rfl ti21 rfl (by decide) (SrcV.sl (by simp only [go_sem, hb3, hb4, hb6, hbg, hbc, hba, hbi, hbw, hb14, hb15, hb19, hb20, hb24, hb25, hb28] <;> exact rfl) rfl rfl) (by simp only [go_sem, hb3, hb4, hb6, hbg, hbc, hba, hbi, hbw, hb14, hb15, hb19, hb20, hb24, hb25, hb28] <;> exact rfl) ((src_map (c1_len _) (c1_leaf _) Heap.emp _).cells) (by dsimp only; omega) (by simp only [maxInt]; omega) fun b29 hb29 => ?_
  try simp only [go_sem, hb3, hb4, hb6, hbg, hbc, hba, hbi, hbw, hb14, hb15, hb19, hb20, hb24, hb25, hb28] at hb29
  simp -implicitDefEqProofs (disch := omega) only [go_sem, Int.reduceEq, Int.reduceLT, Int.reduceLE, Int.reduceToNat, Int.reduceNeg, Int.reduceAdd, Int.reduceSub, Nat.reduceEqDiff, Nat.reduceAdd, Nat.reduceMul, Nat.reduceLeDiff, Nat.reduceSub, ↓reduceIte, reduceCtorEq, hb3, hb4, hb6, hbg, hbc, hba, hbi, hbw, hb14, hb15, hb19, hb20, hb24, hb25, hb28, hb29]
  repeat (refine And.intro (by omega) ?_)
  refine gN_new fun b32 hb32 => ?_
  try simp only [newIn_put, newIn_upd] at hb32
  simp -implicitDefEqProofs (disch := omega) only [go_sem, Int.reduceEq, Int.reduceLT, Int.reduceLE, Int.reduceToNat, Int.reduceNeg, Int.reduceAdd, Int.reduceSub, Nat.reduceEqDiff, Nat.reduceAdd, Nat.reduceMul, Nat.reduceLeDiff, Nat.reduceSub, ↓reduceIte, reduceCtorEq, hb3, hb4, hb6, hbg, hbc, hba, hbi, hbw, hb14, hb15, hb19, hb20, hb24, hb25, hb28, hb29, hb32]
  repeat (refine And.intro (by omega) ?_)
  refine gN_appV ti27 rfl ti21 rfl (by decide) (SrcV.sl (by simp only [go_sem, hb3, hb4, hb6, hbg, hbc, hba, hbi, hbw, hb14, hb15, hb19, hb20, hb24, hb25, hb28, hb29, hb32] <;> exact rfl) rfl rfl) (by simp only [go_sem, hb3, hb4, hb6, hbg, hbc, hba, hbi, hbw, hb14, hb15, hb19, hb20, hb24, hb25, hb28, hb29, hb32] <;> exact rfl) ((src_map (c1_len _) (c1_leaf _) Heap.emp _).cells) (by dsimp only; omega) (by simp only [maxInt]; omega) fun b33 hb33 => ?_
  try simp only [go_sem, hb3, hb4, hb6, hbg, hbc, hba, hbi, hbw, hb14, hb15, hb19, hb20, hb24, hb25, hb28, hb29, hb32] at hb33
  simp -implicitDefEqProofs (disch := omega) only [go_sem, Int.reduceEq, Int.reduceLT, Int.reduceLE, Int.reduceToNat, Int.reduceNeg, Int.reduceAdd, Int.reduceSub, Nat.reduceEqDiff, Nat.reduceAdd, Nat.reduceMul, Nat.reduceLeDiff, Nat.reduceSub, ↓reduceIte, reduceCtorEq, hb3, hb4, hb6, hbg, hbc, hba, hbi, hbw, hb14, hb15, hb19, hb20, hb24, hb25, hb28, hb29, hb32, hb33]
  repeat (refine And.intro (by omega) ?_)
  refine gN_appN ti31 rfl ti30 rfl (by decide) (hw _) (by dsimp only; omega) (by simp only [maxInt]; omega) fun b36 hb36 => ?_
  try simp only [go_sem, hb3, hb4, hb6, hbg, hbc, hba, hbi, hbw, hb14, hb15, hb19, hb20, hb24, hb25, hb28, hb29, hb32, hb33] at hb36
  simp -implicitDefEqProofs (disch := omega) only [go_sem, Int.reduceEq, Int.reduceLT, Int.reduceLE, Int.reduceToNat, Int.reduceNeg, Int.reduceAdd, Int.reduceSub, Nat.reduceEqDiff, Nat.reduceAdd, Nat.reduceMul, Nat.reduceLeDiff, Nat.reduceSub, ↓reduceIte, reduceCtorEq, hb3, hb4, hb6, hbg, hbc, hba, hbi, hbw, hb14, hb15, hb19, hb20, hb24, hb25, hb28, hb29, hb32, hb33, hb36]
  repeat (refine And.intro (by omega) ?_)
  refine gN_new fun b37 hb37 => ?_
  try simp only [newIn_put, newIn_upd] at hb37
  simp -implicitDefEqProofs (disch := omega) only [go_sem, Int.reduceEq, Int.reduceLT, Int.reduceLE, Int.reduceToNat, Int.reduceNeg, Int.reduceAdd, Int.reduceSub, Nat.reduceEqDiff, Nat.reduceAdd, Nat.reduceMul, Nat.reduceLeDiff, Nat.reduceSub, ↓reduceIte, reduceCtorEq, hb3, hb4, hb6, hbg, hbc, hba, hbi, hbw, hb14, hb15, hb19, hb20, hb24, hb25, hb28, hb29, hb32, hb33, hb36, hb37]
  repeat (refine And.intro (by omega) ?_)
  refine gN_appV ti31 rfl ti30 rfl (by decide) (SrcV.sl (by simp only [go_sem, hb3, hb4, hb6, hbg, hbc, hba, hbi, hbw, hb14, hb15, hb19, hb20, hb24, hb25, hb28, hb29, hb32, hb33, hb36, hb37] <;> exact rfl) rfl rfl) (by simp only [go_sem, hb3, hb4, hb6, hbg, hbc, hba, hbi, hbw, hb14, hb15, hb19, hb20, hb24, hb25, hb28, hb29, hb32, hb33, hb36, hb37] <;> exact rfl) ((src_map c64_len c64_leaf Heap.emp _).cells) (by dsimp only; omega) (by simp only [maxInt]; omega) fun b38 hb38 => ?_
  try simp only [go_sem, hb3, hb4, hb6, hbg, hbc, hba, hbi, hbw, hb14, hb15, hb19, hb20, hb24, hb25, hb28, hb29, hb32, hb33, hb36, hb37] at hb38
  simp -implicitDefEqProofs (disch := omega) only [go_sem, Int.reduceEq, Int.reduceLT, Int.reduceLE, Int.reduceToNat, Int.reduceNeg, Int.reduceAdd, Int.reduceSub, Nat.reduceEqDiff, Nat.reduceAdd, Nat.reduceMul, Nat.reduceLeDiff, Nat.reduceSub, ↓reduceIte, reduceCtorEq, hb3, hb4, hb6, hbg, hbc, hba, hbi, hbw, hb14, hb15, hb19, hb20, hb24, hb25, hb28, hb29, hb32, hb33, hb36, hb37, hb38]
  repeat (refine And.intro (by omega) ?_)
  refine hq _ _ _ (by simp only [pickL, lk_cons, Nat.reduceEqDiff, ↓reduceIte]; exact rfl) ?_
  clear hq q
  repeat' (first | refine wpL_seq ?_ | refine wpL_skip ?_ | refine wpL_label ?_ | refine wpL_scope ?_)
  refine wpL_ret (hK' _ _ _ _ (.inr rfl) (resTo (rs' := [.cell 6 33]) rfl (by simp only [go_sem, Int.reduceEq, Int.reduceLT, Int.reduceLE, Int.reduceToNat, Int.reduceNeg, Int.reduceAdd, Int.reduceSub, Nat.reduceEqDiff, Nat.reduceAdd, Nat.reduceMul, Nat.reduceLeDiff, Nat.reduceSub, ↓reduceIte, reduceCtorEq, hb3, hb4, hb6, hbg, hbc, hba, hbi, hbw, hb14, hb15, hb19, hb20, hb24, hb25, hb28, hb29, hb32, hb33, hb36, hb37, hb38]; exact rfl)) ?_)
  refine ⟨[⟨b15, 5, t.groups.length + 1, (t.groups ++ [markG]).map Group.cells⟩, ⟨b20, 4, t.confs.length + 1, (t.confs ++ [markC]).map Conf.cells⟩, ⟨b38, 1, ws.length + 1, (ws ++ [777#64]).map c64⟩], .cons (by simp only [go_sem, hb3, hb4, hb6, hbg, hbc, hba, hbi, hbw, hb14, hb15, hb19, hb20, hb24, hb25, hb28, hb29, hb32, hb33, hb36, hb37, hb38] <;> exact rfl) rfl (Els.of Group.len _ (by simp [markG, Group.cells]) (by simp)) (by simp only [go_sem, hb3, hb4, hb6, hbg, hbc, hba, hbi, hbw, hb14, hb15, hb19, hb20, hb24, hb25, hb28, hb29, hb32, hb33, hb36, hb37, hb38]) (.cons (by simp only [go_sem, hb3, hb4, hb6, hbg, hbc, hba, hbi, hbw, hb14, hb15, hb19, hb20, hb24, hb25, hb28, hb29, hb32, hb33, hb36, hb37, hb38] <;> exact rfl) rfl (Els.of Conf.len _ (by simp [markC, Conf.cells]) (by simp)) (by simp only [go_sem, hb3, hb4, hb6, hbg, hbc, hba, hbi, hbw, hb14, hb15, hb19, hb20, hb24, hb25, hb28, hb29, hb32, hb33, hb36, hb37, hb38]) (.cons (by simp only [go_sem, hb3, hb4, hb6, hbg, hbc, hba, hbi, hbw, hb14, hb15, hb19, hb20, hb24, hb25, hb28, hb29, hb32, hb33, hb36, hb37, hb38] <;> exact rfl) rfl (Els.of c64_len _ (by simp [c64]) (by simp)) (by simp only [go_sem, hb3, hb4, hb6, hbg, hbc, hba, hbi, hbw, hb14, hb15, hb19, hb20, hb24, hb25, hb28, hb29, hb32, hb33, hb36, hb37, hb38]) (.nil))), ?_⟩
  simp only [go_sem, Int.reduceEq, Int.reduceLT, Int.reduceLE, Int.reduceToNat, Int.reduceNeg, Int.reduceAdd, Int.reduceSub, Nat.reduceEqDiff, Nat.reduceAdd, Nat.reduceMul, Nat.reduceLeDiff, Nat.reduceSub, ↓reduceIte, reduceCtorEq, hb3, hb4, hb6, hbg, hbc, hba, hbi, hbw, hb14, hb15, hb19, hb20, hb24, hb25, hb28, hb29, hb32, hb33, hb36, hb37, hb38]
  refine ⟨_, le3 (a := b25) (b := b29) (c := b33) (by simp only [go_sem, hb25, hb29, hb33, hb24, hb28, hb32, hb37] <;> exact rfl) (by simp only [go_sem, hb25, hb29, hb33, hb24, hb28, hb32, hb37] <;> exact rfl) (by simp only [go_sem, hb25, hb29, hb33, hb24, hb28, hb32, hb37] <;> exact rfl), b25, b29, b33, rfl, by simp only [go_sem, hb25, hb29, hb33, hb28, hb32], by simp only [go_sem, hb25, hb29, hb28], ?_⟩
  simp only [List.map_append, ← flat1_ci, ← flat1_di]
  rfl
theorem f14_opq (n1 n2 n3 a b c : Nat) (t : Tables) (ws : List (BitVec 64)) (h1 : n1 ≤ 9223372036854775806) (h2 : n2 ≤ 9223372036854775806) (h3 : n3 ≤ 9223372036854775806) :
    wpP Try.prog 14 [.agg (roomO t n1 n2 n3 ws a b c)] (.agg [.sl a 0 n1 1, .sl b 0 n2 1, .sl c 0 n3 1]) := by
  refine wpP_intro ?_
  refine wpH_intro (fn := Try.f14) rfl rfl (by decide) (by kernel_rfl) fun K' hK' => ?_
  repeat' (first | refine wpL_seq ?_ | refine wpL_skip ?_ | refine wpL_label ?_ | refine wpL_scope ?_)
  refine wpL_region' [1, 2] fun q hq => ?_
  simp -implicitDefEqProofs (disch := omega) only [go_sem, Int.reduceEq, Int.reduceLT, Int.reduceLE, Int.reduceToNat, Int.reduceNeg, Int.reduceAdd, Int.reduceSub, Nat.reduceEqDiff, Nat.reduceAdd, Nat.reduceMul, Nat.reduceLeDiff, Nat.reduceSub, ↓reduceIte, reduceCtorEq, roomO]
  repeat (refine And.intro (by omega) ?_)
  refine gN_new fun b1 hb1 => ?_
  try simp only [newIn_put, newIn_upd] at hb1
  simp -implicitDefEqProofs (disch := omega) only [go_sem, Int.reduceEq, Int.reduceLT, Int.reduceLE, Int.reduceToNat, Int.reduceNeg, Int.reduceAdd, Int.reduceSub, Nat.reduceEqDiff, Nat.reduceAdd, Nat.reduceMul, Nat.reduceLeDiff, Nat.reduceSub, ↓reduceIte, reduceCtorEq, roomO, hb1]
  repeat (refine And.intro (by omega) ?_)
  refine gN_new fun b2 hb2 => ?_
  try simp only [newIn_put, newIn_upd] at hb2
  simp -implicitDefEqProofs (disch := omega) only [go_sem, Int.reduceEq, Int.reduceLT, Int.reduceLE, Int.reduceToNat, Int.reduceNeg, Int.reduceAdd, Int.reduceSub, Nat.reduceEqDiff, Nat.reduceAdd, Nat.reduceMul, Nat.reduceLeDiff, Nat.reduceSub, ↓reduceIte, reduceCtorEq, roomO, hb1, hb2]
  repeat (refine And.intro (by omega) ?_)
  refine hq _ _ _ (by simp only [pickL, lk_cons, Nat.reduceEqDiff, ↓reduceIte]; exact rfl) ?_
  clear hq q
  refine wpL_frzP' 1 rfl (by simp only [go_sem, hb1, hb2]; exact rfl) rfl (by simp only [go_sem, Int.reduceEq, Int.reduceLT, Int.reduceLE, Int.reduceToNat, Int.reduceNeg, Int.reduceAdd, Int.reduceSub, Nat.reduceEqDiff, Nat.reduceAdd, Nat.reduceMul, Nat.reduceLeDiff, Nat.reduceSub, ↓reduceIte, reduceCtorEq]; exact rfl) (by simp only [go_sem, hb1, hb2]; exact rfl) ?_
  have e1 : ((n1 + 1 : Nat) : Int) - 1 = n1 := by omega
  have e2 : ((n2 + 1 : Nat) : Int) - 1 = n2 := by omega
  have e3 : ((n3 + 1 : Nat) : Int) - 1 = n3 := by omega
  repeat' (first | refine wpL_seq ?_ | refine wpL_skip ?_ | refine wpL_label ?_ | refine wpL_scope ?_)
  refine wpL_draw' [2] [0, 1, 3, 4, 9, 10, 12, 13, 18, 19, 21, 22, 2, 5, 6, 7, 8, 11, 14, 15, 16, 17, 20, 23, 24, 25, 26, 27, 28] [] [] (by kernel_rfl) (by kernel_rfl) (by kernel_rfl) fun q hq => ?_
  simp -implicitDefEqProofs (disch := omega) only [go_sem, Int.reduceEq, Int.reduceLT, Int.reduceLE, Int.reduceToNat, Int.reduceNeg, Int.reduceAdd, Int.reduceSub, Nat.reduceEqDiff, Nat.reduceAdd, Nat.reduceMul, Nat.reduceLeDiff, Nat.reduceSub, ↓reduceIte, reduceCtorEq, roomO, e1, e2, e3, hb2, Nat.sub_zero, hb1, hb2]
  repeat (refine And.intro (by omega) ?_)
  refine hq _ _ _ (by simp only [pickL, lk_cons, Nat.reduceEqDiff, ↓reduceIte]; exact rfl) ?_
  clear hq q
  repeat' (first | refine wpL_seq ?_ | refine wpL_skip ?_ | refine wpL_label ?_ | refine wpL_scope ?_)
  refine wpL_ret (hK' _ _ _ _ (.inr rfl) (resTo (rs' := [.cell 2 29]) rfl (by simp only [go_sem, Int.reduceEq, Int.reduceLT, Int.reduceLE, Int.reduceToNat, Int.reduceNeg, Int.reduceAdd, Int.reduceSub, Nat.reduceEqDiff, Nat.reduceAdd, Nat.reduceMul, Nat.reduceLeDiff, Nat.reduceSub, ↓reduceIte, reduceCtorEq, hb1, hb2]; exact rfl)) ?_)
  rfl
theorem f13_opq (n1 n2 n3 a b c : Nat) (t : Tables) (ws : List (BitVec 64)) (hs : SmallT t) : wpP Try.prog 13 [.agg (roomO t n1 n2 n3 ws a b c)] t.av := by
  have hg := hs.g
  have hc := hs.c
  refine wpP_intro ?_
  refine wpH_intro (fn := Try.f13) rfl rfl (by decide) (by kernel_rfl) fun K' hK' => ?_
  repeat' (first | refine wpL_seq ?_ | refine wpL_skip ?_ | refine wpL_label ?_ | refine wpL_scope ?_)
  refine wpL_region' [1, 2] fun q hq => ?_
  simp -implicitDefEqProofs (disch := omega) only [go_sem, Int.reduceEq, Int.reduceLT, Int.reduceLE, Int.reduceToNat, Int.reduceNeg, Int.reduceAdd, Int.reduceSub, Nat.reduceEqDiff, Nat.reduceAdd, Nat.reduceMul, Nat.reduceLeDiff, Nat.reduceSub, ↓reduceIte, reduceCtorEq, roomO]
  repeat (refine And.intro (by omega) ?_)
  refine gN_new fun b1 hb1 => ?_
  try simp only [newIn_put, newIn_upd] at hb1
  simp -implicitDefEqProofs (disch := omega) only [go_sem, Int.reduceEq, Int.reduceLT, Int.reduceLE, Int.reduceToNat, Int.reduceNeg, Int.reduceAdd, Int.reduceSub, Nat.reduceEqDiff, Nat.reduceAdd, Nat.reduceMul, Nat.reduceLeDiff, Nat.reduceSub, ↓reduceIte, reduceCtorEq, roomO, hb1]
  repeat (refine And.intro (by omega) ?_)
  refine gN_new fun b2 hb2 => ?_
  try simp only [newIn_put, newIn_upd] at hb2
  simp -implicitDefEqProofs (disch := omega) only [go_sem, Int.reduceEq, Int.reduceLT, Int.reduceLE, Int.reduceToNat, Int.reduceNeg, Int.reduceAdd, Int.reduceSub, Nat.reduceEqDiff, Nat.reduceAdd, Nat.reduceMul, Nat.reduceLeDiff, Nat.reduceSub, ↓reduceIte, reduceCtorEq, roomO, hb1, hb2]
  repeat (refine And.intro (by omega) ?_)
  refine hq _ _ _ (by simp only [pickL, lk_cons, Nat.reduceEqDiff, ↓reduceIte]; exact rfl) ?_
  clear hq q
  refine wpL_frzP' 1 rfl (by simp only [go_sem, hb1, hb2]; exact rfl) rfl (by simp only [go_sem, Int.reduceEq, Int.reduceLT, Int.reduceLE, Int.reduceToNat, Int.reduceNeg, Int.reduceAdd, Int.reduceSub, Nat.reduceEqDiff, Nat.reduceAdd, Nat.reduceMul, Nat.reduceLeDiff, Nat.reduceSub, ↓reduceIte, reduceCtorEq]; exact rfl) (by simp only [go_sem, hb1, hb2]; exact rfl) ?_
  have e1 : ((t.groups.length + 1 : Nat) : Int) - 1 = t.groups.length := by omega
  have e2 : ((t.confs.length + 1 : Nat) : Int) - 1 = t.confs.length := by omega
  repeat' (first | refine wpL_seq ?_ | refine wpL_skip ?_ | refine wpL_label ?_ | refine wpL_scope ?_)
  refine wpL_draw' [2] [0, 1, 3, 4, 9, 10, 12, 13, 2, 5, 6, 7, 8, 11, 14, 15, 16, 17, 18, 19] [] [] (by kernel_rfl) (by kernel_rfl) (by kernel_rfl) fun q hq => ?_
  simp -implicitDefEqProofs (disch := omega) only [go_sem, Int.reduceEq, Int.reduceLT, Int.reduceLE, Int.reduceToNat, Int.reduceNeg, Int.reduceAdd, Int.reduceSub, Nat.reduceEqDiff, Nat.reduceAdd, Nat.reduceMul, Nat.reduceLeDiff, Nat.reduceSub, ↓reduceIte, reduceCtorEq, roomO, List.length_map, List.length_append, e1, e2, hb2, Nat.sub_zero, take_app, hb1, hb2]
  repeat (refine And.intro (by omega) ?_)
  refine hq _ _ _ (by simp only [pickL, lk_cons, Nat.reduceEqDiff, ↓reduceIte]; exact rfl) ?_
  clear hq q
  repeat' (first | refine wpL_seq ?_ | refine wpL_skip ?_ | refine wpL_label ?_ | refine wpL_scope ?_)
  refine wpL_ret (hK' _ _ _ _ (.inr rfl) (resTo (rs' := [.cell 2 25]) rfl (by simp only [go_sem, Int.reduceEq, Int.reduceLT, Int.reduceLE, Int.reduceToNat, Int.reduceNeg, Int.reduceAdd, Int.reduceSub, Nat.reduceEqDiff, Nat.reduceAdd, Nat.reduceMul, Nat.reduceLeDiff, Nat.reduceSub, ↓reduceIte, reduceCtorEq, hb1, hb2]; exact rfl)) ?_)
  rfl
def spA (mark : Int) (n : Nat) : List AV := (List.range n).map fun i => .int .i64 (mark + (i : Nat))
def spI (mark : Int) (n : Nat) : List AV := (List.range n).map fun i => .int .i32 (IntKind.wrap .i32 (0 - mark - (i : Nat)))
def spW (mark : Int) (n : Nat) : List AV := (List.range n).map fun i => .int .i32 (IntKind.wrap .i32 (0 - mark - 100 - (i : Nat)))
theorem range_set {f : Nat → AV} {n i : Nat} {l : List AV} (hl : l.length = n) (ht : l.take i = (List.range i).map f) (hi : i < n) : (l.set i (f i)).take (i + 1) = (List.range (i + 1)).map f := by
  rw [take_set_succ (by omega), ht, List.range_succ, List.map_append]; rfl
theorem set_app {l r : List AV} {n i : Nat} {v : AV} (hl : l.length = n) (hi : i < n) : (l ++ r).take i ++ [v] ++ (l ++ r).drop (i + 1) = l.set i v ++ r := by
  rw [set_of_take (by simp; omega), List.set_append_left _ _ (by omega)]
theorem set_app' {l r : List AV} {n i : Nat} {v : AV} (hl : l.length = n) (hi : i < n) : (l ++ r).take i ++ v :: (l ++ r).drop (i + 1) = l.set i v ++ r := by
  rw [← set_app hl hi]; simp
theorem f35_spoilG (h : Heap) (a b c n1 n2 n3 : Nat) (m1 : Int) (A B C r1 r2 r3 : List AV) (hm : -2000000000 ≤ m1 ∧ m1 ≤ 2000000000) (hn1 : n1 ≤ 140737488351232) (hn2 : n2 ≤ 140737488351232) (hn3 : n3 ≤ 140737488351232)
    (h1 : h a = some ⟨.own, A ++ r1, 3, []⟩) (h2 : h b = some ⟨.own, B ++ r2, 21, []⟩) (h3 : h c = some ⟨.own, C ++ r3, 21, []⟩) (l1 : A.length = n1) (l2 : B.length = n2) (l3 : C.length = n3)
    (x1 : (b = a) = False ∧ (a = b) = False) (x2 : (c = a) = False ∧ (a = c) = False) (x3 : (c = b) = False ∧ (b = c) = False) :
    wpH Try.prog 35 [.agg [.sl a 0 n1 1, .sl b 0 n2 1, .sl c 0 n3 1], .int .i64 m1] h fun v h' => v = .tup [] ∧
      h' = ((h.upd a ⟨.own, spA m1 n1 ++ r1, 3, []⟩).upd b ⟨.own, spI m1 n2 ++ r2, 21, []⟩).upd c ⟨.own, spW m1 n3 ++ r3, 21, []⟩ := by
  refine wpH_intro (fn := Try.f35) rfl rfl (by decide) (by kernel_rfl) fun K' hK' => ?_
  repeat' (first | refine wpL_seq ?_ | refine wpL_skip ?_ | refine wpL_label ?_ | refine wpL_scope ?_)
  refine wpL_region' [1, 2] fun q hq => ?_
  simp -implicitDefEqProofs (disch := omega) only [go_sem, Int.reduceEq, Int.reduceLT, Int.reduceLE, Int.reduceToNat, Int.reduceNeg, Int.reduceAdd, Int.reduceSub, Nat.reduceEqDiff, Nat.reduceAdd, Nat.reduceMul, Nat.reduceLeDiff, Nat.reduceSub, ↓reduceIte, reduceCtorEq]
  repeat (refine And.intro (by omega) ?_)
  refine gN_new fun b2 hb2 => ?_
  try simp only [newIn_put, newIn_upd] at hb2
  simp -implicitDefEqProofs (disch := omega) only [go_sem, Int.reduceEq, Int.reduceLT, Int.reduceLE, Int.reduceToNat, Int.reduceNeg, Int.reduceAdd, Int.reduceSub, Nat.reduceEqDiff, Nat.reduceAdd, Nat.reduceMul, Nat.reduceLeDiff, Nat.reduceSub, ↓reduceIte, reduceCtorEq, hb2]
  repeat (refine And.intro (by omega) ?_)
  refine hq _ _ _ (by simp only [pickL, lk_cons, Nat.reduceEqDiff, ↓reduceIte]; exact rfl) ?_
  clear hq q
  refine wpL_frzP' 2 rfl (by simp only [go_sem, del_new hb2, hb2]; exact rfl) rfl (by simp only [go_sem, Int.reduceEq, Int.reduceLT, Int.reduceLE, Int.reduceToNat, Int.reduceNeg, Int.reduceAdd, Int.reduceSub, Nat.reduceEqDiff, Nat.reduceAdd, Nat.reduceMul, Nat.reduceLeDiff, Nat.reduceSub, ↓reduceIte, reduceCtorEq]; exact rfl) (by simp only [go_sem, del_new hb2, hb2]; exact rfl) ?_
  repeat' (first | refine wpL_seq ?_ | refine wpL_skip ?_ | refine wpL_label ?_ | refine wpL_scope ?_)
  refine wpL_region' [1, 2, 4] fun q hq => ?_
  simp -implicitDefEqProofs (disch := omega) only [go_sem, Int.reduceEq, Int.reduceLT, Int.reduceLE, Int.reduceToNat, Int.reduceNeg, Int.reduceAdd, Int.reduceSub, Nat.reduceEqDiff, Nat.reduceAdd, Nat.reduceMul, Nat.reduceLeDiff, Nat.reduceSub, ↓reduceIte, reduceCtorEq, hb2]
  repeat (refine And.intro (by omega) ?_)
  refine hq _ _ _ (by simp only [pickL, lk_cons, Nat.reduceEqDiff, ↓reduceIte]; exact rfl) ?_
  clear hq q
  repeat' (first | refine wpL_seq ?_ | refine wpL_skip ?_ | refine wpL_label ?_ | refine wpL_scope ?_)
  refine wpL_block fun k1 hn1 hx1 ho1 => ?_
  refine wpL_loop (fun j e h' => ∃ (i : Nat) (X : List AV), i ≤ n1 ∧ j = n1 - i ∧ X.length = n1 ∧ X.take i = (List.range i).map (fun i : Nat => .int .i64 (m1 + (i : Nat))) ∧ h' = h.upd a ⟨.own, X ++ r1, 3, []⟩ ∧
    e = lk [(1, .int .i64 m1), (2, .rp [.sl a 0 n1 1, .sl b 0 n2 1, .sl c 0 n3 1] 0), (4, .int .i64 i)]) n1 ⟨0, A, by omega, by omega, l1, rfl, (upd_id (h := h) (b := a) (by first | assumption | (simp only [upd_at, x1, x2, x3, if_false]; assumption))).symm, rfl⟩ ?_
  rintro j e h' ⟨i, X, hi, rfl, hX, hT, rfl, rfl⟩ k2 hn2 hx2
  repeat' (first | refine wpL_seq ?_ | refine wpL_skip ?_ | refine wpL_label ?_ | refine wpL_scope ?_)
  refine wpL_region' [1, 2, 4, 11] fun q hq => ?_
  simp -implicitDefEqProofs (disch := omega) only [go_sem, Int.reduceEq, Int.reduceLT, Int.reduceLE, Int.reduceToNat, Int.reduceNeg, Int.reduceAdd, Int.reduceSub, Nat.reduceEqDiff, Nat.reduceAdd, Nat.reduceMul, Nat.reduceLeDiff, Nat.reduceSub, ↓reduceIte, reduceCtorEq, hb2]
  repeat (refine And.intro (by omega) ?_)
  refine hq _ _ _ (by simp only [pickL, lk_cons, Nat.reduceEqDiff, ↓reduceIte]; exact rfl) ?_
  clear hq q
  repeat' (first | refine wpL_seq ?_ | refine wpL_skip ?_ | refine wpL_label ?_ | refine wpL_scope ?_)
  refine wpL_cond rfl (fun hc3 => ?_) (fun hc3 => ?_)
  · simp at hc3
    repeat' (first | refine wpL_seq ?_ | refine wpL_skip ?_ | refine wpL_label ?_ | refine wpL_scope ?_)
    refine wpL_block fun k4 hn4 hx4 ho4 => ?_
    repeat' (first | refine wpL_seq ?_ | refine wpL_skip ?_ | refine wpL_label ?_ | refine wpL_scope ?_)
    refine wpL_region' [1, 2, 4] fun q hq => ?_
    simp -implicitDefEqProofs (disch := omega) only [go_sem, Int.reduceEq, Int.reduceLT, Int.reduceLE, Int.reduceToNat, Int.reduceNeg, Int.reduceAdd, Int.reduceSub, Nat.reduceEqDiff, Nat.reduceAdd, Nat.reduceMul, Nat.reduceLeDiff, Nat.reduceSub, ↓reduceIte, reduceCtorEq, hX, List.length_append, set_app hX hc3, set_app' hX hc3, x1, x2, x3, hb2]
    repeat (refine And.intro (by omega) ?_)
    refine hq _ _ _ (by simp only [pickL, lk_cons, Nat.reduceEqDiff, ↓reduceIte]; exact rfl) ?_
    clear hq q
    repeat' (first | refine wpL_seq ?_ | refine wpL_skip ?_ | refine wpL_label ?_ | refine wpL_scope ?_)
    refine wpL_nil (hn4 _ _ ?_)
    repeat' (first | refine wpL_seq ?_ | refine wpL_skip ?_ | refine wpL_label ?_ | refine wpL_scope ?_)
    refine wpL_region' [1, 2, 4] fun q hq => ?_
    simp -implicitDefEqProofs (disch := omega) only [go_sem, Int.reduceEq, Int.reduceLT, Int.reduceLE, Int.reduceToNat, Int.reduceNeg, Int.reduceAdd, Int.reduceSub, Nat.reduceEqDiff, Nat.reduceAdd, Nat.reduceMul, Nat.reduceLeDiff, Nat.reduceSub, ↓reduceIte, reduceCtorEq, hb2]
    repeat (refine And.intro (by omega) ?_)
    refine hq _ _ _ (by simp only [pickL, lk_cons, Nat.reduceEqDiff, ↓reduceIte]; exact rfl) ?_
    clear hq q
    repeat' (first | refine wpL_seq ?_ | refine wpL_skip ?_ | refine wpL_label ?_ | refine wpL_scope ?_)
    exact wpL_nil (hn2 (n1 - (i + 1)) _ _ (by omega) ⟨i + 1, X.set i _, by omega, by omega, by simp [hX], range_set hX hT hc3, rfl, rfl⟩)
  simp at hc3
  obtain rfl : n1 = i := by omega
  rw [List.take_of_length_le (by omega)] at hT
  subst hT
  clear hX
  repeat' (first | refine wpL_seq ?_ | refine wpL_skip ?_ | refine wpL_label ?_ | refine wpL_scope ?_)
  refine wpL_exit (hx2 _ _ _ (by simp) (hx1 _ _ ?_))
  repeat' (first | refine wpL_seq ?_ | refine wpL_skip ?_ | refine wpL_label ?_ | refine wpL_scope ?_)
  refine wpL_region' [1, 2, 5] fun q hq => ?_
  simp -implicitDefEqProofs (disch := omega) only [go_sem, Int.reduceEq, Int.reduceLT, Int.reduceLE, Int.reduceToNat, Int.reduceNeg, Int.reduceAdd, Int.reduceSub, Nat.reduceEqDiff, Nat.reduceAdd, Nat.reduceMul, Nat.reduceLeDiff, Nat.reduceSub, ↓reduceIte, reduceCtorEq, hb2]
  repeat (refine And.intro (by omega) ?_)
  refine hq _ _ _ (by simp only [pickL, lk_cons, Nat.reduceEqDiff, ↓reduceIte]; exact rfl) ?_
  clear hq q
  repeat' (first | refine wpL_seq ?_ | refine wpL_skip ?_ | refine wpL_label ?_ | refine wpL_scope ?_)
  refine wpL_block fun k7 hn7 hx7 ho7 => ?_
  refine wpL_loop (fun j e h' => ∃ (i : Nat) (X : List AV), i ≤ n2 ∧ j = n2 - i ∧ X.length = n2 ∧ X.take i = (List.range i).map (fun i : Nat => .int .i32 (IntKind.wrap .i32 (0 - m1 - (i : Nat)))) ∧ h' = (h.upd a ⟨.own, spA m1 n1 ++ r1, 3, []⟩).upd b ⟨.own, X ++ r2, 21, []⟩ ∧
    e = lk [(1, .int .i64 m1), (2, .rp [.sl a 0 n1 1, .sl b 0 n2 1, .sl c 0 n3 1] 0), (5, .int .i64 i)]) n2 ⟨0, B, by omega, by omega, l2, rfl, (upd_id (h := (h.upd a ⟨.own, spA m1 n1 ++ r1, 3, []⟩)) (b := b) (by first | assumption | (simp only [upd_at, x1, x2, x3, if_false]; assumption))).symm, rfl⟩ ?_
  rintro j e h' ⟨i, X, hi, rfl, hX, hT, rfl, rfl⟩ k8 hn8 hx8
  repeat' (first | refine wpL_seq ?_ | refine wpL_skip ?_ | refine wpL_label ?_ | refine wpL_scope ?_)
  refine wpL_region' [1, 2, 5, 25] fun q hq => ?_
  simp -implicitDefEqProofs (disch := omega) only [go_sem, Int.reduceEq, Int.reduceLT, Int.reduceLE, Int.reduceToNat, Int.reduceNeg, Int.reduceAdd, Int.reduceSub, Nat.reduceEqDiff, Nat.reduceAdd, Nat.reduceMul, Nat.reduceLeDiff, Nat.reduceSub, ↓reduceIte, reduceCtorEq, hb2]
  repeat (refine And.intro (by omega) ?_)
  refine hq _ _ _ (by simp only [pickL, lk_cons, Nat.reduceEqDiff, ↓reduceIte]; exact rfl) ?_
  clear hq q
  repeat' (first | refine wpL_seq ?_ | refine wpL_skip ?_ | refine wpL_label ?_ | refine wpL_scope ?_)
  refine wpL_cond rfl (fun hc3 => ?_) (fun hc3 => ?_)
  · simp at hc3
    repeat' (first | refine wpL_seq ?_ | refine wpL_skip ?_ | refine wpL_label ?_ | refine wpL_scope ?_)
    refine wpL_block fun k10 hn10 hx10 ho10 => ?_
    repeat' (first | refine wpL_seq ?_ | refine wpL_skip ?_ | refine wpL_label ?_ | refine wpL_scope ?_)
    refine wpL_region' [1, 2, 5] fun q hq => ?_
    simp -implicitDefEqProofs (disch := omega) only [go_sem, Int.reduceEq, Int.reduceLT, Int.reduceLE, Int.reduceToNat, Int.reduceNeg, Int.reduceAdd, Int.reduceSub, Nat.reduceEqDiff, Nat.reduceAdd, Nat.reduceMul, Nat.reduceLeDiff, Nat.reduceSub, ↓reduceIte, reduceCtorEq, hX, List.length_append, set_app hX hc3, set_app' hX hc3, x1, x2, x3, hb2]
    repeat (refine And.intro (by omega) ?_)
    refine hq _ _ _ (by simp only [pickL, lk_cons, Nat.reduceEqDiff, ↓reduceIte]; exact rfl) ?_
    clear hq q
    repeat' (first | refine wpL_seq ?_ | refine wpL_skip ?_ | refine wpL_label ?_ | refine wpL_scope ?_)
    refine wpL_nil (hn10 _ _ ?_)
    repeat' (first | refine wpL_seq ?_ | refine wpL_skip ?_ | refine wpL_label ?_ | refine wpL_scope ?_)
    refine wpL_region' [1, 2, 5] fun q hq => ?_
    simp -implicitDefEqProofs (disch := omega) only [go_sem, Int.reduceEq, Int.reduceLT, Int.reduceLE, Int.reduceToNat, Int.reduceNeg, Int.reduceAdd, Int.reduceSub, Nat.reduceEqDiff, Nat.reduceAdd, Nat.reduceMul, Nat.reduceLeDiff, Nat.reduceSub, ↓reduceIte, reduceCtorEq, hb2]
    repeat (refine And.intro (by omega) ?_)
    refine hq _ _ _ (by simp only [pickL, lk_cons, Nat.reduceEqDiff, ↓reduceIte]; exact rfl) ?_
    clear hq q
    repeat' (first | refine wpL_seq ?_ | refine wpL_skip ?_ | refine wpL_label ?_ | refine wpL_scope ?_)
    exact wpL_nil (hn8 (n2 - (i + 1)) _ _ (by omega) ⟨i + 1, X.set i _, by omega, by omega, by simp [hX], range_set hX hT hc3, rfl, rfl⟩)
  simp at hc3
  obtain rfl : n2 = i := by omega
  rw [List.take_of_length_le (by omega)] at hT
  subst hT
  clear hX
  repeat' (first | refine wpL_seq ?_ | refine wpL_skip ?_ | refine wpL_label ?_ | refine wpL_scope ?_)
  refine wpL_exit (hx8 _ _ _ (by simp) (hx7 _ _ ?_))
  repeat' (first | refine wpL_seq ?_ | refine wpL_skip ?_ | refine wpL_label ?_ | refine wpL_scope ?_)
  refine wpL_region' [1, 2, 6] fun q hq => ?_
  simp -implicitDefEqProofs (disch := omega) only [go_sem, Int.reduceEq, Int.reduceLT, Int.reduceLE, Int.reduceToNat, Int.reduceNeg, Int.reduceAdd, Int.reduceSub, Nat.reduceEqDiff, Nat.reduceAdd, Nat.reduceMul, Nat.reduceLeDiff, Nat.reduceSub, ↓reduceIte, reduceCtorEq, hb2]
  repeat (refine And.intro (by omega) ?_)
  refine hq _ _ _ (by simp only [pickL, lk_cons, Nat.reduceEqDiff, ↓reduceIte]; exact rfl) ?_
  clear hq q
  repeat' (first | refine wpL_seq ?_ | refine wpL_skip ?_ | refine wpL_label ?_ | refine wpL_scope ?_)
  refine wpL_block fun k12 hn12 hx12 ho12 => ?_
  refine wpL_loop (fun j e h' => ∃ (i : Nat) (X : List AV), i ≤ n3 ∧ j = n3 - i ∧ X.length = n3 ∧ X.take i = (List.range i).map (fun i : Nat => .int .i32 (IntKind.wrap .i32 (0 - m1 - 100 - (i : Nat)))) ∧ h' = ((h.upd a ⟨.own, spA m1 n1 ++ r1, 3, []⟩).upd b ⟨.own, spI m1 n2 ++ r2, 21, []⟩).upd c ⟨.own, X ++ r3, 21, []⟩ ∧
    e = lk [(1, .int .i64 m1), (2, .rp [.sl a 0 n1 1, .sl b 0 n2 1, .sl c 0 n3 1] 0), (6, .int .i64 i)]) n3 ⟨0, C, by omega, by omega, l3, rfl, (upd_id (h := ((h.upd a ⟨.own, spA m1 n1 ++ r1, 3, []⟩).upd b ⟨.own, spI m1 n2 ++ r2, 21, []⟩)) (b := c) (by first | assumption | (simp only [upd_at, x1, x2, x3, if_false]; assumption))).symm, rfl⟩ ?_
  rintro j e h' ⟨i, X, hi, rfl, hX, hT, rfl, rfl⟩ k13 hn13 hx13
  repeat' (first | refine wpL_seq ?_ | refine wpL_skip ?_ | refine wpL_label ?_ | refine wpL_scope ?_)
  refine wpL_region' [1, 2, 6, 41] fun q hq => ?_
  simp -implicitDefEqProofs (disch := omega) only [go_sem, Int.reduceEq, Int.reduceLT, Int.reduceLE, Int.reduceToNat, Int.reduceNeg, Int.reduceAdd, Int.reduceSub, Nat.reduceEqDiff, Nat.reduceAdd, Nat.reduceMul, Nat.reduceLeDiff, Nat.reduceSub, ↓reduceIte, reduceCtorEq, hb2]
  repeat (refine And.intro (by omega) ?_)
  refine hq _ _ _ (by simp only [pickL, lk_cons, Nat.reduceEqDiff, ↓reduceIte]; exact rfl) ?_
  clear hq q
  repeat' (first | refine wpL_seq ?_ | refine wpL_skip ?_ | refine wpL_label ?_ | refine wpL_scope ?_)
  refine wpL_cond rfl (fun hc3 => ?_) (fun hc3 => ?_)
  · simp at hc3
    repeat' (first | refine wpL_seq ?_ | refine wpL_skip ?_ | refine wpL_label ?_ | refine wpL_scope ?_)
    refine wpL_block fun k15 hn15 hx15 ho15 => ?_
    repeat' (first | refine wpL_seq ?_ | refine wpL_skip ?_ | refine wpL_label ?_ | refine wpL_scope ?_)
    refine wpL_region' [1, 2, 6] fun q hq => ?_
    simp -implicitDefEqProofs (disch := omega) only [go_sem, Int.reduceEq, Int.reduceLT, Int.reduceLE, Int.reduceToNat, Int.reduceNeg, Int.reduceAdd, Int.reduceSub, Nat.reduceEqDiff, Nat.reduceAdd, Nat.reduceMul, Nat.reduceLeDiff, Nat.reduceSub, ↓reduceIte, reduceCtorEq, hX, List.length_append, set_app hX hc3, set_app' hX hc3, x1, x2, x3, hb2]
    repeat (refine And.intro (by omega) ?_)
    refine hq _ _ _ (by simp only [pickL, lk_cons, Nat.reduceEqDiff, ↓reduceIte]; exact rfl) ?_
    clear hq q
    repeat' (first | refine wpL_seq ?_ | refine wpL_skip ?_ | refine wpL_label ?_ | refine wpL_scope ?_)
    refine wpL_nil (hn15 _ _ ?_)
    repeat' (first | refine wpL_seq ?_ | refine wpL_skip ?_ | refine wpL_label ?_ | refine wpL_scope ?_)
    refine wpL_region' [1, 2, 6] fun q hq => ?_
    simp -implicitDefEqProofs (disch := omega) only [go_sem, Int.reduceEq, Int.reduceLT, Int.reduceLE, Int.reduceToNat, Int.reduceNeg, Int.reduceAdd, Int.reduceSub, Nat.reduceEqDiff, Nat.reduceAdd, Nat.reduceMul, Nat.reduceLeDiff, Nat.reduceSub, ↓reduceIte, reduceCtorEq, hb2]
    repeat (refine And.intro (by omega) ?_)
    refine hq _ _ _ (by simp only [pickL, lk_cons, Nat.reduceEqDiff, ↓reduceIte]; exact rfl) ?_
    clear hq q
    repeat' (first | refine wpL_seq ?_ | refine wpL_skip ?_ | refine wpL_label ?_ | refine wpL_scope ?_)
    exact wpL_nil (hn13 (n3 - (i + 1)) _ _ (by omega) ⟨i + 1, X.set i _, by omega, by omega, by simp [hX], range_set hX hT hc3, rfl, rfl⟩)
  simp at hc3
  obtain rfl : n3 = i := by omega
  rw [List.take_of_length_le (by omega)] at hT
  subst hT
  clear hX
  repeat' (first | refine wpL_seq ?_ | refine wpL_skip ?_ | refine wpL_label ?_ | refine wpL_scope ?_)
  refine wpL_exit (hx13 _ _ _ (by simp) (hx12 _ _ ?_))
  repeat' (first | refine wpL_seq ?_ | refine wpL_skip ?_ | refine wpL_label ?_ | refine wpL_scope ?_)
  refine wpL_nil (hK' _ _ _ _ (.inl rfl) (resTo (rs' := []) rfl rfl) ?_)
  exact ⟨rfl, rfl⟩
end Go.Proofs.Ytdchdlabdokjnaa.Am.H
