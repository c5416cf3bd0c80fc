/- The law HeadsStep answers true. -/
import Derived.Test.YtdchdlabdokjnaaH43
namespace Go.Proofs.Ytdchdlabdokjnaa.Am.H
set_option linter.unusedSectionVars false
open Go Go.Proofs Am
set_option linter.unusedVariables false
set_option linter.unusedSimpArgs false
set_option maxRecDepth 100000
attribute [local irreducible] gO gN gW gdO

theorem wkH {h : Heap} {b : Nat} {l : List Int} {ty : Nat} {k : IntKind} (hb : h b = some ⟨.own, (l ++ [-7]).map (AV.int k), ty, []⟩) : Wk h.view (fun _ => False) (.sl b 0 l.length 1) (.rs 1 (l.map (c1 k))) :=
  Wk.cut l [] [AV.int k (-7)] hb (by simp [ck_flat]) rfl rfl (c1_len k)
theorem wkHds {hp : Heap} {a b c : Nat} {h : Hd} (h1 : hp a = some ⟨.own, (h.aspect ++ [-7]).map ci, 3, []⟩) (h2 : hp b = some ⟨.own, (h.ins ++ [-7]).map di, 21, []⟩) (h3 : hp c = some ⟨.own, (h.away ++ [-7]).map di, 21, []⟩) :
    Wk hp.view (fun _ => False) (.agg [.sl a 0 h.aspect.length 1, .sl b 0 h.ins.length 1, .sl c 0 h.away.length 1]) h.av :=
  Wk.aggL (.cons (wkH h1) (.cons (wkH h2) (.cons (wkH h3) .nil)))
theorem wkRoom {hp : Heap} {a b c : Nat} {h : Hd} {t : Tables} {ws : List (BitVec 64)} (h1 : hp a = some ⟨.own, (h.aspect ++ [-7]).map ci, 3, []⟩) (h2 : hp b = some ⟨.own, (h.ins ++ [-7]).map di, 21, []⟩) (h3 : hp c = some ⟨.own, (h.away ++ [-7]).map di, 21, []⟩) :
    Wk hp.view (fun _ => False) (.agg (roomO t h.aspect.length h.ins.length h.away.length ws a b c)) (.agg (roomL t h ws)) :=
  Wk.aggL (.cons (.refl _) (.cons (.refl _) (.cons (wk1 h1 (by simp)) (.cons (wk1 h2 (by simp)) (.cons (wk1 h3 (by simp)) (.cons (.refl _) .nil))))))
theorem hdEq_self (S : Hd) : hdEq S S = true := by simp [hdEq]
theorem ci_noIs (l : List Int) : noIs (l.map ci) = true := noIs_map (fun _ => rfl) l
theorem di_noIs (l : List Int) : noIs (l.map di) = true := noIs_map (fun _ => rfl) l
theorem f9_step (t : Tables) (h : Hd) (w : BitVec 64) (ht : SmallT t) (hh : SmallH h) (hI : I32 h) : wpP Try.prog 9 [t.av, h.av, .int .u64 w.toNat] (.bool true) := by
  have s1 := hh.a
  have s2 := hh.i
  have s3 := hh.w
  obtain ⟨S, E, n, hS, q32, q33⟩ := start_both t ht
  obtain ⟨N, F, m, hN, q36, q30⟩ := step_both t h w ht hh hI
  have q12 := f12_roomO t h [] .snil (fun _ => SrcV.snil) ht hh (by simp)
  refine wpP_intro ?_
  refine wpH_intro (fn := Try.f9) rfl rfl (by decide) (by kernel_rfl) fun K' hK' => ?_
  repeat' (first | refine wpL_seq ?_ | refine wpL_skip ?_ | refine wpL_label ?_ | refine wpL_scope ?_)
  refine wpL_region' [2, 3, 4] fun q hq => ?_
  simp -implicitDefEqProofs (disch := omega) only [go_sem, Int.reduceEq, Int.reduceLT, Int.reduceLE, Int.reduceToNat, Int.reduceNeg, Int.reduceAdd, Int.reduceSub, Nat.reduceEqDiff, Nat.reduceAdd, Nat.reduceMul, Nat.reduceLeDiff, Nat.reduceSub, ↓reduceIte, reduceCtorEq, Tables.av, Tables.cells, Hd.av, Hd.cells]
  repeat (refine And.intro (by omega) ?_)
  refine gN_new fun b3 hb3 => ?_
  try simp only [newIn_put, newIn_upd] at hb3
  simp -implicitDefEqProofs (disch := omega) only [go_sem, Int.reduceEq, Int.reduceLT, Int.reduceLE, Int.reduceToNat, Int.reduceNeg, Int.reduceAdd, Int.reduceSub, Nat.reduceEqDiff, Nat.reduceAdd, Nat.reduceMul, Nat.reduceLeDiff, Nat.reduceSub, ↓reduceIte, reduceCtorEq, Tables.av, Tables.cells, Hd.av, Hd.cells, hb3]
  repeat (refine And.intro (by omega) ?_)
  refine gN_new fun b4 hb4 => ?_
  try simp only [newIn_put, newIn_upd] at hb4
  simp -implicitDefEqProofs (disch := omega) only [go_sem, Int.reduceEq, Int.reduceLT, Int.reduceLE, Int.reduceToNat, Int.reduceNeg, Int.reduceAdd, Int.reduceSub, Nat.reduceEqDiff, Nat.reduceAdd, Nat.reduceMul, Nat.reduceLeDiff, Nat.reduceSub, ↓reduceIte, reduceCtorEq, Tables.av, Tables.cells, Hd.av, Hd.cells, hb3, hb4]
  repeat (refine And.intro (by omega) ?_)
  refine hq _ _ _ (by simp only [pickL, lk_cons, Nat.reduceEqDiff, ↓reduceIte]; exact rfl) ?_
  clear hq q
  refine wpL_frzP' 3 rfl (by simp only [go_sem, hb3, hb4]; exact rfl) rfl (by simp only [go_sem, Int.reduceEq, Int.reduceLT, Int.reduceLE, Int.reduceToNat, Int.reduceNeg, Int.reduceAdd, Int.reduceSub, Nat.reduceEqDiff, Nat.reduceAdd, Nat.reduceMul, Nat.reduceLeDiff, Nat.reduceSub, ↓reduceIte, reduceCtorEq]; exact rfl) (by simp only [go_sem, hb3, hb4]; exact rfl) ?_
  refine wpL_frzP' 4 rfl (by simp only [go_sem, hb3, hb4]; exact rfl) rfl (by simp only [go_sem, Int.reduceEq, Int.reduceLT, Int.reduceLE, Int.reduceToNat, Int.reduceNeg, Int.reduceAdd, Int.reduceSub, Nat.reduceEqDiff, Nat.reduceAdd, Nat.reduceMul, Nat.reduceLeDiff, Nat.reduceSub, ↓reduceIte, reduceCtorEq]; exact rfl) (by simp only [go_sem, hb3, hb4]; exact rfl) ?_
  repeat' (first | refine wpL_seq ?_ | refine wpL_skip ?_ | refine wpL_label ?_ | refine wpL_scope ?_)
  refine wpL_region' [2, 3, 4, 7] fun q hq => ?_
  simp -implicitDefEqProofs (disch := omega) only [go_sem, Int.reduceEq, Int.reduceLT, Int.reduceLE, Int.reduceToNat, Int.reduceNeg, Int.reduceAdd, Int.reduceSub, Nat.reduceEqDiff, Nat.reduceAdd, Nat.reduceMul, Nat.reduceLeDiff, Nat.reduceSub, ↓reduceIte, reduceCtorEq, Tables.cells, Hd.cells, roomO, hb3, hb4]
  repeat (refine And.intro (by omega) ?_)
  refine gN_ownF3 q12 fun ra ri rw hra hri hrw => ?_
  simp only [newIn_put, newIn_upd] at hra hri hrw
  simp -implicitDefEqProofs (disch := omega) only [go_sem, Int.reduceEq, Int.reduceLT, Int.reduceLE, Int.reduceToNat, Int.reduceNeg, Int.reduceAdd, Int.reduceSub, Nat.reduceEqDiff, Nat.reduceAdd, Nat.reduceMul, Nat.reduceLeDiff, Nat.reduceSub, ↓reduceIte, reduceCtorEq, Tables.cells, Hd.cells, roomO, hb3, hb4, hra, hri, hrw]
  repeat (refine And.intro (by omega) ?_)
  refine gN_new fun b7 hb7 => ?_
  try simp only [newIn_put, newIn_upd] at hb7
  simp -implicitDefEqProofs (disch := omega) only [go_sem, Int.reduceEq, Int.reduceLT, Int.reduceLE, Int.reduceToNat, Int.reduceNeg, Int.reduceAdd, Int.reduceSub, Nat.reduceEqDiff, Nat.reduceAdd, Nat.reduceMul, Nat.reduceLeDiff, Nat.reduceSub, ↓reduceIte, reduceCtorEq, Tables.cells, Hd.cells, roomO, hb3, hb4, hra, hri, hrw, hb7]
  repeat (refine And.intro (by omega) ?_)
  refine hq _ _ _ (by simp only [pickL, lk_cons, Nat.reduceEqDiff, ↓reduceIte]; exact rfl) ?_
  clear hq q
  refine wpL_frzP' 7 rfl (by simp only [go_sem, hb3, hb4, hra, hri, hrw, hb7]; exact rfl) rfl (by simp only [go_sem, Int.reduceEq, Int.reduceLT, Int.reduceLE, Int.reduceToNat, Int.reduceNeg, Int.reduceAdd, Int.reduceSub, Nat.reduceEqDiff, Nat.reduceAdd, Nat.reduceMul, Nat.reduceLeDiff, Nat.reduceSub, ↓reduceIte, reduceCtorEq]; exact rfl) (by simp only [go_sem, hb3, hb4, hra, hri, hrw, hb7]; exact rfl) ?_
  repeat' (first | refine wpL_seq ?_ | refine wpL_skip ?_ | refine wpL_label ?_ | refine wpL_scope ?_)
  refine wpL_draw' [2, 3, 4, 7, 8, 9] [0, 2, 1, 3, 4, 5, 6, 7] [] [false, false, true] (by kernel_rfl) (by kernel_rfl) (by kernel_rfl) fun q hq => ?_
  simp -implicitDefEqProofs (disch := omega) only [go_sem, Int.reduceEq, Int.reduceLT, Int.reduceLE, Int.reduceToNat, Int.reduceNeg, Int.reduceAdd, Int.reduceSub, Nat.reduceEqDiff, Nat.reduceAdd, Nat.reduceMul, Nat.reduceLeDiff, Nat.reduceSub, ↓reduceIte, reduceCtorEq, roomO, Tables.av, Tables.cells, hb3, hb4, hra, hri, hrw, hb7]
  repeat (refine And.intro (by omega) ?_)
  refine gN_callP (f13_opq _ _ _ _ _ _ t [] ht) ?_
  simp -implicitDefEqProofs (disch := omega) only [go_sem, Int.reduceEq, Int.reduceLT, Int.reduceLE, Int.reduceToNat, Int.reduceNeg, Int.reduceAdd, Int.reduceSub, Nat.reduceEqDiff, Nat.reduceAdd, Nat.reduceMul, Nat.reduceLeDiff, Nat.reduceSub, ↓reduceIte, reduceCtorEq, roomO, Tables.av, Tables.cells, hb3, hb4, hra, hri, hrw, hb7]
  repeat (refine And.intro (by omega) ?_)
  refine gN_callP (f14_opq _ _ _ _ _ _ t [] (by omega) (by omega) (by omega)) ?_
  simp -implicitDefEqProofs (disch := omega) only [go_sem, Int.reduceEq, Int.reduceLT, Int.reduceLE, Int.reduceToNat, Int.reduceNeg, Int.reduceAdd, Int.reduceSub, Nat.reduceEqDiff, Nat.reduceAdd, Nat.reduceMul, Nat.reduceLeDiff, Nat.reduceSub, ↓reduceIte, reduceCtorEq, roomO, Tables.av, Tables.cells, hb3, hb4, hra, hri, hrw, hb7]
  repeat (refine And.intro (by omega) ?_)
  refine gN_new fun b8 hb8 => ?_
  try simp only [newIn_put, newIn_upd] at hb8
  simp -implicitDefEqProofs (disch := omega) only [go_sem, Int.reduceEq, Int.reduceLT, Int.reduceLE, Int.reduceToNat, Int.reduceNeg, Int.reduceAdd, Int.reduceSub, Nat.reduceEqDiff, Nat.reduceAdd, Nat.reduceMul, Nat.reduceLeDiff, Nat.reduceSub, ↓reduceIte, reduceCtorEq, roomO, Tables.av, Tables.cells, hb3, hb4, hra, hri, hrw, hb7, hb8]
  repeat (refine And.intro (by omega) ?_)
  refine gN_new fun b9 hb9 => ?_
  try simp only [newIn_put, newIn_upd] at hb9
  simp -implicitDefEqProofs (disch := omega) only [go_sem, Int.reduceEq, Int.reduceLT, Int.reduceLE, Int.reduceToNat, Int.reduceNeg, Int.reduceAdd, Int.reduceSub, Nat.reduceEqDiff, Nat.reduceAdd, Nat.reduceMul, Nat.reduceLeDiff, Nat.reduceSub, ↓reduceIte, reduceCtorEq, roomO, Tables.av, Tables.cells, hb3, hb4, hra, hri, hrw, hb7, hb8, hb9]
  repeat (refine And.intro (by omega) ?_)
  refine hq _ _ _ (by simp only [pickL, lk_cons, Nat.reduceEqDiff, ↓reduceIte]; exact rfl) ?_
  clear hq q
  refine wpL_frzP' 8 rfl (by simp only [go_sem, hb3, hb4, hra, hri, hrw, hb7, hb8, hb9]; exact rfl) rfl (by simp only [go_sem, Int.reduceEq, Int.reduceLT, Int.reduceLE, Int.reduceToNat, Int.reduceNeg, Int.reduceAdd, Int.reduceSub, Nat.reduceEqDiff, Nat.reduceAdd, Nat.reduceMul, Nat.reduceLeDiff, Nat.reduceSub, ↓reduceIte, reduceCtorEq]; exact rfl) (by simp only [go_sem, hb3, hb4, hra, hri, hrw, hb7, hb8, hb9]; exact rfl) ?_
  refine wpL_frzP' 9 rfl (by simp only [go_sem, hb3, hb4, hra, hri, hrw, hb7, hb8, hb9]; exact rfl) rfl (by simp only [go_sem, Int.reduceEq, Int.reduceLT, Int.reduceLE, Int.reduceToNat, Int.reduceNeg, Int.reduceAdd, Int.reduceSub, Nat.reduceEqDiff, Nat.reduceAdd, Nat.reduceMul, Nat.reduceLeDiff, Nat.reduceSub, ↓reduceIte, reduceCtorEq]; exact rfl) (by simp only [go_sem, hb3, hb4, hra, hri, hrw, hb7, hb8, hb9]; exact rfl) ?_
  repeat' (first | refine wpL_seq ?_ | refine wpL_skip ?_ | refine wpL_label ?_ | refine wpL_scope ?_)
  refine wpL_region' [2, 3, 4, 7, 8, 9, 10, 11] fun q hq => ?_
  simp -implicitDefEqProofs (disch := omega) only [go_sem, Int.reduceEq, Int.reduceLT, Int.reduceLE, Int.reduceToNat, Int.reduceNeg, Int.reduceAdd, Int.reduceSub, Nat.reduceEqDiff, Nat.reduceAdd, Nat.reduceMul, Nat.reduceLeDiff, Nat.reduceSub, ↓reduceIte, reduceCtorEq, Tables.cells, Hd.av, Hd.cells, hb3, hb4, hra, hri, hrw, hb7, hb8, hb9]
  repeat (refine And.intro (by omega) ?_)
  refine gN_callP (q32) ?_
  simp -implicitDefEqProofs (disch := omega) only [go_sem, Int.reduceEq, Int.reduceLT, Int.reduceLE, Int.reduceToNat, Int.reduceNeg, Int.reduceAdd, Int.reduceSub, Nat.reduceEqDiff, Nat.reduceAdd, Nat.reduceMul, Nat.reduceLeDiff, Nat.reduceSub, ↓reduceIte, reduceCtorEq, Tables.cells, Hd.av, Hd.cells, hb3, hb4, hra, hri, hrw, hb7, hb8, hb9]
  repeat (refine And.intro (by omega) ?_)
  refine gN_new fun b10 hb10 => ?_
  try simp only [newIn_put, newIn_upd] at hb10
  simp -implicitDefEqProofs (disch := omega) only [go_sem, Int.reduceEq, Int.reduceLT, Int.reduceLE, Int.reduceToNat, Int.reduceNeg, Int.reduceAdd, Int.reduceSub, Nat.reduceEqDiff, Nat.reduceAdd, Nat.reduceMul, Nat.reduceLeDiff, Nat.reduceSub, ↓reduceIte, reduceCtorEq, Tables.cells, Hd.av, Hd.cells, hb3, hb4, hra, hri, hrw, hb7, hb8, hb9, hb10]
  repeat (refine And.intro (by omega) ?_)
  refine hq _ _ _ (by simp only [pickL, lk_cons, Nat.reduceEqDiff, ↓reduceIte]; exact rfl) ?_
  clear hq q
  repeat' (first | refine wpL_seq ?_ | refine wpL_skip ?_ | refine wpL_label ?_ | refine wpL_scope ?_)
  refine wpL_region' [2, 3, 4, 7, 8, 9, 10, 11, 12, 13] fun q hq => ?_
  simp -implicitDefEqProofs (disch := omega) only [go_sem, Int.reduceEq, Int.reduceLT, Int.reduceLE, Int.reduceToNat, Int.reduceNeg, Int.reduceAdd, Int.reduceSub, Nat.reduceEqDiff, Nat.reduceAdd, Nat.reduceMul, Nat.reduceLeDiff, Nat.reduceSub, ↓reduceIte, reduceCtorEq, Tables.cells, hb3, hb4, hra, hri, hrw, hb7, hb8, hb9, hb10]
  repeat (refine And.intro (by omega) ?_)
  refine gN_ownF3 q33 fun sa si sw hsa hsi hsw => ?_
  simp only [newIn_put, newIn_upd] at hsa hsi hsw
  simp -implicitDefEqProofs (disch := omega) only [go_sem, Int.reduceEq, Int.reduceLT, Int.reduceLE, Int.reduceToNat, Int.reduceNeg, Int.reduceAdd, Int.reduceSub, Nat.reduceEqDiff, Nat.reduceAdd, Nat.reduceMul, Nat.reduceLeDiff, Nat.reduceSub, ↓reduceIte, reduceCtorEq, Tables.cells, hb3, hb4, hra, hri, hrw, hb7, hb8, hb9, hb10, hsa, hsi, hsw]
  repeat (refine And.intro (by omega) ?_)
  refine gN_new fun b12 hb12 => ?_
  try simp only [newIn_put, newIn_upd] at hb12
  simp -implicitDefEqProofs (disch := omega) only [go_sem, Int.reduceEq, Int.reduceLT, Int.reduceLE, Int.reduceToNat, Int.reduceNeg, Int.reduceAdd, Int.reduceSub, Nat.reduceEqDiff, Nat.reduceAdd, Nat.reduceMul, Nat.reduceLeDiff, Nat.reduceSub, ↓reduceIte, reduceCtorEq, Tables.cells, hb3, hb4, hra, hri, hrw, hb7, hb8, hb9, hb10, hsa, hsi, hsw, hb12]
  repeat (refine And.intro (by omega) ?_)
  refine hq _ _ _ (by simp only [pickL, lk_cons, Nat.reduceEqDiff, ↓reduceIte]; exact rfl) ?_
  clear hq q
  repeat' (first | refine wpL_seq ?_ | refine wpL_skip ?_ | refine wpL_label ?_ | refine wpL_scope ?_)
  refine wpL_region' [2, 3, 4, 7, 8, 9, 10, 11, 12, 41] fun q hq => ?_
  simp -implicitDefEqProofs (disch := omega) only [go_sem, Int.reduceEq, Int.reduceLT, Int.reduceLE, Int.reduceToNat, Int.reduceNeg, Int.reduceAdd, Int.reduceSub, Nat.reduceEqDiff, Nat.reduceAdd, Nat.reduceMul, Nat.reduceLeDiff, Nat.reduceSub, ↓reduceIte, reduceCtorEq, decide_true, eq_self, Bool.not_true, Bool.not_false, hb3, hb4, hra, hri, hrw, hb7, hb8, hb9, hb10, hsa, hsi, hsw, hb12]
  refine gN_brw (.cons (wk3 hS (by simp only [go_sem, hra, hri, hrw, hb10, hsa, hsi, hsw, hb12] <;> exact rfl) (by simp only [go_sem, hra, hri, hrw, hb10, hsa, hsi, hsw, hb12] <;> exact rfl) (by simp only [go_sem, hra, hri, hrw, hb10, hsa, hsi, hsw, hb12] <;> exact rfl)) (.keep .nil)) (f34_equal S S hS.small) rfl ?_
  rw [hdEq_self]
  simp -implicitDefEqProofs (disch := omega) only [go_sem, Int.reduceEq, Int.reduceLT, Int.reduceLE, Int.reduceToNat, Int.reduceNeg, Int.reduceAdd, Int.reduceSub, Nat.reduceEqDiff, Nat.reduceAdd, Nat.reduceMul, Nat.reduceLeDiff, Nat.reduceSub, ↓reduceIte, reduceCtorEq, decide_true, eq_self, Bool.not_true, Bool.not_false, hsa, hsi, hsw, hb3, hb4, hra, hri, hrw, hb7, hb8, hb9, hb10, hsa, hsi, hsw, hb12]
  refine hq _ _ _ (by simp only [pickL, lk_cons, Nat.reduceEqDiff, ↓reduceIte]; exact rfl) ?_
  clear hq q
  repeat' (first | refine wpL_seq ?_ | refine wpL_skip ?_ | refine wpL_label ?_ | refine wpL_scope ?_)
  refine wpL_cond rfl (fun hc1 => ?_) (fun hc1 => ?_)
  · cases hc1
  clear hc1
  repeat' (first | refine wpL_seq ?_ | refine wpL_skip ?_ | refine wpL_label ?_ | refine wpL_scope ?_)
  refine wpL_region' [2, 3, 4, 7, 8, 9, 10, 11, 12] fun q hq => ?_
  simp -implicitDefEqProofs (disch := omega) only [go_sem, Int.reduceEq, Int.reduceLT, Int.reduceLE, Int.reduceToNat, Int.reduceNeg, Int.reduceAdd, Int.reduceSub, Nat.reduceEqDiff, Nat.reduceAdd, Nat.reduceMul, Nat.reduceLeDiff, Nat.reduceSub, ↓reduceIte, reduceCtorEq, List.append_nil, hb3, hb4, hra, hri, hrw, hb7, hb8, hb9, hb10, hsa, hsi, hsw, hb12]
  repeat (refine And.intro (by omega) ?_)
  refine gN_callH (f35_spoilG _ sa si sw n n n 5 (S.aspect.map ci) (S.ins.map di) (S.away.map di) [] [] [] (by omega) (by have := hS.n64; omega) (by have := hS.n64; omega) (by have := hS.n64; omega) (by simp only [List.append_nil, go_sem, hra, hri, hrw, hb10, hsa, hsi, hsw, hb12] <;> exact rfl) (by simp only [List.append_nil, go_sem, hra, hri, hrw, hb10, hsa, hsi, hsw, hb12] <;> exact rfl) (by simp only [List.append_nil, go_sem, hra, hri, hrw, hb10, hsa, hsi, hsw, hb12] <;> exact rfl) (by simp [hS.a]) (by simp [hS.i]) (by simp [hS.w]) (by simp only [hra, hri, hrw, hb10, hsa, hsi, hsw, hb12, and_self]) (by simp only [hra, hri, hrw, hb10, hsa, hsi, hsw, hb12, and_self]) (by simp only [hra, hri, hrw, hb10, hsa, hsi, hsw, hb12, and_self])) ?_
  rintro _ _ ⟨rfl, rfl⟩
  simp -implicitDefEqProofs (disch := omega) only [go_sem, Int.reduceEq, Int.reduceLT, Int.reduceLE, Int.reduceToNat, Int.reduceNeg, Int.reduceAdd, Int.reduceSub, Nat.reduceEqDiff, Nat.reduceAdd, Nat.reduceMul, Nat.reduceLeDiff, Nat.reduceSub, ↓reduceIte, reduceCtorEq, List.append_nil, hb3, hb4, hra, hri, hrw, hb7, hb8, hb9, hb10, hsa, hsi, hsw, hb12]
  repeat (refine And.intro (by omega) ?_)
  refine hq _ _ _ (by simp only [pickL, lk_cons, Nat.reduceEqDiff, ↓reduceIte]; exact rfl) ?_
  clear hq q
  refine wpL_del' sa (by simp only [go_sem, hsa, hsi, hsw, hb3, hb4, hra, hri, hrw, hb7, hb8, hb9, hb10, hsa, hsi, hsw, hb12]; exact rfl) ?_
  refine wpL_del' si (by simp only [go_sem, hsa, hsi, hsw, hb3, hb4, hra, hri, hrw, hb7, hb8, hb9, hb10, hsa, hsi, hsw, hb12]; exact rfl) ?_
  refine wpL_del' sw (by simp only [go_sem, hsa, hsi, hsw, hb3, hb4, hra, hri, hrw, hb7, hb8, hb9, hb10, hsa, hsi, hsw, hb12]; exact rfl) ?_
  repeat' (first | refine wpL_seq ?_ | refine wpL_skip ?_ | refine wpL_label ?_ | refine wpL_scope ?_)
  refine wpL_region' [2, 3, 4, 7, 8, 9, 10, 11, 12, 13] fun q hq => ?_
  simp -implicitDefEqProofs (disch := omega) only [go_sem, Int.reduceEq, Int.reduceLT, Int.reduceLE, Int.reduceToNat, Int.reduceNeg, Int.reduceAdd, Int.reduceSub, Nat.reduceEqDiff, Nat.reduceAdd, Nat.reduceMul, Nat.reduceLeDiff, Nat.reduceSub, ↓reduceIte, reduceCtorEq, Tables.cells, hb3, hb4, hra, hri, hrw, hb7, hb8, hb9, hb10, hsa, hsi, hsw, hb12]
  repeat (refine And.intro (by omega) ?_)
  refine gN_ownF3 q33 fun za zi zw hza hzi hzw => ?_
  simp only [newIn_put, newIn_upd] at hza hzi hzw
  simp -implicitDefEqProofs (disch := omega) only [go_sem, Int.reduceEq, Int.reduceLT, Int.reduceLE, Int.reduceToNat, Int.reduceNeg, Int.reduceAdd, Int.reduceSub, Nat.reduceEqDiff, Nat.reduceAdd, Nat.reduceMul, Nat.reduceLeDiff, Nat.reduceSub, ↓reduceIte, reduceCtorEq, Tables.cells, hb3, hb4, hra, hri, hrw, hb7, hb8, hb9, hb10, hsa, hsi, hsw, hb12, hza, hzi, hzw]
  repeat (refine And.intro (by omega) ?_)
  refine hq _ _ _ (by simp only [pickL, lk_cons, Nat.reduceEqDiff, ↓reduceIte]; exact rfl) ?_
  clear hq q
  repeat' (first | refine wpL_seq ?_ | refine wpL_skip ?_ | refine wpL_label ?_ | refine wpL_scope ?_)
  refine wpL_region' [2, 3, 4, 7, 8, 9, 10, 57] fun q hq => ?_
  simp -implicitDefEqProofs (disch := omega) only [go_sem, Int.reduceEq, Int.reduceLT, Int.reduceLE, Int.reduceToNat, Int.reduceNeg, Int.reduceAdd, Int.reduceSub, Nat.reduceEqDiff, Nat.reduceAdd, Nat.reduceMul, Nat.reduceLeDiff, Nat.reduceSub, ↓reduceIte, reduceCtorEq, decide_true, eq_self, Bool.not_true, Bool.not_false, hb3, hb4, hra, hri, hrw, hb7, hb8, hb9, hb10, hsa, hsi, hsw, hb12, hza, hzi, hzw]
  refine gN_brw (.cons (wk3 hS (by simp only [go_sem, hra, hri, hrw, hb10, hza, hzi, hzw, hb12] <;> exact rfl) (by simp only [go_sem, hra, hri, hrw, hb10, hza, hzi, hzw, hb12] <;> exact rfl) (by simp only [go_sem, hra, hri, hrw, hb10, hza, hzi, hzw, hb12] <;> exact rfl)) (.keep .nil)) (f34_equal S S hS.small) rfl ?_
  rw [hdEq_self]
  simp -implicitDefEqProofs (disch := omega) only [go_sem, Int.reduceEq, Int.reduceLT, Int.reduceLE, Int.reduceToNat, Int.reduceNeg, Int.reduceAdd, Int.reduceSub, Nat.reduceEqDiff, Nat.reduceAdd, Nat.reduceMul, Nat.reduceLeDiff, Nat.reduceSub, ↓reduceIte, reduceCtorEq, decide_true, eq_self, Bool.not_true, Bool.not_false, hb3, hb4, hra, hri, hrw, hb7, hb8, hb9, hb10, hsa, hsi, hsw, hb12, hza, hzi, hzw]
  refine hq _ _ _ (by simp only [pickL, lk_cons, Nat.reduceEqDiff, ↓reduceIte]; exact rfl) ?_
  clear hq q
  repeat' (first | refine wpL_seq ?_ | refine wpL_skip ?_ | refine wpL_label ?_ | refine wpL_scope ?_)
  refine wpL_cond rfl (fun hc2 => ?_) (fun hc2 => ?_)
  · cases hc2
  clear hc2
  repeat' (first | refine wpL_seq ?_ | refine wpL_skip ?_ | refine wpL_label ?_ | refine wpL_scope ?_)
  refine wpL_region' [2, 3, 4, 7, 8, 9, 10, 11] fun q hq => ?_
  simp -implicitDefEqProofs (disch := omega) only [go_sem, Int.reduceEq, Int.reduceLT, Int.reduceLE, Int.reduceToNat, Int.reduceNeg, Int.reduceAdd, Int.reduceSub, Nat.reduceEqDiff, Nat.reduceAdd, Nat.reduceMul, Nat.reduceLeDiff, Nat.reduceSub, ↓reduceIte, reduceCtorEq, Tables.cells, Hd.av, Hd.cells, hb3, hb4, hra, hri, hrw, hb7, hb8, hb9, hb10, hsa, hsi, hsw, hb12, hza, hzi, hzw]
  repeat (refine And.intro (by omega) ?_)
  refine gN_callP (q36) ?_
  simp -implicitDefEqProofs (disch := omega) only [go_sem, Int.reduceEq, Int.reduceLT, Int.reduceLE, Int.reduceToNat, Int.reduceNeg, Int.reduceAdd, Int.reduceSub, Nat.reduceEqDiff, Nat.reduceAdd, Nat.reduceMul, Nat.reduceLeDiff, Nat.reduceSub, ↓reduceIte, reduceCtorEq, Tables.cells, Hd.av, Hd.cells, hb3, hb4, hra, hri, hrw, hb7, hb8, hb9, hb10, hsa, hsi, hsw, hb12, hza, hzi, hzw]
  repeat (refine And.intro (by omega) ?_)
  refine hq _ _ _ (by simp only [pickL, lk_cons, Nat.reduceEqDiff, ↓reduceIte]; exact rfl) ?_
  clear hq q
  refine wpL_del' za (by simp only [go_sem, hza, hzi, hzw, hb10, hb12, hb3, hb4, hra, hri, hrw, hb7, hb8, hb9, hb10, hsa, hsi, hsw, hb12, hza, hzi, hzw]; exact rfl) ?_
  refine wpL_del' zi (by simp only [go_sem, hza, hzi, hzw, hb10, hb12, hb3, hb4, hra, hri, hrw, hb7, hb8, hb9, hb10, hsa, hsi, hsw, hb12, hza, hzi, hzw]; exact rfl) ?_
  refine wpL_del' zw (by simp only [go_sem, hza, hzi, hzw, hb10, hb12, hb3, hb4, hra, hri, hrw, hb7, hb8, hb9, hb10, hsa, hsi, hsw, hb12, hza, hzi, hzw]; exact rfl) ?_
  refine wpL_del' b12 (by simp only [go_sem, hza, hzi, hzw, hb10, hb12, hb3, hb4, hra, hri, hrw, hb7, hb8, hb9, hb10, hsa, hsi, hsw, hb12, hza, hzi, hzw]; exact rfl) ?_
  repeat' (first | refine wpL_seq ?_ | refine wpL_skip ?_ | refine wpL_label ?_ | refine wpL_scope ?_)
  refine wpL_region' [2, 3, 4, 7, 8, 9, 10, 11, 13, 14] fun q hq => ?_
  simp -implicitDefEqProofs (disch := omega) only [go_sem, Int.reduceEq, Int.reduceLT, Int.reduceLE, Int.reduceToNat, Int.reduceNeg, Int.reduceAdd, Int.reduceSub, Nat.reduceEqDiff, Nat.reduceAdd, Nat.reduceMul, Nat.reduceLeDiff, Nat.reduceSub, ↓reduceIte, reduceCtorEq, Tables.cells, hb3, hb4, hra, hri, hrw, hb7, hb8, hb9, hb10, hsa, hsi, hsw, hb12, hza, hzi, hzw]
  repeat (refine And.intro (by omega) ?_)
  refine gN_brwF3 (.keep (.cons (wkHds (by simp only [go_sem, hra, hri, hrw, hb10] <;> exact rfl) (by simp only [go_sem, hra, hri, hrw, hb10] <;> exact rfl) (by simp only [go_sem, hra, hri, hrw, hb10] <;> exact rfl)) (.keep .nil))) q30 (fun _ _ _ => rfl) (ci_noIs _) (di_noIs _) (di_noIs _) fun na ni nw hna hni hnw => ?_
  simp only [newIn_put, newIn_upd] at hna hni hnw
  simp -implicitDefEqProofs (disch := omega) only [go_sem, Int.reduceEq, Int.reduceLT, Int.reduceLE, Int.reduceToNat, Int.reduceNeg, Int.reduceAdd, Int.reduceSub, Nat.reduceEqDiff, Nat.reduceAdd, Nat.reduceMul, Nat.reduceLeDiff, Nat.reduceSub, ↓reduceIte, reduceCtorEq, Tables.cells, hb3, hb4, hra, hri, hrw, hb7, hb8, hb9, hb10, hsa, hsi, hsw, hb12, hza, hzi, hzw, hna, hni, hnw]
  repeat (refine And.intro (by omega) ?_)
  refine gN_new fun b14 hb14 => ?_
  try simp only [newIn_put, newIn_upd] at hb14
  simp -implicitDefEqProofs (disch := omega) only [go_sem, Int.reduceEq, Int.reduceLT, Int.reduceLE, Int.reduceToNat, Int.reduceNeg, Int.reduceAdd, Int.reduceSub, Nat.reduceEqDiff, Nat.reduceAdd, Nat.reduceMul, Nat.reduceLeDiff, Nat.reduceSub, ↓reduceIte, reduceCtorEq, Tables.cells, hb3, hb4, hra, hri, hrw, hb7, hb8, hb9, hb10, hsa, hsi, hsw, hb12, hza, hzi, hzw, hna, hni, hnw, hb14]
  repeat (refine And.intro (by omega) ?_)
  refine hq _ _ _ (by simp only [pickL, lk_cons, Nat.reduceEqDiff, ↓reduceIte]; exact rfl) ?_
  clear hq q
  refine wpL_frzP' 14 rfl (by simp only [go_sem, hb3, hb4, hra, hri, hrw, hb7, hb8, hb9, hb10, hsa, hsi, hsw, hb12, hza, hzi, hzw, hna, hni, hnw, hb14]; exact rfl) rfl (by simp only [go_sem, Int.reduceEq, Int.reduceLT, Int.reduceLE, Int.reduceToNat, Int.reduceNeg, Int.reduceAdd, Int.reduceSub, Nat.reduceEqDiff, Nat.reduceAdd, Nat.reduceMul, Nat.reduceLeDiff, Nat.reduceSub, ↓reduceIte, reduceCtorEq]; exact rfl) (by simp only [go_sem, hb3, hb4, hra, hri, hrw, hb7, hb8, hb9, hb10, hsa, hsi, hsw, hb12, hza, hzi, hzw, hna, hni, hnw, hb14]; exact rfl) ?_
  repeat' (first | refine wpL_seq ?_ | refine wpL_skip ?_ | refine wpL_label ?_ | refine wpL_scope ?_)
  refine wpL_region' [2, 3, 4, 7, 8, 9, 10, 11, 14, 87] fun q hq => ?_
  simp -implicitDefEqProofs (disch := omega) only [go_sem, Int.reduceEq, Int.reduceLT, Int.reduceLE, Int.reduceToNat, Int.reduceNeg, Int.reduceAdd, Int.reduceSub, Nat.reduceEqDiff, Nat.reduceAdd, Nat.reduceMul, Nat.reduceLeDiff, Nat.reduceSub, ↓reduceIte, reduceCtorEq, decide_true, eq_self, Bool.not_true, Bool.not_false, hb3, hb4, hra, hri, hrw, hb7, hb8, hb9, hb10, hsa, hsi, hsw, hb12, hza, hzi, hzw, hna, hni, hnw, hb14]
  refine gN_brw (.cons (wk3 hN (by simp only [go_sem, hra, hri, hrw, hb10, hna, hni, hnw] <;> exact rfl) (by simp only [go_sem, hra, hri, hrw, hb10, hna, hni, hnw] <;> exact rfl) (by simp only [go_sem, hra, hri, hrw, hb10, hna, hni, hnw] <;> exact rfl)) (.keep .nil)) (f34_equal N N hN.small) rfl ?_
  rw [hdEq_self]
  simp -implicitDefEqProofs (disch := omega) only [go_sem, Int.reduceEq, Int.reduceLT, Int.reduceLE, Int.reduceToNat, Int.reduceNeg, Int.reduceAdd, Int.reduceSub, Nat.reduceEqDiff, Nat.reduceAdd, Nat.reduceMul, Nat.reduceLeDiff, Nat.reduceSub, ↓reduceIte, reduceCtorEq, decide_true, eq_self, Bool.not_true, Bool.not_false, Tables.cells, Hd.cells, Hd.av, Tables.av, hb3, hb4, hra, hri, hrw, hb7, hb8, hb9, hb10, hsa, hsi, hsw, hb12, hza, hzi, hzw, hna, hni, hnw, hb14]
  refine gN_brw (.cons (wkRoom (h := h) (t := t) (ws := []) (a := ra) (b := ri) (c := rw) (by simp only [go_sem, hra, hri, hrw, hb10, hna, hni, hnw] <;> exact rfl) (by simp only [go_sem, hra, hri, hrw, hb10, hna, hni, hnw] <;> exact rfl) (by simp only [go_sem, hra, hri, hrw, hb10, hna, hni, hnw] <;> exact rfl)) (.keep (.keep (.keep .nil)))) (f23_kept t h [] .snil (.inr ⟨rfl, rfl⟩) ht hh (by simp)) rfl ?_
  simp -implicitDefEqProofs (disch := omega) only [go_sem, Int.reduceEq, Int.reduceLT, Int.reduceLE, Int.reduceToNat, Int.reduceNeg, Int.reduceAdd, Int.reduceSub, Nat.reduceEqDiff, Nat.reduceAdd, Nat.reduceMul, Nat.reduceLeDiff, Nat.reduceSub, ↓reduceIte, reduceCtorEq, decide_true, eq_self, Bool.not_true, Bool.not_false, hb3, hb4, hra, hri, hrw, hb7, hb8, hb9, hb10, hsa, hsi, hsw, hb12, hza, hzi, hzw, hna, hni, hnw, hb14]
  refine hq _ _ _ (by simp only [pickL, lk_cons, Nat.reduceEqDiff, ↓reduceIte]; exact rfl) ?_
  clear hq q
  repeat' (first | refine wpL_seq ?_ | refine wpL_skip ?_ | refine wpL_label ?_ | refine wpL_scope ?_)
  refine wpL_cond rfl (fun hc3 => ?_) (fun hc3 => ?_)
  · cases hc3
  clear hc3
  repeat' (first | refine wpL_seq ?_ | refine wpL_skip ?_ | refine wpL_label ?_ | refine wpL_scope ?_)
  refine wpL_region' [2, 3, 4, 7, 8, 9, 10, 11] fun q hq => ?_
  simp -implicitDefEqProofs (disch := omega) only [go_sem, Int.reduceEq, Int.reduceLT, Int.reduceLE, Int.reduceToNat, Int.reduceNeg, Int.reduceAdd, Int.reduceSub, Nat.reduceEqDiff, Nat.reduceAdd, Nat.reduceMul, Nat.reduceLeDiff, Nat.reduceSub, ↓reduceIte, reduceCtorEq, List.append_nil, hb3, hb4, hra, hri, hrw, hb7, hb8, hb9, hb10, hsa, hsi, hsw, hb12, hza, hzi, hzw, hna, hni, hnw, hb14]
  repeat (refine And.intro (by omega) ?_)
  refine gN_callH (f35_spoilG _ na ni nw m m m 9 (N.aspect.map ci) (N.ins.map di) (N.away.map di) [] [] [] (by omega) (by have := hN.n64; omega) (by have := hN.n64; omega) (by have := hN.n64; omega) (by simp only [List.append_nil, go_sem, hra, hri, hrw, hb10, hna, hni, hnw] <;> exact rfl) (by simp only [List.append_nil, go_sem, hra, hri, hrw, hb10, hna, hni, hnw] <;> exact rfl) (by simp only [List.append_nil, go_sem, hra, hri, hrw, hb10, hna, hni, hnw] <;> exact rfl) (by simp [hN.a]) (by simp [hN.i]) (by simp [hN.w]) (by simp only [hra, hri, hrw, hb10, hna, hni, hnw, and_self]) (by simp only [hra, hri, hrw, hb10, hna, hni, hnw, and_self]) (by simp only [hra, hri, hrw, hb10, hna, hni, hnw, and_self])) ?_
  rintro _ _ ⟨rfl, rfl⟩
  simp -implicitDefEqProofs (disch := omega) only [go_sem, Int.reduceEq, Int.reduceLT, Int.reduceLE, Int.reduceToNat, Int.reduceNeg, Int.reduceAdd, Int.reduceSub, Nat.reduceEqDiff, Nat.reduceAdd, Nat.reduceMul, Nat.reduceLeDiff, Nat.reduceSub, ↓reduceIte, reduceCtorEq, List.append_nil, hb3, hb4, hra, hri, hrw, hb7, hb8, hb9, hb10, hsa, hsi, hsw, hb12, hza, hzi, hzw, hna, hni, hnw, hb14]
  repeat (refine And.intro (by omega) ?_)
  refine hq _ _ _ (by simp only [pickL, lk_cons, Nat.reduceEqDiff, ↓reduceIte]; exact rfl) ?_
  clear hq q
  refine wpL_del' na (by simp only [go_sem, hra, hri, hrw, hb10, hna, hni, hnw, hb3, hb4, hra, hri, hrw, hb7, hb8, hb9, hb10, hsa, hsi, hsw, hb12, hza, hzi, hzw, hna, hni, hnw, hb14]; exact rfl) ?_
  refine wpL_del' ni (by simp only [go_sem, hra, hri, hrw, hb10, hna, hni, hnw, hb3, hb4, hra, hri, hrw, hb7, hb8, hb9, hb10, hsa, hsi, hsw, hb12, hza, hzi, hzw, hna, hni, hnw, hb14]; exact rfl) ?_
  refine wpL_del' nw (by simp only [go_sem, hra, hri, hrw, hb10, hna, hni, hnw, hb3, hb4, hra, hri, hrw, hb7, hb8, hb9, hb10, hsa, hsi, hsw, hb12, hza, hzi, hzw, hna, hni, hnw, hb14]; exact rfl) ?_
  repeat' (first | refine wpL_seq ?_ | refine wpL_skip ?_ | refine wpL_label ?_ | refine wpL_scope ?_)
  refine wpL_region' [2, 3, 4, 7, 8, 9, 10, 11, 94] fun q hq => ?_
  simp -implicitDefEqProofs (disch := omega) only [go_sem, Int.reduceEq, Int.reduceLT, Int.reduceLE, Int.reduceToNat, Int.reduceNeg, Int.reduceAdd, Int.reduceSub, Nat.reduceEqDiff, Nat.reduceAdd, Nat.reduceMul, Nat.reduceLeDiff, Nat.reduceSub, ↓reduceIte, reduceCtorEq, Tables.cells, Hd.cells, hb3, hb4, hra, hri, hrw, hb7, hb8, hb9, hb10, hsa, hsi, hsw, hb12, hza, hzi, hzw, hna, hni, hnw, hb14]
  repeat (refine And.intro (by omega) ?_)
  refine gN_brw (.cons (wkRoom (h := h) (t := t) (ws := []) (a := ra) (b := ri) (c := rw) (by simp only [go_sem, hra, hri, hrw, hb10] <;> exact rfl) (by simp only [go_sem, hra, hri, hrw, hb10] <;> exact rfl) (by simp only [go_sem, hra, hri, hrw, hb10] <;> exact rfl)) (.keep (.keep (.keep .nil)))) (f23_kept t h [] .snil (.inr ⟨rfl, rfl⟩) ht hh (by simp)) rfl ?_
  simp -implicitDefEqProofs (disch := omega) only [go_sem, Int.reduceEq, Int.reduceLT, Int.reduceLE, Int.reduceToNat, Int.reduceNeg, Int.reduceAdd, Int.reduceSub, Nat.reduceEqDiff, Nat.reduceAdd, Nat.reduceMul, Nat.reduceLeDiff, Nat.reduceSub, ↓reduceIte, reduceCtorEq, decide_true, eq_self, Bool.not_true, Bool.not_false, hb3, hb4, hra, hri, hrw, hb7, hb8, hb9, hb10, hsa, hsi, hsw, hb12, hza, hzi, hzw, hna, hni, hnw, hb14]
  refine hq _ _ _ (by simp only [pickL, lk_cons, Nat.reduceEqDiff, ↓reduceIte]; exact rfl) ?_
  clear hq q
  repeat' (first | refine wpL_seq ?_ | refine wpL_skip ?_ | refine wpL_label ?_ | refine wpL_scope ?_)
  refine wpL_cond rfl (fun hc4 => ?_) (fun hc4 => ?_)
  · cases hc4
  clear hc4
  repeat' (first | refine wpL_seq ?_ | refine wpL_skip ?_ | refine wpL_label ?_ | refine wpL_scope ?_)
  refine wpL_region' [3, 4, 7, 9, 10, 11, 13, 15] fun q hq => ?_
  simp -implicitDefEqProofs (disch := omega) only [go_sem, Int.reduceEq, Int.reduceLT, Int.reduceLE, Int.reduceToNat, Int.reduceNeg, Int.reduceAdd, Int.reduceSub, Nat.reduceEqDiff, Nat.reduceAdd, Nat.reduceMul, Nat.reduceLeDiff, Nat.reduceSub, ↓reduceIte, reduceCtorEq, Tables.cells, hb3, hb4, hra, hri, hrw, hb7, hb8, hb9, hb10, hsa, hsi, hsw, hb12, hza, hzi, hzw, hna, hni, hnw, hb14]
  repeat (refine And.intro (by omega) ?_)
  refine gN_brwF3 (.keep (.cons (wkHds (by simp only [go_sem, hra, hri, hrw, hb10] <;> exact rfl) (by simp only [go_sem, hra, hri, hrw, hb10] <;> exact rfl) (by simp only [go_sem, hra, hri, hrw, hb10] <;> exact rfl)) (.keep .nil))) q30 (fun _ _ _ => rfl) (ci_noIs _) (di_noIs _) (di_noIs _) fun ma mi mw hma hmi hmw => ?_
  simp only [newIn_put, newIn_upd] at hma hmi hmw
  simp -implicitDefEqProofs (disch := omega) only [go_sem, Int.reduceEq, Int.reduceLT, Int.reduceLE, Int.reduceToNat, Int.reduceNeg, Int.reduceAdd, Int.reduceSub, Nat.reduceEqDiff, Nat.reduceAdd, Nat.reduceMul, Nat.reduceLeDiff, Nat.reduceSub, ↓reduceIte, reduceCtorEq, Tables.cells, hb3, hb4, hra, hri, hrw, hb7, hb8, hb9, hb10, hsa, hsi, hsw, hb12, hza, hzi, hzw, hna, hni, hnw, hb14, hma, hmi, hmw]
  repeat (refine And.intro (by omega) ?_)
  refine gN_new fun b15 hb15 => ?_
  try simp only [newIn_put, newIn_upd] at hb15
  simp -implicitDefEqProofs (disch := omega) only [go_sem, Int.reduceEq, Int.reduceLT, Int.reduceLE, Int.reduceToNat, Int.reduceNeg, Int.reduceAdd, Int.reduceSub, Nat.reduceEqDiff, Nat.reduceAdd, Nat.reduceMul, Nat.reduceLeDiff, Nat.reduceSub, ↓reduceIte, reduceCtorEq, Tables.cells, hb3, hb4, hra, hri, hrw, hb7, hb8, hb9, hb10, hsa, hsi, hsw, hb12, hza, hzi, hzw, hna, hni, hnw, hb14, hma, hmi, hmw, hb15]
  repeat (refine And.intro (by omega) ?_)
  refine hq _ _ _ (by simp only [pickL, lk_cons, Nat.reduceEqDiff, ↓reduceIte]; exact rfl) ?_
  clear hq q
  refine wpL_frzP' 15 rfl (by simp only [go_sem, hb3, hb4, hra, hri, hrw, hb7, hb8, hb9, hb10, hsa, hsi, hsw, hb12, hza, hzi, hzw, hna, hni, hnw, hb14, hma, hmi, hmw, hb15]; exact rfl) rfl (by simp only [go_sem, Int.reduceEq, Int.reduceLT, Int.reduceLE, Int.reduceToNat, Int.reduceNeg, Int.reduceAdd, Int.reduceSub, Nat.reduceEqDiff, Nat.reduceAdd, Nat.reduceMul, Nat.reduceLeDiff, Nat.reduceSub, ↓reduceIte, reduceCtorEq]; exact rfl) (by simp only [go_sem, hb3, hb4, hra, hri, hrw, hb7, hb8, hb9, hb10, hsa, hsi, hsw, hb12, hza, hzi, hzw, hna, hni, hnw, hb14, hma, hmi, hmw, hb15]; exact rfl) ?_
  repeat' (first | refine wpL_seq ?_ | refine wpL_skip ?_ | refine wpL_label ?_ | refine wpL_scope ?_)
  refine wpL_region' [9, 10, 15, 117] fun q hq => ?_
  simp -implicitDefEqProofs (disch := omega) only [go_sem, Int.reduceEq, Int.reduceLT, Int.reduceLE, Int.reduceToNat, Int.reduceNeg, Int.reduceAdd, Int.reduceSub, Nat.reduceEqDiff, Nat.reduceAdd, Nat.reduceMul, Nat.reduceLeDiff, Nat.reduceSub, ↓reduceIte, reduceCtorEq, decide_true, eq_self, Bool.not_true, Bool.not_false, hb3, hb4, hra, hri, hrw, hb7, hb8, hb9, hb10, hsa, hsi, hsw, hb12, hza, hzi, hzw, hna, hni, hnw, hb14, hma, hmi, hmw, hb15]
  refine gN_brw (.cons (wk3 hN (by simp only [go_sem, hra, hri, hrw, hb10, hma, hmi, hmw] <;> exact rfl) (by simp only [go_sem, hra, hri, hrw, hb10, hma, hmi, hmw] <;> exact rfl) (by simp only [go_sem, hra, hri, hrw, hb10, hma, hmi, hmw] <;> exact rfl)) (.keep .nil)) (f34_equal N N hN.small) rfl ?_
  rw [hdEq_self]
  simp -implicitDefEqProofs (disch := omega) only [go_sem, Int.reduceEq, Int.reduceLT, Int.reduceLE, Int.reduceToNat, Int.reduceNeg, Int.reduceAdd, Int.reduceSub, Nat.reduceEqDiff, Nat.reduceAdd, Nat.reduceMul, Nat.reduceLeDiff, Nat.reduceSub, ↓reduceIte, reduceCtorEq, decide_true, eq_self, Bool.not_true, Bool.not_false, Tables.cells, Hd.cells, hb3, hb4, hra, hri, hrw, hb7, hb8, hb9, hb10, hsa, hsi, hsw, hb12, hza, hzi, hzw, hna, hni, hnw, hb14, hma, hmi, hmw, hb15]
  refine gN_brw (.cons (wkRoom (h := h) (t := t) (ws := []) (a := ra) (b := ri) (c := rw) (by simp only [go_sem, hra, hri, hrw, hb10, hma, hmi, hmw] <;> exact rfl) (by simp only [go_sem, hra, hri, hrw, hb10, hma, hmi, hmw] <;> exact rfl) (by simp only [go_sem, hra, hri, hrw, hb10, hma, hmi, hmw] <;> exact rfl)) (.keep (.keep (.keep .nil)))) (f23_kept t h [] .snil (.inr ⟨rfl, rfl⟩) ht hh (by simp)) rfl ?_
  simp -implicitDefEqProofs (disch := omega) only [go_sem, Int.reduceEq, Int.reduceLT, Int.reduceLE, Int.reduceToNat, Int.reduceNeg, Int.reduceAdd, Int.reduceSub, Nat.reduceEqDiff, Nat.reduceAdd, Nat.reduceMul, Nat.reduceLeDiff, Nat.reduceSub, ↓reduceIte, reduceCtorEq, decide_true, eq_self, Bool.not_true, Bool.not_false, hb3, hb4, hra, hri, hrw, hb7, hb8, hb9, hb10, hsa, hsi, hsw, hb12, hza, hzi, hzw, hna, hni, hnw, hb14, hma, hmi, hmw, hb15]
  refine hq _ _ _ (by simp only [pickL, lk_cons, Nat.reduceEqDiff, ↓reduceIte]; exact rfl) ?_
  clear hq q
  repeat' (first | refine wpL_seq ?_ | refine wpL_skip ?_ | refine wpL_label ?_ | refine wpL_scope ?_)
  refine wpL_cond rfl (fun hc5 => ?_) (fun hc5 => ?_)
  · cases hc5
  clear hc5
  repeat' (first | refine wpL_seq ?_ | refine wpL_skip ?_ | refine wpL_label ?_ | refine wpL_scope ?_)
  refine wpL_region' [10, 15] fun q hq => ?_
  simp -implicitDefEqProofs (disch := omega) only [go_sem, Int.reduceEq, Int.reduceLT, Int.reduceLE, Int.reduceToNat, Int.reduceNeg, Int.reduceAdd, Int.reduceSub, Nat.reduceEqDiff, Nat.reduceAdd, Nat.reduceMul, Nat.reduceLeDiff, Nat.reduceSub, ↓reduceIte, reduceCtorEq, List.append_nil, hb3, hb4, hra, hri, hrw, hb7, hb8, hb9, hb10, hsa, hsi, hsw, hb12, hza, hzi, hzw, hna, hni, hnw, hb14, hma, hmi, hmw, hb15]
  repeat (refine And.intro (by omega) ?_)
  refine gN_callH (f35_spoilG _ ra ri rw h.aspect.length h.ins.length h.away.length 11 (h.aspect.map ci) (h.ins.map di) (h.away.map di) [ci (-7)] [di (-7)] [di (-7)] (by omega) (by omega) (by omega) (by omega) (by rw [← List.map_singleton (f := ci), ← List.map_append]; simp only [go_sem, hra, hri, hrw, hb10, hma, hmi, hmw] <;> exact rfl) (by rw [← List.map_singleton (f := di), ← List.map_append]; simp only [go_sem, hra, hri, hrw, hb10, hma, hmi, hmw] <;> exact rfl) (by rw [← List.map_singleton (f := di), ← List.map_append]; simp only [go_sem, hra, hri, hrw, hb10, hma, hmi, hmw] <;> exact rfl) (by simp) (by simp) (by simp) (by simp only [hra, hri, hrw, hb10, hma, hmi, hmw, and_self]) (by simp only [hra, hri, hrw, hb10, hma, hmi, hmw, and_self]) (by simp only [hra, hri, hrw, hb10, hma, hmi, hmw, and_self])) ?_
  rintro _ _ ⟨rfl, rfl⟩
  simp -implicitDefEqProofs (disch := omega) only [go_sem, Int.reduceEq, Int.reduceLT, Int.reduceLE, Int.reduceToNat, Int.reduceNeg, Int.reduceAdd, Int.reduceSub, Nat.reduceEqDiff, Nat.reduceAdd, Nat.reduceMul, Nat.reduceLeDiff, Nat.reduceSub, ↓reduceIte, reduceCtorEq, List.append_nil, hb3, hb4, hra, hri, hrw, hb7, hb8, hb9, hb10, hsa, hsi, hsw, hb12, hza, hzi, hzw, hna, hni, hnw, hb14, hma, hmi, hmw, hb15]
  repeat (refine And.intro (by omega) ?_)
  refine hq _ _ _ (by simp only [pickL, lk_cons, Nat.reduceEqDiff, ↓reduceIte]; exact rfl) ?_
  clear hq q
  repeat' (first | refine wpL_seq ?_ | refine wpL_skip ?_ | refine wpL_label ?_ | refine wpL_scope ?_)
  refine wpL_region' [6] fun q hq => ?_
  simp -implicitDefEqProofs (disch := omega) only [go_sem, Int.reduceEq, Int.reduceLT, Int.reduceLE, Int.reduceToNat, Int.reduceNeg, Int.reduceAdd, Int.reduceSub, Nat.reduceEqDiff, Nat.reduceAdd, Nat.reduceMul, Nat.reduceLeDiff, Nat.reduceSub, ↓reduceIte, reduceCtorEq, decide_true, eq_self, Bool.not_true, Bool.not_false, hb3, hb4, hra, hri, hrw, hb7, hb8, hb9, hb10, hsa, hsi, hsw, hb12, hza, hzi, hzw, hna, hni, hnw, hb14, hma, hmi, hmw, hb15]
  repeat (refine And.intro (by omega) ?_)
  refine gN_brw (.cons (wk3 hN (by simp only [go_sem, hra, hri, hrw, hb10, hma, hmi, hmw] <;> exact rfl) (by simp only [go_sem, hra, hri, hrw, hb10, hma, hmi, hmw] <;> exact rfl) (by simp only [go_sem, hra, hri, hrw, hb10, hma, hmi, hmw] <;> exact rfl)) (.keep .nil)) (f34_equal N N hN.small) rfl ?_
  rw [hdEq_self]
  simp -implicitDefEqProofs (disch := omega) only [go_sem, Int.reduceEq, Int.reduceLT, Int.reduceLE, Int.reduceToNat, Int.reduceNeg, Int.reduceAdd, Int.reduceSub, Nat.reduceEqDiff, Nat.reduceAdd, Nat.reduceMul, Nat.reduceLeDiff, Nat.reduceSub, ↓reduceIte, reduceCtorEq, decide_true, eq_self, Bool.not_true, Bool.not_false, hb3, hb4, hra, hri, hrw, hb7, hb8, hb9, hb10, hsa, hsi, hsw, hb12, hza, hzi, hzw, hna, hni, hnw, hb14, hma, hmi, hmw, hb15]
  refine hq _ _ _ (by simp only [pickL, lk_cons, Nat.reduceEqDiff, ↓reduceIte]; exact rfl) ?_
  clear hq q
  repeat' (first | refine wpL_seq ?_ | refine wpL_skip ?_ | refine wpL_label ?_ | refine wpL_scope ?_)
  refine wpL_ret (hK' _ _ _ _ (.inr rfl) (resTo (rs' := [.tmp 6]) rfl (by simp only [go_sem, Int.reduceEq, Int.reduceLT, Int.reduceLE, Int.reduceToNat, Int.reduceNeg, Int.reduceAdd, Int.reduceSub, Nat.reduceEqDiff, Nat.reduceAdd, Nat.reduceMul, Nat.reduceLeDiff, Nat.reduceSub, ↓reduceIte, reduceCtorEq, hb3, hb4, hra, hri, hrw, hb7, hb8, hb9, hb10, hsa, hsi, hsw, hb12, hza, hzi, hzw, hna, hni, hnw, hb14, hma, hmi, hmw, hb15]; exact rfl)) ?_)
  rfl
end Go.Proofs.Ytdchdlabdokjnaa.Am.H
