/- The law HeadsApart answers true. -/
import Derived.Test.YtdchdlabdokjnaaHM
import Derived.Test.YtdchdlabdokjnaaAm18
import Derived.Test.YtdchdlabdokjnaaH11
namespace Go.Proofs.Ytdchdlabdokjnaa.Am.H
set_option linter.unusedSectionVars false
open Go Go.Proofs Am
set_option linter.unusedVariables false
set_option linter.unusedSimpArgs false
set_option maxRecDepth 100000
attribute [local irreducible] gO gN gW gdO

theorem grp_len : ∀ l : List Group, (l.map Group.cells).flatten.length = l.length * 5
  | [] => rfl
  | g :: l => by rw [List.map_cons, List.flatten_cons, List.length_append, grp_len l, Group.len, List.length_cons]; omega
theorem cnf_len : ∀ l : List Conf, (l.map Conf.cells).flatten.length = l.length * 4
  | [] => rfl
  | g :: l => by rw [List.map_cons, List.flatten_cons, List.length_append, cnf_len l, Conf.len, List.length_cons]; omega
theorem w1_flat : ∀ l : List (BitVec 64), (l.map w1).flatten = l.map (fun w => AV.int .u64 w.toNat)
  | [] => rfl
  | x :: l => by simp [w1, w1_flat l]
theorem put_comm {h : Heap} {a b : Nat} {x y : Blk} (hab : (b = a) = False) : (h.put a x).put b y = (h.put b y).put a x := by
  funext c
  simp only [Heap.put]
  by_cases h1 : c = b
  · subst h1
    rw [if_pos rfl, if_neg (by rw [hab]; exact id), if_pos rfl]
  · rw [if_neg h1]
    split
    · rfl
    · first | rfl | rw [if_neg h1]
theorem f8_apart (s t : Tables) (us bs : List (BitVec 64)) (hs : SmallT s) (ht : SmallT t) (hu : us.length ≤ 1048576) (hb : bs.length ≤ 1048576) (hc : t.confs.length ≤ 1048576) (hc' : s.confs.length ≤ 1048576) :
    wpP Try.prog 8 [s.av, t.av, .rs 1 (us.map w1), .rs 1 (bs.map w1)] (.bool true) := by
  have q1 := f26_grid s (by have := hs.g; omega) (by omega)
  have q2 := f26_grid t (by have := ht.g; omega) (by omega)
  have hg1 := hs.g
  have hg2 := ht.g
  refine wpP_intro ?_
  refine wpH_intro (fn := Try.f8) rfl rfl (by decide) (by kernel_rfl) fun K' hK' => ?_
  repeat' (first | refine wpL_seq ?_ | refine wpL_skip ?_ | refine wpL_label ?_ | refine wpL_scope ?_)
  refine wpL_region' [2, 3, 4, 5] fun q hq => ?_
  simp -implicitDefEqProofs (disch := omega) only [go_sem, Int.reduceEq, Int.reduceLT, Int.reduceLE, Int.reduceToNat, Int.reduceNeg, Int.reduceAdd, Int.reduceSub, Nat.reduceEqDiff, Nat.reduceAdd, Nat.reduceMul, Nat.reduceLeDiff, Nat.reduceSub, ↓reduceIte, reduceCtorEq, Tables.av, Tables.cells]
  repeat (refine And.intro (by omega) ?_)
  refine gN_new fun b4 hb4 => ?_
  try simp only [newIn_put, newIn_upd] at hb4
  simp -implicitDefEqProofs (disch := omega) only [go_sem, Int.reduceEq, Int.reduceLT, Int.reduceLE, Int.reduceToNat, Int.reduceNeg, Int.reduceAdd, Int.reduceSub, Nat.reduceEqDiff, Nat.reduceAdd, Nat.reduceMul, Nat.reduceLeDiff, Nat.reduceSub, ↓reduceIte, reduceCtorEq, Tables.av, Tables.cells, hb4]
  repeat (refine And.intro (by omega) ?_)
  refine gN_new fun b5 hb5 => ?_
  try simp only [newIn_put, newIn_upd] at hb5
  simp -implicitDefEqProofs (disch := omega) only [go_sem, Int.reduceEq, Int.reduceLT, Int.reduceLE, Int.reduceToNat, Int.reduceNeg, Int.reduceAdd, Int.reduceSub, Nat.reduceEqDiff, Nat.reduceAdd, Nat.reduceMul, Nat.reduceLeDiff, Nat.reduceSub, ↓reduceIte, reduceCtorEq, Tables.av, Tables.cells, hb4, hb5]
  repeat (refine And.intro (by omega) ?_)
  refine hq _ _ _ (by simp only [pickL, lk_cons, Int.reduceEq, Int.reduceLT, Int.reduceLE, Int.reduceToNat, Int.reduceNeg, Int.reduceAdd, Int.reduceSub, Nat.reduceEqDiff, Nat.reduceAdd, Nat.reduceMul, Nat.reduceLeDiff, Nat.reduceSub, ↓reduceIte, reduceCtorEq, if_true, if_false]; exact rfl) ?_
  clear hq q
  refine wpL_frzP' 4 rfl (by simp only [go_sem, hb4, hb5]; exact rfl) rfl (by simp only [go_sem, Int.reduceEq, Int.reduceLT, Int.reduceLE, Int.reduceToNat, Int.reduceNeg, Int.reduceAdd, Int.reduceSub, Nat.reduceEqDiff, Nat.reduceAdd, Nat.reduceMul, Nat.reduceLeDiff, Nat.reduceSub, ↓reduceIte, reduceCtorEq]; exact rfl) (by simp only [go_sem, hb4, hb5]; exact rfl) ?_
  refine wpL_frzP' 5 rfl (by simp only [go_sem, hb4, hb5]; exact rfl) rfl (by simp only [go_sem, Int.reduceEq, Int.reduceLT, Int.reduceLE, Int.reduceToNat, Int.reduceNeg, Int.reduceAdd, Int.reduceSub, Nat.reduceEqDiff, Nat.reduceAdd, Nat.reduceMul, Nat.reduceLeDiff, Nat.reduceSub, ↓reduceIte, reduceCtorEq]; exact rfl) (by simp only [go_sem, hb4, hb5]; exact rfl) ?_
  repeat' (first | refine wpL_seq ?_ | refine wpL_skip ?_ | refine wpL_label ?_ | refine wpL_scope ?_)
  refine wpL_draw' [2, 3, 4, 5, 9, 10] [0, 3, 1, 2, 6, 4, 5, 7] [] [] (by kernel_rfl) (by kernel_rfl) (by kernel_rfl) fun q hq => ?_
  simp -implicitDefEqProofs (disch := omega) only [go_sem, Int.reduceEq, Int.reduceLT, Int.reduceLE, Int.reduceToNat, Int.reduceNeg, Int.reduceAdd, Int.reduceSub, Nat.reduceEqDiff, Nat.reduceAdd, Nat.reduceMul, Nat.reduceLeDiff, Nat.reduceSub, ↓reduceIte, reduceCtorEq, Tables.cells, List.length_map, hb4, hb5]
  repeat (refine And.intro (by omega) ?_)
  refine hq _ _ _ (by simp only [pickL, lk_cons, Int.reduceEq, Int.reduceLT, Int.reduceLE, Int.reduceToNat, Int.reduceNeg, Int.reduceAdd, Int.reduceSub, Nat.reduceEqDiff, Nat.reduceAdd, Nat.reduceMul, Nat.reduceLeDiff, Nat.reduceSub, ↓reduceIte, reduceCtorEq, if_true, if_false]; exact rfl) ?_
  clear hq q
  repeat' (first | refine wpL_seq ?_ | refine wpL_skip ?_ | refine wpL_label ?_ | refine wpL_scope ?_)
  refine wpL_regV [2, 3, 4, 5, 9, 10] 54 (.bool (!(s.ok && (t.ok && (decide (s.groups.length + t.groups.length ≤ 64) && (decide (s.groups.length ≤ 63) && decide (us.length = bs.length))))))) (by simp only [pickL, put, lk_cons, Int.reduceEq, Int.reduceLT, Int.reduceLE, Int.reduceToNat, Int.reduceNeg, Int.reduceAdd, Int.reduceSub, Nat.reduceEqDiff, Nat.reduceAdd, Nat.reduceMul, Nat.reduceLeDiff, Nat.reduceSub, ↓reduceIte, reduceCtorEq, if_true, if_false]; exact rfl) (by decide) ?_ ?_
  · simp -implicitDefEqProofs (disch := omega) only [go_sem, Int.reduceEq, Int.reduceLT, Int.reduceLE, Int.reduceToNat, Int.reduceNeg, Int.reduceAdd, Int.reduceSub, Nat.reduceEqDiff, Nat.reduceAdd, Nat.reduceMul, Nat.reduceLeDiff, Nat.reduceSub, ↓reduceIte, reduceCtorEq, Tables.cells, List.length_map, hb4, hb5]
    repeat' (first | (refine gN_split2 (fun hs => ?_) (fun hs => ?_) <;> simp -implicitDefEqProofs (disch := omega) only [go_sem, Int.reduceEq, Int.reduceLT, Int.reduceLE, Int.reduceToNat, Int.reduceNeg, Int.reduceAdd, Int.reduceSub, Nat.reduceEqDiff, Nat.reduceAdd, Nat.reduceMul, Nat.reduceLeDiff, Nat.reduceSub, ↓reduceIte, reduceCtorEq, hs, Tables.cells, List.length_map, hb4, hb5]) | refine gN_callP ((by first | exact q1 | exact q2)) ?_ | simp -implicitDefEqProofs (disch := omega) only [go_sem, Int.reduceEq, Int.reduceLT, Int.reduceLE, Int.reduceToNat, Int.reduceNeg, Int.reduceAdd, Int.reduceSub, Nat.reduceEqDiff, Nat.reduceAdd, Nat.reduceMul, Nat.reduceLeDiff, Nat.reduceSub, ↓reduceIte, reduceCtorEq, Tables.cells, List.length_map, hb4, hb5] | refine And.intro (by omega) ?_)
    all_goals (try clear hK')
    all_goals ((first | grind | (simp_all; omega)))
  repeat' (first | refine wpL_seq ?_ | refine wpL_skip ?_ | refine wpL_label ?_ | refine wpL_scope ?_)
  refine wpL_cond rfl (fun hc1 => ?_) (fun hc1 => ?_)
  · repeat' (first | refine wpL_seq ?_ | refine wpL_skip ?_ | refine wpL_label ?_ | refine wpL_scope ?_)
    refine wpL_region' [8] fun q hq => ?_
    simp -implicitDefEqProofs (disch := omega) only [go_sem, Int.reduceEq, Int.reduceLT, Int.reduceLE, Int.reduceToNat, Int.reduceNeg, Int.reduceAdd, Int.reduceSub, Nat.reduceEqDiff, Nat.reduceAdd, Nat.reduceMul, Nat.reduceLeDiff, Nat.reduceSub, ↓reduceIte, reduceCtorEq, hb4, hb5]
    repeat (refine And.intro (by omega) ?_)
    refine hq _ _ _ (by simp only [pickL, lk_cons, Int.reduceEq, Int.reduceLT, Int.reduceLE, Int.reduceToNat, Int.reduceNeg, Int.reduceAdd, Int.reduceSub, Nat.reduceEqDiff, Nat.reduceAdd, Nat.reduceMul, Nat.reduceLeDiff, Nat.reduceSub, ↓reduceIte, reduceCtorEq, if_true, if_false]; exact rfl) ?_
    clear hq q
    repeat' (first | refine wpL_seq ?_ | refine wpL_skip ?_ | refine wpL_label ?_ | refine wpL_scope ?_)
    refine wpL_ret (hK' _ _ _ _ (.inr rfl) (resTo (rs' := [.tmp 8]) rfl (by simp only [go_sem, Int.reduceEq, Int.reduceLT, Int.reduceLE, Int.reduceToNat, Int.reduceNeg, Int.reduceAdd, Int.reduceSub, Nat.reduceEqDiff, Nat.reduceAdd, Nat.reduceMul, Nat.reduceLeDiff, Nat.reduceSub, ↓reduceIte, reduceCtorEq, hb4, hb5]; exact rfl)) ?_)
    rfl
  simp at hc1
  obtain ⟨o1, o2, h64, h63, hub⟩ := hc1
  repeat' (first | refine wpL_seq ?_ | refine wpL_skip ?_ | refine wpL_label ?_ | refine wpL_scope ?_)
  refine wpL_draw' [2, 3, 4, 5, 9, 10, 11] [0, 3, 6, 1, 4, 7, 2, 5, 8, 9, 10, 11] [] [false, false, false, false, false, false, true, true] (by kernel_rfl) (by kernel_rfl) (by kernel_rfl) fun q hq => ?_
  simp -implicitDefEqProofs (disch := omega) only [go_sem, Int.reduceEq, Int.reduceLT, Int.reduceLE, Int.reduceToNat, Int.reduceNeg, Int.reduceAdd, Int.reduceSub, Nat.reduceEqDiff, Nat.reduceAdd, Nat.reduceMul, Nat.reduceLeDiff, Nat.reduceSub, ↓reduceIte, reduceCtorEq, Tables.cells, hb4, hb5]
  repeat (refine And.intro (by omega) ?_)
  refine gN_appN ti22 rfl ti54 rfl (by decide) (src_map Group.len Group.leaf _ s.groups) (by dsimp only; omega) (by simp only [maxInt]; omega) fun b57 hb57 => ?_
  try simp only [go_sem, Tables.cells, hb4, hb5] at hb57
  simp -implicitDefEqProofs (disch := omega) only [go_sem, Int.reduceEq, Int.reduceLT, Int.reduceLE, Int.reduceToNat, Int.reduceNeg, Int.reduceAdd, Int.reduceSub, Nat.reduceEqDiff, Nat.reduceAdd, Nat.reduceMul, Nat.reduceLeDiff, Nat.reduceSub, ↓reduceIte, reduceCtorEq, Tables.cells, hb4, hb5, hb57]
  repeat (refine And.intro (by omega) ?_)
  refine gN_appV ti22 rfl ti54 rfl (by decide) (src_map Group.len Group.leaf _ t.groups) (by simp only [go_sem, Tables.cells, hb4, hb5, hb57] <;> exact rfl) ((grp_len _)) (by dsimp only; omega) (by simp only [maxInt]; omega) fun b60 hb60 => ?_
  try simp only [go_sem, Tables.cells, hb4, hb5, hb57] at hb60
  simp -implicitDefEqProofs (disch := omega) only [go_sem, Int.reduceEq, Int.reduceLT, Int.reduceLE, Int.reduceToNat, Int.reduceNeg, Int.reduceAdd, Int.reduceSub, Nat.reduceEqDiff, Nat.reduceAdd, Nat.reduceMul, Nat.reduceLeDiff, Nat.reduceSub, ↓reduceIte, reduceCtorEq, Tables.cells, hb4, hb5, hb57, hb60]
  repeat (refine And.intro (by omega) ?_)
  refine gN_appN ti23 rfl ti56 rfl (by decide) (src_map Conf.len Conf.leaf _ s.confs) (by dsimp only; omega) (by simp only [maxInt]; omega) fun b63 hb63 => ?_
  try simp only [go_sem, Tables.cells, hb4, hb5, hb57, hb60] at hb63
  simp -implicitDefEqProofs (disch := omega) only [go_sem, Int.reduceEq, Int.reduceLT, Int.reduceLE, Int.reduceToNat, Int.reduceNeg, Int.reduceAdd, Int.reduceSub, Nat.reduceEqDiff, Nat.reduceAdd, Nat.reduceMul, Nat.reduceLeDiff, Nat.reduceSub, ↓reduceIte, reduceCtorEq, Tables.cells, hb4, hb5, hb57, hb60, hb63]
  repeat (refine And.intro (by omega) ?_)
  refine gN_new fun b11 hb11 => ?_
  try simp only [newIn_put, newIn_upd] at hb11
  simp -implicitDefEqProofs (disch := omega) only [go_sem, Int.reduceEq, Int.reduceLT, Int.reduceLE, Int.reduceToNat, Int.reduceNeg, Int.reduceAdd, Int.reduceSub, Nat.reduceEqDiff, Nat.reduceAdd, Nat.reduceMul, Nat.reduceLeDiff, Nat.reduceSub, ↓reduceIte, reduceCtorEq, Tables.cells, hb4, hb5, hb57, hb60, hb63, hb11]
  repeat (refine And.intro (by omega) ?_)
  refine hq _ _ _ (by simp only [pickL, lk_cons, Int.reduceEq, Int.reduceLT, Int.reduceLE, Int.reduceToNat, Int.reduceNeg, Int.reduceAdd, Int.reduceSub, Nat.reduceEqDiff, Nat.reduceAdd, Nat.reduceMul, Nat.reduceLeDiff, Nat.reduceSub, ↓reduceIte, reduceCtorEq, if_true, if_false]; exact rfl) ?_
  clear hq q
  repeat' (first | refine wpL_seq ?_ | refine wpL_skip ?_ | refine wpL_label ?_ | refine wpL_scope ?_)
  refine wpL_region' [2, 3, 4, 5, 9, 10, 11, 12] fun q hq => ?_
  simp -implicitDefEqProofs (disch := omega) only [go_sem, Int.reduceEq, Int.reduceLT, Int.reduceLE, Int.reduceToNat, Int.reduceNeg, Int.reduceAdd, Int.reduceSub, Nat.reduceEqDiff, Nat.reduceAdd, Nat.reduceMul, Nat.reduceLeDiff, Nat.reduceSub, ↓reduceIte, reduceCtorEq, hb4, hb5, hb57, hb60, hb63, hb11]
  repeat (refine And.intro (by omega) ?_)
  refine hq _ _ _ (by simp only [pickL, lk_cons, Int.reduceEq, Int.reduceLT, Int.reduceLE, Int.reduceToNat, Int.reduceNeg, Int.reduceAdd, Int.reduceSub, Nat.reduceEqDiff, Nat.reduceAdd, Nat.reduceMul, Nat.reduceLeDiff, Nat.reduceSub, ↓reduceIte, reduceCtorEq, if_true, if_false]; exact rfl) ?_
  clear hq q
  rw [put_comm (by simp only [hb11])]
  repeat' (first | refine wpL_seq ?_ | refine wpL_skip ?_ | refine wpL_label ?_ | refine wpL_scope ?_)
  refine wpL_block fun k2 hn2 hx2 ho2 => ?_
  refine wpL_loop (fun j e H => ∃ i b : Nat, i ≤ t.confs.length ∧ j = t.confs.length - i ∧ ((b = b11) = False ∧ (b11 = b) = False ∧ (b = b60) = False ∧ (b60 = b) = False ∧ NewIn Heap.emp b) ∧
      H = ((Heap.emp.put b60 ⟨.own, (List.map Group.cells s.groups).flatten ++ (List.map Group.cells t.groups).flatten, 54, []⟩).put b11 ⟨.own, [.sl b60 0 (s.groups.length + t.groups.length) 5, .sl b 0 (s.confs.length + i) 4], 25, []⟩).put b ⟨.own, ((s.confs ++ (t.confs.take i).map (shiftC s.groups.length)).map Conf.cells).flatten, 56, []⟩ ∧
      e = lk [(2, .rs 1 (us.map w1)), (3, .rs 1 (bs.map w1)), (4, .rp s.cells 0), (5, .rp t.cells 0), (9, .int .i64 s.groups.length), (10, .int .i64 t.groups.length), (11, .ptr b11 0), (12, .int .i64 i)]) t.confs.length ⟨0, b63, by omega, by omega, by simp only [hb60, hb63, hb11, and_self], by simp, rfl⟩ ?_
  rintro j e H ⟨i, b, hi, rfl, hbb, rfl, rfl⟩ k3 hn3 hx3
  repeat' (first | refine wpL_seq ?_ | refine wpL_skip ?_ | refine wpL_label ?_ | refine wpL_scope ?_)
  refine wpL_region' [2, 3, 4, 5, 9, 10, 11, 12, 69] fun q hq => ?_
  simp -implicitDefEqProofs (disch := omega) only [go_sem, Int.reduceEq, Int.reduceLT, Int.reduceLE, Int.reduceToNat, Int.reduceNeg, Int.reduceAdd, Int.reduceSub, Nat.reduceEqDiff, Nat.reduceAdd, Nat.reduceMul, Nat.reduceLeDiff, Nat.reduceSub, ↓reduceIte, reduceCtorEq, Tables.cells, List.length_map, hb11, hb60, hbb, hb4, hb5, hb57, hb60, hb63, hb11]
  repeat (refine And.intro (by omega) ?_)
  refine hq _ _ _ (by simp only [pickL, lk_cons, Int.reduceEq, Int.reduceLT, Int.reduceLE, Int.reduceToNat, Int.reduceNeg, Int.reduceAdd, Int.reduceSub, Nat.reduceEqDiff, Nat.reduceAdd, Nat.reduceMul, Nat.reduceLeDiff, Nat.reduceSub, ↓reduceIte, reduceCtorEq, if_true, if_false]; exact rfl) ?_
  clear hq q
  repeat' (first | refine wpL_seq ?_ | refine wpL_skip ?_ | refine wpL_label ?_ | refine wpL_scope ?_)
  refine wpL_cond rfl (fun hc4 => ?_) (fun hc4 => ?_)
  · simp at hc4
    obtain ⟨c, hci⟩ := get_of_lt hc4
    obtain ⟨x, y, ea, eb, hab, hbn⟩ := Tables.ok_conf o2 (List.mem_of_getElem? hci)
    repeat' (first | refine wpL_seq ?_ | refine wpL_skip ?_ | refine wpL_label ?_ | refine wpL_scope ?_)
    refine wpL_block fun k5 hn5 hx5 ho5 => ?_
    repeat' (first | refine wpL_seq ?_ | refine wpL_skip ?_ | refine wpL_label ?_ | refine wpL_scope ?_)
    refine wpL_region' [2, 3, 4, 5, 9, 10, 11, 12, 13] fun q hq => ?_
    simp -implicitDefEqProofs (disch := omega) only [go_sem, Int.reduceEq, Int.reduceLT, Int.reduceLE, Int.reduceToNat, Int.reduceNeg, Int.reduceAdd, Int.reduceSub, Nat.reduceEqDiff, Nat.reduceAdd, Nat.reduceMul, Nat.reduceLeDiff, Nat.reduceSub, ↓reduceIte, reduceCtorEq, Tables.cells, List.length_map, hci, Conf.cells, hb11, hb60, hbb, hb4, hb5, hb57, hb60, hb63, hb11]
    repeat (refine And.intro (by omega) ?_)
    refine gN_new fun b13 hb13 => ?_
    try simp only [newIn_put, newIn_upd] at hb13
    simp -implicitDefEqProofs (disch := omega) only [go_sem, Int.reduceEq, Int.reduceLT, Int.reduceLE, Int.reduceToNat, Int.reduceNeg, Int.reduceAdd, Int.reduceSub, Nat.reduceEqDiff, Nat.reduceAdd, Nat.reduceMul, Nat.reduceLeDiff, Nat.reduceSub, ↓reduceIte, reduceCtorEq, Tables.cells, List.length_map, hci, Conf.cells, hb11, hb60, hbb, hb4, hb5, hb57, hb60, hb63, hb11, hb13]
    repeat (refine And.intro (by omega) ?_)
    refine hq _ _ _ (by simp only [pickL, lk_cons, Int.reduceEq, Int.reduceLT, Int.reduceLE, Int.reduceToNat, Int.reduceNeg, Int.reduceAdd, Int.reduceSub, Nat.reduceEqDiff, Nat.reduceAdd, Nat.reduceMul, Nat.reduceLeDiff, Nat.reduceSub, ↓reduceIte, reduceCtorEq, if_true, if_false]; exact rfl) ?_
    clear hq q
    refine wpL_frzP' 13 rfl (by simp only [go_sem, hb13, hb4, hb5, hb57, hb60, hb63, hb11, hb13]; exact rfl) rfl (by simp only [go_sem, Int.reduceEq, Int.reduceLT, Int.reduceLE, Int.reduceToNat, Int.reduceNeg, Int.reduceAdd, Int.reduceSub, Nat.reduceEqDiff, Nat.reduceAdd, Nat.reduceMul, Nat.reduceLeDiff, Nat.reduceSub, ↓reduceIte, reduceCtorEq]; exact rfl) (by simp only [go_sem, hb13, hb4, hb5, hb57, hb60, hb63, hb11, hb13]; exact rfl) ?_
    repeat' (first | refine wpL_seq ?_ | refine wpL_skip ?_ | refine wpL_label ?_ | refine wpL_scope ?_)
    refine wpL_region' [2, 3, 4, 5, 9, 10, 11, 12] fun q hq => ?_
    simp -implicitDefEqProofs (disch := omega) only [go_sem, Int.reduceEq, Int.reduceLT, Int.reduceLE, Int.reduceToNat, Int.reduceNeg, Int.reduceAdd, Int.reduceSub, Nat.reduceEqDiff, Nat.reduceAdd, Nat.reduceMul, Nat.reduceLeDiff, Nat.reduceSub, ↓reduceIte, reduceCtorEq, hb11, hb60, hbb, hb4, hb5, hb57, hb60, hb63, hb11, hb13]
    repeat (refine And.intro (by omega) ?_)
    refine gN_new fun b92 hb92 => ?_
    try simp only [newIn_put, newIn_upd] at hb92
    simp -implicitDefEqProofs (disch := omega) only [go_sem, Int.reduceEq, Int.reduceLT, Int.reduceLE, Int.reduceToNat, Int.reduceNeg, Int.reduceAdd, Int.reduceSub, Nat.reduceEqDiff, Nat.reduceAdd, Nat.reduceMul, Nat.reduceLeDiff, Nat.reduceSub, ↓reduceIte, reduceCtorEq, hb11, hb60, hbb, hb4, hb5, hb57, hb60, hb63, hb11, hb13, hb92]
    repeat (refine And.intro (by omega) ?_)
    refine gN_appV ti23 rfl ti56 rfl (by decide) (SrcV.sl (by simp only [go_sem, hb11, hb60, hbb, hb4, hb5, hb57, hb60, hb63, hb11, hb13, hb92] <;> exact rfl) rfl rfl) (by simp only [go_sem, hb11, hb60, hbb, hb4, hb5, hb57, hb60, hb63, hb11, hb13, hb92] <;> exact rfl) ((by rw [cnf_len]; simp; omega)) (by dsimp only; omega) (by simp only [maxInt]; omega) fun b93 hb93 => ?_
    try simp only [go_sem, hb11, hb60, hbb, hb4, hb5, hb57, hb60, hb63, hb11, hb13, hb92] at hb93
    simp -implicitDefEqProofs (disch := omega) only [go_sem, Int.reduceEq, Int.reduceLT, Int.reduceLE, Int.reduceToNat, Int.reduceNeg, Int.reduceAdd, Int.reduceSub, Nat.reduceEqDiff, Nat.reduceAdd, Nat.reduceMul, Nat.reduceLeDiff, Nat.reduceSub, ↓reduceIte, reduceCtorEq, hb11, hb60, hbb, hb4, hb5, hb57, hb60, hb63, hb11, hb13, hb92, hb93]
    repeat (refine And.intro (by omega) ?_)
    refine hq _ _ _ (by simp only [pickL, lk_cons, Int.reduceEq, Int.reduceLT, Int.reduceLE, Int.reduceToNat, Int.reduceNeg, Int.reduceAdd, Int.reduceSub, Nat.reduceEqDiff, Nat.reduceAdd, Nat.reduceMul, Nat.reduceLeDiff, Nat.reduceSub, ↓reduceIte, reduceCtorEq, if_true, if_false]; exact rfl) ?_
    clear hq q
    refine wpL_del' b92 (by simp only [go_sem, hb4, hb5, hb57, hb60, hb63, hb11, hb13, hb92, hb93]; exact rfl) ?_
    repeat' (first | refine wpL_seq ?_ | refine wpL_skip ?_ | refine wpL_label ?_ | refine wpL_scope ?_)
    refine wpL_nil (hn5 _ _ ?_)
    repeat' (first | refine wpL_seq ?_ | refine wpL_skip ?_ | refine wpL_label ?_ | refine wpL_scope ?_)
    refine wpL_region' [2, 3, 4, 5, 9, 10, 11, 12] fun q hq => ?_
    simp -implicitDefEqProofs (disch := omega) only [go_sem, Int.reduceEq, Int.reduceLT, Int.reduceLE, Int.reduceToNat, Int.reduceNeg, Int.reduceAdd, Int.reduceSub, Nat.reduceEqDiff, Nat.reduceAdd, Nat.reduceMul, Nat.reduceLeDiff, Nat.reduceSub, ↓reduceIte, reduceCtorEq, hb11, hb60, hbb, hb4, hb5, hb57, hb60, hb63, hb11, hb13, hb92, hb93]
    repeat (refine And.intro (by omega) ?_)
    refine hq _ _ _ (by simp only [pickL, lk_cons, Int.reduceEq, Int.reduceLT, Int.reduceLE, Int.reduceToNat, Int.reduceNeg, Int.reduceAdd, Int.reduceSub, Nat.reduceEqDiff, Nat.reduceAdd, Nat.reduceMul, Nat.reduceLeDiff, Nat.reduceSub, ↓reduceIte, reduceCtorEq, if_true, if_false]; exact rfl) ?_
    clear hq q
    repeat' (first | refine wpL_seq ?_ | refine wpL_skip ?_ | refine wpL_label ?_ | refine wpL_scope ?_)
    refine wpL_nil (hn3 (t.confs.length - (i + 1)) _ _ (by omega) ⟨i + 1, b93, by omega, by omega, by simp only [hb93, and_self], ?_, rfl⟩)
    rw [List.take_add_one, hci]
    simp [Conf.cells, shiftC, Nat.add_assoc]
  simp at hc4
  obtain rfl : i = t.confs.length := by omega
  rw [List.take_of_length_le (Nat.le_refl _)]
  repeat' (first | refine wpL_seq ?_ | refine wpL_skip ?_ | refine wpL_label ?_ | refine wpL_scope ?_)
  refine wpL_exit (hx3 _ _ _ (by simp) (hx2 _ _ ?_))
  refine wpL_pick' [2, 3, 4, 5, 9, 10, 11] (by simp only [pickL, lk_cons, Nat.reduceEqDiff, ↓reduceIte, if_true, if_false]; exact rfl) ?_
  refine wpL_frzP' 11 (L' := [(2, .rs 1 (us.map w1)), (3, .rs 1 (bs.map w1)), (4, .rp s.cells 0), (5, .rp t.cells 0), (9, .int .i64 s.groups.length), (10, .int .i64 t.groups.length), (11, .rp [.sl b60 0 (s.groups.length + t.groups.length) 5, .sl b 0 (s.confs.length + t.confs.length) 4] 0)]) rfl (by simp only [go_sem, hb11, hb60, hbb] <;> exact rfl) rfl rfl (by simp only [go_sem, hb11, hb60, hbb] <;> exact rfl) ?_
  refine wpL_frzR 11 (b := b60) (k := ⟨.own, (List.map Group.cells s.groups).flatten ++ (List.map Group.cells t.groups).flatten, 54, []⟩) (L' := [(2, .rs 1 (us.map w1)), (3, .rs 1 (bs.map w1)), (4, .rp s.cells 0), (5, .rp t.cells 0), (9, .int .i64 s.groups.length), (10, .int .i64 t.groups.length), (11, .rp [.rs 5 ((both s t).groups.map Group.cells), .sl b 0 (s.confs.length + t.confs.length) 4] 0)]) (us := [.sl b60 0 (s.groups.length + t.groups.length) 5, .sl b 0 (s.confs.length + t.confs.length) 4]) (o := 0) (ds := [.rs 5 ((both s t).groups.map Group.cells), .sl b 0 (s.confs.length + t.confs.length) 4]) rfl (by simp only [go_sem, hb11, hb60, hbb]) rfl
    (.cons (Wk.slF (Els.of Group.len (both s t).groups (by simp [both]) (by simp [both]))) (.cons (.refl _) .nil)) rfl (by simp only [go_sem, hb11, hb60, hbb] <;> exact rfl) ?_
  refine wpL_frzR 11 (b := b) (k := ⟨.own, ((s.confs ++ t.confs.map (shiftC s.groups.length)).map Conf.cells).flatten, 56, []⟩) (L' := [(2, .rs 1 (us.map w1)), (3, .rs 1 (bs.map w1)), (4, .rp s.cells 0), (5, .rp t.cells 0), (9, .int .i64 s.groups.length), (10, .int .i64 t.groups.length), (11, .rp (both s t).cells 0)]) (us := [.rs 5 ((both s t).groups.map Group.cells), .sl b 0 (s.confs.length + t.confs.length) 4]) (o := 0) (ds := (both s t).cells) rfl (by simp only [go_sem, hb11, hb60, hbb]) rfl
    (.cons (.refl _) (.cons (Wk.slF (Els.of Conf.len (both s t).confs (by simp [both]) (by simp [both]))) .nil)) rfl (by simp only [go_sem, hb11, hb60, hbb] <;> exact rfl) ?_
  repeat' (first | refine wpL_seq ?_ | refine wpL_skip ?_ | refine wpL_label ?_ | refine wpL_scope ?_)
  refine wpL_region' [2, 3, 4, 5, 9, 10, 11, 14] fun q hq => ?_
  simp -implicitDefEqProofs (disch := omega) only [go_sem, Int.reduceEq, Int.reduceLT, Int.reduceLE, Int.reduceToNat, Int.reduceNeg, Int.reduceAdd, Int.reduceSub, Nat.reduceEqDiff, Nat.reduceAdd, Nat.reduceMul, Nat.reduceLeDiff, Nat.reduceSub, ↓reduceIte, reduceCtorEq, hb4, hb5, hb57, hb60, hb63, hb11]
  repeat (refine And.intro (by omega) ?_)
  refine hq _ _ _ (by simp only [pickL, lk_cons, Int.reduceEq, Int.reduceLT, Int.reduceLE, Int.reduceToNat, Int.reduceNeg, Int.reduceAdd, Int.reduceSub, Nat.reduceEqDiff, Nat.reduceAdd, Nat.reduceMul, Nat.reduceLeDiff, Nat.reduceSub, ↓reduceIte, reduceCtorEq, if_true, if_false]; exact rfl) ?_
  clear hq q
  refine wpL_vecL' 14 1 30 rfl fun w0 hw0 => ?_
  simp only [setL]
  repeat' (first | refine wpL_seq ?_ | refine wpL_skip ?_ | refine wpL_label ?_ | refine wpL_scope ?_)
  refine wpL_region' [2, 3, 4, 5, 9, 10, 11, 14, 15] fun q hq => ?_
  simp -implicitDefEqProofs (disch := omega) only [go_sem, Int.reduceEq, Int.reduceLT, Int.reduceLE, Int.reduceToNat, Int.reduceNeg, Int.reduceAdd, Int.reduceSub, Nat.reduceEqDiff, Nat.reduceAdd, Nat.reduceMul, Nat.reduceLeDiff, Nat.reduceSub, ↓reduceIte, reduceCtorEq, hb4, hb5, hb57, hb60, hb63, hb11]
  repeat (refine And.intro (by omega) ?_)
  refine hq _ _ _ (by simp only [pickL, lk_cons, Int.reduceEq, Int.reduceLT, Int.reduceLE, Int.reduceToNat, Int.reduceNeg, Int.reduceAdd, Int.reduceSub, Nat.reduceEqDiff, Nat.reduceAdd, Nat.reduceMul, Nat.reduceLeDiff, Nat.reduceSub, ↓reduceIte, reduceCtorEq, if_true, if_false]; exact rfl) ?_
  clear hq q
  have hz : (List.zipWith (mixW s.groups.length) us bs).length = us.length := by simp [hub]
  generalize hZ : List.zipWith (mixW s.groups.length) us bs = Z at *
  have d1 := shl64_1 s.groups.length (by omega)
  have d2 := sub_mask (n := s.groups.length) h63
  repeat' (first | refine wpL_seq ?_ | refine wpL_skip ?_ | refine wpL_label ?_ | refine wpL_scope ?_)
  refine wpL_block fun k6 hn6 hx6 ho6 => ?_
  refine wpL_loop (fun j e H => ∃ i b : Nat, i ≤ us.length ∧ j = us.length - i ∧ NewIn Heap.emp b ∧ H = Heap.emp.put b ⟨.own, (Z.take i).map (fun w => AV.int .u64 w.toNat), 30, []⟩ ∧
      e = lk [(2, .rs 1 (us.map w1)), (3, .rs 1 (bs.map w1)), (4, .rp s.cells 0), (5, .rp t.cells 0), (9, .int .i64 s.groups.length), (10, .int .i64 t.groups.length), (11, .rp (both s t).cells 0), (14, .sl b 0 i 1), (15, .int .i64 i)]) us.length ⟨0, w0, by omega, by omega, hw0, rfl, rfl⟩ ?_
  rintro j e H ⟨i, b, hi, rfl, hbn, rfl, rfl⟩ k7 hn7 hx7
  repeat' (first | refine wpL_seq ?_ | refine wpL_skip ?_ | refine wpL_label ?_ | refine wpL_scope ?_)
  refine wpL_region' [2, 3, 4, 5, 9, 10, 11, 14, 15, 98] fun q hq => ?_
  simp -implicitDefEqProofs (disch := omega) only [go_sem, Int.reduceEq, Int.reduceLT, Int.reduceLE, Int.reduceToNat, Int.reduceNeg, Int.reduceAdd, Int.reduceSub, Nat.reduceEqDiff, Nat.reduceAdd, Nat.reduceMul, Nat.reduceLeDiff, Nat.reduceSub, ↓reduceIte, reduceCtorEq, List.length_map, hb4, hb5, hb57, hb60, hb63, hb11]
  repeat (refine And.intro (by omega) ?_)
  refine hq _ _ _ (by simp only [pickL, lk_cons, Int.reduceEq, Int.reduceLT, Int.reduceLE, Int.reduceToNat, Int.reduceNeg, Int.reduceAdd, Int.reduceSub, Nat.reduceEqDiff, Nat.reduceAdd, Nat.reduceMul, Nat.reduceLeDiff, Nat.reduceSub, ↓reduceIte, reduceCtorEq, if_true, if_false]; exact rfl) ?_
  clear hq q
  repeat' (first | refine wpL_seq ?_ | refine wpL_skip ?_ | refine wpL_label ?_ | refine wpL_scope ?_)
  refine wpL_cond rfl (fun hc8 => ?_) (fun hc8 => ?_)
  · simp at hc8
    obtain ⟨x, hx⟩ := get_of_lt hc8
    obtain ⟨y, hy⟩ := get_of_lt (show i < bs.length by omega)
    have d3 := shl64 y s.groups.length (by omega)
    have hZi : Z[i]? = some (mixW s.groups.length x y) := by rw [← hZ, List.getElem?_zipWith, hx, hy]
    repeat' (first | refine wpL_seq ?_ | refine wpL_skip ?_ | refine wpL_label ?_ | refine wpL_scope ?_)
    refine wpL_block fun k9 hn9 hx9 ho9 => ?_
    repeat' (first | refine wpL_seq ?_ | refine wpL_skip ?_ | refine wpL_label ?_ | refine wpL_scope ?_)
    refine wpL_region' [2, 3, 4, 5, 9, 10, 11, 14, 15, 16] fun q hq => ?_
    simp -implicitDefEqProofs (disch := omega) only [go_sem, Int.reduceEq, Int.reduceLT, Int.reduceLE, Int.reduceToNat, Int.reduceNeg, Int.reduceAdd, Int.reduceSub, Nat.reduceEqDiff, Nat.reduceAdd, Nat.reduceMul, Nat.reduceLeDiff, Nat.reduceSub, ↓reduceIte, reduceCtorEq, List.length_map, hx, w1, d1, d2, and64, hb4, hb5, hb57, hb60, hb63, hb11]
    repeat (refine And.intro (by omega) ?_)
    refine hq _ _ _ (by simp only [pickL, lk_cons, Int.reduceEq, Int.reduceLT, Int.reduceLE, Int.reduceToNat, Int.reduceNeg, Int.reduceAdd, Int.reduceSub, Nat.reduceEqDiff, Nat.reduceAdd, Nat.reduceMul, Nat.reduceLeDiff, Nat.reduceSub, ↓reduceIte, reduceCtorEq, if_true, if_false]; exact rfl) ?_
    clear hq q
    repeat' (first | refine wpL_seq ?_ | refine wpL_skip ?_ | refine wpL_label ?_ | refine wpL_scope ?_)
    refine wpL_region' [2, 3, 4, 5, 9, 10, 11, 14, 15] fun q hq => ?_
    simp -implicitDefEqProofs (disch := omega) only [go_sem, Int.reduceEq, Int.reduceLT, Int.reduceLE, Int.reduceToNat, Int.reduceNeg, Int.reduceAdd, Int.reduceSub, Nat.reduceEqDiff, Nat.reduceAdd, Nat.reduceMul, Nat.reduceLeDiff, Nat.reduceSub, ↓reduceIte, reduceCtorEq, List.length_map, hy, w1, d3, or64, hb4, hb5, hb57, hb60, hb63, hb11]
    repeat (refine And.intro (by omega) ?_)
    refine gN_new fun b120 hb120 => ?_
    try simp only [newIn_put, newIn_upd] at hb120
    simp -implicitDefEqProofs (disch := omega) only [go_sem, Int.reduceEq, Int.reduceLT, Int.reduceLE, Int.reduceToNat, Int.reduceNeg, Int.reduceAdd, Int.reduceSub, Nat.reduceEqDiff, Nat.reduceAdd, Nat.reduceMul, Nat.reduceLeDiff, Nat.reduceSub, ↓reduceIte, reduceCtorEq, List.length_map, hy, w1, d3, or64, hb4, hb5, hb57, hb60, hb63, hb11, hb120]
    repeat (refine And.intro (by omega) ?_)
    refine gN_appV ti31 rfl ti30 rfl (by decide) (SrcV.sl (by simp only [go_sem, List.length_map, hy, w1, d3, or64, hb4, hb5, hb57, hb60, hb63, hb11, hb120] <;> exact rfl) rfl rfl) (by simp only [go_sem, List.length_map, hy, w1, d3, or64, hb4, hb5, hb57, hb60, hb63, hb11, hb120] <;> exact rfl) ((by rw [List.length_map, List.length_take, hz]; omega)) (by dsimp only; omega) (by simp only [maxInt]; omega) fun b121 hb121 => ?_
    try simp only [go_sem, List.length_map, hy, w1, d3, or64, hb4, hb5, hb57, hb60, hb63, hb11, hb120] at hb121
    simp -implicitDefEqProofs (disch := omega) only [go_sem, Int.reduceEq, Int.reduceLT, Int.reduceLE, Int.reduceToNat, Int.reduceNeg, Int.reduceAdd, Int.reduceSub, Nat.reduceEqDiff, Nat.reduceAdd, Nat.reduceMul, Nat.reduceLeDiff, Nat.reduceSub, ↓reduceIte, reduceCtorEq, List.length_map, hy, w1, d3, or64, hb4, hb5, hb57, hb60, hb63, hb11, hb120, hb121]
    repeat (refine And.intro (by omega) ?_)
    refine hq _ _ _ (by simp only [pickL, lk_cons, Int.reduceEq, Int.reduceLT, Int.reduceLE, Int.reduceToNat, Int.reduceNeg, Int.reduceAdd, Int.reduceSub, Nat.reduceEqDiff, Nat.reduceAdd, Nat.reduceMul, Nat.reduceLeDiff, Nat.reduceSub, ↓reduceIte, reduceCtorEq, if_true, if_false]; exact rfl) ?_
    clear hq q
    refine wpL_del' b120 (by simp only [go_sem, hb4, hb5, hb57, hb60, hb63, hb11, hb120, hb121]; exact rfl) ?_
    repeat' (first | refine wpL_seq ?_ | refine wpL_skip ?_ | refine wpL_label ?_ | refine wpL_scope ?_)
    refine wpL_nil (hn9 _ _ ?_)
    repeat' (first | refine wpL_seq ?_ | refine wpL_skip ?_ | refine wpL_label ?_ | refine wpL_scope ?_)
    refine wpL_region' [2, 3, 4, 5, 9, 10, 11, 14, 15] fun q hq => ?_
    simp -implicitDefEqProofs (disch := omega) only [go_sem, Int.reduceEq, Int.reduceLT, Int.reduceLE, Int.reduceToNat, Int.reduceNeg, Int.reduceAdd, Int.reduceSub, Nat.reduceEqDiff, Nat.reduceAdd, Nat.reduceMul, Nat.reduceLeDiff, Nat.reduceSub, ↓reduceIte, reduceCtorEq, hb4, hb5, hb57, hb60, hb63, hb11, hb120, hb121]
    repeat (refine And.intro (by omega) ?_)
    refine hq _ _ _ (by simp only [pickL, lk_cons, Int.reduceEq, Int.reduceLT, Int.reduceLE, Int.reduceToNat, Int.reduceNeg, Int.reduceAdd, Int.reduceSub, Nat.reduceEqDiff, Nat.reduceAdd, Nat.reduceMul, Nat.reduceLeDiff, Nat.reduceSub, ↓reduceIte, reduceCtorEq, if_true, if_false]; exact rfl) ?_
    clear hq q
    repeat' (first | refine wpL_seq ?_ | refine wpL_skip ?_ | refine wpL_label ?_ | refine wpL_scope ?_)
    exact wpL_nil (hn7 (us.length - (i + 1)) _ _ (by omega) ⟨i + 1, b121, by omega, by omega, newIn_emp, by rw [List.take_add_one, hZi]; simp [mixW], rfl⟩)
  simp at hc8
  obtain rfl : i = us.length := by omega
  rw [List.take_of_length_le (by omega : Z.length ≤ us.length)]
  repeat' (first | refine wpL_seq ?_ | refine wpL_skip ?_ | refine wpL_label ?_ | refine wpL_scope ?_)
  refine wpL_exit (hx7 _ _ _ (by simp) (hx6 _ _ ?_))
  refine wpL_frzS' 14 (Z.map w1) rfl put_same rfl (w1_flat Z).symm (by simp [hz]) (fun e he => by obtain ⟨a, _, rfl⟩ := List.mem_map.1 he; rfl) (by simp only [setL] <;> exact rfl) (by simp only [go_sem] <;> exact rfl) ?_
  have hokB : (both s t).ok = true := ok_both o1 o2 h64
  have hSB : SmallT (both s t) := ⟨by simp [both]; omega, by simp [both]; omega⟩
  have p1 := f25_run s us hs o1 hu
  have p2 := f25_run t bs ht o2 hb
  have p3 := f25_run (both s t) Z hSB hokB (by omega)
  have hl1 : (runL s us).length = us.length + 1 := by simp [runL, runT_len]
  have hl2 : (runL t bs).length = us.length + 1 := by simp [runL, runT_len, hub]
  have hl3 : (runL (both s t) Z).length = us.length + 1 := by simp [runL, runT_len, hz]
  repeat' (first | refine wpL_seq ?_ | refine wpL_skip ?_ | refine wpL_label ?_ | refine wpL_scope ?_)
  refine wpL_region' [2, 3, 5, 9, 10, 11, 14, 17, 18] fun q hq => ?_
  simp -implicitDefEqProofs (disch := omega) only [go_sem, Int.reduceEq, Int.reduceLT, Int.reduceLE, Int.reduceToNat, Int.reduceNeg, Int.reduceAdd, Int.reduceSub, Nat.reduceEqDiff, Nat.reduceAdd, Nat.reduceMul, Nat.reduceLeDiff, Nat.reduceSub, ↓reduceIte, reduceCtorEq, Tables.cells, hb4, hb5, hb57, hb60, hb63, hb11]
  repeat (refine And.intro (by omega) ?_)
  refine gN_callP (p1) ?_
  simp -implicitDefEqProofs (disch := omega) only [go_sem, Int.reduceEq, Int.reduceLT, Int.reduceLE, Int.reduceToNat, Int.reduceNeg, Int.reduceAdd, Int.reduceSub, Nat.reduceEqDiff, Nat.reduceAdd, Nat.reduceMul, Nat.reduceLeDiff, Nat.reduceSub, ↓reduceIte, reduceCtorEq, Tables.cells, hb4, hb5, hb57, hb60, hb63, hb11]
  repeat (refine And.intro (by omega) ?_)
  refine hq _ _ _ (by simp only [pickL, lk_cons, Int.reduceEq, Int.reduceLT, Int.reduceLE, Int.reduceToNat, Int.reduceNeg, Int.reduceAdd, Int.reduceSub, Nat.reduceEqDiff, Nat.reduceAdd, Nat.reduceMul, Nat.reduceLeDiff, Nat.reduceSub, ↓reduceIte, reduceCtorEq, if_true, if_false]; exact rfl) ?_
  clear hq q
  repeat' (first | refine wpL_seq ?_ | refine wpL_skip ?_ | refine wpL_label ?_ | refine wpL_scope ?_)
  refine wpL_region' [2, 9, 10, 11, 14, 17, 18, 19, 20] fun q hq => ?_
  simp -implicitDefEqProofs (disch := omega) only [go_sem, Int.reduceEq, Int.reduceLT, Int.reduceLE, Int.reduceToNat, Int.reduceNeg, Int.reduceAdd, Int.reduceSub, Nat.reduceEqDiff, Nat.reduceAdd, Nat.reduceMul, Nat.reduceLeDiff, Nat.reduceSub, ↓reduceIte, reduceCtorEq, Tables.cells, hb4, hb5, hb57, hb60, hb63, hb11]
  repeat (refine And.intro (by omega) ?_)
  refine gN_callP (p2) ?_
  simp -implicitDefEqProofs (disch := omega) only [go_sem, Int.reduceEq, Int.reduceLT, Int.reduceLE, Int.reduceToNat, Int.reduceNeg, Int.reduceAdd, Int.reduceSub, Nat.reduceEqDiff, Nat.reduceAdd, Nat.reduceMul, Nat.reduceLeDiff, Nat.reduceSub, ↓reduceIte, reduceCtorEq, Tables.cells, hb4, hb5, hb57, hb60, hb63, hb11]
  repeat (refine And.intro (by omega) ?_)
  refine hq _ _ _ (by simp only [pickL, lk_cons, Int.reduceEq, Int.reduceLT, Int.reduceLE, Int.reduceToNat, Int.reduceNeg, Int.reduceAdd, Int.reduceSub, Nat.reduceEqDiff, Nat.reduceAdd, Nat.reduceMul, Nat.reduceLeDiff, Nat.reduceSub, ↓reduceIte, reduceCtorEq, if_true, if_false]; exact rfl) ?_
  clear hq q
  repeat' (first | refine wpL_seq ?_ | refine wpL_skip ?_ | refine wpL_label ?_ | refine wpL_scope ?_)
  refine wpL_region' [2, 9, 10, 17, 18, 19, 20, 21, 22] fun q hq => ?_
  simp -implicitDefEqProofs (disch := omega) only [go_sem, Int.reduceEq, Int.reduceLT, Int.reduceLE, Int.reduceToNat, Int.reduceNeg, Int.reduceAdd, Int.reduceSub, Nat.reduceEqDiff, Nat.reduceAdd, Nat.reduceMul, Nat.reduceLeDiff, Nat.reduceSub, ↓reduceIte, reduceCtorEq, Tables.cells, hb4, hb5, hb57, hb60, hb63, hb11]
  repeat (refine And.intro (by omega) ?_)
  refine gN_callP (p3) ?_
  simp -implicitDefEqProofs (disch := omega) only [go_sem, Int.reduceEq, Int.reduceLT, Int.reduceLE, Int.reduceToNat, Int.reduceNeg, Int.reduceAdd, Int.reduceSub, Nat.reduceEqDiff, Nat.reduceAdd, Nat.reduceMul, Nat.reduceLeDiff, Nat.reduceSub, ↓reduceIte, reduceCtorEq, Tables.cells, hb4, hb5, hb57, hb60, hb63, hb11]
  repeat (refine And.intro (by omega) ?_)
  refine hq _ _ _ (by simp only [pickL, lk_cons, Int.reduceEq, Int.reduceLT, Int.reduceLE, Int.reduceToNat, Int.reduceNeg, Int.reduceAdd, Int.reduceSub, Nat.reduceEqDiff, Nat.reduceAdd, Nat.reduceMul, Nat.reduceLeDiff, Nat.reduceSub, ↓reduceIte, reduceCtorEq, if_true, if_false]; exact rfl) ?_
  clear hq q
  repeat' (first | refine wpL_seq ?_ | refine wpL_skip ?_ | refine wpL_label ?_ | refine wpL_scope ?_)
  refine wpL_regV [9, 10, 17, 19, 21] 173 (.bool false) (by simp only [pickL, put, lk_cons, Int.reduceEq, Int.reduceLT, Int.reduceLE, Int.reduceToNat, Int.reduceNeg, Int.reduceAdd, Int.reduceSub, Nat.reduceEqDiff, Nat.reduceAdd, Nat.reduceMul, Nat.reduceLeDiff, Nat.reduceSub, ↓reduceIte, reduceCtorEq, if_true, if_false]; exact rfl) (by decide) ?_ ?_
  · simp -implicitDefEqProofs (disch := omega) only [go_sem, Int.reduceEq, Int.reduceLT, Int.reduceLE, Int.reduceToNat, Int.reduceNeg, Int.reduceAdd, Int.reduceSub, Nat.reduceEqDiff, Nat.reduceAdd, Nat.reduceMul, Nat.reduceLeDiff, Nat.reduceSub, ↓reduceIte, reduceCtorEq, decide_true, eq_self, List.length_map, hl1, hl2, hl3, hb4, hb5, hb57, hb60, hb63, hb11]
    repeat' (first | (refine gN_split2 (fun hs => ?_) (fun hs => ?_) <;> simp -implicitDefEqProofs (disch := omega) only [go_sem, Int.reduceEq, Int.reduceLT, Int.reduceLE, Int.reduceToNat, Int.reduceNeg, Int.reduceAdd, Int.reduceSub, Nat.reduceEqDiff, Nat.reduceAdd, Nat.reduceMul, Nat.reduceLeDiff, Nat.reduceSub, ↓reduceIte, reduceCtorEq, hs, decide_true, eq_self, List.length_map, hl1, hl2, hl3, hb4, hb5, hb57, hb60, hb63, hb11]) | simp -implicitDefEqProofs (disch := omega) only [go_sem, Int.reduceEq, Int.reduceLT, Int.reduceLE, Int.reduceToNat, Int.reduceNeg, Int.reduceAdd, Int.reduceSub, Nat.reduceEqDiff, Nat.reduceAdd, Nat.reduceMul, Nat.reduceLeDiff, Nat.reduceSub, ↓reduceIte, reduceCtorEq, decide_true, eq_self, List.length_map, hl1, hl2, hl3, hb4, hb5, hb57, hb60, hb63, hb11] | refine And.intro (by omega) ?_)
    all_goals (try clear hK'; try clear hn2; try clear hx2; try clear ho2; try clear hn3; try clear hx3; try clear hn5; try clear hx5; try clear ho5; try clear hn6; try clear hx6; try clear ho6; try clear hn7; try clear hx7; try clear hn9; try clear hx9; try clear ho9)
    all_goals ((first | (simp; done) | (exfalso; simp at hs; done) | simp_all))
  repeat' (first | refine wpL_seq ?_ | refine wpL_skip ?_ | refine wpL_label ?_ | refine wpL_scope ?_)
  refine wpL_cond rfl (fun hc10 => ?_) (fun hc10 => ?_)
  · cases hc10
  clear hc10
  have hcl1 := runL_lens o1 us
  have hcl2 := runL_lens o2 bs
  have hBo : runL (both s t) Z = List.zipWith (· ++ ·) (runL s us) (runL t bs) := by
    refine runL_both o1 o2 Z us bs hz.symm (by omega) fun i w a b e1 e2 e3 => ?_
    rw [← hZ, List.getElem?_zipWith, e2, e3] at e1
    obtain rfl := Option.some.inj e1
    exact mix_bits h63 h64 a b
  generalize runL s us = L at *
  generalize runL t bs = K at *
  generalize runL (both s t) Z = W at *
  repeat' (first | refine wpL_seq ?_ | refine wpL_skip ?_ | refine wpL_label ?_ | refine wpL_scope ?_)
  refine wpL_region' [9, 10, 17, 19, 21, 23] fun q hq => ?_
  simp -implicitDefEqProofs (disch := omega) only [go_sem, Int.reduceEq, Int.reduceLT, Int.reduceLE, Int.reduceToNat, Int.reduceNeg, Int.reduceAdd, Int.reduceSub, Nat.reduceEqDiff, Nat.reduceAdd, Nat.reduceMul, Nat.reduceLeDiff, Nat.reduceSub, ↓reduceIte, reduceCtorEq, hb4, hb5, hb57, hb60, hb63, hb11]
  repeat (refine And.intro (by omega) ?_)
  refine hq _ _ _ (by simp only [pickL, lk_cons, Int.reduceEq, Int.reduceLT, Int.reduceLE, Int.reduceToNat, Int.reduceNeg, Int.reduceAdd, Int.reduceSub, Nat.reduceEqDiff, Nat.reduceAdd, Nat.reduceMul, Nat.reduceLeDiff, Nat.reduceSub, ↓reduceIte, reduceCtorEq, if_true, if_false]; exact rfl) ?_
  clear hq q
  repeat' (first | refine wpL_seq ?_ | refine wpL_skip ?_ | refine wpL_label ?_ | refine wpL_scope ?_)
  refine wpL_block fun k11 hn11 hx11 ho11 => ?_
  refine wpL_loop (fun j e H => ∃ i : Nat, i ≤ W.length ∧ j = W.length - i ∧ H = Heap.emp ∧
    e = lk [(9, .int .i64 s.groups.length), (10, .int .i64 t.groups.length), (17, .rs 1 (L.map st1)), (19, .rs 1 (K.map st1)), (21, .rs 1 (W.map st1)), (23, .int .i64 i)]) W.length ⟨0, by omega, by omega, rfl, rfl⟩ ?_
  rintro j e H ⟨i, hi, rfl, rfl, rfl⟩ k12 hn12 hx12
  repeat' (first | refine wpL_seq ?_ | refine wpL_skip ?_ | refine wpL_label ?_ | refine wpL_scope ?_)
  refine wpL_region' [9, 10, 17, 19, 21, 23, 177] fun q hq => ?_
  simp -implicitDefEqProofs (disch := omega) only [go_sem, Int.reduceEq, Int.reduceLT, Int.reduceLE, Int.reduceToNat, Int.reduceNeg, Int.reduceAdd, Int.reduceSub, Nat.reduceEqDiff, Nat.reduceAdd, Nat.reduceMul, Nat.reduceLeDiff, Nat.reduceSub, ↓reduceIte, reduceCtorEq, List.length_map, hb4, hb5, hb57, hb60, hb63, hb11]
  repeat (refine And.intro (by omega) ?_)
  refine hq _ _ _ (by simp only [pickL, lk_cons, Int.reduceEq, Int.reduceLT, Int.reduceLE, Int.reduceToNat, Int.reduceNeg, Int.reduceAdd, Int.reduceSub, Nat.reduceEqDiff, Nat.reduceAdd, Nat.reduceMul, Nat.reduceLeDiff, Nat.reduceSub, ↓reduceIte, reduceCtorEq, if_true, if_false]; exact rfl) ?_
  clear hq q
  repeat' (first | refine wpL_seq ?_ | refine wpL_skip ?_ | refine wpL_label ?_ | refine wpL_scope ?_)
  refine wpL_cond rfl (fun hc13 => ?_) (fun hc13 => ?_)
  · simp at hc13
    obtain ⟨w, hw⟩ := get_of_lt hc13
    obtain ⟨x, hx⟩ := get_of_lt (show i < L.length by omega)
    obtain ⟨y, hy⟩ := get_of_lt (show i < K.length by omega)
    have lx := hcl1 x (List.mem_of_getElem? hx)
    have ly := hcl2 y (List.mem_of_getElem? hy)
    have hxy : w = x ++ y := by rw [hBo, List.getElem?_zipWith, hx, hy] at hw; exact (Option.some.inj hw).symm
    repeat' (first | refine wpL_seq ?_ | refine wpL_skip ?_ | refine wpL_label ?_ | refine wpL_scope ?_)
    refine wpL_block fun k14 hn14 hx14 ho14 => ?_
    repeat' (first | refine wpL_seq ?_ | refine wpL_skip ?_ | refine wpL_label ?_ | refine wpL_scope ?_)
    refine wpL_drawV [9, 10, 17, 19, 21, 23] 211 (.bool false) [0, 1, 2, 5, 3, 4, 6, 7, 8, 9, 10, 13, 11, 12, 14, 15, 16, 17, 18, 19, 21, 22, 23, 25, 26, 27, 20, 24, 28, 29, 30, 31] [] [] (by kernel_rfl) (by kernel_rfl) (by kernel_rfl) (by simp only [pickL, put, lk_cons, Int.reduceEq, Int.reduceLT, Int.reduceLE, Int.reduceToNat, Int.reduceNeg, Int.reduceAdd, Int.reduceSub, Nat.reduceEqDiff, Nat.reduceAdd, Nat.reduceMul, Nat.reduceLeDiff, Nat.reduceSub, ↓reduceIte, reduceCtorEq, if_true, if_false]; exact rfl) (by decide) ?_ ?_
    · simp -implicitDefEqProofs (disch := omega) only [go_sem, Int.reduceEq, Int.reduceLT, Int.reduceLE, Int.reduceToNat, Int.reduceNeg, Int.reduceAdd, Int.reduceSub, Nat.reduceEqDiff, Nat.reduceAdd, Nat.reduceMul, Nat.reduceLeDiff, Nat.reduceSub, ↓reduceIte, reduceCtorEq, List.length_map, hw, hx, hy, st1, lx, ly, hxy, hb4, hb5, hb57, hb60, hb63, hb11]
      repeat' (first | (refine gN_split2 (fun hs => ?_) (fun hs => ?_) <;> simp -implicitDefEqProofs (disch := omega) only [go_sem, Int.reduceEq, Int.reduceLT, Int.reduceLE, Int.reduceToNat, Int.reduceNeg, Int.reduceAdd, Int.reduceSub, Nat.reduceEqDiff, Nat.reduceAdd, Nat.reduceMul, Nat.reduceLeDiff, Nat.reduceSub, ↓reduceIte, reduceCtorEq, hs, List.length_map, hw, hx, hy, st1, lx, ly, hxy, hb4, hb5, hb57, hb60, hb63, hb11]) | simp -implicitDefEqProofs (disch := omega) only [go_sem, Int.reduceEq, Int.reduceLT, Int.reduceLE, Int.reduceToNat, Int.reduceNeg, Int.reduceAdd, Int.reduceSub, Nat.reduceEqDiff, Nat.reduceAdd, Nat.reduceMul, Nat.reduceLeDiff, Nat.reduceSub, ↓reduceIte, reduceCtorEq, List.length_map, hw, hx, hy, st1, lx, ly, hxy, hb4, hb5, hb57, hb60, hb63, hb11] | refine And.intro (by omega) ?_)
      all_goals (try clear hK'; try clear hn2; try clear hx2; try clear ho2; try clear hn3; try clear hx3; try clear hn5; try clear hx5; try clear ho5; try clear hn6; try clear hx6; try clear ho6; try clear hn7; try clear hx7; try clear hn9; try clear hx9; try clear ho9; try clear hn11; try clear hx11; try clear ho11; try clear hn12; try clear hx12; try clear hn14; try clear hx14; try clear ho14)
      all_goals ((first | (simp; done) | (simp; omega) | (simp_all; done) | (simp_all; omega)))
    repeat' (first | refine wpL_seq ?_ | refine wpL_skip ?_ | refine wpL_label ?_ | refine wpL_scope ?_)
    refine wpL_cond rfl (fun hc15 => ?_) (fun hc15 => ?_)
    · cases hc15
    repeat' (first | refine wpL_seq ?_ | refine wpL_skip ?_ | refine wpL_label ?_ | refine wpL_scope ?_)
    refine wpL_nil (hn14 _ _ ?_)
    repeat' (first | refine wpL_seq ?_ | refine wpL_skip ?_ | refine wpL_label ?_ | refine wpL_scope ?_)
    refine wpL_region' [9, 10, 17, 19, 21, 23] fun q hq => ?_
    simp -implicitDefEqProofs (disch := omega) only [go_sem, Int.reduceEq, Int.reduceLT, Int.reduceLE, Int.reduceToNat, Int.reduceNeg, Int.reduceAdd, Int.reduceSub, Nat.reduceEqDiff, Nat.reduceAdd, Nat.reduceMul, Nat.reduceLeDiff, Nat.reduceSub, ↓reduceIte, reduceCtorEq, hb4, hb5, hb57, hb60, hb63, hb11]
    repeat (refine And.intro (by omega) ?_)
    refine hq _ _ _ (by simp only [pickL, lk_cons, Int.reduceEq, Int.reduceLT, Int.reduceLE, Int.reduceToNat, Int.reduceNeg, Int.reduceAdd, Int.reduceSub, Nat.reduceEqDiff, Nat.reduceAdd, Nat.reduceMul, Nat.reduceLeDiff, Nat.reduceSub, ↓reduceIte, reduceCtorEq, if_true, if_false]; exact rfl) ?_
    clear hq q
    repeat' (first | refine wpL_seq ?_ | refine wpL_skip ?_ | refine wpL_label ?_ | refine wpL_scope ?_)
    exact wpL_nil (hn12 (W.length - (i + 1)) _ _ (by omega) ⟨i + 1, by omega, by omega, rfl, rfl⟩)
  repeat' (first | refine wpL_seq ?_ | refine wpL_skip ?_ | refine wpL_label ?_ | refine wpL_scope ?_)
  refine wpL_exit (hx12 _ _ _ (by simp) (hx11 _ _ ?_))
  repeat' (first | refine wpL_seq ?_ | refine wpL_skip ?_ | refine wpL_label ?_ | refine wpL_scope ?_)
  refine wpL_region' [8] fun q hq => ?_
  simp -implicitDefEqProofs (disch := omega) only [go_sem, Int.reduceEq, Int.reduceLT, Int.reduceLE, Int.reduceToNat, Int.reduceNeg, Int.reduceAdd, Int.reduceSub, Nat.reduceEqDiff, Nat.reduceAdd, Nat.reduceMul, Nat.reduceLeDiff, Nat.reduceSub, ↓reduceIte, reduceCtorEq, hb4, hb5, hb57, hb60, hb63, hb11]
  repeat (refine And.intro (by omega) ?_)
  refine hq _ _ _ (by simp only [pickL, lk_cons, Int.reduceEq, Int.reduceLT, Int.reduceLE, Int.reduceToNat, Int.reduceNeg, Int.reduceAdd, Int.reduceSub, Nat.reduceEqDiff, Nat.reduceAdd, Nat.reduceMul, Nat.reduceLeDiff, Nat.reduceSub, ↓reduceIte, reduceCtorEq, if_true, if_false]; exact rfl) ?_
  clear hq q
  repeat' (first | refine wpL_seq ?_ | refine wpL_skip ?_ | refine wpL_label ?_ | refine wpL_scope ?_)
  refine wpL_ret (hK' _ _ _ _ (.inr rfl) (resTo (rs' := [.tmp 8]) rfl (by simp only [go_sem, Int.reduceEq, Int.reduceLT, Int.reduceLE, Int.reduceToNat, Int.reduceNeg, Int.reduceAdd, Int.reduceSub, Nat.reduceEqDiff, Nat.reduceAdd, Nat.reduceMul, Nat.reduceLeDiff, Nat.reduceSub, ↓reduceIte, reduceCtorEq, hb4, hb5, hb57, hb60, hb63, hb11]; exact rfl)) ?_)
  rfl
end Go.Proofs.Ytdchdlabdokjnaa.Am.H
