/- Tables, heads and wants with room behind them. -/
import Derived.Test.YtdchdlabdokjnaaH6
namespace Go.Proofs.Ytdchdlabdokjnaa.Am.H
set_option linter.unusedSectionVars false
open Go Go.Proofs Am
set_option linter.unusedVariables false
set_option linter.unusedSimpArgs false
set_option maxRecDepth 100000
attribute [local irreducible] gO gN gW gdO

def c64 (w : BitVec 64) : List AV := [.int .u64 w.toNat]
theorem c64_len (w) : (c64 w).length = 1 := rfl
theorem c64_leaf (w) : (c64 w).all AV.leaf = true := rfl
def wantsAV (ws : List (BitVec 64)) : AV := .rs 1 (ws.map c64)
def markG : Group := ⟨[114, 111, 111, 109], 0, -7, 0, 0⟩
def markC : Conf := ⟨-7, 0, 0, 0⟩
def roomL (t : Tables) (h : Hd) (ws : List (BitVec 64)) : List AV :=
  [.rs 5 ((t.groups ++ [markG]).map Group.cells), .rs 4 ((t.confs ++ [markC]).map Conf.cells), .rs 1 ((h.aspect ++ [-7]).map (c1 .i64)), .rs 1 ((h.ins ++ [-7]).map (c1 .i32)), .rs 1 ((h.away ++ [-7]).map (c1 .i32)), .rs 1 ((ws ++ [777#64]).map c64)]

theorem take_app {α β : Type} {f : α → β} {l m : List α} : ((l ++ m).map f).take l.length = l.map f := by simp

theorem f13_tables (t : Tables) (h : Hd) (ws : List (BitVec 64)) (hs : SmallT t) : wpP Try.prog 13 [.agg (roomL t h ws)] t.av := by
  have hg := hs.g
  have hc := hs.c
  refine wpP_intro ?_
  refine wpH_intro (fn := Try.f13) rfl rfl (by decide) (by kernel_rfl) fun K' hK' => ?_
  repeat' (first | refine wpL_seq ?_ | refine wpL_skip ?_ | refine wpL_label ?_ | refine wpL_scope ?_)
  refine wpL_region' [1, 2] fun q hq => ?_
  simp -implicitDefEqProofs (disch := omega) only [go_sem, Int.reduceEq, Int.reduceLT, Int.reduceLE, Int.reduceToNat, Int.reduceNeg, Int.reduceAdd, Int.reduceSub, Nat.reduceEqDiff, Nat.reduceAdd, Nat.reduceMul, Nat.reduceLeDiff, Nat.reduceSub, ↓reduceIte, reduceCtorEq, roomL]
  repeat (refine And.intro (by omega) ?_)
  refine gN_new fun b1 hb1 => ?_
  try simp only [newIn_put, newIn_upd] at hb1
  simp -implicitDefEqProofs (disch := omega) only [go_sem, Int.reduceEq, Int.reduceLT, Int.reduceLE, Int.reduceToNat, Int.reduceNeg, Int.reduceAdd, Int.reduceSub, Nat.reduceEqDiff, Nat.reduceAdd, Nat.reduceMul, Nat.reduceLeDiff, Nat.reduceSub, ↓reduceIte, reduceCtorEq, roomL, hb1]
  repeat (refine And.intro (by omega) ?_)
  refine gN_new fun b2 hb2 => ?_
  try simp only [newIn_put, newIn_upd] at hb2
  simp -implicitDefEqProofs (disch := omega) only [go_sem, Int.reduceEq, Int.reduceLT, Int.reduceLE, Int.reduceToNat, Int.reduceNeg, Int.reduceAdd, Int.reduceSub, Nat.reduceEqDiff, Nat.reduceAdd, Nat.reduceMul, Nat.reduceLeDiff, Nat.reduceSub, ↓reduceIte, reduceCtorEq, roomL, hb1, hb2]
  repeat (refine And.intro (by omega) ?_)
  refine hq _ _ _ (by simp only [pickL, lk_cons, Nat.reduceEqDiff, ↓reduceIte]; exact rfl) ?_
  clear hq q
  refine wpL_frzP' 1 rfl (by simp only [go_sem, hb1, hb2]; exact rfl) rfl (by simp only [go_sem, Int.reduceEq, Int.reduceLT, Int.reduceLE, Int.reduceToNat, Int.reduceNeg, Int.reduceAdd, Int.reduceSub, Nat.reduceEqDiff, Nat.reduceAdd, Nat.reduceMul, Nat.reduceLeDiff, Nat.reduceSub, ↓reduceIte, reduceCtorEq]; exact rfl) (by simp only [go_sem, hb1, hb2]; exact rfl) ?_
  have e1 : ((t.groups.length + 1 : Nat) : Int) - 1 = t.groups.length := by omega
  have e2 : ((t.confs.length + 1 : Nat) : Int) - 1 = t.confs.length := by omega
  repeat' (first | refine wpL_seq ?_ | refine wpL_skip ?_ | refine wpL_label ?_ | refine wpL_scope ?_)
  refine wpL_draw' [2] [0, 1, 3, 4, 9, 10, 12, 13, 2, 5, 6, 7, 8, 11, 14, 15, 16, 17, 18, 19] [] [] (by kernel_rfl) (by kernel_rfl) (by kernel_rfl) fun q hq => ?_
  simp -implicitDefEqProofs (disch := omega) only [go_sem, Int.reduceEq, Int.reduceLT, Int.reduceLE, Int.reduceToNat, Int.reduceNeg, Int.reduceAdd, Int.reduceSub, Nat.reduceEqDiff, Nat.reduceAdd, Nat.reduceMul, Nat.reduceLeDiff, Nat.reduceSub, ↓reduceIte, reduceCtorEq, roomL, List.length_map, List.length_append, e1, e2, hb2, Nat.sub_zero, take_app, hb1, hb2]
  repeat (refine And.intro (by omega) ?_)
  refine hq _ _ _ (by simp only [pickL, lk_cons, Nat.reduceEqDiff, ↓reduceIte]; exact rfl) ?_
  clear hq q
  repeat' (first | refine wpL_seq ?_ | refine wpL_skip ?_ | refine wpL_label ?_ | refine wpL_scope ?_)
  refine wpL_ret (hK' _ _ _ _ (.inr rfl) (resTo (rs' := [.cell 2 25]) rfl (by simp only [go_sem, Int.reduceEq, Int.reduceLT, Int.reduceLE, Int.reduceToNat, Int.reduceNeg, Int.reduceAdd, Int.reduceSub, Nat.reduceEqDiff, Nat.reduceAdd, Nat.reduceMul, Nat.reduceLeDiff, Nat.reduceSub, ↓reduceIte, reduceCtorEq, hb1, hb2]; exact rfl)) ?_)
  rfl

theorem f14_heads (t : Tables) (h : Hd) (ws : List (BitVec 64)) (hs : SmallH h) : wpP Try.prog 14 [.agg (roomL t h ws)] h.av := by
  have h1 := hs.a
  have h2 := hs.i
  have h3 := hs.w
  refine wpP_intro ?_
  refine wpH_intro (fn := Try.f14) rfl rfl (by decide) (by kernel_rfl) fun K' hK' => ?_
  repeat' (first | refine wpL_seq ?_ | refine wpL_skip ?_ | refine wpL_label ?_ | refine wpL_scope ?_)
  refine wpL_region' [1, 2] fun q hq => ?_
  simp -implicitDefEqProofs (disch := omega) only [go_sem, Int.reduceEq, Int.reduceLT, Int.reduceLE, Int.reduceToNat, Int.reduceNeg, Int.reduceAdd, Int.reduceSub, Nat.reduceEqDiff, Nat.reduceAdd, Nat.reduceMul, Nat.reduceLeDiff, Nat.reduceSub, ↓reduceIte, reduceCtorEq, roomL]
  repeat (refine And.intro (by omega) ?_)
  refine gN_new fun b1 hb1 => ?_
  try simp only [newIn_put, newIn_upd] at hb1
  simp -implicitDefEqProofs (disch := omega) only [go_sem, Int.reduceEq, Int.reduceLT, Int.reduceLE, Int.reduceToNat, Int.reduceNeg, Int.reduceAdd, Int.reduceSub, Nat.reduceEqDiff, Nat.reduceAdd, Nat.reduceMul, Nat.reduceLeDiff, Nat.reduceSub, ↓reduceIte, reduceCtorEq, roomL, hb1]
  repeat (refine And.intro (by omega) ?_)
  refine gN_new fun b2 hb2 => ?_
  try simp only [newIn_put, newIn_upd] at hb2
  simp -implicitDefEqProofs (disch := omega) only [go_sem, Int.reduceEq, Int.reduceLT, Int.reduceLE, Int.reduceToNat, Int.reduceNeg, Int.reduceAdd, Int.reduceSub, Nat.reduceEqDiff, Nat.reduceAdd, Nat.reduceMul, Nat.reduceLeDiff, Nat.reduceSub, ↓reduceIte, reduceCtorEq, roomL, hb1, hb2]
  repeat (refine And.intro (by omega) ?_)
  refine hq _ _ _ (by simp only [pickL, lk_cons, Nat.reduceEqDiff, ↓reduceIte]; exact rfl) ?_
  clear hq q
  refine wpL_frzP' 1 rfl (by simp only [go_sem, hb1, hb2]; exact rfl) rfl (by simp only [go_sem, Int.reduceEq, Int.reduceLT, Int.reduceLE, Int.reduceToNat, Int.reduceNeg, Int.reduceAdd, Int.reduceSub, Nat.reduceEqDiff, Nat.reduceAdd, Nat.reduceMul, Nat.reduceLeDiff, Nat.reduceSub, ↓reduceIte, reduceCtorEq]; exact rfl) (by simp only [go_sem, hb1, hb2]; exact rfl) ?_
  have e1 : ((h.aspect.length + 1 : Nat) : Int) - 1 = h.aspect.length := by omega
  have e2 : ((h.ins.length + 1 : Nat) : Int) - 1 = h.ins.length := by omega
  have e3 : ((h.away.length + 1 : Nat) : Int) - 1 = h.away.length := by omega
  repeat' (first | refine wpL_seq ?_ | refine wpL_skip ?_ | refine wpL_label ?_ | refine wpL_scope ?_)
  refine wpL_draw' [2] [0, 1, 3, 4, 9, 10, 12, 13, 18, 19, 21, 22, 2, 5, 6, 7, 8, 11, 14, 15, 16, 17, 20, 23, 24, 25, 26, 27, 28] [] [] (by kernel_rfl) (by kernel_rfl) (by kernel_rfl) fun q hq => ?_
  simp -implicitDefEqProofs (disch := omega) only [go_sem, Int.reduceEq, Int.reduceLT, Int.reduceLE, Int.reduceToNat, Int.reduceNeg, Int.reduceAdd, Int.reduceSub, Nat.reduceEqDiff, Nat.reduceAdd, Nat.reduceMul, Nat.reduceLeDiff, Nat.reduceSub, ↓reduceIte, reduceCtorEq, roomL, List.length_map, List.length_append, e1, e2, e3, hb2, Nat.sub_zero, take_app, hb1, hb2]
  repeat (refine And.intro (by omega) ?_)
  refine hq _ _ _ (by simp only [pickL, lk_cons, Nat.reduceEqDiff, ↓reduceIte]; exact rfl) ?_
  clear hq q
  repeat' (first | refine wpL_seq ?_ | refine wpL_skip ?_ | refine wpL_label ?_ | refine wpL_scope ?_)
  refine wpL_ret (hK' _ _ _ _ (.inr rfl) (resTo (rs' := [.cell 2 29]) rfl (by simp only [go_sem, Int.reduceEq, Int.reduceLT, Int.reduceLE, Int.reduceToNat, Int.reduceNeg, Int.reduceAdd, Int.reduceSub, Nat.reduceEqDiff, Nat.reduceAdd, Nat.reduceMul, Nat.reduceLeDiff, Nat.reduceSub, ↓reduceIte, reduceCtorEq, hb1, hb2]; exact rfl)) ?_)
  rfl

section
variable {P : Program} {all : Array Oper} {d : Option Nat} {fl : Bool} {its : List (Oper × Bool)} {e : Env} {h : Heap} {k : Env → Heap → Prop} {g : FuncId} {args : List AV}
theorem gN_own2 {n1 s1 c1 t1 n2 s2 c2 t2} (hw : wpH P g args Heap.emp (Own2 n1 s1 c1 t1 n2 s2 c2 t2))
    (hk : ∀ b1 b2, NewIn h b1 → NewIn (h.put b1 ⟨.own, c1, t1, []⟩) b2 → gO P all its (putd e d (.agg [.sl b1 0 n1 s1, .sl b2 0 n2 s2])) ((h.put b1 ⟨.own, c1, t1, []⟩).put b2 ⟨.own, c2, t2, []⟩) k) :
    gN P all d fl its e h k (.call g args) := by
  refine gN_callE (hw.mono ?_)
  rintro v h1 ⟨b1, b2, rfl, hn2, rfl⟩ hh
  simp only [newIn_put, newIn_emp, and_true] at hn2
  have n1 : NewIn h b1 := NewIn.cat hh (b := b1) (k := ⟨.own, c1, t1, []⟩) (by simp only [put_at, hn2, if_true, if_false])
  have n2 : NewIn h b2 := NewIn.cat hh (b := b2) (k := ⟨.own, c2, t2, []⟩) (by simp only [put_at, if_true])
  simp only [cat_put, cat_emp]
  exact hk b1 b2 n1 (by simp only [newIn_put, hn2, n2, and_self])
theorem gN_own3 {n1 s1 c1 t1 n2 s2 c2 t2 n3 s3 c3 t3} (hw : wpH P g args Heap.emp (Own3 n1 s1 c1 t1 n2 s2 c2 t2 n3 s3 c3 t3))
    (hk : ∀ b1 b2 b3, NewIn h b1 → NewIn (h.put b1 ⟨.own, c1, t1, []⟩) b2 → NewIn ((h.put b1 ⟨.own, c1, t1, []⟩).put b2 ⟨.own, c2, t2, []⟩) b3 →
      gO P all its (putd e d (.agg [.sl b1 0 n1 s1, .sl b2 0 n2 s2, .sl b3 0 n3 s3])) (((h.put b1 ⟨.own, c1, t1, []⟩).put b2 ⟨.own, c2, t2, []⟩).put b3 ⟨.own, c3, t3, []⟩) k) :
    gN P all d fl its e h k (.call g args) := by
  refine gN_callE (hw.mono ?_)
  rintro v h1 ⟨b1, b2, b3, rfl, hn3, hn2, rfl⟩ hh
  simp only [newIn_put, newIn_emp, and_true] at hn2 hn3
  have n1 : NewIn h b1 := NewIn.cat hh (b := b1) (k := ⟨.own, c1, t1, []⟩) (by simp only [put_at, hn2, hn3, if_true, if_false])
  have n2 : NewIn h b2 := NewIn.cat hh (b := b2) (k := ⟨.own, c2, t2, []⟩) (by simp only [put_at, hn2, hn3, if_true, if_false])
  have n3 : NewIn h b3 := NewIn.cat hh (b := b3) (k := ⟨.own, c3, t3, []⟩) (by simp only [put_at, if_true])
  simp only [cat_put, cat_emp]
  exact hk b1 b2 b3 n1 (by simp only [newIn_put, hn2, n2, and_self]) (by simp only [newIn_put, hn2, hn3, n3, and_self])
end

theorem f12_room (t : Tables) (h : Hd) (ws : List (BitVec 64)) (w : AV) (hw : ∀ h, SrcV h 1 w ws.length (ws.map c64).flatten) (ht : SmallT t) (hs : SmallH h) (hn : ws.length * 8 ≤ 140737488351232) :
    wpP Try.prog 12 [t.av, h.av, w] (.agg (roomL t h ws)) := by
  have g1 := ht.g
  have g2 := ht.c
  have h1 := hs.a
  have h2 := hs.i
  have h3 := hs.w
  refine wpP_frz ?_
  refine wpH_intro (fn := Try.f12) rfl rfl (by decide) (by kernel_rfl) fun K' hK' => ?_
  repeat' (first | refine wpL_seq ?_ | refine wpL_skip ?_ | refine wpL_label ?_ | refine wpL_scope ?_)
  refine wpL_region' [2, 3, 4, 6] fun q hq => ?_
  simp -implicitDefEqProofs (disch := omega) only [go_sem, Int.reduceEq, Int.reduceLT, Int.reduceLE, Int.reduceToNat, Int.reduceNeg, Int.reduceAdd, Int.reduceSub, Nat.reduceEqDiff, Nat.reduceAdd, Nat.reduceMul, Nat.reduceLeDiff, Nat.reduceSub, ↓reduceIte, reduceCtorEq, Tables.av, Tables.cells, Hd.av, Hd.cells]
  repeat (refine And.intro (by omega) ?_)
  refine gN_new fun b3 hb3 => ?_
  try simp only [newIn_put, newIn_upd] at hb3
  simp -implicitDefEqProofs (disch := omega) only [go_sem, Int.reduceEq, Int.reduceLT, Int.reduceLE, Int.reduceToNat, Int.reduceNeg, Int.reduceAdd, Int.reduceSub, Nat.reduceEqDiff, Nat.reduceAdd, Nat.reduceMul, Nat.reduceLeDiff, Nat.reduceSub, ↓reduceIte, reduceCtorEq, Tables.av, Tables.cells, Hd.av, Hd.cells, hb3]
  repeat (refine And.intro (by omega) ?_)
  refine gN_new fun b4 hb4 => ?_
  try simp only [newIn_put, newIn_upd] at hb4
  simp -implicitDefEqProofs (disch := omega) only [go_sem, Int.reduceEq, Int.reduceLT, Int.reduceLE, Int.reduceToNat, Int.reduceNeg, Int.reduceAdd, Int.reduceSub, Nat.reduceEqDiff, Nat.reduceAdd, Nat.reduceMul, Nat.reduceLeDiff, Nat.reduceSub, ↓reduceIte, reduceCtorEq, Tables.av, Tables.cells, Hd.av, Hd.cells, hb3, hb4]
  repeat (refine And.intro (by omega) ?_)
  refine gN_new fun b6 hb6 => ?_
  try simp only [newIn_put, newIn_upd] at hb6
  simp -implicitDefEqProofs (disch := omega) only [go_sem, Int.reduceEq, Int.reduceLT, Int.reduceLE, Int.reduceToNat, Int.reduceNeg, Int.reduceAdd, Int.reduceSub, Nat.reduceEqDiff, Nat.reduceAdd, Nat.reduceMul, Nat.reduceLeDiff, Nat.reduceSub, ↓reduceIte, reduceCtorEq, Tables.av, Tables.cells, Hd.av, Hd.cells, hb3, hb4, hb6]
  repeat (refine And.intro (by omega) ?_)
  refine hq _ _ _ (by simp only [pickL, lk_cons, Nat.reduceEqDiff, ↓reduceIte]; exact rfl) ?_
  clear hq q
  repeat' (first | refine wpL_seq ?_ | refine wpL_skip ?_ | refine wpL_label ?_ | refine wpL_scope ?_)
  refine wpL_region' [2, 3, 4, 6] fun q hq => ?_
  simp -implicitDefEqProofs (disch := omega) only [go_sem, Int.reduceEq, Int.reduceLT, Int.reduceLE, Int.reduceToNat, Int.reduceNeg, Int.reduceAdd, Int.reduceSub, Nat.reduceEqDiff, Nat.reduceAdd, Nat.reduceMul, Nat.reduceLeDiff, Nat.reduceSub, ↓reduceIte, reduceCtorEq, hb3, hb4, hb6]
  repeat (refine And.intro (by omega) ?_)
  refine gN_own2 (f42_copy t ht) fun bg bc hbg hbc => ?_
  simp only [newIn_put] at hbg hbc
  simp -implicitDefEqProofs (disch := omega) only [go_sem, Int.reduceEq, Int.reduceLT, Int.reduceLE, Int.reduceToNat, Int.reduceNeg, Int.reduceAdd, Int.reduceSub, Nat.reduceEqDiff, Nat.reduceAdd, Nat.reduceMul, Nat.reduceLeDiff, Nat.reduceSub, ↓reduceIte, reduceCtorEq, hb3, hb4, hb6, hbg, hbc]
  repeat (refine And.intro (by omega) ?_)
  refine hq _ _ _ (by simp only [pickL, lk_cons, Nat.reduceEqDiff, ↓reduceIte]; exact rfl) ?_
  clear hq q
  repeat' (first | refine wpL_seq ?_ | refine wpL_skip ?_ | refine wpL_label ?_ | refine wpL_scope ?_)
  refine wpL_region' [2, 3, 4, 6] fun q hq => ?_
  simp -implicitDefEqProofs (disch := omega) only [go_sem, Int.reduceEq, Int.reduceLT, Int.reduceLE, Int.reduceToNat, Int.reduceNeg, Int.reduceAdd, Int.reduceSub, Nat.reduceEqDiff, Nat.reduceAdd, Nat.reduceMul, Nat.reduceLeDiff, Nat.reduceSub, ↓reduceIte, reduceCtorEq, hb3, hb4, hb6, hbg, hbc]
  repeat (refine And.intro (by omega) ?_)
  refine gN_own3 (f37_copy h hs) fun ba bi bw hba hbi hbw => ?_
  simp only [newIn_put, newIn_upd] at hba hbi hbw
  simp -implicitDefEqProofs (disch := omega) only [go_sem, Int.reduceEq, Int.reduceLT, Int.reduceLE, Int.reduceToNat, Int.reduceNeg, Int.reduceAdd, Int.reduceSub, Nat.reduceEqDiff, Nat.reduceAdd, Nat.reduceMul, Nat.reduceLeDiff, Nat.reduceSub, ↓reduceIte, reduceCtorEq, hb3, hb4, hb6, hbg, hbc, hba, hbi, hbw]
  repeat (refine And.intro (by omega) ?_)
  refine hq _ _ _ (by simp only [pickL, lk_cons, Nat.reduceEqDiff, ↓reduceIte]; exact rfl) ?_
  clear hq q
  repeat' (first | refine wpL_seq ?_ | refine wpL_skip ?_ | refine wpL_label ?_ | refine wpL_scope ?_)
  refine wpL_draw' [6] [0, 2, 5, 7, 11, 15, 19, 24, 1, 6, 12, 16, 20, 3, 4, 8, 9, 10, 13, 14, 17, 18, 21, 22, 23, 25, 26, 27, 28, 29] [] [false, false, false, false, false, false, false, false, false, false, false, false, false, false, true, false, true, false, false, true, false, true] (by kernel_rfl) (by kernel_rfl) (by kernel_rfl) fun q hq => ?_
  simp -implicitDefEqProofs (disch := omega) only [go_sem, Int.reduceEq, Int.reduceLT, Int.reduceLE, Int.reduceToNat, Int.reduceNeg, Int.reduceAdd, Int.reduceSub, Nat.reduceEqDiff, Nat.reduceAdd, Nat.reduceMul, Nat.reduceLeDiff, Nat.reduceSub, ↓reduceIte, reduceCtorEq, hb3, hb4, hb6, hbg, hbc, hba, hbi, hbw]
  repeat (refine And.intro (by omega) ?_)
  refine gN_new fun b14 hb14 => ?_
  try simp only [newIn_put, newIn_upd] at hb14
  simp -implicitDefEqProofs (disch := omega) only [go_sem, Int.reduceEq, Int.reduceLT, Int.reduceLE, Int.reduceToNat, Int.reduceNeg, Int.reduceAdd, Int.reduceSub, Nat.reduceEqDiff, Nat.reduceAdd, Nat.reduceMul, Nat.reduceLeDiff, Nat.reduceSub, ↓reduceIte, reduceCtorEq, hb3, hb4, hb6, hbg, hbc, hba, hbi, hbw, hb14]
  repeat (refine And.intro (by omega) ?_)
  refine gN_appV ti22 rfl ti54 rfl (by decide) (SrcV.sl (by simp only [go_sem, hb3, hb4, hb6, hbg, hbc, hba, hbi, hbw, hb14] <;> exact rfl) rfl rfl) (by simp only [go_sem, hb3, hb4, hb6, hbg, hbc, hba, hbi, hbw, hb14] <;> exact rfl) ((src_map Group.len Group.leaf Heap.emp _).cells) (by dsimp only; omega) (by simp only [maxInt]; omega) fun b15 hb15 => ?_
  try simp only [go_sem, hb3, hb4, hb6, hbg, hbc, hba, hbi, hbw, hb14] at hb15
  simp -implicitDefEqProofs (disch := omega) only [go_sem, Int.reduceEq, Int.reduceLT, Int.reduceLE, Int.reduceToNat, Int.reduceNeg, Int.reduceAdd, Int.reduceSub, Nat.reduceEqDiff, Nat.reduceAdd, Nat.reduceMul, Nat.reduceLeDiff, Nat.reduceSub, ↓reduceIte, reduceCtorEq, hb3, hb4, hb6, hbg, hbc, hba, hbi, hbw, hb14, hb15]
  repeat (refine And.intro (by omega) ?_)
  refine gN_new fun b19 hb19 => ?_
  try simp only [newIn_put, newIn_upd] at hb19
  simp -implicitDefEqProofs (disch := omega) only [go_sem, Int.reduceEq, Int.reduceLT, Int.reduceLE, Int.reduceToNat, Int.reduceNeg, Int.reduceAdd, Int.reduceSub, Nat.reduceEqDiff, Nat.reduceAdd, Nat.reduceMul, Nat.reduceLeDiff, Nat.reduceSub, ↓reduceIte, reduceCtorEq, hb3, hb4, hb6, hbg, hbc, hba, hbi, hbw, hb14, hb15, hb19]
  repeat (refine And.intro (by omega) ?_)
  refine gN_appV ti23 rfl ti56 rfl (by decide) (SrcV.sl (by simp only [go_sem, hb3, hb4, hb6, hbg, hbc, hba, hbi, hbw, hb14, hb15, hb19] <;> exact rfl) rfl rfl) (by simp only [go_sem, hb3, hb4, hb6, hbg, hbc, hba, hbi, hbw, hb14, hb15, hb19] <;> exact rfl) ((src_map Conf.len Conf.leaf Heap.emp _).cells) (by dsimp only; omega) (by simp only [maxInt]; omega) fun b20 hb20 => ?_
  try simp only [go_sem, hb3, hb4, hb6, hbg, hbc, hba, hbi, hbw, hb14, hb15, hb19] at hb20
  simp -implicitDefEqProofs (disch := omega) only [go_sem, Int.reduceEq, Int.reduceLT, Int.reduceLE, Int.reduceToNat, Int.reduceNeg, Int.reduceAdd, Int.reduceSub, Nat.reduceEqDiff, Nat.reduceAdd, Nat.reduceMul, Nat.reduceLeDiff, Nat.reduceSub, ↓reduceIte, reduceCtorEq, hb3, hb4, hb6, hbg, hbc, hba, hbi, hbw, hb14, hb15, hb19, hb20]
  repeat (refine And.intro (by omega) ?_)
  refine gN_new fun b24 hb24 => ?_
  try simp only [newIn_put, newIn_upd] at hb24
  simp -implicitDefEqProofs (disch := omega) only [go_sem, Int.reduceEq, Int.reduceLT, Int.reduceLE, Int.reduceToNat, Int.reduceNeg, Int.reduceAdd, Int.reduceSub, Nat.reduceEqDiff, Nat.reduceAdd, Nat.reduceMul, Nat.reduceLeDiff, Nat.reduceSub, ↓reduceIte, reduceCtorEq, hb3, hb4, hb6, hbg, hbc, hba, hbi, hbw, hb14, hb15, hb19, hb20, hb24]
  repeat (refine And.intro (by omega) ?_)
  refine gN_appV ti26 rfl ti3 rfl (by decide) (SrcV.sl (by simp only [go_sem, hb3, hb4, hb6, hbg, hbc, hba, hbi, hbw, hb14, hb15, hb19, hb20, hb24] <;> exact rfl) rfl rfl) (by simp only [go_sem, hb3, hb4, hb6, hbg, hbc, hba, hbi, hbw, hb14, hb15, hb19, hb20, hb24] <;> exact rfl) ((src_map (c1_len _) (c1_leaf _) Heap.emp _).cells) (by dsimp only; omega) (by simp only [maxInt]; omega) fun b25 hb25 => ?_
  try simp only [go_sem, hb3, hb4, hb6, hbg, hbc, hba, hbi, hbw, hb14, hb15, hb19, hb20, hb24] at hb25
  simp -implicitDefEqProofs (disch := omega) only [go_sem, Int.reduceEq, Int.reduceLT, Int.reduceLE, Int.reduceToNat, Int.reduceNeg, Int.reduceAdd, Int.reduceSub, Nat.reduceEqDiff, Nat.reduceAdd, Nat.reduceMul, Nat.reduceLeDiff, Nat.reduceSub, ↓reduceIte, reduceCtorEq, hb3, hb4, hb6, hbg, hbc, hba, hbi, hbw, hb14, hb15, hb19, hb20, hb24, hb25]
  repeat (refine And.intro (by omega) ?_)
  refine gN_new fun b28 hb28 => ?_
  try simp only [newIn_put, newIn_upd] at hb28
  simp -implicitDefEqProofs (disch := omega) only [go_sem, Int.reduceEq, Int.reduceLT, Int.reduceLE, Int.reduceToNat, Int.reduceNeg, Int.reduceAdd, Int.reduceSub, Nat.reduceEqDiff, Nat.reduceAdd, Nat.reduceMul, Nat.reduceLeDiff, Nat.reduceSub, ↓reduceIte, reduceCtorEq, hb3, hb4, hb6, hbg, hbc, hba, hbi, hbw, hb14, hb15, hb19, hb20, hb24, hb25, hb28]
  repeat (refine And.intro (by omega) ?_)
  refine gN_appV ti27 rfl ti21 rfl (by decide) (SrcV.sl (by simp only [go_sem, hb3, hb4, hb6, hbg, hbc, hba, hbi, hbw, hb14, hb15, hb19, hb20, hb24, hb25, hb28] <;> exact rfl) rfl rfl) (by simp only [go_sem, hb3, hb4, hb6, hbg, hbc, hba, hbi, hbw, hb14, hb15, hb19, hb20, hb24, hb25, hb28] <;> exact rfl) ((src_map (c1_len _) (c1_leaf _) Heap.emp _).cells) (by dsimp only; omega) (by simp only [maxInt]; omega) fun b29 hb29 => ?_
  try simp only [go_sem, hb3, hb4, hb6, hbg, hbc, hba, hbi, hbw, hb14, hb15, hb19, hb20, hb24, hb25, hb28] at hb29
  simp -implicitDefEqProofs (disch := omega) only [go_sem, Int.reduceEq, Int.reduceLT, Int.reduceLE, Int.reduceToNat, Int.reduceNeg, Int.reduceAdd, Int.reduceSub, Nat.reduceEqDiff, Nat.reduceAdd, Nat.reduceMul, Nat.reduceLeDiff, Nat.reduceSub, ↓reduceIte, reduceCtorEq, hb3, hb4, hb6, hbg, hbc, hba, hbi, hbw, hb14, hb15, hb19, hb20, hb24, hb25, hb28, hb29]
  repeat (refine And.intro (by omega) ?_)
  refine gN_new fun b32 hb32 => ?_
  try simp only [newIn_put, newIn_upd] at hb32
  simp -implicitDefEqProofs (disch := omega) only [go_sem, Int.reduceEq, Int.reduceLT, Int.reduceLE, Int.reduceToNat, Int.reduceNeg, Int.reduceAdd, Int.reduceSub, Nat.reduceEqDiff, Nat.reduceAdd, Nat.reduceMul, Nat.reduceLeDiff, Nat.reduceSub, ↓reduceIte, reduceCtorEq, hb3, hb4, hb6, hbg, hbc, hba, hbi, hbw, hb14, hb15, hb19, hb20, hb24, hb25, hb28, hb29, hb32]
  repeat (refine And.intro (by omega) ?_)
  refine gN_appV ti27 rfl ti21 rfl (by decide) (SrcV.sl (by simp only [go_sem, hb3, hb4, hb6, hbg, hbc, hba, hbi, hbw, hb14, hb15, hb19, hb20, hb24, hb25, hb28, hb29, hb32] <;> exact rfl) rfl rfl) (by simp only [go_sem, hb3, hb4, hb6, hbg, hbc, hba, hbi, hbw, hb14, hb15, hb19, hb20, hb24, hb25, hb28, hb29, hb32] <;> exact rfl) ((src_map (c1_len _) (c1_leaf _) Heap.emp _).cells) (by dsimp only; omega) (by simp only [maxInt]; omega) fun b33 hb33 => ?_
  try simp only [go_sem, hb3, hb4, hb6, hbg, hbc, hba, hbi, hbw, hb14, hb15, hb19, hb20, hb24, hb25, hb28, hb29, hb32] at hb33
  simp -implicitDefEqProofs (disch := omega) only [go_sem, Int.reduceEq, Int.reduceLT, Int.reduceLE, Int.reduceToNat, Int.reduceNeg, Int.reduceAdd, Int.reduceSub, Nat.reduceEqDiff, Nat.reduceAdd, Nat.reduceMul, Nat.reduceLeDiff, Nat.reduceSub, ↓reduceIte, reduceCtorEq, hb3, hb4, hb6, hbg, hbc, hba, hbi, hbw, hb14, hb15, hb19, hb20, hb24, hb25, hb28, hb29, hb32, hb33]
  repeat (refine And.intro (by omega) ?_)
  refine gN_appN ti31 rfl ti30 rfl (by decide) (hw _) (by dsimp only; omega) (by simp only [maxInt]; omega) fun b36 hb36 => ?_
  try simp only [go_sem, hb3, hb4, hb6, hbg, hbc, hba, hbi, hbw, hb14, hb15, hb19, hb20, hb24, hb25, hb28, hb29, hb32, hb33] at hb36
  simp -implicitDefEqProofs (disch := omega) only [go_sem, Int.reduceEq, Int.reduceLT, Int.reduceLE, Int.reduceToNat, Int.reduceNeg, Int.reduceAdd, Int.reduceSub, Nat.reduceEqDiff, Nat.reduceAdd, Nat.reduceMul, Nat.reduceLeDiff, Nat.reduceSub, ↓reduceIte, reduceCtorEq, hb3, hb4, hb6, hbg, hbc, hba, hbi, hbw, hb14, hb15, hb19, hb20, hb24, hb25, hb28, hb29, hb32, hb33, hb36]
  repeat (refine And.intro (by omega) ?_)
  refine gN_new fun b37 hb37 => ?_
  try simp only [newIn_put, newIn_upd] at hb37
  simp -implicitDefEqProofs (disch := omega) only [go_sem, Int.reduceEq, Int.reduceLT, Int.reduceLE, Int.reduceToNat, Int.reduceNeg, Int.reduceAdd, Int.reduceSub, Nat.reduceEqDiff, Nat.reduceAdd, Nat.reduceMul, Nat.reduceLeDiff, Nat.reduceSub, ↓reduceIte, reduceCtorEq, hb3, hb4, hb6, hbg, hbc, hba, hbi, hbw, hb14, hb15, hb19, hb20, hb24, hb25, hb28, hb29, hb32, hb33, hb36, hb37]
  repeat (refine And.intro (by omega) ?_)
  refine gN_appV ti31 rfl ti30 rfl (by decide) (SrcV.sl (by simp only [go_sem, hb3, hb4, hb6, hbg, hbc, hba, hbi, hbw, hb14, hb15, hb19, hb20, hb24, hb25, hb28, hb29, hb32, hb33, hb36, hb37] <;> exact rfl) rfl rfl) (by simp only [go_sem, hb3, hb4, hb6, hbg, hbc, hba, hbi, hbw, hb14, hb15, hb19, hb20, hb24, hb25, hb28, hb29, hb32, hb33, hb36, hb37] <;> exact rfl) ((src_map c64_len c64_leaf Heap.emp _).cells) (by dsimp only; omega) (by simp only [maxInt]; omega) fun b38 hb38 => ?_
  try simp only [go_sem, hb3, hb4, hb6, hbg, hbc, hba, hbi, hbw, hb14, hb15, hb19, hb20, hb24, hb25, hb28, hb29, hb32, hb33, hb36, hb37] at hb38
  simp -implicitDefEqProofs (disch := omega) only [go_sem, Int.reduceEq, Int.reduceLT, Int.reduceLE, Int.reduceToNat, Int.reduceNeg, Int.reduceAdd, Int.reduceSub, Nat.reduceEqDiff, Nat.reduceAdd, Nat.reduceMul, Nat.reduceLeDiff, Nat.reduceSub, ↓reduceIte, reduceCtorEq, hb3, hb4, hb6, hbg, hbc, hba, hbi, hbw, hb14, hb15, hb19, hb20, hb24, hb25, hb28, hb29, hb32, hb33, hb36, hb37, hb38]
  repeat (refine And.intro (by omega) ?_)
  refine hq _ _ _ (by simp only [pickL, lk_cons, Nat.reduceEqDiff, ↓reduceIte]; exact rfl) ?_
  clear hq q
  repeat' (first | refine wpL_seq ?_ | refine wpL_skip ?_ | refine wpL_label ?_ | refine wpL_scope ?_)
  refine wpL_ret (hK' _ _ _ _ (.inr rfl) (resTo (rs' := [.cell 6 33]) rfl (by simp only [go_sem, Int.reduceEq, Int.reduceLT, Int.reduceLE, Int.reduceToNat, Int.reduceNeg, Int.reduceAdd, Int.reduceSub, Nat.reduceEqDiff, Nat.reduceAdd, Nat.reduceMul, Nat.reduceLeDiff, Nat.reduceSub, ↓reduceIte, reduceCtorEq, hb3, hb4, hb6, hbg, hbc, hba, hbi, hbw, hb14, hb15, hb19, hb20, hb24, hb25, hb28, hb29, hb32, hb33, hb36, hb37, hb38]; exact rfl)) ?_)
  refine ⟨[⟨b15, 5, t.groups.length + 1, (t.groups ++ [markG]).map Group.cells⟩, ⟨b20, 4, t.confs.length + 1, (t.confs ++ [markC]).map Conf.cells⟩, ⟨b25, 1, h.aspect.length + 1, (h.aspect ++ [-7]).map (c1 .i64)⟩, ⟨b29, 1, h.ins.length + 1, (h.ins ++ [-7]).map (c1 .i32)⟩, ⟨b33, 1, h.away.length + 1, (h.away ++ [-7]).map (c1 .i32)⟩, ⟨b38, 1, ws.length + 1, (ws ++ [777#64]).map c64⟩], .cons (by simp only [go_sem, hb3, hb4, hb6, hbg, hbc, hba, hbi, hbw, hb14, hb15, hb19, hb20, hb24, hb25, hb28, hb29, hb32, hb33, hb36, hb37, hb38] <;> exact rfl) rfl (Els.of Group.len _ (by simp [markG, Group.cells]) (by simp)) (by simp only [go_sem, hb3, hb4, hb6, hbg, hbc, hba, hbi, hbw, hb14, hb15, hb19, hb20, hb24, hb25, hb28, hb29, hb32, hb33, hb36, hb37, hb38]) (.cons (by simp only [go_sem, hb3, hb4, hb6, hbg, hbc, hba, hbi, hbw, hb14, hb15, hb19, hb20, hb24, hb25, hb28, hb29, hb32, hb33, hb36, hb37, hb38] <;> exact rfl) rfl (Els.of Conf.len _ (by simp [markC, Conf.cells]) (by simp)) (by simp only [go_sem, hb3, hb4, hb6, hbg, hbc, hba, hbi, hbw, hb14, hb15, hb19, hb20, hb24, hb25, hb28, hb29, hb32, hb33, hb36, hb37, hb38]) (.cons (by simp only [go_sem, hb3, hb4, hb6, hbg, hbc, hba, hbi, hbw, hb14, hb15, hb19, hb20, hb24, hb25, hb28, hb29, hb32, hb33, hb36, hb37, hb38] <;> exact rfl) rfl (Els.of (c1_len _) _ (by simp [flat1, c1]) (by simp)) (by simp only [go_sem, hb3, hb4, hb6, hbg, hbc, hba, hbi, hbw, hb14, hb15, hb19, hb20, hb24, hb25, hb28, hb29, hb32, hb33, hb36, hb37, hb38]) (.cons (by simp only [go_sem, hb3, hb4, hb6, hbg, hbc, hba, hbi, hbw, hb14, hb15, hb19, hb20, hb24, hb25, hb28, hb29, hb32, hb33, hb36, hb37, hb38] <;> exact rfl) rfl (Els.of (c1_len _) _ (by simp [flat1, c1]) (by simp)) (by simp only [go_sem, hb3, hb4, hb6, hbg, hbc, hba, hbi, hbw, hb14, hb15, hb19, hb20, hb24, hb25, hb28, hb29, hb32, hb33, hb36, hb37, hb38]) (.cons (by simp only [go_sem, hb3, hb4, hb6, hbg, hbc, hba, hbi, hbw, hb14, hb15, hb19, hb20, hb24, hb25, hb28, hb29, hb32, hb33, hb36, hb37, hb38] <;> exact rfl) rfl (Els.of (c1_len _) _ (by simp [flat1, c1]) (by simp)) (by simp only [go_sem, hb3, hb4, hb6, hbg, hbc, hba, hbi, hbw, hb14, hb15, hb19, hb20, hb24, hb25, hb28, hb29, hb32, hb33, hb36, hb37, hb38]) (.cons (by simp only [go_sem, hb3, hb4, hb6, hbg, hbc, hba, hbi, hbw, hb14, hb15, hb19, hb20, hb24, hb25, hb28, hb29, hb32, hb33, hb36, hb37, hb38] <;> exact rfl) rfl (Els.of c64_len _ (by simp [c64]) (by simp)) (by simp only [go_sem, hb3, hb4, hb6, hbg, hbc, hba, hbi, hbw, hb14, hb15, hb19, hb20, hb24, hb25, hb28, hb29, hb32, hb33, hb36, hb37, hb38]) (.nil)))))), ?_⟩
  simp only [go_sem, Int.reduceEq, Int.reduceLT, Int.reduceLE, Int.reduceToNat, Int.reduceNeg, Int.reduceAdd, Int.reduceSub, Nat.reduceEqDiff, Nat.reduceAdd, Nat.reduceMul, Nat.reduceLeDiff, Nat.reduceSub, ↓reduceIte, reduceCtorEq, hb3, hb4, hb6, hbg, hbc, hba, hbi, hbw, hb14, hb15, hb19, hb20, hb24, hb25, hb28, hb29, hb32, hb33, hb36, hb37, hb38]
  simp [roomL]
end Go.Proofs.Ytdchdlabdokjnaa.Am.H
