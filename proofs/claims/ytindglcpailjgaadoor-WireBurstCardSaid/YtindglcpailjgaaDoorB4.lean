/- The law WireBack answers true. -/
import Derived.Test.YtindglcpailjgaaDoorB3
namespace Go.Proofs.YtindglcpailjgaaDoor.Am.W
set_option linter.unusedSectionVars false
open Go Go.Proofs Am
set_option linter.unusedVariables false
set_option linter.unusedSimpArgs false
set_option maxRecDepth 100000
attribute [local irreducible] gO gN gW gdO

theorem wpP_ownF {P : Program} {f args} {g : Nat → AV} {l : List UInt8} {n ty} {v1 : AV} (hw : wpH P f args Heap.emp (OwnF g (l.map byc) ty)) (hn : l.length = n) (hv : ∀ b, frzAll [⟨b, 1, n, l.map by1⟩] (g b) = v1) : wpP P f args v1 :=
  wpP_frz (hw.mono fun v h ⟨b, e1, e2⟩ => by
    subst e1; subst e2
    exact ⟨[⟨b, 1, n, l.map by1⟩], .cons (k := ⟨.own, l.map byc, ty, []⟩) (by simp [put_at]) rfl (Els.bytes l n hn) trivial .nil, hv b⟩)
theorem p13 (l : List UInt8) (hl : l.length ≤ 70000000000000) : wpP Tryd.prog 13 [.rs 1 (l.map by1)] (.rs 1 ((stuff l).map by1)) := wpP_ownF (f13_stuff l hl) rfl fun b => by simp [frzAll, frzT, frzA, frzL]
theorem p14 (l : List UInt8) (hl : l.length ≤ 140737488351232) : wpP Tryd.prog 14 [.rs 1 (l.map by1)] (.tup [.rs 1 ((un l).map by1), .int .i64 (unE l)]) := wpP_ownF (f14_unstuff l hl) rfl fun b => by simp [frzAll, frzT, frzA, frzL]
theorem p22 (f : Fr) (hr : FrR f) : wpP Tryd.prog 22 [f.av] (.tup [.rs 1 (f.bytes.map by1), .int .i64 f.err]) := wpP_ownF (f22_frame f hr) rfl fun b => by simp [frzAll, frzT, frzA, frzL]
theorem p23 (f : Fr) (hr : FrR f) : wpP Tryd.prog 23 [f.av] (.tup [.rs 1 (f.bytes.map by1), .int .i64 f.err]) := wpP_ownF (f23_frame f hr) rfl fun b => by simp [frzAll, frzT, frzA, frzL]
theorem p25 (l : List UInt8) (hl : l.length ≤ 140737488351232) : wpP Tryd.prog 25 [.rs 1 (l.map by1)] (.tup [(readF l).1.av, .int .i64 (readF l).2]) := wpP_ownF (f25_unframe l hl) rfl fun b => by simp [frzAll, frzT, frzA, frzL, Fr.av, Fr.cells]
theorem p27 (l : List UInt8) (hl : l.length ≤ 140737488351232) : wpP Tryd.prog 27 [.rs 1 (l.map by1)] (.tup [(readM l).1.av, .int .i64 (readM l).2]) := wpP_ownF (f27_unpack l hl) rfl fun b => by simp [frzAll, frzT, frzA, frzL, Msg.av, Msg.cells]
theorem p28 (m : Msg) (hr : MR m) : wpP Tryd.prog 28 [m.av] (.tup [.rs 1 (m.bytes.map by1), .int .i64 m.err]) := wpP_ownF (f28_pack m hr) rfl fun b => by simp [frzAll, frzT, frzA, frzL]
theorem Fr.ok_R {f : Fr} (h : f.ok = true) : FrR f := by
  obtain ⟨h1, h2, h3, h4, h5⟩ := f.ok_iff.1 h
  exact ⟨by omega, by omega, by omega, by omega⟩
theorem Msg.ok_R {l : List UInt8} {r : Msg} (hl : l.length ≤ 140737488351232) (h : readM l = (r, 0)) : MR r := by
  unfold readM at h
  split at h
  · injection h with _ h; cases h
  · split at h
    · cases h; exact readM0_ok l hl
    · injection h with _ h; cases h
theorem stuff_ge (l : List UInt8) : l.length ≤ (stuff l).length := by
  induction l with
  | nil => simp
  | cons c l ih =>
    rw [stuff_cons, List.length_append, List.length_cons]
    have : 1 ≤ (stuff1 c).length := by unfold stuff1; split <;> simp
    omega
theorem u126 : ((UInt8.toNat 126 : Nat) : Int) = 126 := rfl
theorem mid_ex (b : List UInt8) : ∃ X : List UInt8, X = 126 :: (b ++ [126]) ∧ X.length = b.length + 2 ∧ X[0]? = some 126 ∧ X[b.length + 1]? = some 126 ∧ List.take b.length (List.drop 1 (List.map by1 X)) = b.map by1 := by
  refine ⟨_, rfl, by simp, rfl, by simp, ?_⟩
  simp only [List.map_cons, List.drop_succ_cons, List.drop_zero, List.map_append]
  exact List.take_left' (by simp)
theorem mid_sub (n : Nat) : (((n + 2 : Nat) : Int) - 1).toNat = n + 1 := by omega
theorem mid_sub1 (n : Nat) : n + 1 - 1 = n := by omega
theorem f6_back (b : List UInt8) (f : Fr) (m : Msg) (hb : b.length ≤ 1048576) (hf : FrR f) (hm : MR m) : wpP Tryd.prog 6 [.rs 1 (b.map by1), f.av, m.av] (.bool true) := by
  have hS := stuff_len b
  have eun : un (stuff b) = b := by simp [un, un_stuff]
  have eune : unE (stuff b) = 0 := by simp [unE, un_stuff]
  refine wpP_intro ?_
  refine wpH_intro (fn := Tryd.f6) rfl rfl (by decide) (by kernel_rfl) fun K' hK' => ?_
  repeat' (first | refine wpL_seq ?_ | refine wpL_skip ?_ | refine wpL_label ?_ | refine wpL_scope ?_)
  refine wpL_region' [0, 4, 5] fun q hq => ?_
  simp -implicitDefEqProofs (disch := omega) only [go_sem, Int.reduceEq, Int.reduceLT, Int.reduceLE, Int.reduceToNat, Int.reduceNeg, Int.reduceAdd, Int.reduceSub, Nat.reduceEqDiff, Nat.reduceAdd, Nat.reduceMul, Nat.reduceLeDiff, Nat.reduceSub, ↓reduceIte, reduceCtorEq, Fr.av, Fr.cells, Msg.av, Msg.cells]
  repeat (refine And.intro (by omega) ?_)
  refine gN_new fun b4 hb4 => ?_
  try simp only [newIn_put, newIn_upd] at hb4
  simp -implicitDefEqProofs (disch := omega) only [go_sem, Int.reduceEq, Int.reduceLT, Int.reduceLE, Int.reduceToNat, Int.reduceNeg, Int.reduceAdd, Int.reduceSub, Nat.reduceEqDiff, Nat.reduceAdd, Nat.reduceMul, Nat.reduceLeDiff, Nat.reduceSub, ↓reduceIte, reduceCtorEq, Fr.av, Fr.cells, Msg.av, Msg.cells, hb4]
  repeat (refine And.intro (by omega) ?_)
  refine gN_new fun b5 hb5 => ?_
  try simp only [newIn_put, newIn_upd] at hb5
  simp -implicitDefEqProofs (disch := omega) only [go_sem, Int.reduceEq, Int.reduceLT, Int.reduceLE, Int.reduceToNat, Int.reduceNeg, Int.reduceAdd, Int.reduceSub, Nat.reduceEqDiff, Nat.reduceAdd, Nat.reduceMul, Nat.reduceLeDiff, Nat.reduceSub, ↓reduceIte, reduceCtorEq, Fr.av, Fr.cells, Msg.av, Msg.cells, hb4, hb5]
  repeat (refine And.intro (by omega) ?_)
  refine hq _ _ _ (by simp only [pickL, lk_cons, Int.reduceEq, Int.reduceLT, Int.reduceLE, Int.reduceToNat, Int.reduceNeg, Int.reduceAdd, Int.reduceSub, Nat.reduceEqDiff, Nat.reduceAdd, Nat.reduceMul, Nat.reduceLeDiff, Nat.reduceSub, ↓reduceIte, reduceCtorEq, if_true, if_false]; exact rfl) ?_
  clear hq q
  refine wpL_frzP' 4 rfl (by simp only [go_sem, hb4, hb4, hb5]; exact rfl) rfl (by simp only [go_sem, Int.reduceEq, Int.reduceLT, Int.reduceLE, Int.reduceToNat, Int.reduceNeg, Int.reduceAdd, Int.reduceSub, Nat.reduceEqDiff, Nat.reduceAdd, Nat.reduceMul, Nat.reduceLeDiff, Nat.reduceSub, ↓reduceIte, reduceCtorEq]; exact rfl) (by simp only [go_sem, hb4, hb4, hb5]; exact rfl) ?_
  refine wpL_frzP' 5 rfl (by simp only [go_sem, hb5, hb4, hb5]; exact rfl) rfl (by simp only [go_sem, Int.reduceEq, Int.reduceLT, Int.reduceLE, Int.reduceToNat, Int.reduceNeg, Int.reduceAdd, Int.reduceSub, Nat.reduceEqDiff, Nat.reduceAdd, Nat.reduceMul, Nat.reduceLeDiff, Nat.reduceSub, ↓reduceIte, reduceCtorEq]; exact rfl) (by simp only [go_sem, hb5, hb4, hb5]; exact rfl) ?_
  repeat' (first | refine wpL_seq ?_ | refine wpL_skip ?_ | refine wpL_label ?_ | refine wpL_scope ?_)
  refine wpL_region' [0, 4, 5, 7] fun q hq => ?_
  simp -implicitDefEqProofs (disch := omega) only [go_sem, Int.reduceEq, Int.reduceLT, Int.reduceLE, Int.reduceToNat, Int.reduceNeg, Int.reduceAdd, Int.reduceSub, Nat.reduceEqDiff, Nat.reduceAdd, Nat.reduceMul, Nat.reduceLeDiff, Nat.reduceSub, ↓reduceIte, reduceCtorEq, hb4, hb5]
  repeat (refine And.intro (by omega) ?_)
  refine gN_callP (p13 b (by omega)) ?_
  simp -implicitDefEqProofs (disch := omega) only [go_sem, Int.reduceEq, Int.reduceLT, Int.reduceLE, Int.reduceToNat, Int.reduceNeg, Int.reduceAdd, Int.reduceSub, Nat.reduceEqDiff, Nat.reduceAdd, Nat.reduceMul, Nat.reduceLeDiff, Nat.reduceSub, ↓reduceIte, reduceCtorEq, hb4, hb5]
  repeat (refine And.intro (by omega) ?_)
  refine hq _ _ _ (by simp only [pickL, lk_cons, Int.reduceEq, Int.reduceLT, Int.reduceLE, Int.reduceToNat, Int.reduceNeg, Int.reduceAdd, Int.reduceSub, Nat.reduceEqDiff, Nat.reduceAdd, Nat.reduceMul, Nat.reduceLeDiff, Nat.reduceSub, ↓reduceIte, reduceCtorEq, if_true, if_false]; exact rfl) ?_
  clear hq q
  repeat' (first | refine wpL_seq ?_ | refine wpL_skip ?_ | refine wpL_label ?_ | refine wpL_scope ?_)
  refine wpL_region' [0, 4, 5, 7, 8] fun q hq => ?_
  simp -implicitDefEqProofs (disch := omega) only [go_sem, Int.reduceEq, Int.reduceLT, Int.reduceLE, Int.reduceToNat, Int.reduceNeg, Int.reduceAdd, Int.reduceSub, Nat.reduceEqDiff, Nat.reduceAdd, Nat.reduceMul, Nat.reduceLeDiff, Nat.reduceSub, ↓reduceIte, reduceCtorEq, hb4, hb5]
  repeat (refine And.intro (by omega) ?_)
  refine hq _ _ _ (by simp only [pickL, lk_cons, Int.reduceEq, Int.reduceLT, Int.reduceLE, Int.reduceToNat, Int.reduceNeg, Int.reduceAdd, Int.reduceSub, Nat.reduceEqDiff, Nat.reduceAdd, Nat.reduceMul, Nat.reduceLeDiff, Nat.reduceSub, ↓reduceIte, reduceCtorEq, if_true, if_false]; exact rfl) ?_
  clear hq q
  repeat' (first | refine wpL_seq ?_ | refine wpL_skip ?_ | refine wpL_label ?_ | refine wpL_scope ?_)
  refine wpL_block fun k1 hn1 hx1 ho1 => ?_
  refine wpL_loop (fun j e h => ∃ i : Nat, i ≤ (stuff b).length ∧ j = (stuff b).length - i ∧ h = Heap.emp ∧
    e = lk [(0, .rs 1 (b.map by1)), (4, .rp f.cells 0), (5, .rp m.cells 0), (7, .rs 1 ((stuff b).map by1)), (8, .int .i64 i)]) (stuff b).length ⟨0, by omega, by omega, rfl, rfl⟩ ?_
  rintro j e h ⟨i, hi, rfl, rfl, rfl⟩ k2 hn2 hx2
  repeat' (first | refine wpL_seq ?_ | refine wpL_skip ?_ | refine wpL_label ?_ | refine wpL_scope ?_)
  refine wpL_region' [0, 4, 5, 7, 8, 25] fun q hq => ?_
  simp -implicitDefEqProofs (disch := omega) only [go_sem, Int.reduceEq, Int.reduceLT, Int.reduceLE, Int.reduceToNat, Int.reduceNeg, Int.reduceAdd, Int.reduceSub, Nat.reduceEqDiff, Nat.reduceAdd, Nat.reduceMul, Nat.reduceLeDiff, Nat.reduceSub, ↓reduceIte, reduceCtorEq, List.length_map, hb4, hb5]
  repeat (refine And.intro (by omega) ?_)
  refine hq _ _ _ (by simp only [pickL, lk_cons, Int.reduceEq, Int.reduceLT, Int.reduceLE, Int.reduceToNat, Int.reduceNeg, Int.reduceAdd, Int.reduceSub, Nat.reduceEqDiff, Nat.reduceAdd, Nat.reduceMul, Nat.reduceLeDiff, Nat.reduceSub, ↓reduceIte, reduceCtorEq, if_true, if_false]; exact rfl) ?_
  clear hq q
  repeat' (first | refine wpL_seq ?_ | refine wpL_skip ?_ | refine wpL_label ?_ | refine wpL_scope ?_)
  refine wpL_cond rfl (fun hc3 => ?_) (fun hc3 => ?_)
  · simp at hc3
    obtain ⟨c, hc⟩ := get_of_lt hc3
    have hne := stuff_no b c (List.mem_of_getElem? hc)
    repeat' (first | refine wpL_seq ?_ | refine wpL_skip ?_ | refine wpL_label ?_ | refine wpL_scope ?_)
    refine wpL_block fun k4 hn4 hx4 ho4 => ?_
    repeat' (first | refine wpL_seq ?_ | refine wpL_skip ?_ | refine wpL_label ?_ | refine wpL_scope ?_)
    refine wpL_region' [0, 4, 5, 7, 8, 32] fun q hq => ?_
    simp -implicitDefEqProofs (disch := omega) only [go_sem, Int.reduceEq, Int.reduceLT, Int.reduceLE, Int.reduceToNat, Int.reduceNeg, Int.reduceAdd, Int.reduceSub, Nat.reduceEqDiff, Nat.reduceAdd, Nat.reduceMul, Nat.reduceLeDiff, Nat.reduceSub, ↓reduceIte, reduceCtorEq, List.length_map, hc, by1, hb4, hb5]
    repeat (refine And.intro (by omega) ?_)
    refine hq _ _ _ (by simp only [pickL, lk_cons, Int.reduceEq, Int.reduceLT, Int.reduceLE, Int.reduceToNat, Int.reduceNeg, Int.reduceAdd, Int.reduceSub, Nat.reduceEqDiff, Nat.reduceAdd, Nat.reduceMul, Nat.reduceLeDiff, Nat.reduceSub, ↓reduceIte, reduceCtorEq, if_true, if_false]; exact rfl) ?_
    clear hq q
    repeat' (first | refine wpL_seq ?_ | refine wpL_skip ?_ | refine wpL_label ?_ | refine wpL_scope ?_)
    refine wpL_cond rfl (fun hc5 => ?_) (fun hc5 => ?_)
    · exfalso
      simp at hc5
      exact hne (UInt8.toNat_inj.1 (by show c.toNat = 126; omega))
    repeat' (first | refine wpL_seq ?_ | refine wpL_skip ?_ | refine wpL_label ?_ | refine wpL_scope ?_)
    refine wpL_nil (hn4 _ _ ?_)
    repeat' (first | refine wpL_seq ?_ | refine wpL_skip ?_ | refine wpL_label ?_ | refine wpL_scope ?_)
    refine wpL_region' [0, 4, 5, 7, 8] fun q hq => ?_
    simp -implicitDefEqProofs (disch := omega) only [go_sem, Int.reduceEq, Int.reduceLT, Int.reduceLE, Int.reduceToNat, Int.reduceNeg, Int.reduceAdd, Int.reduceSub, Nat.reduceEqDiff, Nat.reduceAdd, Nat.reduceMul, Nat.reduceLeDiff, Nat.reduceSub, ↓reduceIte, reduceCtorEq, hb4, hb5]
    repeat (refine And.intro (by omega) ?_)
    refine hq _ _ _ (by simp only [pickL, lk_cons, Int.reduceEq, Int.reduceLT, Int.reduceLE, Int.reduceToNat, Int.reduceNeg, Int.reduceAdd, Int.reduceSub, Nat.reduceEqDiff, Nat.reduceAdd, Nat.reduceMul, Nat.reduceLeDiff, Nat.reduceSub, ↓reduceIte, reduceCtorEq, if_true, if_false]; exact rfl) ?_
    clear hq q
    repeat' (first | refine wpL_seq ?_ | refine wpL_skip ?_ | refine wpL_label ?_ | refine wpL_scope ?_)
    exact wpL_nil (hn2 ((stuff b).length - (i + 1)) _ _ (by omega) ⟨i + 1, by omega, by omega, rfl, rfl⟩)
  repeat' (first | refine wpL_seq ?_ | refine wpL_skip ?_ | refine wpL_label ?_ | refine wpL_scope ?_)
  refine wpL_exit (hx2 _ _ _ (by simp) (hx1 _ _ ?_))
  have q14 := p14 (stuff b) (by omega)
  rw [eun, eune] at q14
  repeat' (first | refine wpL_seq ?_ | refine wpL_skip ?_ | refine wpL_label ?_ | refine wpL_scope ?_)
  refine wpL_region' [0, 4, 5, 9, 10] fun q hq => ?_
  simp -implicitDefEqProofs (disch := omega) only [go_sem, Int.reduceEq, Int.reduceLT, Int.reduceLE, Int.reduceToNat, Int.reduceNeg, Int.reduceAdd, Int.reduceSub, Nat.reduceEqDiff, Nat.reduceAdd, Nat.reduceMul, Nat.reduceLeDiff, Nat.reduceSub, ↓reduceIte, reduceCtorEq, hb4, hb5]
  repeat (refine And.intro (by omega) ?_)
  refine gN_callP (q14) ?_
  simp -implicitDefEqProofs (disch := omega) only [go_sem, Int.reduceEq, Int.reduceLT, Int.reduceLE, Int.reduceToNat, Int.reduceNeg, Int.reduceAdd, Int.reduceSub, Nat.reduceEqDiff, Nat.reduceAdd, Nat.reduceMul, Nat.reduceLeDiff, Nat.reduceSub, ↓reduceIte, reduceCtorEq, hb4, hb5]
  repeat (refine And.intro (by omega) ?_)
  refine hq _ _ _ (by simp only [pickL, lk_cons, Int.reduceEq, Int.reduceLT, Int.reduceLE, Int.reduceToNat, Int.reduceNeg, Int.reduceAdd, Int.reduceSub, Nat.reduceEqDiff, Nat.reduceAdd, Nat.reduceMul, Nat.reduceLeDiff, Nat.reduceSub, ↓reduceIte, reduceCtorEq, if_true, if_false]; exact rfl) ?_
  clear hq q
  repeat' (first | refine wpL_seq ?_ | refine wpL_skip ?_ | refine wpL_label ?_ | refine wpL_scope ?_)
  refine wpL_regV [0, 4, 5] 45 (.bool false) (by simp only [pickL, put, lk_cons, Int.reduceEq, Int.reduceLT, Int.reduceLE, Int.reduceToNat, Int.reduceNeg, Int.reduceAdd, Int.reduceSub, Nat.reduceEqDiff, Nat.reduceAdd, Nat.reduceMul, Nat.reduceLeDiff, Nat.reduceSub, ↓reduceIte, reduceCtorEq, if_true, if_false]; exact rfl) (by decide) ?_ ?_
  · simp -implicitDefEqProofs (disch := omega) only [go_sem, Int.reduceEq, Int.reduceLT, Int.reduceLE, Int.reduceToNat, Int.reduceNeg, Int.reduceAdd, Int.reduceSub, Nat.reduceEqDiff, Nat.reduceAdd, Nat.reduceMul, Nat.reduceLeDiff, Nat.reduceSub, ↓reduceIte, reduceCtorEq, decide_true, eq_self, hb4, hb5]
    repeat' (first | (refine gN_split2 (fun hs => ?_) (fun hs => ?_) <;> simp -implicitDefEqProofs (disch := omega) only [go_sem, Int.reduceEq, Int.reduceLT, Int.reduceLE, Int.reduceToNat, Int.reduceNeg, Int.reduceAdd, Int.reduceSub, Nat.reduceEqDiff, Nat.reduceAdd, Nat.reduceMul, Nat.reduceLeDiff, Nat.reduceSub, ↓reduceIte, reduceCtorEq, hs, decide_true, eq_self, hb4, hb5]) | refine gN_callP (f17_bytes b b (by omega) (by omega)) ?_ | simp -implicitDefEqProofs (disch := omega) only [go_sem, Int.reduceEq, Int.reduceLT, Int.reduceLE, Int.reduceToNat, Int.reduceNeg, Int.reduceAdd, Int.reduceSub, Nat.reduceEqDiff, Nat.reduceAdd, Nat.reduceMul, Nat.reduceLeDiff, Nat.reduceSub, ↓reduceIte, reduceCtorEq, decide_true, eq_self, hb4, hb5] | refine And.intro (by omega) ?_)
    all_goals (try clear hK'; try clear hn1; try clear hx1; try clear ho1; try clear hn2; try clear hx2; try clear hn4; try clear hx4; try clear ho4)
    all_goals (simp_all)
  repeat' (first | refine wpL_seq ?_ | refine wpL_skip ?_ | refine wpL_label ?_ | refine wpL_scope ?_)
  refine wpL_cond rfl (fun hc6 => ?_) (fun hc6 => ?_)
  · cases hc6
  repeat' (first | refine wpL_seq ?_ | refine wpL_skip ?_ | refine wpL_label ?_ | refine wpL_scope ?_)
  refine wpL_region' [0, 4, 5, 9, 10] fun q hq => ?_
  simp -implicitDefEqProofs (disch := omega) only [go_sem, Int.reduceEq, Int.reduceLT, Int.reduceLE, Int.reduceToNat, Int.reduceNeg, Int.reduceAdd, Int.reduceSub, Nat.reduceEqDiff, Nat.reduceAdd, Nat.reduceMul, Nat.reduceLeDiff, Nat.reduceSub, ↓reduceIte, reduceCtorEq, hb4, hb5]
  repeat (refine And.intro (by omega) ?_)
  refine gN_callP (p14 b (by omega)) ?_
  simp -implicitDefEqProofs (disch := omega) only [go_sem, Int.reduceEq, Int.reduceLT, Int.reduceLE, Int.reduceToNat, Int.reduceNeg, Int.reduceAdd, Int.reduceSub, Nat.reduceEqDiff, Nat.reduceAdd, Nat.reduceMul, Nat.reduceLeDiff, Nat.reduceSub, ↓reduceIte, reduceCtorEq, hb4, hb5]
  repeat (refine And.intro (by omega) ?_)
  refine hq _ _ _ (by simp only [pickL, lk_cons, Int.reduceEq, Int.reduceLT, Int.reduceLE, Int.reduceToNat, Int.reduceNeg, Int.reduceAdd, Int.reduceSub, Nat.reduceEqDiff, Nat.reduceAdd, Nat.reduceMul, Nat.reduceLeDiff, Nat.reduceSub, ↓reduceIte, reduceCtorEq, if_true, if_false]; exact rfl) ?_
  clear hq q
  have h11 : unE b = 0 → stuff (un b) = b := by
    intro h
    cases hu : unstuff b with
    | none => simp [unE, hu] at h
    | some u => simp [un, hu]; exact stuff_un b.length b u (Nat.le_refl _) hu
  have hU := un_len b
  have hS2 := stuff_len (un b)
  repeat' (first | refine wpL_seq ?_ | refine wpL_skip ?_ | refine wpL_label ?_ | refine wpL_scope ?_)
  refine wpL_regV [0, 4, 5] 59 (.bool false) (by simp only [pickL, put, lk_cons, Int.reduceEq, Int.reduceLT, Int.reduceLE, Int.reduceToNat, Int.reduceNeg, Int.reduceAdd, Int.reduceSub, Nat.reduceEqDiff, Nat.reduceAdd, Nat.reduceMul, Nat.reduceLeDiff, Nat.reduceSub, ↓reduceIte, reduceCtorEq, if_true, if_false]; exact rfl) (by decide) ?_ ?_
  · simp -implicitDefEqProofs (disch := omega) only [go_sem, Int.reduceEq, Int.reduceLT, Int.reduceLE, Int.reduceToNat, Int.reduceNeg, Int.reduceAdd, Int.reduceSub, Nat.reduceEqDiff, Nat.reduceAdd, Nat.reduceMul, Nat.reduceLeDiff, Nat.reduceSub, ↓reduceIte, reduceCtorEq, decide_true, eq_self, hb4, hb5]
    repeat' (first | (refine gN_split2 (fun hs => ?_) (fun hs => ?_) <;> simp -implicitDefEqProofs (disch := omega) only [go_sem, Int.reduceEq, Int.reduceLT, Int.reduceLE, Int.reduceToNat, Int.reduceNeg, Int.reduceAdd, Int.reduceSub, Nat.reduceEqDiff, Nat.reduceAdd, Nat.reduceMul, Nat.reduceLeDiff, Nat.reduceSub, ↓reduceIte, reduceCtorEq, hs, decide_true, eq_self, hb4, hb5]) | refine gN_callP ((by first | exact p13 (un b) (by omega) | exact f17_bytes (stuff (un b)) b (by omega) (by omega))) ?_ | simp -implicitDefEqProofs (disch := omega) only [go_sem, Int.reduceEq, Int.reduceLT, Int.reduceLE, Int.reduceToNat, Int.reduceNeg, Int.reduceAdd, Int.reduceSub, Nat.reduceEqDiff, Nat.reduceAdd, Nat.reduceMul, Nat.reduceLeDiff, Nat.reduceSub, ↓reduceIte, reduceCtorEq, decide_true, eq_self, hb4, hb5] | refine And.intro (by omega) ?_)
    all_goals (try clear hK'; try clear hn1; try clear hx1; try clear ho1; try clear hn2; try clear hx2; try clear hn4; try clear hx4; try clear ho4)
    all_goals ((simp at hs; simp [h11 hs]))
  repeat' (first | refine wpL_seq ?_ | refine wpL_skip ?_ | refine wpL_label ?_ | refine wpL_scope ?_)
  refine wpL_cond rfl (fun hc7 => ?_) (fun hc7 => ?_)
  · cases hc7
  clear hc6 hc7
  obtain ⟨r, e, hrf⟩ : ∃ r e, readF b = (r, e) := ⟨_, _, rfl⟩
  have q25 := p25 b (by omega)
  rw [hrf] at q25
  repeat' (first | refine wpL_seq ?_ | refine wpL_skip ?_ | refine wpL_label ?_ | refine wpL_scope ?_)
  refine wpL_region' [0, 4, 5, 10, 11] fun q hq => ?_
  simp -implicitDefEqProofs (disch := omega) only [go_sem, Int.reduceEq, Int.reduceLT, Int.reduceLE, Int.reduceToNat, Int.reduceNeg, Int.reduceAdd, Int.reduceSub, Nat.reduceEqDiff, Nat.reduceAdd, Nat.reduceMul, Nat.reduceLeDiff, Nat.reduceSub, ↓reduceIte, reduceCtorEq, Fr.av, Fr.cells, hb4, hb5]
  repeat (refine And.intro (by omega) ?_)
  refine gN_callP (q25) ?_
  simp -implicitDefEqProofs (disch := omega) only [go_sem, Int.reduceEq, Int.reduceLT, Int.reduceLE, Int.reduceToNat, Int.reduceNeg, Int.reduceAdd, Int.reduceSub, Nat.reduceEqDiff, Nat.reduceAdd, Nat.reduceMul, Nat.reduceLeDiff, Nat.reduceSub, ↓reduceIte, reduceCtorEq, Fr.av, Fr.cells, hb4, hb5]
  repeat (refine And.intro (by omega) ?_)
  refine gN_new fun b11 hb11 => ?_
  try simp only [newIn_put, newIn_upd] at hb11
  simp -implicitDefEqProofs (disch := omega) only [go_sem, Int.reduceEq, Int.reduceLT, Int.reduceLE, Int.reduceToNat, Int.reduceNeg, Int.reduceAdd, Int.reduceSub, Nat.reduceEqDiff, Nat.reduceAdd, Nat.reduceMul, Nat.reduceLeDiff, Nat.reduceSub, ↓reduceIte, reduceCtorEq, Fr.av, Fr.cells, hb4, hb5, hb11]
  repeat (refine And.intro (by omega) ?_)
  refine hq _ _ _ (by simp only [pickL, lk_cons, Int.reduceEq, Int.reduceLT, Int.reduceLE, Int.reduceToNat, Int.reduceNeg, Int.reduceAdd, Int.reduceSub, Nat.reduceEqDiff, Nat.reduceAdd, Nat.reduceMul, Nat.reduceLeDiff, Nat.reduceSub, ↓reduceIte, reduceCtorEq, if_true, if_false]; exact rfl) ?_
  clear hq q
  repeat' (first | refine wpL_seq ?_ | refine wpL_skip ?_ | refine wpL_label ?_ | refine wpL_scope ?_)
  refine wpL_region' [0, 4, 5, 11, 66] fun q hq => ?_
  simp -implicitDefEqProofs (disch := omega) only [go_sem, Int.reduceEq, Int.reduceLT, Int.reduceLE, Int.reduceToNat, Int.reduceNeg, Int.reduceAdd, Int.reduceSub, Nat.reduceEqDiff, Nat.reduceAdd, Nat.reduceMul, Nat.reduceLeDiff, Nat.reduceSub, ↓reduceIte, reduceCtorEq, hb4, hb5, hb11]
  repeat (refine And.intro (by omega) ?_)
  refine hq _ _ _ (by simp only [pickL, lk_cons, Int.reduceEq, Int.reduceLT, Int.reduceLE, Int.reduceToNat, Int.reduceNeg, Int.reduceAdd, Int.reduceSub, Nat.reduceEqDiff, Nat.reduceAdd, Nat.reduceMul, Nat.reduceLeDiff, Nat.reduceSub, ↓reduceIte, reduceCtorEq, if_true, if_false]; exact rfl) ?_
  clear hq q
  repeat' (first | refine wpL_seq ?_ | refine wpL_skip ?_ | refine wpL_label ?_ | refine wpL_scope ?_)
  refine wpL_condK rfl fun j8 hj8 ox8 => ?_
  have tail8 : j8 .normal (lk [(0, .rs 1 (b.map by1)), (4, .rp f.cells 0), (5, .rp m.cells 0), (11, .ptr b11 0)]) (Heap.emp.put b11 ⟨.own, r.cells, 37, []⟩) := by
    refine hj8 _ _ ?_
    repeat' (first | refine wpL_seq ?_ | refine wpL_skip ?_ | refine wpL_label ?_ | refine wpL_scope ?_)
    refine wpL_region' [0, 4, 5, 10, 11] fun q hq => ?_
    simp -implicitDefEqProofs (disch := omega) only [go_sem, Int.reduceEq, Int.reduceLT, Int.reduceLE, Int.reduceToNat, Int.reduceNeg, Int.reduceAdd, Int.reduceSub, Nat.reduceEqDiff, Nat.reduceAdd, Nat.reduceMul, Nat.reduceLeDiff, Nat.reduceSub, ↓reduceIte, reduceCtorEq, Fr.cells, hb4, hb5, hb11]
    repeat (refine And.intro (by omega) ?_)
    refine gN_callP (p22 f hf) ?_
    simp -implicitDefEqProofs (disch := omega) only [go_sem, Int.reduceEq, Int.reduceLT, Int.reduceLE, Int.reduceToNat, Int.reduceNeg, Int.reduceAdd, Int.reduceSub, Nat.reduceEqDiff, Nat.reduceAdd, Nat.reduceMul, Nat.reduceLeDiff, Nat.reduceSub, ↓reduceIte, reduceCtorEq, Fr.cells, hb4, hb5, hb11]
    repeat (refine And.intro (by omega) ?_)
    refine hq _ _ _ (by simp only [pickL, lk_cons, Int.reduceEq, Int.reduceLT, Int.reduceLE, Int.reduceToNat, Int.reduceNeg, Int.reduceAdd, Int.reduceSub, Nat.reduceEqDiff, Nat.reduceAdd, Nat.reduceMul, Nat.reduceLeDiff, Nat.reduceSub, ↓reduceIte, reduceCtorEq, if_true, if_false]; exact rfl) ?_
    clear hq q
    repeat' (first | refine wpL_seq ?_ | refine wpL_skip ?_ | refine wpL_label ?_ | refine wpL_scope ?_)
    refine wpL_region' [0, 4, 5, 11, 113] fun q hq => ?_
    simp -implicitDefEqProofs (disch := omega) only [go_sem, Int.reduceEq, Int.reduceLT, Int.reduceLE, Int.reduceToNat, Int.reduceNeg, Int.reduceAdd, Int.reduceSub, Nat.reduceEqDiff, Nat.reduceAdd, Nat.reduceMul, Nat.reduceLeDiff, Nat.reduceSub, ↓reduceIte, reduceCtorEq, hb4, hb5, hb11]
    repeat (refine And.intro (by omega) ?_)
    refine hq _ _ _ (by simp only [pickL, lk_cons, Int.reduceEq, Int.reduceLT, Int.reduceLE, Int.reduceToNat, Int.reduceNeg, Int.reduceAdd, Int.reduceSub, Nat.reduceEqDiff, Nat.reduceAdd, Nat.reduceMul, Nat.reduceLeDiff, Nat.reduceSub, ↓reduceIte, reduceCtorEq, if_true, if_false]; exact rfl) ?_
    clear hq q
    repeat' (first | refine wpL_seq ?_ | refine wpL_skip ?_ | refine wpL_label ?_ | refine wpL_scope ?_)
    refine wpL_condK rfl fun j9 hj9 ox9 => ?_
    have tail9 : j9 .normal (lk [(0, .rs 1 (b.map by1)), (5, .rp m.cells 0)]) Heap.emp := by
      refine hj9 _ _ ?_
      obtain ⟨r2, e2, hrm⟩ : ∃ r e, readM b = (r, e) := ⟨_, _, rfl⟩
      have q27 := p27 b (by omega)
      rw [hrm] at q27
      repeat' (first | refine wpL_seq ?_ | refine wpL_skip ?_ | refine wpL_label ?_ | refine wpL_scope ?_)
      refine wpL_region' [0, 5, 10, 16] fun q hq => ?_
      simp -implicitDefEqProofs (disch := omega) only [go_sem, Int.reduceEq, Int.reduceLT, Int.reduceLE, Int.reduceToNat, Int.reduceNeg, Int.reduceAdd, Int.reduceSub, Nat.reduceEqDiff, Nat.reduceAdd, Nat.reduceMul, Nat.reduceLeDiff, Nat.reduceSub, ↓reduceIte, reduceCtorEq, Msg.av, Msg.cells, hb4, hb5, hb11]
      repeat (refine And.intro (by omega) ?_)
      refine gN_callP (q27) ?_
      simp -implicitDefEqProofs (disch := omega) only [go_sem, Int.reduceEq, Int.reduceLT, Int.reduceLE, Int.reduceToNat, Int.reduceNeg, Int.reduceAdd, Int.reduceSub, Nat.reduceEqDiff, Nat.reduceAdd, Nat.reduceMul, Nat.reduceLeDiff, Nat.reduceSub, ↓reduceIte, reduceCtorEq, Msg.av, Msg.cells, hb4, hb5, hb11]
      repeat (refine And.intro (by omega) ?_)
      refine gN_new fun b16 hb16 => ?_
      try simp only [newIn_put, newIn_upd] at hb16
      simp -implicitDefEqProofs (disch := omega) only [go_sem, Int.reduceEq, Int.reduceLT, Int.reduceLE, Int.reduceToNat, Int.reduceNeg, Int.reduceAdd, Int.reduceSub, Nat.reduceEqDiff, Nat.reduceAdd, Nat.reduceMul, Nat.reduceLeDiff, Nat.reduceSub, ↓reduceIte, reduceCtorEq, Msg.av, Msg.cells, hb4, hb5, hb11, hb16]
      repeat (refine And.intro (by omega) ?_)
      refine hq _ _ _ (by simp only [pickL, lk_cons, Int.reduceEq, Int.reduceLT, Int.reduceLE, Int.reduceToNat, Int.reduceNeg, Int.reduceAdd, Int.reduceSub, Nat.reduceEqDiff, Nat.reduceAdd, Nat.reduceMul, Nat.reduceLeDiff, Nat.reduceSub, ↓reduceIte, reduceCtorEq, if_true, if_false]; exact rfl) ?_
      clear hq q
      repeat' (first | refine wpL_seq ?_ | refine wpL_skip ?_ | refine wpL_label ?_ | refine wpL_scope ?_)
      refine wpL_region' [0, 5, 16, 164] fun q hq => ?_
      simp -implicitDefEqProofs (disch := omega) only [go_sem, Int.reduceEq, Int.reduceLT, Int.reduceLE, Int.reduceToNat, Int.reduceNeg, Int.reduceAdd, Int.reduceSub, Nat.reduceEqDiff, Nat.reduceAdd, Nat.reduceMul, Nat.reduceLeDiff, Nat.reduceSub, ↓reduceIte, reduceCtorEq, hb4, hb5, hb11, hb16]
      repeat (refine And.intro (by omega) ?_)
      refine hq _ _ _ (by simp only [pickL, lk_cons, Int.reduceEq, Int.reduceLT, Int.reduceLE, Int.reduceToNat, Int.reduceNeg, Int.reduceAdd, Int.reduceSub, Nat.reduceEqDiff, Nat.reduceAdd, Nat.reduceMul, Nat.reduceLeDiff, Nat.reduceSub, ↓reduceIte, reduceCtorEq, if_true, if_false]; exact rfl) ?_
      clear hq q
      repeat' (first | refine wpL_seq ?_ | refine wpL_skip ?_ | refine wpL_label ?_ | refine wpL_scope ?_)
      refine wpL_condK rfl fun j10 hj10 ox10 => ?_
      have tail10 : j10 .normal (lk [(5, .rp m.cells 0), (16, .ptr b16 0)]) (Heap.emp.put b16 ⟨.own, r2.cells, 47, []⟩) := by
        refine hj10 _ _ ?_
        repeat' (first | refine wpL_seq ?_ | refine wpL_skip ?_ | refine wpL_label ?_ | refine wpL_scope ?_)
        refine wpL_region' [5, 16, 180] fun q hq => ?_
        simp -implicitDefEqProofs (disch := omega) only [go_sem, Int.reduceEq, Int.reduceLT, Int.reduceLE, Int.reduceToNat, Int.reduceNeg, Int.reduceAdd, Int.reduceSub, Nat.reduceEqDiff, Nat.reduceAdd, Nat.reduceMul, Nat.reduceLeDiff, Nat.reduceSub, ↓reduceIte, reduceCtorEq, Msg.cells, hb4, hb5, hb11, hb16]
        repeat (refine And.intro (by omega) ?_)
        refine gN_callP (f29_formed m hm) ?_
        simp -implicitDefEqProofs (disch := omega) only [go_sem, Int.reduceEq, Int.reduceLT, Int.reduceLE, Int.reduceToNat, Int.reduceNeg, Int.reduceAdd, Int.reduceSub, Nat.reduceEqDiff, Nat.reduceAdd, Nat.reduceMul, Nat.reduceLeDiff, Nat.reduceSub, ↓reduceIte, reduceCtorEq, Msg.cells, hb4, hb5, hb11, hb16]
        repeat (refine And.intro (by omega) ?_)
        refine hq _ _ _ (by simp only [pickL, lk_cons, Int.reduceEq, Int.reduceLT, Int.reduceLE, Int.reduceToNat, Int.reduceNeg, Int.reduceAdd, Int.reduceSub, Nat.reduceEqDiff, Nat.reduceAdd, Nat.reduceMul, Nat.reduceLeDiff, Nat.reduceSub, ↓reduceIte, reduceCtorEq, if_true, if_false]; exact rfl) ?_
        clear hq q
        repeat' (first | refine wpL_seq ?_ | refine wpL_skip ?_ | refine wpL_label ?_ | refine wpL_scope ?_)
        refine wpL_cond rfl (fun hc11 => ?_) (fun hc11 => ?_)
        · repeat' (first | refine wpL_seq ?_ | refine wpL_skip ?_ | refine wpL_label ?_ | refine wpL_scope ?_)
          refine wpL_region' [6] fun q hq => ?_
          simp -implicitDefEqProofs (disch := omega) only [go_sem, Int.reduceEq, Int.reduceLT, Int.reduceLE, Int.reduceToNat, Int.reduceNeg, Int.reduceAdd, Int.reduceSub, Nat.reduceEqDiff, Nat.reduceAdd, Nat.reduceMul, Nat.reduceLeDiff, Nat.reduceSub, ↓reduceIte, reduceCtorEq, hb4, hb5, hb11, hb16]
          repeat (refine And.intro (by omega) ?_)
          refine hq _ _ _ (by simp only [pickL, lk_cons, Int.reduceEq, Int.reduceLT, Int.reduceLE, Int.reduceToNat, Int.reduceNeg, Int.reduceAdd, Int.reduceSub, Nat.reduceEqDiff, Nat.reduceAdd, Nat.reduceMul, Nat.reduceLeDiff, Nat.reduceSub, ↓reduceIte, reduceCtorEq, if_true, if_false]; exact rfl) ?_
          clear hq q
          repeat' (first | refine wpL_seq ?_ | refine wpL_skip ?_ | refine wpL_label ?_ | refine wpL_scope ?_)
          refine wpL_ret (hK' _ _ _ _ (.inr rfl) (resTo (rs' := [.tmp 6]) rfl (by simp only [go_sem, Int.reduceEq, Int.reduceLT, Int.reduceLE, Int.reduceToNat, Int.reduceNeg, Int.reduceAdd, Int.reduceSub, Nat.reduceEqDiff, Nat.reduceAdd, Nat.reduceMul, Nat.reduceLeDiff, Nat.reduceSub, ↓reduceIte, reduceCtorEq, hb4, hb5, hb11, hb16]; exact rfl)) ?_)
          rfl
        simp at hc11
        have hml := Msg.ok_parts hc11
        have hrl := m.raw_len
        have eby : m.bytes = m.raw := by rw [Msg.bytes, if_pos hc11]
        have eer : m.err = 0 := by rw [Msg.err, if_pos hc11]
        have q28 := p28 m hm
        rw [eby, eer] at q28
        repeat' (first | refine wpL_seq ?_ | refine wpL_skip ?_ | refine wpL_label ?_ | refine wpL_scope ?_)
        refine wpL_region' [5, 10, 16, 19] fun q hq => ?_
        simp -implicitDefEqProofs (disch := omega) only [go_sem, Int.reduceEq, Int.reduceLT, Int.reduceLE, Int.reduceToNat, Int.reduceNeg, Int.reduceAdd, Int.reduceSub, Nat.reduceEqDiff, Nat.reduceAdd, Nat.reduceMul, Nat.reduceLeDiff, Nat.reduceSub, ↓reduceIte, reduceCtorEq, Msg.cells, hb4, hb5, hb11, hb16]
        repeat (refine And.intro (by omega) ?_)
        refine gN_callP (q28) ?_
        simp -implicitDefEqProofs (disch := omega) only [go_sem, Int.reduceEq, Int.reduceLT, Int.reduceLE, Int.reduceToNat, Int.reduceNeg, Int.reduceAdd, Int.reduceSub, Nat.reduceEqDiff, Nat.reduceAdd, Nat.reduceMul, Nat.reduceLeDiff, Nat.reduceSub, ↓reduceIte, reduceCtorEq, Msg.cells, hb4, hb5, hb11, hb16]
        repeat (refine And.intro (by omega) ?_)
        refine hq _ _ _ (by simp only [pickL, lk_cons, Int.reduceEq, Int.reduceLT, Int.reduceLE, Int.reduceToNat, Int.reduceNeg, Int.reduceAdd, Int.reduceSub, Nat.reduceEqDiff, Nat.reduceAdd, Nat.reduceMul, Nat.reduceLeDiff, Nat.reduceSub, ↓reduceIte, reduceCtorEq, if_true, if_false]; exact rfl) ?_
        clear hq q
        repeat' (first | refine wpL_seq ?_ | refine wpL_skip ?_ | refine wpL_label ?_ | refine wpL_scope ?_)
        refine wpL_regV [5, 16, 19] 192 (.bool false) (by simp only [pickL, put, lk_cons, Int.reduceEq, Int.reduceLT, Int.reduceLE, Int.reduceToNat, Int.reduceNeg, Int.reduceAdd, Int.reduceSub, Nat.reduceEqDiff, Nat.reduceAdd, Nat.reduceMul, Nat.reduceLeDiff, Nat.reduceSub, ↓reduceIte, reduceCtorEq, if_true, if_false]; exact rfl) (by decide) ?_ ?_
        · simp -implicitDefEqProofs (disch := omega) only [go_sem, Int.reduceEq, Int.reduceLT, Int.reduceLE, Int.reduceToNat, Int.reduceNeg, Int.reduceAdd, Int.reduceSub, Nat.reduceEqDiff, Nat.reduceAdd, Nat.reduceMul, Nat.reduceLeDiff, Nat.reduceSub, ↓reduceIte, reduceCtorEq, decide_true, eq_self, List.length_map, hb4, hb5, hb11, hb16]
          repeat' (first | (refine gN_split2 (fun hs => ?_) (fun hs => ?_) <;> simp -implicitDefEqProofs (disch := omega) only [go_sem, Int.reduceEq, Int.reduceLT, Int.reduceLE, Int.reduceToNat, Int.reduceNeg, Int.reduceAdd, Int.reduceSub, Nat.reduceEqDiff, Nat.reduceAdd, Nat.reduceMul, Nat.reduceLeDiff, Nat.reduceSub, ↓reduceIte, reduceCtorEq, hs, decide_true, eq_self, List.length_map, hb4, hb5, hb11, hb16]) | simp -implicitDefEqProofs (disch := omega) only [go_sem, Int.reduceEq, Int.reduceLT, Int.reduceLE, Int.reduceToNat, Int.reduceNeg, Int.reduceAdd, Int.reduceSub, Nat.reduceEqDiff, Nat.reduceAdd, Nat.reduceMul, Nat.reduceLeDiff, Nat.reduceSub, ↓reduceIte, reduceCtorEq, decide_true, eq_self, List.length_map, hb4, hb5, hb11, hb16] | refine And.intro (by omega) ?_)
          all_goals (try clear hK'; try clear hn1; try clear hx1; try clear ho1; try clear hn2; try clear hx2; try clear hn4; try clear hx4; try clear ho4; try clear hj8; try clear ox8; try clear hj9; try clear ox9; try clear hj10; try clear ox10)
          all_goals ((simp; omega))
        repeat' (first | refine wpL_seq ?_ | refine wpL_skip ?_ | refine wpL_label ?_ | refine wpL_scope ?_)
        refine wpL_cond rfl (fun hc12 => ?_) (fun hc12 => ?_)
        · cases hc12
        have q27' := p27 m.raw (by omega)
        rw [readM_back hm hc11] at q27'
        repeat' (first | refine wpL_seq ?_ | refine wpL_skip ?_ | refine wpL_label ?_ | refine wpL_scope ?_)
        refine wpL_region' [5, 10, 16] fun q hq => ?_
        simp -implicitDefEqProofs (disch := omega) only [go_sem, Int.reduceEq, Int.reduceLT, Int.reduceLE, Int.reduceToNat, Int.reduceNeg, Int.reduceAdd, Int.reduceSub, Nat.reduceEqDiff, Nat.reduceAdd, Nat.reduceMul, Nat.reduceLeDiff, Nat.reduceSub, ↓reduceIte, reduceCtorEq, Msg.cells, Msg.av, hb4, hb5, hb11, hb16]
        repeat (refine And.intro (by omega) ?_)
        refine gN_callP (q27') ?_
        simp -implicitDefEqProofs (disch := omega) only [go_sem, Int.reduceEq, Int.reduceLT, Int.reduceLE, Int.reduceToNat, Int.reduceNeg, Int.reduceAdd, Int.reduceSub, Nat.reduceEqDiff, Nat.reduceAdd, Nat.reduceMul, Nat.reduceLeDiff, Nat.reduceSub, ↓reduceIte, reduceCtorEq, Msg.cells, Msg.av, hb4, hb5, hb11, hb16]
        repeat (refine And.intro (by omega) ?_)
        refine hq _ _ _ (by simp only [pickL, lk_cons, Int.reduceEq, Int.reduceLT, Int.reduceLE, Int.reduceToNat, Int.reduceNeg, Int.reduceAdd, Int.reduceSub, Nat.reduceEqDiff, Nat.reduceAdd, Nat.reduceMul, Nat.reduceLeDiff, Nat.reduceSub, ↓reduceIte, reduceCtorEq, if_true, if_false]; exact rfl) ?_
        clear hq q
        repeat' (first | refine wpL_seq ?_ | refine wpL_skip ?_ | refine wpL_label ?_ | refine wpL_scope ?_)
        refine wpL_regV [] 6 (.bool true) (by simp only [pickL, put, lk_cons, Int.reduceEq, Int.reduceLT, Int.reduceLE, Int.reduceToNat, Int.reduceNeg, Int.reduceAdd, Int.reduceSub, Nat.reduceEqDiff, Nat.reduceAdd, Nat.reduceMul, Nat.reduceLeDiff, Nat.reduceSub, ↓reduceIte, reduceCtorEq, if_true, if_false]; exact rfl) (by decide) ?_ ?_
        · simp -implicitDefEqProofs (disch := omega) only [go_sem, Int.reduceEq, Int.reduceLT, Int.reduceLE, Int.reduceToNat, Int.reduceNeg, Int.reduceAdd, Int.reduceSub, Nat.reduceEqDiff, Nat.reduceAdd, Nat.reduceMul, Nat.reduceLeDiff, Nat.reduceSub, ↓reduceIte, reduceCtorEq, decide_true, eq_self, Msg.cells, hb4, hb5, hb11, hb16]
          repeat' (first | (refine gN_split2 (fun hs => ?_) (fun hs => ?_) <;> simp -implicitDefEqProofs (disch := omega) only [go_sem, Int.reduceEq, Int.reduceLT, Int.reduceLE, Int.reduceToNat, Int.reduceNeg, Int.reduceAdd, Int.reduceSub, Nat.reduceEqDiff, Nat.reduceAdd, Nat.reduceMul, Nat.reduceLeDiff, Nat.reduceSub, ↓reduceIte, reduceCtorEq, hs, decide_true, eq_self, Msg.cells, hb4, hb5, hb11, hb16]) | refine gN_callP (f30_same m (by have := hm.d; omega)) ?_ | simp -implicitDefEqProofs (disch := omega) only [go_sem, Int.reduceEq, Int.reduceLT, Int.reduceLE, Int.reduceToNat, Int.reduceNeg, Int.reduceAdd, Int.reduceSub, Nat.reduceEqDiff, Nat.reduceAdd, Nat.reduceMul, Nat.reduceLeDiff, Nat.reduceSub, ↓reduceIte, reduceCtorEq, decide_true, eq_self, Msg.cells, hb4, hb5, hb11, hb16] | refine And.intro (by omega) ?_)
          all_goals (try clear hK'; try clear hn1; try clear hx1; try clear ho1; try clear hn2; try clear hx2; try clear hn4; try clear hx4; try clear ho4; try clear hj8; try clear ox8; try clear hj9; try clear ox9; try clear hj10; try clear ox10)
          all_goals (simp)
        repeat' (first | refine wpL_seq ?_ | refine wpL_skip ?_ | refine wpL_label ?_ | refine wpL_scope ?_)
        refine wpL_ret (hK' _ _ _ _ (.inr rfl) (resTo (rs' := [.tmp 6]) rfl (by simp only [go_sem, Int.reduceEq, Int.reduceLT, Int.reduceLE, Int.reduceToNat, Int.reduceNeg, Int.reduceAdd, Int.reduceSub, Nat.reduceEqDiff, Nat.reduceAdd, Nat.reduceMul, Nat.reduceLeDiff, Nat.reduceSub, ↓reduceIte, reduceCtorEq, hb4, hb5, hb11, hb16]; exact rfl)) ?_)
        rfl
      refine ⟨fun hc10 => ?_, fun hc10 => ?_⟩
      · simp at hc10
        subst hc10
        obtain ⟨h1, h2⟩ := readM_ok hrm
        have hrr := Msg.ok_R (by omega) hrm
        have eby : r2.bytes = b := by rw [Msg.bytes, if_pos h1, h2]
        have eer : r2.err = 0 := by rw [Msg.err, if_pos h1]
        have q28 := p28 r2 hrr
        rw [eby, eer] at q28
        repeat' (first | refine wpL_seq ?_ | refine wpL_skip ?_ | refine wpL_label ?_ | refine wpL_scope ?_)
        refine wpL_region' [0, 5, 16, 17, 18] fun q hq => ?_
        simp -implicitDefEqProofs (disch := omega) only [go_sem, Int.reduceEq, Int.reduceLT, Int.reduceLE, Int.reduceToNat, Int.reduceNeg, Int.reduceAdd, Int.reduceSub, Nat.reduceEqDiff, Nat.reduceAdd, Nat.reduceMul, Nat.reduceLeDiff, Nat.reduceSub, ↓reduceIte, reduceCtorEq, Msg.cells, hb4, hb5, hb11, hb16]
        repeat (refine And.intro (by omega) ?_)
        refine gN_callP (q28) ?_
        simp -implicitDefEqProofs (disch := omega) only [go_sem, Int.reduceEq, Int.reduceLT, Int.reduceLE, Int.reduceToNat, Int.reduceNeg, Int.reduceAdd, Int.reduceSub, Nat.reduceEqDiff, Nat.reduceAdd, Nat.reduceMul, Nat.reduceLeDiff, Nat.reduceSub, ↓reduceIte, reduceCtorEq, Msg.cells, hb4, hb5, hb11, hb16]
        repeat (refine And.intro (by omega) ?_)
        refine hq _ _ _ (by simp only [pickL, lk_cons, Int.reduceEq, Int.reduceLT, Int.reduceLE, Int.reduceToNat, Int.reduceNeg, Int.reduceAdd, Int.reduceSub, Nat.reduceEqDiff, Nat.reduceAdd, Nat.reduceMul, Nat.reduceLeDiff, Nat.reduceSub, ↓reduceIte, reduceCtorEq, if_true, if_false]; exact rfl) ?_
        clear hq q
        repeat' (first | refine wpL_seq ?_ | refine wpL_skip ?_ | refine wpL_label ?_ | refine wpL_scope ?_)
        refine wpL_regV [5, 16] 177 (.bool false) (by simp only [pickL, put, lk_cons, Int.reduceEq, Int.reduceLT, Int.reduceLE, Int.reduceToNat, Int.reduceNeg, Int.reduceAdd, Int.reduceSub, Nat.reduceEqDiff, Nat.reduceAdd, Nat.reduceMul, Nat.reduceLeDiff, Nat.reduceSub, ↓reduceIte, reduceCtorEq, if_true, if_false]; exact rfl) (by decide) ?_ ?_
        · simp -implicitDefEqProofs (disch := omega) only [go_sem, Int.reduceEq, Int.reduceLT, Int.reduceLE, Int.reduceToNat, Int.reduceNeg, Int.reduceAdd, Int.reduceSub, Nat.reduceEqDiff, Nat.reduceAdd, Nat.reduceMul, Nat.reduceLeDiff, Nat.reduceSub, ↓reduceIte, reduceCtorEq, decide_true, eq_self, hb4, hb5, hb11, hb16]
          repeat' (first | (refine gN_split2 (fun hs => ?_) (fun hs => ?_) <;> simp -implicitDefEqProofs (disch := omega) only [go_sem, Int.reduceEq, Int.reduceLT, Int.reduceLE, Int.reduceToNat, Int.reduceNeg, Int.reduceAdd, Int.reduceSub, Nat.reduceEqDiff, Nat.reduceAdd, Nat.reduceMul, Nat.reduceLeDiff, Nat.reduceSub, ↓reduceIte, reduceCtorEq, hs, decide_true, eq_self, hb4, hb5, hb11, hb16]) | refine gN_callP (f17_bytes b b (by omega) (by omega)) ?_ | simp -implicitDefEqProofs (disch := omega) only [go_sem, Int.reduceEq, Int.reduceLT, Int.reduceLE, Int.reduceToNat, Int.reduceNeg, Int.reduceAdd, Int.reduceSub, Nat.reduceEqDiff, Nat.reduceAdd, Nat.reduceMul, Nat.reduceLeDiff, Nat.reduceSub, ↓reduceIte, reduceCtorEq, decide_true, eq_self, hb4, hb5, hb11, hb16] | refine And.intro (by omega) ?_)
          all_goals (try clear hK'; try clear hn1; try clear hx1; try clear ho1; try clear hn2; try clear hx2; try clear hn4; try clear hx4; try clear ho4; try clear hj8; try clear ox8; try clear hj9; try clear ox9; try clear hj10; try clear ox10)
          all_goals (simp_all)
        repeat' (first | refine wpL_seq ?_ | refine wpL_skip ?_ | refine wpL_label ?_ | refine wpL_scope ?_)
        refine wpL_cond rfl (fun hc13 => ?_) (fun hc13 => ?_)
        · cases hc13
        refine wpL_pick' [5, 16] (by simp only [pickL, lk_cons, Int.reduceEq, Int.reduceLT, Int.reduceLE, Int.reduceToNat, Int.reduceNeg, Int.reduceAdd, Int.reduceSub, Nat.reduceEqDiff, Nat.reduceAdd, Nat.reduceMul, Nat.reduceLeDiff, Nat.reduceSub, ↓reduceIte, reduceCtorEq, if_true, if_false]; exact rfl) ?_
        repeat' (first | refine wpL_seq ?_ | refine wpL_skip ?_ | refine wpL_label ?_ | refine wpL_scope ?_)
        repeat' (first | refine wpL_seq ?_ | refine wpL_skip ?_ | refine wpL_label ?_ | refine wpL_scope ?_)
        exact wpL_nil tail10
      · refine wpL_pick' [5, 16] (by simp only [pickL, lk_cons, Int.reduceEq, Int.reduceLT, Int.reduceLE, Int.reduceToNat, Int.reduceNeg, Int.reduceAdd, Int.reduceSub, Nat.reduceEqDiff, Nat.reduceAdd, Nat.reduceMul, Nat.reduceLeDiff, Nat.reduceSub, ↓reduceIte, reduceCtorEq, if_true, if_false]; exact rfl) ?_
        repeat' (first | refine wpL_seq ?_ | refine wpL_skip ?_ | refine wpL_label ?_ | refine wpL_scope ?_)
        repeat' (first | refine wpL_seq ?_ | refine wpL_skip ?_ | refine wpL_label ?_ | refine wpL_scope ?_)
        exact wpL_nil tail10
    refine ⟨fun hc9 => ?_, fun hc9 => ?_⟩
    · simp at hc9
      have hok : f.ok = true := by
        false_or_by_contra
        rename_i h
        simp [Fr.err, h] at hc9
      have hS3 := stuff_len f.inner
      have hS4 := stuff_ge f.inner
      have hil := f.inner_len
      have eby : f.bytes = 126 :: (stuff f.inner ++ [126]) := by rw [Fr.bytes, if_pos hok]
      have eer : f.err = 0 := hc9
      have hdl : f.data.length ≤ 256 := (f.ok_iff.1 hok).2.2.2.1
      have q23 := p23 f hf
      obtain ⟨X, hX, hXl, hX0, hX1, hXm⟩ := mid_ex (stuff f.inner)
      rw [eby, eer, ← hX] at q23
      repeat' (first | refine wpL_seq ?_ | refine wpL_skip ?_ | refine wpL_label ?_ | refine wpL_scope ?_)
      refine wpL_region' [0, 4, 5, 11, 14, 15] fun q hq => ?_
      simp -implicitDefEqProofs (disch := omega) only [go_sem, Int.reduceEq, Int.reduceLT, Int.reduceLE, Int.reduceToNat, Int.reduceNeg, Int.reduceAdd, Int.reduceSub, Nat.reduceEqDiff, Nat.reduceAdd, Nat.reduceMul, Nat.reduceLeDiff, Nat.reduceSub, ↓reduceIte, reduceCtorEq, Fr.cells, hb4, hb5, hb11]
      repeat (refine And.intro (by omega) ?_)
      refine gN_callP (q23) ?_
      simp -implicitDefEqProofs (disch := omega) only [go_sem, Int.reduceEq, Int.reduceLT, Int.reduceLE, Int.reduceToNat, Int.reduceNeg, Int.reduceAdd, Int.reduceSub, Nat.reduceEqDiff, Nat.reduceAdd, Nat.reduceMul, Nat.reduceLeDiff, Nat.reduceSub, ↓reduceIte, reduceCtorEq, Fr.cells, hb4, hb5, hb11]
      repeat (refine And.intro (by omega) ?_)
      refine hq _ _ _ (by simp only [pickL, lk_cons, Int.reduceEq, Int.reduceLT, Int.reduceLE, Int.reduceToNat, Int.reduceNeg, Int.reduceAdd, Int.reduceSub, Nat.reduceEqDiff, Nat.reduceAdd, Nat.reduceMul, Nat.reduceLeDiff, Nat.reduceSub, ↓reduceIte, reduceCtorEq, if_true, if_false]; exact rfl) ?_
      clear hq q
      repeat' (first | refine wpL_seq ?_ | refine wpL_skip ?_ | refine wpL_label ?_ | refine wpL_scope ?_)
      refine wpL_regV [0, 4, 5, 11, 14] 140 (.bool false) (by simp only [pickL, put, lk_cons, Int.reduceEq, Int.reduceLT, Int.reduceLE, Int.reduceToNat, Int.reduceNeg, Int.reduceAdd, Int.reduceSub, Nat.reduceEqDiff, Nat.reduceAdd, Nat.reduceMul, Nat.reduceLeDiff, Nat.reduceSub, ↓reduceIte, reduceCtorEq, if_true, if_false]; exact rfl) (by decide) ?_ ?_
      · simp -implicitDefEqProofs (disch := omega) only [go_sem, Int.reduceEq, Int.reduceLT, Int.reduceLE, Int.reduceToNat, Int.reduceNeg, Int.reduceAdd, Int.reduceSub, Nat.reduceEqDiff, Nat.reduceAdd, Nat.reduceMul, Nat.reduceLeDiff, Nat.reduceSub, ↓reduceIte, reduceCtorEq, decide_true, eq_self, List.length_map, hXl, hX0, hX1, by1, mid_sub, mid_sub1, u126, hb4, hb5, hb11]
        repeat' (first | (refine gN_split2 (fun hs => ?_) (fun hs => ?_) <;> simp -implicitDefEqProofs (disch := omega) only [go_sem, Int.reduceEq, Int.reduceLT, Int.reduceLE, Int.reduceToNat, Int.reduceNeg, Int.reduceAdd, Int.reduceSub, Nat.reduceEqDiff, Nat.reduceAdd, Nat.reduceMul, Nat.reduceLeDiff, Nat.reduceSub, ↓reduceIte, reduceCtorEq, hs, decide_true, eq_self, List.length_map, hXl, hX0, hX1, by1, mid_sub, mid_sub1, u126, hb4, hb5, hb11]) | simp -implicitDefEqProofs (disch := omega) only [go_sem, Int.reduceEq, Int.reduceLT, Int.reduceLE, Int.reduceToNat, Int.reduceNeg, Int.reduceAdd, Int.reduceSub, Nat.reduceEqDiff, Nat.reduceAdd, Nat.reduceMul, Nat.reduceLeDiff, Nat.reduceSub, ↓reduceIte, reduceCtorEq, decide_true, eq_self, List.length_map, hXl, hX0, hX1, by1, mid_sub, mid_sub1, u126, hb4, hb5, hb11] | refine And.intro (by omega) ?_)
        all_goals (try clear hK'; try clear hn1; try clear hx1; try clear ho1; try clear hn2; try clear hx2; try clear hn4; try clear hx4; try clear ho4; try clear hj8; try clear ox8; try clear hj9; try clear ox9; try clear hj10; try clear ox10)
        all_goals ((first | omega | (exfalso; simp at hs; omega) | (simp; done) | (exfalso; simp at hs; done)))
      repeat' (first | refine wpL_seq ?_ | refine wpL_skip ?_ | refine wpL_label ?_ | refine wpL_scope ?_)
      refine wpL_cond rfl (fun hc14 => ?_) (fun hc14 => ?_)
      · cases hc14
      have q25' := p25 (stuff f.inner) (by omega)
      rw [readF_back hok] at q25'
      repeat' (first | refine wpL_seq ?_ | refine wpL_skip ?_ | refine wpL_label ?_ | refine wpL_scope ?_)
      refine wpL_region' [0, 4, 5, 11, 15] fun q hq => ?_
      simp -implicitDefEqProofs (disch := omega) only [go_sem, Int.reduceEq, Int.reduceLT, Int.reduceLE, Int.reduceToNat, Int.reduceNeg, Int.reduceAdd, Int.reduceSub, Nat.reduceEqDiff, Nat.reduceAdd, Nat.reduceMul, Nat.reduceLeDiff, Nat.reduceSub, ↓reduceIte, reduceCtorEq, Fr.cells, Fr.av, List.length_map, hXl, hXm, mid_sub, mid_sub1, hb4, hb5, hb11]
      repeat (refine And.intro (by omega) ?_)
      refine gN_callP (q25') ?_
      simp -implicitDefEqProofs (disch := omega) only [go_sem, Int.reduceEq, Int.reduceLT, Int.reduceLE, Int.reduceToNat, Int.reduceNeg, Int.reduceAdd, Int.reduceSub, Nat.reduceEqDiff, Nat.reduceAdd, Nat.reduceMul, Nat.reduceLeDiff, Nat.reduceSub, ↓reduceIte, reduceCtorEq, Fr.cells, Fr.av, List.length_map, hXl, hXm, mid_sub, mid_sub1, hb4, hb5, hb11]
      repeat (refine And.intro (by omega) ?_)
      refine hq _ _ _ (by simp only [pickL, lk_cons, Int.reduceEq, Int.reduceLT, Int.reduceLE, Int.reduceToNat, Int.reduceNeg, Int.reduceAdd, Int.reduceSub, Nat.reduceEqDiff, Nat.reduceAdd, Nat.reduceMul, Nat.reduceLeDiff, Nat.reduceSub, ↓reduceIte, reduceCtorEq, if_true, if_false]; exact rfl) ?_
      clear hq q
      repeat' (first | refine wpL_seq ?_ | refine wpL_skip ?_ | refine wpL_label ?_ | refine wpL_scope ?_)
      refine wpL_regV [0, 5] 157 (.bool false) (by simp only [pickL, put, lk_cons, Int.reduceEq, Int.reduceLT, Int.reduceLE, Int.reduceToNat, Int.reduceNeg, Int.reduceAdd, Int.reduceSub, Nat.reduceEqDiff, Nat.reduceAdd, Nat.reduceMul, Nat.reduceLeDiff, Nat.reduceSub, ↓reduceIte, reduceCtorEq, if_true, if_false]; exact rfl) (by decide) ?_ ?_
      · simp -implicitDefEqProofs (disch := omega) only [go_sem, Int.reduceEq, Int.reduceLT, Int.reduceLE, Int.reduceToNat, Int.reduceNeg, Int.reduceAdd, Int.reduceSub, Nat.reduceEqDiff, Nat.reduceAdd, Nat.reduceMul, Nat.reduceLeDiff, Nat.reduceSub, ↓reduceIte, reduceCtorEq, decide_true, eq_self, Fr.cells, hb4, hb5, hb11]
        repeat' (first | (refine gN_split2 (fun hs => ?_) (fun hs => ?_) <;> simp -implicitDefEqProofs (disch := omega) only [go_sem, Int.reduceEq, Int.reduceLT, Int.reduceLE, Int.reduceToNat, Int.reduceNeg, Int.reduceAdd, Int.reduceSub, Nat.reduceEqDiff, Nat.reduceAdd, Nat.reduceMul, Nat.reduceLeDiff, Nat.reduceSub, ↓reduceIte, reduceCtorEq, hs, decide_true, eq_self, Fr.cells, hb4, hb5, hb11]) | refine gN_callP (f26_same f (by omega)) ?_ | simp -implicitDefEqProofs (disch := omega) only [go_sem, Int.reduceEq, Int.reduceLT, Int.reduceLE, Int.reduceToNat, Int.reduceNeg, Int.reduceAdd, Int.reduceSub, Nat.reduceEqDiff, Nat.reduceAdd, Nat.reduceMul, Nat.reduceLeDiff, Nat.reduceSub, ↓reduceIte, reduceCtorEq, decide_true, eq_self, Fr.cells, hb4, hb5, hb11] | refine And.intro (by omega) ?_)
        all_goals (try clear hK'; try clear hn1; try clear hx1; try clear ho1; try clear hn2; try clear hx2; try clear hn4; try clear hx4; try clear ho4; try clear hj8; try clear ox8; try clear hj9; try clear ox9; try clear hj10; try clear ox10)
        all_goals (simp_all)
      repeat' (first | refine wpL_seq ?_ | refine wpL_skip ?_ | refine wpL_label ?_ | refine wpL_scope ?_)
      refine wpL_cond rfl (fun hc15 => ?_) (fun hc15 => ?_)
      · cases hc15
      refine wpL_del' b11 (by simp only [go_sem, hb4, hb5, hb11]; exact rfl) ?_
      refine wpL_pick' [0, 5] (by simp only [pickL, lk_cons, Int.reduceEq, Int.reduceLT, Int.reduceLE, Int.reduceToNat, Int.reduceNeg, Int.reduceAdd, Int.reduceSub, Nat.reduceEqDiff, Nat.reduceAdd, Nat.reduceMul, Nat.reduceLeDiff, Nat.reduceSub, ↓reduceIte, reduceCtorEq, if_true, if_false]; exact rfl) ?_
      repeat' (first | refine wpL_seq ?_ | refine wpL_skip ?_ | refine wpL_label ?_ | refine wpL_scope ?_)
      repeat' (first | refine wpL_seq ?_ | refine wpL_skip ?_ | refine wpL_label ?_ | refine wpL_scope ?_)
      exact wpL_nil tail9
    · refine wpL_del' b11 (by simp only [go_sem, hb4, hb5, hb11]; exact rfl) ?_
      refine wpL_pick' [0, 5] (by simp only [pickL, lk_cons, Int.reduceEq, Int.reduceLT, Int.reduceLE, Int.reduceToNat, Int.reduceNeg, Int.reduceAdd, Int.reduceSub, Nat.reduceEqDiff, Nat.reduceAdd, Nat.reduceMul, Nat.reduceLeDiff, Nat.reduceSub, ↓reduceIte, reduceCtorEq, if_true, if_false]; exact rfl) ?_
      repeat' (first | refine wpL_seq ?_ | refine wpL_skip ?_ | refine wpL_label ?_ | refine wpL_scope ?_)
      repeat' (first | refine wpL_seq ?_ | refine wpL_skip ?_ | refine wpL_label ?_ | refine wpL_scope ?_)
      exact wpL_nil tail9
  refine ⟨fun hc8 => ?_, fun hc8 => ?_⟩
  · simp at hc8
    subst hc8
    obtain ⟨h1, h2⟩ := readF_ok hrf
    have q23 := p23 r (Fr.ok_R h1)
    have eer : r.err = 0 := by rw [Fr.err, if_pos h1]
    obtain ⟨X, hX, hXl, hX0, hX1, hXm⟩ := mid_ex b
    rw [h2, eer, ← hX] at q23
    repeat' (first | refine wpL_seq ?_ | refine wpL_skip ?_ | refine wpL_label ?_ | refine wpL_scope ?_)
    refine wpL_region' [0, 4, 5, 11, 12, 13] fun q hq => ?_
    simp -implicitDefEqProofs (disch := omega) only [go_sem, Int.reduceEq, Int.reduceLT, Int.reduceLE, Int.reduceToNat, Int.reduceNeg, Int.reduceAdd, Int.reduceSub, Nat.reduceEqDiff, Nat.reduceAdd, Nat.reduceMul, Nat.reduceLeDiff, Nat.reduceSub, ↓reduceIte, reduceCtorEq, Fr.cells, hb4, hb5, hb11]
    repeat (refine And.intro (by omega) ?_)
    refine gN_callP (q23) ?_
    simp -implicitDefEqProofs (disch := omega) only [go_sem, Int.reduceEq, Int.reduceLT, Int.reduceLE, Int.reduceToNat, Int.reduceNeg, Int.reduceAdd, Int.reduceSub, Nat.reduceEqDiff, Nat.reduceAdd, Nat.reduceMul, Nat.reduceLeDiff, Nat.reduceSub, ↓reduceIte, reduceCtorEq, Fr.cells, hb4, hb5, hb11]
    repeat (refine And.intro (by omega) ?_)
    refine hq _ _ _ (by simp only [pickL, lk_cons, Int.reduceEq, Int.reduceLT, Int.reduceLE, Int.reduceToNat, Int.reduceNeg, Int.reduceAdd, Int.reduceSub, Nat.reduceEqDiff, Nat.reduceAdd, Nat.reduceMul, Nat.reduceLeDiff, Nat.reduceSub, ↓reduceIte, reduceCtorEq, if_true, if_false]; exact rfl) ?_
    clear hq q
    repeat' (first | refine wpL_seq ?_ | refine wpL_skip ?_ | refine wpL_label ?_ | refine wpL_scope ?_)
    refine wpL_regV [0, 4, 5, 11] 106 (.bool false) (by simp only [pickL, put, lk_cons, Int.reduceEq, Int.reduceLT, Int.reduceLE, Int.reduceToNat, Int.reduceNeg, Int.reduceAdd, Int.reduceSub, Nat.reduceEqDiff, Nat.reduceAdd, Nat.reduceMul, Nat.reduceLeDiff, Nat.reduceSub, ↓reduceIte, reduceCtorEq, if_true, if_false]; exact rfl) (by decide) ?_ ?_
    · simp -implicitDefEqProofs (disch := omega) only [go_sem, Int.reduceEq, Int.reduceLT, Int.reduceLE, Int.reduceToNat, Int.reduceNeg, Int.reduceAdd, Int.reduceSub, Nat.reduceEqDiff, Nat.reduceAdd, Nat.reduceMul, Nat.reduceLeDiff, Nat.reduceSub, ↓reduceIte, reduceCtorEq, decide_true, eq_self, List.length_map, hXl, hX0, hX1, hXm, by1, mid_sub, mid_sub1, u126, hb4, hb5, hb11]
      repeat' (first | (refine gN_split2 (fun hs => ?_) (fun hs => ?_) <;> simp -implicitDefEqProofs (disch := omega) only [go_sem, Int.reduceEq, Int.reduceLT, Int.reduceLE, Int.reduceToNat, Int.reduceNeg, Int.reduceAdd, Int.reduceSub, Nat.reduceEqDiff, Nat.reduceAdd, Nat.reduceMul, Nat.reduceLeDiff, Nat.reduceSub, ↓reduceIte, reduceCtorEq, hs, decide_true, eq_self, List.length_map, hXl, hX0, hX1, hXm, by1, mid_sub, mid_sub1, u126, hb4, hb5, hb11]) | refine gN_callP (f17_bytes b b (by omega) (by omega)) ?_ | simp -implicitDefEqProofs (disch := omega) only [go_sem, Int.reduceEq, Int.reduceLT, Int.reduceLE, Int.reduceToNat, Int.reduceNeg, Int.reduceAdd, Int.reduceSub, Nat.reduceEqDiff, Nat.reduceAdd, Nat.reduceMul, Nat.reduceLeDiff, Nat.reduceSub, ↓reduceIte, reduceCtorEq, decide_true, eq_self, List.length_map, hXl, hX0, hX1, hXm, by1, mid_sub, mid_sub1, u126, hb4, hb5, hb11] | refine And.intro (by omega) ?_)
      all_goals (try clear hK'; try clear hn1; try clear hx1; try clear ho1; try clear hn2; try clear hx2; try clear hn4; try clear hx4; try clear ho4; try clear hj8; try clear ox8; try clear hj9; try clear ox9; try clear hj10; try clear ox10)
      all_goals ((first | omega | (exfalso; simp at hs; omega) | (simp; done) | (exfalso; simp at hs; done)))
    repeat' (first | refine wpL_seq ?_ | refine wpL_skip ?_ | refine wpL_label ?_ | refine wpL_scope ?_)
    refine wpL_cond rfl (fun hc16 => ?_) (fun hc16 => ?_)
    · cases hc16
    refine wpL_pick' [0, 4, 5, 11] (by simp only [pickL, lk_cons, Int.reduceEq, Int.reduceLT, Int.reduceLE, Int.reduceToNat, Int.reduceNeg, Int.reduceAdd, Int.reduceSub, Nat.reduceEqDiff, Nat.reduceAdd, Nat.reduceMul, Nat.reduceLeDiff, Nat.reduceSub, ↓reduceIte, reduceCtorEq, if_true, if_false]; exact rfl) ?_
    repeat' (first | refine wpL_seq ?_ | refine wpL_skip ?_ | refine wpL_label ?_ | refine wpL_scope ?_)
    repeat' (first | refine wpL_seq ?_ | refine wpL_skip ?_ | refine wpL_label ?_ | refine wpL_scope ?_)
    exact wpL_nil tail8
  · refine wpL_pick' [0, 4, 5, 11] (by simp only [pickL, lk_cons, Int.reduceEq, Int.reduceLT, Int.reduceLE, Int.reduceToNat, Int.reduceNeg, Int.reduceAdd, Int.reduceSub, Nat.reduceEqDiff, Nat.reduceAdd, Nat.reduceMul, Nat.reduceLeDiff, Nat.reduceSub, ↓reduceIte, reduceCtorEq, if_true, if_false]; exact rfl) ?_
    repeat' (first | refine wpL_seq ?_ | refine wpL_skip ?_ | refine wpL_label ?_ | refine wpL_scope ?_)
    repeat' (first | refine wpL_seq ?_ | refine wpL_skip ?_ | refine wpL_label ?_ | refine wpL_scope ?_)
    exact wpL_nil tail8
end Go.Proofs.YtindglcpailjgaaDoor.Am.W
