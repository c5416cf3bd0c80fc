/- The law HeadsStep answers true. -/
import Derived.Test.YtdchdlabdokjnaaH42
import Derived.Test.YtdchdlabdokjnaaH26
namespace Go.Proofs.Ytdchdlabdokjnaa.Am.H
set_option linter.unusedSectionVars false
open Go Go.Proofs Am
set_option linter.unusedVariables false
set_option linter.unusedSimpArgs false
set_option maxRecDepth 100000
attribute [local irreducible] gO gN gW gdO

theorem f33_ownB (t : Tables) (hs : SmallT t) (hok : ¬ t.ok = true) : wpH Try.prog 33 [t.av] Heap.emp
    (OwnF3 (fun a b c => .tup [.agg [.sl a 0 0 1, .sl b 0 0 1, .sl c 0 0 1], .int .i64 70]) [] 3 [] 21 [] 21) := by
  have h1 := hs.g
  have h2 := hs.c
  have hok' : t.ok = false := by simpa using hok
  have q43 := f43_grid t (by omega) (by omega)
  rw [hok'] at q43
  refine wpH.le ?_
  refine wpH_intro (fn := Try.f33) rfl rfl (by decide) (by kernel_rfl) fun K' hK' => ?_
  repeat' (first | refine wpL_seq ?_ | refine wpL_skip ?_ | refine wpL_label ?_ | refine wpL_scope ?_)
  refine wpL_region' [1, 2] fun q hq => ?_
  simp -implicitDefEqProofs (disch := omega) only [go_sem, Int.reduceEq, Int.reduceLT, Int.reduceLE, Int.reduceToNat, Int.reduceNeg, Int.reduceAdd, Int.reduceSub, Nat.reduceEqDiff, Nat.reduceAdd, Nat.reduceMul, Nat.reduceLeDiff, Nat.reduceSub, ↓reduceIte, reduceCtorEq, Tables.av, Tables.cells]
  repeat (refine And.intro (by omega) ?_)
  refine gN_new fun b1 hb1 => ?_
  try simp only [newIn_put, newIn_upd] at hb1
  simp -implicitDefEqProofs (disch := omega) only [go_sem, Int.reduceEq, Int.reduceLT, Int.reduceLE, Int.reduceToNat, Int.reduceNeg, Int.reduceAdd, Int.reduceSub, Nat.reduceEqDiff, Nat.reduceAdd, Nat.reduceMul, Nat.reduceLeDiff, Nat.reduceSub, ↓reduceIte, reduceCtorEq, Tables.av, Tables.cells, hb1]
  repeat (refine And.intro (by omega) ?_)
  refine gN_new fun b2 hb2 => ?_
  try simp only [newIn_put, newIn_upd] at hb2
  simp -implicitDefEqProofs (disch := omega) only [go_sem, Int.reduceEq, Int.reduceLT, Int.reduceLE, Int.reduceToNat, Int.reduceNeg, Int.reduceAdd, Int.reduceSub, Nat.reduceEqDiff, Nat.reduceAdd, Nat.reduceMul, Nat.reduceLeDiff, Nat.reduceSub, ↓reduceIte, reduceCtorEq, Tables.av, Tables.cells, hb1, hb2]
  repeat (refine And.intro (by omega) ?_)
  refine hq _ _ _ (by simp only [pickL, lk_cons, Nat.reduceEqDiff, ↓reduceIte]; exact rfl) ?_
  clear hq q
  refine wpL_frzP' 1 rfl (by simp only [go_sem, hb1, hb1, hb2]; exact rfl) rfl (by simp only [go_sem, Int.reduceEq, Int.reduceLT, Int.reduceLE, Int.reduceToNat, Int.reduceNeg, Int.reduceAdd, Int.reduceSub, Nat.reduceEqDiff, Nat.reduceAdd, Nat.reduceMul, Nat.reduceLeDiff, Nat.reduceSub, ↓reduceIte, reduceCtorEq]; exact rfl) (by simp only [go_sem, hb1, hb1, hb2]; exact rfl) ?_
  repeat' (first | refine wpL_seq ?_ | refine wpL_skip ?_ | refine wpL_label ?_ | refine wpL_scope ?_)
  refine wpL_region' [1, 2, 9] fun q hq => ?_
  simp -implicitDefEqProofs (disch := omega) only [go_sem, Int.reduceEq, Int.reduceLT, Int.reduceLE, Int.reduceToNat, Int.reduceNeg, Int.reduceAdd, Int.reduceSub, Nat.reduceEqDiff, Nat.reduceAdd, Nat.reduceMul, Nat.reduceLeDiff, Nat.reduceSub, ↓reduceIte, reduceCtorEq, hb2, hb1, hb2]
  repeat (refine And.intro (by omega) ?_)
  refine gN_callP (q43) ?_
  simp -implicitDefEqProofs (disch := omega) only [go_sem, Int.reduceEq, Int.reduceLT, Int.reduceLE, Int.reduceToNat, Int.reduceNeg, Int.reduceAdd, Int.reduceSub, Nat.reduceEqDiff, Nat.reduceAdd, Nat.reduceMul, Nat.reduceLeDiff, Nat.reduceSub, ↓reduceIte, reduceCtorEq, hb2, hb1, hb2]
  repeat (refine And.intro (by omega) ?_)
  refine hq _ _ _ (by simp only [pickL, lk_cons, Nat.reduceEqDiff, ↓reduceIte]; exact rfl) ?_
  clear hq q
  repeat' (first | refine wpL_seq ?_ | refine wpL_skip ?_ | refine wpL_label ?_ | refine wpL_scope ?_)
  refine wpL_cond rfl (fun hcx => ?_) (fun hcx => ?_)
  · repeat' (first | refine wpL_seq ?_ | refine wpL_skip ?_ | refine wpL_label ?_ | refine wpL_scope ?_)
    refine wpL_region' [2, 3] fun q hq => ?_
    simp -implicitDefEqProofs (disch := omega) only [go_sem, Int.reduceEq, Int.reduceLT, Int.reduceLE, Int.reduceToNat, Int.reduceNeg, Int.reduceAdd, Int.reduceSub, Nat.reduceEqDiff, Nat.reduceAdd, Nat.reduceMul, Nat.reduceLeDiff, Nat.reduceSub, ↓reduceIte, reduceCtorEq, hb2, hb1, hb2]
    repeat (refine And.intro (by omega) ?_)
    refine hq _ _ _ (by simp only [pickL, lk_cons, Nat.reduceEqDiff, ↓reduceIte]; exact rfl) ?_
    clear hq q
    refine wpL_vecC b2 0 1 3 (k := ⟨.own, [.snil, .snil, .snil], 29, []⟩) (by simp only [go_sem, hb2]) rfl fun a0 ha0 => ?_
    simp only [go_sem, hb2, List.set_cons_zero, List.set_cons_succ] at ha0 ⊢
    refine wpL_vecC b2 1 1 21 (k := ⟨.own, [.sl a0 0 0 1, .snil, .snil], 29, []⟩) (by simp only [go_sem, hb2, ha0]) rfl fun c0 hc0 => ?_
    simp only [go_sem, hb2, ha0, List.set_cons_zero, List.set_cons_succ] at hc0 ⊢
    refine wpL_vecC b2 2 1 21 (k := ⟨.own, [.sl a0 0 0 1, .sl c0 0 0 1, .snil], 29, []⟩) (by simp only [go_sem, hb2, ha0, hc0]) rfl fun d0 hd0 => ?_
    simp only [go_sem, hb2, ha0, hc0, List.set_cons_zero, List.set_cons_succ] at hd0 ⊢
    repeat' (first | refine wpL_seq ?_ | refine wpL_skip ?_ | refine wpL_label ?_ | refine wpL_scope ?_)
    refine wpL_ret (hK' _ _ _ _ (.inr rfl) (resTo (rs' := [.cell 2 29, .tmp 3]) rfl (by simp only [go_sem, Int.reduceEq, Int.reduceLT, Int.reduceLE, Int.reduceToNat, Int.reduceNeg, Int.reduceAdd, Int.reduceSub, Nat.reduceEqDiff, Nat.reduceAdd, Nat.reduceMul, Nat.reduceLeDiff, Nat.reduceSub, ↓reduceIte, reduceCtorEq, hb2, ha0, hc0, hd0, hb1, hb2]; exact rfl)) ?_)
    exact ⟨_, le3 (a := a0) (b := c0) (c := d0) (by simp only [go_sem, hb2, ha0, hc0, hd0] <;> exact rfl) (by simp only [go_sem, hb2, ha0, hc0, hd0] <;> exact rfl) (by simp only [go_sem, hb2, ha0, hc0, hd0] <;> exact rfl), a0, c0, d0, rfl, by simp only [go_sem, hb2, ha0, hc0, hd0], by simp only [go_sem, hb2, ha0, hc0], rfl⟩
  · cases hcx
theorem f30_ownB (t : Tables) (h : Hd) (w : BitVec 64) (ht : SmallT t) (hh : SmallH h) (hI : I32 h) (hso : ¬ sound t h = true) : wpH Try.prog 30 [t.av, h.av, .int .u64 w.toNat] Heap.emp
    (OwnF3 (fun a b c => .tup [.agg [.sl a 0 0 1, .sl b 0 0 1, .sl c 0 0 1], .int .i64 (if t.ok = true then 71 else 70)]) [] 3 [] 21 [] 21) := by
  have hsm := small_of ht hh hI
  refine wpH.le ?_
  refine wpH_intro (fn := Try.f30) rfl rfl (by decide) (by kernel_rfl) fun K' hK' => ?_
  repeat' (first | refine wpL_seq ?_ | refine wpL_skip ?_ | refine wpL_label ?_ | refine wpL_scope ?_)
  refine wpL_region' [2, 3, 4, 6] fun q hq => ?_
  simp -implicitDefEqProofs (disch := omega) only [go_sem, Int.reduceEq, Int.reduceLT, Int.reduceLE, Int.reduceToNat, Int.reduceNeg, Int.reduceAdd, Int.reduceSub, Nat.reduceEqDiff, Nat.reduceAdd, Nat.reduceMul, Nat.reduceLeDiff, Nat.reduceSub, ↓reduceIte, reduceCtorEq, Tables.av, Tables.cells, Hd.av, Hd.cells]
  repeat (refine And.intro (by omega) ?_)
  refine gN_new fun b3 hb3 => ?_
  try simp only [newIn_put, newIn_upd] at hb3
  simp -implicitDefEqProofs (disch := omega) only [go_sem, Int.reduceEq, Int.reduceLT, Int.reduceLE, Int.reduceToNat, Int.reduceNeg, Int.reduceAdd, Int.reduceSub, Nat.reduceEqDiff, Nat.reduceAdd, Nat.reduceMul, Nat.reduceLeDiff, Nat.reduceSub, ↓reduceIte, reduceCtorEq, Tables.av, Tables.cells, Hd.av, Hd.cells, hb3]
  repeat (refine And.intro (by omega) ?_)
  refine gN_new fun b4 hb4 => ?_
  try simp only [newIn_put, newIn_upd] at hb4
  simp -implicitDefEqProofs (disch := omega) only [go_sem, Int.reduceEq, Int.reduceLT, Int.reduceLE, Int.reduceToNat, Int.reduceNeg, Int.reduceAdd, Int.reduceSub, Nat.reduceEqDiff, Nat.reduceAdd, Nat.reduceMul, Nat.reduceLeDiff, Nat.reduceSub, ↓reduceIte, reduceCtorEq, Tables.av, Tables.cells, Hd.av, Hd.cells, hb3, hb4]
  repeat (refine And.intro (by omega) ?_)
  refine gN_new fun b6 hb6 => ?_
  try simp only [newIn_put, newIn_upd] at hb6
  simp -implicitDefEqProofs (disch := omega) only [go_sem, Int.reduceEq, Int.reduceLT, Int.reduceLE, Int.reduceToNat, Int.reduceNeg, Int.reduceAdd, Int.reduceSub, Nat.reduceEqDiff, Nat.reduceAdd, Nat.reduceMul, Nat.reduceLeDiff, Nat.reduceSub, ↓reduceIte, reduceCtorEq, Tables.av, Tables.cells, Hd.av, Hd.cells, hb3, hb4, hb6]
  repeat (refine And.intro (by omega) ?_)
  refine hq _ _ _ (by simp only [pickL, lk_cons, Nat.reduceEqDiff, ↓reduceIte]; exact rfl) ?_
  clear hq q
  refine wpL_frzP' 3 rfl (by simp only [go_sem, hb3, hb4, hb6]; exact rfl) rfl (by simp only [go_sem, Int.reduceEq, Int.reduceLT, Int.reduceLE, Int.reduceToNat, Int.reduceNeg, Int.reduceAdd, Int.reduceSub, Nat.reduceEqDiff, Nat.reduceAdd, Nat.reduceMul, Nat.reduceLeDiff, Nat.reduceSub, ↓reduceIte, reduceCtorEq]; exact rfl) (by simp only [go_sem, hb3, hb4, hb6]; exact rfl) ?_
  refine wpL_frzP' 4 rfl (by simp only [go_sem, hb3, hb4, hb6]; exact rfl) rfl (by simp only [go_sem, Int.reduceEq, Int.reduceLT, Int.reduceLE, Int.reduceToNat, Int.reduceNeg, Int.reduceAdd, Int.reduceSub, Nat.reduceEqDiff, Nat.reduceAdd, Nat.reduceMul, Nat.reduceLeDiff, Nat.reduceSub, ↓reduceIte, reduceCtorEq]; exact rfl) (by simp only [go_sem, hb3, hb4, hb6]; exact rfl) ?_
  repeat' (first | refine wpL_seq ?_ | refine wpL_skip ?_ | refine wpL_label ?_ | refine wpL_scope ?_)
  refine wpL_region' [2, 3, 4, 6, 10] fun q hq => ?_
  simp -implicitDefEqProofs (disch := omega) only [go_sem, Int.reduceEq, Int.reduceLT, Int.reduceLE, Int.reduceToNat, Int.reduceNeg, Int.reduceAdd, Int.reduceSub, Nat.reduceEqDiff, Nat.reduceAdd, Nat.reduceMul, Nat.reduceLeDiff, Nat.reduceSub, ↓reduceIte, reduceCtorEq, Tables.cells, hb3, hb4, hb6]
  repeat (refine And.intro (by omega) ?_)
  refine gN_callP (f43_grid t (by have := ht.g; omega) (by have := ht.c; omega)) ?_
  simp -implicitDefEqProofs (disch := omega) only [go_sem, Int.reduceEq, Int.reduceLT, Int.reduceLE, Int.reduceToNat, Int.reduceNeg, Int.reduceAdd, Int.reduceSub, Nat.reduceEqDiff, Nat.reduceAdd, Nat.reduceMul, Nat.reduceLeDiff, Nat.reduceSub, ↓reduceIte, reduceCtorEq, Tables.cells, hb3, hb4, hb6]
  repeat (refine And.intro (by omega) ?_)
  refine hq _ _ _ (by simp only [pickL, lk_cons, Nat.reduceEqDiff, ↓reduceIte]; exact rfl) ?_
  clear hq q
  repeat' (first | refine wpL_seq ?_ | refine wpL_skip ?_ | refine wpL_label ?_ | refine wpL_scope ?_)
  refine wpL_cond rfl (fun hc1 => ?_) (fun hc1 => ?_)
  · repeat' (first | refine wpL_seq ?_ | refine wpL_skip ?_ | refine wpL_label ?_ | refine wpL_scope ?_)
    refine wpL_region' [6, 7] fun q hq => ?_
    simp -implicitDefEqProofs (disch := omega) only [go_sem, Int.reduceEq, Int.reduceLT, Int.reduceLE, Int.reduceToNat, Int.reduceNeg, Int.reduceAdd, Int.reduceSub, Nat.reduceEqDiff, Nat.reduceAdd, Nat.reduceMul, Nat.reduceLeDiff, Nat.reduceSub, ↓reduceIte, reduceCtorEq, hb3, hb4, hb6]
    repeat (refine And.intro (by omega) ?_)
    refine hq _ _ _ (by simp only [pickL, lk_cons, Nat.reduceEqDiff, ↓reduceIte]; exact rfl) ?_
    clear hq q
    simp at hc1
    refine wpL_vecC b6 0 1 3 (k := ⟨.own, [.snil, .snil, .snil], 29, []⟩) (by simp only [go_sem, hb6]) rfl fun a0 ha0 => ?_
    simp only [go_sem, hb6, List.set_cons_zero, List.set_cons_succ] at ha0 ⊢
    refine wpL_vecC b6 1 1 21 (k := ⟨.own, [.sl a0 0 0 1, .snil, .snil], 29, []⟩) (by simp only [go_sem, hb6, ha0]) rfl fun c0 hc0 => ?_
    simp only [go_sem, hb6, ha0, List.set_cons_zero, List.set_cons_succ] at hc0 ⊢
    refine wpL_vecC b6 2 1 21 (k := ⟨.own, [.sl a0 0 0 1, .sl c0 0 0 1, .snil], 29, []⟩) (by simp only [go_sem, hb6, ha0, hc0]) rfl fun d0 hd0 => ?_
    simp only [go_sem, hb6, ha0, hc0, List.set_cons_zero, List.set_cons_succ] at hd0 ⊢
    repeat' (first | refine wpL_seq ?_ | refine wpL_skip ?_ | refine wpL_label ?_ | refine wpL_scope ?_)
    refine wpL_ret (hK' _ _ _ _ (.inr rfl) (resTo (rs' := [.cell 6 29, .tmp 7]) rfl (by simp only [go_sem, Int.reduceEq, Int.reduceLT, Int.reduceLE, Int.reduceToNat, Int.reduceNeg, Int.reduceAdd, Int.reduceSub, Nat.reduceEqDiff, Nat.reduceAdd, Nat.reduceMul, Nat.reduceLeDiff, Nat.reduceSub, ↓reduceIte, reduceCtorEq, hb6, ha0, hc0, hd0, hb3, hb4, hb6]; exact rfl)) ?_)
    exact ⟨_, le3 (a := a0) (b := c0) (c := d0) (by simp only [go_sem, hb6, ha0, hc0, hd0] <;> exact rfl) (by simp only [go_sem, hb6, ha0, hc0, hd0] <;> exact rfl) (by simp only [go_sem, hb6, ha0, hc0, hd0] <;> exact rfl), a0, c0, d0, by simp only [hc1]; rfl, by simp only [go_sem, hb6, ha0, hc0, hd0], by simp only [go_sem, hb6, ha0, hc0], rfl⟩
  simp at hc1
  repeat' (first | refine wpL_seq ?_ | refine wpL_skip ?_ | refine wpL_label ?_ | refine wpL_scope ?_)
  refine wpL_region' [2, 3, 4, 6, 15] fun q hq => ?_
  simp -implicitDefEqProofs (disch := omega) only [go_sem, Int.reduceEq, Int.reduceLT, Int.reduceLE, Int.reduceToNat, Int.reduceNeg, Int.reduceAdd, Int.reduceSub, Nat.reduceEqDiff, Nat.reduceAdd, Nat.reduceMul, Nat.reduceLeDiff, Nat.reduceSub, ↓reduceIte, reduceCtorEq, Tables.cells, Hd.cells, hb3, hb4, hb6]
  repeat (refine And.intro (by omega) ?_)
  refine gN_callP (f15_sound t h hsm) ?_
  simp -implicitDefEqProofs (disch := omega) only [go_sem, Int.reduceEq, Int.reduceLT, Int.reduceLE, Int.reduceToNat, Int.reduceNeg, Int.reduceAdd, Int.reduceSub, Nat.reduceEqDiff, Nat.reduceAdd, Nat.reduceMul, Nat.reduceLeDiff, Nat.reduceSub, ↓reduceIte, reduceCtorEq, Tables.cells, Hd.cells, hb3, hb4, hb6]
  repeat (refine And.intro (by omega) ?_)
  refine hq _ _ _ (by simp only [pickL, lk_cons, Nat.reduceEqDiff, ↓reduceIte]; exact rfl) ?_
  clear hq q
  repeat' (first | refine wpL_seq ?_ | refine wpL_skip ?_ | refine wpL_label ?_ | refine wpL_scope ?_)
  refine wpL_cond rfl (fun hc2 => ?_) (fun hc2 => ?_)
  · repeat' (first | refine wpL_seq ?_ | refine wpL_skip ?_ | refine wpL_label ?_ | refine wpL_scope ?_)
    refine wpL_region' [6, 7] fun q hq => ?_
    simp -implicitDefEqProofs (disch := omega) only [go_sem, Int.reduceEq, Int.reduceLT, Int.reduceLE, Int.reduceToNat, Int.reduceNeg, Int.reduceAdd, Int.reduceSub, Nat.reduceEqDiff, Nat.reduceAdd, Nat.reduceMul, Nat.reduceLeDiff, Nat.reduceSub, ↓reduceIte, reduceCtorEq, hb3, hb4, hb6]
    repeat (refine And.intro (by omega) ?_)
    refine hq _ _ _ (by simp only [pickL, lk_cons, Nat.reduceEqDiff, ↓reduceIte]; exact rfl) ?_
    clear hq q
    refine wpL_vecC b6 0 1 3 (k := ⟨.own, [.snil, .snil, .snil], 29, []⟩) (by simp only [go_sem, hb6]) rfl fun a0 ha0 => ?_
    simp only [go_sem, hb6, List.set_cons_zero, List.set_cons_succ] at ha0 ⊢
    refine wpL_vecC b6 1 1 21 (k := ⟨.own, [.sl a0 0 0 1, .snil, .snil], 29, []⟩) (by simp only [go_sem, hb6, ha0]) rfl fun c0 hc0 => ?_
    simp only [go_sem, hb6, ha0, List.set_cons_zero, List.set_cons_succ] at hc0 ⊢
    refine wpL_vecC b6 2 1 21 (k := ⟨.own, [.sl a0 0 0 1, .sl c0 0 0 1, .snil], 29, []⟩) (by simp only [go_sem, hb6, ha0, hc0]) rfl fun d0 hd0 => ?_
    simp only [go_sem, hb6, ha0, hc0, List.set_cons_zero, List.set_cons_succ] at hd0 ⊢
    repeat' (first | refine wpL_seq ?_ | refine wpL_skip ?_ | refine wpL_label ?_ | refine wpL_scope ?_)
    refine wpL_ret (hK' _ _ _ _ (.inr rfl) (resTo (rs' := [.cell 6 29, .tmp 7]) rfl (by simp only [go_sem, Int.reduceEq, Int.reduceLT, Int.reduceLE, Int.reduceToNat, Int.reduceNeg, Int.reduceAdd, Int.reduceSub, Nat.reduceEqDiff, Nat.reduceAdd, Nat.reduceMul, Nat.reduceLeDiff, Nat.reduceSub, ↓reduceIte, reduceCtorEq, hb6, ha0, hc0, hd0, hb3, hb4, hb6]; exact rfl)) ?_)
    exact ⟨_, le3 (a := a0) (b := c0) (c := d0) (by simp only [go_sem, hb6, ha0, hc0, hd0] <;> exact rfl) (by simp only [go_sem, hb6, ha0, hc0, hd0] <;> exact rfl) (by simp only [go_sem, hb6, ha0, hc0, hd0] <;> exact rfl), a0, c0, d0, by simp only [hc1]; rfl, by simp only [go_sem, hb6, ha0, hc0, hd0], by simp only [go_sem, hb6, ha0, hc0], rfl⟩
  · exfalso
    simp at hc2
    exact hso hc2

/-- What is answered: heads of n groups each, and a number. -/
structure HdN (S : Hd) (n : Nat) : Prop where
  n64 : n ≤ 64
  a : S.aspect.length = n
  i : S.ins.length = n
  w : S.away.length = n
theorem HdN.small {S : Hd} {n : Nat} (h : HdN S n) : SmallH S := ⟨by rw [h.a]; have := h.n64; omega, by rw [h.i]; have := h.n64; omega, by rw [h.w]; have := h.n64; omega⟩
abbrev ansE (n : Nat) (E : Int) (a b c : Nat) : AV := .tup [.agg [.sl a 0 n 1, .sl b 0 n 1, .sl c 0 n 1], .int .i64 E]
theorem start_both (t : Tables) (ht : SmallT t) : ∃ (S : Hd) (E : Int) (n : Nat), HdN S n ∧ wpP Try.prog 32 [t.av] (.tup [S.av, .int .i64 E]) ∧
    wpH Try.prog 33 [t.av] Heap.emp (OwnF3 (ansE n E) (S.aspect.map ci) 3 (S.ins.map di) 21 (S.away.map di) 21) := by
  have q := f32_start t ht
  by_cases hok : t.ok = true
  · refine ⟨startHd t.groups.length, 0, t.groups.length, ⟨ok_64 hok, by simp [startHd], by simp [startHd], by simp [startHd]⟩, ?_, f33_own t ht hok⟩
    rwa [startAV, if_pos hok] at q
  · refine ⟨⟨[], [], []⟩, 70, 0, ⟨by omega, rfl, rfl, rfl⟩, ?_, f33_ownB t ht hok⟩
    rwa [startAV, if_neg hok] at q
theorem step_both (t : Tables) (h : Hd) (w : BitVec 64) (ht : SmallT t) (hh : SmallH h) (hI : I32 h) : ∃ (S : Hd) (E : Int) (n : Nat), HdN S n ∧ wpP Try.prog 36 [t.av, h.av, .int .u64 w.toNat] (.tup [S.av, .int .i64 E]) ∧
    wpH Try.prog 30 [t.av, h.av, .int .u64 w.toNat] Heap.emp (OwnF3 (ansE n E) (S.aspect.map ci) 3 (S.ins.map di) 21 (S.away.map di) 21) := by
  by_cases hs : sound t h = true
  · obtain ⟨l0, l1, l2, l3, l4⟩ := sound_len hs
    obtain ⟨s1, s2, s3⟩ := sound_step w hs hI
    obtain ⟨m0, m1, m2, m3, m4⟩ := sound_len s1
    exact ⟨afterHd t h w, 0, t.groups.length, ⟨ok_64 m0, m1, m2, m3⟩, f36_ok t h w ht hh hI hs, f30_own t h w ht hh hI hs⟩
  · exact ⟨noHd, _, 0, ⟨by omega, rfl, rfl, rfl⟩, f36_bad t h w ht hh hI hs, f30_ownB t h w ht hh hI hs⟩
theorem ck_flat (k : IntKind) (l : List Int) : l.map (AV.int k) = (l.map (c1 k)).flatten := by
  induction l with
  | nil => rfl
  | cons x l ih => rw [List.map_cons, ih]; rfl
theorem wk1 {h : Heap} {b n : Nat} {l : List Int} {ty : Nat} {k : IntKind} (hb : h b = some ⟨.own, l.map (AV.int k), ty, []⟩) (hn : l.length = n) : Wk h.view (fun _ => False) (.sl b 0 n 1) (.rs 1 (l.map (c1 k))) :=
  Wk.all l hb (ck_flat k l) hn (c1_len k)
theorem wk3 {h : Heap} {a b c n : Nat} {S : Hd} (hS : HdN S n) (h1 : h a = some ⟨.own, S.aspect.map ci, 3, []⟩) (h2 : h b = some ⟨.own, S.ins.map di, 21, []⟩) (h3 : h c = some ⟨.own, S.away.map di, 21, []⟩) :
    Wk h.view (fun _ => False) (.agg [.sl a 0 n 1, .sl b 0 n 1, .sl c 0 n 1]) S.av :=
  Wk.aggL (.cons (wk1 h1 hS.a) (.cons (wk1 h2 hS.i) (.cons (wk1 h3 hS.w) .nil)))
end Go.Proofs.Ytdchdlabdokjnaa.Am.H
