/- The law HeadsRun answers true. -/
import Derived.Test.YtdchdlabdokjnaaH25
import Derived.Test.YtdchdlabdokjnaaAm18
namespace Go.Proofs.Ytdchdlabdokjnaa.Am.H
set_option linter.unusedSectionVars false
open Go Go.Proofs Am
set_option linter.unusedVariables false
set_option linter.unusedSimpArgs false
set_option maxRecDepth 100000
attribute [local irreducible] gO gN gW gdO

theorem run_both (t : Tables) (ws : List (BitVec 64)) (ht : SmallT t) (hw : ws.length ≤ 1048576) : ∃ (L : List (List UInt8)) (E : Int), wpP Try.prog 24 [t.av, .rs 1 (ws.map w1)] (.tup [.rs 1 (L.map st1), .int .i64 E]) ∧
    wpP Try.prog 25 [t.av, .rs 1 (ws.map w1)] (.tup [.rs 1 (L.map st1), .int .i64 E]) ∧ L.length ≤ 1048577 := by
  by_cases hok : t.ok = true
  · exact ⟨runL t ws, 0, f24_run t ws ht hok hw, f25_run t ws ht hok hw, by simp [runL, runT_len]; omega⟩
  · exact ⟨[], 70, f24_bad t ws ht hok, f25_bad t ws ht hok, by simp⟩
theorem noHd_small : SmallH noHd := ⟨by simp [noHd], by simp [noHd], by simp [noHd]⟩
theorem wpL_wkE {P : Program} {cs : List Code} {e e' : Env} {h : Heap} {K : Ex → Env → Heap → Prop} (hw : ∀ i, Wk (fun _ => none) (fun _ => False) (e i) (e' i)) (hk : wpL P cs e' h K) : wpL P cs e h K := fun m Pr R => by
  obtain ⟨x, e2, m', h2, k1, k2, k3, k4⟩ := hk m Pr R
  refine ⟨x, e2, m', h2, .weak ⟨⟨fun _ => none, fun _ => False, fun b cs h => (nomatch h), fun c hc => hc.elim, hw, fun c kc hc hd => ?_⟩, fun c hc => hc⟩ k1, k2, k3, k4⟩
  exact .inr ⟨kc, hc, rfl, rfl, fun a ha => .inl ha, rfl, fun i c d h1 h2 => by rw [h1] at h2; cases h2; exact .refl _⟩
theorem wk_cons {d : Nat} {v v' : AV} {L L' : List (Nat × AV)} (h : Wk (fun _ => none) (fun _ => False) v v') (hk : ∀ i, Wk (fun _ => none) (fun _ => False) (lk L i) (lk L' i)) : ∀ i, Wk (fun _ => none) (fun _ => False) (lk ((d, v) :: L) i) (lk ((d, v') :: L') i) := fun i => by
  simp only [lk]; split
  · exact h
  · exact hk i
theorem f12_roomN (t : Tables) (ws : List (BitVec 64)) (w : AV) (hw : ∀ h, SrcV h 1 w ws.length (ws.map c64).flatten) (ht : SmallT t) (hn : ws.length * 8 ≤ 140737488351232) :
    wpP Try.prog 12 [t.av, .agg [.snil, .snil, .snil], w] (.agg (roomL t noHd ws)) := by
  obtain ⟨h, hn0⟩ : ∃ h, h = noHd := ⟨_, rfl⟩
  have hs : SmallH h := by rw [hn0]; exact noHd_small
  have hag : Wk (fun _ => none) (fun _ => False) (.agg [.snil, .snil, .snil]) h.av := by rw [hn0]; exact (Wk.aggL (.cons (.snil 1) (.cons (.snil 1) (.cons (.snil 1) .nil))))
  rw [← hn0]
  have g1 := ht.g
  have g2 := ht.c
  have h1 := hs.a
  have h2 := hs.i
  have h3 := hs.w
  refine wpP_frz ?_
  refine wpH_intro (fn := Try.f12) rfl rfl (by decide) (by kernel_rfl) fun K' hK' => ?_
  refine wpL_wkE (e' := lk [(0, t.av), (1, h.av), (2, w)]) (wk_cons (.refl _) (wk_cons hag (wk_cons (.refl _) (fun i => .refl _)))) ?_
  repeat' (first | refine wpL_seq ?_ | refine wpL_skip ?_ | refine wpL_label ?_ | refine wpL_scope ?_)
  refine wpL_region' [2, 3, 4, 6] fun q hq => ?_
  simp -implicitDefEqProofs (disch := omega) only [go_sem, Int.reduceEq, Int.reduceLT, Int.reduceLE, Int.reduceToNat, Int.reduceNeg, Int.reduceAdd, Int.reduceSub, Nat.reduceEqDiff, Nat.reduceAdd, Nat.reduceMul, Nat.reduceLeDiff, Nat.reduceSub, ↓reduceIte, reduceCtorEq, Tables.av, Tables.cells, Hd.av, Hd.cells]
  repeat (refine And.intro (by omega) ?_)
  refine gN_new fun b3 hb3 => ?_
  try simp only [newIn_put, newIn_upd] at hb3
  simp -implicitDefEqProofs (disch := omega) only [go_sem, Int.reduceEq, Int.reduceLT, Int.reduceLE, Int.reduceToNat, Int.reduceNeg, Int.reduceAdd, Int.reduceSub, Nat.reduceEqDiff, Nat.reduceAdd, Nat.reduceMul, Nat.reduceLeDiff, Nat.reduceSub, ↓reduceIte, reduceCtorEq, Tables.av, Tables.cells, Hd.av, Hd.cells, hb3]
  repeat (refine And.intro (by omega) ?_)
  refine gN_new fun b4 hb4 => ?_
  try simp only [newIn_put, newIn_upd] at hb4
  simp -implicitDefEqProofs (disch := omega) only [go_sem, Int.reduceEq, Int.reduceLT, Int.reduceLE, Int.reduceToNat, Int.reduceNeg, Int.reduceAdd, Int.reduceSub, Nat.reduceEqDiff, Nat.reduceAdd, Nat.reduceMul, Nat.reduceLeDiff, Nat.reduceSub, ↓reduceIte, reduceCtorEq, Tables.av, Tables.cells, Hd.av, Hd.cells, hb3, hb4]
  repeat (refine And.intro (by omega) ?_)
  refine gN_new fun b6 hb6 => ?_
  try simp only [newIn_put, newIn_upd] at hb6
  simp -implicitDefEqProofs (disch := omega) only [go_sem, Int.reduceEq, Int.reduceLT, Int.reduceLE, Int.reduceToNat, Int.reduceNeg, Int.reduceAdd, Int.reduceSub, Nat.reduceEqDiff, Nat.reduceAdd, Nat.reduceMul, Nat.reduceLeDiff, Nat.reduceSub, ↓reduceIte, reduceCtorEq, Tables.av, Tables.cells, Hd.av, Hd.cells, hb3, hb4, hb6]
  repeat (refine And.intro (by omega) ?_)
  refine hq _ _ _ (by simp only [pickL, lk_cons, Nat.reduceEqDiff, ↓reduceIte]; exact rfl) ?_
  clear hq q
  repeat' (first | refine wpL_seq ?_ | refine wpL_skip ?_ | refine wpL_label ?_ | refine wpL_scope ?_)
  refine wpL_region' [2, 3, 4, 6] fun q hq => ?_
  simp -implicitDefEqProofs (disch := omega) only [go_sem, Int.reduceEq, Int.reduceLT, Int.reduceLE, Int.reduceToNat, Int.reduceNeg, Int.reduceAdd, Int.reduceSub, Nat.reduceEqDiff, Nat.reduceAdd, Nat.reduceMul, Nat.reduceLeDiff, Nat.reduceSub, ↓reduceIte, reduceCtorEq, hb3, hb4, hb6]
  repeat (refine And.intro (by omega) ?_)
  refine gN_own2 (f42_copy t ht) fun bg bc hbg hbc => ?_
  simp only [newIn_put] at hbg hbc
  simp -implicitDefEqProofs (disch := omega) only [go_sem, Int.reduceEq, Int.reduceLT, Int.reduceLE, Int.reduceToNat, Int.reduceNeg, Int.reduceAdd, Int.reduceSub, Nat.reduceEqDiff, Nat.reduceAdd, Nat.reduceMul, Nat.reduceLeDiff, Nat.reduceSub, ↓reduceIte, reduceCtorEq, hb3, hb4, hb6, hbg, hbc]
  repeat (refine And.intro (by omega) ?_)
  refine hq _ _ _ (by simp only [pickL, lk_cons, Nat.reduceEqDiff, ↓reduceIte]; exact rfl) ?_
  clear hq q
  repeat' (first | refine wpL_seq ?_ | refine wpL_skip ?_ | refine wpL_label ?_ | refine wpL_scope ?_)
  refine wpL_region' [2, 3, 4, 6] fun q hq => ?_
  simp -implicitDefEqProofs (disch := omega) only [go_sem, Int.reduceEq, Int.reduceLT, Int.reduceLE, Int.reduceToNat, Int.reduceNeg, Int.reduceAdd, Int.reduceSub, Nat.reduceEqDiff, Nat.reduceAdd, Nat.reduceMul, Nat.reduceLeDiff, Nat.reduceSub, ↓reduceIte, reduceCtorEq, hb3, hb4, hb6, hbg, hbc]
  repeat (refine And.intro (by omega) ?_)
  refine gN_own3 (f37_copy h hs) fun ba bi bw hba hbi hbw => ?_
  simp only [newIn_put, newIn_upd] at hba hbi hbw
  simp -implicitDefEqProofs (disch := omega) only [go_sem, Int.reduceEq, Int.reduceLT, Int.reduceLE, Int.reduceToNat, Int.reduceNeg, Int.reduceAdd, Int.reduceSub, Nat.reduceEqDiff, Nat.reduceAdd, Nat.reduceMul, Nat.reduceLeDiff, Nat.reduceSub, ↓reduceIte, reduceCtorEq, hb3, hb4, hb6, hbg, hbc, hba, hbi, hbw]
  repeat (refine And.intro (by omega) ?_)
  refine hq _ _ _ (by simp only [pickL, lk_cons, Nat.reduceEqDiff, ↓reduceIte]; exact rfl) ?_
  clear hq q
  repeat' (first | refine wpL_seq ?_ | refine wpL_skip ?_ | refine wpL_label ?_ | refine wpL_scope ?_)
  refine wpL_draw' [6] [0, 2, 5, 7, 11, 15, 19, 24, 1, 6, 12, 16, 20, 3, 4, 8, 9, 10, 13, 14, 17, 18, 21, 22, 23, 25, 26, 27, 28, 29] [] [false, false, false, false, false, false, false, false, false, false, false, false, false, false, true, false, true, false, false, true, false, true] (by kernel_rfl) (by kernel_rfl) (by kernel_rfl) fun q hq => ?_
  simp -implicitDefEqProofs (disch := omega) only [go_sem, Int.reduceEq, Int.reduceLT, Int.reduceLE, Int.reduceToNat, Int.reduceNeg, Int.reduceAdd, Int.reduceSub, Nat.reduceEqDiff, Nat.reduceAdd, Nat.reduceMul, Nat.reduceLeDiff, Nat.reduceSub, ↓reduceIte, reduceCtorEq, hb3, hb4, hb6, hbg, hbc, hba, hbi, hbw]
  repeat (refine And.intro (by omega) ?_)
  refine gN_new fun b14 hb14 => ?_
  try simp only [newIn_put, newIn_upd] at hb14
  simp -implicitDefEqProofs (disch := omega) only [go_sem, Int.reduceEq, Int.reduceLT, Int.reduceLE, Int.reduceToNat, Int.reduceNeg, Int.reduceAdd, Int.reduceSub, Nat.reduceEqDiff, Nat.reduceAdd, Nat.reduceMul, Nat.reduceLeDiff, Nat.reduceSub, ↓reduceIte, reduceCtorEq, hb3, hb4, hb6, hbg, hbc, hba, hbi, hbw, hb14]
  repeat (refine And.intro (by omega) ?_)
  refine gN_appV ti22 rfl ti54 rfl (by decide) (SrcV.sl (by simp only [go_sem, hb3, hb4, hb6, hbg, hbc, hba, hbi, hbw, hb14] <;> exact rfl) rfl rfl) (by simp only [go_sem, hb3, hb4, hb6, hbg, hbc, hba, hbi, hbw, hb14] <;> exact rfl) ((src_map Group.len Group.leaf Heap.emp _).cells) (by dsimp only; omega) (by simp only [maxInt]; omega) fun b15 hb15 => ?_
  try simp only [go_sem, hb3, hb4, hb6, hbg, hbc, hba, hbi, hbw, hb14] at hb15
  simp -implicitDefEqProofs (disch := omega) only [go_sem, Int.reduceEq, Int.reduceLT, Int.reduceLE, Int.reduceToNat, Int.reduceNeg, Int.reduceAdd, Int.reduceSub, Nat.reduceEqDiff, Nat.reduceAdd, Nat.reduceMul, Nat.reduceLeDiff, Nat.reduceSub, ↓reduceIte, reduceCtorEq, hb3, hb4, hb6, hbg, hbc, hba, hbi, hbw, hb14, hb15]
  repeat (refine And.intro (by omega) ?_)
  refine gN_new fun b19 hb19 => ?_
  try simp only [newIn_put, newIn_upd] at hb19
  simp -implicitDefEqProofs (disch := omega) only [go_sem, Int.reduceEq, Int.reduceLT, Int.reduceLE, Int.reduceToNat, Int.reduceNeg, Int.reduceAdd, Int.reduceSub, Nat.reduceEqDiff, Nat.reduceAdd, Nat.reduceMul, Nat.reduceLeDiff, Nat.reduceSub, ↓reduceIte, reduceCtorEq, hb3, hb4, hb6, hbg, hbc, hba, hbi, hbw, hb14, hb15, hb19]
  repeat (refine And.intro (by omega) ?_)
  refine gN_appV ti23 rfl ti56 rfl (by decide) (SrcV.sl (by simp only [go_sem, hb3, hb4, hb6, hbg, hbc, hba, hbi, hbw, hb14, hb15, hb19] <;> exact rfl) rfl rfl) (by simp only [go_sem, hb3, hb4, hb6, hbg, hbc, hba, hbi, hbw, hb14, hb15, hb19] <;> exact rfl) ((src_map Conf.len Conf.leaf Heap.emp _).cells) (by dsimp only; omega) (by simp only [maxInt]; omega) fun b20 hb20 => ?_
  try simp only [go_sem, hb3, hb4, hb6, hbg, hbc, hba, hbi, hbw, hb14, hb15, hb19] at hb20
  simp -implicitDefEqProofs (disch := omega) only [go_sem, Int.reduceEq, Int.reduceLT, Int.reduceLE, Int.reduceToNat, Int.reduceNeg, Int.reduceAdd, Int.reduceSub, Nat.reduceEqDiff, Nat.reduceAdd, Nat.reduceMul, Nat.reduceLeDiff, Nat.reduceSub, ↓reduceIte, reduceCtorEq, hb3, hb4, hb6, hbg, hbc, hba, hbi, hbw, hb14, hb15, hb19, hb20]
  repeat (refine And.intro (by omega) ?_)
  refine gN_new fun b24 hb24 => ?_
  try simp only [newIn_put, newIn_upd] at hb24
  simp -implicitDefEqProofs (disch := omega) only [go_sem, Int.reduceEq, Int.reduceLT, Int.reduceLE, Int.reduceToNat, Int.reduceNeg, Int.reduceAdd, Int.reduceSub, Nat.reduceEqDiff, Nat.reduceAdd, Nat.reduceMul, Nat.reduceLeDiff, Nat.reduceSub, ↓reduceIte, reduceCtorEq, hb3, hb4, hb6, hbg, hbc, hba, hbi, hbw, hb14, hb15, hb19, hb20, hb24]
  repeat (refine And.intro (by omega) ?_)
  refine gN_appV ti26 rfl ti3 rfl (by decide) (SrcV.sl (by simp only [go_sem, hb3, hb4, hb6, hbg, hbc, hba, hbi, hbw, hb14, hb15, hb19, hb20, hb24] <;> exact rfl) rfl rfl) (by simp only [go_sem, hb3, hb4, hb6, hbg, hbc, hba, hbi, hbw, hb14, hb15, hb19, hb20, hb24] <;> exact rfl) ((src_map (c1_len _) (c1_leaf _) Heap.emp _).cells) (by dsimp only; omega) (by simp only [maxInt]; omega) fun b25 hb25 => ?_
  try simp only [go_sem, hb3, hb4, hb6, hbg, hbc, hba, hbi, hbw, hb14, hb15, hb19, hb20, hb24] at hb25
  simp -implicitDefEqProofs (disch := omega) only [go_sem, Int.reduceEq, Int.reduceLT, Int.reduceLE, Int.reduceToNat, Int.reduceNeg, Int.reduceAdd, Int.reduceSub, Nat.reduceEqDiff, Nat.reduceAdd, Nat.reduceMul, Nat.reduceLeDiff, Nat.reduceSub, ↓reduceIte, reduceCtorEq, hb3, hb4, hb6, hbg, hbc, hba, hbi, hbw, hb14, hb15, hb19, hb20, hb24, hb25]
  repeat (refine And.intro (by omega) ?_)
  refine gN_new fun b28 hb28 => ?_
  try simp only [newIn_put, newIn_upd] at hb28
  simp -implicitDefEqProofs (disch := omega) only [go_sem, Int.reduceEq, Int.reduceLT, Int.reduceLE, Int.reduceToNat, Int.reduceNeg, Int.reduceAdd, Int.reduceSub, Nat.reduceEqDiff, Nat.reduceAdd, Nat.reduceMul, Nat.reduceLeDiff, Nat.reduceSub, ↓reduceIte, reduceCtorEq, hb3, hb4, hb6, hbg, hbc, hba, hbi, hbw, hb14, hb15, hb19, hb20, hb24, hb25, hb28]
  repeat (refine And.intro (by omega) ?_)
  refine gN_appV ti27 rfl ti21 rfl (by decide) (SrcV.sl (by simp only [go_sem, hb3, hb4, hb6, hbg, hbc, hba, hbi, hbw, hb14, hb15, hb19, hb20, hb24, hb25, hb28] <;> exact rfl) rfl rfl) (by simp only [go_sem, hb3, hb4, hb6, hbg, hbc, hba, hbi, hbw, hb14, hb15, hb19, hb20, hb24, hb25, hb28] <;> exact rfl) ((src_map (c1_len _) (c1_leaf _) Heap.emp _).cells) (by dsimp only; omega) (by simp only [maxInt]; omega) fun b29 hb29 => ?_
  try simp only [go_sem, hb3, hb4, hb6, hbg, hbc, hba, hbi, hbw, hb14, hb15, hb19, hb20, hb24, hb25, hb28] at hb29
  simp -implicitDefEqProofs (disch := omega) only [go_sem, Int.reduceEq, Int.reduceLT, Int.reduceLE, Int.reduceToNat, Int.reduceNeg, Int.reduceAdd, Int.reduceSub, Nat.reduceEqDiff, Nat.reduceAdd, Nat.reduceMul, Nat.reduceLeDiff, Nat.reduceSub, ↓reduceIte, reduceCtorEq, hb3, hb4, hb6, hbg, hbc, hba, hbi, hbw, hb14, hb15, hb19, hb20, hb24, hb25, hb28, hb29]
  repeat (refine And.intro (by omega) ?_)
  refine gN_new fun b32 hb32 => ?_
  try simp only [newIn_put, newIn_upd] at hb32
  simp -implicitDefEqProofs (disch := omega) only [go_sem, Int.reduceEq, Int.reduceLT, Int.reduceLE, Int.reduceToNat, Int.reduceNeg, Int.reduceAdd, Int.reduceSub, Nat.reduceEqDiff, Nat.reduceAdd, Nat.reduceMul, Nat.reduceLeDiff, Nat.reduceSub, ↓reduceIte, reduceCtorEq, hb3, hb4, hb6, hbg, hbc, hba, hbi, hbw, hb14, hb15, hb19, hb20, hb24, hb25, hb28, hb29, hb32]
  repeat (refine And.intro (by omega) ?_)
  refine gN_appV ti27 rfl ti21 rfl (by decide) (SrcV.sl (by simp only [go_sem, hb3, hb4, hb6, hbg, hbc, hba, hbi, hbw, hb14, hb15, hb19, hb20, hb24, hb25, hb28, hb29, hb32] <;> exact rfl) rfl rfl) (by simp only [go_sem, hb3, hb4, hb6, hbg, hbc, hba, hbi, hbw, hb14, hb15, hb19, hb20, hb24, hb25, hb28, hb29, hb32] <;> exact rfl) ((src_map (c1_len _) (c1_leaf _) Heap.emp _).cells) (by dsimp only; omega) (by simp only [maxInt]; omega) fun b33 hb33 => ?_
  try simp only [go_sem, hb3, hb4, hb6, hbg, hbc, hba, hbi, hbw, hb14, hb15, hb19, hb20, hb24, hb25, hb28, hb29, hb32] at hb33
  simp -implicitDefEqProofs (disch := omega) only [go_sem, Int.reduceEq, Int.reduceLT, Int.reduceLE, Int.reduceToNat, Int.reduceNeg, Int.reduceAdd, Int.reduceSub, Nat.reduceEqDiff, Nat.reduceAdd, Nat.reduceMul, Nat.reduceLeDiff, Nat.reduceSub, ↓reduceIte, reduceCtorEq, hb3, hb4, hb6, hbg, hbc, hba, hbi, hbw, hb14, hb15, hb19, hb20, hb24, hb25, hb28, hb29, hb32, hb33]
  repeat (refine And.intro (by omega) ?_)
  refine gN_appN ti31 rfl ti30 rfl (by decide) (hw _) (by dsimp only; omega) (by simp only [maxInt]; omega) fun b36 hb36 => ?_
  try simp only [go_sem, hb3, hb4, hb6, hbg, hbc, hba, hbi, hbw, hb14, hb15, hb19, hb20, hb24, hb25, hb28, hb29, hb32, hb33] at hb36
  simp -implicitDefEqProofs (disch := omega) only [go_sem, Int.reduceEq, Int.reduceLT, Int.reduceLE, Int.reduceToNat, Int.reduceNeg, Int.reduceAdd, Int.reduceSub, Nat.reduceEqDiff, Nat.reduceAdd, Nat.reduceMul, Nat.reduceLeDiff, Nat.reduceSub, ↓reduceIte, reduceCtorEq, hb3, hb4, hb6, hbg, hbc, hba, hbi, hbw, hb14, hb15, hb19, hb20, hb24, hb25, hb28, hb29, hb32, hb33, hb36]
  repeat (refine And.intro (by omega) ?_)
  refine gN_new fun b37 hb37 => ?_
  try simp only [newIn_put, newIn_upd] at hb37
  simp -implicitDefEqProofs (disch := omega) only [go_sem, Int.reduceEq, Int.reduceLT, Int.reduceLE, Int.reduceToNat, Int.reduceNeg, Int.reduceAdd, Int.reduceSub, Nat.reduceEqDiff, Nat.reduceAdd, Nat.reduceMul, Nat.reduceLeDiff, Nat.reduceSub, ↓reduceIte, reduceCtorEq, hb3, hb4, hb6, hbg, hbc, hba, hbi, hbw, hb14, hb15, hb19, hb20, hb24, hb25, hb28, hb29, hb32, hb33, hb36, hb37]
  repeat (refine And.intro (by omega) ?_)
  refine gN_appV ti31 rfl ti30 rfl (by decide) (SrcV.sl (by simp only [go_sem, hb3, hb4, hb6, hbg, hbc, hba, hbi, hbw, hb14, hb15, hb19, hb20, hb24, hb25, hb28, hb29, hb32, hb33, hb36, hb37] <;> exact rfl) rfl rfl) (by simp only [go_sem, hb3, hb4, hb6, hbg, hbc, hba, hbi, hbw, hb14, hb15, hb19, hb20, hb24, hb25, hb28, hb29, hb32, hb33, hb36, hb37] <;> exact rfl) ((src_map c64_len c64_leaf Heap.emp _).cells) (by dsimp only; omega) (by simp only [maxInt]; omega) fun b38 hb38 => ?_
  try simp only [go_sem, hb3, hb4, hb6, hbg, hbc, hba, hbi, hbw, hb14, hb15, hb19, hb20, hb24, hb25, hb28, hb29, hb32, hb33, hb36, hb37] at hb38
  simp -implicitDefEqProofs (disch := omega) only [go_sem, Int.reduceEq, Int.reduceLT, Int.reduceLE, Int.reduceToNat, Int.reduceNeg, Int.reduceAdd, Int.reduceSub, Nat.reduceEqDiff, Nat.reduceAdd, Nat.reduceMul, Nat.reduceLeDiff, Nat.reduceSub, ↓reduceIte, reduceCtorEq, hb3, hb4, hb6, hbg, hbc, hba, hbi, hbw, hb14, hb15, hb19, hb20, hb24, hb25, hb28, hb29, hb32, hb33, hb36, hb37, hb38]
  repeat (refine And.intro (by omega) ?_)
  refine hq _ _ _ (by simp only [pickL, lk_cons, Nat.reduceEqDiff, ↓reduceIte]; exact rfl) ?_
  clear hq q
  repeat' (first | refine wpL_seq ?_ | refine wpL_skip ?_ | refine wpL_label ?_ | refine wpL_scope ?_)
  refine wpL_ret (hK' _ _ _ _ (.inr rfl) (resTo (rs' := [.cell 6 33]) rfl (by simp only [go_sem, Int.reduceEq, Int.reduceLT, Int.reduceLE, Int.reduceToNat, Int.reduceNeg, Int.reduceAdd, Int.reduceSub, Nat.reduceEqDiff, Nat.reduceAdd, Nat.reduceMul, Nat.reduceLeDiff, Nat.reduceSub, ↓reduceIte, reduceCtorEq, hb3, hb4, hb6, hbg, hbc, hba, hbi, hbw, hb14, hb15, hb19, hb20, hb24, hb25, hb28, hb29, hb32, hb33, hb36, hb37, hb38]; exact rfl)) ?_)
  refine ⟨[⟨b15, 5, t.groups.length + 1, (t.groups ++ [markG]).map Group.cells⟩, ⟨b20, 4, t.confs.length + 1, (t.confs ++ [markC]).map Conf.cells⟩, ⟨b25, 1, h.aspect.length + 1, (h.aspect ++ [-7]).map (c1 .i64)⟩, ⟨b29, 1, h.ins.length + 1, (h.ins ++ [-7]).map (c1 .i32)⟩, ⟨b33, 1, h.away.length + 1, (h.away ++ [-7]).map (c1 .i32)⟩, ⟨b38, 1, ws.length + 1, (ws ++ [777#64]).map c64⟩], .cons (by simp only [go_sem, hb3, hb4, hb6, hbg, hbc, hba, hbi, hbw, hb14, hb15, hb19, hb20, hb24, hb25, hb28, hb29, hb32, hb33, hb36, hb37, hb38] <;> exact rfl) rfl (Els.of Group.len _ (by simp [markG, Group.cells]) (by simp)) (by simp only [go_sem, hb3, hb4, hb6, hbg, hbc, hba, hbi, hbw, hb14, hb15, hb19, hb20, hb24, hb25, hb28, hb29, hb32, hb33, hb36, hb37, hb38]) (.cons (by simp only [go_sem, hb3, hb4, hb6, hbg, hbc, hba, hbi, hbw, hb14, hb15, hb19, hb20, hb24, hb25, hb28, hb29, hb32, hb33, hb36, hb37, hb38] <;> exact rfl) rfl (Els.of Conf.len _ (by simp [markC, Conf.cells]) (by simp)) (by simp only [go_sem, hb3, hb4, hb6, hbg, hbc, hba, hbi, hbw, hb14, hb15, hb19, hb20, hb24, hb25, hb28, hb29, hb32, hb33, hb36, hb37, hb38]) (.cons (by simp only [go_sem, hb3, hb4, hb6, hbg, hbc, hba, hbi, hbw, hb14, hb15, hb19, hb20, hb24, hb25, hb28, hb29, hb32, hb33, hb36, hb37, hb38] <;> exact rfl) rfl (Els.of (c1_len _) _ (by simp [flat1, c1]) (by simp)) (by simp only [go_sem, hb3, hb4, hb6, hbg, hbc, hba, hbi, hbw, hb14, hb15, hb19, hb20, hb24, hb25, hb28, hb29, hb32, hb33, hb36, hb37, hb38]) (.cons (by simp only [go_sem, hb3, hb4, hb6, hbg, hbc, hba, hbi, hbw, hb14, hb15, hb19, hb20, hb24, hb25, hb28, hb29, hb32, hb33, hb36, hb37, hb38] <;> exact rfl) rfl (Els.of (c1_len _) _ (by simp [flat1, c1]) (by simp)) (by simp only [go_sem, hb3, hb4, hb6, hbg, hbc, hba, hbi, hbw, hb14, hb15, hb19, hb20, hb24, hb25, hb28, hb29, hb32, hb33, hb36, hb37, hb38]) (.cons (by simp only [go_sem, hb3, hb4, hb6, hbg, hbc, hba, hbi, hbw, hb14, hb15, hb19, hb20, hb24, hb25, hb28, hb29, hb32, hb33, hb36, hb37, hb38] <;> exact rfl) rfl (Els.of (c1_len _) _ (by simp [flat1, c1]) (by simp)) (by simp only [go_sem, hb3, hb4, hb6, hbg, hbc, hba, hbi, hbw, hb14, hb15, hb19, hb20, hb24, hb25, hb28, hb29, hb32, hb33, hb36, hb37, hb38]) (.cons (by simp only [go_sem, hb3, hb4, hb6, hbg, hbc, hba, hbi, hbw, hb14, hb15, hb19, hb20, hb24, hb25, hb28, hb29, hb32, hb33, hb36, hb37, hb38] <;> exact rfl) rfl (Els.of c64_len _ (by simp [c64]) (by simp)) (by simp only [go_sem, hb3, hb4, hb6, hbg, hbc, hba, hbi, hbw, hb14, hb15, hb19, hb20, hb24, hb25, hb28, hb29, hb32, hb33, hb36, hb37, hb38]) (.nil)))))), ?_⟩
  simp only [go_sem, Int.reduceEq, Int.reduceLT, Int.reduceLE, Int.reduceToNat, Int.reduceNeg, Int.reduceAdd, Int.reduceSub, Nat.reduceEqDiff, Nat.reduceAdd, Nat.reduceMul, Nat.reduceLeDiff, Nat.reduceSub, ↓reduceIte, reduceCtorEq, hb3, hb4, hb6, hbg, hbc, hba, hbi, hbw, hb14, hb15, hb19, hb20, hb24, hb25, hb28, hb29, hb32, hb33, hb36, hb37, hb38]
  simp [roomL]

theorem f23_keptN (t : Tables) (ws : List (BitVec 64)) (w : AV) (hw : WantsIs w ws) (ht : SmallT t) (hn : ws.length * 8 ≤ 140737488351232) :
    wpP Try.prog 23 [.agg (roomL t noHd ws), t.av, .agg [.snil, .snil, .snil], w] (.bool true) := by
  obtain ⟨h, hn0⟩ : ∃ h, h = noHd := ⟨_, rfl⟩
  have hs : SmallH h := by rw [hn0]; exact noHd_small
  have hag : Wk (fun _ => none) (fun _ => False) (.agg [.snil, .snil, .snil]) h.av := by rw [hn0]; exact (Wk.aggL (.cons (.snil 1) (.cons (.snil 1) (.cons (.snil 1) .nil))))
  rw [← hn0]
  have hl := hw.len
  refine wpP_intro ?_
  refine wpH_intro (fn := Try.f23) rfl rfl (by decide) (by kernel_rfl) fun K' hK' => ?_
  refine wpL_wkE (e' := lk [(0, .agg (roomL t h ws)), (1, t.av), (2, h.av), (3, w)]) (wk_cons (.refl _) (wk_cons (.refl _) (wk_cons hag (wk_cons (.refl _) (fun i => .refl _))))) ?_
  repeat' (first | refine wpL_seq ?_ | refine wpL_skip ?_ | refine wpL_label ?_ | refine wpL_scope ?_)
  refine wpL_region' [3, 4, 5, 6] fun q hq => ?_
  simp -implicitDefEqProofs (disch := omega) only [go_sem, Int.reduceEq, Int.reduceLT, Int.reduceLE, Int.reduceToNat, Int.reduceNeg, Int.reduceAdd, Int.reduceSub, Nat.reduceEqDiff, Nat.reduceAdd, Nat.reduceMul, Nat.reduceLeDiff, Nat.reduceSub, ↓reduceIte, reduceCtorEq, roomL, Tables.av, Tables.cells, Hd.av, Hd.cells]
  repeat (refine And.intro (by omega) ?_)
  refine gN_new fun b4 hb4 => ?_
  try simp only [newIn_put, newIn_upd] at hb4
  simp -implicitDefEqProofs (disch := omega) only [go_sem, Int.reduceEq, Int.reduceLT, Int.reduceLE, Int.reduceToNat, Int.reduceNeg, Int.reduceAdd, Int.reduceSub, Nat.reduceEqDiff, Nat.reduceAdd, Nat.reduceMul, Nat.reduceLeDiff, Nat.reduceSub, ↓reduceIte, reduceCtorEq, roomL, Tables.av, Tables.cells, Hd.av, Hd.cells, hb4]
  repeat (refine And.intro (by omega) ?_)
  refine gN_new fun b5 hb5 => ?_
  try simp only [newIn_put, newIn_upd] at hb5
  simp -implicitDefEqProofs (disch := omega) only [go_sem, Int.reduceEq, Int.reduceLT, Int.reduceLE, Int.reduceToNat, Int.reduceNeg, Int.reduceAdd, Int.reduceSub, Nat.reduceEqDiff, Nat.reduceAdd, Nat.reduceMul, Nat.reduceLeDiff, Nat.reduceSub, ↓reduceIte, reduceCtorEq, roomL, Tables.av, Tables.cells, Hd.av, Hd.cells, hb4, hb5]
  repeat (refine And.intro (by omega) ?_)
  refine gN_new fun b6 hb6 => ?_
  try simp only [newIn_put, newIn_upd] at hb6
  simp -implicitDefEqProofs (disch := omega) only [go_sem, Int.reduceEq, Int.reduceLT, Int.reduceLE, Int.reduceToNat, Int.reduceNeg, Int.reduceAdd, Int.reduceSub, Nat.reduceEqDiff, Nat.reduceAdd, Nat.reduceMul, Nat.reduceLeDiff, Nat.reduceSub, ↓reduceIte, reduceCtorEq, roomL, Tables.av, Tables.cells, Hd.av, Hd.cells, hb4, hb5, hb6]
  repeat (refine And.intro (by omega) ?_)
  refine hq _ _ _ (by simp only [pickL, lk_cons, Nat.reduceEqDiff, ↓reduceIte]; exact rfl) ?_
  clear hq q
  refine wpL_frzP' 4 rfl (by simp only [go_sem, hb4, hb5, hb6]; exact rfl) rfl (by simp only [go_sem, Int.reduceEq, Int.reduceLT, Int.reduceLE, Int.reduceToNat, Int.reduceNeg, Int.reduceAdd, Int.reduceSub, Nat.reduceEqDiff, Nat.reduceAdd, Nat.reduceMul, Nat.reduceLeDiff, Nat.reduceSub, ↓reduceIte, reduceCtorEq]; exact rfl) (by simp only [go_sem, hb4, hb5, hb6]; exact rfl) ?_
  refine wpL_frzP' 5 rfl (by simp only [go_sem, hb4, hb5, hb6]; exact rfl) rfl (by simp only [go_sem, Int.reduceEq, Int.reduceLT, Int.reduceLE, Int.reduceToNat, Int.reduceNeg, Int.reduceAdd, Int.reduceSub, Nat.reduceEqDiff, Nat.reduceAdd, Nat.reduceMul, Nat.reduceLeDiff, Nat.reduceSub, ↓reduceIte, reduceCtorEq]; exact rfl) (by simp only [go_sem, hb4, hb5, hb6]; exact rfl) ?_
  refine wpL_frzP' 6 rfl (by simp only [go_sem, hb4, hb5, hb6]; exact rfl) rfl (by simp only [go_sem, Int.reduceEq, Int.reduceLT, Int.reduceLE, Int.reduceToNat, Int.reduceNeg, Int.reduceAdd, Int.reduceSub, Nat.reduceEqDiff, Nat.reduceAdd, Nat.reduceMul, Nat.reduceLeDiff, Nat.reduceSub, ↓reduceIte, reduceCtorEq]; exact rfl) (by simp only [go_sem, hb4, hb5, hb6]; exact rfl) ?_
  repeat' (first | refine wpL_seq ?_ | refine wpL_skip ?_ | refine wpL_label ?_ | refine wpL_scope ?_)
  refine wpL_regV [3, 4, 5, 6] 31 (.bool false) (by simp only [pickL, put, lk_cons, Int.reduceEq, Int.reduceLT, Int.reduceLE, Int.reduceToNat, Int.reduceNeg, Int.reduceAdd, Int.reduceSub, Nat.reduceEqDiff, Nat.reduceAdd, Nat.reduceMul, Nat.reduceLeDiff, Nat.reduceSub, ↓reduceIte, reduceCtorEq, if_true, if_false]; exact rfl) (by decide) ?_ ?_
  · simp -implicitDefEqProofs (disch := omega) only [go_sem, Int.reduceEq, Int.reduceLT, Int.reduceLE, Int.reduceToNat, Int.reduceNeg, Int.reduceAdd, Int.reduceSub, Nat.reduceEqDiff, Nat.reduceAdd, Nat.reduceMul, Nat.reduceLeDiff, Nat.reduceSub, ↓reduceIte, reduceCtorEq, get_app, Group.cells, Conf.cells, markG, markC, hb4, hb5, hb6]
    repeat' (first | (refine gN_split2 (fun hs => ?_) (fun hs => ?_) <;> simp -implicitDefEqProofs (disch := omega) only [go_sem, Int.reduceEq, Int.reduceLT, Int.reduceLE, Int.reduceToNat, Int.reduceNeg, Int.reduceAdd, Int.reduceSub, Nat.reduceEqDiff, Nat.reduceAdd, Nat.reduceMul, Nat.reduceLeDiff, Nat.reduceSub, ↓reduceIte, reduceCtorEq, hs, get_app, Group.cells, Conf.cells, markG, markC, hb4, hb5, hb6]) | simp -implicitDefEqProofs (disch := omega) only [go_sem, Int.reduceEq, Int.reduceLT, Int.reduceLE, Int.reduceToNat, Int.reduceNeg, Int.reduceAdd, Int.reduceSub, Nat.reduceEqDiff, Nat.reduceAdd, Nat.reduceMul, Nat.reduceLeDiff, Nat.reduceSub, ↓reduceIte, reduceCtorEq, get_app, Group.cells, Conf.cells, markG, markC, hb4, hb5, hb6] | refine And.intro (by omega) ?_)
    all_goals (try clear hK')
    all_goals (simp_all)
  repeat' (first | refine wpL_seq ?_ | refine wpL_skip ?_ | refine wpL_label ?_ | refine wpL_scope ?_)
  refine wpL_cond rfl (fun hc1 => ?_) (fun hc1 => ?_)
  · cases hc1
  clear hc1
  repeat' (first | refine wpL_seq ?_ | refine wpL_skip ?_ | refine wpL_label ?_ | refine wpL_scope ?_)
  refine wpL_regV [3, 4, 5, 6] 71 (.bool false) (by simp only [pickL, put, lk_cons, Int.reduceEq, Int.reduceLT, Int.reduceLE, Int.reduceToNat, Int.reduceNeg, Int.reduceAdd, Int.reduceSub, Nat.reduceEqDiff, Nat.reduceAdd, Nat.reduceMul, Nat.reduceLeDiff, Nat.reduceSub, ↓reduceIte, reduceCtorEq, if_true, if_false]; exact rfl) (by decide) ?_ ?_
  · simp -implicitDefEqProofs (disch := omega) only [go_sem, Int.reduceEq, Int.reduceLT, Int.reduceLE, Int.reduceToNat, Int.reduceNeg, Int.reduceAdd, Int.reduceSub, Nat.reduceEqDiff, Nat.reduceAdd, Nat.reduceMul, Nat.reduceLeDiff, Nat.reduceSub, ↓reduceIte, reduceCtorEq, hl, get_app, c1, c64, hb4, hb5, hb6]
    repeat' (first | (refine gN_split2 (fun hs => ?_) (fun hs => ?_) <;> simp -implicitDefEqProofs (disch := omega) only [go_sem, Int.reduceEq, Int.reduceLT, Int.reduceLE, Int.reduceToNat, Int.reduceNeg, Int.reduceAdd, Int.reduceSub, Nat.reduceEqDiff, Nat.reduceAdd, Nat.reduceMul, Nat.reduceLeDiff, Nat.reduceSub, ↓reduceIte, reduceCtorEq, hs, hl, get_app, c1, c64, hb4, hb5, hb6]) | simp -implicitDefEqProofs (disch := omega) only [go_sem, Int.reduceEq, Int.reduceLT, Int.reduceLE, Int.reduceToNat, Int.reduceNeg, Int.reduceAdd, Int.reduceSub, Nat.reduceEqDiff, Nat.reduceAdd, Nat.reduceMul, Nat.reduceLeDiff, Nat.reduceSub, ↓reduceIte, reduceCtorEq, hl, get_app, c1, c64, hb4, hb5, hb6] | refine And.intro (by omega) ?_)
    all_goals (try clear hK')
    all_goals (simp_all)
  repeat' (first | refine wpL_seq ?_ | refine wpL_skip ?_ | refine wpL_label ?_ | refine wpL_scope ?_)
  refine wpL_cond rfl (fun hc2 => ?_) (fun hc2 => ?_)
  · cases hc2
  clear hc2
  repeat' (first | refine wpL_seq ?_ | refine wpL_skip ?_ | refine wpL_label ?_ | refine wpL_scope ?_)
  refine wpL_region' [3, 4, 5, 6, 9] fun q hq => ?_
  simp -implicitDefEqProofs (disch := omega) only [go_sem, Int.reduceEq, Int.reduceLT, Int.reduceLE, Int.reduceToNat, Int.reduceNeg, Int.reduceAdd, Int.reduceSub, Nat.reduceEqDiff, Nat.reduceAdd, Nat.reduceMul, Nat.reduceLeDiff, Nat.reduceSub, ↓reduceIte, reduceCtorEq, hb4, hb5, hb6]
  repeat (refine And.intro (by omega) ?_)
  refine hq _ _ _ (by simp only [pickL, lk_cons, Nat.reduceEqDiff, ↓reduceIte]; exact rfl) ?_
  clear hq q
  repeat' (first | refine wpL_seq ?_ | refine wpL_skip ?_ | refine wpL_label ?_ | refine wpL_scope ?_)
  refine wpL_block fun k3 hn3 hx3 ho3 => ?_
  refine wpL_loop (fun j e h' => ∃ i : Nat, i ≤ ws.length ∧ j = ws.length - i ∧ h' = Heap.emp ∧
    e = lk [(3, w), (4, .rp (roomL t h ws) 0), (5, .rp t.cells 0), (6, .rp h.cells 0), (9, .int .i64 i)]) ws.length ⟨0, by omega, by omega, rfl, rfl⟩ ?_
  rintro j e h' ⟨i, hi, rfl, rfl, rfl⟩ k4 hn4 hx4
  repeat' (first | refine wpL_seq ?_ | refine wpL_skip ?_ | refine wpL_label ?_ | refine wpL_scope ?_)
  refine wpL_region' [3, 4, 5, 6, 9, 75] fun q hq => ?_
  simp -implicitDefEqProofs (disch := omega) only [go_sem, Int.reduceEq, Int.reduceLT, Int.reduceLE, Int.reduceToNat, Int.reduceNeg, Int.reduceAdd, Int.reduceSub, Nat.reduceEqDiff, Nat.reduceAdd, Nat.reduceMul, Nat.reduceLeDiff, Nat.reduceSub, ↓reduceIte, reduceCtorEq, hl, hb4, hb5, hb6]
  repeat (refine And.intro (by omega) ?_)
  refine hq _ _ _ (by simp only [pickL, lk_cons, Nat.reduceEqDiff, ↓reduceIte]; exact rfl) ?_
  clear hq q
  repeat' (first | refine wpL_seq ?_ | refine wpL_skip ?_ | refine wpL_label ?_ | refine wpL_scope ?_)
  refine wpL_cond rfl (fun hc5 => ?_) (fun hc5 => ?_)
  · simp at hc5
    obtain ⟨x, hx⟩ := get_of_lt hc5
    have hx2 : (ws ++ [777#64])[i]? = some x := by rw [List.getElem?_append_left hc5]; exact hx
    have hix := hw.at hx
    repeat' (first | refine wpL_seq ?_ | refine wpL_skip ?_ | refine wpL_label ?_ | refine wpL_scope ?_)
    refine wpL_block fun k6 hn6 hx6 ho6 => ?_
    repeat' (first | refine wpL_seq ?_ | refine wpL_skip ?_ | refine wpL_label ?_ | refine wpL_scope ?_)
    refine wpL_draw' [3, 4, 5, 6, 9, 87] [0, 2, 5, 6, 7, 1, 3, 4, 8, 9] [] [] (by kernel_rfl) (by kernel_rfl) (by kernel_rfl) fun q hq => ?_
    simp -implicitDefEqProofs (disch := omega) only [go_sem, Int.reduceEq, Int.reduceLT, Int.reduceLE, Int.reduceToNat, Int.reduceNeg, Int.reduceAdd, Int.reduceSub, Nat.reduceEqDiff, Nat.reduceAdd, Nat.reduceMul, Nat.reduceLeDiff, Nat.reduceSub, ↓reduceIte, reduceCtorEq, roomL, hx2, hix, c64, hb4, hb5, hb6]
    repeat (refine And.intro (by omega) ?_)
    refine hq _ _ _ (by simp only [pickL, lk_cons, Nat.reduceEqDiff, ↓reduceIte]; exact rfl) ?_
    clear hq q
    repeat' (first | refine wpL_seq ?_ | refine wpL_skip ?_ | refine wpL_label ?_ | refine wpL_scope ?_)
    refine wpL_cond rfl (fun hc7 => ?_) (fun hc7 => ?_)
    · cases hc7
    repeat' (first | refine wpL_seq ?_ | refine wpL_skip ?_ | refine wpL_label ?_ | refine wpL_scope ?_)
    refine wpL_nil (hn6 _ _ ?_)
    repeat' (first | refine wpL_seq ?_ | refine wpL_skip ?_ | refine wpL_label ?_ | refine wpL_scope ?_)
    refine wpL_region' [3, 4, 5, 6, 9] fun q hq => ?_
    simp -implicitDefEqProofs (disch := omega) only [go_sem, Int.reduceEq, Int.reduceLT, Int.reduceLE, Int.reduceToNat, Int.reduceNeg, Int.reduceAdd, Int.reduceSub, Nat.reduceEqDiff, Nat.reduceAdd, Nat.reduceMul, Nat.reduceLeDiff, Nat.reduceSub, ↓reduceIte, reduceCtorEq, hb4, hb5, hb6]
    repeat (refine And.intro (by omega) ?_)
    refine hq _ _ _ (by simp only [pickL, lk_cons, Nat.reduceEqDiff, ↓reduceIte]; exact rfl) ?_
    clear hq q
    repeat' (first | refine wpL_seq ?_ | refine wpL_skip ?_ | refine wpL_label ?_ | refine wpL_scope ?_)
    exact wpL_nil (hn4 (ws.length - (i + 1)) _ _ (by omega) ⟨i + 1, by omega, by omega, rfl, rfl⟩)
  repeat' (first | refine wpL_seq ?_ | refine wpL_skip ?_ | refine wpL_label ?_ | refine wpL_scope ?_)
  refine wpL_exit (hx4 _ _ _ (by simp) (hx3 _ _ ?_))
  have e1 : tabEq t t = true := by simp [tabEq]
  have e2 : hdEq h h = true := by simp [hdEq]
  repeat' (first | refine wpL_seq ?_ | refine wpL_skip ?_ | refine wpL_label ?_ | refine wpL_scope ?_)
  refine wpL_drawV [] 8 (.bool true) [0, 2, 1, 3, 4, 5, 7, 6, 8, 9, 10] [] [false, false, true, false, false, false, false, true] (by kernel_rfl) (by kernel_rfl) (by kernel_rfl) (by simp only [pickL, put, lk_cons, Int.reduceEq, Int.reduceLT, Int.reduceLE, Int.reduceToNat, Int.reduceNeg, Int.reduceAdd, Int.reduceSub, Nat.reduceEqDiff, Nat.reduceAdd, Nat.reduceMul, Nat.reduceLeDiff, Nat.reduceSub, ↓reduceIte, reduceCtorEq, if_true, if_false]; exact rfl) (by decide) ?_ ?_
  · simp -implicitDefEqProofs (disch := omega) only [go_sem, Int.reduceEq, Int.reduceLT, Int.reduceLE, Int.reduceToNat, Int.reduceNeg, Int.reduceAdd, Int.reduceSub, Nat.reduceEqDiff, Nat.reduceAdd, Nat.reduceMul, Nat.reduceLeDiff, Nat.reduceSub, ↓reduceIte, reduceCtorEq, roomL, Tables.cells, Hd.cells, e1, e2, hb4, hb5, hb6]
    repeat' (first | (refine gN_split2 (fun hs => ?_) (fun hs => ?_) <;> simp -implicitDefEqProofs (disch := omega) only [go_sem, Int.reduceEq, Int.reduceLT, Int.reduceLE, Int.reduceToNat, Int.reduceNeg, Int.reduceAdd, Int.reduceSub, Nat.reduceEqDiff, Nat.reduceAdd, Nat.reduceMul, Nat.reduceLeDiff, Nat.reduceSub, ↓reduceIte, reduceCtorEq, hs, roomL, Tables.cells, Hd.cells, e1, e2, hb4, hb5, hb6]) | refine gN_callP (by first | exact f13_tables t h ws ht | exact f14_heads t h ws hs | exact f47_equal t t ht | exact f34_equal h h hs) ?_ | simp -implicitDefEqProofs (disch := omega) only [go_sem, Int.reduceEq, Int.reduceLT, Int.reduceLE, Int.reduceToNat, Int.reduceNeg, Int.reduceAdd, Int.reduceSub, Nat.reduceEqDiff, Nat.reduceAdd, Nat.reduceMul, Nat.reduceLeDiff, Nat.reduceSub, ↓reduceIte, reduceCtorEq, roomL, Tables.cells, Hd.cells, e1, e2, hb4, hb5, hb6] | refine And.intro (by omega) ?_)
    all_goals (try clear hK'; try clear hn3; try clear hx3; try clear ho3; try clear hn4; try clear hx4; try clear hn6; try clear hx6; try clear ho6)
    all_goals (simp_all)
  repeat' (first | refine wpL_seq ?_ | refine wpL_skip ?_ | refine wpL_label ?_ | refine wpL_scope ?_)
  refine wpL_ret (hK' _ _ _ _ (.inr rfl) (resTo (rs' := [.tmp 8]) rfl (by simp only [go_sem, Int.reduceEq, Int.reduceLT, Int.reduceLE, Int.reduceToNat, Int.reduceNeg, Int.reduceAdd, Int.reduceSub, Nat.reduceEqDiff, Nat.reduceAdd, Nat.reduceMul, Nat.reduceLeDiff, Nat.reduceSub, ↓reduceIte, reduceCtorEq, hb4, hb5, hb6]; exact rfl)) ?_)
  rfl

theorem f4_run (t : Tables) (ws : List (BitVec 64)) (ht : SmallT t) (hw : ws.length ≤ 1048576) : wpP Try.prog 4 [t.av, .rs 1 (ws.map w1)] (.bool true) := by
  obtain ⟨L, E, q24, q25, hL⟩ := run_both t ws ht hw
  have q12 := f12_roomN t ws (.rs 1 (ws.map c64)) (fun h => src_map c64_len c64_leaf h ws) ht (by omega)
  have q23 := f23_keptN t ws (.rs 1 (ws.map c64)) (.inl rfl) ht (by omega)
  have q13 := f13_tables t noHd ws ht
  have tk : List.take ws.length (List.map c64 (ws ++ [777#64])) = List.map c64 ws := take_app
  refine wpP_intro ?_
  refine wpH_intro (fn := Try.f4) rfl rfl (by decide) (by kernel_rfl) fun K' hK' => ?_
  repeat' (first | refine wpL_seq ?_ | refine wpL_skip ?_ | refine wpL_label ?_ | refine wpL_scope ?_)
  refine wpL_region' [1, 2] fun q hq => ?_
  simp -implicitDefEqProofs (disch := omega) only [go_sem, Int.reduceEq, Int.reduceLT, Int.reduceLE, Int.reduceToNat, Int.reduceNeg, Int.reduceAdd, Int.reduceSub, Nat.reduceEqDiff, Nat.reduceAdd, Nat.reduceMul, Nat.reduceLeDiff, Nat.reduceSub, ↓reduceIte, reduceCtorEq, Tables.av, Tables.cells]
  repeat (refine And.intro (by omega) ?_)
  refine gN_new fun b2 hb2 => ?_
  try simp only [newIn_put, newIn_upd] at hb2
  simp -implicitDefEqProofs (disch := omega) only [go_sem, Int.reduceEq, Int.reduceLT, Int.reduceLE, Int.reduceToNat, Int.reduceNeg, Int.reduceAdd, Int.reduceSub, Nat.reduceEqDiff, Nat.reduceAdd, Nat.reduceMul, Nat.reduceLeDiff, Nat.reduceSub, ↓reduceIte, reduceCtorEq, Tables.av, Tables.cells, hb2]
  repeat (refine And.intro (by omega) ?_)
  refine hq _ _ _ (by simp only [pickL, lk_cons, Nat.reduceEqDiff, ↓reduceIte]; exact rfl) ?_
  clear hq q
  refine wpL_frzP' 2 rfl (by simp only [go_sem, hb2]; exact rfl) rfl (by simp only [go_sem, Int.reduceEq, Int.reduceLT, Int.reduceLE, Int.reduceToNat, Int.reduceNeg, Int.reduceAdd, Int.reduceSub, Nat.reduceEqDiff, Nat.reduceAdd, Nat.reduceMul, Nat.reduceLeDiff, Nat.reduceSub, ↓reduceIte, reduceCtorEq]; exact rfl) (by simp only [go_sem, hb2]; exact rfl) ?_
  repeat' (first | refine wpL_seq ?_ | refine wpL_skip ?_ | refine wpL_label ?_ | refine wpL_scope ?_)
  refine wpL_region' [1, 2, 5] fun q hq => ?_
  simp -implicitDefEqProofs (disch := omega) only [go_sem, Int.reduceEq, Int.reduceLT, Int.reduceLE, Int.reduceToNat, Int.reduceNeg, Int.reduceAdd, Int.reduceSub, Nat.reduceEqDiff, Nat.reduceAdd, Nat.reduceMul, Nat.reduceLeDiff, Nat.reduceSub, ↓reduceIte, reduceCtorEq, Tables.cells, roomL, hb2]
  repeat (refine And.intro (by omega) ?_)
  refine gN_callP (q12) ?_
  simp -implicitDefEqProofs (disch := omega) only [go_sem, Int.reduceEq, Int.reduceLT, Int.reduceLE, Int.reduceToNat, Int.reduceNeg, Int.reduceAdd, Int.reduceSub, Nat.reduceEqDiff, Nat.reduceAdd, Nat.reduceMul, Nat.reduceLeDiff, Nat.reduceSub, ↓reduceIte, reduceCtorEq, Tables.cells, roomL, hb2]
  repeat (refine And.intro (by omega) ?_)
  refine gN_new fun b5 hb5 => ?_
  try simp only [newIn_put, newIn_upd] at hb5
  simp -implicitDefEqProofs (disch := omega) only [go_sem, Int.reduceEq, Int.reduceLT, Int.reduceLE, Int.reduceToNat, Int.reduceNeg, Int.reduceAdd, Int.reduceSub, Nat.reduceEqDiff, Nat.reduceAdd, Nat.reduceMul, Nat.reduceLeDiff, Nat.reduceSub, ↓reduceIte, reduceCtorEq, Tables.cells, roomL, hb2, hb5]
  repeat (refine And.intro (by omega) ?_)
  refine hq _ _ _ (by simp only [pickL, lk_cons, Nat.reduceEqDiff, ↓reduceIte]; exact rfl) ?_
  clear hq q
  refine wpL_frzP' 5 rfl (by simp only [go_sem, hb2, hb5]; exact rfl) rfl (by simp only [go_sem, Int.reduceEq, Int.reduceLT, Int.reduceLE, Int.reduceToNat, Int.reduceNeg, Int.reduceAdd, Int.reduceSub, Nat.reduceEqDiff, Nat.reduceAdd, Nat.reduceMul, Nat.reduceLeDiff, Nat.reduceSub, ↓reduceIte, reduceCtorEq]; exact rfl) (by simp only [go_sem, hb2, hb5]; exact rfl) ?_
  repeat' (first | refine wpL_seq ?_ | refine wpL_skip ?_ | refine wpL_label ?_ | refine wpL_scope ?_)
  refine wpL_region' [1, 2, 5, 6, 7] fun q hq => ?_
  simp -implicitDefEqProofs (disch := omega) only [go_sem, Int.reduceEq, Int.reduceLT, Int.reduceLE, Int.reduceToNat, Int.reduceNeg, Int.reduceAdd, Int.reduceSub, Nat.reduceEqDiff, Nat.reduceAdd, Nat.reduceMul, Nat.reduceLeDiff, Nat.reduceSub, ↓reduceIte, reduceCtorEq, Tables.cells, hb2, hb5]
  repeat (refine And.intro (by omega) ?_)
  refine gN_callP (q24) ?_
  simp -implicitDefEqProofs (disch := omega) only [go_sem, Int.reduceEq, Int.reduceLT, Int.reduceLE, Int.reduceToNat, Int.reduceNeg, Int.reduceAdd, Int.reduceSub, Nat.reduceEqDiff, Nat.reduceAdd, Nat.reduceMul, Nat.reduceLeDiff, Nat.reduceSub, ↓reduceIte, reduceCtorEq, Tables.cells, hb2, hb5]
  repeat (refine And.intro (by omega) ?_)
  refine hq _ _ _ (by simp only [pickL, lk_cons, Nat.reduceEqDiff, ↓reduceIte]; exact rfl) ?_
  clear hq q
  repeat' (first | refine wpL_seq ?_ | refine wpL_skip ?_ | refine wpL_label ?_ | refine wpL_scope ?_)
  refine wpL_draw' [1, 2, 5, 6, 7, 8, 9] [2, 4, 5, 0, 3, 6, 1, 7, 8, 9, 10, 11, 12] [] [false, false, false, false, false, false, true] (by kernel_rfl) (by kernel_rfl) (by kernel_rfl) fun q hq => ?_
  simp -implicitDefEqProofs (disch := omega) only [go_sem, Int.reduceEq, Int.reduceLT, Int.reduceLE, Int.reduceToNat, Int.reduceNeg, Int.reduceAdd, Int.reduceSub, Nat.reduceEqDiff, Nat.reduceAdd, Nat.reduceMul, Nat.reduceLeDiff, Nat.reduceSub, ↓reduceIte, reduceCtorEq, roomL, Tables.av, Tables.cells, List.length_map, Nat.sub_zero, tk, hb2, hb5]
  repeat (refine And.intro (by omega) ?_)
  refine gN_callP (q13) ?_
  simp -implicitDefEqProofs (disch := omega) only [go_sem, Int.reduceEq, Int.reduceLT, Int.reduceLE, Int.reduceToNat, Int.reduceNeg, Int.reduceAdd, Int.reduceSub, Nat.reduceEqDiff, Nat.reduceAdd, Nat.reduceMul, Nat.reduceLeDiff, Nat.reduceSub, ↓reduceIte, reduceCtorEq, roomL, Tables.av, Tables.cells, List.length_map, Nat.sub_zero, tk, hb2, hb5]
  repeat (refine And.intro (by omega) ?_)
  refine gN_callP (q25) ?_
  simp -implicitDefEqProofs (disch := omega) only [go_sem, Int.reduceEq, Int.reduceLT, Int.reduceLE, Int.reduceToNat, Int.reduceNeg, Int.reduceAdd, Int.reduceSub, Nat.reduceEqDiff, Nat.reduceAdd, Nat.reduceMul, Nat.reduceLeDiff, Nat.reduceSub, ↓reduceIte, reduceCtorEq, roomL, Tables.av, Tables.cells, List.length_map, Nat.sub_zero, tk, hb2, hb5]
  repeat (refine And.intro (by omega) ?_)
  refine hq _ _ _ (by simp only [pickL, lk_cons, Nat.reduceEqDiff, ↓reduceIte]; exact rfl) ?_
  clear hq q
  repeat' (first | refine wpL_seq ?_ | refine wpL_skip ?_ | refine wpL_label ?_ | refine wpL_scope ?_)
  refine wpL_region' [6, 8, 49] fun q hq => ?_
  simp -implicitDefEqProofs (disch := omega) only [go_sem, Int.reduceEq, Int.reduceLT, Int.reduceLE, Int.reduceToNat, Int.reduceNeg, Int.reduceAdd, Int.reduceSub, Nat.reduceEqDiff, Nat.reduceAdd, Nat.reduceMul, Nat.reduceLeDiff, Nat.reduceSub, ↓reduceIte, reduceCtorEq, decide_true, eq_self, Bool.not_true, Bool.not_false, Tables.cells, roomL, List.length_map, hb2, hb5]
  refine gN_callP q23 ?_
  simp -implicitDefEqProofs (disch := omega) only [go_sem, Int.reduceEq, Int.reduceLT, Int.reduceLE, Int.reduceToNat, Int.reduceNeg, Int.reduceAdd, Int.reduceSub, Nat.reduceEqDiff, Nat.reduceAdd, Nat.reduceMul, Nat.reduceLeDiff, Nat.reduceSub, ↓reduceIte, reduceCtorEq, decide_true, eq_self, Bool.not_true, Bool.not_false, Tables.cells, roomL, List.length_map, hb2, hb5]
  refine hq _ _ _ (by simp only [pickL, lk_cons, Nat.reduceEqDiff, ↓reduceIte]; exact rfl) ?_
  clear hq q
  repeat' (first | refine wpL_seq ?_ | refine wpL_skip ?_ | refine wpL_label ?_ | refine wpL_scope ?_)
  refine wpL_cond rfl (fun hc1 => ?_) (fun hc1 => ?_)
  · cases hc1
  clear hc1
  repeat' (first | refine wpL_seq ?_ | refine wpL_skip ?_ | refine wpL_label ?_ | refine wpL_scope ?_)
  refine wpL_region' [6, 8, 10] fun q hq => ?_
  simp -implicitDefEqProofs (disch := omega) only [go_sem, Int.reduceEq, Int.reduceLT, Int.reduceLE, Int.reduceToNat, Int.reduceNeg, Int.reduceAdd, Int.reduceSub, Nat.reduceEqDiff, Nat.reduceAdd, Nat.reduceMul, Nat.reduceLeDiff, Nat.reduceSub, ↓reduceIte, reduceCtorEq, hb2, hb5]
  repeat (refine And.intro (by omega) ?_)
  refine hq _ _ _ (by simp only [pickL, lk_cons, Nat.reduceEqDiff, ↓reduceIte]; exact rfl) ?_
  clear hq q
  repeat' (first | refine wpL_seq ?_ | refine wpL_skip ?_ | refine wpL_label ?_ | refine wpL_scope ?_)
  refine wpL_block fun k2 hn2 hx2 ho2 => ?_
  refine wpL_loop (fun j e H => ∃ i : Nat, i ≤ L.length ∧ j = L.length - i ∧ H = Heap.emp ∧
    e = lk [(6, .rs 1 (L.map st1)), (8, .rs 1 (L.map st1)), (10, .int .i64 i)]) L.length ⟨0, by omega, by omega, rfl, rfl⟩ ?_
  rintro j e H ⟨i, hi, rfl, rfl, rfl⟩ k3 hn3 hx3
  repeat' (first | refine wpL_seq ?_ | refine wpL_skip ?_ | refine wpL_label ?_ | refine wpL_scope ?_)
  refine wpL_region' [6, 8, 10, 53] fun q hq => ?_
  simp -implicitDefEqProofs (disch := omega) only [go_sem, Int.reduceEq, Int.reduceLT, Int.reduceLE, Int.reduceToNat, Int.reduceNeg, Int.reduceAdd, Int.reduceSub, Nat.reduceEqDiff, Nat.reduceAdd, Nat.reduceMul, Nat.reduceLeDiff, Nat.reduceSub, ↓reduceIte, reduceCtorEq, List.length_map, hb2, hb5]
  repeat (refine And.intro (by omega) ?_)
  refine hq _ _ _ (by simp only [pickL, lk_cons, Nat.reduceEqDiff, ↓reduceIte]; exact rfl) ?_
  clear hq q
  repeat' (first | refine wpL_seq ?_ | refine wpL_skip ?_ | refine wpL_label ?_ | refine wpL_scope ?_)
  refine wpL_cond rfl (fun hc4 => ?_) (fun hc4 => ?_)
  · simp at hc4
    obtain ⟨s, hs⟩ := get_of_lt hc4
    repeat' (first | refine wpL_seq ?_ | refine wpL_skip ?_ | refine wpL_label ?_ | refine wpL_scope ?_)
    refine wpL_block fun k5 hn5 hx5 ho5 => ?_
    repeat' (first | refine wpL_seq ?_ | refine wpL_skip ?_ | refine wpL_label ?_ | refine wpL_scope ?_)
    refine wpL_draw' [6, 8, 10, 64] [0, 1, 2, 4, 5, 6, 3, 7, 8] [] [] (by kernel_rfl) (by kernel_rfl) (by kernel_rfl) fun q hq => ?_
    simp -implicitDefEqProofs (disch := omega) only [go_sem, Int.reduceEq, Int.reduceLT, Int.reduceLE, Int.reduceToNat, Int.reduceNeg, Int.reduceAdd, Int.reduceSub, Nat.reduceEqDiff, Nat.reduceAdd, Nat.reduceMul, Nat.reduceLeDiff, Nat.reduceSub, ↓reduceIte, reduceCtorEq, List.length_map, hs, st1, decide_true, eq_self, hb2, hb5]
    repeat (refine And.intro (by omega) ?_)
    refine hq _ _ _ (by simp only [pickL, lk_cons, Nat.reduceEqDiff, ↓reduceIte]; exact rfl) ?_
    clear hq q
    repeat' (first | refine wpL_seq ?_ | refine wpL_skip ?_ | refine wpL_label ?_ | refine wpL_scope ?_)
    refine wpL_cond rfl (fun hc6 => ?_) (fun hc6 => ?_)
    · exfalso
      simp at hc6
    repeat' (first | refine wpL_seq ?_ | refine wpL_skip ?_ | refine wpL_label ?_ | refine wpL_scope ?_)
    refine wpL_nil (hn5 _ _ ?_)
    repeat' (first | refine wpL_seq ?_ | refine wpL_skip ?_ | refine wpL_label ?_ | refine wpL_scope ?_)
    refine wpL_region' [6, 8, 10] fun q hq => ?_
    simp -implicitDefEqProofs (disch := omega) only [go_sem, Int.reduceEq, Int.reduceLT, Int.reduceLE, Int.reduceToNat, Int.reduceNeg, Int.reduceAdd, Int.reduceSub, Nat.reduceEqDiff, Nat.reduceAdd, Nat.reduceMul, Nat.reduceLeDiff, Nat.reduceSub, ↓reduceIte, reduceCtorEq, hb2, hb5]
    repeat (refine And.intro (by omega) ?_)
    refine hq _ _ _ (by simp only [pickL, lk_cons, Nat.reduceEqDiff, ↓reduceIte]; exact rfl) ?_
    clear hq q
    repeat' (first | refine wpL_seq ?_ | refine wpL_skip ?_ | refine wpL_label ?_ | refine wpL_scope ?_)
    exact wpL_nil (hn3 (L.length - (i + 1)) _ _ (by omega) ⟨i + 1, by omega, by omega, rfl, rfl⟩)
  repeat' (first | refine wpL_seq ?_ | refine wpL_skip ?_ | refine wpL_label ?_ | refine wpL_scope ?_)
  refine wpL_exit (hx3 _ _ _ (by simp) (hx2 _ _ ?_))
  repeat' (first | refine wpL_seq ?_ | refine wpL_skip ?_ | refine wpL_label ?_ | refine wpL_scope ?_)
  refine wpL_region' [4] fun q hq => ?_
  simp -implicitDefEqProofs (disch := omega) only [go_sem, Int.reduceEq, Int.reduceLT, Int.reduceLE, Int.reduceToNat, Int.reduceNeg, Int.reduceAdd, Int.reduceSub, Nat.reduceEqDiff, Nat.reduceAdd, Nat.reduceMul, Nat.reduceLeDiff, Nat.reduceSub, ↓reduceIte, reduceCtorEq, hb2, hb5]
  repeat (refine And.intro (by omega) ?_)
  refine hq _ _ _ (by simp only [pickL, lk_cons, Nat.reduceEqDiff, ↓reduceIte]; exact rfl) ?_
  clear hq q
  repeat' (first | refine wpL_seq ?_ | refine wpL_skip ?_ | refine wpL_label ?_ | refine wpL_scope ?_)
  refine wpL_ret (hK' _ _ _ _ (.inr rfl) (resTo (rs' := [.tmp 4]) rfl (by simp only [go_sem, Int.reduceEq, Int.reduceLT, Int.reduceLE, Int.reduceToNat, Int.reduceNeg, Int.reduceAdd, Int.reduceSub, Nat.reduceEqDiff, Nat.reduceAdd, Nat.reduceMul, Nat.reduceLeDiff, Nat.reduceSub, ↓reduceIte, reduceCtorEq, hb2, hb5]; exact rfl)) ?_)
  rfl
end Go.Proofs.Ytdchdlabdokjnaa.Am.H
