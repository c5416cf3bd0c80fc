/- Copies, and room behind lists. -/
import Derived.Test.YtdchdlabdokjnaaH5
namespace Go.Proofs.Ytdchdlabdokjnaa.Am.H
set_option linter.unusedSectionVars false
open Go Go.Proofs Am
set_option linter.unusedVariables false
set_option linter.unusedSimpArgs false
set_option maxRecDepth 100000
attribute [local irreducible] gO gN gW gdO

theorem Group.len (g : Group) : g.cells.length = 5 := rfl
theorem Conf.len (c : Conf) : c.cells.length = 4 := rfl
theorem c1_len (k : IntKind) (a : Int) : (c1 k a).length = 1 := rfl
theorem flat_leaf {α : Type} {f : α → List AV} (hf : ∀ a, (f a).all AV.leaf = true) : ∀ l : List α, (l.map f).flatten.all AV.leaf = true
  | [] => rfl
  | a :: l => by simp only [List.map_cons, List.flatten_cons, List.all_append, hf a, flat_leaf hf l]; rfl
theorem Group.leaf (g : Group) : g.cells.all AV.leaf = true := rfl
theorem Conf.leaf (c : Conf) : c.cells.all AV.leaf = true := rfl
theorem c1_leaf (k : IntKind) (a : Int) : (c1 k a).all AV.leaf = true := rfl
theorem src_map {α : Type} {f : α → List AV} {s : Nat} (hf : ∀ a, (f a).length = s) (hl : ∀ a, (f a).all AV.leaf = true) (h : Heap) (l : List α) : SrcV h s (.rs s (l.map f)) l.length (l.map f).flatten := by
  have := SrcV.rs (h := h) (s := s) (es := l.map f) (fun e he => by obtain ⟨a, _, rfl⟩ := List.mem_map.1 he; exact hf a) (flat_leaf hl l)
  simpa using this

/-- What is made of its own: two lists. -/
def Own2 (n1 s1 : Nat) (c1 : List AV) (t1 : TypeId) (n2 s2 : Nat) (c2 : List AV) (t2 : TypeId) (v : AV) (h : Heap) : Prop :=
  ∃ b1 b2, v = .agg [.sl b1 0 n1 s1, .sl b2 0 n2 s2] ∧ NewIn (Heap.emp.put b1 ⟨.own, c1, t1, []⟩) b2 ∧ h = (Heap.emp.put b1 ⟨.own, c1, t1, []⟩).put b2 ⟨.own, c2, t2, []⟩

structure SmallT (t : Tables) : Prop where
  g : t.groups.length * 48 ≤ 140737488351232
  c : t.confs.length * 32 ≤ 140737488351232

theorem f42_copy (t : Tables) (hs : SmallT t) : wpH Try.prog 42 [t.av] Heap.emp
    (Own2 t.groups.length 5 (t.groups.map Group.cells).flatten 54 t.confs.length 4 (t.confs.map Conf.cells).flatten 56) := by
  have hg := hs.g
  have hc := hs.c
  refine wpH.le ?_
  refine wpH_intro (fn := Try.f42) rfl rfl (by decide) (by kernel_rfl) fun K' hK' => ?_
  repeat' (first | refine wpL_seq ?_ | refine wpL_skip ?_ | refine wpL_label ?_ | refine wpL_scope ?_)
  refine wpL_region' [1, 2] fun q hq => ?_
  simp -implicitDefEqProofs (disch := omega) only [go_sem, Int.reduceEq, Int.reduceLT, Int.reduceLE, Int.reduceToNat, Int.reduceNeg, Int.reduceAdd, Int.reduceSub, Nat.reduceEqDiff, Nat.reduceAdd, Nat.reduceMul, Nat.reduceLeDiff, Nat.reduceSub, ↓reduceIte, reduceCtorEq, Tables.av, Tables.cells]
  repeat (refine And.intro (by omega) ?_)
  refine gN_new fun b1 hb1 => ?_
  try simp only [newIn_put, newIn_upd] at hb1
  simp -implicitDefEqProofs (disch := omega) only [go_sem, Int.reduceEq, Int.reduceLT, Int.reduceLE, Int.reduceToNat, Int.reduceNeg, Int.reduceAdd, Int.reduceSub, Nat.reduceEqDiff, Nat.reduceAdd, Nat.reduceMul, Nat.reduceLeDiff, Nat.reduceSub, ↓reduceIte, reduceCtorEq, Tables.av, Tables.cells, hb1]
  repeat (refine And.intro (by omega) ?_)
  refine gN_new fun b2 hb2 => ?_
  try simp only [newIn_put, newIn_upd] at hb2
  simp -implicitDefEqProofs (disch := omega) only [go_sem, Int.reduceEq, Int.reduceLT, Int.reduceLE, Int.reduceToNat, Int.reduceNeg, Int.reduceAdd, Int.reduceSub, Nat.reduceEqDiff, Nat.reduceAdd, Nat.reduceMul, Nat.reduceLeDiff, Nat.reduceSub, ↓reduceIte, reduceCtorEq, Tables.av, Tables.cells, hb1, hb2]
  repeat (refine And.intro (by omega) ?_)
  refine hq _ _ _ (by simp only [pickL, lk_cons, Nat.reduceEqDiff, ↓reduceIte]; exact rfl) ?_
  clear hq q
  refine wpL_frzP' 1 rfl (by simp only [go_sem, hb1, hb2]; exact rfl) rfl (by simp only [go_sem, Int.reduceEq, Int.reduceLT, Int.reduceLE, Int.reduceToNat, Int.reduceNeg, Int.reduceAdd, Int.reduceSub, Nat.reduceEqDiff, Nat.reduceAdd, Nat.reduceMul, Nat.reduceLeDiff, Nat.reduceSub, ↓reduceIte, reduceCtorEq]; exact rfl) (by simp only [go_sem, hb1, hb2]; exact rfl) ?_
  repeat' (first | refine wpL_seq ?_ | refine wpL_skip ?_ | refine wpL_label ?_ | refine wpL_scope ?_)
  refine wpL_draw' [2] [0, 3, 1, 4, 2, 5, 6, 7] [] [false, false, false, false, true] (by kernel_rfl) (by kernel_rfl) (by kernel_rfl) fun q hq => ?_
  simp -implicitDefEqProofs (disch := omega) only [go_sem, Int.reduceEq, Int.reduceLT, Int.reduceLE, Int.reduceToNat, Int.reduceNeg, Int.reduceAdd, Int.reduceSub, Nat.reduceEqDiff, Nat.reduceAdd, Nat.reduceMul, Nat.reduceLeDiff, Nat.reduceSub, ↓reduceIte, reduceCtorEq, hb2, hb1, hb2]
  repeat (refine And.intro (by omega) ?_)
  refine gN_appN ti22 rfl ti54 rfl (by decide) (src_map Group.len Group.leaf _ _) (by dsimp only; omega) (by simp only [maxInt]; omega) fun b5 hb5 => ?_
  try simp only [go_sem, hb2, hb1, hb2] at hb5
  simp -implicitDefEqProofs (disch := omega) only [go_sem, Int.reduceEq, Int.reduceLT, Int.reduceLE, Int.reduceToNat, Int.reduceNeg, Int.reduceAdd, Int.reduceSub, Nat.reduceEqDiff, Nat.reduceAdd, Nat.reduceMul, Nat.reduceLeDiff, Nat.reduceSub, ↓reduceIte, reduceCtorEq, hb2, hb1, hb2, hb5]
  repeat (refine And.intro (by omega) ?_)
  refine gN_appN ti23 rfl ti56 rfl (by decide) (src_map Conf.len Conf.leaf _ _) (by dsimp only; omega) (by simp only [maxInt]; omega) fun b8 hb8 => ?_
  try simp only [go_sem, hb2, hb1, hb2, hb5] at hb8
  simp -implicitDefEqProofs (disch := omega) only [go_sem, Int.reduceEq, Int.reduceLT, Int.reduceLE, Int.reduceToNat, Int.reduceNeg, Int.reduceAdd, Int.reduceSub, Nat.reduceEqDiff, Nat.reduceAdd, Nat.reduceMul, Nat.reduceLeDiff, Nat.reduceSub, ↓reduceIte, reduceCtorEq, hb2, hb1, hb2, hb5, hb8]
  repeat (refine And.intro (by omega) ?_)
  refine hq _ _ _ (by simp only [pickL, lk_cons, Nat.reduceEqDiff, ↓reduceIte]; exact rfl) ?_
  clear hq q
  repeat' (first | refine wpL_seq ?_ | refine wpL_skip ?_ | refine wpL_label ?_ | refine wpL_scope ?_)
  refine wpL_ret (hK' _ _ _ _ (.inr rfl) (resTo (rs' := [.cell 2 25]) rfl (by simp only [go_sem, Int.reduceEq, Int.reduceLT, Int.reduceLE, Int.reduceToNat, Int.reduceNeg, Int.reduceAdd, Int.reduceSub, Nat.reduceEqDiff, Nat.reduceAdd, Nat.reduceMul, Nat.reduceLeDiff, Nat.reduceSub, ↓reduceIte, reduceCtorEq, hb2, hb5, hb8, hb1, hb2, hb5, hb8]; exact rfl)) ?_)
  exact ⟨_, Heap.le_put (Heap.le_put (Heap.le_skip Heap.le_refl newIn_emp)), b5, b8, rfl, by simp only [go_sem, hb8], rfl⟩

def Own3 (n1 s1 : Nat) (c1 : List AV) (t1 : TypeId) (n2 s2 : Nat) (c2 : List AV) (t2 : TypeId) (n3 s3 : Nat) (c3 : List AV) (t3 : TypeId) (v : AV) (h : Heap) : Prop :=
  ∃ b1 b2 b3, v = .agg [.sl b1 0 n1 s1, .sl b2 0 n2 s2, .sl b3 0 n3 s3] ∧ NewIn ((Heap.emp.put b1 ⟨.own, c1, t1, []⟩).put b2 ⟨.own, c2, t2, []⟩) b3 ∧ NewIn (Heap.emp.put b1 ⟨.own, c1, t1, []⟩) b2 ∧
    h = ((Heap.emp.put b1 ⟨.own, c1, t1, []⟩).put b2 ⟨.own, c2, t2, []⟩).put b3 ⟨.own, c3, t3, []⟩
structure SmallH (h : Hd) : Prop where
  a : h.aspect.length * 8 ≤ 140737488351232
  i : h.ins.length * 4 ≤ 140737488351232
  w : h.away.length * 4 ≤ 140737488351232
abbrev flat1 (k : IntKind) (l : List Int) : List AV := (l.map (c1 k)).flatten

theorem f37_copy (h : Hd) (hs : SmallH h) : wpH Try.prog 37 [h.av] Heap.emp
    (Own3 h.aspect.length 1 (flat1 .i64 h.aspect) 3 h.ins.length 1 (flat1 .i32 h.ins) 21 h.away.length 1 (flat1 .i32 h.away) 21) := by
  have h1 := hs.a
  have h2 := hs.i
  have h3 := hs.w
  refine wpH.le ?_
  refine wpH_intro (fn := Try.f37) rfl rfl (by decide) (by kernel_rfl) fun K' hK' => ?_
  repeat' (first | refine wpL_seq ?_ | refine wpL_skip ?_ | refine wpL_label ?_ | refine wpL_scope ?_)
  refine wpL_region' [1, 2] fun q hq => ?_
  simp -implicitDefEqProofs (disch := omega) only [go_sem, Int.reduceEq, Int.reduceLT, Int.reduceLE, Int.reduceToNat, Int.reduceNeg, Int.reduceAdd, Int.reduceSub, Nat.reduceEqDiff, Nat.reduceAdd, Nat.reduceMul, Nat.reduceLeDiff, Nat.reduceSub, ↓reduceIte, reduceCtorEq, Hd.av, Hd.cells]
  repeat (refine And.intro (by omega) ?_)
  refine gN_new fun b1 hb1 => ?_
  try simp only [newIn_put, newIn_upd] at hb1
  simp -implicitDefEqProofs (disch := omega) only [go_sem, Int.reduceEq, Int.reduceLT, Int.reduceLE, Int.reduceToNat, Int.reduceNeg, Int.reduceAdd, Int.reduceSub, Nat.reduceEqDiff, Nat.reduceAdd, Nat.reduceMul, Nat.reduceLeDiff, Nat.reduceSub, ↓reduceIte, reduceCtorEq, Hd.av, Hd.cells, hb1]
  repeat (refine And.intro (by omega) ?_)
  refine gN_new fun b2 hb2 => ?_
  try simp only [newIn_put, newIn_upd] at hb2
  simp -implicitDefEqProofs (disch := omega) only [go_sem, Int.reduceEq, Int.reduceLT, Int.reduceLE, Int.reduceToNat, Int.reduceNeg, Int.reduceAdd, Int.reduceSub, Nat.reduceEqDiff, Nat.reduceAdd, Nat.reduceMul, Nat.reduceLeDiff, Nat.reduceSub, ↓reduceIte, reduceCtorEq, Hd.av, Hd.cells, hb1, hb2]
  repeat (refine And.intro (by omega) ?_)
  refine hq _ _ _ (by simp only [pickL, lk_cons, Nat.reduceEqDiff, ↓reduceIte]; exact rfl) ?_
  clear hq q
  refine wpL_frzP' 1 rfl (by simp only [go_sem, hb1, hb2]; exact rfl) rfl (by simp only [go_sem, Int.reduceEq, Int.reduceLT, Int.reduceLE, Int.reduceToNat, Int.reduceNeg, Int.reduceAdd, Int.reduceSub, Nat.reduceEqDiff, Nat.reduceAdd, Nat.reduceMul, Nat.reduceLeDiff, Nat.reduceSub, ↓reduceIte, reduceCtorEq]; exact rfl) (by simp only [go_sem, hb1, hb2]; exact rfl) ?_
  repeat' (first | refine wpL_seq ?_ | refine wpL_skip ?_ | refine wpL_label ?_ | refine wpL_scope ?_)
  refine wpL_draw' [2] [0, 3, 6, 1, 4, 7, 2, 5, 8, 9, 10] [] [false, false, false, false, false, false, true, true] (by kernel_rfl) (by kernel_rfl) (by kernel_rfl) fun q hq => ?_
  simp -implicitDefEqProofs (disch := omega) only [go_sem, Int.reduceEq, Int.reduceLT, Int.reduceLE, Int.reduceToNat, Int.reduceNeg, Int.reduceAdd, Int.reduceSub, Nat.reduceEqDiff, Nat.reduceAdd, Nat.reduceMul, Nat.reduceLeDiff, Nat.reduceSub, ↓reduceIte, reduceCtorEq, hb2, hb1, hb2]
  repeat (refine And.intro (by omega) ?_)
  refine gN_appN ti26 rfl ti3 rfl (by decide) (src_map (c1_len _) (c1_leaf _) _ _) (by dsimp only; omega) (by simp only [maxInt]; omega) fun b5 hb5 => ?_
  try simp only [go_sem, hb2, hb1, hb2] at hb5
  simp -implicitDefEqProofs (disch := omega) only [go_sem, Int.reduceEq, Int.reduceLT, Int.reduceLE, Int.reduceToNat, Int.reduceNeg, Int.reduceAdd, Int.reduceSub, Nat.reduceEqDiff, Nat.reduceAdd, Nat.reduceMul, Nat.reduceLeDiff, Nat.reduceSub, ↓reduceIte, reduceCtorEq, hb2, hb1, hb2, hb5]
  repeat (refine And.intro (by omega) ?_)
  refine gN_appN ti27 rfl ti21 rfl (by decide) (src_map (c1_len _) (c1_leaf _) _ _) (by dsimp only; omega) (by simp only [maxInt]; omega) fun b8 hb8 => ?_
  try simp only [go_sem, hb2, hb1, hb2, hb5] at hb8
  simp -implicitDefEqProofs (disch := omega) only [go_sem, Int.reduceEq, Int.reduceLT, Int.reduceLE, Int.reduceToNat, Int.reduceNeg, Int.reduceAdd, Int.reduceSub, Nat.reduceEqDiff, Nat.reduceAdd, Nat.reduceMul, Nat.reduceLeDiff, Nat.reduceSub, ↓reduceIte, reduceCtorEq, hb2, hb1, hb2, hb5, hb8]
  repeat (refine And.intro (by omega) ?_)
  refine gN_appN ti27 rfl ti21 rfl (by decide) (src_map (c1_len _) (c1_leaf _) _ _) (by dsimp only; omega) (by simp only [maxInt]; omega) fun b11 hb11 => ?_
  try simp only [go_sem, hb2, hb1, hb2, hb5, hb8] at hb11
  simp -implicitDefEqProofs (disch := omega) only [go_sem, Int.reduceEq, Int.reduceLT, Int.reduceLE, Int.reduceToNat, Int.reduceNeg, Int.reduceAdd, Int.reduceSub, Nat.reduceEqDiff, Nat.reduceAdd, Nat.reduceMul, Nat.reduceLeDiff, Nat.reduceSub, ↓reduceIte, reduceCtorEq, hb2, hb1, hb2, hb5, hb8, hb11]
  repeat (refine And.intro (by omega) ?_)
  refine hq _ _ _ (by simp only [pickL, lk_cons, Nat.reduceEqDiff, ↓reduceIte]; exact rfl) ?_
  clear hq q
  repeat' (first | refine wpL_seq ?_ | refine wpL_skip ?_ | refine wpL_label ?_ | refine wpL_scope ?_)
  refine wpL_ret (hK' _ _ _ _ (.inr rfl) (resTo (rs' := [.cell 2 29]) rfl (by simp only [go_sem, Int.reduceEq, Int.reduceLT, Int.reduceLE, Int.reduceToNat, Int.reduceNeg, Int.reduceAdd, Int.reduceSub, Nat.reduceEqDiff, Nat.reduceAdd, Nat.reduceMul, Nat.reduceLeDiff, Nat.reduceSub, ↓reduceIte, reduceCtorEq, hb2, hb5, hb8, hb11, hb1, hb2, hb5, hb8, hb11]; exact rfl)) ?_)
  exact ⟨_, Heap.le_put (Heap.le_put (Heap.le_put (Heap.le_skip Heap.le_refl newIn_emp))), b5, b8, b11, rfl, by simp only [go_sem, hb11], by simp only [go_sem, hb8], rfl⟩
end Go.Proofs.Ytdchdlabdokjnaa.Am.H
