/- Each group's rivals. -/
import Derived.Test.YtapijpaeflefoaaX14
import Derived.Test.YtapijpaeflefoaaAm18
namespace Go.Proofs.Ytapijpaeflefoaa.Am.X
set_option linter.unusedSectionVars false
open Go Go.Proofs Am
set_option linter.unusedVariables false
set_option linter.unusedSimpArgs false
set_option maxRecDepth 100000
attribute [local irreducible] gO gN gW gdO

def rcell (r : Int × Int) : List AV := [.int .i64 r.1, .int .i64 r.2]
/-- The rivals of group g. -/
def rivOf (g : Nat) : List Conf → List (Int × Int)
  | [] => []
  | c :: l => (if c.a = g then [(c.b, c.ba)] else []) ++ (if c.b = g then [(c.a, c.ab)] else []) ++ rivOf g l
theorem rivOf_append (g : Nat) : ∀ l m : List Conf, rivOf g (l ++ m) = rivOf g l ++ rivOf g m
  | [], m => rfl
  | c :: l, m => by simp [rivOf, rivOf_append g l m]
theorem rivOf_length (g : Nat) : ∀ l : List Conf, (rivOf g l).length ≤ 2 * l.length
  | [] => by simp [rivOf]
  | c :: l => by
    have := rivOf_length g l
    simp only [rivOf, List.length_append, List.length_cons]
    split <;> split <;> simp <;> omega
def rivAV (t : Tables) : AV := .rs 1 ((List.range t.groups.length).map fun g => [.rs 2 ((rivOf g t.confs).map rcell)])

theorem f31_rivals (t : Tables) (hok : t.ok = true) (hs : SmallT t) : wpP Try.prog 31 [t.av] (rivAV t) := by
  have h1 := hs.g
  have h2 := hs.c
  have h64 := ok_64 hok
  refine wpP_intro ?_
  refine wpH_intro (fn := Try.f31) rfl rfl (by decide) (by kernel_rfl) fun K' hK' => ?_
  repeat' (first | refine wpL_seq ?_ | refine wpL_skip ?_ | refine wpL_label ?_ | refine wpL_scope ?_)
  refine wpL_region' [1] fun q hq => ?_
  simp -implicitDefEqProofs (disch := omega) only [go_sem, Int.reduceEq, Int.reduceLT, Int.reduceLE, Int.reduceToNat, Int.reduceNeg, Int.reduceAdd, Int.reduceSub, Nat.reduceEqDiff, Nat.reduceAdd, Nat.reduceMul, Nat.reduceLeDiff, Nat.reduceSub, ↓reduceIte, reduceCtorEq, Tables.av, Tables.cells]
  repeat (refine And.intro (by omega) ?_)
  refine gN_new fun b1 hb1 => ?_
  try simp only [newIn_put, newIn_upd] at hb1
  simp -implicitDefEqProofs (disch := omega) only [go_sem, Int.reduceEq, Int.reduceLT, Int.reduceLE, Int.reduceToNat, Int.reduceNeg, Int.reduceAdd, Int.reduceSub, Nat.reduceEqDiff, Nat.reduceAdd, Nat.reduceMul, Nat.reduceLeDiff, Nat.reduceSub, ↓reduceIte, reduceCtorEq, Tables.av, Tables.cells, hb1]
  repeat (refine And.intro (by omega) ?_)
  refine hq _ _ _ (by simp only [pickL, lk_cons, Nat.reduceEqDiff, ↓reduceIte]; exact rfl) ?_
  clear hq q
  refine wpL_frzP' 1 rfl (by simp only [go_sem, hb1]; exact rfl) rfl (by simp only [go_sem, Int.reduceEq, Int.reduceLT, Int.reduceLE, Int.reduceToNat, Int.reduceNeg, Int.reduceAdd, Int.reduceSub, Nat.reduceEqDiff, Nat.reduceAdd, Nat.reduceMul, Nat.reduceLeDiff, Nat.reduceSub, ↓reduceIte, reduceCtorEq]; exact rfl) (by simp only [go_sem, hb1]; exact rfl) ?_
  repeat' (first | refine wpL_seq ?_ | refine wpL_skip ?_ | refine wpL_label ?_ | refine wpL_scope ?_)
  refine wpL_region' [1, 3] fun q hq => ?_
  simp -implicitDefEqProofs (disch := omega) only [go_sem, Int.reduceEq, Int.reduceLT, Int.reduceLE, Int.reduceToNat, Int.reduceNeg, Int.reduceAdd, Int.reduceSub, Nat.reduceEqDiff, Nat.reduceAdd, Nat.reduceMul, Nat.reduceLeDiff, Nat.reduceSub, ↓reduceIte, reduceCtorEq, Tables.cells, hb1]
  repeat (refine And.intro (by omega) ?_)
  refine gN_new fun b9 hb9 => ?_
  try simp only [newIn_put, newIn_upd] at hb9
  simp -implicitDefEqProofs (disch := omega) only [go_sem, Int.reduceEq, Int.reduceLT, Int.reduceLE, Int.reduceToNat, Int.reduceNeg, Int.reduceAdd, Int.reduceSub, Nat.reduceEqDiff, Nat.reduceAdd, Nat.reduceMul, Nat.reduceLeDiff, Nat.reduceSub, ↓reduceIte, reduceCtorEq, Tables.cells, hb1, hb9]
  repeat (refine And.intro (by omega) ?_)
  refine hq _ _ _ (by simp only [pickL, lk_cons, Nat.reduceEqDiff, ↓reduceIte]; exact rfl) ?_
  clear hq q
  repeat' (first | refine wpL_seq ?_ | refine wpL_skip ?_ | refine wpL_label ?_ | refine wpL_scope ?_)
  refine wpL_region' [3, 11, 12, 13] fun q hq => ?_
  simp -implicitDefEqProofs (disch := omega) only [go_sem, Int.reduceEq, Int.reduceLT, Int.reduceLE, Int.reduceToNat, Int.reduceNeg, Int.reduceAdd, Int.reduceSub, Nat.reduceEqDiff, Nat.reduceAdd, Nat.reduceMul, Nat.reduceLeDiff, Nat.reduceSub, ↓reduceIte, reduceCtorEq, Tables.cells, hb1, hb9]
  repeat (refine And.intro (by omega) ?_)
  refine hq _ _ _ (by simp only [pickL, lk_cons, Nat.reduceEqDiff, ↓reduceIte]; exact rfl) ?_
  clear hq q
  repeat' (first | refine wpL_seq ?_ | refine wpL_skip ?_ | refine wpL_label ?_ | refine wpL_scope ?_)
  refine wpL_block fun k2 hn2 hx2 ho2 => ?_
  refine wpL_loop (fun j e h => ∃ (i : Nat) (L : List AV) (M : List (List (List AV))), i ≤ t.confs.length ∧ j = t.confs.length - i ∧ h b9 = some ⟨.own, L, 66, []⟩ ∧ Vecs h 68 2 L M ∧ Off L b9 ∧ M.length = t.groups.length ∧
      (∀ g, g < t.groups.length → M[g]? = some ((rivOf g (t.confs.take i)).map rcell)) ∧
      e = lk [(3, .sl b9 0 t.groups.length 1), (11, .rs 4 (t.confs.map Conf.cells)), (12, .int .i64 t.confs.length), (13, .int .i64 i)]) t.confs.length
    ⟨0, List.replicate t.groups.length .snil, List.replicate t.groups.length [], by omega, by omega, by simp [Heap.put], ⟨by simp, fun i c es hc hes => ?_, fun es hes => ?_, fun i j b o n z o' n' z' _ h1 => ?_⟩, fun i o n z h1 => ?_, by simp, fun g hg => by simp [hg, rivOf], rfl⟩ ?_
  · rw [List.getElem?_replicate] at hc hes
    split at hc
    · rw [if_pos (by assumption)] at hes; cases hc; cases hes; exact .inl ⟨rfl, rfl⟩
    · cases hc
  · obtain ⟨_, rfl⟩ := List.mem_replicate.1 hes
    exact fun e he => by cases he
  · rw [List.getElem?_replicate] at h1; split at h1 <;> cases h1
  · rw [List.getElem?_replicate] at h1; split at h1 <;> cases h1
  rintro j e h ⟨i, L, M, hi, rfl, hb, hV, hoff, hM, hg, rfl⟩ k3 hn3 hx3
  repeat' (first | refine wpL_seq ?_ | refine wpL_skip ?_ | refine wpL_label ?_ | refine wpL_scope ?_)
  refine wpL_region' [3, 11, 12, 13, 14] fun q hq => ?_
  simp -implicitDefEqProofs (disch := omega) only [go_sem, Int.reduceEq, Int.reduceLT, Int.reduceLE, Int.reduceToNat, Int.reduceNeg, Int.reduceAdd, Int.reduceSub, Nat.reduceEqDiff, Nat.reduceAdd, Nat.reduceMul, Nat.reduceLeDiff, Nat.reduceSub, ↓reduceIte, reduceCtorEq, hb1, hb9]
  repeat (refine And.intro (by omega) ?_)
  refine hq _ _ _ (by simp only [pickL, lk_cons, Nat.reduceEqDiff, ↓reduceIte]; exact rfl) ?_
  clear hq q
  repeat' (first | refine wpL_seq ?_ | refine wpL_skip ?_ | refine wpL_label ?_ | refine wpL_scope ?_)
  refine wpL_cond rfl (fun hc4 => ?_) (fun hc4 => ?_)
  · simp at hc4
    obtain ⟨c, hc⟩ := get_of_lt hc4
    obtain ⟨a, b, ha, hb', hab, hbn⟩ := Tables.ok_conf hok (List.mem_of_getElem? hc)
    have hLn := hV.len
    repeat' (first | refine wpL_seq ?_ | refine wpL_skip ?_ | refine wpL_label ?_ | refine wpL_scope ?_)
    refine wpL_block fun k5 hn5 hx5 ho5 => ?_
    repeat' (first | refine wpL_seq ?_ | refine wpL_skip ?_ | refine wpL_label ?_ | refine wpL_scope ?_)
    refine wpL_region' [3, 5, 11, 12, 13] fun q hq => ?_
    simp -implicitDefEqProofs (disch := omega) only [go_sem, Int.reduceEq, Int.reduceLT, Int.reduceLE, Int.reduceToNat, Int.reduceNeg, Int.reduceAdd, Int.reduceSub, Nat.reduceEqDiff, Nat.reduceAdd, Nat.reduceMul, Nat.reduceLeDiff, Nat.reduceSub, ↓reduceIte, reduceCtorEq, hc, Conf.cells, hb1, hb9]
    repeat (refine And.intro (by omega) ?_)
    refine gN_new fun b5 hb5 => ?_
    try simp only [newIn_put, newIn_upd] at hb5
    simp -implicitDefEqProofs (disch := omega) only [go_sem, Int.reduceEq, Int.reduceLT, Int.reduceLE, Int.reduceToNat, Int.reduceNeg, Int.reduceAdd, Int.reduceSub, Nat.reduceEqDiff, Nat.reduceAdd, Nat.reduceMul, Nat.reduceLeDiff, Nat.reduceSub, ↓reduceIte, reduceCtorEq, hc, Conf.cells, hb1, hb9, hb5]
    repeat (refine And.intro (by omega) ?_)
    refine hq _ _ _ (by simp only [pickL, lk_cons, Nat.reduceEqDiff, ↓reduceIte]; exact rfl) ?_
    clear hq q
    refine wpL_frzP' 5 rfl (by simp only [go_sem, hb1, hb9, hb5]; exact rfl) rfl (by simp only [go_sem, Int.reduceEq, Int.reduceLT, Int.reduceLE, Int.reduceToNat, Int.reduceNeg, Int.reduceAdd, Int.reduceSub, Nat.reduceEqDiff, Nat.reduceAdd, Nat.reduceMul, Nat.reduceLeDiff, Nat.reduceSub, ↓reduceIte, reduceCtorEq]; exact rfl) (by simp only [go_sem, hb1, hb9, hb5]; exact rfl) ?_
    obtain ⟨x, hx⟩ := get_of_lt (show a < L.length by omega)
    rw [del_new hb5]
    have hb9 : h b9 ≠ none := by rw [hb]; simp
    have len1 := rivOf_length a (t.confs.take i)
    have len2 := rivOf_length b (t.confs.take i)
    rw [List.length_take, Nat.min_eq_left hi] at len1 len2
    repeat' (first | refine wpL_seq ?_ | refine wpL_skip ?_ | refine wpL_label ?_ | refine wpL_scope ?_)
    refine wpL_draw' [3, 5, 11, 12, 13] [0, 1, 3, 4, 8, 10, 2, 5, 6, 7, 9, 11, 12, 13, 14, 15, 16] [] [false, false, false, false, false, false, false, false, false, false, false, false, false, false, true] (by kernel_rfl) (by kernel_rfl) (by kernel_rfl) fun q hq => ?_
    simp -implicitDefEqProofs (disch := omega) only [go_sem, Int.reduceEq, Int.reduceLT, Int.reduceLE, Int.reduceToNat, Int.reduceNeg, Int.reduceAdd, Int.reduceSub, Nat.reduceEqDiff, Nat.reduceAdd, Nat.reduceMul, Nat.reduceLeDiff, Nat.reduceSub, ↓reduceIte, reduceCtorEq, ha, hb', hb, hx, hb1, hb9, hb5]
    repeat (refine And.intro (by omega) ?_)
    refine gN_new fun b30 hb30 => ?_
    try simp only [newIn_put, newIn_upd] at hb30
    simp -implicitDefEqProofs (disch := omega) only [go_sem, Int.reduceEq, Int.reduceLT, Int.reduceLE, Int.reduceToNat, Int.reduceNeg, Int.reduceAdd, Int.reduceSub, Nat.reduceEqDiff, Nat.reduceAdd, Nat.reduceMul, Nat.reduceLeDiff, Nat.reduceSub, ↓reduceIte, reduceCtorEq, ha, hb', hb, hx, hb1, hb9, hb5, hb30]
    repeat (refine And.intro (by omega) ?_)
    refine gN_appVec (s := 2) (a := a) (M := M) (L := L) (es := (rivOf a (t.confs.take i)).map rcell) (xs := [rcell (↑b, c.ba)]) ti66 rfl ti68 rfl (by decide) (hV.put hb30) hx (hg a (by omega)) (SrcV.sl (by simp only [go_sem] <;> exact rfl) rfl rfl) (by simp [rcell]) (by simp; omega) (by simp [maxInt]; omega) fun c1 h1' hV1 hk1 => ?_
    have hb1' : h1' b9 = some ⟨.own, L, 66, []⟩ := (by rw [(hk1 b9 (by simp only [Heap.put]; split <;> simp [hb]) hoff).1]; simp only [Heap.put]; rw [if_neg (by rintro rfl; exact hb9 hb30)]; exact hb)
    simp -implicitDefEqProofs (disch := omega) only [go_sem, Int.reduceEq, Int.reduceLT, Int.reduceLE, Int.reduceToNat, Int.reduceNeg, Int.reduceAdd, Int.reduceSub, Nat.reduceEqDiff, Nat.reduceAdd, Nat.reduceMul, Nat.reduceLeDiff, Nat.reduceSub, ↓reduceIte, reduceCtorEq, ha, hb', hb, hx, hb1, hb9, hb5, hb30, hb1', hLn, hM]
    repeat (refine And.intro (by omega) ?_)
    refine hq _ _ _ (by simp only [pickL, lk_cons, Nat.reduceEqDiff, ↓reduceIte]; exact rfl) ?_
    clear hq q
    have hoff1 := (hk1 b9 (by simp only [Heap.put]; split <;> simp [hb]) hoff).2
    simp only [List.length_map, List.length_singleton] at hV1 hoff1
    have hV2 := hV1.upd (k := ⟨.own, L.set a (.sl c1 0 ((rivOf a (t.confs.take i)).length + 1) 2), 66, []⟩) hoff1
    have hb2 : (h1'.upd b9 ⟨.own, L.set a (.sl c1 0 ((rivOf a (t.confs.take i)).length + 1) 2), 66, []⟩) b9 = some ⟨.own, L.set a (.sl c1 0 ((rivOf a (t.confs.take i)).length + 1) 2), 66, []⟩ := by simp [Heap.upd]
    clear hk1 hV1
    generalize h1'.upd b9 ⟨.own, L.set a (.sl c1 0 ((rivOf a (t.confs.take i)).length + 1) 2), 66, []⟩ = h2' at hV2 hb2 ⊢
    generalize hL1 : L.set a (.sl c1 0 ((rivOf a (t.confs.take i)).length + 1) 2) = L1 at hV2 hb2 hoff1
    have hL1n : L1.length = M.length := by rw [← hL1, List.length_set]; exact hLn
    have hgb : (M.set a (List.map rcell (rivOf a (List.take i t.confs)) ++ [rcell (↑b, c.ba)]))[b]? = some ((rivOf b (t.confs.take i)).map rcell) := by
      rw [List.getElem?_set_ne (by omega)]; exact hg b (by omega)
    have hb92 : h2' b9 ≠ none := by rw [hb2]; simp
    obtain ⟨x2, hx2'⟩ := get_of_lt (show b < L1.length by omega)
    repeat' (first | refine wpL_seq ?_ | refine wpL_skip ?_ | refine wpL_label ?_ | refine wpL_scope ?_)
    refine wpL_draw' [3, 11, 12, 13] [0, 1, 3, 4, 8, 10, 2, 5, 6, 7, 9, 11, 12, 13, 14, 15, 16] [] [false, false, false, false, false, false, false, false, false, false, false, false, false, false, true] (by kernel_rfl) (by kernel_rfl) (by kernel_rfl) fun q hq => ?_
    simp -implicitDefEqProofs (disch := omega) only [go_sem, Int.reduceEq, Int.reduceLT, Int.reduceLE, Int.reduceToNat, Int.reduceNeg, Int.reduceAdd, Int.reduceSub, Nat.reduceEqDiff, Nat.reduceAdd, Nat.reduceMul, Nat.reduceLeDiff, Nat.reduceSub, ↓reduceIte, reduceCtorEq, ha, hb', hb2, hx2', hb1, hb9, hb5, hb30, hb1', hLn, hM]
    repeat (refine And.intro (by omega) ?_)
    refine gN_new fun b46 hb46 => ?_
    try simp only [newIn_put, newIn_upd] at hb46
    simp -implicitDefEqProofs (disch := omega) only [go_sem, Int.reduceEq, Int.reduceLT, Int.reduceLE, Int.reduceToNat, Int.reduceNeg, Int.reduceAdd, Int.reduceSub, Nat.reduceEqDiff, Nat.reduceAdd, Nat.reduceMul, Nat.reduceLeDiff, Nat.reduceSub, ↓reduceIte, reduceCtorEq, ha, hb', hb2, hx2', hb1, hb9, hb5, hb30, hb1', hLn, hM, hb46]
    repeat (refine And.intro (by omega) ?_)
    refine gN_appVec (s := 2) (a := b) (L := L1) (es := (rivOf b (t.confs.take i)).map rcell) (xs := [rcell (↑a, c.ab)]) ti66 rfl ti68 rfl (by decide) (hV2.put hb46) hx2' hgb (SrcV.sl (by simp only [go_sem] <;> exact rfl) rfl rfl) (by simp [rcell]) (by simp; omega) (by simp [maxInt]; omega) fun c2 h3' hV3 hk3 => ?_
    have hb3' : h3' b9 = some ⟨.own, L1, 66, []⟩ := (by rw [(hk3 b9 (by simp only [Heap.put]; split <;> simp [hb2]) hoff1).1]; simp only [Heap.put]; rw [if_neg (by rintro rfl; exact hb92 hb46)]; exact hb2)
    simp -implicitDefEqProofs (disch := omega) only [go_sem, Int.reduceEq, Int.reduceLT, Int.reduceLE, Int.reduceToNat, Int.reduceNeg, Int.reduceAdd, Int.reduceSub, Nat.reduceEqDiff, Nat.reduceAdd, Nat.reduceMul, Nat.reduceLeDiff, Nat.reduceSub, ↓reduceIte, reduceCtorEq, ha, hb', hb2, hx2', hb1, hb9, hb5, hb30, hb1', hLn, hM, hb46, hb3', hL1n, hM]
    repeat (refine And.intro (by omega) ?_)
    refine hq _ _ _ (by simp only [pickL, lk_cons, Nat.reduceEqDiff, ↓reduceIte]; exact rfl) ?_
    clear hq q
    have hoff3 := (hk3 b9 (by simp only [Heap.put]; split <;> simp [hb2]) hoff1).2
    simp only [List.length_map, List.length_singleton] at hV3 hoff3
    have hV4 := hV3.upd (k := ⟨.own, L1.set b (.sl c2 0 ((rivOf b (t.confs.take i)).length + 1) 2), 66, []⟩) hoff3
    repeat' (first | refine wpL_seq ?_ | refine wpL_skip ?_ | refine wpL_label ?_ | refine wpL_scope ?_)
    refine wpL_nil (hn5 _ _ ?_)
    repeat' (first | refine wpL_seq ?_ | refine wpL_skip ?_ | refine wpL_label ?_ | refine wpL_scope ?_)
    refine wpL_region' [3, 11, 12, 13] fun q hq => ?_
    simp -implicitDefEqProofs (disch := omega) only [go_sem, Int.reduceEq, Int.reduceLT, Int.reduceLE, Int.reduceToNat, Int.reduceNeg, Int.reduceAdd, Int.reduceSub, Nat.reduceEqDiff, Nat.reduceAdd, Nat.reduceMul, Nat.reduceLeDiff, Nat.reduceSub, ↓reduceIte, reduceCtorEq, hb1, hb9, hb5, hb30, hb1', hLn, hM, hb46, hb3', hL1n, hM]
    repeat (refine And.intro (by omega) ?_)
    refine hq _ _ _ (by simp only [pickL, lk_cons, Nat.reduceEqDiff, ↓reduceIte]; exact rfl) ?_
    clear hq q
    repeat' (first | refine wpL_seq ?_ | refine wpL_skip ?_ | refine wpL_label ?_ | refine wpL_scope ?_)
    refine wpL_nil (hn3 (t.confs.length - (i + 1)) _ _ (by omega) ⟨i + 1, _, _, by omega, by omega, by simp [Heap.upd], hV4, hoff3, by simp [hM], fun g hgl => ?_, rfl⟩)
    have ht1 : t.confs.take (i + 1) = t.confs.take i ++ [c] := by rw [List.take_add_one, hc]; rfl
    rw [ht1, rivOf_append]
    simp only [rivOf, ha, hb', List.append_nil]
    by_cases g1 : g = b
    · subst g1
      rw [List.getElem?_set_self (by simp; omega)]
      rw [if_neg (by omega), if_pos rfl]
      simp
    · rw [List.getElem?_set_ne (Ne.symm g1)]
      by_cases g2 : g = a
      · subst g2
        rw [List.getElem?_set_self (by omega), if_pos rfl, if_neg (by omega)]
        simp
      · rw [List.getElem?_set_ne (Ne.symm g2), hg g hgl, if_neg (by omega), if_neg (by omega)]
        simp
  simp at hc4
  have hin : i = t.confs.length := by omega
  subst hin
  repeat' (first | refine wpL_seq ?_ | refine wpL_skip ?_ | refine wpL_label ?_ | refine wpL_scope ?_)
  refine wpL_exit (hx3 _ _ _ (by simp) (hx2 _ _ ?_))
  refine wpL_pick' [3] (by simp only [pickL, lk_cons, Nat.reduceEqDiff, ↓reduceIte]; exact rfl) ?_
  repeat' (first | refine wpL_seq ?_ | refine wpL_skip ?_ | refine wpL_label ?_ | refine wpL_scope ?_)
  refine wpL_frzVecs 3 rfl hb hM hV hoff fun h' => ?_
  simp only [setL]
  repeat' (first | refine wpL_seq ?_ | refine wpL_skip ?_ | refine wpL_label ?_ | refine wpL_scope ?_)
  refine wpL_region' [2] fun q hq => ?_
  simp -implicitDefEqProofs (disch := omega) only [go_sem, Int.reduceEq, Int.reduceLT, Int.reduceLE, Int.reduceToNat, Int.reduceNeg, Int.reduceAdd, Int.reduceSub, Nat.reduceEqDiff, Nat.reduceAdd, Nat.reduceMul, Nat.reduceLeDiff, Nat.reduceSub, ↓reduceIte, reduceCtorEq, hb1, hb9]
  repeat (refine And.intro (by omega) ?_)
  refine hq _ _ _ (by simp only [pickL, lk_cons, Nat.reduceEqDiff, ↓reduceIte]; exact rfl) ?_
  clear hq q
  repeat' (first | refine wpL_seq ?_ | refine wpL_skip ?_ | refine wpL_label ?_ | refine wpL_scope ?_)
  refine wpL_ret (hK' _ _ _ _ (.inr rfl) (resTo (rs' := [.tmp 2]) rfl (by simp only [go_sem, Int.reduceEq, Int.reduceLT, Int.reduceLE, Int.reduceToNat, Int.reduceNeg, Int.reduceAdd, Int.reduceSub, Nat.reduceEqDiff, Nat.reduceAdd, Nat.reduceMul, Nat.reduceLeDiff, Nat.reduceSub, ↓reduceIte, reduceCtorEq, hb1, hb9]; exact rfl)) ?_)
  have hMM : M = (List.range t.groups.length).map fun g => (rivOf g t.confs).map rcell := by
    refine List.ext_getElem? fun g => ?_
    by_cases hgl : g < t.groups.length
    · rw [hg g hgl, List.take_length]; simp [hgl]
    · rw [List.getElem?_eq_none (by omega), List.getElem?_eq_none (by simp; omega)]
  rw [hMM]
  simp [rivAV, Function.comp_def]
end Go.Proofs.Ytapijpaeflefoaa.Am.X
