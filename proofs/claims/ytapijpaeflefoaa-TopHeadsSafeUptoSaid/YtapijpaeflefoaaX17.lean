/- The heads behind a step. -/
import Derived.Test.YtapijpaeflefoaaX16
namespace Go.Proofs.Ytapijpaeflefoaa.Am.X
set_option linter.unusedSectionVars false
open Go Go.Proofs Am
set_option linter.unusedVariables false
set_option linter.unusedSimpArgs false
set_option maxRecDepth 100000
attribute [local irreducible] gO gN gW gdO

def inOf (n a x : Int) : Int := if n = a then upOf x else 1
def awOf (n y : Int) : Int := if n = 2 then 0 else upOf y
def insFrom : List Int → List Int → List Int → List Int
  | n :: ns, a :: bs, x :: xs => inOf n a x :: insFrom ns bs xs
  | _, _, _ => []
def awFrom : List Int → List Int → List Int
  | n :: ns, y :: ys => awOf n y :: awFrom ns ys
  | _, _ => []
def afterHd (t : Tables) (h : Hd) (w : BitVec 64) : Hd := ⟨nextL t h w, insFrom (nextL t h w) h.aspect h.ins, awFrom (nextL t h w) h.away⟩
theorem alonesFrom_length (w : BitVec 64) : ∀ (i : Nat) (gs : List Group) (bs xs : List Int), bs.length = gs.length → xs.length = gs.length → (alonesFrom w i gs bs xs).length = gs.length
  | i, [], [], [], _, _ => rfl
  | i, g :: gs, a :: bs, x :: xs, h1, h2 => by simp [alonesFrom, alonesFrom_length w (i + 1) gs bs xs (by simpa using h1) (by simpa using h2)]
theorem secondFrom_length (cs : List Conf) (aw : List Int) (w : BitVec 64) : ∀ (i : Nat) (gs : List Group) (bs now : List Int), (secondFrom cs aw w i gs bs now).length = now.length
  | i, [], bs, now => by simp [secondFrom]
  | i, g :: gs, [], now => by simp [secondFrom]
  | i, g :: gs, a :: bs, now => by
    simp only [secondFrom]
    rw [secondFrom_length]
    split <;> simp
theorem nextL_length {t : Tables} {h : Hd} {w : BitVec 64} (h1 : h.aspect.length = t.groups.length) (h2 : h.ins.length = t.groups.length) : (nextL t h w).length = t.groups.length := by
  rw [nextL, secondFrom_length, alonesFrom_length _ _ _ _ _ h1 h2]

abbrev di (a : Int) : AV := .int .i32 a
theorem set_di {A : List Int} {i : Nat} {v : Int} (h : i < A.length) : (A.map di).take i ++ [.int .i32 v] ++ (A.map di).drop (i + 1) = (A.set i v).map di := by
  rw [set_of_take (by simpa using h), List.map_set]
theorem set_di' {A : List Int} {i : Nat} {v : Int} (h : i < A.length) : (A.map di).take i ++ .int .i32 v :: (A.map di).drop (i + 1) = (A.set i v).map di := by
  rw [← set_di h]; simp
theorem di_flat (l : List Int) : l.map di = (l.map (c1 .i32)).flatten := by
  induction l with
  | nil => rfl
  | cons x l ih => rw [List.map_cons, ih]; rfl
theorem f16_after (t : Tables) (h : Hd) (w : BitVec 64) (hs : SmallT t) (hh : SmallH h) (hI : I32 h) (hso : sound t h = true) : wpP Try.prog 16 [t.av, h.av, .int .u64 w.toNat] (afterHd t h w).av := by
  have hok : t.ok = true := (by simp only [sound, Bool.and_eq_true] at hso; exact hso.1.1.1)
  have h64 := ok_64 hok
  obtain ⟨l0, l1, l2, l3, l4⟩ := sound_len hso
  have hnl := nextL_length (w := w) l1 l2
  refine wpP_frz ?_
  refine wpH_intro (fn := Try.f16) rfl rfl (by decide) (by kernel_rfl) fun K' hK' => ?_
  repeat' (first | refine wpL_seq ?_ | refine wpL_skip ?_ | refine wpL_label ?_ | refine wpL_scope ?_)
  refine wpL_region' [2, 3, 4, 6] fun q hq => ?_
  simp -implicitDefEqProofs (disch := omega) only [go_sem, Int.reduceEq, Int.reduceLT, Int.reduceLE, Int.reduceToNat, Int.reduceNeg, Int.reduceAdd, Int.reduceSub, Nat.reduceEqDiff, Nat.reduceAdd, Nat.reduceMul, Nat.reduceLeDiff, Nat.reduceSub, ↓reduceIte, reduceCtorEq, Tables.av, Tables.cells, Hd.av, Hd.cells]
  repeat (refine And.intro (by omega) ?_)
  refine gN_new fun b3 hb3 => ?_
  try simp only [newIn_put, newIn_upd] at hb3
  simp -implicitDefEqProofs (disch := omega) only [go_sem, Int.reduceEq, Int.reduceLT, Int.reduceLE, Int.reduceToNat, Int.reduceNeg, Int.reduceAdd, Int.reduceSub, Nat.reduceEqDiff, Nat.reduceAdd, Nat.reduceMul, Nat.reduceLeDiff, Nat.reduceSub, ↓reduceIte, reduceCtorEq, Tables.av, Tables.cells, Hd.av, Hd.cells, hb3]
  repeat (refine And.intro (by omega) ?_)
  refine gN_new fun b4 hb4 => ?_
  try simp only [newIn_put, newIn_upd] at hb4
  simp -implicitDefEqProofs (disch := omega) only [go_sem, Int.reduceEq, Int.reduceLT, Int.reduceLE, Int.reduceToNat, Int.reduceNeg, Int.reduceAdd, Int.reduceSub, Nat.reduceEqDiff, Nat.reduceAdd, Nat.reduceMul, Nat.reduceLeDiff, Nat.reduceSub, ↓reduceIte, reduceCtorEq, Tables.av, Tables.cells, Hd.av, Hd.cells, hb3, hb4]
  repeat (refine And.intro (by omega) ?_)
  refine gN_new fun b6 hb6 => ?_
  try simp only [newIn_put, newIn_upd] at hb6
  simp -implicitDefEqProofs (disch := omega) only [go_sem, Int.reduceEq, Int.reduceLT, Int.reduceLE, Int.reduceToNat, Int.reduceNeg, Int.reduceAdd, Int.reduceSub, Nat.reduceEqDiff, Nat.reduceAdd, Nat.reduceMul, Nat.reduceLeDiff, Nat.reduceSub, ↓reduceIte, reduceCtorEq, Tables.av, Tables.cells, Hd.av, Hd.cells, hb3, hb4, hb6]
  repeat (refine And.intro (by omega) ?_)
  refine hq _ _ _ (by simp only [pickL, lk_cons, Nat.reduceEqDiff, ↓reduceIte]; exact rfl) ?_
  clear hq q
  refine wpL_frzP' 3 rfl (by simp only [go_sem, hb3, hb4, hb6]; exact rfl) rfl (by simp only [go_sem, Int.reduceEq, Int.reduceLT, Int.reduceLE, Int.reduceToNat, Int.reduceNeg, Int.reduceAdd, Int.reduceSub, Nat.reduceEqDiff, Nat.reduceAdd, Nat.reduceMul, Nat.reduceLeDiff, Nat.reduceSub, ↓reduceIte, reduceCtorEq]; exact rfl) (by simp only [go_sem, hb3, hb4, hb6]; exact rfl) ?_
  refine wpL_frzP' 4 rfl (by simp only [go_sem, hb3, hb4, hb6]; exact rfl) rfl (by simp only [go_sem, Int.reduceEq, Int.reduceLT, Int.reduceLE, Int.reduceToNat, Int.reduceNeg, Int.reduceAdd, Int.reduceSub, Nat.reduceEqDiff, Nat.reduceAdd, Nat.reduceMul, Nat.reduceLeDiff, Nat.reduceSub, ↓reduceIte, reduceCtorEq]; exact rfl) (by simp only [go_sem, hb3, hb4, hb6]; exact rfl) ?_
  repeat' (first | refine wpL_seq ?_ | refine wpL_skip ?_ | refine wpL_label ?_ | refine wpL_scope ?_)
  refine wpL_region' [4, 6, 7] fun q hq => ?_
  simp -implicitDefEqProofs (disch := omega) only [go_sem, Int.reduceEq, Int.reduceLT, Int.reduceLE, Int.reduceToNat, Int.reduceNeg, Int.reduceAdd, Int.reduceSub, Nat.reduceEqDiff, Nat.reduceAdd, Nat.reduceMul, Nat.reduceLeDiff, Nat.reduceSub, ↓reduceIte, reduceCtorEq, Tables.cells, Hd.cells, hb3, hb4, hb6]
  repeat (refine And.intro (by omega) ?_)
  refine gN_new fun b16 hb16 => ?_
  try simp only [newIn_put, newIn_upd] at hb16
  simp -implicitDefEqProofs (disch := omega) only [go_sem, Int.reduceEq, Int.reduceLT, Int.reduceLE, Int.reduceToNat, Int.reduceNeg, Int.reduceAdd, Int.reduceSub, Nat.reduceEqDiff, Nat.reduceAdd, Nat.reduceMul, Nat.reduceLeDiff, Nat.reduceSub, ↓reduceIte, reduceCtorEq, Tables.cells, Hd.cells, hb3, hb4, hb6, hb16]
  repeat (refine And.intro (by omega) ?_)
  refine hq _ _ _ (by simp only [pickL, lk_cons, Nat.reduceEqDiff, ↓reduceIte]; exact rfl) ?_
  clear hq q
  refine wpL_frzP' 7 rfl (by simp only [go_sem, hb3, hb4, hb6, hb16]; exact rfl) rfl (by simp only [go_sem, Int.reduceEq, Int.reduceLT, Int.reduceLE, Int.reduceToNat, Int.reduceNeg, Int.reduceAdd, Int.reduceSub, Nat.reduceEqDiff, Nat.reduceAdd, Nat.reduceMul, Nat.reduceLeDiff, Nat.reduceSub, ↓reduceIte, reduceCtorEq]; exact rfl) (by simp only [go_sem, hb3, hb4, hb6, hb16]; exact rfl) ?_
  repeat' (first | refine wpL_seq ?_ | refine wpL_skip ?_ | refine wpL_label ?_ | refine wpL_scope ?_)
  refine wpL_region' [4, 6, 7, 8] fun q hq => ?_
  simp -implicitDefEqProofs (disch := omega) only [go_sem, Int.reduceEq, Int.reduceLT, Int.reduceLE, Int.reduceToNat, Int.reduceNeg, Int.reduceAdd, Int.reduceSub, Nat.reduceEqDiff, Nat.reduceAdd, Nat.reduceMul, Nat.reduceLeDiff, Nat.reduceSub, ↓reduceIte, reduceCtorEq, Hd.cells, hb3, hb4, hb6, hb16]
  repeat (refine And.intro (by omega) ?_)
  refine hq _ _ _ (by simp only [pickL, lk_cons, Nat.reduceEqDiff, ↓reduceIte]; exact rfl) ?_
  clear hq q
  repeat' (first | refine wpL_seq ?_ | refine wpL_skip ?_ | refine wpL_label ?_ | refine wpL_scope ?_)
  refine wpL_draw' [4, 6, 9] [0, 2, 4, 1, 3, 5, 6, 7, 8] [] [] (by kernel_rfl) (by kernel_rfl) (by kernel_rfl) fun q hq => ?_
  simp -implicitDefEqProofs (disch := omega) only [go_sem, Int.reduceEq, Int.reduceLT, Int.reduceLE, Int.reduceToNat, Int.reduceNeg, Int.reduceAdd, Int.reduceSub, Nat.reduceEqDiff, Nat.reduceAdd, Nat.reduceMul, Nat.reduceLeDiff, Nat.reduceSub, ↓reduceIte, reduceCtorEq, hb3, hb4, hb6, hb16]
  repeat (refine And.intro (by omega) ?_)
  refine gN_callP (f22_next t h w hs hh hI hso) ?_
  simp -implicitDefEqProofs (disch := omega) only [go_sem, Int.reduceEq, Int.reduceLT, Int.reduceLE, Int.reduceToNat, Int.reduceNeg, Int.reduceAdd, Int.reduceSub, Nat.reduceEqDiff, Nat.reduceAdd, Nat.reduceMul, Nat.reduceLeDiff, Nat.reduceSub, ↓reduceIte, reduceCtorEq, hb3, hb4, hb6, hb16]
  repeat (refine And.intro (by omega) ?_)
  refine gN_new fun b23 hb23 => ?_
  try simp only [newIn_put, newIn_upd] at hb23
  simp -implicitDefEqProofs (disch := omega) only [go_sem, Int.reduceEq, Int.reduceLT, Int.reduceLE, Int.reduceToNat, Int.reduceNeg, Int.reduceAdd, Int.reduceSub, Nat.reduceEqDiff, Nat.reduceAdd, Nat.reduceMul, Nat.reduceLeDiff, Nat.reduceSub, ↓reduceIte, reduceCtorEq, hb3, hb4, hb6, hb16, hb23]
  repeat (refine And.intro (by omega) ?_)
  refine gN_new fun b25 hb25 => ?_
  try simp only [newIn_put, newIn_upd] at hb25
  simp -implicitDefEqProofs (disch := omega) only [go_sem, Int.reduceEq, Int.reduceLT, Int.reduceLE, Int.reduceToNat, Int.reduceNeg, Int.reduceAdd, Int.reduceSub, Nat.reduceEqDiff, Nat.reduceAdd, Nat.reduceMul, Nat.reduceLeDiff, Nat.reduceSub, ↓reduceIte, reduceCtorEq, hb3, hb4, hb6, hb16, hb23, hb25]
  repeat (refine And.intro (by omega) ?_)
  refine gN_new fun b9 hb9 => ?_
  try simp only [newIn_put, newIn_upd] at hb9
  simp -implicitDefEqProofs (disch := omega) only [go_sem, Int.reduceEq, Int.reduceLT, Int.reduceLE, Int.reduceToNat, Int.reduceNeg, Int.reduceAdd, Int.reduceSub, Nat.reduceEqDiff, Nat.reduceAdd, Nat.reduceMul, Nat.reduceLeDiff, Nat.reduceSub, ↓reduceIte, reduceCtorEq, hb3, hb4, hb6, hb16, hb23, hb25, hb9]
  repeat (refine And.intro (by omega) ?_)
  refine hq _ _ _ (by simp only [pickL, lk_cons, Nat.reduceEqDiff, ↓reduceIte]; exact rfl) ?_
  clear hq q
  refine wpL_frzP' 9 rfl (by simp only [go_sem, hb3, hb4, hb6, hb16, hb23, hb25, hb9]; exact rfl) rfl (by simp only [go_sem, Int.reduceEq, Int.reduceLT, Int.reduceLE, Int.reduceToNat, Int.reduceNeg, Int.reduceAdd, Int.reduceSub, Nat.reduceEqDiff, Nat.reduceAdd, Nat.reduceMul, Nat.reduceLeDiff, Nat.reduceSub, ↓reduceIte, reduceCtorEq]; exact rfl) (by simp only [go_sem, hb3, hb4, hb6, hb16, hb23, hb25, hb9]; exact rfl) ?_
  repeat' (first | refine wpL_seq ?_ | refine wpL_skip ?_ | refine wpL_label ?_ | refine wpL_scope ?_)
  refine wpL_region' [4, 6, 9, 28, 29, 30] fun q hq => ?_
  simp -implicitDefEqProofs (disch := omega) only [go_sem, Int.reduceEq, Int.reduceLT, Int.reduceLE, Int.reduceToNat, Int.reduceNeg, Int.reduceAdd, Int.reduceSub, Nat.reduceEqDiff, Nat.reduceAdd, Nat.reduceMul, Nat.reduceLeDiff, Nat.reduceSub, ↓reduceIte, reduceCtorEq, List.length_map, hnl, hb3, hb4, hb6, hb16, hb23, hb25, hb9]
  repeat (refine And.intro (by omega) ?_)
  refine hq _ _ _ (by simp only [pickL, lk_cons, Nat.reduceEqDiff, ↓reduceIte]; exact rfl) ?_
  clear hq q
  repeat' (first | refine wpL_seq ?_ | refine wpL_skip ?_ | refine wpL_label ?_ | refine wpL_scope ?_)
  refine wpL_block fun k1 hn1 hx1 ho1 => ?_
  generalize hNX : nextL t h w = NX at hnl
  refine wpL_loop (fun j e h' => ∃ (i : Nat) (A B : List Int), i ≤ t.groups.length ∧ j = t.groups.length - i ∧ h' = ((Heap.emp.put b6 ⟨.own, [.snil, .snil, .snil], 41, []⟩).put b23 ⟨.own, A.map di, 21, []⟩).put b25 ⟨.own, B.map di, 21, []⟩ ∧
      A.length = t.groups.length ∧ B.length = t.groups.length ∧ A.take i ++ insFrom (NX.drop i) (h.aspect.drop i) (h.ins.drop i) = insFrom NX h.aspect h.ins ∧
      B.take i ++ awFrom (NX.drop i) (h.away.drop i) = awFrom NX h.away ∧ B.drop i = List.replicate (t.groups.length - i) 0 ∧
      e = lk [(4, .rp h.cells 0), (6, .ptr b6 0), (9, .rp [.rs 1 (NX.map (c1 .i64)), .sl b23 0 t.groups.length 1, .sl b25 0 t.groups.length 1] 0), (28, .rs 1 (NX.map (c1 .i64))), (29, .int .i64 t.groups.length), (30, .int .i64 i)]) t.groups.length
    ⟨0, List.replicate t.groups.length 0, List.replicate t.groups.length 0, by omega, by omega, by simp [di, l1], by simp, by simp, by simp, by simp, by simp, by simp only [← hNX, l1]; rfl⟩ ?_
  rintro j e h' ⟨i, A, B, hi, rfl, rfl, hA, hB, hP, hQ, hZ, rfl⟩ k2 hn2 hx2
  repeat' (first | refine wpL_seq ?_ | refine wpL_skip ?_ | refine wpL_label ?_ | refine wpL_scope ?_)
  refine wpL_region' [4, 6, 9, 28, 29, 30, 31] fun q hq => ?_
  simp -implicitDefEqProofs (disch := omega) only [go_sem, Int.reduceEq, Int.reduceLT, Int.reduceLE, Int.reduceToNat, Int.reduceNeg, Int.reduceAdd, Int.reduceSub, Nat.reduceEqDiff, Nat.reduceAdd, Nat.reduceMul, Nat.reduceLeDiff, Nat.reduceSub, ↓reduceIte, reduceCtorEq, hb3, hb4, hb6, hb16, hb23, hb25, hb9]
  repeat (refine And.intro (by omega) ?_)
  refine hq _ _ _ (by simp only [pickL, lk_cons, Nat.reduceEqDiff, ↓reduceIte]; exact rfl) ?_
  clear hq q
  repeat' (first | refine wpL_seq ?_ | refine wpL_skip ?_ | refine wpL_label ?_ | refine wpL_scope ?_)
  refine wpL_cond rfl (fun hc3 => ?_) (fun hc3 => ?_)
  · simp at hc3
    obtain ⟨n, hn⟩ := get_of_lt (show i < NX.length by omega)
    obtain ⟨a, ha⟩ := get_of_lt (show i < h.aspect.length by omega)
    obtain ⟨x, hx⟩ := get_of_lt (show i < h.ins.length by omega)
    obtain ⟨y, hy⟩ := get_of_lt (show i < h.away.length by omega)
    have hxr := hI.i x (List.mem_of_getElem? hx)
    have hyr := hI.w y (List.mem_of_getElem? hy)
    rw [drop_get hn, drop_get ha, drop_get hx, insFrom] at hP
    rw [drop_get hn, drop_get hy, awFrom] at hQ
    repeat' (first | refine wpL_seq ?_ | refine wpL_skip ?_ | refine wpL_label ?_ | refine wpL_scope ?_)
    refine wpL_block fun k4 hn4 hx4 ho4 => ?_
    repeat' (first | refine wpL_seq ?_ | refine wpL_skip ?_ | refine wpL_label ?_ | refine wpL_scope ?_)
    refine wpL_region' [4, 6, 9, 10, 11, 28, 29, 30] fun q hq => ?_
    simp -implicitDefEqProofs (disch := omega) only [go_sem, Int.reduceEq, Int.reduceLT, Int.reduceLE, Int.reduceToNat, Int.reduceNeg, Int.reduceAdd, Int.reduceSub, Nat.reduceEqDiff, Nat.reduceAdd, Nat.reduceMul, Nat.reduceLeDiff, Nat.reduceSub, ↓reduceIte, reduceCtorEq, hn, c1, hb3, hb4, hb6, hb16, hb23, hb25, hb9]
    repeat (refine And.intro (by omega) ?_)
    refine hq _ _ _ (by simp only [pickL, lk_cons, Nat.reduceEqDiff, ↓reduceIte]; exact rfl) ?_
    clear hq q
    repeat' (first | refine wpL_seq ?_ | refine wpL_skip ?_ | refine wpL_label ?_ | refine wpL_scope ?_)
    refine wpL_region' [4, 6, 9, 10, 11, 28, 29, 30] fun q hq => ?_
    simp -implicitDefEqProofs (disch := omega) only [go_sem, Int.reduceEq, Int.reduceLT, Int.reduceLE, Int.reduceToNat, Int.reduceNeg, Int.reduceAdd, Int.reduceSub, Nat.reduceEqDiff, Nat.reduceAdd, Nat.reduceMul, Nat.reduceLeDiff, Nat.reduceSub, ↓reduceIte, reduceCtorEq, hA, List.length_map, set_di (show i < A.length by omega), set_di' (show i < A.length by omega), hb3, hb4, hb6, hb16, hb23, hb25, hb9]
    repeat (refine And.intro (by omega) ?_)
    refine hq _ _ _ (by simp only [pickL, lk_cons, Nat.reduceEqDiff, ↓reduceIte]; exact rfl) ?_
    clear hq q
    repeat' (first | refine wpL_seq ?_ | refine wpL_skip ?_ | refine wpL_label ?_ | refine wpL_scope ?_)
    refine wpL_region' [4, 6, 9, 10, 11, 28, 29, 30, 45] fun q hq => ?_
    simp -implicitDefEqProofs (disch := omega) only [go_sem, Int.reduceEq, Int.reduceLT, Int.reduceLE, Int.reduceToNat, Int.reduceNeg, Int.reduceAdd, Int.reduceSub, Nat.reduceEqDiff, Nat.reduceAdd, Nat.reduceMul, Nat.reduceLeDiff, Nat.reduceSub, ↓reduceIte, reduceCtorEq, ha, c1, Hd.cells, hb3, hb4, hb6, hb16, hb23, hb25, hb9]
    repeat (refine And.intro (by omega) ?_)
    refine hq _ _ _ (by simp only [pickL, lk_cons, Nat.reduceEqDiff, ↓reduceIte]; exact rfl) ?_
    clear hq q
    repeat' (first | refine wpL_seq ?_ | refine wpL_skip ?_ | refine wpL_label ?_ | refine wpL_scope ?_)
    refine wpL_condK rfl fun j5 hj5 ox5 => ?_
    have tail5 : ∀ v, v = inOf n a x → j5 .normal (lk [(4, .rp h.cells 0), (6, .ptr b6 0), (9, .rp [.rs 1 (NX.map (c1 .i64)), .sl b23 0 t.groups.length 1, .sl b25 0 t.groups.length 1] 0), (10, .int .i64 i), (11, .int .i64 n), (28, .rs 1 (NX.map (c1 .i64))), (29, .int .i64 t.groups.length), (30, .int .i64 i)])
        (((Heap.emp.put b6 ⟨.own, [.snil, .snil, .snil], 41, []⟩).put b23 ⟨.own, (A.set i v).map di, 21, []⟩).put b25 ⟨.own, B.map di, 21, []⟩) := by
      intro v hv
      refine hj5 _ _ ?_
      repeat' (first | refine wpL_seq ?_ | refine wpL_skip ?_ | refine wpL_label ?_ | refine wpL_scope ?_)
      refine wpL_region' [4, 6, 9, 10, 28, 29, 30, 57] fun q hq => ?_
      simp -implicitDefEqProofs (disch := omega) only [go_sem, Int.reduceEq, Int.reduceLT, Int.reduceLE, Int.reduceToNat, Int.reduceNeg, Int.reduceAdd, Int.reduceSub, Nat.reduceEqDiff, Nat.reduceAdd, Nat.reduceMul, Nat.reduceLeDiff, Nat.reduceSub, ↓reduceIte, reduceCtorEq, hb3, hb4, hb6, hb16, hb23, hb25, hb9]
      repeat (refine And.intro (by omega) ?_)
      refine hq _ _ _ (by simp only [pickL, lk_cons, Nat.reduceEqDiff, ↓reduceIte]; exact rfl) ?_
      clear hq q
      repeat' (first | refine wpL_seq ?_ | refine wpL_skip ?_ | refine wpL_label ?_ | refine wpL_scope ?_)
      refine wpL_condK rfl fun j6 hj6 ox6 => ?_
      have tail6 : ∀ u, u = awOf n y → j6 .normal (lk [(4, .rp h.cells 0), (6, .ptr b6 0), (9, .rp [.rs 1 (NX.map (c1 .i64)), .sl b23 0 t.groups.length 1, .sl b25 0 t.groups.length 1] 0), (28, .rs 1 (NX.map (c1 .i64))), (29, .int .i64 t.groups.length), (30, .int .i64 i)])
          (((Heap.emp.put b6 ⟨.own, [.snil, .snil, .snil], 41, []⟩).put b23 ⟨.own, (A.set i v).map di, 21, []⟩).put b25 ⟨.own, (B.set i u).map di, 21, []⟩) := by
        intro u hu
        refine hj6 _ _ ?_
        repeat' (first | refine wpL_seq ?_ | refine wpL_skip ?_ | refine wpL_label ?_ | refine wpL_scope ?_)
        refine wpL_nil (hn4 _ _ ?_)
        repeat' (first | refine wpL_seq ?_ | refine wpL_skip ?_ | refine wpL_label ?_ | refine wpL_scope ?_)
        refine wpL_region' [4, 6, 9, 28, 29, 30] fun q hq => ?_
        simp -implicitDefEqProofs (disch := omega) only [go_sem, Int.reduceEq, Int.reduceLT, Int.reduceLE, Int.reduceToNat, Int.reduceNeg, Int.reduceAdd, Int.reduceSub, Nat.reduceEqDiff, Nat.reduceAdd, Nat.reduceMul, Nat.reduceLeDiff, Nat.reduceSub, ↓reduceIte, reduceCtorEq, hb3, hb4, hb6, hb16, hb23, hb25, hb9]
        repeat (refine And.intro (by omega) ?_)
        refine hq _ _ _ (by simp only [pickL, lk_cons, Nat.reduceEqDiff, ↓reduceIte]; exact rfl) ?_
        clear hq q
        repeat' (first | refine wpL_seq ?_ | refine wpL_skip ?_ | refine wpL_label ?_ | refine wpL_scope ?_)
        exact wpL_nil (hn2 (t.groups.length - (i + 1)) _ _ (by omega) ⟨i + 1, A.set i v, B.set i u, by omega, by omega, rfl, by simp [hA], by simp [hB],
          by rw [take_set_succ (by omega), List.append_assoc, hv]; exact hP, by rw [take_set_succ (by omega), List.append_assoc, hu]; exact hQ,
          by rw [List.drop_set_of_lt (by omega), ← List.drop_drop, hZ]; simp; omega, rfl⟩)
      refine ⟨fun hc6 => ?_, fun hc6 => ?_⟩
      · repeat' (first | refine wpL_seq ?_ | refine wpL_skip ?_ | refine wpL_label ?_ | refine wpL_scope ?_)
        refine wpL_draw' [4, 6, 9, 28, 29, 30] [0, 2, 3, 5, 1, 4, 6, 7, 8, 9, 10] [] [false, false, false, false, false, false, false, false, true] (by kernel_rfl) (by kernel_rfl) (by kernel_rfl) fun q hq => ?_
        simp -implicitDefEqProofs (disch := omega) only [go_sem, Int.reduceEq, Int.reduceLT, Int.reduceLE, Int.reduceToNat, Int.reduceNeg, Int.reduceAdd, Int.reduceSub, Nat.reduceEqDiff, Nat.reduceAdd, Nat.reduceMul, Nat.reduceLeDiff, Nat.reduceSub, ↓reduceIte, reduceCtorEq, Hd.cells, hy, c1, hB, List.length_map, set_di (show i < B.length by omega), set_di' (show i < B.length by omega), hb3, hb4, hb6, hb16, hb23, hb25, hb9]
        repeat (refine And.intro (by omega) ?_)
        refine gN_callP (f23_up y hyr) ?_
        simp -implicitDefEqProofs (disch := omega) only [go_sem, Int.reduceEq, Int.reduceLT, Int.reduceLE, Int.reduceToNat, Int.reduceNeg, Int.reduceAdd, Int.reduceSub, Nat.reduceEqDiff, Nat.reduceAdd, Nat.reduceMul, Nat.reduceLeDiff, Nat.reduceSub, ↓reduceIte, reduceCtorEq, Hd.cells, hy, c1, hB, List.length_map, set_di (show i < B.length by omega), set_di' (show i < B.length by omega), hb3, hb4, hb6, hb16, hb23, hb25, hb9]
        repeat (refine And.intro (by omega) ?_)
        refine hq _ _ _ (by simp only [pickL, lk_cons, Nat.reduceEqDiff, ↓reduceIte]; exact rfl) ?_
        clear hq q
        repeat' (first | refine wpL_seq ?_ | refine wpL_skip ?_ | refine wpL_label ?_ | refine wpL_scope ?_)
        exact wpL_nil (tail6 _ (by simp at hc6; simp [awOf, hc6]))
      · refine wpL_pick' [4, 6, 9, 28, 29, 30] (by simp only [pickL, lk_cons, Nat.reduceEqDiff, ↓reduceIte]; exact rfl) ?_
        repeat' (first | refine wpL_seq ?_ | refine wpL_skip ?_ | refine wpL_label ?_ | refine wpL_scope ?_)
        repeat' (first | refine wpL_seq ?_ | refine wpL_skip ?_ | refine wpL_label ?_ | refine wpL_scope ?_)
        have hB0 : B[i]? = some 0 := by
          have := congrArg (·[0]?) hZ
          simp only [List.getElem?_drop, Nat.add_zero, List.getElem?_replicate] at this
          rw [this, if_pos (by omega)]
        have hBs : B.set i 0 = B := by
          refine List.ext_getElem? fun k => ?_
          by_cases hk : i = k
          · subst hk; rw [List.getElem?_set_self (by omega), hB0]
          · rw [List.getElem?_set_ne hk]
        have t6 := tail6 0 (by simp at hc6; simp [awOf, hc6])
        rw [hBs] at t6
        exact wpL_nil t6
    refine ⟨fun hc5 => ?_, fun hc5 => ?_⟩
    · repeat' (first | refine wpL_seq ?_ | refine wpL_skip ?_ | refine wpL_label ?_ | refine wpL_scope ?_)
      refine wpL_draw' [4, 6, 9, 10, 11, 28, 29, 30] [0, 2, 3, 5, 1, 4, 6, 7, 8, 9, 10] [] [false, false, false, false, false, false, false, false, true] (by kernel_rfl) (by kernel_rfl) (by kernel_rfl) fun q hq => ?_
      simp -implicitDefEqProofs (disch := omega) only [go_sem, Int.reduceEq, Int.reduceLT, Int.reduceLE, Int.reduceToNat, Int.reduceNeg, Int.reduceAdd, Int.reduceSub, Nat.reduceEqDiff, Nat.reduceAdd, Nat.reduceMul, Nat.reduceLeDiff, Nat.reduceSub, ↓reduceIte, reduceCtorEq, Hd.cells, hx, c1, hA, List.length_set, List.length_map, set_di (show i < (A.set i 1).length by simp; omega), set_di' (show i < (A.set i 1).length by simp; omega), List.set_set, hb3, hb4, hb6, hb16, hb23, hb25, hb9]
      repeat (refine And.intro (by omega) ?_)
      refine gN_callP (f23_up x hxr) ?_
      simp -implicitDefEqProofs (disch := omega) only [go_sem, Int.reduceEq, Int.reduceLT, Int.reduceLE, Int.reduceToNat, Int.reduceNeg, Int.reduceAdd, Int.reduceSub, Nat.reduceEqDiff, Nat.reduceAdd, Nat.reduceMul, Nat.reduceLeDiff, Nat.reduceSub, ↓reduceIte, reduceCtorEq, Hd.cells, hx, c1, hA, List.length_set, List.length_map, set_di (show i < (A.set i 1).length by simp; omega), set_di' (show i < (A.set i 1).length by simp; omega), List.set_set, hb3, hb4, hb6, hb16, hb23, hb25, hb9]
      repeat (refine And.intro (by omega) ?_)
      refine hq _ _ _ (by simp only [pickL, lk_cons, Nat.reduceEqDiff, ↓reduceIte]; exact rfl) ?_
      clear hq q
      repeat' (first | refine wpL_seq ?_ | refine wpL_skip ?_ | refine wpL_label ?_ | refine wpL_scope ?_)
      exact wpL_nil (tail5 _ (by simp at hc5; simp [inOf, hc5]))
    · refine wpL_pick' [4, 6, 9, 10, 11, 28, 29, 30] (by simp only [pickL, lk_cons, Nat.reduceEqDiff, ↓reduceIte]; exact rfl) ?_
      repeat' (first | refine wpL_seq ?_ | refine wpL_skip ?_ | refine wpL_label ?_ | refine wpL_scope ?_)
      repeat' (first | refine wpL_seq ?_ | refine wpL_skip ?_ | refine wpL_label ?_ | refine wpL_scope ?_)
      exact wpL_nil (tail5 1 (by simp at hc5; simp [inOf, hc5]))
  simp at hc3
  have hin : i = t.groups.length := by omega
  subst hin
  rw [List.take_of_length_le (by omega), List.drop_eq_nil_of_le (by omega), insFrom.eq_2 _ _ _ (by simp), List.append_nil] at hP
  rw [List.take_of_length_le (by omega), List.drop_eq_nil_of_le (by omega), awFrom.eq_2 _ _ (by simp), List.append_nil] at hQ
  repeat' (first | refine wpL_seq ?_ | refine wpL_skip ?_ | refine wpL_label ?_ | refine wpL_scope ?_)
  refine wpL_exit (hx2 _ _ _ (by simp) (hx1 _ _ ?_))
  repeat' (first | refine wpL_seq ?_ | refine wpL_skip ?_ | refine wpL_label ?_ | refine wpL_scope ?_)
  refine wpL_region' [6] fun q hq => ?_
  simp -implicitDefEqProofs (disch := omega) only [go_sem, Int.reduceEq, Int.reduceLT, Int.reduceLE, Int.reduceToNat, Int.reduceNeg, Int.reduceAdd, Int.reduceSub, Nat.reduceEqDiff, Nat.reduceAdd, Nat.reduceMul, Nat.reduceLeDiff, Nat.reduceSub, ↓reduceIte, reduceCtorEq, hb3, hb4, hb6, hb16, hb23, hb25, hb9]
  repeat (refine And.intro (by omega) ?_)
  refine hq _ _ _ (by simp only [pickL, lk_cons, Nat.reduceEqDiff, ↓reduceIte]; exact rfl) ?_
  clear hq q
  repeat' (first | refine wpL_seq ?_ | refine wpL_skip ?_ | refine wpL_label ?_ | refine wpL_scope ?_)
  refine wpL_ret (hK' _ _ _ _ (.inr rfl) (resTo (rs' := [.cell 6 41]) rfl (by simp only [go_sem, Int.reduceEq, Int.reduceLT, Int.reduceLE, Int.reduceToNat, Int.reduceNeg, Int.reduceAdd, Int.reduceSub, Nat.reduceEqDiff, Nat.reduceAdd, Nat.reduceMul, Nat.reduceLeDiff, Nat.reduceSub, ↓reduceIte, reduceCtorEq, hb3, hb4, hb6, hb16, hb23, hb25, hb9]; exact rfl)) ?_)
  subst hP; subst hQ; subst hNX
  refine ⟨[⟨b23, 1, t.groups.length, (insFrom (nextL t h w) h.aspect h.ins).map (c1 .i32)⟩, ⟨b25, 1, t.groups.length, (awFrom (nextL t h w) h.away).map (c1 .i32)⟩], .cons (by simp only [go_sem, hb3, hb4, hb6, hb16, hb23, hb25, hb9] <;> exact rfl) rfl (Els.of (c1_len _) _ (di_flat _) hA) (by simp only [go_sem, hb3, hb4, hb6, hb16, hb23, hb25, hb9]) (.cons (by simp only [go_sem, hb3, hb4, hb6, hb16, hb23, hb25, hb9] <;> exact rfl) rfl (Els.of (c1_len _) _ (di_flat _) hB) (by simp only [go_sem, hb3, hb4, hb6, hb16, hb23, hb25, hb9]) (.nil)), ?_⟩
  simp only [go_sem, Int.reduceEq, Int.reduceLT, Int.reduceLE, Int.reduceToNat, Int.reduceNeg, Int.reduceAdd, Int.reduceSub, Nat.reduceEqDiff, Nat.reduceAdd, Nat.reduceMul, Nat.reduceLeDiff, Nat.reduceSub, ↓reduceIte, reduceCtorEq, hb3, hb4, hb6, hb16, hb23, hb25, hb9]
  rfl
end Go.Proofs.Ytapijpaeflefoaa.Am.X
