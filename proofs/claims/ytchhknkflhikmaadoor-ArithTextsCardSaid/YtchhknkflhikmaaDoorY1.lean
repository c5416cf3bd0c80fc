/- A number written in decimal digits: strconv. -/
import Derived.Test.YtchhknkflhikmaaDoorOT
import Derived.Test.YtchhknkflhikmaaDoorAm18
import Derived.Test.YtchhknkflhikmaaDoorAQ
namespace Go.Proofs.YtchhknkflhikmaaDoor.Am.Y
set_option linter.unusedSectionVars false
open Go Go.Proofs Am Am.P
set_option linter.unusedVariables false
set_option linter.unusedSimpArgs false
set_option maxRecDepth 100000
def pow10L : List Int := [1, 10, 100, 1000, 10000, 100000, 1000000, 10000000, 100000000, 1000000000, 10000000000, 100000000000, 1000000000000, 10000000000000, 100000000000000, 1000000000000000, 10000000000000000, 100000000000000000, 1000000000000000000, 10000000000000000000]
def pow10C : List AV := pow10L.map fun n => .int .u64 n
instance : Tab := ⟨fun g => if g = 1 then some pow10C else none⟩
attribute [local irreducible] gO gN gW gdO
theorem get_of_lt {α : Type} {l : List α} {i : Nat} (h : i < l.length) : ∃ x, l[i]? = some x := ⟨l[i], List.getElem?_eq_getElem h⟩
theorem drop_get {α : Type} {l : List α} {i : Nat} {x : α} (h : l[i]? = some x) : l.drop i = x :: l.drop (i + 1) := by
  obtain ⟨hi, rfl⟩ := List.getElem?_eq_some_iff.1 h
  exact List.drop_eq_getElem_cons hi

theorem smC : (([48, 48, 48, 49, 48, 50, 48, 51, 48, 52, 48, 53, 48, 54, 48, 55, 48, 56, 48, 57, 49, 48, 49, 49, 49, 50, 49, 51, 49, 52, 49, 53, 49, 54, 49, 55, 49, 56, 49, 57, 50, 48, 50, 49, 50, 50, 50, 51, 50, 52] : List UInt8).append [50, 53, 50, 54, 50, 55, 50, 56, 50, 57, 51, 48, 51, 49, 51, 50, 51, 51, 51, 52, 51, 53, 51, 54, 51, 55, 51, 56, 51, 57, 52, 48, 52, 49, 52, 50, 52, 51, 52, 52, 52, 53, 52, 54, 52, 55, 52, 56, 52, 57]).append (List.append [53, 48, 53, 49, 53, 50, 53, 51, 53, 52, 53, 53, 53, 54, 53, 55, 53, 56, 53, 57, 54, 48, 54, 49, 54, 50, 54, 51, 54, 52, 54, 53, 54, 54, 54, 55, 54, 56, 54, 57, 55, 48, 55, 49, 55, 50, 55, 51, 55, 52] [55, 53, 55, 54, 55, 55, 55, 56, 55, 57, 56, 48, 56, 49, 56, 50, 56, 51, 56, 52, 56, 53, 56, 54, 56, 55, 56, 56, 56, 57, 57, 48, 57, 49, 57, 50, 57, 51, 57, 52, 57, 53, 57, 54, 57, 55, 57, 56, 57, 57]) = smallsL := rfl
theorem td8 (a : Nat) : Int.tdiv (a : Int) 100000000 = ((a / 100000000 : Nat) : Int) := rfl
theorem td4 (a : Nat) : Int.tdiv (a : Int) 10000 = ((a / 10000 : Nat) : Int) := rfl
theorem td2 (a : Nat) : Int.tdiv (a : Int) 100 = ((a / 100 : Nat) : Int) := rfl
theorem tm8 (a : Nat) : Int.tmod (a : Int) 100000000 = ((a % 100000000 : Nat) : Int) := rfl
theorem tm4 (a : Nat) : Int.tmod (a : Int) 10000 = ((a % 10000 : Nat) : Int) := rfl
theorem tm2 (a : Nat) : Int.tmod (a : Int) 100 = ((a % 100 : Nat) : Int) := rfl
theorem w32 {n : Nat} (h : n < 4294967296) : IntKind.wrap .u32 (n : Int) = (n : Int) := wrapU32 (by omega) (by omega)
theorem w64 {n : Nat} (h : n < 18446744073709551616) : IntKind.wrap .u64 (n : Int) = (n : Int) := wrapU64 (by omega) (by omega)
theorem tw2 {n : Nat} (h : n < 100) : IntKind.wrap .u32 ((n : Int) * 2) = ((2 * n : Nat) : Int) := by rw [wrapU32 (by omega) (by omega)]; omega
theorem tw1 {n : Nat} (h : n < 100) : IntKind.wrap .u32 (((2 * n : Nat) : Int) + 1) = ((2 * n + 1 : Nat) : Int) := by rw [wrapU32 (by omega) (by omega)]; omega
theorem wrap8N {n : Nat} (h : n < 256) : IntKind.wrap .u8 (n : Int) = (n : Int) := by
  simp only [IntKind.wrap, IntKind.bits, IntKind.signed]; simp; omega
theorem setA {W V : List UInt8} {p : Nat} (b : UInt8) (h : W.length = p + 3) : List.take (1 + (p + 1)) ((W ++ V).map byc) ++ [AV.int .u8 b.toNat] ++ List.drop (1 + (p + 1) + 1) ((W ++ V).map byc) = ((W ++ V).set (p + 2) b).map byc := by
  rw [List.map_set, show 1 + (p + 1) = p + 2 by omega]
  refine set_of_take ?_
  rw [List.length_map, List.length_append]; omega
theorem setB {W V : List UInt8} {p : Nat} (a b : UInt8) (h : W.length = p + 3) : List.take (1 + p) (((W ++ V).set (p + 2) b).map byc) ++ [AV.int .u8 a.toNat] ++ List.drop (1 + p + 1) (((W ++ V).set (p + 2) b).map byc) = (W.take (p + 1) ++ (a :: b :: V)).map byc := by
  rw [show 1 + p = p + 1 by omega]
  have e := set2 W V (p + 1) a b (by omega)
  rw [List.append_assoc] at e
  rw [show W.take (p + 1) ++ (a :: b :: V) = ((W ++ V).set (p + 2) b).set (p + 1) a from e.symm, List.map_set (f := byc) (l := (W ++ V).set (p + 2) b)]
  refine set_of_take ?_
  rw [List.length_map, List.length_set, List.length_append]; omega
theorem lenA {W V : List UInt8} {p : Nat} (h : W.length = p + 3) : (List.take (1 + (p + 1)) ((W ++ V).map byc)).length + 1 + (List.drop (1 + (p + 1) + 1) ((W ++ V).map byc)).length = W.length + V.length := by
  simp; omega
set_option maxHeartbeats 2000000 in
theorem f53_fmt (h : Heap) (b : Nat) (Z X R : List UInt8) (u : Nat) (ty : TypeId) (hb : h b = some ⟨.own, (Z ++ X ++ R).map byc, ty, []⟩) (hZ : Z.length = 1) (hX : X.length < 24) (hu : u < 10 ^ X.length) (hu6 : u < 18446744073709551616) :
    wpH Tryd.prog 53 [.sl b 1 X.length 1, .int .u64 u] h fun v h' => v = .tup [] ∧ h' = h.upd b ⟨.own, (Z ++ padD X.length u ++ R).map byc, ty, []⟩ := by
  refine wpH_intro (fn := Tryd.f53) rfl rfl (by decide) (by kernel_rfl) fun K' hK' => ?_
  repeat' (first | refine wpL_seq ?_ | refine wpL_skip ?_ | refine wpL_label ?_ | refine wpL_scope ?_)
  refine wpL_region' [0, 1, 4] fun q hq => ?_
  simp -implicitDefEqProofs (disch := omega) only [go_sem, Int.reduceEq, Int.reduceLT, Int.reduceLE, Int.reduceToNat, Int.reduceNeg, Int.reduceAdd, Int.reduceSub, Nat.reduceEqDiff, Nat.reduceAdd, Nat.reduceMul, Nat.reduceLeDiff, Nat.reduceSub, ↓reduceIte, reduceCtorEq]
  repeat (refine And.intro (by omega) ?_)
  refine hq _ _ _ (by simp only [pickL, lk_cons, Nat.reduceEqDiff, ↓reduceIte]; exact rfl) ?_
  clear hq q
  repeat' (first | refine wpL_seq ?_ | refine wpL_skip ?_ | refine wpL_label ?_ | refine wpL_scope ?_)
  refine wpL_block fun k1 hn1 hx1 ho1 => ?_
  refine wpL_loop (fun j e h' => ∃ (i w : Nat) (Y T : List UInt8), i ≤ X.length ∧ j = i ∧ Y.length = i ∧ w < 10 ^ i ∧ w ≤ u ∧ padD X.length u = padD i w ++ T ∧ h' = h.upd b ⟨.own, ((Z ++ Y) ++ (T ++ R)).map byc, ty, []⟩ ∧
    e = lk [(0, .sl b 1 X.length 1), (1, .int .u64 w), (4, .int .i64 i)]) X.length ⟨X.length, u, X, [], Nat.le_refl _, rfl, rfl, hu, Nat.le_refl _, by simp, by rw [upd_id (by simpa using hb)], rfl⟩ ?_
  rintro j e h' ⟨i, w, Y, T, hi, rfl, hY, hw, hwu, hP, rfl, rfl⟩ k2 hn2 hx2
  repeat' (first | refine wpL_seq ?_ | refine wpL_skip ?_ | refine wpL_label ?_ | refine wpL_scope ?_)
  refine wpL_region' [0, 1, 4, 20] fun q hq => ?_
  simp -implicitDefEqProofs (disch := omega) only [go_sem, Int.reduceEq, Int.reduceLT, Int.reduceLE, Int.reduceToNat, Int.reduceNeg, Int.reduceAdd, Int.reduceSub, Nat.reduceEqDiff, Nat.reduceAdd, Nat.reduceMul, Nat.reduceLeDiff, Nat.reduceSub, ↓reduceIte, reduceCtorEq]
  repeat (refine And.intro (by omega) ?_)
  refine hq _ _ _ (by simp only [pickL, lk_cons, Nat.reduceEqDiff, ↓reduceIte]; exact rfl) ?_
  clear hq q
  repeat' (first | refine wpL_seq ?_ | refine wpL_skip ?_ | refine wpL_label ?_ | refine wpL_scope ?_)
  refine wpL_cond rfl (fun hc3 => ?_) (fun hc3 => ?_)
  · have hc3 := of_decide_eq_true hc3
    obtain ⟨k, rfl⟩ : ∃ k, j = k + 8 := ⟨j - 8, by omega⟩
    obtain ⟨r, hr⟩ : ∃ r, r = w % 100000000 := ⟨_, rfl⟩
    repeat' (first | refine wpL_seq ?_ | refine wpL_skip ?_ | refine wpL_label ?_ | refine wpL_scope ?_)
    refine wpL_block fun k4 hn4 hx4 ho4 => ?_
    have hr8 : r < 100000000 := by omega
    have e5 : IntKind.wrap .u32 ((r : Nat) : Int) = (r : Int) := w32 (by omega)
    have e1 : IntKind.wrap .u64 ((w / 100000000 : Nat) : Int) = ((w / 100000000 : Nat) : Int) := w64 (by omega)
    have e6 : IntKind.wrap .u32 ((r / 10000 : Nat) : Int) = ((r / 10000 : Nat) : Int) := w32 (by omega)
    have e7 : IntKind.wrap .u32 ((r % 10000 / 100 : Nat) : Int) = ((r % 10000 / 100 : Nat) : Int) := w32 (by omega)
    have e8 : IntKind.wrap .u32 ((r / 10000 / 100 : Nat) : Int) = ((r / 10000 / 100 : Nat) : Int) := w32 (by omega)
    have t7 : IntKind.wrap .u32 (((r % 10000 / 100 : Nat) : Int) * 2) = ((2 * (r % 10000 / 100) : Nat) : Int) := tw2 (by omega)
    have t8 : IntKind.wrap .u32 (((r % 10000 % 100 : Nat) : Int) * 2) = ((2 * (r % 10000 % 100) : Nat) : Int) := tw2 (by omega)
    have t9 : IntKind.wrap .u32 (((r / 10000 / 100 : Nat) : Int) * 2) = ((2 * (r / 10000 / 100) : Nat) : Int) := tw2 (by omega)
    have t10 : IntKind.wrap .u32 (((r / 10000 % 100 : Nat) : Int) * 2) = ((2 * (r / 10000 % 100) : Nat) : Int) := tw2 (by omega)
    repeat' (first | refine wpL_seq ?_ | refine wpL_skip ?_ | refine wpL_label ?_ | refine wpL_scope ?_)
    refine wpL_region' [0, 1, 4, 5] fun q hq => ?_
    simp -implicitDefEqProofs (disch := omega) only [go_sem, Int.reduceEq, Int.reduceLT, Int.reduceLE, Int.reduceToNat, Int.reduceNeg, Int.reduceAdd, Int.reduceSub, Nat.reduceEqDiff, Nat.reduceAdd, Nat.reduceMul, Nat.reduceLeDiff, Nat.reduceSub, ↓reduceIte, reduceCtorEq, tm8, ← hr, e5]
    repeat (refine And.intro (by omega) ?_)
    refine hq _ _ _ (by simp only [pickL, lk_cons, Nat.reduceEqDiff, ↓reduceIte]; exact rfl) ?_
    clear hq q
    repeat' (first | refine wpL_seq ?_ | refine wpL_skip ?_ | refine wpL_label ?_ | refine wpL_scope ?_)
    refine wpL_region' [0, 1, 4, 5] fun q hq => ?_
    simp -implicitDefEqProofs (disch := omega) only [go_sem, Int.reduceEq, Int.reduceLT, Int.reduceLE, Int.reduceToNat, Int.reduceNeg, Int.reduceAdd, Int.reduceSub, Nat.reduceEqDiff, Nat.reduceAdd, Nat.reduceMul, Nat.reduceLeDiff, Nat.reduceSub, ↓reduceIte, reduceCtorEq, td8, e1]
    repeat (refine And.intro (by omega) ?_)
    refine hq _ _ _ (by simp only [pickL, lk_cons, Nat.reduceEqDiff, ↓reduceIte]; exact rfl) ?_
    clear hq q
    repeat' (first | refine wpL_seq ?_ | refine wpL_skip ?_ | refine wpL_label ?_ | refine wpL_scope ?_)
    refine wpL_region' [0, 1, 4, 6, 7] fun q hq => ?_
    simp -implicitDefEqProofs (disch := omega) only [go_sem, Int.reduceEq, Int.reduceLT, Int.reduceLE, Int.reduceToNat, Int.reduceNeg, Int.reduceAdd, Int.reduceSub, Nat.reduceEqDiff, Nat.reduceAdd, Nat.reduceMul, Nat.reduceLeDiff, Nat.reduceSub, ↓reduceIte, reduceCtorEq, td4, tm4, e6]
    repeat (refine And.intro (by omega) ?_)
    refine hq _ _ _ (by simp only [pickL, lk_cons, Nat.reduceEqDiff, ↓reduceIte]; exact rfl) ?_
    clear hq q
    repeat' (first | refine wpL_seq ?_ | refine wpL_skip ?_ | refine wpL_label ?_ | refine wpL_scope ?_)
    refine wpL_region' [0, 1, 4, 6, 8, 9] fun q hq => ?_
    simp -implicitDefEqProofs (disch := omega) only [go_sem, Int.reduceEq, Int.reduceLT, Int.reduceLE, Int.reduceToNat, Int.reduceNeg, Int.reduceAdd, Int.reduceSub, Nat.reduceEqDiff, Nat.reduceAdd, Nat.reduceMul, Nat.reduceLeDiff, Nat.reduceSub, ↓reduceIte, reduceCtorEq, td2, tm2, e7, t7, t8]
    repeat (refine And.intro (by omega) ?_)
    refine hq _ _ _ (by simp only [pickL, lk_cons, Nat.reduceEqDiff, ↓reduceIte]; exact rfl) ?_
    clear hq q
    repeat' (first | refine wpL_seq ?_ | refine wpL_skip ?_ | refine wpL_label ?_ | refine wpL_scope ?_)
    refine wpL_region' [0, 1, 4, 8, 9, 10, 11] fun q hq => ?_
    simp -implicitDefEqProofs (disch := omega) only [go_sem, Int.reduceEq, Int.reduceLT, Int.reduceLE, Int.reduceToNat, Int.reduceNeg, Int.reduceAdd, Int.reduceSub, Nat.reduceEqDiff, Nat.reduceAdd, Nat.reduceMul, Nat.reduceLeDiff, Nat.reduceSub, ↓reduceIte, reduceCtorEq, td2, tm2, e8, t9, t10]
    repeat (refine And.intro (by omega) ?_)
    refine hq _ _ _ (by simp only [pickL, lk_cons, Nat.reduceEqDiff, ↓reduceIte]; exact rfl) ?_
    clear hq q
    have hWl : (Z ++ Y).length = k + 9 := by simp; omega
    obtain ⟨W, hW⟩ : ∃ W, W = Z ++ Y := ⟨_, rfl⟩
    obtain ⟨V, hV⟩ : ∃ V, V = T ++ R := ⟨_, rfl⟩
    rw [← hW] at hWl
    rw [← hW, ← hV]
    have i1 : ((k + 8 : Nat) : Int) - 1 = ((k + 7 : Nat) : Int) := by omega
    have i2 : ((k + 8 : Nat) : Int) - 2 = ((k + 6 : Nat) : Int) := by omega
    have q1 := tw1 (n := r % 10000 % 100) (by omega)
    obtain ⟨g1, g2⟩ := small_at (v := r % 10000 % 100) (a := w / 10) (b := w) (by omega) (by omega) (by omega)
    have z1 : List.take (1 + (k + 7)) ((W ++ V).map byc) ++ [AV.int .u8 (dg (w)).toNat] ++ List.drop (1 + (k + 7) + 1) ((W ++ V).map byc) = _ := setA (p := k + 6) (dg (w)) (by omega)
    have z2 := setB (W := W) (V := V) (p := k + 6) (dg (w / 10)) (dg (w)) (by omega)
    have z3 : (List.take (1 + (k + 7)) ((W ++ V).map byc)).length + 1 + (List.drop (1 + (k + 7) + 1) ((W ++ V).map byc)).length = _ := lenA (p := k + 6) (by omega)
    have l1 : ((k + 7 : Nat) : Int) < (X.length : Int) := by omega
    have l2 : ((k + 6 : Nat) : Int) < (X.length : Int) := by omega
    have l3 : 1 + (k + 7) + 1 ≤ (W).length + (V).length := by omega
    have l4 : 1 + (k + 6) + 1 ≤ (W).length + (V).length := by omega
    repeat' (first | refine wpL_seq ?_ | refine wpL_skip ?_ | refine wpL_label ?_ | refine wpL_scope ?_)
    refine wpL_draw' [0, 1, 4, 8, 10, 11] [0, 1, 2, 3, 4, 5, 6, 7, 8, 9, 10, 11, 12, 13, 14] [] [] (by kernel_rfl) (by kernel_rfl) (by kernel_rfl) fun q hq => ?_
    simp -implicitDefEqProofs (disch := omega) only [go_sem, Int.reduceEq, Int.reduceLT, Int.reduceLE, Int.reduceToNat, Int.reduceNeg, Int.reduceAdd, Int.reduceSub, Nat.reduceEqDiff, Nat.reduceAdd, Nat.reduceMul, Nat.reduceLeDiff, Nat.reduceSub, ↓reduceIte, reduceCtorEq, smC, i1, i2, q1, g1, g2, z1, z2, z3, l1, l2, l3, l4, List.length_set]
    repeat (refine And.intro (by omega) ?_)
    refine hq _ _ _ (by simp only [pickL, lk_cons, Nat.reduceEqDiff, ↓reduceIte]; exact rfl) ?_
    clear hq q
    obtain ⟨W1, hW1⟩ : ∃ x, x = List.take ((k + 6) + 1) W := ⟨_, rfl⟩
    obtain ⟨V1, hV1⟩ : ∃ x, x = dg (w / 10) :: dg (w) :: V := ⟨_, rfl⟩
    rw [← hW1, ← hV1]
    have hWl : (W1).length = k + 6 + 1 := by rw [hW1, List.length_take]; omega
    have i1 : ((k + 8 : Nat) : Int) - 3 = ((k + 5 : Nat) : Int) := by omega
    have i2 : ((k + 8 : Nat) : Int) - 4 = ((k + 4 : Nat) : Int) := by omega
    have q1 := tw1 (n := r % 10000 / 100) (by omega)
    obtain ⟨g1, g2⟩ := small_at (v := r % 10000 / 100) (a := w / 1000) (b := w / 100) (by omega) (by omega) (by omega)
    have z1 : List.take (1 + (k + 5)) ((W1 ++ V1).map byc) ++ [AV.int .u8 (dg (w / 100)).toNat] ++ List.drop (1 + (k + 5) + 1) ((W1 ++ V1).map byc) = _ := setA (p := k + 4) (dg (w / 100)) (by omega)
    have z2 := setB (W := W1) (V := V1) (p := k + 4) (dg (w / 1000)) (dg (w / 100)) (by omega)
    have z3 : (List.take (1 + (k + 5)) ((W1 ++ V1).map byc)).length + 1 + (List.drop (1 + (k + 5) + 1) ((W1 ++ V1).map byc)).length = _ := lenA (p := k + 4) (by omega)
    have l1 : ((k + 5 : Nat) : Int) < (X.length : Int) := by omega
    have l2 : ((k + 4 : Nat) : Int) < (X.length : Int) := by omega
    have l3 : 1 + (k + 5) + 1 ≤ (W1).length + (V1).length := by omega
    have l4 : 1 + (k + 4) + 1 ≤ (W1).length + (V1).length := by omega
    repeat' (first | refine wpL_seq ?_ | refine wpL_skip ?_ | refine wpL_label ?_ | refine wpL_scope ?_)
    refine wpL_draw' [0, 1, 4, 10, 11] [0, 1, 2, 3, 4, 5, 6, 7, 8, 9, 10, 11, 12, 13, 14] [] [] (by kernel_rfl) (by kernel_rfl) (by kernel_rfl) fun q hq => ?_
    simp -implicitDefEqProofs (disch := omega) only [go_sem, Int.reduceEq, Int.reduceLT, Int.reduceLE, Int.reduceToNat, Int.reduceNeg, Int.reduceAdd, Int.reduceSub, Nat.reduceEqDiff, Nat.reduceAdd, Nat.reduceMul, Nat.reduceLeDiff, Nat.reduceSub, ↓reduceIte, reduceCtorEq, smC, i1, i2, q1, g1, g2, z1, z2, z3, l1, l2, l3, l4, List.length_set]
    repeat (refine And.intro (by omega) ?_)
    refine hq _ _ _ (by simp only [pickL, lk_cons, Nat.reduceEqDiff, ↓reduceIte]; exact rfl) ?_
    clear hq q
    obtain ⟨W2, hW2⟩ : ∃ x, x = List.take ((k + 4) + 1) W1 := ⟨_, rfl⟩
    obtain ⟨V2, hV2⟩ : ∃ x, x = dg (w / 1000) :: dg (w / 100) :: V1 := ⟨_, rfl⟩
    rw [← hW2, ← hV2]
    have hWl2 : (W2).length = k + 4 + 1 := by rw [hW2, List.length_take]; omega
    have i1 : ((k + 8 : Nat) : Int) - 5 = ((k + 3 : Nat) : Int) := by omega
    have i2 : ((k + 8 : Nat) : Int) - 6 = ((k + 2 : Nat) : Int) := by omega
    have q1 := tw1 (n := r / 10000 % 100) (by omega)
    obtain ⟨g1, g2⟩ := small_at (v := r / 10000 % 100) (a := w / 100000) (b := w / 10000) (by omega) (by omega) (by omega)
    have z1 : List.take (1 + (k + 3)) ((W2 ++ V2).map byc) ++ [AV.int .u8 (dg (w / 10000)).toNat] ++ List.drop (1 + (k + 3) + 1) ((W2 ++ V2).map byc) = _ := setA (p := k + 2) (dg (w / 10000)) (by omega)
    have z2 := setB (W := W2) (V := V2) (p := k + 2) (dg (w / 100000)) (dg (w / 10000)) (by omega)
    have z3 : (List.take (1 + (k + 3)) ((W2 ++ V2).map byc)).length + 1 + (List.drop (1 + (k + 3) + 1) ((W2 ++ V2).map byc)).length = _ := lenA (p := k + 2) (by omega)
    have l1 : ((k + 3 : Nat) : Int) < (X.length : Int) := by omega
    have l2 : ((k + 2 : Nat) : Int) < (X.length : Int) := by omega
    have l3 : 1 + (k + 3) + 1 ≤ (W2).length + (V2).length := by omega
    have l4 : 1 + (k + 2) + 1 ≤ (W2).length + (V2).length := by omega
    repeat' (first | refine wpL_seq ?_ | refine wpL_skip ?_ | refine wpL_label ?_ | refine wpL_scope ?_)
    refine wpL_draw' [0, 1, 4, 10] [0, 1, 2, 3, 4, 5, 6, 7, 8, 9, 10, 11, 12, 13, 14] [] [] (by kernel_rfl) (by kernel_rfl) (by kernel_rfl) fun q hq => ?_
    simp -implicitDefEqProofs (disch := omega) only [go_sem, Int.reduceEq, Int.reduceLT, Int.reduceLE, Int.reduceToNat, Int.reduceNeg, Int.reduceAdd, Int.reduceSub, Nat.reduceEqDiff, Nat.reduceAdd, Nat.reduceMul, Nat.reduceLeDiff, Nat.reduceSub, ↓reduceIte, reduceCtorEq, smC, i1, i2, q1, g1, g2, z1, z2, z3, l1, l2, l3, l4, List.length_set]
    repeat (refine And.intro (by omega) ?_)
    refine hq _ _ _ (by simp only [pickL, lk_cons, Nat.reduceEqDiff, ↓reduceIte]; exact rfl) ?_
    clear hq q
    obtain ⟨W3, hW3⟩ : ∃ x, x = List.take ((k + 2) + 1) W2 := ⟨_, rfl⟩
    obtain ⟨V3, hV3⟩ : ∃ x, x = dg (w / 100000) :: dg (w / 10000) :: V2 := ⟨_, rfl⟩
    rw [← hW3, ← hV3]
    have hWl3 : (W3).length = k + 2 + 1 := by rw [hW3, List.length_take]; omega
    have i1 : ((k + 8 : Nat) : Int) - 7 = ((k + 1 : Nat) : Int) := by omega
    have i2 : ((k + 8 : Nat) : Int) - 8 = ((k : Nat) : Int) := by omega
    have q1 := tw1 (n := r / 10000 / 100) (by omega)
    obtain ⟨g1, g2⟩ := small_at (v := r / 10000 / 100) (a := w / 10000000) (b := w / 1000000) (by omega) (by omega) (by omega)
    have z1 : List.take (1 + (k + 1)) ((W3 ++ V3).map byc) ++ [AV.int .u8 (dg (w / 1000000)).toNat] ++ List.drop (1 + (k + 1) + 1) ((W3 ++ V3).map byc) = _ := setA (p := k) (dg (w / 1000000)) (by omega)
    have z2 := setB (W := W3) (V := V3) (p := k) (dg (w / 10000000)) (dg (w / 1000000)) (by omega)
    have z3 : (List.take (1 + (k + 1)) ((W3 ++ V3).map byc)).length + 1 + (List.drop (1 + (k + 1) + 1) ((W3 ++ V3).map byc)).length = _ := lenA (p := k) (by omega)
    have l1 : ((k + 1 : Nat) : Int) < (X.length : Int) := by omega
    have l2 : ((k : Nat) : Int) < (X.length : Int) := by omega
    have l3 : 1 + (k + 1) + 1 ≤ (W3).length + (V3).length := by omega
    have l4 : 1 + (k) + 1 ≤ (W3).length + (V3).length := by omega
    repeat' (first | refine wpL_seq ?_ | refine wpL_skip ?_ | refine wpL_label ?_ | refine wpL_scope ?_)
    refine wpL_draw' [0, 1, 4] [0, 1, 2, 3, 4, 5, 6, 7, 8, 9, 10, 11, 12, 13, 14] [] [] (by kernel_rfl) (by kernel_rfl) (by kernel_rfl) fun q hq => ?_
    simp -implicitDefEqProofs (disch := omega) only [go_sem, Int.reduceEq, Int.reduceLT, Int.reduceLE, Int.reduceToNat, Int.reduceNeg, Int.reduceAdd, Int.reduceSub, Nat.reduceEqDiff, Nat.reduceAdd, Nat.reduceMul, Nat.reduceLeDiff, Nat.reduceSub, ↓reduceIte, reduceCtorEq, smC, i1, i2, q1, g1, g2, z1, z2, z3, l1, l2, l3, l4, List.length_set]
    repeat (refine And.intro (by omega) ?_)
    refine hq _ _ _ (by simp only [pickL, lk_cons, Nat.reduceEqDiff, ↓reduceIte]; exact rfl) ?_
    clear hq q
    obtain ⟨W4, hW4⟩ : ∃ x, x = List.take ((k) + 1) W3 := ⟨_, rfl⟩
    obtain ⟨V4, hV4⟩ : ∃ x, x = dg (w / 10000000) :: dg (w / 1000000) :: V3 := ⟨_, rfl⟩
    rw [← hW4, ← hV4]
    have hWl4 : (W4).length = k + 1 := by rw [hW4, List.length_take]; omega
    have i8 : ((k + 8 : Nat) : Int) - 8 = (k : Int) := by omega
    repeat' (first | refine wpL_seq ?_ | refine wpL_skip ?_ | refine wpL_label ?_ | refine wpL_scope ?_)
    refine wpL_region' [0, 1, 4] fun q hq => ?_
    simp -implicitDefEqProofs (disch := omega) only [go_sem, Int.reduceEq, Int.reduceLT, Int.reduceLE, Int.reduceToNat, Int.reduceNeg, Int.reduceAdd, Int.reduceSub, Nat.reduceEqDiff, Nat.reduceAdd, Nat.reduceMul, Nat.reduceLeDiff, Nat.reduceSub, ↓reduceIte, reduceCtorEq, i8]
    repeat (refine And.intro (by omega) ?_)
    refine hq _ _ _ (by simp only [pickL, lk_cons, Nat.reduceEqDiff, ↓reduceIte]; exact rfl) ?_
    clear hq q
    repeat' (first | refine wpL_seq ?_ | refine wpL_skip ?_ | refine wpL_label ?_ | refine wpL_scope ?_)
    refine wpL_nil (hn4 _ _ ?_)
    repeat' (first | refine wpL_seq ?_ | refine wpL_skip ?_ | refine wpL_label ?_ | refine wpL_scope ?_)
    have hpw : w / 100000000 < 10 ^ k := by
      rw [Nat.pow_add] at hw
      exact Nat.div_lt_of_lt_mul (by rw [Nat.mul_comm]; exact hw)
    refine wpL_nil (hn2 k _ _ (by omega) ⟨k, w / 100000000, Y.take k, [dg (w / 10000000), dg (w / 1000000), dg (w / 100000), dg (w / 10000), dg (w / 1000), dg (w / 100), dg (w / 10), dg w] ++ T, by omega, rfl, by simp; omega, hpw, Nat.le_trans (Nat.div_le_self ..) hwu, ?_, ?_, rfl⟩)
    · rw [hP, padD_8]; simp
    · congr 2
      have eW : W4 = Z ++ Y.take k := by
        rw [hW4, hW3, hW2, hW1, hW]
        simp only [List.take_take]
        rw [show min (k + 1) (min (k + 2 + 1) (min (k + 4 + 1) (k + 6 + 1))) = k + 1 by omega, List.take_append, List.take_of_length_le (by omega), hZ, Nat.add_sub_cancel]
      rw [eW, hV4, hV3, hV2, hV1, hV]
      rfl
  have hc3 := of_decide_eq_false hc3
  have h8 : j < 8 := by omega
  have hw7 : w < 10000000 := Nat.lt_of_lt_of_le hw (Nat.pow_le_pow_right (by omega) (by omega : j ≤ 7))
  have e12 : IntKind.wrap .u32 ((w : Nat) : Int) = (w : Int) := w32 (by omega)
  repeat' (first | refine wpL_seq ?_ | refine wpL_skip ?_ | refine wpL_label ?_ | refine wpL_scope ?_)
  refine wpL_exit (hx2 _ _ _ (by simp) (hx1 _ _ ?_))
  repeat' (first | refine wpL_seq ?_ | refine wpL_skip ?_ | refine wpL_label ?_ | refine wpL_scope ?_)
  refine wpL_region' [0, 4, 12] fun q hq => ?_
  simp -implicitDefEqProofs (disch := omega) only [go_sem, Int.reduceEq, Int.reduceLT, Int.reduceLE, Int.reduceToNat, Int.reduceNeg, Int.reduceAdd, Int.reduceSub, Nat.reduceEqDiff, Nat.reduceAdd, Nat.reduceMul, Nat.reduceLeDiff, Nat.reduceSub, ↓reduceIte, reduceCtorEq, e12]
  repeat (refine And.intro (by omega) ?_)
  refine hq _ _ _ (by simp only [pickL, lk_cons, Nat.reduceEqDiff, ↓reduceIte]; exact rfl) ?_
  clear hq q
  repeat' (first | refine wpL_seq ?_ | refine wpL_skip ?_ | refine wpL_label ?_ | refine wpL_scope ?_)
  refine wpL_region' [0, 4, 12, 99] fun q hq => ?_
  simp -implicitDefEqProofs (disch := omega) only [go_sem, Int.reduceEq, Int.reduceLT, Int.reduceLE, Int.reduceToNat, Int.reduceNeg, Int.reduceAdd, Int.reduceSub, Nat.reduceEqDiff, Nat.reduceAdd, Nat.reduceMul, Nat.reduceLeDiff, Nat.reduceSub, ↓reduceIte, reduceCtorEq]
  repeat (refine And.intro (by omega) ?_)
  refine hq _ _ _ (by simp only [pickL, lk_cons, Nat.reduceEqDiff, ↓reduceIte]; exact rfl) ?_
  clear hq q
  repeat' (first | refine wpL_seq ?_ | refine wpL_skip ?_ | refine wpL_label ?_ | refine wpL_scope ?_)
  refine wpL_condK rfl fun j5 hj5 ox5 => ?_
  have tail5 : ∀ (i w : Nat) (Y T : List UInt8), i < 4 → i ≤ X.length → Y.length = i → w < 10 ^ i → padD X.length u = padD i w ++ T → j5 .normal (lk [(0, .sl b 1 X.length 1), (4, .int .i64 i), (12, .int .u32 w)]) (h.upd b ⟨.own, ((Z ++ Y) ++ (T ++ R)).map byc, ty, []⟩) := by
    clear hi hY hw hwu hP h8 hw7 e12 hc3 hx2 hn2
    clear w Y T
    intro i w Y T hi4 hi hY hw hP
    have hw7 : w < 1000 := Nat.lt_of_lt_of_le hw (Nat.pow_le_pow_right (by omega) (by omega : i ≤ 3))
    refine hj5 _ _ ?_
    repeat' (first | refine wpL_seq ?_ | refine wpL_skip ?_ | refine wpL_label ?_ | refine wpL_scope ?_)
    refine wpL_region' [0, 4, 12, 139] fun q hq => ?_
    simp -implicitDefEqProofs (disch := omega) only [go_sem, Int.reduceEq, Int.reduceLT, Int.reduceLE, Int.reduceToNat, Int.reduceNeg, Int.reduceAdd, Int.reduceSub, Nat.reduceEqDiff, Nat.reduceAdd, Nat.reduceMul, Nat.reduceLeDiff, Nat.reduceSub, ↓reduceIte, reduceCtorEq]
    repeat (refine And.intro (by omega) ?_)
    refine hq _ _ _ (by simp only [pickL, lk_cons, Nat.reduceEqDiff, ↓reduceIte]; exact rfl) ?_
    clear hq q
    repeat' (first | refine wpL_seq ?_ | refine wpL_skip ?_ | refine wpL_label ?_ | refine wpL_scope ?_)
    refine wpL_condK rfl fun j6 hj6 ox6 => ?_
    have tail6 : ∀ (i w : Nat) (Y T : List UInt8), i < 2 → i ≤ X.length → Y.length = i → w < 10 ^ i → padD X.length u = padD i w ++ T → j6 .normal (lk [(0, .sl b 1 X.length 1), (4, .int .i64 i), (12, .int .u32 w)]) (h.upd b ⟨.own, ((Z ++ Y) ++ (T ++ R)).map byc, ty, []⟩) := by
      clear hi hY hw hP hw7 hi4
      clear i w Y T
      intro i w Y T hi2 hi hY hw hP
      have hw7 : w < 10 := Nat.lt_of_lt_of_le hw (Nat.pow_le_pow_right (by omega) (by omega : i ≤ 1))
      refine hj6 _ _ ?_
      repeat' (first | refine wpL_seq ?_ | refine wpL_skip ?_ | refine wpL_label ?_ | refine wpL_scope ?_)
      refine wpL_region' [0, 12, 161] fun q hq => ?_
      simp -implicitDefEqProofs (disch := omega) only [go_sem, Int.reduceEq, Int.reduceLT, Int.reduceLE, Int.reduceToNat, Int.reduceNeg, Int.reduceAdd, Int.reduceSub, Nat.reduceEqDiff, Nat.reduceAdd, Nat.reduceMul, Nat.reduceLeDiff, Nat.reduceSub, ↓reduceIte, reduceCtorEq]
      repeat (refine And.intro (by omega) ?_)
      refine hq _ _ _ (by simp only [pickL, lk_cons, Nat.reduceEqDiff, ↓reduceIte]; exact rfl) ?_
      clear hq q
      repeat' (first | refine wpL_seq ?_ | refine wpL_skip ?_ | refine wpL_label ?_ | refine wpL_scope ?_)
      refine wpL_condK rfl fun j7 hj7 ox7 => ?_
      have tail7 : ∀ h', h' = h.upd b ⟨.own, (Z ++ padD X.length u ++ R).map byc, ty, []⟩ → j7 .normal (lk []) h' := by
        intro h' hh
        refine hj7 _ _ ?_
        subst hh
        refine wpL_nil (hK' _ _ _ _ (.inl rfl) (resTo (rs' := []) rfl rfl) ?_)
        exact ⟨rfl, rfl⟩
      refine ⟨fun hc7 => ?_, fun hc7 => ?_⟩
      · have hc7 := of_decide_eq_true hc7
        obtain rfl : i = 1 := by omega
        have e48 : (48 : Int) + (w : Int) = ((dg w).toNat : Int) := by
          rw [dg_toNat, Nat.mod_eq_of_lt hw7]; omega
        cases Y with
        | nil => cases hY
        | cons y Y =>
          cases Y with
          | cons _ _ => cases hY
          | nil =>
            have l1 : (0 : Int) < (X.length : Int) := by omega
            have s1 : List.take 1 (((Z ++ [y]) ++ (T ++ R)).map byc) ++ [AV.int .u8 (dg w).toNat] ++ List.drop 2 (((Z ++ [y]) ++ (T ++ R)).map byc) = (Z ++ padD X.length u ++ R).map byc := by
              cases Z with
              | nil => cases hZ
              | cons z Z =>
                cases Z with
                | cons _ _ => cases hZ
                | nil => rw [hP]; simp [padD, byc]
            repeat' (first | refine wpL_seq ?_ | refine wpL_skip ?_ | refine wpL_label ?_ | refine wpL_scope ?_)
            refine wpL_region' [] fun q hq => ?_
            simp -implicitDefEqProofs (disch := omega) only [go_sem, Int.reduceEq, Int.reduceLT, Int.reduceLE, Int.reduceToNat, Int.reduceNeg, Int.reduceAdd, Int.reduceSub, Nat.reduceEqDiff, Nat.reduceAdd, Nat.reduceMul, Nat.reduceLeDiff, Nat.reduceSub, ↓reduceIte, reduceCtorEq, e48, l1, s1]
            repeat (refine And.intro (by omega) ?_)
            refine hq _ _ _ (by simp only [pickL, lk_cons, Nat.reduceEqDiff, ↓reduceIte]; exact rfl) ?_
            clear hq q
            repeat' (first | refine wpL_seq ?_ | refine wpL_skip ?_ | refine wpL_label ?_ | refine wpL_scope ?_)
            exact wpL_nil (tail7 _ rfl)
      · have hc7 := of_decide_eq_false hc7
        obtain rfl : i = 0 := by omega
        refine wpL_pick' [] (by simp only [pickL, lk_cons, Nat.reduceEqDiff, ↓reduceIte]; exact rfl) ?_
        repeat' (first | refine wpL_seq ?_ | refine wpL_skip ?_ | refine wpL_label ?_ | refine wpL_scope ?_)
        repeat' (first | refine wpL_seq ?_ | refine wpL_skip ?_ | refine wpL_label ?_ | refine wpL_scope ?_)
        refine wpL_nil (tail7 _ ?_)
        rw [hP]
        cases Y with
        | nil => simp [padD]
        | cons _ _ => cases hY
    refine ⟨fun hc6 => ?_, fun hc6 => ?_⟩
    · have hc6 := of_decide_eq_true hc6
      obtain ⟨k, rfl⟩ : ∃ k, i = k + 2 := ⟨i - 2, by omega⟩
      have t7 : IntKind.wrap .u32 (((w % 100 : Nat) : Int) * 2) = ((2 * (w % 100) : Nat) : Int) := tw2 (by omega)
      have e7 : IntKind.wrap .u32 ((w / 100 : Nat) : Int) = ((w / 100 : Nat) : Int) := w32 (by omega)
      repeat' (first | refine wpL_seq ?_ | refine wpL_skip ?_ | refine wpL_label ?_ | refine wpL_scope ?_)
      refine wpL_region' [0, 4, 12, 16] fun q hq => ?_
      simp -implicitDefEqProofs (disch := omega) only [go_sem, Int.reduceEq, Int.reduceLT, Int.reduceLE, Int.reduceToNat, Int.reduceNeg, Int.reduceAdd, Int.reduceSub, Nat.reduceEqDiff, Nat.reduceAdd, Nat.reduceMul, Nat.reduceLeDiff, Nat.reduceSub, ↓reduceIte, reduceCtorEq, tm2, t7]
      repeat (refine And.intro (by omega) ?_)
      refine hq _ _ _ (by simp only [pickL, lk_cons, Nat.reduceEqDiff, ↓reduceIte]; exact rfl) ?_
      clear hq q
      repeat' (first | refine wpL_seq ?_ | refine wpL_skip ?_ | refine wpL_label ?_ | refine wpL_scope ?_)
      refine wpL_region' [0, 4, 12, 16] fun q hq => ?_
      simp -implicitDefEqProofs (disch := omega) only [go_sem, Int.reduceEq, Int.reduceLT, Int.reduceLE, Int.reduceToNat, Int.reduceNeg, Int.reduceAdd, Int.reduceSub, Nat.reduceEqDiff, Nat.reduceAdd, Nat.reduceMul, Nat.reduceLeDiff, Nat.reduceSub, ↓reduceIte, reduceCtorEq, td2, e7]
      repeat (refine And.intro (by omega) ?_)
      refine hq _ _ _ (by simp only [pickL, lk_cons, Nat.reduceEqDiff, ↓reduceIte]; exact rfl) ?_
      clear hq q
      have hWl : (Z ++ Y).length = k + 3 := by simp; omega
      obtain ⟨W, hW⟩ : ∃ W, W = Z ++ Y := ⟨_, rfl⟩
      obtain ⟨V, hV⟩ : ∃ V, V = T ++ R := ⟨_, rfl⟩
      rw [← hW] at hWl
      rw [← hW, ← hV]
      have i1 : ((k + 2 : Nat) : Int) - 1 = ((k + 1 : Nat) : Int) := by omega
      have i2 : ((k + 2 : Nat) : Int) - 2 = ((k : Nat) : Int) := by omega
      have q1 := tw1 (n := w % 100) (by omega)
      obtain ⟨g1, g2⟩ := small_at (v := w % 100) (a := w / 10) (b := w) (by omega) (by omega) (by omega)
      have z1 : List.take (1 + (k + 1)) ((W ++ V).map byc) ++ [AV.int .u8 (dg (w)).toNat] ++ List.drop (1 + (k + 1) + 1) ((W ++ V).map byc) = _ := setA (p := k) (dg (w)) (by omega)
      have z2 := setB (W := W) (V := V) (p := k) (dg (w / 10)) (dg (w)) (by omega)
      have z3 : (List.take (1 + (k + 1)) ((W ++ V).map byc)).length + 1 + (List.drop (1 + (k + 1) + 1) ((W ++ V).map byc)).length = _ := lenA (p := k) (by omega)
      have l1 : ((k + 1 : Nat) : Int) < (X.length : Int) := by omega
      have l2 : ((k : Nat) : Int) < (X.length : Int) := by omega
      have l3 : 1 + (k + 1) + 1 ≤ (W).length + (V).length := by omega
      have l4 : 1 + (k) + 1 ≤ (W).length + (V).length := by omega
      repeat' (first | refine wpL_seq ?_ | refine wpL_skip ?_ | refine wpL_label ?_ | refine wpL_scope ?_)
      refine wpL_draw' [0, 4, 12] [0, 1, 2, 3, 4, 5, 6, 7, 8, 9, 10, 11, 12, 13, 14] [] [] (by kernel_rfl) (by kernel_rfl) (by kernel_rfl) fun q hq => ?_
      simp -implicitDefEqProofs (disch := omega) only [go_sem, Int.reduceEq, Int.reduceLT, Int.reduceLE, Int.reduceToNat, Int.reduceNeg, Int.reduceAdd, Int.reduceSub, Nat.reduceEqDiff, Nat.reduceAdd, Nat.reduceMul, Nat.reduceLeDiff, Nat.reduceSub, ↓reduceIte, reduceCtorEq, smC, i1, i2, q1, g1, g2, z1, z2, z3, l1, l2, l3, l4, List.length_set]
      repeat (refine And.intro (by omega) ?_)
      refine hq _ _ _ (by simp only [pickL, lk_cons, Nat.reduceEqDiff, ↓reduceIte]; exact rfl) ?_
      clear hq q
      obtain ⟨W1, hW1⟩ : ∃ x, x = List.take ((k) + 1) W := ⟨_, rfl⟩
      obtain ⟨V1, hV1⟩ : ∃ x, x = dg (w / 10) :: dg (w) :: V := ⟨_, rfl⟩
      rw [← hW1, ← hV1]
      have hWl1 : (W1).length = k + 1 := by rw [hW1, List.length_take]; omega
      have i8 : ((k + 2 : Nat) : Int) - 2 = (k : Int) := by omega
      repeat' (first | refine wpL_seq ?_ | refine wpL_skip ?_ | refine wpL_label ?_ | refine wpL_scope ?_)
      refine wpL_region' [0, 4, 12] fun q hq => ?_
      simp -implicitDefEqProofs (disch := omega) only [go_sem, Int.reduceEq, Int.reduceLT, Int.reduceLE, Int.reduceToNat, Int.reduceNeg, Int.reduceAdd, Int.reduceSub, Nat.reduceEqDiff, Nat.reduceAdd, Nat.reduceMul, Nat.reduceLeDiff, Nat.reduceSub, ↓reduceIte, reduceCtorEq, i8]
      repeat (refine And.intro (by omega) ?_)
      refine hq _ _ _ (by simp only [pickL, lk_cons, Nat.reduceEqDiff, ↓reduceIte]; exact rfl) ?_
      clear hq q
      repeat' (first | refine wpL_seq ?_ | refine wpL_skip ?_ | refine wpL_label ?_ | refine wpL_scope ?_)
      have eW : W1 = Z ++ Y.take k := by
        rw [hW1, hW, List.take_append, List.take_of_length_le (by omega), hZ, Nat.add_sub_cancel]
      have hpw : w / 100 < 10 ^ k := by
        rw [Nat.pow_add] at hw
        exact Nat.div_lt_of_lt_mul (by rw [Nat.mul_comm]; exact hw)
      have := tail6 k (w / 100) (Y.take k) (dg (w / 10) :: dg w :: T) (by omega) (by omega) (by simp; omega) hpw (by rw [hP, padD_2]; simp)
      rw [← eW, List.cons_append, List.cons_append, ← hV, ← hV1] at this
      exact wpL_nil this
    · have hc6 := of_decide_eq_false hc6
      refine wpL_pick' [0, 4, 12] (by simp only [pickL, lk_cons, Nat.reduceEqDiff, ↓reduceIte]; exact rfl) ?_
      repeat' (first | refine wpL_seq ?_ | refine wpL_skip ?_ | refine wpL_label ?_ | refine wpL_scope ?_)
      repeat' (first | refine wpL_seq ?_ | refine wpL_skip ?_ | refine wpL_label ?_ | refine wpL_scope ?_)
      exact wpL_nil (tail6 i w Y T (by omega) hi hY hw hP)
  refine ⟨fun hc5 => ?_, fun hc5 => ?_⟩
  · have hc5 := of_decide_eq_true hc5
    obtain ⟨k, rfl⟩ : ∃ k, j = k + 4 := ⟨j - 4, by omega⟩
    obtain ⟨r, hr⟩ : ∃ r, r = w % 10000 := ⟨_, rfl⟩
    have hr8 : r < 10000 := by omega
    have e7 : IntKind.wrap .u32 ((r / 100 : Nat) : Int) = ((r / 100 : Nat) : Int) := w32 (by omega)
    have e8 : IntKind.wrap .u32 ((w / 10000 : Nat) : Int) = ((w / 10000 : Nat) : Int) := w32 (by omega)
    have t7 : IntKind.wrap .u32 (((r / 100 : Nat) : Int) * 2) = ((2 * (r / 100) : Nat) : Int) := tw2 (by omega)
    have t8 : IntKind.wrap .u32 (((r % 100 : Nat) : Int) * 2) = ((2 * (r % 100) : Nat) : Int) := tw2 (by omega)
    repeat' (first | refine wpL_seq ?_ | refine wpL_skip ?_ | refine wpL_label ?_ | refine wpL_scope ?_)
    refine wpL_region' [0, 4, 12, 13] fun q hq => ?_
    simp -implicitDefEqProofs (disch := omega) only [go_sem, Int.reduceEq, Int.reduceLT, Int.reduceLE, Int.reduceToNat, Int.reduceNeg, Int.reduceAdd, Int.reduceSub, Nat.reduceEqDiff, Nat.reduceAdd, Nat.reduceMul, Nat.reduceLeDiff, Nat.reduceSub, ↓reduceIte, reduceCtorEq, tm4, ← hr]
    repeat (refine And.intro (by omega) ?_)
    refine hq _ _ _ (by simp only [pickL, lk_cons, Nat.reduceEqDiff, ↓reduceIte]; exact rfl) ?_
    clear hq q
    repeat' (first | refine wpL_seq ?_ | refine wpL_skip ?_ | refine wpL_label ?_ | refine wpL_scope ?_)
    refine wpL_region' [0, 4, 12, 13] fun q hq => ?_
    simp -implicitDefEqProofs (disch := omega) only [go_sem, Int.reduceEq, Int.reduceLT, Int.reduceLE, Int.reduceToNat, Int.reduceNeg, Int.reduceAdd, Int.reduceSub, Nat.reduceEqDiff, Nat.reduceAdd, Nat.reduceMul, Nat.reduceLeDiff, Nat.reduceSub, ↓reduceIte, reduceCtorEq, td4, e8]
    repeat (refine And.intro (by omega) ?_)
    refine hq _ _ _ (by simp only [pickL, lk_cons, Nat.reduceEqDiff, ↓reduceIte]; exact rfl) ?_
    clear hq q
    repeat' (first | refine wpL_seq ?_ | refine wpL_skip ?_ | refine wpL_label ?_ | refine wpL_scope ?_)
    refine wpL_region' [0, 4, 12, 14, 15] fun q hq => ?_
    simp -implicitDefEqProofs (disch := omega) only [go_sem, Int.reduceEq, Int.reduceLT, Int.reduceLE, Int.reduceToNat, Int.reduceNeg, Int.reduceAdd, Int.reduceSub, Nat.reduceEqDiff, Nat.reduceAdd, Nat.reduceMul, Nat.reduceLeDiff, Nat.reduceSub, ↓reduceIte, reduceCtorEq, td2, tm2, e7, t7, t8]
    repeat (refine And.intro (by omega) ?_)
    refine hq _ _ _ (by simp only [pickL, lk_cons, Nat.reduceEqDiff, ↓reduceIte]; exact rfl) ?_
    clear hq q
    have hWl : (Z ++ Y).length = k + 5 := by simp; omega
    obtain ⟨W, hW⟩ : ∃ W, W = Z ++ Y := ⟨_, rfl⟩
    obtain ⟨V, hV⟩ : ∃ V, V = T ++ R := ⟨_, rfl⟩
    rw [← hW] at hWl
    rw [← hW, ← hV]
    have i1 : ((k + 4 : Nat) : Int) - 1 = ((k + 3 : Nat) : Int) := by omega
    have i2 : ((k + 4 : Nat) : Int) - 2 = ((k + 2 : Nat) : Int) := by omega
    have q1 := tw1 (n := r % 100) (by omega)
    obtain ⟨g1, g2⟩ := small_at (v := r % 100) (a := w / 10) (b := w) (by omega) (by omega) (by omega)
    have z1 : List.take (1 + (k + 3)) ((W ++ V).map byc) ++ [AV.int .u8 (dg (w)).toNat] ++ List.drop (1 + (k + 3) + 1) ((W ++ V).map byc) = _ := setA (p := k + 2) (dg (w)) (by omega)
    have z2 := setB (W := W) (V := V) (p := k + 2) (dg (w / 10)) (dg (w)) (by omega)
    have z3 : (List.take (1 + (k + 3)) ((W ++ V).map byc)).length + 1 + (List.drop (1 + (k + 3) + 1) ((W ++ V).map byc)).length = _ := lenA (p := k + 2) (by omega)
    have l1 : ((k + 3 : Nat) : Int) < (X.length : Int) := by omega
    have l2 : ((k + 2 : Nat) : Int) < (X.length : Int) := by omega
    have l3 : 1 + (k + 3) + 1 ≤ (W).length + (V).length := by omega
    have l4 : 1 + (k + 2) + 1 ≤ (W).length + (V).length := by omega
    repeat' (first | refine wpL_seq ?_ | refine wpL_skip ?_ | refine wpL_label ?_ | refine wpL_scope ?_)
    refine wpL_draw' [0, 4, 12, 14] [0, 1, 2, 3, 4, 5, 6, 7, 8, 9, 10, 11, 12, 13, 14] [] [] (by kernel_rfl) (by kernel_rfl) (by kernel_rfl) fun q hq => ?_
    simp -implicitDefEqProofs (disch := omega) only [go_sem, Int.reduceEq, Int.reduceLT, Int.reduceLE, Int.reduceToNat, Int.reduceNeg, Int.reduceAdd, Int.reduceSub, Nat.reduceEqDiff, Nat.reduceAdd, Nat.reduceMul, Nat.reduceLeDiff, Nat.reduceSub, ↓reduceIte, reduceCtorEq, smC, i1, i2, q1, g1, g2, z1, z2, z3, l1, l2, l3, l4, List.length_set]
    repeat (refine And.intro (by omega) ?_)
    refine hq _ _ _ (by simp only [pickL, lk_cons, Nat.reduceEqDiff, ↓reduceIte]; exact rfl) ?_
    clear hq q
    obtain ⟨W1, hW1⟩ : ∃ x, x = List.take ((k + 2) + 1) W := ⟨_, rfl⟩
    obtain ⟨V1, hV1⟩ : ∃ x, x = dg (w / 10) :: dg (w) :: V := ⟨_, rfl⟩
    rw [← hW1, ← hV1]
    have hWl1 : (W1).length = k + 2 + 1 := by rw [hW1, List.length_take]; omega
    have i1 : ((k + 4 : Nat) : Int) - 3 = ((k + 1 : Nat) : Int) := by omega
    have i2 : ((k + 4 : Nat) : Int) - 4 = ((k : Nat) : Int) := by omega
    have q1 := tw1 (n := r / 100) (by omega)
    obtain ⟨g1, g2⟩ := small_at (v := r / 100) (a := w / 1000) (b := w / 100) (by omega) (by omega) (by omega)
    have z1 : List.take (1 + (k + 1)) ((W1 ++ V1).map byc) ++ [AV.int .u8 (dg (w / 100)).toNat] ++ List.drop (1 + (k + 1) + 1) ((W1 ++ V1).map byc) = _ := setA (p := k) (dg (w / 100)) (by omega)
    have z2 := setB (W := W1) (V := V1) (p := k) (dg (w / 1000)) (dg (w / 100)) (by omega)
    have z3 : (List.take (1 + (k + 1)) ((W1 ++ V1).map byc)).length + 1 + (List.drop (1 + (k + 1) + 1) ((W1 ++ V1).map byc)).length = _ := lenA (p := k) (by omega)
    have l1 : ((k + 1 : Nat) : Int) < (X.length : Int) := by omega
    have l2 : ((k : Nat) : Int) < (X.length : Int) := by omega
    have l3 : 1 + (k + 1) + 1 ≤ (W1).length + (V1).length := by omega
    have l4 : 1 + (k) + 1 ≤ (W1).length + (V1).length := by omega
    repeat' (first | refine wpL_seq ?_ | refine wpL_skip ?_ | refine wpL_label ?_ | refine wpL_scope ?_)
    refine wpL_draw' [0, 4, 12] [0, 1, 2, 3, 4, 5, 6, 7, 8, 9, 10, 11, 12, 13, 14] [] [] (by kernel_rfl) (by kernel_rfl) (by kernel_rfl) fun q hq => ?_
    simp -implicitDefEqProofs (disch := omega) only [go_sem, Int.reduceEq, Int.reduceLT, Int.reduceLE, Int.reduceToNat, Int.reduceNeg, Int.reduceAdd, Int.reduceSub, Nat.reduceEqDiff, Nat.reduceAdd, Nat.reduceMul, Nat.reduceLeDiff, Nat.reduceSub, ↓reduceIte, reduceCtorEq, smC, i1, i2, q1, g1, g2, z1, z2, z3, l1, l2, l3, l4, List.length_set]
    repeat (refine And.intro (by omega) ?_)
    refine hq _ _ _ (by simp only [pickL, lk_cons, Nat.reduceEqDiff, ↓reduceIte]; exact rfl) ?_
    clear hq q
    obtain ⟨W2, hW2⟩ : ∃ x, x = List.take ((k) + 1) W1 := ⟨_, rfl⟩
    obtain ⟨V2, hV2⟩ : ∃ x, x = dg (w / 1000) :: dg (w / 100) :: V1 := ⟨_, rfl⟩
    rw [← hW2, ← hV2]
    have hWl2 : (W2).length = k + 1 := by rw [hW2, List.length_take]; omega
    have i8 : ((k + 4 : Nat) : Int) - 4 = (k : Int) := by omega
    repeat' (first | refine wpL_seq ?_ | refine wpL_skip ?_ | refine wpL_label ?_ | refine wpL_scope ?_)
    refine wpL_region' [0, 4, 12] fun q hq => ?_
    simp -implicitDefEqProofs (disch := omega) only [go_sem, Int.reduceEq, Int.reduceLT, Int.reduceLE, Int.reduceToNat, Int.reduceNeg, Int.reduceAdd, Int.reduceSub, Nat.reduceEqDiff, Nat.reduceAdd, Nat.reduceMul, Nat.reduceLeDiff, Nat.reduceSub, ↓reduceIte, reduceCtorEq, i8]
    repeat (refine And.intro (by omega) ?_)
    refine hq _ _ _ (by simp only [pickL, lk_cons, Nat.reduceEqDiff, ↓reduceIte]; exact rfl) ?_
    clear hq q
    repeat' (first | refine wpL_seq ?_ | refine wpL_skip ?_ | refine wpL_label ?_ | refine wpL_scope ?_)
    have eW : W2 = Z ++ Y.take k := by
      rw [hW2, hW1, hW]
      simp only [List.take_take]
      rw [show min (k + 1) (k + 2 + 1) = k + 1 by omega, List.take_append, List.take_of_length_le (by omega), hZ, Nat.add_sub_cancel]
    have hpw : w / 10000 < 10 ^ k := by
      rw [Nat.pow_add] at hw
      exact Nat.div_lt_of_lt_mul (by rw [Nat.mul_comm]; exact hw)
    have := tail5 k (w / 10000) (Y.take k) (dg (w / 1000) :: dg (w / 100) :: dg (w / 10) :: dg w :: T) (by omega) (by omega) (by simp; omega) hpw (by rw [hP, padD_4]; simp)
    rw [← eW, List.cons_append, List.cons_append, List.cons_append, List.cons_append, ← hV, ← hV1, ← hV2] at this
    exact wpL_nil this
  · have hc5 := of_decide_eq_false hc5
    refine wpL_pick' [0, 4, 12] (by simp only [pickL, lk_cons, Nat.reduceEqDiff, ↓reduceIte]; exact rfl) ?_
    repeat' (first | refine wpL_seq ?_ | refine wpL_skip ?_ | refine wpL_label ?_ | refine wpL_scope ?_)
    repeat' (first | refine wpL_seq ?_ | refine wpL_skip ?_ | refine wpL_label ?_ | refine wpL_scope ?_)
    exact wpL_nil (tail5 j w Y T (by omega) hi hY hw hP)
end Go.Proofs.YtchhknkflhikmaaDoor.Am.Y
