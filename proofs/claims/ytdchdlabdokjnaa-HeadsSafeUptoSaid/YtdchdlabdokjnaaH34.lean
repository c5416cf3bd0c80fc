/- A group's rounds in the pictures. -/
import Derived.Test.YtdchdlabdokjnaaH29
namespace Go.Proofs.Ytdchdlabdokjnaa.Am.H
set_option linter.unusedSectionVars false
open Go Go.Proofs Am
set_option linter.unusedVariables false
set_option linter.unusedSimpArgs false
set_option maxRecDepth 100000
attribute [local irreducible] gO gN gW gdO

/-- What a group shows, and for how long, picture by picture. -/
structure Col (g : Group) (l : List (List UInt8)) (k : Nat) (S : Nat → Int × Int) : Prop where
  at' : ∀ j, j < l.length → ∃ s, l[j]? = some s ∧ s[k]? = some (letter (S j).1) ∧ 0 ≤ (S j).1 ∧ (S j).1 ≤ 3
  zero : 0 < l.length → S 0 = (0, 1)
  stay : ∀ j, j + 1 < l.length → (S (j + 1)).1 = (S j).1 → (S (j + 1)).2 = (S j).2 + 1
  move : ∀ j, j + 1 < l.length → (S (j + 1)).1 ≠ (S j).1 → (S (j + 1)).2 = 1
  n0 : ∀ j, j + 1 < l.length → (S j).1 = 0 → (S (j + 1)).1 = 0 ∨ ((S (j + 1)).1 = 1 ∧ 0 < g.lead) ∨ ((S (j + 1)).1 = 2 ∧ g.lead = 0)
  n1 : ∀ j, j + 1 < l.length → (S j).1 = 1 → (S (j + 1)).1 = 1 ∨ ((S (j + 1)).1 = 2 ∧ g.lead ≤ (S j).2)
  n2 : ∀ j, j + 1 < l.length → (S j).1 = 2 → (S (j + 1)).1 = 2 ∨ (g.min ≤ (S j).2 ∧ (((S (j + 1)).1 = 3 ∧ 0 < g.amber) ∨ ((S (j + 1)).1 = 0 ∧ g.amber = 0)))
  n3 : ∀ j, j + 1 < l.length → (S j).1 = 3 → (S (j + 1)).1 = 3 ∨ ((S (j + 1)).1 = 0 ∧ g.amber ≤ (S j).2)
  b1 : ∀ j, j < l.length → (S j).1 = 1 → (S j).2 ≤ g.lead
  b3 : ∀ j, j < l.length → (S j).1 = 3 → (S j).2 ≤ g.amber
theorem letter_l {a : Int} : letter a = 108 ↔ a = 1 := by
  unfold letter
  constructor
  · intro h
    (repeat' split at h) <;> first | (exact absurd h (by decide)) | assumption
  · rintro rfl; rfl
theorem letter_g' {a : Int} : letter a = 103 ↔ a = 2 := by
  unfold letter
  constructor
  · intro h
    (repeat' split at h) <;> first | (exact absurd h (by decide)) | assumption
  · rintro rfl; rfl
theorem letter_a {a : Int} : letter a = 97 ↔ a = 3 := by
  unfold letter
  constructor
  · intro h
    (repeat' split at h) <;> first | (exact absurd h (by decide)) | assumption
  · rintro rfl; rfl
theorem let_dec {a : Int} {n : UInt8} {v : Int} (h : letter a = n ↔ a = v) : decide (((letter a).toNat : Int) = (n.toNat : Int)) = decide (a = v) := by
  by_cases hv : a = v
  · rw [decide_eq_true hv, decide_eq_true (by rw [h.2 hv])]
  · rw [decide_eq_false hv, decide_eq_false (fun h9 => hv (h.1 (UInt8.toNat_inj.1 (by omega))))]
theorem d114 (a : Int) : decide (((letter a).toNat : Int) = 114) = decide (a = 0) := let_dec letter_r
theorem d108 (a : Int) : decide (((letter a).toNat : Int) = 108) = decide (a = 1) := let_dec letter_l
theorem d103 (a : Int) : decide (((letter a).toNat : Int) = 103) = decide (a = 2) := let_dec letter_g'
theorem d97 (a : Int) : decide (((letter a).toNat : Int) = 97) = decide (a = 3) := let_dec letter_a

section
variable {g : Group} {l : List (List UInt8)} {k : Nat} {S : Nat → Int × Int}
theorem pair_of {p : Int × Int} {a b : Int} (h1 : p.1 = a) (h2 : p.2 = b) : p = (a, b) := by cases p; simp_all
theorem tr0 (hC : Col g l k S) {i : Nat} (h0 : 0 < i) (hi : i < l.length) (h : (S (i - 1)).1 = 0) (hne : ¬ (S i).1 = 0) : (S i = (1, 1) ∧ 0 < g.lead) ∨ (S i = (2, 1) ∧ g.lead = 0) := by
  obtain ⟨j, rfl⟩ : ∃ j, i = j + 1 := ⟨i - 1, by omega⟩
  simp only [Nat.add_sub_cancel] at h
  have m := hC.move j hi (by rw [h]; exact hne)
  rcases hC.n0 j hi h with h1 | ⟨h1, h2⟩ | ⟨h1, h2⟩
  · exact absurd h1 hne
  · exact .inl ⟨pair_of h1 m, h2⟩
  · exact .inr ⟨pair_of h1 m, h2⟩
theorem tr1 (hC : Col g l k S) {i : Nat} (h0 : 0 < i) (hi : i < l.length) (h : (S (i - 1)).1 = 1) (hne : ¬ (S i).1 = 1) : S i = (2, 1) ∧ g.lead ≤ (S (i - 1)).2 := by
  obtain ⟨j, rfl⟩ : ∃ j, i = j + 1 := ⟨i - 1, by omega⟩
  simp only [Nat.add_sub_cancel] at h ⊢
  have m := hC.move j hi (by rw [h]; exact hne)
  rcases hC.n1 j hi h with h1 | ⟨h1, h2⟩
  · exact absurd h1 hne
  · exact ⟨pair_of h1 m, h2⟩
theorem tr2 (hC : Col g l k S) {i : Nat} (h0 : 0 < i) (hi : i < l.length) (h : (S (i - 1)).1 = 2) (hne : ¬ (S i).1 = 2) : g.min ≤ (S (i - 1)).2 ∧ ((S i = (3, 1) ∧ 0 < g.amber) ∨ (S i = (0, 1) ∧ g.amber = 0)) := by
  obtain ⟨j, rfl⟩ : ∃ j, i = j + 1 := ⟨i - 1, by omega⟩
  simp only [Nat.add_sub_cancel] at h ⊢
  have m := hC.move j hi (by rw [h]; exact hne)
  rcases hC.n2 j hi h with h1 | ⟨h1, ⟨h2, h3⟩ | ⟨h2, h3⟩⟩
  · exact absurd h1 hne
  · exact ⟨h1, .inl ⟨pair_of h2 m, h3⟩⟩
  · exact ⟨h1, .inr ⟨pair_of h2 m, h3⟩⟩
theorem tr3 (hC : Col g l k S) {i : Nat} (h0 : 0 < i) (hi : i < l.length) (h : (S (i - 1)).1 = 3) (hne : ¬ (S i).1 = 3) : S i = (0, 1) ∧ g.amber ≤ (S (i - 1)).2 := by
  obtain ⟨j, rfl⟩ : ∃ j, i = j + 1 := ⟨i - 1, by omega⟩
  simp only [Nat.add_sub_cancel] at h ⊢
  have m := hC.move j hi (by rw [h]; exact hne)
  rcases hC.n3 j hi h with h1 | ⟨h1, h2⟩
  · exact absurd h1 hne
  · exact ⟨pair_of h1 m, h2⟩
theorem tr_stay (hC : Col g l k S) {i : Nat} (h0 : 0 < i) (hi : i < l.length) (h : (S i).1 = (S (i - 1)).1) : (S i).2 = (S (i - 1)).2 + 1 := by
  obtain ⟨j, rfl⟩ : ∃ j, i = j + 1 := ⟨i - 1, by omega⟩
  exact hC.stay j hi h
end
theorem f56_line (g : Group) (l : List (List UInt8)) (k : Nat) (S : Nat → Int × Int) (hl : l.length ≤ 9000000) (hk : k < 64) (hg : (1 ≤ g.min ∧ g.min ≤ 3600) ∧ (0 ≤ g.amber ∧ g.amber ≤ 60) ∧ (0 ≤ g.lead ∧ g.lead ≤ 60)) (hC : Col g l k S) :
    wpP Try.prog 56 [.agg g.cells, .rs 1 (l.map st1), .int .i64 k] (.bool true) := by
  refine wpP_intro ?_
  refine wpH_intro (fn := Try.f56) rfl rfl (by decide) (by kernel_rfl) fun K' hK' => ?_
  repeat' (first | refine wpL_seq ?_ | refine wpL_skip ?_ | refine wpL_label ?_ | refine wpL_scope ?_)
  refine wpL_region' [1, 2, 3] fun q hq => ?_
  simp -implicitDefEqProofs (disch := omega) only [go_sem, Int.reduceEq, Int.reduceLT, Int.reduceLE, Int.reduceToNat, Int.reduceNeg, Int.reduceAdd, Int.reduceSub, Nat.reduceEqDiff, Nat.reduceAdd, Nat.reduceMul, Nat.reduceLeDiff, Nat.reduceSub, ↓reduceIte, reduceCtorEq, Group.cells]
  repeat (refine And.intro (by omega) ?_)
  refine gN_new fun b3 hb3 => ?_
  try simp only [newIn_put, newIn_upd] at hb3
  simp -implicitDefEqProofs (disch := omega) only [go_sem, Int.reduceEq, Int.reduceLT, Int.reduceLE, Int.reduceToNat, Int.reduceNeg, Int.reduceAdd, Int.reduceSub, Nat.reduceEqDiff, Nat.reduceAdd, Nat.reduceMul, Nat.reduceLeDiff, Nat.reduceSub, ↓reduceIte, reduceCtorEq, Group.cells, hb3]
  repeat (refine And.intro (by omega) ?_)
  refine hq _ _ _ (by simp only [pickL, lk_cons, Int.reduceEq, Int.reduceLT, Int.reduceLE, Int.reduceToNat, Int.reduceNeg, Int.reduceAdd, Int.reduceSub, Nat.reduceEqDiff, Nat.reduceAdd, Nat.reduceMul, Nat.reduceLeDiff, Nat.reduceSub, ↓reduceIte, reduceCtorEq, if_true, if_false]; exact rfl) ?_
  clear hq q
  refine wpL_frzP' 3 rfl (by simp only [go_sem, hb3, hb3]; exact rfl) rfl (by simp only [go_sem, Int.reduceEq, Int.reduceLT, Int.reduceLE, Int.reduceToNat, Int.reduceNeg, Int.reduceAdd, Int.reduceSub, Nat.reduceEqDiff, Nat.reduceAdd, Nat.reduceMul, Nat.reduceLeDiff, Nat.reduceSub, ↓reduceIte, reduceCtorEq]; exact rfl) (by simp only [go_sem, hb3, hb3]; exact rfl) ?_
  repeat' (first | refine wpL_seq ?_ | refine wpL_skip ?_ | refine wpL_label ?_ | refine wpL_scope ?_)
  refine wpL_region' [1, 2, 3, 7] fun q hq => ?_
  simp -implicitDefEqProofs (disch := omega) only [go_sem, Int.reduceEq, Int.reduceLT, Int.reduceLE, Int.reduceToNat, Int.reduceNeg, Int.reduceAdd, Int.reduceSub, Nat.reduceEqDiff, Nat.reduceAdd, Nat.reduceMul, Nat.reduceLeDiff, Nat.reduceSub, ↓reduceIte, reduceCtorEq, hb3]
  repeat (refine And.intro (by omega) ?_)
  refine hq _ _ _ (by simp only [pickL, lk_cons, Int.reduceEq, Int.reduceLT, Int.reduceLE, Int.reduceToNat, Int.reduceNeg, Int.reduceAdd, Int.reduceSub, Nat.reduceEqDiff, Nat.reduceAdd, Nat.reduceMul, Nat.reduceLeDiff, Nat.reduceSub, ↓reduceIte, reduceCtorEq, if_true, if_false]; exact rfl) ?_
  clear hq q
  repeat' (first | refine wpL_seq ?_ | refine wpL_skip ?_ | refine wpL_label ?_ | refine wpL_scope ?_)
  refine wpL_block fun k1 hn1 hx1 ho1 => ?_
  refine wpL_loop (fun j e H => ∃ i : Nat, i ≤ l.length ∧ j = l.length - i ∧ H = Heap.emp ∧ (i < l.length → S i = (0, 1)) ∧
    e = lk [(1, .rs 1 (l.map st1)), (2, .int .i64 k), (3, .rp g.cells 0), (7, .int .i64 i)]) l.length ⟨0, by omega, by omega, rfl, fun h => hC.zero h, rfl⟩ ?_
  rintro j e H ⟨i0, hi0, hj0, rfl, hS0, rfl⟩ k2 hn2 hx2
  repeat' (first | refine wpL_seq ?_ | refine wpL_skip ?_ | refine wpL_label ?_ | refine wpL_scope ?_)
  refine wpL_region' [1, 2, 3, 7, 12] fun q hq => ?_
  simp -implicitDefEqProofs (disch := omega) only [go_sem, Int.reduceEq, Int.reduceLT, Int.reduceLE, Int.reduceToNat, Int.reduceNeg, Int.reduceAdd, Int.reduceSub, Nat.reduceEqDiff, Nat.reduceAdd, Nat.reduceMul, Nat.reduceLeDiff, Nat.reduceSub, ↓reduceIte, reduceCtorEq, List.length_map, hb3]
  repeat (refine And.intro (by omega) ?_)
  refine hq _ _ _ (by simp only [pickL, lk_cons, Int.reduceEq, Int.reduceLT, Int.reduceLE, Int.reduceToNat, Int.reduceNeg, Int.reduceAdd, Int.reduceSub, Nat.reduceEqDiff, Nat.reduceAdd, Nat.reduceMul, Nat.reduceLeDiff, Nat.reduceSub, ↓reduceIte, reduceCtorEq, if_true, if_false]; exact rfl) ?_
  clear hq q
  repeat' (first | refine wpL_seq ?_ | refine wpL_skip ?_ | refine wpL_label ?_ | refine wpL_scope ?_)
  refine wpL_cond rfl (fun hc3 => ?_) (fun hc3 => ?_)
  · simp at hc3
    have hS0 := hS0 hc3
    repeat' (first | refine wpL_seq ?_ | refine wpL_skip ?_ | refine wpL_label ?_ | refine wpL_scope ?_)
    refine wpL_block fun k4 hn4 hx4 ho4 => ?_
    repeat' (first | refine wpL_seq ?_ | refine wpL_skip ?_ | refine wpL_label ?_ | refine wpL_scope ?_)
    refine wpL_region' [1, 2, 3, 7, 8] fun q hq => ?_
    simp -implicitDefEqProofs (disch := omega) only [go_sem, Int.reduceEq, Int.reduceLT, Int.reduceLE, Int.reduceToNat, Int.reduceNeg, Int.reduceAdd, Int.reduceSub, Nat.reduceEqDiff, Nat.reduceAdd, Nat.reduceMul, Nat.reduceLeDiff, Nat.reduceSub, ↓reduceIte, reduceCtorEq, hb3]
    repeat (refine And.intro (by omega) ?_)
    refine hq _ _ _ (by simp only [pickL, lk_cons, Int.reduceEq, Int.reduceLT, Int.reduceLE, Int.reduceToNat, Int.reduceNeg, Int.reduceAdd, Int.reduceSub, Nat.reduceEqDiff, Nat.reduceAdd, Nat.reduceMul, Nat.reduceLeDiff, Nat.reduceSub, ↓reduceIte, reduceCtorEq, if_true, if_false]; exact rfl) ?_
    clear hq q
    repeat' (first | refine wpL_seq ?_ | refine wpL_skip ?_ | refine wpL_label ?_ | refine wpL_scope ?_)
    refine wpL_block fun k5 hn5 hx5 ho5 => ?_
    have exit1 : ∀ i1 : Nat, i0 < i1 → i1 ≤ l.length → (i1 < l.length → (S i1 = (1, 1) ∧ 0 < g.lead) ∨ (S i1 = (2, 1) ∧ g.lead = 0)) →
        k5 (.exit 2) (lk [(1, .rs 1 (l.map st1)), (2, .int .i64 k), (3, .rp g.cells 0), (7, .int .i64 i1), (8, .int .i64 i0)]) Heap.emp := by
      intro i1 h01 h1l hS1
      refine hx5 _ _ ?_
      repeat' (first | refine wpL_seq ?_ | refine wpL_skip ?_ | refine wpL_label ?_ | refine wpL_scope ?_)
      refine wpL_region' [1, 2, 3, 7, 31] fun q hq => ?_
      simp -implicitDefEqProofs (disch := omega) only [go_sem, Int.reduceEq, Int.reduceLT, Int.reduceLE, Int.reduceToNat, Int.reduceNeg, Int.reduceAdd, Int.reduceSub, Nat.reduceEqDiff, Nat.reduceAdd, Nat.reduceMul, Nat.reduceLeDiff, Nat.reduceSub, ↓reduceIte, reduceCtorEq, hb3]
      repeat (refine And.intro (by omega) ?_)
      refine hq _ _ _ (by simp only [pickL, lk_cons, Int.reduceEq, Int.reduceLT, Int.reduceLE, Int.reduceToNat, Int.reduceNeg, Int.reduceAdd, Int.reduceSub, Nat.reduceEqDiff, Nat.reduceAdd, Nat.reduceMul, Nat.reduceLeDiff, Nat.reduceSub, ↓reduceIte, reduceCtorEq, if_true, if_false]; exact rfl) ?_
      clear hq q
      repeat' (first | refine wpL_seq ?_ | refine wpL_skip ?_ | refine wpL_label ?_ | refine wpL_scope ?_)
      refine wpL_cond rfl (fun hc9 => ?_) (fun hc9 => ?_)
      · exfalso
        simp at hc9
        omega
      clear hc9
      repeat' (first | refine wpL_seq ?_ | refine wpL_skip ?_ | refine wpL_label ?_ | refine wpL_scope ?_)
      refine wpL_region' [1, 2, 3, 7, 8] fun q hq => ?_
      simp -implicitDefEqProofs (disch := omega) only [go_sem, Int.reduceEq, Int.reduceLT, Int.reduceLE, Int.reduceToNat, Int.reduceNeg, Int.reduceAdd, Int.reduceSub, Nat.reduceEqDiff, Nat.reduceAdd, Nat.reduceMul, Nat.reduceLeDiff, Nat.reduceSub, ↓reduceIte, reduceCtorEq, hb3]
      repeat (refine And.intro (by omega) ?_)
      refine hq _ _ _ (by simp only [pickL, lk_cons, Int.reduceEq, Int.reduceLT, Int.reduceLE, Int.reduceToNat, Int.reduceNeg, Int.reduceAdd, Int.reduceSub, Nat.reduceEqDiff, Nat.reduceAdd, Nat.reduceMul, Nat.reduceLeDiff, Nat.reduceSub, ↓reduceIte, reduceCtorEq, if_true, if_false]; exact rfl) ?_
      clear hq q
      repeat' (first | refine wpL_seq ?_ | refine wpL_skip ?_ | refine wpL_label ?_ | refine wpL_scope ?_)
      refine wpL_block fun k10 hn10 hx10 ho10 => ?_
      have exit2 : ∀ i2 : Nat, i1 ≤ i2 → i2 ≤ l.length → (i2 = l.length → (i2 : Int) - i1 ≤ g.lead) → (i2 < l.length → (i2 : Int) - i1 = g.lead ∧ S i2 = (2, 1)) →
          k10 (.exit 4) (lk [(1, .rs 1 (l.map st1)), (2, .int .i64 k), (3, .rp g.cells 0), (7, .int .i64 i2), (8, .int .i64 i1)]) Heap.emp := by
        intro i2 h12 h2l hE hS2
        refine hx10 _ _ ?_
        repeat' (first | refine wpL_seq ?_ | refine wpL_skip ?_ | refine wpL_label ?_ | refine wpL_scope ?_)
        refine wpL_region' [1, 2, 3, 7, 8, 51] fun q hq => ?_
        simp -implicitDefEqProofs (disch := omega) only [go_sem, Int.reduceEq, Int.reduceLT, Int.reduceLE, Int.reduceToNat, Int.reduceNeg, Int.reduceAdd, Int.reduceSub, Nat.reduceEqDiff, Nat.reduceAdd, Nat.reduceMul, Nat.reduceLeDiff, Nat.reduceSub, ↓reduceIte, reduceCtorEq, List.length_map, hb3]
        repeat (refine And.intro (by omega) ?_)
        refine hq _ _ _ (by simp only [pickL, lk_cons, Int.reduceEq, Int.reduceLT, Int.reduceLE, Int.reduceToNat, Int.reduceNeg, Int.reduceAdd, Int.reduceSub, Nat.reduceEqDiff, Nat.reduceAdd, Nat.reduceMul, Nat.reduceLeDiff, Nat.reduceSub, ↓reduceIte, reduceCtorEq, if_true, if_false]; exact rfl) ?_
        clear hq q
        repeat' (first | refine wpL_seq ?_ | refine wpL_skip ?_ | refine wpL_label ?_ | refine wpL_scope ?_)
        refine wpL_cond rfl (fun hc14 => ?_) (fun hc14 => ?_)
        · simp at hc14
          have := hE (by omega)
          repeat' (first | refine wpL_seq ?_ | refine wpL_skip ?_ | refine wpL_label ?_ | refine wpL_scope ?_)
          refine wpL_region' [6] fun q hq => ?_
          simp -implicitDefEqProofs (disch := omega) only [go_sem, Int.reduceEq, Int.reduceLT, Int.reduceLE, Int.reduceToNat, Int.reduceNeg, Int.reduceAdd, Int.reduceSub, Nat.reduceEqDiff, Nat.reduceAdd, Nat.reduceMul, Nat.reduceLeDiff, Nat.reduceSub, ↓reduceIte, reduceCtorEq, Group.cells, hb3]
          repeat (refine And.intro (by omega) ?_)
          refine hq _ _ _ (by simp only [pickL, lk_cons, Int.reduceEq, Int.reduceLT, Int.reduceLE, Int.reduceToNat, Int.reduceNeg, Int.reduceAdd, Int.reduceSub, Nat.reduceEqDiff, Nat.reduceAdd, Nat.reduceMul, Nat.reduceLeDiff, Nat.reduceSub, ↓reduceIte, reduceCtorEq, if_true, if_false]; exact rfl) ?_
          clear hq q
          repeat' (first | refine wpL_seq ?_ | refine wpL_skip ?_ | refine wpL_label ?_ | refine wpL_scope ?_)
          refine wpL_ret (ho4 _ _ _ (by simp) (by simp) (hx2 _ _ _ (by simp) (ho1 _ _ _ (by simp) (by simp) (hK' _ _ _ _ (.inr rfl) (resTo (rs' := [.tmp 6]) rfl (by simp only [go_sem, Int.reduceEq, Int.reduceLT, Int.reduceLE, Int.reduceToNat, Int.reduceNeg, Int.reduceAdd, Int.reduceSub, Nat.reduceEqDiff, Nat.reduceAdd, Nat.reduceMul, Nat.reduceLeDiff, Nat.reduceSub, ↓reduceIte, reduceCtorEq, hb3]; exact rfl)) ?_))))
          congr 1; exact decide_eq_true this
        simp at hc14
        obtain ⟨e2, hS2⟩ := hS2 (by omega)
        repeat' (first | refine wpL_seq ?_ | refine wpL_skip ?_ | refine wpL_label ?_ | refine wpL_scope ?_)
        refine wpL_region' [1, 2, 3, 7, 63] fun q hq => ?_
        simp -implicitDefEqProofs (disch := omega) only [go_sem, Int.reduceEq, Int.reduceLT, Int.reduceLE, Int.reduceToNat, Int.reduceNeg, Int.reduceAdd, Int.reduceSub, Nat.reduceEqDiff, Nat.reduceAdd, Nat.reduceMul, Nat.reduceLeDiff, Nat.reduceSub, ↓reduceIte, reduceCtorEq, Group.cells, hb3]
        repeat (refine And.intro (by omega) ?_)
        refine hq _ _ _ (by simp only [pickL, lk_cons, Int.reduceEq, Int.reduceLT, Int.reduceLE, Int.reduceToNat, Int.reduceNeg, Int.reduceAdd, Int.reduceSub, Nat.reduceEqDiff, Nat.reduceAdd, Nat.reduceMul, Nat.reduceLeDiff, Nat.reduceSub, ↓reduceIte, reduceCtorEq, if_true, if_false]; exact rfl) ?_
        clear hq q
        repeat' (first | refine wpL_seq ?_ | refine wpL_skip ?_ | refine wpL_label ?_ | refine wpL_scope ?_)
        refine wpL_cond rfl (fun hc15 => ?_) (fun hc15 => ?_)
        · exfalso
          simp at hc15
          omega
        clear hc15
        repeat' (first | refine wpL_seq ?_ | refine wpL_skip ?_ | refine wpL_label ?_ | refine wpL_scope ?_)
        refine wpL_region' [1, 2, 3, 7, 8] fun q hq => ?_
        simp -implicitDefEqProofs (disch := omega) only [go_sem, Int.reduceEq, Int.reduceLT, Int.reduceLE, Int.reduceToNat, Int.reduceNeg, Int.reduceAdd, Int.reduceSub, Nat.reduceEqDiff, Nat.reduceAdd, Nat.reduceMul, Nat.reduceLeDiff, Nat.reduceSub, ↓reduceIte, reduceCtorEq, hb3]
        repeat (refine And.intro (by omega) ?_)
        refine hq _ _ _ (by simp only [pickL, lk_cons, Int.reduceEq, Int.reduceLT, Int.reduceLE, Int.reduceToNat, Int.reduceNeg, Int.reduceAdd, Int.reduceSub, Nat.reduceEqDiff, Nat.reduceAdd, Nat.reduceMul, Nat.reduceLeDiff, Nat.reduceSub, ↓reduceIte, reduceCtorEq, if_true, if_false]; exact rfl) ?_
        clear hq q
        repeat' (first | refine wpL_seq ?_ | refine wpL_skip ?_ | refine wpL_label ?_ | refine wpL_scope ?_)
        refine wpL_block fun k16 hn16 hx16 ho16 => ?_
        have exit3 : ∀ i3 : Nat, i2 < i3 → i3 ≤ l.length → (i3 < l.length → g.min ≤ (i3 : Int) - i2 ∧ ((S i3 = (3, 1) ∧ 0 < g.amber) ∨ (S i3 = (0, 1) ∧ g.amber = 0))) →
            k16 (.exit 6) (lk [(1, .rs 1 (l.map st1)), (2, .int .i64 k), (3, .rp g.cells 0), (7, .int .i64 i3), (8, .int .i64 i2)]) Heap.emp := by
          intro i3 h23 h3l hS3
          refine hx16 _ _ ?_
          repeat' (first | refine wpL_seq ?_ | refine wpL_skip ?_ | refine wpL_label ?_ | refine wpL_scope ?_)
          refine wpL_region' [1, 2, 3, 7, 8, 83] fun q hq => ?_
          simp -implicitDefEqProofs (disch := omega) only [go_sem, Int.reduceEq, Int.reduceLT, Int.reduceLE, Int.reduceToNat, Int.reduceNeg, Int.reduceAdd, Int.reduceSub, Nat.reduceEqDiff, Nat.reduceAdd, Nat.reduceMul, Nat.reduceLeDiff, Nat.reduceSub, ↓reduceIte, reduceCtorEq, List.length_map, hb3]
          repeat (refine And.intro (by omega) ?_)
          refine hq _ _ _ (by simp only [pickL, lk_cons, Int.reduceEq, Int.reduceLT, Int.reduceLE, Int.reduceToNat, Int.reduceNeg, Int.reduceAdd, Int.reduceSub, Nat.reduceEqDiff, Nat.reduceAdd, Nat.reduceMul, Nat.reduceLeDiff, Nat.reduceSub, ↓reduceIte, reduceCtorEq, if_true, if_false]; exact rfl) ?_
          clear hq q
          repeat' (first | refine wpL_seq ?_ | refine wpL_skip ?_ | refine wpL_label ?_ | refine wpL_scope ?_)
          refine wpL_cond rfl (fun hc20 => ?_) (fun hc20 => ?_)
          · simp at hc20
            repeat' (first | refine wpL_seq ?_ | refine wpL_skip ?_ | refine wpL_label ?_ | refine wpL_scope ?_)
            refine wpL_region' [6] fun q hq => ?_
            simp -implicitDefEqProofs (disch := omega) only [go_sem, Int.reduceEq, Int.reduceLT, Int.reduceLE, Int.reduceToNat, Int.reduceNeg, Int.reduceAdd, Int.reduceSub, Nat.reduceEqDiff, Nat.reduceAdd, Nat.reduceMul, Nat.reduceLeDiff, Nat.reduceSub, ↓reduceIte, reduceCtorEq, hb3]
            repeat (refine And.intro (by omega) ?_)
            refine hq _ _ _ (by simp only [pickL, lk_cons, Int.reduceEq, Int.reduceLT, Int.reduceLE, Int.reduceToNat, Int.reduceNeg, Int.reduceAdd, Int.reduceSub, Nat.reduceEqDiff, Nat.reduceAdd, Nat.reduceMul, Nat.reduceLeDiff, Nat.reduceSub, ↓reduceIte, reduceCtorEq, if_true, if_false]; exact rfl) ?_
            clear hq q
            repeat' (first | refine wpL_seq ?_ | refine wpL_skip ?_ | refine wpL_label ?_ | refine wpL_scope ?_)
            refine wpL_ret (ho4 _ _ _ (by simp) (by simp) (hx2 _ _ _ (by simp) (ho1 _ _ _ (by simp) (by simp) (hK' _ _ _ _ (.inr rfl) (resTo (rs' := [.tmp 6]) rfl (by simp only [go_sem, Int.reduceEq, Int.reduceLT, Int.reduceLE, Int.reduceToNat, Int.reduceNeg, Int.reduceAdd, Int.reduceSub, Nat.reduceEqDiff, Nat.reduceAdd, Nat.reduceMul, Nat.reduceLeDiff, Nat.reduceSub, ↓reduceIte, reduceCtorEq, hb3]; exact rfl)) ?_))))
            congr 1; exact decide_eq_true (by omega)
          simp at hc20
          obtain ⟨e3, hS3⟩ := hS3 (by omega)
          repeat' (first | refine wpL_seq ?_ | refine wpL_skip ?_ | refine wpL_label ?_ | refine wpL_scope ?_)
          refine wpL_region' [1, 2, 3, 7, 92] fun q hq => ?_
          simp -implicitDefEqProofs (disch := omega) only [go_sem, Int.reduceEq, Int.reduceLT, Int.reduceLE, Int.reduceToNat, Int.reduceNeg, Int.reduceAdd, Int.reduceSub, Nat.reduceEqDiff, Nat.reduceAdd, Nat.reduceMul, Nat.reduceLeDiff, Nat.reduceSub, ↓reduceIte, reduceCtorEq, Group.cells, hb3]
          repeat (refine And.intro (by omega) ?_)
          refine hq _ _ _ (by simp only [pickL, lk_cons, Int.reduceEq, Int.reduceLT, Int.reduceLE, Int.reduceToNat, Int.reduceNeg, Int.reduceAdd, Int.reduceSub, Nat.reduceEqDiff, Nat.reduceAdd, Nat.reduceMul, Nat.reduceLeDiff, Nat.reduceSub, ↓reduceIte, reduceCtorEq, if_true, if_false]; exact rfl) ?_
          clear hq q
          repeat' (first | refine wpL_seq ?_ | refine wpL_skip ?_ | refine wpL_label ?_ | refine wpL_scope ?_)
          refine wpL_cond rfl (fun hc21 => ?_) (fun hc21 => ?_)
          · exfalso
            simp at hc21
            omega
          clear hc21
          repeat' (first | refine wpL_seq ?_ | refine wpL_skip ?_ | refine wpL_label ?_ | refine wpL_scope ?_)
          refine wpL_region' [1, 2, 3, 7, 8] fun q hq => ?_
          simp -implicitDefEqProofs (disch := omega) only [go_sem, Int.reduceEq, Int.reduceLT, Int.reduceLE, Int.reduceToNat, Int.reduceNeg, Int.reduceAdd, Int.reduceSub, Nat.reduceEqDiff, Nat.reduceAdd, Nat.reduceMul, Nat.reduceLeDiff, Nat.reduceSub, ↓reduceIte, reduceCtorEq, hb3]
          repeat (refine And.intro (by omega) ?_)
          refine hq _ _ _ (by simp only [pickL, lk_cons, Int.reduceEq, Int.reduceLT, Int.reduceLE, Int.reduceToNat, Int.reduceNeg, Int.reduceAdd, Int.reduceSub, Nat.reduceEqDiff, Nat.reduceAdd, Nat.reduceMul, Nat.reduceLeDiff, Nat.reduceSub, ↓reduceIte, reduceCtorEq, if_true, if_false]; exact rfl) ?_
          clear hq q
          repeat' (first | refine wpL_seq ?_ | refine wpL_skip ?_ | refine wpL_label ?_ | refine wpL_scope ?_)
          refine wpL_block fun k22 hn22 hx22 ho22 => ?_
          have exit4 : ∀ i4 : Nat, i3 ≤ i4 → i4 ≤ l.length → (i4 = l.length → (i4 : Int) - i3 ≤ g.amber) → (i4 < l.length → (i4 : Int) - i3 = g.amber ∧ S i4 = (0, 1)) →
              k22 (.exit 8) (lk [(1, .rs 1 (l.map st1)), (2, .int .i64 k), (3, .rp g.cells 0), (7, .int .i64 i4), (8, .int .i64 i3)]) Heap.emp := by
            intro i4 h34 h4l hE4 hS4
            refine hx22 _ _ ?_
            repeat' (first | refine wpL_seq ?_ | refine wpL_skip ?_ | refine wpL_label ?_ | refine wpL_scope ?_)
            refine wpL_region' [1, 2, 3, 7, 8, 112] fun q hq => ?_
            simp -implicitDefEqProofs (disch := omega) only [go_sem, Int.reduceEq, Int.reduceLT, Int.reduceLE, Int.reduceToNat, Int.reduceNeg, Int.reduceAdd, Int.reduceSub, Nat.reduceEqDiff, Nat.reduceAdd, Nat.reduceMul, Nat.reduceLeDiff, Nat.reduceSub, ↓reduceIte, reduceCtorEq, List.length_map, hb3]
            repeat (refine And.intro (by omega) ?_)
            refine hq _ _ _ (by simp only [pickL, lk_cons, Int.reduceEq, Int.reduceLT, Int.reduceLE, Int.reduceToNat, Int.reduceNeg, Int.reduceAdd, Int.reduceSub, Nat.reduceEqDiff, Nat.reduceAdd, Nat.reduceMul, Nat.reduceLeDiff, Nat.reduceSub, ↓reduceIte, reduceCtorEq, if_true, if_false]; exact rfl) ?_
            clear hq q
            repeat' (first | refine wpL_seq ?_ | refine wpL_skip ?_ | refine wpL_label ?_ | refine wpL_scope ?_)
            refine wpL_cond rfl (fun hc26 => ?_) (fun hc26 => ?_)
            · simp at hc26
              have := hE4 (by omega)
              repeat' (first | refine wpL_seq ?_ | refine wpL_skip ?_ | refine wpL_label ?_ | refine wpL_scope ?_)
              refine wpL_region' [6] fun q hq => ?_
              simp -implicitDefEqProofs (disch := omega) only [go_sem, Int.reduceEq, Int.reduceLT, Int.reduceLE, Int.reduceToNat, Int.reduceNeg, Int.reduceAdd, Int.reduceSub, Nat.reduceEqDiff, Nat.reduceAdd, Nat.reduceMul, Nat.reduceLeDiff, Nat.reduceSub, ↓reduceIte, reduceCtorEq, Group.cells, hb3]
              repeat (refine And.intro (by omega) ?_)
              refine hq _ _ _ (by simp only [pickL, lk_cons, Int.reduceEq, Int.reduceLT, Int.reduceLE, Int.reduceToNat, Int.reduceNeg, Int.reduceAdd, Int.reduceSub, Nat.reduceEqDiff, Nat.reduceAdd, Nat.reduceMul, Nat.reduceLeDiff, Nat.reduceSub, ↓reduceIte, reduceCtorEq, if_true, if_false]; exact rfl) ?_
              clear hq q
              repeat' (first | refine wpL_seq ?_ | refine wpL_skip ?_ | refine wpL_label ?_ | refine wpL_scope ?_)
              refine wpL_ret (ho4 _ _ _ (by simp) (by simp) (hx2 _ _ _ (by simp) (ho1 _ _ _ (by simp) (by simp) (hK' _ _ _ _ (.inr rfl) (resTo (rs' := [.tmp 6]) rfl (by simp only [go_sem, Int.reduceEq, Int.reduceLT, Int.reduceLE, Int.reduceToNat, Int.reduceNeg, Int.reduceAdd, Int.reduceSub, Nat.reduceEqDiff, Nat.reduceAdd, Nat.reduceMul, Nat.reduceLeDiff, Nat.reduceSub, ↓reduceIte, reduceCtorEq, hb3]; exact rfl)) ?_))))
              congr 1; exact decide_eq_true this
            simp at hc26
            obtain ⟨e4, hS4⟩ := hS4 (by omega)
            repeat' (first | refine wpL_seq ?_ | refine wpL_skip ?_ | refine wpL_label ?_ | refine wpL_scope ?_)
            refine wpL_region' [1, 2, 3, 7, 124] fun q hq => ?_
            simp -implicitDefEqProofs (disch := omega) only [go_sem, Int.reduceEq, Int.reduceLT, Int.reduceLE, Int.reduceToNat, Int.reduceNeg, Int.reduceAdd, Int.reduceSub, Nat.reduceEqDiff, Nat.reduceAdd, Nat.reduceMul, Nat.reduceLeDiff, Nat.reduceSub, ↓reduceIte, reduceCtorEq, Group.cells, hb3]
            repeat (refine And.intro (by omega) ?_)
            refine hq _ _ _ (by simp only [pickL, lk_cons, Int.reduceEq, Int.reduceLT, Int.reduceLE, Int.reduceToNat, Int.reduceNeg, Int.reduceAdd, Int.reduceSub, Nat.reduceEqDiff, Nat.reduceAdd, Nat.reduceMul, Nat.reduceLeDiff, Nat.reduceSub, ↓reduceIte, reduceCtorEq, if_true, if_false]; exact rfl) ?_
            clear hq q
            repeat' (first | refine wpL_seq ?_ | refine wpL_skip ?_ | refine wpL_label ?_ | refine wpL_scope ?_)
            refine wpL_cond rfl (fun hc27 => ?_) (fun hc27 => ?_)
            · exfalso
              simp at hc27
              omega
            clear hc27
            refine wpL_pick' [1, 2, 3, 7] (by simp only [pickL, lk_cons, Int.reduceEq, Int.reduceLT, Int.reduceLE, Int.reduceToNat, Int.reduceNeg, Int.reduceAdd, Int.reduceSub, Nat.reduceEqDiff, Nat.reduceAdd, Nat.reduceMul, Nat.reduceLeDiff, Nat.reduceSub, ↓reduceIte, reduceCtorEq, if_true, if_false]; exact rfl) ?_
            repeat' (first | refine wpL_seq ?_ | refine wpL_skip ?_ | refine wpL_label ?_ | refine wpL_scope ?_)
            repeat' (first | refine wpL_seq ?_ | refine wpL_skip ?_ | refine wpL_label ?_ | refine wpL_scope ?_)
            refine wpL_nil (hn4 _ _ ?_)
            repeat' (first | refine wpL_seq ?_ | refine wpL_skip ?_ | refine wpL_label ?_ | refine wpL_scope ?_)
            exact wpL_nil (hn2 (l.length - i4) _ _ (by omega) ⟨i4, by omega, rfl, rfl, fun _ => hS4, rfl⟩)
          refine wpL_loop (fun j e H => ∃ i : Nat, i3 ≤ i ∧ i ≤ l.length ∧ j = l.length - i ∧ H = Heap.emp ∧ (i3 < i → (S (i - 1)).1 = 3 ∧ (S (i - 1)).2 = (i : Int) - i3) ∧
            e = lk [(1, .rs 1 (l.map st1)), (2, .int .i64 k), (3, .rp g.cells 0), (7, .int .i64 i), (8, .int .i64 i3)]) (l.length - i3) ⟨i3, by omega, by omega, rfl, rfl, by omega, rfl⟩ ?_
          rintro j e H ⟨i, hi1, hi2, hj, rfl, hS, rfl⟩ k23 hn23 hx23
          by_cases hil : i < l.length
          · obtain ⟨s, es, ek, ea0, ea3⟩ := hC.at' i hil
            repeat' (first | refine wpL_seq ?_ | refine wpL_skip ?_ | refine wpL_label ?_ | refine wpL_scope ?_)
            refine wpL_regV [1, 2, 3, 7, 8] 106 (.bool (decide ((S i).1 = 3))) (by simp only [pickL, put, lk_cons, Int.reduceEq, Int.reduceLT, Int.reduceLE, Int.reduceToNat, Int.reduceNeg, Int.reduceAdd, Int.reduceSub, Nat.reduceEqDiff, Nat.reduceAdd, Nat.reduceMul, Nat.reduceLeDiff, Nat.reduceSub, ↓reduceIte, reduceCtorEq, if_true, if_false]; exact rfl) (by decide) ?_ ?_
            · simp -implicitDefEqProofs (disch := omega) only [go_sem, Int.reduceEq, Int.reduceLT, Int.reduceLE, Int.reduceToNat, Int.reduceNeg, Int.reduceAdd, Int.reduceSub, Nat.reduceEqDiff, Nat.reduceAdd, Nat.reduceMul, Nat.reduceLeDiff, Nat.reduceSub, ↓reduceIte, reduceCtorEq, List.length_map, es, st1, ek, d97, hb3]
              repeat' (first | (refine gN_split2 (fun hs => ?_) (fun hs => ?_) <;> simp -implicitDefEqProofs (disch := omega) only [go_sem, Int.reduceEq, Int.reduceLT, Int.reduceLE, Int.reduceToNat, Int.reduceNeg, Int.reduceAdd, Int.reduceSub, Nat.reduceEqDiff, Nat.reduceAdd, Nat.reduceMul, Nat.reduceLeDiff, Nat.reduceSub, ↓reduceIte, reduceCtorEq, hs, List.length_map, es, st1, ek, d97, hb3]) | simp -implicitDefEqProofs (disch := omega) only [go_sem, Int.reduceEq, Int.reduceLT, Int.reduceLE, Int.reduceToNat, Int.reduceNeg, Int.reduceAdd, Int.reduceSub, Nat.reduceEqDiff, Nat.reduceAdd, Nat.reduceMul, Nat.reduceLeDiff, Nat.reduceSub, ↓reduceIte, reduceCtorEq, List.length_map, es, st1, ek, d97, hb3] | refine And.intro (by omega) ?_)
              all_goals (try clear hK'; try clear hn1; try clear hx1; try clear ho1; try clear hn2; try clear hx2; try clear hn4; try clear hx4; try clear ho4; try clear hn5; try clear hx5; try clear ho5; try clear hn10; try clear hx10; try clear ho10; try clear hn16; try clear hx16; try clear ho16; try clear hn22; try clear hx22; try clear ho22; try clear hn23; try clear hx23)
              all_goals ((first | omega | simp_all))
            repeat' (first | refine wpL_seq ?_ | refine wpL_skip ?_ | refine wpL_label ?_ | refine wpL_scope ?_)
            refine wpL_cond rfl (fun hc24 => ?_) (fun hc24 => ?_)
            · simp at hc24
              have hstep : (S (i + 1 - 1)).1 = 3 ∧ (S (i + 1 - 1)).2 = ((i + 1 : Nat) : Int) - i3 := by
                simp only [Nat.add_sub_cancel]
                refine ⟨hc24, ?_⟩
                by_cases h9 : i3 < i
                · have := tr_stay hC (by omega) hil (by rw [hc24, (hS h9).1]); have := (hS h9).2; omega
                · obtain rfl : i = i3 := by omega
                  rcases hS3 with ⟨h8, _⟩ | ⟨h8, _⟩
                  · rw [h8]; omega
                  · rw [h8] at hc24; cases hc24
              repeat' (first | refine wpL_seq ?_ | refine wpL_skip ?_ | refine wpL_label ?_ | refine wpL_scope ?_)
              refine wpL_block fun k25 hn25 hx25 ho25 => ?_
              repeat' (first | refine wpL_seq ?_ | refine wpL_skip ?_ | refine wpL_label ?_ | refine wpL_scope ?_)
              refine wpL_region' [1, 2, 3, 7, 8] fun q hq => ?_
              simp -implicitDefEqProofs (disch := omega) only [go_sem, Int.reduceEq, Int.reduceLT, Int.reduceLE, Int.reduceToNat, Int.reduceNeg, Int.reduceAdd, Int.reduceSub, Nat.reduceEqDiff, Nat.reduceAdd, Nat.reduceMul, Nat.reduceLeDiff, Nat.reduceSub, ↓reduceIte, reduceCtorEq, hb3]
              repeat (refine And.intro (by omega) ?_)
              refine hq _ _ _ (by simp only [pickL, lk_cons, Int.reduceEq, Int.reduceLT, Int.reduceLE, Int.reduceToNat, Int.reduceNeg, Int.reduceAdd, Int.reduceSub, Nat.reduceEqDiff, Nat.reduceAdd, Nat.reduceMul, Nat.reduceLeDiff, Nat.reduceSub, ↓reduceIte, reduceCtorEq, if_true, if_false]; exact rfl) ?_
              clear hq q
              repeat' (first | refine wpL_seq ?_ | refine wpL_skip ?_ | refine wpL_label ?_ | refine wpL_scope ?_)
              refine wpL_nil (hn25 _ _ ?_)
              repeat' (first | refine wpL_seq ?_ | refine wpL_skip ?_ | refine wpL_label ?_ | refine wpL_scope ?_)
              exact wpL_nil (hn23 (l.length - (i + 1)) _ _ (by omega) ⟨i + 1, by omega, by omega, rfl, rfl, fun _ => hstep, rfl⟩)
            · simp at hc24
              have hex := exit4 i hi1 hi2 (by omega) (fun _ => by
                by_cases h9 : i3 < i
                · obtain ⟨a1, a2⟩ := hS h9
                  obtain ⟨a3, a4⟩ := tr3 hC (by omega) hil a1 hc24
                  have a5 := hC.b3 (i - 1) (by omega) a1
                  exact ⟨by omega, a3⟩
                · obtain rfl : i = i3 := by omega
                  rcases hS3 with ⟨h8, _⟩ | ⟨h8, h7⟩
                  · rw [h8] at hc24; exact absurd rfl hc24
                  · exact ⟨by omega, h8⟩)
              refine wpL_pick' [1, 2, 3, 7, 8] (by simp only [pickL, lk_cons, Int.reduceEq, Int.reduceLT, Int.reduceLE, Int.reduceToNat, Int.reduceNeg, Int.reduceAdd, Int.reduceSub, Nat.reduceEqDiff, Nat.reduceAdd, Nat.reduceMul, Nat.reduceLeDiff, Nat.reduceSub, ↓reduceIte, reduceCtorEq, if_true, if_false]; exact rfl) ?_
              repeat' (first | refine wpL_seq ?_ | refine wpL_skip ?_ | refine wpL_label ?_ | refine wpL_scope ?_)
              repeat' (first | refine wpL_seq ?_ | refine wpL_skip ?_ | refine wpL_label ?_ | refine wpL_scope ?_)
              exact wpL_exit (hx23 _ _ _ (by simp) hex)
          · repeat' (first | refine wpL_seq ?_ | refine wpL_skip ?_ | refine wpL_label ?_ | refine wpL_scope ?_)
            refine wpL_regV [1, 2, 3, 7, 8] 106 (.bool false) (by simp only [pickL, put, lk_cons, Int.reduceEq, Int.reduceLT, Int.reduceLE, Int.reduceToNat, Int.reduceNeg, Int.reduceAdd, Int.reduceSub, Nat.reduceEqDiff, Nat.reduceAdd, Nat.reduceMul, Nat.reduceLeDiff, Nat.reduceSub, ↓reduceIte, reduceCtorEq, if_true, if_false]; exact rfl) (by decide) ?_ ?_
            · simp -implicitDefEqProofs (disch := omega) only [go_sem, Int.reduceEq, Int.reduceLT, Int.reduceLE, Int.reduceToNat, Int.reduceNeg, Int.reduceAdd, Int.reduceSub, Nat.reduceEqDiff, Nat.reduceAdd, Nat.reduceMul, Nat.reduceLeDiff, Nat.reduceSub, ↓reduceIte, reduceCtorEq, List.length_map, hb3]
              repeat' (first | (refine gN_split2 (fun hs => ?_) (fun hs => ?_) <;> simp -implicitDefEqProofs (disch := omega) only [go_sem, Int.reduceEq, Int.reduceLT, Int.reduceLE, Int.reduceToNat, Int.reduceNeg, Int.reduceAdd, Int.reduceSub, Nat.reduceEqDiff, Nat.reduceAdd, Nat.reduceMul, Nat.reduceLeDiff, Nat.reduceSub, ↓reduceIte, reduceCtorEq, hs, List.length_map, hb3]) | simp -implicitDefEqProofs (disch := omega) only [go_sem, Int.reduceEq, Int.reduceLT, Int.reduceLE, Int.reduceToNat, Int.reduceNeg, Int.reduceAdd, Int.reduceSub, Nat.reduceEqDiff, Nat.reduceAdd, Nat.reduceMul, Nat.reduceLeDiff, Nat.reduceSub, ↓reduceIte, reduceCtorEq, List.length_map, hb3] | refine And.intro (by omega) ?_)
              all_goals (try clear hK'; try clear hn1; try clear hx1; try clear ho1; try clear hn2; try clear hx2; try clear hn4; try clear hx4; try clear ho4; try clear hn5; try clear hx5; try clear ho5; try clear hn10; try clear hx10; try clear ho10; try clear hn16; try clear hx16; try clear ho16; try clear hn22; try clear hx22; try clear ho22; try clear hn23; try clear hx23; try clear hn25; try clear hx25; try clear ho25)
              all_goals ((first | omega | (exfalso; simp at hs; omega) | (exfalso; simp at hs; done) | simp_all))
            repeat' (first | refine wpL_seq ?_ | refine wpL_skip ?_ | refine wpL_label ?_ | refine wpL_scope ?_)
            refine wpL_cond rfl (fun hc24 => ?_) (fun hc24 => ?_)
            · cases hc24
            have hex := exit4 i hi1 hi2 (fun _ => by
              by_cases h9 : i3 < i
              · obtain ⟨a1, a2⟩ := hS h9
                have a5 := hC.b3 (i - 1) (by omega) a1
                omega
              · omega) (fun h => absurd h hil)
            refine wpL_pick' [1, 2, 3, 7, 8] (by simp only [pickL, lk_cons, Int.reduceEq, Int.reduceLT, Int.reduceLE, Int.reduceToNat, Int.reduceNeg, Int.reduceAdd, Int.reduceSub, Nat.reduceEqDiff, Nat.reduceAdd, Nat.reduceMul, Nat.reduceLeDiff, Nat.reduceSub, ↓reduceIte, reduceCtorEq, if_true, if_false]; exact rfl) ?_
            repeat' (first | refine wpL_seq ?_ | refine wpL_skip ?_ | refine wpL_label ?_ | refine wpL_scope ?_)
            repeat' (first | refine wpL_seq ?_ | refine wpL_skip ?_ | refine wpL_label ?_ | refine wpL_scope ?_)
            exact wpL_exit (hx23 _ _ _ (by simp) hex)
        refine wpL_loop (fun j e H => ∃ i : Nat, i2 ≤ i ∧ i ≤ l.length ∧ j = l.length - i ∧ H = Heap.emp ∧ (i2 < i → (S (i - 1)).1 = 2 ∧ (S (i - 1)).2 = (i : Int) - i2) ∧
          e = lk [(1, .rs 1 (l.map st1)), (2, .int .i64 k), (3, .rp g.cells 0), (7, .int .i64 i), (8, .int .i64 i2)]) (l.length - i2) ⟨i2, by omega, by omega, rfl, rfl, by omega, rfl⟩ ?_
        rintro j e H ⟨i, hi1, hi2, hj, rfl, hS, rfl⟩ k17 hn17 hx17
        by_cases hil : i < l.length
        · obtain ⟨s, es, ek, ea0, ea3⟩ := hC.at' i hil
          repeat' (first | refine wpL_seq ?_ | refine wpL_skip ?_ | refine wpL_label ?_ | refine wpL_scope ?_)
          refine wpL_regV [1, 2, 3, 7, 8] 77 (.bool (decide ((S i).1 = 2))) (by simp only [pickL, put, lk_cons, Int.reduceEq, Int.reduceLT, Int.reduceLE, Int.reduceToNat, Int.reduceNeg, Int.reduceAdd, Int.reduceSub, Nat.reduceEqDiff, Nat.reduceAdd, Nat.reduceMul, Nat.reduceLeDiff, Nat.reduceSub, ↓reduceIte, reduceCtorEq, if_true, if_false]; exact rfl) (by decide) ?_ ?_
          · simp -implicitDefEqProofs (disch := omega) only [go_sem, Int.reduceEq, Int.reduceLT, Int.reduceLE, Int.reduceToNat, Int.reduceNeg, Int.reduceAdd, Int.reduceSub, Nat.reduceEqDiff, Nat.reduceAdd, Nat.reduceMul, Nat.reduceLeDiff, Nat.reduceSub, ↓reduceIte, reduceCtorEq, List.length_map, es, st1, ek, d103, hb3]
            repeat' (first | (refine gN_split2 (fun hs => ?_) (fun hs => ?_) <;> simp -implicitDefEqProofs (disch := omega) only [go_sem, Int.reduceEq, Int.reduceLT, Int.reduceLE, Int.reduceToNat, Int.reduceNeg, Int.reduceAdd, Int.reduceSub, Nat.reduceEqDiff, Nat.reduceAdd, Nat.reduceMul, Nat.reduceLeDiff, Nat.reduceSub, ↓reduceIte, reduceCtorEq, hs, List.length_map, es, st1, ek, d103, hb3]) | simp -implicitDefEqProofs (disch := omega) only [go_sem, Int.reduceEq, Int.reduceLT, Int.reduceLE, Int.reduceToNat, Int.reduceNeg, Int.reduceAdd, Int.reduceSub, Nat.reduceEqDiff, Nat.reduceAdd, Nat.reduceMul, Nat.reduceLeDiff, Nat.reduceSub, ↓reduceIte, reduceCtorEq, List.length_map, es, st1, ek, d103, hb3] | refine And.intro (by omega) ?_)
            all_goals (try clear hK'; try clear hn1; try clear hx1; try clear ho1; try clear hn2; try clear hx2; try clear hn4; try clear hx4; try clear ho4; try clear hn5; try clear hx5; try clear ho5; try clear hn10; try clear hx10; try clear ho10; try clear hn16; try clear hx16; try clear ho16; try clear hn22; try clear hx22; try clear ho22; try clear hn23; try clear hx23; try clear hn25; try clear hx25; try clear ho25; try clear hn17; try clear hx17)
            all_goals ((first | omega | simp_all))
          repeat' (first | refine wpL_seq ?_ | refine wpL_skip ?_ | refine wpL_label ?_ | refine wpL_scope ?_)
          refine wpL_cond rfl (fun hc18 => ?_) (fun hc18 => ?_)
          · simp at hc18
            have hstep : (S (i + 1 - 1)).1 = 2 ∧ (S (i + 1 - 1)).2 = ((i + 1 : Nat) : Int) - i2 := by
              simp only [Nat.add_sub_cancel]
              refine ⟨hc18, ?_⟩
              by_cases h9 : i2 < i
              · have := tr_stay hC (by omega) hil (by rw [hc18, (hS h9).1]); have := (hS h9).2; omega
              · obtain rfl : i = i2 := by omega
                rw [hS2]; omega
            repeat' (first | refine wpL_seq ?_ | refine wpL_skip ?_ | refine wpL_label ?_ | refine wpL_scope ?_)
            refine wpL_block fun k19 hn19 hx19 ho19 => ?_
            repeat' (first | refine wpL_seq ?_ | refine wpL_skip ?_ | refine wpL_label ?_ | refine wpL_scope ?_)
            refine wpL_region' [1, 2, 3, 7, 8] fun q hq => ?_
            simp -implicitDefEqProofs (disch := omega) only [go_sem, Int.reduceEq, Int.reduceLT, Int.reduceLE, Int.reduceToNat, Int.reduceNeg, Int.reduceAdd, Int.reduceSub, Nat.reduceEqDiff, Nat.reduceAdd, Nat.reduceMul, Nat.reduceLeDiff, Nat.reduceSub, ↓reduceIte, reduceCtorEq, hb3]
            repeat (refine And.intro (by omega) ?_)
            refine hq _ _ _ (by simp only [pickL, lk_cons, Int.reduceEq, Int.reduceLT, Int.reduceLE, Int.reduceToNat, Int.reduceNeg, Int.reduceAdd, Int.reduceSub, Nat.reduceEqDiff, Nat.reduceAdd, Nat.reduceMul, Nat.reduceLeDiff, Nat.reduceSub, ↓reduceIte, reduceCtorEq, if_true, if_false]; exact rfl) ?_
            clear hq q
            repeat' (first | refine wpL_seq ?_ | refine wpL_skip ?_ | refine wpL_label ?_ | refine wpL_scope ?_)
            refine wpL_nil (hn19 _ _ ?_)
            repeat' (first | refine wpL_seq ?_ | refine wpL_skip ?_ | refine wpL_label ?_ | refine wpL_scope ?_)
            exact wpL_nil (hn17 (l.length - (i + 1)) _ _ (by omega) ⟨i + 1, by omega, by omega, rfl, rfl, fun _ => hstep, rfl⟩)
          · simp at hc18
            have h9 : i2 < i := by
              by_cases h9 : i2 < i
              · exact h9
              · obtain rfl : i = i2 := by omega
                rw [hS2] at hc18; exact absurd rfl hc18
            have hex := exit3 i h9 hi2 (fun _ => by
              obtain ⟨a1, a2⟩ := hS h9
              obtain ⟨a3, a4⟩ := tr2 hC (by omega) hil a1 hc18
              exact ⟨by omega, a4⟩)
            refine wpL_pick' [1, 2, 3, 7, 8] (by simp only [pickL, lk_cons, Int.reduceEq, Int.reduceLT, Int.reduceLE, Int.reduceToNat, Int.reduceNeg, Int.reduceAdd, Int.reduceSub, Nat.reduceEqDiff, Nat.reduceAdd, Nat.reduceMul, Nat.reduceLeDiff, Nat.reduceSub, ↓reduceIte, reduceCtorEq, if_true, if_false]; exact rfl) ?_
            repeat' (first | refine wpL_seq ?_ | refine wpL_skip ?_ | refine wpL_label ?_ | refine wpL_scope ?_)
            repeat' (first | refine wpL_seq ?_ | refine wpL_skip ?_ | refine wpL_label ?_ | refine wpL_scope ?_)
            exact wpL_exit (hx17 _ _ _ (by simp) hex)
        · repeat' (first | refine wpL_seq ?_ | refine wpL_skip ?_ | refine wpL_label ?_ | refine wpL_scope ?_)
          refine wpL_regV [1, 2, 3, 7, 8] 77 (.bool false) (by simp only [pickL, put, lk_cons, Int.reduceEq, Int.reduceLT, Int.reduceLE, Int.reduceToNat, Int.reduceNeg, Int.reduceAdd, Int.reduceSub, Nat.reduceEqDiff, Nat.reduceAdd, Nat.reduceMul, Nat.reduceLeDiff, Nat.reduceSub, ↓reduceIte, reduceCtorEq, if_true, if_false]; exact rfl) (by decide) ?_ ?_
          · simp -implicitDefEqProofs (disch := omega) only [go_sem, Int.reduceEq, Int.reduceLT, Int.reduceLE, Int.reduceToNat, Int.reduceNeg, Int.reduceAdd, Int.reduceSub, Nat.reduceEqDiff, Nat.reduceAdd, Nat.reduceMul, Nat.reduceLeDiff, Nat.reduceSub, ↓reduceIte, reduceCtorEq, List.length_map, hb3]
            repeat' (first | (refine gN_split2 (fun hs => ?_) (fun hs => ?_) <;> simp -implicitDefEqProofs (disch := omega) only [go_sem, Int.reduceEq, Int.reduceLT, Int.reduceLE, Int.reduceToNat, Int.reduceNeg, Int.reduceAdd, Int.reduceSub, Nat.reduceEqDiff, Nat.reduceAdd, Nat.reduceMul, Nat.reduceLeDiff, Nat.reduceSub, ↓reduceIte, reduceCtorEq, hs, List.length_map, hb3]) | simp -implicitDefEqProofs (disch := omega) only [go_sem, Int.reduceEq, Int.reduceLT, Int.reduceLE, Int.reduceToNat, Int.reduceNeg, Int.reduceAdd, Int.reduceSub, Nat.reduceEqDiff, Nat.reduceAdd, Nat.reduceMul, Nat.reduceLeDiff, Nat.reduceSub, ↓reduceIte, reduceCtorEq, List.length_map, hb3] | refine And.intro (by omega) ?_)
            all_goals (try clear hK'; try clear hn1; try clear hx1; try clear ho1; try clear hn2; try clear hx2; try clear hn4; try clear hx4; try clear ho4; try clear hn5; try clear hx5; try clear ho5; try clear hn10; try clear hx10; try clear ho10; try clear hn16; try clear hx16; try clear ho16; try clear hn22; try clear hx22; try clear ho22; try clear hn23; try clear hx23; try clear hn25; try clear hx25; try clear ho25; try clear hn17; try clear hx17; try clear hn19; try clear hx19; try clear ho19)
            all_goals ((first | omega | (exfalso; simp at hs; omega) | (exfalso; simp at hs; done) | simp_all))
          repeat' (first | refine wpL_seq ?_ | refine wpL_skip ?_ | refine wpL_label ?_ | refine wpL_scope ?_)
          refine wpL_cond rfl (fun hc18 => ?_) (fun hc18 => ?_)
          · cases hc18
          have hex := exit3 i (by omega) hi2 (fun h => absurd h hil)
          refine wpL_pick' [1, 2, 3, 7, 8] (by simp only [pickL, lk_cons, Int.reduceEq, Int.reduceLT, Int.reduceLE, Int.reduceToNat, Int.reduceNeg, Int.reduceAdd, Int.reduceSub, Nat.reduceEqDiff, Nat.reduceAdd, Nat.reduceMul, Nat.reduceLeDiff, Nat.reduceSub, ↓reduceIte, reduceCtorEq, if_true, if_false]; exact rfl) ?_
          repeat' (first | refine wpL_seq ?_ | refine wpL_skip ?_ | refine wpL_label ?_ | refine wpL_scope ?_)
          repeat' (first | refine wpL_seq ?_ | refine wpL_skip ?_ | refine wpL_label ?_ | refine wpL_scope ?_)
          exact wpL_exit (hx17 _ _ _ (by simp) hex)
      refine wpL_loop (fun j e H => ∃ i : Nat, i1 ≤ i ∧ i ≤ l.length ∧ j = l.length - i ∧ H = Heap.emp ∧ (i1 < i → (S (i - 1)).1 = 1 ∧ (S (i - 1)).2 = (i : Int) - i1) ∧
        e = lk [(1, .rs 1 (l.map st1)), (2, .int .i64 k), (3, .rp g.cells 0), (7, .int .i64 i), (8, .int .i64 i1)]) (l.length - i1) ⟨i1, by omega, by omega, rfl, rfl, by omega, rfl⟩ ?_
      rintro j e H ⟨i, hi1, hi2, hj, rfl, hS, rfl⟩ k11 hn11 hx11
      by_cases hil : i < l.length
      · obtain ⟨s, es, ek, ea0, ea3⟩ := hC.at' i hil
        repeat' (first | refine wpL_seq ?_ | refine wpL_skip ?_ | refine wpL_label ?_ | refine wpL_scope ?_)
        refine wpL_regV [1, 2, 3, 7, 8] 45 (.bool (decide ((S i).1 = 1))) (by simp only [pickL, put, lk_cons, Int.reduceEq, Int.reduceLT, Int.reduceLE, Int.reduceToNat, Int.reduceNeg, Int.reduceAdd, Int.reduceSub, Nat.reduceEqDiff, Nat.reduceAdd, Nat.reduceMul, Nat.reduceLeDiff, Nat.reduceSub, ↓reduceIte, reduceCtorEq, if_true, if_false]; exact rfl) (by decide) ?_ ?_
        · simp -implicitDefEqProofs (disch := omega) only [go_sem, Int.reduceEq, Int.reduceLT, Int.reduceLE, Int.reduceToNat, Int.reduceNeg, Int.reduceAdd, Int.reduceSub, Nat.reduceEqDiff, Nat.reduceAdd, Nat.reduceMul, Nat.reduceLeDiff, Nat.reduceSub, ↓reduceIte, reduceCtorEq, List.length_map, es, st1, ek, d108, hb3]
          repeat' (first | (refine gN_split2 (fun hs => ?_) (fun hs => ?_) <;> simp -implicitDefEqProofs (disch := omega) only [go_sem, Int.reduceEq, Int.reduceLT, Int.reduceLE, Int.reduceToNat, Int.reduceNeg, Int.reduceAdd, Int.reduceSub, Nat.reduceEqDiff, Nat.reduceAdd, Nat.reduceMul, Nat.reduceLeDiff, Nat.reduceSub, ↓reduceIte, reduceCtorEq, hs, List.length_map, es, st1, ek, d108, hb3]) | simp -implicitDefEqProofs (disch := omega) only [go_sem, Int.reduceEq, Int.reduceLT, Int.reduceLE, Int.reduceToNat, Int.reduceNeg, Int.reduceAdd, Int.reduceSub, Nat.reduceEqDiff, Nat.reduceAdd, Nat.reduceMul, Nat.reduceLeDiff, Nat.reduceSub, ↓reduceIte, reduceCtorEq, List.length_map, es, st1, ek, d108, hb3] | refine And.intro (by omega) ?_)
          all_goals (try clear hK'; try clear hn1; try clear hx1; try clear ho1; try clear hn2; try clear hx2; try clear hn4; try clear hx4; try clear ho4; try clear hn5; try clear hx5; try clear ho5; try clear hn10; try clear hx10; try clear ho10; try clear hn16; try clear hx16; try clear ho16; try clear hn22; try clear hx22; try clear ho22; try clear hn23; try clear hx23; try clear hn25; try clear hx25; try clear ho25; try clear hn17; try clear hx17; try clear hn19; try clear hx19; try clear ho19; try clear hn11; try clear hx11)
          all_goals ((first | omega | simp_all))
        repeat' (first | refine wpL_seq ?_ | refine wpL_skip ?_ | refine wpL_label ?_ | refine wpL_scope ?_)
        refine wpL_cond rfl (fun hc12 => ?_) (fun hc12 => ?_)
        · simp at hc12
          have hstep : (S (i + 1 - 1)).1 = 1 ∧ (S (i + 1 - 1)).2 = ((i + 1 : Nat) : Int) - i1 := by
            simp only [Nat.add_sub_cancel]
            refine ⟨hc12, ?_⟩
            by_cases h9 : i1 < i
            · have := tr_stay hC (by omega) hil (by rw [hc12, (hS h9).1]); have := (hS h9).2; omega
            · obtain rfl : i = i1 := by omega
              rcases hS1 hil with ⟨h8, _⟩ | ⟨h8, _⟩
              · rw [h8]; omega
              · rw [h8] at hc12; cases hc12
          repeat' (first | refine wpL_seq ?_ | refine wpL_skip ?_ | refine wpL_label ?_ | refine wpL_scope ?_)
          refine wpL_block fun k13 hn13 hx13 ho13 => ?_
          repeat' (first | refine wpL_seq ?_ | refine wpL_skip ?_ | refine wpL_label ?_ | refine wpL_scope ?_)
          refine wpL_region' [1, 2, 3, 7, 8] fun q hq => ?_
          simp -implicitDefEqProofs (disch := omega) only [go_sem, Int.reduceEq, Int.reduceLT, Int.reduceLE, Int.reduceToNat, Int.reduceNeg, Int.reduceAdd, Int.reduceSub, Nat.reduceEqDiff, Nat.reduceAdd, Nat.reduceMul, Nat.reduceLeDiff, Nat.reduceSub, ↓reduceIte, reduceCtorEq, hb3]
          repeat (refine And.intro (by omega) ?_)
          refine hq _ _ _ (by simp only [pickL, lk_cons, Int.reduceEq, Int.reduceLT, Int.reduceLE, Int.reduceToNat, Int.reduceNeg, Int.reduceAdd, Int.reduceSub, Nat.reduceEqDiff, Nat.reduceAdd, Nat.reduceMul, Nat.reduceLeDiff, Nat.reduceSub, ↓reduceIte, reduceCtorEq, if_true, if_false]; exact rfl) ?_
          clear hq q
          repeat' (first | refine wpL_seq ?_ | refine wpL_skip ?_ | refine wpL_label ?_ | refine wpL_scope ?_)
          refine wpL_nil (hn13 _ _ ?_)
          repeat' (first | refine wpL_seq ?_ | refine wpL_skip ?_ | refine wpL_label ?_ | refine wpL_scope ?_)
          exact wpL_nil (hn11 (l.length - (i + 1)) _ _ (by omega) ⟨i + 1, by omega, by omega, rfl, rfl, fun _ => hstep, rfl⟩)
        · simp at hc12
          have hex := exit2 i hi1 hi2 (by omega) (fun _ => by
            by_cases h9 : i1 < i
            · obtain ⟨a1, a2⟩ := hS h9
              obtain ⟨a3, a4⟩ := tr1 hC (by omega) hil a1 hc12
              have a5 := hC.b1 (i - 1) (by omega) a1
              exact ⟨by omega, a3⟩
            · obtain rfl : i = i1 := by omega
              rcases hS1 hil with ⟨h8, _⟩ | ⟨h8, h7⟩
              · rw [h8] at hc12; exact absurd rfl hc12
              · exact ⟨by omega, h8⟩)
          refine wpL_pick' [1, 2, 3, 7, 8] (by simp only [pickL, lk_cons, Int.reduceEq, Int.reduceLT, Int.reduceLE, Int.reduceToNat, Int.reduceNeg, Int.reduceAdd, Int.reduceSub, Nat.reduceEqDiff, Nat.reduceAdd, Nat.reduceMul, Nat.reduceLeDiff, Nat.reduceSub, ↓reduceIte, reduceCtorEq, if_true, if_false]; exact rfl) ?_
          repeat' (first | refine wpL_seq ?_ | refine wpL_skip ?_ | refine wpL_label ?_ | refine wpL_scope ?_)
          repeat' (first | refine wpL_seq ?_ | refine wpL_skip ?_ | refine wpL_label ?_ | refine wpL_scope ?_)
          exact wpL_exit (hx11 _ _ _ (by simp) hex)
      · repeat' (first | refine wpL_seq ?_ | refine wpL_skip ?_ | refine wpL_label ?_ | refine wpL_scope ?_)
        refine wpL_regV [1, 2, 3, 7, 8] 45 (.bool false) (by simp only [pickL, put, lk_cons, Int.reduceEq, Int.reduceLT, Int.reduceLE, Int.reduceToNat, Int.reduceNeg, Int.reduceAdd, Int.reduceSub, Nat.reduceEqDiff, Nat.reduceAdd, Nat.reduceMul, Nat.reduceLeDiff, Nat.reduceSub, ↓reduceIte, reduceCtorEq, if_true, if_false]; exact rfl) (by decide) ?_ ?_
        · simp -implicitDefEqProofs (disch := omega) only [go_sem, Int.reduceEq, Int.reduceLT, Int.reduceLE, Int.reduceToNat, Int.reduceNeg, Int.reduceAdd, Int.reduceSub, Nat.reduceEqDiff, Nat.reduceAdd, Nat.reduceMul, Nat.reduceLeDiff, Nat.reduceSub, ↓reduceIte, reduceCtorEq, List.length_map, hb3]
          repeat' (first | (refine gN_split2 (fun hs => ?_) (fun hs => ?_) <;> simp -implicitDefEqProofs (disch := omega) only [go_sem, Int.reduceEq, Int.reduceLT, Int.reduceLE, Int.reduceToNat, Int.reduceNeg, Int.reduceAdd, Int.reduceSub, Nat.reduceEqDiff, Nat.reduceAdd, Nat.reduceMul, Nat.reduceLeDiff, Nat.reduceSub, ↓reduceIte, reduceCtorEq, hs, List.length_map, hb3]) | simp -implicitDefEqProofs (disch := omega) only [go_sem, Int.reduceEq, Int.reduceLT, Int.reduceLE, Int.reduceToNat, Int.reduceNeg, Int.reduceAdd, Int.reduceSub, Nat.reduceEqDiff, Nat.reduceAdd, Nat.reduceMul, Nat.reduceLeDiff, Nat.reduceSub, ↓reduceIte, reduceCtorEq, List.length_map, hb3] | refine And.intro (by omega) ?_)
          all_goals (try clear hK'; try clear hn1; try clear hx1; try clear ho1; try clear hn2; try clear hx2; try clear hn4; try clear hx4; try clear ho4; try clear hn5; try clear hx5; try clear ho5; try clear hn10; try clear hx10; try clear ho10; try clear hn16; try clear hx16; try clear ho16; try clear hn22; try clear hx22; try clear ho22; try clear hn23; try clear hx23; try clear hn25; try clear hx25; try clear ho25; try clear hn17; try clear hx17; try clear hn19; try clear hx19; try clear ho19; try clear hn11; try clear hx11; try clear hn13; try clear hx13; try clear ho13)
          all_goals ((first | omega | (exfalso; simp at hs; omega) | (exfalso; simp at hs; done) | simp_all))
        repeat' (first | refine wpL_seq ?_ | refine wpL_skip ?_ | refine wpL_label ?_ | refine wpL_scope ?_)
        refine wpL_cond rfl (fun hc12 => ?_) (fun hc12 => ?_)
        · cases hc12
        have hex := exit2 i hi1 hi2 (fun _ => by
          by_cases h9 : i1 < i
          · obtain ⟨a1, a2⟩ := hS h9
            have a5 := hC.b1 (i - 1) (by omega) a1
            omega
          · omega) (fun h => absurd h hil)
        refine wpL_pick' [1, 2, 3, 7, 8] (by simp only [pickL, lk_cons, Int.reduceEq, Int.reduceLT, Int.reduceLE, Int.reduceToNat, Int.reduceNeg, Int.reduceAdd, Int.reduceSub, Nat.reduceEqDiff, Nat.reduceAdd, Nat.reduceMul, Nat.reduceLeDiff, Nat.reduceSub, ↓reduceIte, reduceCtorEq, if_true, if_false]; exact rfl) ?_
        repeat' (first | refine wpL_seq ?_ | refine wpL_skip ?_ | refine wpL_label ?_ | refine wpL_scope ?_)
        repeat' (first | refine wpL_seq ?_ | refine wpL_skip ?_ | refine wpL_label ?_ | refine wpL_scope ?_)
        exact wpL_exit (hx11 _ _ _ (by simp) hex)
    refine wpL_loop (fun j e H => ∃ i : Nat, i0 ≤ i ∧ i ≤ l.length ∧ j = l.length - i ∧ H = Heap.emp ∧ (i0 < i → (S (i - 1)).1 = 0) ∧
      e = lk [(1, .rs 1 (l.map st1)), (2, .int .i64 k), (3, .rp g.cells 0), (7, .int .i64 i), (8, .int .i64 i0)]) (l.length - i0) ⟨i0, by omega, by omega, rfl, rfl, by omega, rfl⟩ ?_
    rintro j e H ⟨i, hi1, hi2, hj, rfl, hS, rfl⟩ k6 hn6 hx6
    by_cases hil : i < l.length
    · obtain ⟨s, es, ek, ea0, ea3⟩ := hC.at' i hil
      repeat' (first | refine wpL_seq ?_ | refine wpL_skip ?_ | refine wpL_label ?_ | refine wpL_scope ?_)
      refine wpL_regV [1, 2, 3, 7, 8] 26 (.bool (decide ((S i).1 = 0))) (by simp only [pickL, put, lk_cons, Int.reduceEq, Int.reduceLT, Int.reduceLE, Int.reduceToNat, Int.reduceNeg, Int.reduceAdd, Int.reduceSub, Nat.reduceEqDiff, Nat.reduceAdd, Nat.reduceMul, Nat.reduceLeDiff, Nat.reduceSub, ↓reduceIte, reduceCtorEq, if_true, if_false]; exact rfl) (by decide) ?_ ?_
      · simp -implicitDefEqProofs (disch := omega) only [go_sem, Int.reduceEq, Int.reduceLT, Int.reduceLE, Int.reduceToNat, Int.reduceNeg, Int.reduceAdd, Int.reduceSub, Nat.reduceEqDiff, Nat.reduceAdd, Nat.reduceMul, Nat.reduceLeDiff, Nat.reduceSub, ↓reduceIte, reduceCtorEq, List.length_map, es, st1, ek, d114, hb3]
        repeat' (first | (refine gN_split2 (fun hs => ?_) (fun hs => ?_) <;> simp -implicitDefEqProofs (disch := omega) only [go_sem, Int.reduceEq, Int.reduceLT, Int.reduceLE, Int.reduceToNat, Int.reduceNeg, Int.reduceAdd, Int.reduceSub, Nat.reduceEqDiff, Nat.reduceAdd, Nat.reduceMul, Nat.reduceLeDiff, Nat.reduceSub, ↓reduceIte, reduceCtorEq, hs, List.length_map, es, st1, ek, d114, hb3]) | simp -implicitDefEqProofs (disch := omega) only [go_sem, Int.reduceEq, Int.reduceLT, Int.reduceLE, Int.reduceToNat, Int.reduceNeg, Int.reduceAdd, Int.reduceSub, Nat.reduceEqDiff, Nat.reduceAdd, Nat.reduceMul, Nat.reduceLeDiff, Nat.reduceSub, ↓reduceIte, reduceCtorEq, List.length_map, es, st1, ek, d114, hb3] | refine And.intro (by omega) ?_)
        all_goals (try clear hK'; try clear hn1; try clear hx1; try clear ho1; try clear hn2; try clear hx2; try clear hn4; try clear hx4; try clear ho4; try clear hn5; try clear hx5; try clear ho5; try clear hn10; try clear hx10; try clear ho10; try clear hn16; try clear hx16; try clear ho16; try clear hn22; try clear hx22; try clear ho22; try clear hn23; try clear hx23; try clear hn25; try clear hx25; try clear ho25; try clear hn17; try clear hx17; try clear hn19; try clear hx19; try clear ho19; try clear hn11; try clear hx11; try clear hn13; try clear hx13; try clear ho13; try clear hn6; try clear hx6)
        all_goals ((first | omega | simp_all))
      repeat' (first | refine wpL_seq ?_ | refine wpL_skip ?_ | refine wpL_label ?_ | refine wpL_scope ?_)
      refine wpL_cond rfl (fun hc7 => ?_) (fun hc7 => ?_)
      · simp at hc7
        have hstep : (S (i + 1 - 1)).1 = 0 := by simpa using hc7
        repeat' (first | refine wpL_seq ?_ | refine wpL_skip ?_ | refine wpL_label ?_ | refine wpL_scope ?_)
        refine wpL_block fun k8 hn8 hx8 ho8 => ?_
        repeat' (first | refine wpL_seq ?_ | refine wpL_skip ?_ | refine wpL_label ?_ | refine wpL_scope ?_)
        refine wpL_region' [1, 2, 3, 7, 8] fun q hq => ?_
        simp -implicitDefEqProofs (disch := omega) only [go_sem, Int.reduceEq, Int.reduceLT, Int.reduceLE, Int.reduceToNat, Int.reduceNeg, Int.reduceAdd, Int.reduceSub, Nat.reduceEqDiff, Nat.reduceAdd, Nat.reduceMul, Nat.reduceLeDiff, Nat.reduceSub, ↓reduceIte, reduceCtorEq, hb3]
        repeat (refine And.intro (by omega) ?_)
        refine hq _ _ _ (by simp only [pickL, lk_cons, Int.reduceEq, Int.reduceLT, Int.reduceLE, Int.reduceToNat, Int.reduceNeg, Int.reduceAdd, Int.reduceSub, Nat.reduceEqDiff, Nat.reduceAdd, Nat.reduceMul, Nat.reduceLeDiff, Nat.reduceSub, ↓reduceIte, reduceCtorEq, if_true, if_false]; exact rfl) ?_
        clear hq q
        repeat' (first | refine wpL_seq ?_ | refine wpL_skip ?_ | refine wpL_label ?_ | refine wpL_scope ?_)
        refine wpL_nil (hn8 _ _ ?_)
        repeat' (first | refine wpL_seq ?_ | refine wpL_skip ?_ | refine wpL_label ?_ | refine wpL_scope ?_)
        exact wpL_nil (hn6 (l.length - (i + 1)) _ _ (by omega) ⟨i + 1, by omega, by omega, rfl, rfl, fun _ => hstep, rfl⟩)
      · simp at hc7
        have h9 : i0 < i := by
          by_cases h9 : i0 < i
          · exact h9
          · obtain rfl : i = i0 := by omega
            rw [hS0] at hc7; exact absurd rfl hc7
        have hex := exit1 i h9 hi2 (fun _ => tr0 hC (by omega) hil (hS h9) hc7)
        refine wpL_pick' [1, 2, 3, 7, 8] (by simp only [pickL, lk_cons, Int.reduceEq, Int.reduceLT, Int.reduceLE, Int.reduceToNat, Int.reduceNeg, Int.reduceAdd, Int.reduceSub, Nat.reduceEqDiff, Nat.reduceAdd, Nat.reduceMul, Nat.reduceLeDiff, Nat.reduceSub, ↓reduceIte, reduceCtorEq, if_true, if_false]; exact rfl) ?_
        repeat' (first | refine wpL_seq ?_ | refine wpL_skip ?_ | refine wpL_label ?_ | refine wpL_scope ?_)
        repeat' (first | refine wpL_seq ?_ | refine wpL_skip ?_ | refine wpL_label ?_ | refine wpL_scope ?_)
        exact wpL_exit (hx6 _ _ _ (by simp) hex)
    · repeat' (first | refine wpL_seq ?_ | refine wpL_skip ?_ | refine wpL_label ?_ | refine wpL_scope ?_)
      refine wpL_regV [1, 2, 3, 7, 8] 26 (.bool false) (by simp only [pickL, put, lk_cons, Int.reduceEq, Int.reduceLT, Int.reduceLE, Int.reduceToNat, Int.reduceNeg, Int.reduceAdd, Int.reduceSub, Nat.reduceEqDiff, Nat.reduceAdd, Nat.reduceMul, Nat.reduceLeDiff, Nat.reduceSub, ↓reduceIte, reduceCtorEq, if_true, if_false]; exact rfl) (by decide) ?_ ?_
      · simp -implicitDefEqProofs (disch := omega) only [go_sem, Int.reduceEq, Int.reduceLT, Int.reduceLE, Int.reduceToNat, Int.reduceNeg, Int.reduceAdd, Int.reduceSub, Nat.reduceEqDiff, Nat.reduceAdd, Nat.reduceMul, Nat.reduceLeDiff, Nat.reduceSub, ↓reduceIte, reduceCtorEq, List.length_map, hb3]
        repeat' (first | (refine gN_split2 (fun hs => ?_) (fun hs => ?_) <;> simp -implicitDefEqProofs (disch := omega) only [go_sem, Int.reduceEq, Int.reduceLT, Int.reduceLE, Int.reduceToNat, Int.reduceNeg, Int.reduceAdd, Int.reduceSub, Nat.reduceEqDiff, Nat.reduceAdd, Nat.reduceMul, Nat.reduceLeDiff, Nat.reduceSub, ↓reduceIte, reduceCtorEq, hs, List.length_map, hb3]) | simp -implicitDefEqProofs (disch := omega) only [go_sem, Int.reduceEq, Int.reduceLT, Int.reduceLE, Int.reduceToNat, Int.reduceNeg, Int.reduceAdd, Int.reduceSub, Nat.reduceEqDiff, Nat.reduceAdd, Nat.reduceMul, Nat.reduceLeDiff, Nat.reduceSub, ↓reduceIte, reduceCtorEq, List.length_map, hb3] | refine And.intro (by omega) ?_)
        all_goals (try clear hK'; try clear hn1; try clear hx1; try clear ho1; try clear hn2; try clear hx2; try clear hn4; try clear hx4; try clear ho4; try clear hn5; try clear hx5; try clear ho5; try clear hn10; try clear hx10; try clear ho10; try clear hn16; try clear hx16; try clear ho16; try clear hn22; try clear hx22; try clear ho22; try clear hn23; try clear hx23; try clear hn25; try clear hx25; try clear ho25; try clear hn17; try clear hx17; try clear hn19; try clear hx19; try clear ho19; try clear hn11; try clear hx11; try clear hn13; try clear hx13; try clear ho13; try clear hn6; try clear hx6; try clear hn8; try clear hx8; try clear ho8)
        all_goals ((first | omega | (exfalso; simp at hs; omega) | (exfalso; simp at hs; done) | simp_all))
      repeat' (first | refine wpL_seq ?_ | refine wpL_skip ?_ | refine wpL_label ?_ | refine wpL_scope ?_)
      refine wpL_cond rfl (fun hc7 => ?_) (fun hc7 => ?_)
      · cases hc7
      have hex := exit1 i (by omega) hi2 (fun h => absurd h hil)
      refine wpL_pick' [1, 2, 3, 7, 8] (by simp only [pickL, lk_cons, Int.reduceEq, Int.reduceLT, Int.reduceLE, Int.reduceToNat, Int.reduceNeg, Int.reduceAdd, Int.reduceSub, Nat.reduceEqDiff, Nat.reduceAdd, Nat.reduceMul, Nat.reduceLeDiff, Nat.reduceSub, ↓reduceIte, reduceCtorEq, if_true, if_false]; exact rfl) ?_
      repeat' (first | refine wpL_seq ?_ | refine wpL_skip ?_ | refine wpL_label ?_ | refine wpL_scope ?_)
      repeat' (first | refine wpL_seq ?_ | refine wpL_skip ?_ | refine wpL_label ?_ | refine wpL_scope ?_)
      exact wpL_exit (hx6 _ _ _ (by simp) hex)
  simp at hc3
  repeat' (first | refine wpL_seq ?_ | refine wpL_skip ?_ | refine wpL_label ?_ | refine wpL_scope ?_)
  refine wpL_exit (hx2 _ _ _ (by simp) (hx1 _ _ ?_))
  repeat' (first | refine wpL_seq ?_ | refine wpL_skip ?_ | refine wpL_label ?_ | refine wpL_scope ?_)
  refine wpL_region' [6] fun q hq => ?_
  simp -implicitDefEqProofs (disch := omega) only [go_sem, Int.reduceEq, Int.reduceLT, Int.reduceLE, Int.reduceToNat, Int.reduceNeg, Int.reduceAdd, Int.reduceSub, Nat.reduceEqDiff, Nat.reduceAdd, Nat.reduceMul, Nat.reduceLeDiff, Nat.reduceSub, ↓reduceIte, reduceCtorEq, hb3]
  repeat (refine And.intro (by omega) ?_)
  refine hq _ _ _ (by simp only [pickL, lk_cons, Int.reduceEq, Int.reduceLT, Int.reduceLE, Int.reduceToNat, Int.reduceNeg, Int.reduceAdd, Int.reduceSub, Nat.reduceEqDiff, Nat.reduceAdd, Nat.reduceMul, Nat.reduceLeDiff, Nat.reduceSub, ↓reduceIte, reduceCtorEq, if_true, if_false]; exact rfl) ?_
  clear hq q
  repeat' (first | refine wpL_seq ?_ | refine wpL_skip ?_ | refine wpL_label ?_ | refine wpL_scope ?_)
  refine wpL_ret (hK' _ _ _ _ (.inr rfl) (resTo (rs' := [.tmp 6]) rfl (by simp only [go_sem, Int.reduceEq, Int.reduceLT, Int.reduceLE, Int.reduceToNat, Int.reduceNeg, Int.reduceAdd, Int.reduceSub, Nat.reduceEqDiff, Nat.reduceAdd, Nat.reduceMul, Nat.reduceLeDiff, Nat.reduceSub, ↓reduceIte, reduceCtorEq, hb3]; exact rfl)) ?_)
  rfl
end Go.Proofs.Ytdchdlabdokjnaa.Am.H
