/- Durations, the reference's. -/
import Derived.Test.YtlalbjkdlkhjiaaDoorS4
namespace Go.Proofs.YtlalbjkdlkhjiaaDoor.Am.L
set_option linter.unusedSectionVars false
open Go Go.Proofs Am
set_option linter.unusedVariables false
set_option linter.unusedSimpArgs false
set_option maxRecDepth 100000
attribute [local irreducible] gO gN gW gdO

/-- How many digits stand at a text's begin. -/
def digN : List UInt8 → Nat
  | [] => 0
  | c :: l => if isDig c then digN l + 1 else 0
theorem digN_le : ∀ l, digN l ≤ l.length
  | [] => Nat.le_refl _
  | c :: l => by have := digN_le l; simp only [digN, List.length_cons]; split <;> omega
def unitAt (s : List UInt8) (u : UInt8) : Bool := decide (0 < digN s) && decide (s[digN s]? = some u)
def durG : List (UInt8 × Int) → Int → Bool → List UInt8 → Int × Bool
  | [], n, any, s => (n, any && s.isEmpty)
  | u :: l, n, any, s => if unitAt s u.1 = true then durG l (min (n + (digitsL 10 false (s.take (digN s))).1 * u.2) huge) true (s.drop (digN s + 1)) else durG l n any s
def durR (s : List UInt8) : Int × Bool := durG units 0 false s
theorem digN_nil {s : List UInt8} {i : Nat} (h : s.length ≤ i) : digN (s.drop i) = 0 := by rw [List.drop_eq_nil_of_le h]; rfl
theorem digN_not {s : List UInt8} {i : Nat} {c : UInt8} (h : s[i]? = some c) (hd : isDig c = false) : digN (s.drop i) = 0 := by rw [drop_get h, digN, if_neg (by simp [hd])]
theorem dec_nat (a b : Nat) : decide ((a : Int) < (b : Int)) = decide (a < b) := by
  by_cases h : a < b
  · rw [decide_eq_true h]; exact decide_eq_true (by omega)
  · rw [decide_eq_false h]; exact decide_eq_false (by omega)
theorem u8lit (c u : UInt8) (n : Int) (h : (u.toNat : Int) = n) : decide ((c.toNat : Int) = n) = decide (c = u) := by
  subst h
  by_cases h : c = u
  · subst h; simp
  · rw [decide_eq_false h, decide_eq_false]; intro h2; apply h; rw [← UInt8.toNat_inj]; omega
set_option maxHeartbeats 2000000 in
theorem f31_duration (s : List UInt8) (hs : s.length ≤ 140737488351232) : wpP Tryd.prog 31 [.str s] (.tup [.int .i64 (durR s).1, .bool (durR s).2]) := by
  obtain ⟨D, hDef⟩ : ∃ D, durR s = D := ⟨_, rfl⟩
  rw [hDef]
  refine wpP_intro ?_
  refine wpH_intro (fn := Tryd.f31) rfl rfl (by decide) (by kernel_rfl) fun K' hK' => ?_
  repeat' (first | refine wpL_seq ?_ | refine wpL_skip ?_ | refine wpL_label ?_ | refine wpL_scope ?_)
  refine wpL_region' [0] fun q hq => ?_
  simp -implicitDefEqProofs (disch := omega) only [go_sem, Int.reduceEq, Int.reduceLT, Int.reduceLE, Int.reduceToNat, Int.reduceNeg, Int.reduceAdd, Int.reduceSub, Nat.reduceEqDiff, Nat.reduceAdd, Nat.reduceMul, Nat.reduceLeDiff, Nat.reduceSub, ↓reduceIte, reduceCtorEq]
  repeat (refine And.intro (by omega) ?_)
  refine hq _ _ _ (by simp only [pickL, lk_cons, Nat.reduceEqDiff, ↓reduceIte]; exact rfl) ?_
  clear hq q
  repeat' (first | refine wpL_seq ?_ | refine wpL_skip ?_ | refine wpL_label ?_ | refine wpL_scope ?_)
  refine wpL_region' [0, 4] fun q hq => ?_
  simp -implicitDefEqProofs (disch := omega) only [go_sem, Int.reduceEq, Int.reduceLT, Int.reduceLE, Int.reduceToNat, Int.reduceNeg, Int.reduceAdd, Int.reduceSub, Nat.reduceEqDiff, Nat.reduceAdd, Nat.reduceMul, Nat.reduceLeDiff, Nat.reduceSub, ↓reduceIte, reduceCtorEq]
  repeat (refine And.intro (by omega) ?_)
  refine hq _ _ _ (by simp only [pickL, lk_cons, Nat.reduceEqDiff, ↓reduceIte]; exact rfl) ?_
  clear hq q
  repeat' (first | refine wpL_seq ?_ | refine wpL_skip ?_ | refine wpL_label ?_ | refine wpL_scope ?_)
  refine wpL_region' [0, 4, 5] fun q hq => ?_
  simp -implicitDefEqProofs (disch := omega) only [go_sem, Int.reduceEq, Int.reduceLT, Int.reduceLE, Int.reduceToNat, Int.reduceNeg, Int.reduceAdd, Int.reduceSub, Nat.reduceEqDiff, Nat.reduceAdd, Nat.reduceMul, Nat.reduceLeDiff, Nat.reduceSub, ↓reduceIte, reduceCtorEq]
  repeat (refine And.intro (by omega) ?_)
  refine gN_new fun b5 hb5 => ?_
  try simp only [newIn_put, newIn_upd] at hb5
  simp -implicitDefEqProofs (disch := omega) only [go_sem, Int.reduceEq, Int.reduceLT, Int.reduceLE, Int.reduceToNat, Int.reduceNeg, Int.reduceAdd, Int.reduceSub, Nat.reduceEqDiff, Nat.reduceAdd, Nat.reduceMul, Nat.reduceLeDiff, Nat.reduceSub, ↓reduceIte, reduceCtorEq, hb5]
  repeat (refine And.intro (by omega) ?_)
  refine hq _ _ _ (by simp only [pickL, lk_cons, Nat.reduceEqDiff, ↓reduceIte]; exact rfl) ?_
  clear hq q
  refine wpL_frzP' 5 rfl (by simp only [go_sem, hb5, hb5]; exact rfl) rfl (by simp only [go_sem, Int.reduceEq, Int.reduceLT, Int.reduceLE, Int.reduceToNat, Int.reduceNeg, Int.reduceAdd, Int.reduceSub, Nat.reduceEqDiff, Nat.reduceAdd, Nat.reduceMul, Nat.reduceLeDiff, Nat.reduceSub, ↓reduceIte, reduceCtorEq]; exact rfl) (by simp only [go_sem, hb5, hb5]; exact rfl) ?_
  repeat' (first | refine wpL_seq ?_ | refine wpL_skip ?_ | refine wpL_label ?_ | refine wpL_scope ?_)
  refine wpL_region' [0, 4, 5, 6] fun q hq => ?_
  simp -implicitDefEqProofs (disch := omega) only [go_sem, Int.reduceEq, Int.reduceLT, Int.reduceLE, Int.reduceToNat, Int.reduceNeg, Int.reduceAdd, Int.reduceSub, Nat.reduceEqDiff, Nat.reduceAdd, Nat.reduceMul, Nat.reduceLeDiff, Nat.reduceSub, ↓reduceIte, reduceCtorEq, hb5]
  repeat (refine And.intro (by omega) ?_)
  refine hq _ _ _ (by simp only [pickL, lk_cons, Nat.reduceEqDiff, ↓reduceIte]; exact rfl) ?_
  clear hq q
  repeat' (first | refine wpL_seq ?_ | refine wpL_skip ?_ | refine wpL_label ?_ | refine wpL_scope ?_)
  refine wpL_region' [0, 4, 5, 6, 7] fun q hq => ?_
  simp -implicitDefEqProofs (disch := omega) only [go_sem, Int.reduceEq, Int.reduceLT, Int.reduceLE, Int.reduceToNat, Int.reduceNeg, Int.reduceAdd, Int.reduceSub, Nat.reduceEqDiff, Nat.reduceAdd, Nat.reduceMul, Nat.reduceLeDiff, Nat.reduceSub, ↓reduceIte, reduceCtorEq, hb5]
  repeat (refine And.intro (by omega) ?_)
  refine hq _ _ _ (by simp only [pickL, lk_cons, Nat.reduceEqDiff, ↓reduceIte]; exact rfl) ?_
  clear hq q
  repeat' (first | refine wpL_seq ?_ | refine wpL_skip ?_ | refine wpL_label ?_ | refine wpL_scope ?_)
  refine wpL_region' [0, 4, 5, 6, 7, 8] fun q hq => ?_
  simp -implicitDefEqProofs (disch := omega) only [go_sem, Int.reduceEq, Int.reduceLT, Int.reduceLE, Int.reduceToNat, Int.reduceNeg, Int.reduceAdd, Int.reduceSub, Nat.reduceEqDiff, Nat.reduceAdd, Nat.reduceMul, Nat.reduceLeDiff, Nat.reduceSub, ↓reduceIte, reduceCtorEq, hb5]
  repeat (refine And.intro (by omega) ?_)
  refine hq _ _ _ (by simp only [pickL, lk_cons, Nat.reduceEqDiff, ↓reduceIte]; exact rfl) ?_
  clear hq q
  repeat' (first | refine wpL_seq ?_ | refine wpL_skip ?_ | refine wpL_label ?_ | refine wpL_scope ?_)
  refine wpL_block fun k1 hn1 hx1 ho1 => ?_
  refine wpL_loop (fun j e h => ∃ (q : Nat) (i : Nat) (n : Int), q ≤ 3 ∧ j = 3 - q ∧ h = Heap.emp ∧ i ≤ s.length ∧ 0 ≤ n ∧ n ≤ huge ∧ durG (units.drop q) n (decide (0 < i)) (s.drop i) = D ∧
    e = lk [(0, .str s), (4, .str [104, 109, 115]), (5, .rp [.int .i64 3600, .int .i64 60, .int .i64 1] 0), (6, .int .i64 n), (7, .int .i64 i), (8, .int .i64 q)]) 3 ⟨0, 0, 0, by omega, by omega, rfl, by omega, by omega, by decide, hDef, rfl⟩ ?_
  rintro j e h ⟨q, i, n, hq, rfl, rfl, hi, hn0, hn1, hD, rfl⟩ k2 hn2 hx2
  repeat' (first | refine wpL_seq ?_ | refine wpL_skip ?_ | refine wpL_label ?_ | refine wpL_scope ?_)
  refine wpL_region' [0, 4, 5, 6, 7, 8, 14] fun q hq => ?_
  simp -implicitDefEqProofs (disch := omega) only [go_sem, Int.reduceEq, Int.reduceLT, Int.reduceLE, Int.reduceToNat, Int.reduceNeg, Int.reduceAdd, Int.reduceSub, Nat.reduceEqDiff, Nat.reduceAdd, Nat.reduceMul, Nat.reduceLeDiff, Nat.reduceSub, ↓reduceIte, reduceCtorEq, hb5]
  repeat (refine And.intro (by omega) ?_)
  refine hq _ _ _ (by simp only [pickL, lk_cons, Nat.reduceEqDiff, ↓reduceIte]; exact rfl) ?_
  clear hq q
  repeat' (first | refine wpL_seq ?_ | refine wpL_skip ?_ | refine wpL_label ?_ | refine wpL_scope ?_)
  refine wpL_cond rfl (fun hc3 => ?_) (fun hc3 => ?_)
  · rcases (show q = 0 ∨ q = 1 ∨ q = 2 by simp at hc3; omega) with rfl | rfl | rfl
    · rw [show units.drop 0 = (104, 3600) :: units.drop 1 from rfl, durG] at hD
      repeat' (first | refine wpL_seq ?_ | refine wpL_skip ?_ | refine wpL_label ?_ | refine wpL_scope ?_)
      refine wpL_block fun k4 hn4 hx4 ho4 => ?_
      repeat' (first | refine wpL_seq ?_ | refine wpL_skip ?_ | refine wpL_label ?_ | refine wpL_scope ?_)
      refine wpL_region' [0, 4, 5, 6, 7, 8, 9] fun q hq => ?_
      simp -implicitDefEqProofs (disch := omega) only [go_sem, Int.reduceEq, Int.reduceLT, Int.reduceLE, Int.reduceToNat, Int.reduceNeg, Int.reduceAdd, Int.reduceSub, Nat.reduceEqDiff, Nat.reduceAdd, Nat.reduceMul, Nat.reduceLeDiff, Nat.reduceSub, ↓reduceIte, reduceCtorEq, hb5]
      repeat (refine And.intro (by omega) ?_)
      refine hq _ _ _ (by simp only [pickL, lk_cons, Nat.reduceEqDiff, ↓reduceIte]; exact rfl) ?_
      clear hq q
      repeat' (first | refine wpL_seq ?_ | refine wpL_skip ?_ | refine wpL_label ?_ | refine wpL_scope ?_)
      refine wpL_block fun k5 hn5 hx5 ho5 => ?_
      refine wpL_loop (fun j e h => ∃ m : Nat, m ≤ digN (s.drop i) ∧ j = digN (s.drop i) - m ∧ h = Heap.emp ∧ digN (s.drop i) = m + digN (s.drop (i + m)) ∧ e = lk [(0, .str s), (4, .str [104, 109, 115]), (5, .rp [.int .i64 3600, .int .i64 60, .int .i64 1] 0), (6, .int .i64 n), (7, .int .i64 i), (8, .int .i64 (0 : Nat)), (9, .int .i64 (i + m : Nat))]) (digN (s.drop i)) ⟨0, by omega, by omega, rfl, by simp, rfl⟩ ?_
      rintro j e h ⟨m, hm, rfl, rfl, hR, rfl⟩ k6 hn6 hx6
      have hdl := digN_le (s.drop i)
      rw [List.length_drop] at hdl
      by_cases hlt : i + m < s.length ∧ (s[i + m]?.map isDig) = some true
      · obtain ⟨c, hc⟩ := get_of_lt hlt.1
        have hdc : isDig c = true := by have := hlt.2; rw [hc] at this; simpa using this
        rw [drop_get hc, digN, if_pos hdc] at hR
        have hlt1 := hlt.1
        repeat' (first | refine wpL_seq ?_ | refine wpL_skip ?_ | refine wpL_label ?_ | refine wpL_scope ?_)
        refine wpL_regV [0, 4, 5, 6, 7, 8, 9] 27 (.bool true) (by simp only [pickL, put, lk_cons, Int.reduceEq, Int.reduceLT, Int.reduceLE, Int.reduceToNat, Int.reduceNeg, Int.reduceAdd, Int.reduceSub, Nat.reduceEqDiff, Nat.reduceAdd, Nat.reduceMul, Nat.reduceLeDiff, Nat.reduceSub, ↓reduceIte, reduceCtorEq, if_true, if_false]; exact rfl) (by decide) ?_ ?_
        · simp -implicitDefEqProofs (disch := omega) only [go_sem, Int.reduceEq, Int.reduceLT, Int.reduceLE, Int.reduceToNat, Int.reduceNeg, Int.reduceAdd, Int.reduceSub, Nat.reduceEqDiff, Nat.reduceAdd, Nat.reduceMul, Nat.reduceLeDiff, Nat.reduceSub, ↓reduceIte, reduceCtorEq, hc, hdc, hb5]
          repeat' (first | (refine gN_split2 (fun hs => ?_) (fun hs => ?_) <;> simp -implicitDefEqProofs (disch := omega) only [go_sem, Int.reduceEq, Int.reduceLT, Int.reduceLE, Int.reduceToNat, Int.reduceNeg, Int.reduceAdd, Int.reduceSub, Nat.reduceEqDiff, Nat.reduceAdd, Nat.reduceMul, Nat.reduceLeDiff, Nat.reduceSub, ↓reduceIte, reduceCtorEq, hs, hc, hdc, hb5]) | refine gN_callP (f55_digit c) ?_ | simp -implicitDefEqProofs (disch := omega) only [go_sem, Int.reduceEq, Int.reduceLT, Int.reduceLE, Int.reduceToNat, Int.reduceNeg, Int.reduceAdd, Int.reduceSub, Nat.reduceEqDiff, Nat.reduceAdd, Nat.reduceMul, Nat.reduceLeDiff, Nat.reduceSub, ↓reduceIte, reduceCtorEq, hc, hdc, hb5] | refine And.intro (by omega) ?_)
          all_goals (try clear hK'; try clear hn1; try clear hx1; try clear ho1; try clear hn2; try clear hx2; try clear hn4; try clear hx4; try clear ho4; try clear hn5; try clear hx5; try clear ho5; try clear hn6; try clear hx6)
          all_goals ((first | rfl | (exfalso; simp at hs; omega) | omega | (simp_all; done)))
        repeat' (first | refine wpL_seq ?_ | refine wpL_skip ?_ | refine wpL_label ?_ | refine wpL_scope ?_)
        refine wpL_cond rfl (fun hc7 => ?_) (fun hc7 => ?_)
        · repeat' (first | refine wpL_seq ?_ | refine wpL_skip ?_ | refine wpL_label ?_ | refine wpL_scope ?_)
          refine wpL_block fun k8 hn8 hx8 ho8 => ?_
          repeat' (first | refine wpL_seq ?_ | refine wpL_skip ?_ | refine wpL_label ?_ | refine wpL_scope ?_)
          refine wpL_region' [0, 4, 5, 6, 7, 8, 9] fun q hq => ?_
          simp -implicitDefEqProofs (disch := omega) only [go_sem, Int.reduceEq, Int.reduceLT, Int.reduceLE, Int.reduceToNat, Int.reduceNeg, Int.reduceAdd, Int.reduceSub, Nat.reduceEqDiff, Nat.reduceAdd, Nat.reduceMul, Nat.reduceLeDiff, Nat.reduceSub, ↓reduceIte, reduceCtorEq, hb5]
          repeat (refine And.intro (by omega) ?_)
          refine hq _ _ _ (by simp only [pickL, lk_cons, Nat.reduceEqDiff, ↓reduceIte]; exact rfl) ?_
          clear hq q
          repeat' (first | refine wpL_seq ?_ | refine wpL_skip ?_ | refine wpL_label ?_ | refine wpL_scope ?_)
          refine wpL_nil (hn8 _ _ ?_)
          repeat' (first | refine wpL_seq ?_ | refine wpL_skip ?_ | refine wpL_label ?_ | refine wpL_scope ?_)
          exact wpL_nil (hn6 (digN (s.drop i) - (m + 1)) _ _ (by omega) ⟨m + 1, by omega, by omega, rfl, by rw [hR, show i + (m + 1) = i + m + 1 by omega]; omega, rfl⟩)
        · cases hc7
      have hz : digN (s.drop (i + m)) = 0 ∧ (i + m < s.length → ∃ c, s[i + m]? = some c ∧ isDig c = false) := by
        by_cases hl : i + m < s.length
        · obtain ⟨c, hc⟩ := get_of_lt hl
          have hd : isDig c = false := by
            cases hh : isDig c with
            | false => rfl
            | true => exact absurd ⟨hl, by rw [hc]; simp [hh]⟩ hlt
          exact ⟨digN_not hc hd, fun _ => ⟨c, hc, hd⟩⟩
        · exact ⟨digN_nil (by omega), fun h => absurd h hl⟩
      obtain ⟨dN, hdN⟩ : ∃ dN, digN (s.drop i) = dN := ⟨_, rfl⟩
      rw [hz.1, hdN] at hR
      obtain rfl : dN = m := by omega
      rw [hdN] at hdl hD
      have hxd : (s.drop i)[dN]? = s[i + dN]? := by rw [List.getElem?_drop]
      have huv : unitAt (s.drop i) 104 = (decide (0 < dN) && decide (s[i + dN]? = some 104)) := by rw [unitAt, hdN, hxd]
      clear hm hR hlt
      have hex : ∀ e : Env, e = lk [(0, .str s), (4, .str [104, 109, 115]), (5, .rp [.int .i64 3600, .int .i64 60, .int .i64 1] 0), (6, .int .i64 n), (7, .int .i64 i), (8, .int .i64 (0 : Nat)), (9, .int .i64 (i + dN : Nat))] → k6 (.exit 2) e Heap.emp := by
        rintro e rfl
        refine hx6 _ _ _ (by simp) (hx5 _ _ ?_)
        by_cases hl : i + dN < s.length
        · obtain ⟨c, hc, hd⟩ := hz.2 hl
          rw [hc] at huv
          have hcu := u8lit c 104 _ rfl
          by_cases h0 : dN = 0
          · have hu : unitAt (s.drop i) 104 = false := by rw [huv]; simp [h0]
            have c1 : decide (((i + dN : Nat) : Int) > (i : Int)) = false := decide_eq_false (by omega)
            repeat' (first | refine wpL_seq ?_ | refine wpL_skip ?_ | refine wpL_label ?_ | refine wpL_scope ?_)
            refine wpL_drawV [0, 4, 5, 6, 7, 8, 9] 47 (.bool (false)) [0, 1, 2, 3, 4, 5, 6, 7, 8, 9, 10, 11, 12, 13, 14, 15, 16, 17] [] [] (by kernel_rfl) (by kernel_rfl) (by kernel_rfl) (by simp only [pickL, put, lk_cons, Int.reduceEq, Int.reduceLT, Int.reduceLE, Int.reduceToNat, Int.reduceNeg, Int.reduceAdd, Int.reduceSub, Nat.reduceEqDiff, Nat.reduceAdd, Nat.reduceMul, Nat.reduceLeDiff, Nat.reduceSub, ↓reduceIte, reduceCtorEq, if_true, if_false]; exact rfl) (by decide) ?_ ?_
            · simp -implicitDefEqProofs (disch := omega) only [go_sem, Int.reduceEq, Int.reduceLT, Int.reduceLE, Int.reduceToNat, Int.reduceNeg, Int.reduceAdd, Int.reduceSub, Nat.reduceEqDiff, Nat.reduceAdd, Nat.reduceMul, Nat.reduceLeDiff, Nat.reduceSub, ↓reduceIte, reduceCtorEq, c1, hb5]
              repeat' (first | (refine gN_split2 (fun hs => ?_) (fun hs => ?_) <;> simp -implicitDefEqProofs (disch := omega) only [go_sem, Int.reduceEq, Int.reduceLT, Int.reduceLE, Int.reduceToNat, Int.reduceNeg, Int.reduceAdd, Int.reduceSub, Nat.reduceEqDiff, Nat.reduceAdd, Nat.reduceMul, Nat.reduceLeDiff, Nat.reduceSub, ↓reduceIte, reduceCtorEq, hs, c1, hb5]) | simp -implicitDefEqProofs (disch := omega) only [go_sem, Int.reduceEq, Int.reduceLT, Int.reduceLE, Int.reduceToNat, Int.reduceNeg, Int.reduceAdd, Int.reduceSub, Nat.reduceEqDiff, Nat.reduceAdd, Nat.reduceMul, Nat.reduceLeDiff, Nat.reduceSub, ↓reduceIte, reduceCtorEq, c1, hb5] | refine And.intro (by omega) ?_)
              all_goals (try clear hK'; try clear hn1; try clear hx1; try clear ho1; try clear hn2; try clear hx2; try clear hn4; try clear hx4; try clear ho4; try clear hn5; try clear hx5; try clear ho5; try clear hn6; try clear hx6; try clear hn8; try clear hx8; try clear ho8)
              all_goals ((first | rfl | omega | (simp_all; done) | (simp_all; omega)))
            repeat' (first | refine wpL_seq ?_ | refine wpL_skip ?_ | refine wpL_label ?_ | refine wpL_scope ?_)
            refine wpL_condK rfl fun j9 hj9 ox9 => ?_
            have tail9 : j9 .normal (lk [(0, .str s), (4, .str [104, 109, 115]), (5, .rp [.int .i64 3600, .int .i64 60, .int .i64 1] 0), (6, .int .i64 n), (7, .int .i64 i), (8, .int .i64 (0 : Nat))]) Heap.emp := by
              refine hj9 _ _ ?_
              repeat' (first | refine wpL_seq ?_ | refine wpL_skip ?_ | refine wpL_label ?_ | refine wpL_scope ?_)
              refine wpL_nil (hn4 _ _ ?_)
              repeat' (first | refine wpL_seq ?_ | refine wpL_skip ?_ | refine wpL_label ?_ | refine wpL_scope ?_)
              refine wpL_region' [0, 4, 5, 6, 7, 8] fun q hq => ?_
              simp -implicitDefEqProofs (disch := omega) only [go_sem, Int.reduceEq, Int.reduceLT, Int.reduceLE, Int.reduceToNat, Int.reduceNeg, Int.reduceAdd, Int.reduceSub, Nat.reduceEqDiff, Nat.reduceAdd, Nat.reduceMul, Nat.reduceLeDiff, Nat.reduceSub, ↓reduceIte, reduceCtorEq, hb5]
              repeat (refine And.intro (by omega) ?_)
              refine hq _ _ _ (by simp only [pickL, lk_cons, Nat.reduceEqDiff, ↓reduceIte]; exact rfl) ?_
              clear hq q
              repeat' (first | refine wpL_seq ?_ | refine wpL_skip ?_ | refine wpL_label ?_ | refine wpL_scope ?_)
              exact wpL_nil (hn2 (3 - (0 + 1)) _ _ (by omega) ⟨0 + 1, i, n, by omega, by omega, rfl, hi, hn0, hn1, by rw [if_neg (by simp [hu])] at hD; exact hD, rfl⟩)
            refine ⟨fun hc9 => ?_, fun hc9 => ?_⟩
            · cases hc9
            · refine wpL_pick' [0, 4, 5, 6, 7, 8] (by simp only [pickL, lk_cons, Nat.reduceEqDiff, ↓reduceIte]; exact rfl) ?_
              repeat' (first | refine wpL_seq ?_ | refine wpL_skip ?_ | refine wpL_label ?_ | refine wpL_scope ?_)
              repeat' (first | refine wpL_seq ?_ | refine wpL_skip ?_ | refine wpL_label ?_ | refine wpL_scope ?_)
              exact wpL_nil tail9
          · have c1 : decide (((i + dN : Nat) : Int) > (i : Int)) = true := decide_eq_true (by omega)
            have c2 : decide (((i + dN : Nat) : Int) < (s.length : Int)) = true := decide_eq_true (by omega)
            by_cases hcc : c = 104
            · have hu : unitAt (s.drop i) 104 = true := by rw [huv]; simp [h0, hcc]; omega
              have c3 : decide ((c.toNat : Int) = (104 : UInt8).toNat) = true := by rw [hcu]; exact decide_eq_true hcc
              subst hcc
              repeat' (first | refine wpL_seq ?_ | refine wpL_skip ?_ | refine wpL_label ?_ | refine wpL_scope ?_)
              refine wpL_drawV [0, 4, 5, 6, 7, 8, 9] 47 (.bool (true)) [0, 1, 2, 3, 4, 5, 6, 7, 8, 9, 10, 11, 12, 13, 14, 15, 16, 17] [] [] (by kernel_rfl) (by kernel_rfl) (by kernel_rfl) (by simp only [pickL, put, lk_cons, Int.reduceEq, Int.reduceLT, Int.reduceLE, Int.reduceToNat, Int.reduceNeg, Int.reduceAdd, Int.reduceSub, Nat.reduceEqDiff, Nat.reduceAdd, Nat.reduceMul, Nat.reduceLeDiff, Nat.reduceSub, ↓reduceIte, reduceCtorEq, if_true, if_false]; exact rfl) (by decide) ?_ ?_
              · simp -implicitDefEqProofs (disch := omega) only [go_sem, Int.reduceEq, Int.reduceLT, Int.reduceLE, Int.reduceToNat, Int.reduceNeg, Int.reduceAdd, Int.reduceSub, Nat.reduceEqDiff, Nat.reduceAdd, Nat.reduceMul, Nat.reduceLeDiff, Nat.reduceSub, ↓reduceIte, reduceCtorEq, c1, c2, hc, hb5]
                repeat' (first | (refine gN_split2 (fun hs => ?_) (fun hs => ?_) <;> simp -implicitDefEqProofs (disch := omega) only [go_sem, Int.reduceEq, Int.reduceLT, Int.reduceLE, Int.reduceToNat, Int.reduceNeg, Int.reduceAdd, Int.reduceSub, Nat.reduceEqDiff, Nat.reduceAdd, Nat.reduceMul, Nat.reduceLeDiff, Nat.reduceSub, ↓reduceIte, reduceCtorEq, hs, c1, c2, hc, hb5]) | simp -implicitDefEqProofs (disch := omega) only [go_sem, Int.reduceEq, Int.reduceLT, Int.reduceLE, Int.reduceToNat, Int.reduceNeg, Int.reduceAdd, Int.reduceSub, Nat.reduceEqDiff, Nat.reduceAdd, Nat.reduceMul, Nat.reduceLeDiff, Nat.reduceSub, ↓reduceIte, reduceCtorEq, c1, c2, hc, hb5] | refine And.intro (by omega) ?_)
                all_goals (try clear hK'; try clear hn1; try clear hx1; try clear ho1; try clear hn2; try clear hx2; try clear hn4; try clear hx4; try clear ho4; try clear hn5; try clear hx5; try clear ho5; try clear hn6; try clear hx6; try clear hn8; try clear hx8; try clear ho8; try clear hj9; try clear ox9)
                all_goals ((first | rfl | omega | (simp_all; done) | (simp_all; omega)))
              repeat' (first | refine wpL_seq ?_ | refine wpL_skip ?_ | refine wpL_label ?_ | refine wpL_scope ?_)
              refine wpL_condK rfl fun j9 hj9 ox9 => ?_
              have hh : huge = 1099511627776 := rfl
              have q30 := f30_digits ((s.drop i).take dN) 10 false (by simp; omega) (.inl rfl)
              have hdg := digits_in 10 false (by omega) ((s.drop i).take dN)
              rw [if_pos hu] at hD
              generalize digitsL 10 false ((s.drop i).take dN) = dd at *
              have e1 : (i + dN) - i = dN := by omega
              have tail9 : ∀ z, z = min (n + dd.1 * 3600) huge → j9 .normal (lk [(0, .str s), (4, .str [104, 109, 115]), (5, .rp [.int .i64 3600, .int .i64 60, .int .i64 1] 0), (6, .int .i64 z), (7, .int .i64 (i + dN + 1 : Nat)), (8, .int .i64 (0 : Nat))]) Heap.emp := by
                rintro z rfl
                refine hj9 _ _ ?_
                repeat' (first | refine wpL_seq ?_ | refine wpL_skip ?_ | refine wpL_label ?_ | refine wpL_scope ?_)
                refine wpL_nil (hn4 _ _ ?_)
                repeat' (first | refine wpL_seq ?_ | refine wpL_skip ?_ | refine wpL_label ?_ | refine wpL_scope ?_)
                refine wpL_region' [0, 4, 5, 6, 7, 8] fun q hq => ?_
                simp -implicitDefEqProofs (disch := omega) only [go_sem, Int.reduceEq, Int.reduceLT, Int.reduceLE, Int.reduceToNat, Int.reduceNeg, Int.reduceAdd, Int.reduceSub, Nat.reduceEqDiff, Nat.reduceAdd, Nat.reduceMul, Nat.reduceLeDiff, Nat.reduceSub, ↓reduceIte, reduceCtorEq, hb5]
                repeat (refine And.intro (by omega) ?_)
                refine hq _ _ _ (by simp only [pickL, lk_cons, Nat.reduceEqDiff, ↓reduceIte]; exact rfl) ?_
                clear hq q
                repeat' (first | refine wpL_seq ?_ | refine wpL_skip ?_ | refine wpL_label ?_ | refine wpL_scope ?_)
                exact wpL_nil (hn2 (3 - (0 + 1)) _ _ (by omega) ⟨0 + 1, i + dN + 1, min (n + dd.1 * 3600) huge, by omega, by omega, rfl, by omega, by omega, by omega, by rw [List.drop_drop, show i + (dN + 1) = i + dN + 1 by omega] at hD; rw [← hD, decide_eq_true (show 0 < i + dN + 1 by omega)], rfl⟩)
              refine ⟨fun hc9 => ?_, fun hc9 => ?_⟩
              · repeat' (first | refine wpL_seq ?_ | refine wpL_skip ?_ | refine wpL_label ?_ | refine wpL_scope ?_)
                refine wpL_region' [0, 4, 5, 6, 8, 9, 10] fun q hq => ?_
                simp -implicitDefEqProofs (disch := omega) only [go_sem, Int.reduceEq, Int.reduceLT, Int.reduceLE, Int.reduceToNat, Int.reduceNeg, Int.reduceAdd, Int.reduceSub, Nat.reduceEqDiff, Nat.reduceAdd, Nat.reduceMul, Nat.reduceLeDiff, Nat.reduceSub, ↓reduceIte, reduceCtorEq, e1, Int.toNat_natCast, hb5]
                repeat (refine And.intro (by omega) ?_)
                refine gN_callP (q30) ?_
                simp -implicitDefEqProofs (disch := omega) only [go_sem, Int.reduceEq, Int.reduceLT, Int.reduceLE, Int.reduceToNat, Int.reduceNeg, Int.reduceAdd, Int.reduceSub, Nat.reduceEqDiff, Nat.reduceAdd, Nat.reduceMul, Nat.reduceLeDiff, Nat.reduceSub, ↓reduceIte, reduceCtorEq, e1, Int.toNat_natCast, hb5]
                repeat (refine And.intro (by omega) ?_)
                refine hq _ _ _ (by simp only [pickL, lk_cons, Nat.reduceEqDiff, ↓reduceIte]; exact rfl) ?_
                clear hq q
                repeat' (first | refine wpL_seq ?_ | refine wpL_skip ?_ | refine wpL_label ?_ | refine wpL_scope ?_)
                refine wpL_region' [0, 4, 5, 6, 8, 9] fun q hq => ?_
                simp -implicitDefEqProofs (disch := omega) only [go_sem, Int.reduceEq, Int.reduceLT, Int.reduceLE, Int.reduceToNat, Int.reduceNeg, Int.reduceAdd, Int.reduceSub, Nat.reduceEqDiff, Nat.reduceAdd, Nat.reduceMul, Nat.reduceLeDiff, Nat.reduceSub, ↓reduceIte, reduceCtorEq, hb5]
                repeat (refine And.intro (by omega) ?_)
                refine hq _ _ _ (by simp only [pickL, lk_cons, Nat.reduceEqDiff, ↓reduceIte]; exact rfl) ?_
                clear hq q
                repeat' (first | refine wpL_seq ?_ | refine wpL_skip ?_ | refine wpL_label ?_ | refine wpL_scope ?_)
                refine wpL_region' [0, 4, 5, 6, 8, 9, 64] fun q hq => ?_
                simp -implicitDefEqProofs (disch := omega) only [go_sem, Int.reduceEq, Int.reduceLT, Int.reduceLE, Int.reduceToNat, Int.reduceNeg, Int.reduceAdd, Int.reduceSub, Nat.reduceEqDiff, Nat.reduceAdd, Nat.reduceMul, Nat.reduceLeDiff, Nat.reduceSub, ↓reduceIte, reduceCtorEq, hb5]
                repeat (refine And.intro (by omega) ?_)
                refine hq _ _ _ (by simp only [pickL, lk_cons, Nat.reduceEqDiff, ↓reduceIte]; exact rfl) ?_
                clear hq q
                repeat' (first | refine wpL_seq ?_ | refine wpL_skip ?_ | refine wpL_label ?_ | refine wpL_scope ?_)
                refine wpL_condK rfl fun j10 hj10 ox10 => ?_
                have tail10 : ∀ z, z = min (n + dd.1 * 3600) huge → j10 .normal (lk [(0, .str s), (4, .str [104, 109, 115]), (5, .rp [.int .i64 3600, .int .i64 60, .int .i64 1] 0), (6, .int .i64 z), (8, .int .i64 (0 : Nat)), (9, .int .i64 (i + dN : Nat))]) Heap.emp := by
                  intro z hz
                  refine hj10 _ _ ?_
                  repeat' (first | refine wpL_seq ?_ | refine wpL_skip ?_ | refine wpL_label ?_ | refine wpL_scope ?_)
                  refine wpL_region' [0, 4, 5, 6, 7, 8] fun q hq => ?_
                  simp -implicitDefEqProofs (disch := omega) only [go_sem, Int.reduceEq, Int.reduceLT, Int.reduceLE, Int.reduceToNat, Int.reduceNeg, Int.reduceAdd, Int.reduceSub, Nat.reduceEqDiff, Nat.reduceAdd, Nat.reduceMul, Nat.reduceLeDiff, Nat.reduceSub, ↓reduceIte, reduceCtorEq, hb5]
                  repeat (refine And.intro (by omega) ?_)
                  refine hq _ _ _ (by simp only [pickL, lk_cons, Nat.reduceEqDiff, ↓reduceIte]; exact rfl) ?_
                  clear hq q
                  repeat' (first | refine wpL_seq ?_ | refine wpL_skip ?_ | refine wpL_label ?_ | refine wpL_scope ?_)
                  exact wpL_nil (tail9 z hz)
                refine ⟨fun hc10 => ?_, fun hc10 => ?_⟩
                · have h10 := of_decide_eq_true hc10
                  repeat' (first | refine wpL_seq ?_ | refine wpL_skip ?_ | refine wpL_label ?_ | refine wpL_scope ?_)
                  refine wpL_region' [0, 4, 5, 6, 8, 9] fun q hq => ?_
                  simp -implicitDefEqProofs (disch := omega) only [go_sem, Int.reduceEq, Int.reduceLT, Int.reduceLE, Int.reduceToNat, Int.reduceNeg, Int.reduceAdd, Int.reduceSub, Nat.reduceEqDiff, Nat.reduceAdd, Nat.reduceMul, Nat.reduceLeDiff, Nat.reduceSub, ↓reduceIte, reduceCtorEq, hb5]
                  repeat (refine And.intro (by omega) ?_)
                  refine hq _ _ _ (by simp only [pickL, lk_cons, Nat.reduceEqDiff, ↓reduceIte]; exact rfl) ?_
                  clear hq q
                  repeat' (first | refine wpL_seq ?_ | refine wpL_skip ?_ | refine wpL_label ?_ | refine wpL_scope ?_)
                  exact wpL_nil (tail10 _ (by omega))
                · have h10 := of_decide_eq_false hc10
                  refine wpL_pick' [0, 4, 5, 6, 8, 9] (by simp only [pickL, lk_cons, Nat.reduceEqDiff, ↓reduceIte]; exact rfl) ?_
                  repeat' (first | refine wpL_seq ?_ | refine wpL_skip ?_ | refine wpL_label ?_ | refine wpL_scope ?_)
                  repeat' (first | refine wpL_seq ?_ | refine wpL_skip ?_ | refine wpL_label ?_ | refine wpL_scope ?_)
                  exact wpL_nil (tail10 _ (by omega))
              · cases hc9
            · have hu : unitAt (s.drop i) 104 = false := by rw [huv]; simp [hcc]
              have c3 : decide ((c.toNat : Int) = 104) = false := by have : decide ((c.toNat : Int) = 104) = decide (c = 104) := u8lit c 104 104 rfl; rw [this]; exact decide_eq_false hcc
              repeat' (first | refine wpL_seq ?_ | refine wpL_skip ?_ | refine wpL_label ?_ | refine wpL_scope ?_)
              refine wpL_drawV [0, 4, 5, 6, 7, 8, 9] 47 (.bool (false)) [0, 1, 2, 3, 4, 5, 6, 7, 8, 9, 10, 11, 12, 13, 14, 15, 16, 17] [] [] (by kernel_rfl) (by kernel_rfl) (by kernel_rfl) (by simp only [pickL, put, lk_cons, Int.reduceEq, Int.reduceLT, Int.reduceLE, Int.reduceToNat, Int.reduceNeg, Int.reduceAdd, Int.reduceSub, Nat.reduceEqDiff, Nat.reduceAdd, Nat.reduceMul, Nat.reduceLeDiff, Nat.reduceSub, ↓reduceIte, reduceCtorEq, if_true, if_false]; exact rfl) (by decide) ?_ ?_
              · simp -implicitDefEqProofs (disch := omega) only [go_sem, Int.reduceEq, Int.reduceLT, Int.reduceLE, Int.reduceToNat, Int.reduceNeg, Int.reduceAdd, Int.reduceSub, Nat.reduceEqDiff, Nat.reduceAdd, Nat.reduceMul, Nat.reduceLeDiff, Nat.reduceSub, ↓reduceIte, reduceCtorEq, c1, c2, hc, c3, hb5]
                repeat' (first | (refine gN_split2 (fun hs => ?_) (fun hs => ?_) <;> simp -implicitDefEqProofs (disch := omega) only [go_sem, Int.reduceEq, Int.reduceLT, Int.reduceLE, Int.reduceToNat, Int.reduceNeg, Int.reduceAdd, Int.reduceSub, Nat.reduceEqDiff, Nat.reduceAdd, Nat.reduceMul, Nat.reduceLeDiff, Nat.reduceSub, ↓reduceIte, reduceCtorEq, hs, c1, c2, hc, c3, hb5]) | simp -implicitDefEqProofs (disch := omega) only [go_sem, Int.reduceEq, Int.reduceLT, Int.reduceLE, Int.reduceToNat, Int.reduceNeg, Int.reduceAdd, Int.reduceSub, Nat.reduceEqDiff, Nat.reduceAdd, Nat.reduceMul, Nat.reduceLeDiff, Nat.reduceSub, ↓reduceIte, reduceCtorEq, c1, c2, hc, c3, hb5] | refine And.intro (by omega) ?_)
                all_goals (try clear hK'; try clear hn1; try clear hx1; try clear ho1; try clear hn2; try clear hx2; try clear hn4; try clear hx4; try clear ho4; try clear hn5; try clear hx5; try clear ho5; try clear hn6; try clear hx6; try clear hn8; try clear hx8; try clear ho8; try clear hj9; try clear ox9; try clear hj9; try clear ox9; try clear hj10; try clear ox10)
                all_goals ((first | rfl | omega | (simp_all; done) | (simp_all; omega)))
              repeat' (first | refine wpL_seq ?_ | refine wpL_skip ?_ | refine wpL_label ?_ | refine wpL_scope ?_)
              refine wpL_condK rfl fun j9 hj9 ox9 => ?_
              have tail9 : j9 .normal (lk [(0, .str s), (4, .str [104, 109, 115]), (5, .rp [.int .i64 3600, .int .i64 60, .int .i64 1] 0), (6, .int .i64 n), (7, .int .i64 i), (8, .int .i64 (0 : Nat))]) Heap.emp := by
                refine hj9 _ _ ?_
                repeat' (first | refine wpL_seq ?_ | refine wpL_skip ?_ | refine wpL_label ?_ | refine wpL_scope ?_)
                refine wpL_nil (hn4 _ _ ?_)
                repeat' (first | refine wpL_seq ?_ | refine wpL_skip ?_ | refine wpL_label ?_ | refine wpL_scope ?_)
                refine wpL_region' [0, 4, 5, 6, 7, 8] fun q hq => ?_
                simp -implicitDefEqProofs (disch := omega) only [go_sem, Int.reduceEq, Int.reduceLT, Int.reduceLE, Int.reduceToNat, Int.reduceNeg, Int.reduceAdd, Int.reduceSub, Nat.reduceEqDiff, Nat.reduceAdd, Nat.reduceMul, Nat.reduceLeDiff, Nat.reduceSub, ↓reduceIte, reduceCtorEq, hb5]
                repeat (refine And.intro (by omega) ?_)
                refine hq _ _ _ (by simp only [pickL, lk_cons, Nat.reduceEqDiff, ↓reduceIte]; exact rfl) ?_
                clear hq q
                repeat' (first | refine wpL_seq ?_ | refine wpL_skip ?_ | refine wpL_label ?_ | refine wpL_scope ?_)
                exact wpL_nil (hn2 (3 - (0 + 1)) _ _ (by omega) ⟨0 + 1, i, n, by omega, by omega, rfl, hi, hn0, hn1, by rw [if_neg (by simp [hu])] at hD; exact hD, rfl⟩)
              refine ⟨fun hc9 => ?_, fun hc9 => ?_⟩
              · cases hc9
              · refine wpL_pick' [0, 4, 5, 6, 7, 8] (by simp only [pickL, lk_cons, Nat.reduceEqDiff, ↓reduceIte]; exact rfl) ?_
                repeat' (first | refine wpL_seq ?_ | refine wpL_skip ?_ | refine wpL_label ?_ | refine wpL_scope ?_)
                repeat' (first | refine wpL_seq ?_ | refine wpL_skip ?_ | refine wpL_label ?_ | refine wpL_scope ?_)
                exact wpL_nil tail9
        · have hu : unitAt (s.drop i) 104 = false := by rw [huv, List.getElem?_eq_none (by omega)]; simp
          have c2 : decide (((i + dN : Nat) : Int) < (s.length : Int)) = false := decide_eq_false (by omega)
          repeat' (first | refine wpL_seq ?_ | refine wpL_skip ?_ | refine wpL_label ?_ | refine wpL_scope ?_)
          refine wpL_drawV [0, 4, 5, 6, 7, 8, 9] 47 (.bool (false)) [0, 1, 2, 3, 4, 5, 6, 7, 8, 9, 10, 11, 12, 13, 14, 15, 16, 17] [] [] (by kernel_rfl) (by kernel_rfl) (by kernel_rfl) (by simp only [pickL, put, lk_cons, Int.reduceEq, Int.reduceLT, Int.reduceLE, Int.reduceToNat, Int.reduceNeg, Int.reduceAdd, Int.reduceSub, Nat.reduceEqDiff, Nat.reduceAdd, Nat.reduceMul, Nat.reduceLeDiff, Nat.reduceSub, ↓reduceIte, reduceCtorEq, if_true, if_false]; exact rfl) (by decide) ?_ ?_
          · simp -implicitDefEqProofs (disch := omega) only [go_sem, Int.reduceEq, Int.reduceLT, Int.reduceLE, Int.reduceToNat, Int.reduceNeg, Int.reduceAdd, Int.reduceSub, Nat.reduceEqDiff, Nat.reduceAdd, Nat.reduceMul, Nat.reduceLeDiff, Nat.reduceSub, ↓reduceIte, reduceCtorEq, c2, hb5]
            repeat' (first | (refine gN_split2 (fun hs => ?_) (fun hs => ?_) <;> simp -implicitDefEqProofs (disch := omega) only [go_sem, Int.reduceEq, Int.reduceLT, Int.reduceLE, Int.reduceToNat, Int.reduceNeg, Int.reduceAdd, Int.reduceSub, Nat.reduceEqDiff, Nat.reduceAdd, Nat.reduceMul, Nat.reduceLeDiff, Nat.reduceSub, ↓reduceIte, reduceCtorEq, hs, c2, hb5]) | simp -implicitDefEqProofs (disch := omega) only [go_sem, Int.reduceEq, Int.reduceLT, Int.reduceLE, Int.reduceToNat, Int.reduceNeg, Int.reduceAdd, Int.reduceSub, Nat.reduceEqDiff, Nat.reduceAdd, Nat.reduceMul, Nat.reduceLeDiff, Nat.reduceSub, ↓reduceIte, reduceCtorEq, c2, hb5] | refine And.intro (by omega) ?_)
            all_goals (try clear hK'; try clear hn1; try clear hx1; try clear ho1; try clear hn2; try clear hx2; try clear hn4; try clear hx4; try clear ho4; try clear hn5; try clear hx5; try clear ho5; try clear hn6; try clear hx6; try clear hn8; try clear hx8; try clear ho8; try clear hj9; try clear ox9; try clear hj9; try clear ox9; try clear hj10; try clear ox10; try clear hj9; try clear ox9)
            all_goals ((first | rfl | omega | (simp_all; done) | (simp_all; omega)))
          repeat' (first | refine wpL_seq ?_ | refine wpL_skip ?_ | refine wpL_label ?_ | refine wpL_scope ?_)
          refine wpL_condK rfl fun j9 hj9 ox9 => ?_
          have tail9 : j9 .normal (lk [(0, .str s), (4, .str [104, 109, 115]), (5, .rp [.int .i64 3600, .int .i64 60, .int .i64 1] 0), (6, .int .i64 n), (7, .int .i64 i), (8, .int .i64 (0 : Nat))]) Heap.emp := by
            refine hj9 _ _ ?_
            repeat' (first | refine wpL_seq ?_ | refine wpL_skip ?_ | refine wpL_label ?_ | refine wpL_scope ?_)
            refine wpL_nil (hn4 _ _ ?_)
            repeat' (first | refine wpL_seq ?_ | refine wpL_skip ?_ | refine wpL_label ?_ | refine wpL_scope ?_)
            refine wpL_region' [0, 4, 5, 6, 7, 8] fun q hq => ?_
            simp -implicitDefEqProofs (disch := omega) only [go_sem, Int.reduceEq, Int.reduceLT, Int.reduceLE, Int.reduceToNat, Int.reduceNeg, Int.reduceAdd, Int.reduceSub, Nat.reduceEqDiff, Nat.reduceAdd, Nat.reduceMul, Nat.reduceLeDiff, Nat.reduceSub, ↓reduceIte, reduceCtorEq, hb5]
            repeat (refine And.intro (by omega) ?_)
            refine hq _ _ _ (by simp only [pickL, lk_cons, Nat.reduceEqDiff, ↓reduceIte]; exact rfl) ?_
            clear hq q
            repeat' (first | refine wpL_seq ?_ | refine wpL_skip ?_ | refine wpL_label ?_ | refine wpL_scope ?_)
            exact wpL_nil (hn2 (3 - (0 + 1)) _ _ (by omega) ⟨0 + 1, i, n, by omega, by omega, rfl, hi, hn0, hn1, by rw [if_neg (by simp [hu])] at hD; exact hD, rfl⟩)
          refine ⟨fun hc9 => ?_, fun hc9 => ?_⟩
          · cases hc9
          · refine wpL_pick' [0, 4, 5, 6, 7, 8] (by simp only [pickL, lk_cons, Nat.reduceEqDiff, ↓reduceIte]; exact rfl) ?_
            repeat' (first | refine wpL_seq ?_ | refine wpL_skip ?_ | refine wpL_label ?_ | refine wpL_scope ?_)
            repeat' (first | refine wpL_seq ?_ | refine wpL_skip ?_ | refine wpL_label ?_ | refine wpL_scope ?_)
            exact wpL_nil tail9
      by_cases hl : i + dN < s.length
      · obtain ⟨c, hc, hd⟩ := hz.2 hl
        have c2 : decide (((i + dN : Nat) : Int) < (s.length : Int)) = true := decide_eq_true (by omega)
        repeat' (first | refine wpL_seq ?_ | refine wpL_skip ?_ | refine wpL_label ?_ | refine wpL_scope ?_)
        refine wpL_regV [0, 4, 5, 6, 7, 8, 9] 27 (.bool false) (by simp only [pickL, put, lk_cons, Int.reduceEq, Int.reduceLT, Int.reduceLE, Int.reduceToNat, Int.reduceNeg, Int.reduceAdd, Int.reduceSub, Nat.reduceEqDiff, Nat.reduceAdd, Nat.reduceMul, Nat.reduceLeDiff, Nat.reduceSub, ↓reduceIte, reduceCtorEq, if_true, if_false]; exact rfl) (by decide) ?_ ?_
        · simp -implicitDefEqProofs (disch := omega) only [go_sem, Int.reduceEq, Int.reduceLT, Int.reduceLE, Int.reduceToNat, Int.reduceNeg, Int.reduceAdd, Int.reduceSub, Nat.reduceEqDiff, Nat.reduceAdd, Nat.reduceMul, Nat.reduceLeDiff, Nat.reduceSub, ↓reduceIte, reduceCtorEq, c2, hc, hd, hb5]
          repeat' (first | (refine gN_split2 (fun hs => ?_) (fun hs => ?_) <;> simp -implicitDefEqProofs (disch := omega) only [go_sem, Int.reduceEq, Int.reduceLT, Int.reduceLE, Int.reduceToNat, Int.reduceNeg, Int.reduceAdd, Int.reduceSub, Nat.reduceEqDiff, Nat.reduceAdd, Nat.reduceMul, Nat.reduceLeDiff, Nat.reduceSub, ↓reduceIte, reduceCtorEq, hs, c2, hc, hd, hb5]) | refine gN_callP (f55_digit c) ?_ | simp -implicitDefEqProofs (disch := omega) only [go_sem, Int.reduceEq, Int.reduceLT, Int.reduceLE, Int.reduceToNat, Int.reduceNeg, Int.reduceAdd, Int.reduceSub, Nat.reduceEqDiff, Nat.reduceAdd, Nat.reduceMul, Nat.reduceLeDiff, Nat.reduceSub, ↓reduceIte, reduceCtorEq, c2, hc, hd, hb5] | refine And.intro (by omega) ?_)
          all_goals (try clear hK'; try clear hn1; try clear hx1; try clear ho1; try clear hn2; try clear hx2; try clear hn4; try clear hx4; try clear ho4; try clear hn5; try clear hx5; try clear ho5; try clear hn6; try clear hx6; try clear hn8; try clear hx8; try clear ho8; try clear hj9; try clear ox9; try clear hj9; try clear ox9; try clear hj10; try clear ox10; try clear hj9; try clear ox9; try clear hj9; try clear ox9)
          all_goals ((first | rfl | omega | (simp_all; done)))
        repeat' (first | refine wpL_seq ?_ | refine wpL_skip ?_ | refine wpL_label ?_ | refine wpL_scope ?_)
        refine wpL_cond rfl (fun hc7 => ?_) (fun hc7 => ?_)
        · cases hc7
        refine wpL_pick' [0, 4, 5, 6, 7, 8, 9] (by simp only [pickL, lk_cons, Nat.reduceEqDiff, ↓reduceIte]; exact rfl) ?_
        repeat' (first | refine wpL_seq ?_ | refine wpL_skip ?_ | refine wpL_label ?_ | refine wpL_scope ?_)
        repeat' (first | refine wpL_seq ?_ | refine wpL_skip ?_ | refine wpL_label ?_ | refine wpL_scope ?_)
        exact wpL_exit (hex _ rfl)
      · have c2 : decide (((i + dN : Nat) : Int) < (s.length : Int)) = false := decide_eq_false (by omega)
        repeat' (first | refine wpL_seq ?_ | refine wpL_skip ?_ | refine wpL_label ?_ | refine wpL_scope ?_)
        refine wpL_regV [0, 4, 5, 6, 7, 8, 9] 27 (.bool false) (by simp only [pickL, put, lk_cons, Int.reduceEq, Int.reduceLT, Int.reduceLE, Int.reduceToNat, Int.reduceNeg, Int.reduceAdd, Int.reduceSub, Nat.reduceEqDiff, Nat.reduceAdd, Nat.reduceMul, Nat.reduceLeDiff, Nat.reduceSub, ↓reduceIte, reduceCtorEq, if_true, if_false]; exact rfl) (by decide) ?_ ?_
        · simp -implicitDefEqProofs (disch := omega) only [go_sem, Int.reduceEq, Int.reduceLT, Int.reduceLE, Int.reduceToNat, Int.reduceNeg, Int.reduceAdd, Int.reduceSub, Nat.reduceEqDiff, Nat.reduceAdd, Nat.reduceMul, Nat.reduceLeDiff, Nat.reduceSub, ↓reduceIte, reduceCtorEq, c2, hb5]
          repeat' (first | (refine gN_split2 (fun hs => ?_) (fun hs => ?_) <;> simp -implicitDefEqProofs (disch := omega) only [go_sem, Int.reduceEq, Int.reduceLT, Int.reduceLE, Int.reduceToNat, Int.reduceNeg, Int.reduceAdd, Int.reduceSub, Nat.reduceEqDiff, Nat.reduceAdd, Nat.reduceMul, Nat.reduceLeDiff, Nat.reduceSub, ↓reduceIte, reduceCtorEq, hs, c2, hb5]) | simp -implicitDefEqProofs (disch := omega) only [go_sem, Int.reduceEq, Int.reduceLT, Int.reduceLE, Int.reduceToNat, Int.reduceNeg, Int.reduceAdd, Int.reduceSub, Nat.reduceEqDiff, Nat.reduceAdd, Nat.reduceMul, Nat.reduceLeDiff, Nat.reduceSub, ↓reduceIte, reduceCtorEq, c2, hb5] | refine And.intro (by omega) ?_)
          all_goals (try clear hK'; try clear hn1; try clear hx1; try clear ho1; try clear hn2; try clear hx2; try clear hn4; try clear hx4; try clear ho4; try clear hn5; try clear hx5; try clear ho5; try clear hn6; try clear hx6; try clear hn8; try clear hx8; try clear ho8; try clear hj9; try clear ox9; try clear hj9; try clear ox9; try clear hj10; try clear ox10; try clear hj9; try clear ox9; try clear hj9; try clear ox9)
          all_goals ((first | rfl | omega | (simp_all; done)))
        repeat' (first | refine wpL_seq ?_ | refine wpL_skip ?_ | refine wpL_label ?_ | refine wpL_scope ?_)
        refine wpL_cond rfl (fun hc7 => ?_) (fun hc7 => ?_)
        · cases hc7
        refine wpL_pick' [0, 4, 5, 6, 7, 8, 9] (by simp only [pickL, lk_cons, Nat.reduceEqDiff, ↓reduceIte]; exact rfl) ?_
        repeat' (first | refine wpL_seq ?_ | refine wpL_skip ?_ | refine wpL_label ?_ | refine wpL_scope ?_)
        repeat' (first | refine wpL_seq ?_ | refine wpL_skip ?_ | refine wpL_label ?_ | refine wpL_scope ?_)
        exact wpL_exit (hex _ rfl)
    · rw [show units.drop 1 = (109, 60) :: units.drop 2 from rfl, durG] at hD
      repeat' (first | refine wpL_seq ?_ | refine wpL_skip ?_ | refine wpL_label ?_ | refine wpL_scope ?_)
      refine wpL_block fun k4 hn4 hx4 ho4 => ?_
      repeat' (first | refine wpL_seq ?_ | refine wpL_skip ?_ | refine wpL_label ?_ | refine wpL_scope ?_)
      refine wpL_region' [0, 4, 5, 6, 7, 8, 9] fun q hq => ?_
      simp -implicitDefEqProofs (disch := omega) only [go_sem, Int.reduceEq, Int.reduceLT, Int.reduceLE, Int.reduceToNat, Int.reduceNeg, Int.reduceAdd, Int.reduceSub, Nat.reduceEqDiff, Nat.reduceAdd, Nat.reduceMul, Nat.reduceLeDiff, Nat.reduceSub, ↓reduceIte, reduceCtorEq, hb5]
      repeat (refine And.intro (by omega) ?_)
      refine hq _ _ _ (by simp only [pickL, lk_cons, Nat.reduceEqDiff, ↓reduceIte]; exact rfl) ?_
      clear hq q
      repeat' (first | refine wpL_seq ?_ | refine wpL_skip ?_ | refine wpL_label ?_ | refine wpL_scope ?_)
      refine wpL_block fun k5 hn5 hx5 ho5 => ?_
      refine wpL_loop (fun j e h => ∃ m : Nat, m ≤ digN (s.drop i) ∧ j = digN (s.drop i) - m ∧ h = Heap.emp ∧ digN (s.drop i) = m + digN (s.drop (i + m)) ∧ e = lk [(0, .str s), (4, .str [104, 109, 115]), (5, .rp [.int .i64 3600, .int .i64 60, .int .i64 1] 0), (6, .int .i64 n), (7, .int .i64 i), (8, .int .i64 (1 : Nat)), (9, .int .i64 (i + m : Nat))]) (digN (s.drop i)) ⟨0, by omega, by omega, rfl, by simp, rfl⟩ ?_
      rintro j e h ⟨m, hm, rfl, rfl, hR, rfl⟩ k6 hn6 hx6
      have hdl := digN_le (s.drop i)
      rw [List.length_drop] at hdl
      by_cases hlt : i + m < s.length ∧ (s[i + m]?.map isDig) = some true
      · obtain ⟨c, hc⟩ := get_of_lt hlt.1
        have hdc : isDig c = true := by have := hlt.2; rw [hc] at this; simpa using this
        rw [drop_get hc, digN, if_pos hdc] at hR
        have hlt1 := hlt.1
        repeat' (first | refine wpL_seq ?_ | refine wpL_skip ?_ | refine wpL_label ?_ | refine wpL_scope ?_)
        refine wpL_regV [0, 4, 5, 6, 7, 8, 9] 27 (.bool true) (by simp only [pickL, put, lk_cons, Int.reduceEq, Int.reduceLT, Int.reduceLE, Int.reduceToNat, Int.reduceNeg, Int.reduceAdd, Int.reduceSub, Nat.reduceEqDiff, Nat.reduceAdd, Nat.reduceMul, Nat.reduceLeDiff, Nat.reduceSub, ↓reduceIte, reduceCtorEq, if_true, if_false]; exact rfl) (by decide) ?_ ?_
        · simp -implicitDefEqProofs (disch := omega) only [go_sem, Int.reduceEq, Int.reduceLT, Int.reduceLE, Int.reduceToNat, Int.reduceNeg, Int.reduceAdd, Int.reduceSub, Nat.reduceEqDiff, Nat.reduceAdd, Nat.reduceMul, Nat.reduceLeDiff, Nat.reduceSub, ↓reduceIte, reduceCtorEq, hc, hdc, hb5]
          repeat' (first | (refine gN_split2 (fun hs => ?_) (fun hs => ?_) <;> simp -implicitDefEqProofs (disch := omega) only [go_sem, Int.reduceEq, Int.reduceLT, Int.reduceLE, Int.reduceToNat, Int.reduceNeg, Int.reduceAdd, Int.reduceSub, Nat.reduceEqDiff, Nat.reduceAdd, Nat.reduceMul, Nat.reduceLeDiff, Nat.reduceSub, ↓reduceIte, reduceCtorEq, hs, hc, hdc, hb5]) | refine gN_callP (f55_digit c) ?_ | simp -implicitDefEqProofs (disch := omega) only [go_sem, Int.reduceEq, Int.reduceLT, Int.reduceLE, Int.reduceToNat, Int.reduceNeg, Int.reduceAdd, Int.reduceSub, Nat.reduceEqDiff, Nat.reduceAdd, Nat.reduceMul, Nat.reduceLeDiff, Nat.reduceSub, ↓reduceIte, reduceCtorEq, hc, hdc, hb5] | refine And.intro (by omega) ?_)
          all_goals (try clear hK'; try clear hn1; try clear hx1; try clear ho1; try clear hn2; try clear hx2; try clear hn4; try clear hx4; try clear ho4; try clear hn5; try clear hx5; try clear ho5; try clear hn6; try clear hx6; try clear hn8; try clear hx8; try clear ho8; try clear hj9; try clear ox9; try clear hj9; try clear ox9; try clear hj10; try clear ox10; try clear hj9; try clear ox9; try clear hj9; try clear ox9; try clear hn4; try clear hx4; try clear ho4; try clear hn5; try clear hx5; try clear ho5; try clear hn6; try clear hx6)
          all_goals ((first | rfl | (exfalso; simp at hs; omega) | omega | (simp_all; done)))
        repeat' (first | refine wpL_seq ?_ | refine wpL_skip ?_ | refine wpL_label ?_ | refine wpL_scope ?_)
        refine wpL_cond rfl (fun hc7 => ?_) (fun hc7 => ?_)
        · repeat' (first | refine wpL_seq ?_ | refine wpL_skip ?_ | refine wpL_label ?_ | refine wpL_scope ?_)
          refine wpL_block fun k8 hn8 hx8 ho8 => ?_
          repeat' (first | refine wpL_seq ?_ | refine wpL_skip ?_ | refine wpL_label ?_ | refine wpL_scope ?_)
          refine wpL_region' [0, 4, 5, 6, 7, 8, 9] fun q hq => ?_
          simp -implicitDefEqProofs (disch := omega) only [go_sem, Int.reduceEq, Int.reduceLT, Int.reduceLE, Int.reduceToNat, Int.reduceNeg, Int.reduceAdd, Int.reduceSub, Nat.reduceEqDiff, Nat.reduceAdd, Nat.reduceMul, Nat.reduceLeDiff, Nat.reduceSub, ↓reduceIte, reduceCtorEq, hb5]
          repeat (refine And.intro (by omega) ?_)
          refine hq _ _ _ (by simp only [pickL, lk_cons, Nat.reduceEqDiff, ↓reduceIte]; exact rfl) ?_
          clear hq q
          repeat' (first | refine wpL_seq ?_ | refine wpL_skip ?_ | refine wpL_label ?_ | refine wpL_scope ?_)
          refine wpL_nil (hn8 _ _ ?_)
          repeat' (first | refine wpL_seq ?_ | refine wpL_skip ?_ | refine wpL_label ?_ | refine wpL_scope ?_)
          exact wpL_nil (hn6 (digN (s.drop i) - (m + 1)) _ _ (by omega) ⟨m + 1, by omega, by omega, rfl, by rw [hR, show i + (m + 1) = i + m + 1 by omega]; omega, rfl⟩)
        · cases hc7
      have hz : digN (s.drop (i + m)) = 0 ∧ (i + m < s.length → ∃ c, s[i + m]? = some c ∧ isDig c = false) := by
        by_cases hl : i + m < s.length
        · obtain ⟨c, hc⟩ := get_of_lt hl
          have hd : isDig c = false := by
            cases hh : isDig c with
            | false => rfl
            | true => exact absurd ⟨hl, by rw [hc]; simp [hh]⟩ hlt
          exact ⟨digN_not hc hd, fun _ => ⟨c, hc, hd⟩⟩
        · exact ⟨digN_nil (by omega), fun h => absurd h hl⟩
      obtain ⟨dN, hdN⟩ : ∃ dN, digN (s.drop i) = dN := ⟨_, rfl⟩
      rw [hz.1, hdN] at hR
      obtain rfl : dN = m := by omega
      rw [hdN] at hdl hD
      have hxd : (s.drop i)[dN]? = s[i + dN]? := by rw [List.getElem?_drop]
      have huv : unitAt (s.drop i) 109 = (decide (0 < dN) && decide (s[i + dN]? = some 109)) := by rw [unitAt, hdN, hxd]
      clear hm hR hlt
      have hex : ∀ e : Env, e = lk [(0, .str s), (4, .str [104, 109, 115]), (5, .rp [.int .i64 3600, .int .i64 60, .int .i64 1] 0), (6, .int .i64 n), (7, .int .i64 i), (8, .int .i64 (1 : Nat)), (9, .int .i64 (i + dN : Nat))] → k6 (.exit 2) e Heap.emp := by
        rintro e rfl
        refine hx6 _ _ _ (by simp) (hx5 _ _ ?_)
        by_cases hl : i + dN < s.length
        · obtain ⟨c, hc, hd⟩ := hz.2 hl
          rw [hc] at huv
          have hcu := u8lit c 109 _ rfl
          by_cases h0 : dN = 0
          · have hu : unitAt (s.drop i) 109 = false := by rw [huv]; simp [h0]
            have c1 : decide (((i + dN : Nat) : Int) > (i : Int)) = false := decide_eq_false (by omega)
            repeat' (first | refine wpL_seq ?_ | refine wpL_skip ?_ | refine wpL_label ?_ | refine wpL_scope ?_)
            refine wpL_drawV [0, 4, 5, 6, 7, 8, 9] 47 (.bool (false)) [0, 1, 2, 3, 4, 5, 6, 7, 8, 9, 10, 11, 12, 13, 14, 15, 16, 17] [] [] (by kernel_rfl) (by kernel_rfl) (by kernel_rfl) (by simp only [pickL, put, lk_cons, Int.reduceEq, Int.reduceLT, Int.reduceLE, Int.reduceToNat, Int.reduceNeg, Int.reduceAdd, Int.reduceSub, Nat.reduceEqDiff, Nat.reduceAdd, Nat.reduceMul, Nat.reduceLeDiff, Nat.reduceSub, ↓reduceIte, reduceCtorEq, if_true, if_false]; exact rfl) (by decide) ?_ ?_
            · simp -implicitDefEqProofs (disch := omega) only [go_sem, Int.reduceEq, Int.reduceLT, Int.reduceLE, Int.reduceToNat, Int.reduceNeg, Int.reduceAdd, Int.reduceSub, Nat.reduceEqDiff, Nat.reduceAdd, Nat.reduceMul, Nat.reduceLeDiff, Nat.reduceSub, ↓reduceIte, reduceCtorEq, c1, hb5]
              repeat' (first | (refine gN_split2 (fun hs => ?_) (fun hs => ?_) <;> simp -implicitDefEqProofs (disch := omega) only [go_sem, Int.reduceEq, Int.reduceLT, Int.reduceLE, Int.reduceToNat, Int.reduceNeg, Int.reduceAdd, Int.reduceSub, Nat.reduceEqDiff, Nat.reduceAdd, Nat.reduceMul, Nat.reduceLeDiff, Nat.reduceSub, ↓reduceIte, reduceCtorEq, hs, c1, hb5]) | simp -implicitDefEqProofs (disch := omega) only [go_sem, Int.reduceEq, Int.reduceLT, Int.reduceLE, Int.reduceToNat, Int.reduceNeg, Int.reduceAdd, Int.reduceSub, Nat.reduceEqDiff, Nat.reduceAdd, Nat.reduceMul, Nat.reduceLeDiff, Nat.reduceSub, ↓reduceIte, reduceCtorEq, c1, hb5] | refine And.intro (by omega) ?_)
              all_goals (try clear hK'; try clear hn1; try clear hx1; try clear ho1; try clear hn2; try clear hx2; try clear hn4; try clear hx4; try clear ho4; try clear hn5; try clear hx5; try clear ho5; try clear hn6; try clear hx6; try clear hn8; try clear hx8; try clear ho8; try clear hj9; try clear ox9; try clear hj9; try clear ox9; try clear hj10; try clear ox10; try clear hj9; try clear ox9; try clear hj9; try clear ox9; try clear hn4; try clear hx4; try clear ho4; try clear hn5; try clear hx5; try clear ho5; try clear hn6; try clear hx6; try clear hn8; try clear hx8; try clear ho8)
              all_goals ((first | rfl | omega | (simp_all; done) | (simp_all; omega)))
            repeat' (first | refine wpL_seq ?_ | refine wpL_skip ?_ | refine wpL_label ?_ | refine wpL_scope ?_)
            refine wpL_condK rfl fun j9 hj9 ox9 => ?_
            have tail9 : j9 .normal (lk [(0, .str s), (4, .str [104, 109, 115]), (5, .rp [.int .i64 3600, .int .i64 60, .int .i64 1] 0), (6, .int .i64 n), (7, .int .i64 i), (8, .int .i64 (1 : Nat))]) Heap.emp := by
              refine hj9 _ _ ?_
              repeat' (first | refine wpL_seq ?_ | refine wpL_skip ?_ | refine wpL_label ?_ | refine wpL_scope ?_)
              refine wpL_nil (hn4 _ _ ?_)
              repeat' (first | refine wpL_seq ?_ | refine wpL_skip ?_ | refine wpL_label ?_ | refine wpL_scope ?_)
              refine wpL_region' [0, 4, 5, 6, 7, 8] fun q hq => ?_
              simp -implicitDefEqProofs (disch := omega) only [go_sem, Int.reduceEq, Int.reduceLT, Int.reduceLE, Int.reduceToNat, Int.reduceNeg, Int.reduceAdd, Int.reduceSub, Nat.reduceEqDiff, Nat.reduceAdd, Nat.reduceMul, Nat.reduceLeDiff, Nat.reduceSub, ↓reduceIte, reduceCtorEq, hb5]
              repeat (refine And.intro (by omega) ?_)
              refine hq _ _ _ (by simp only [pickL, lk_cons, Nat.reduceEqDiff, ↓reduceIte]; exact rfl) ?_
              clear hq q
              repeat' (first | refine wpL_seq ?_ | refine wpL_skip ?_ | refine wpL_label ?_ | refine wpL_scope ?_)
              exact wpL_nil (hn2 (3 - (1 + 1)) _ _ (by omega) ⟨1 + 1, i, n, by omega, by omega, rfl, hi, hn0, hn1, by rw [if_neg (by simp [hu])] at hD; exact hD, rfl⟩)
            refine ⟨fun hc9 => ?_, fun hc9 => ?_⟩
            · cases hc9
            · refine wpL_pick' [0, 4, 5, 6, 7, 8] (by simp only [pickL, lk_cons, Nat.reduceEqDiff, ↓reduceIte]; exact rfl) ?_
              repeat' (first | refine wpL_seq ?_ | refine wpL_skip ?_ | refine wpL_label ?_ | refine wpL_scope ?_)
              repeat' (first | refine wpL_seq ?_ | refine wpL_skip ?_ | refine wpL_label ?_ | refine wpL_scope ?_)
              exact wpL_nil tail9
          · have c1 : decide (((i + dN : Nat) : Int) > (i : Int)) = true := decide_eq_true (by omega)
            have c2 : decide (((i + dN : Nat) : Int) < (s.length : Int)) = true := decide_eq_true (by omega)
            by_cases hcc : c = 109
            · have hu : unitAt (s.drop i) 109 = true := by rw [huv]; simp [h0, hcc]; omega
              have c3 : decide ((c.toNat : Int) = (109 : UInt8).toNat) = true := by rw [hcu]; exact decide_eq_true hcc
              subst hcc
              repeat' (first | refine wpL_seq ?_ | refine wpL_skip ?_ | refine wpL_label ?_ | refine wpL_scope ?_)
              refine wpL_drawV [0, 4, 5, 6, 7, 8, 9] 47 (.bool (true)) [0, 1, 2, 3, 4, 5, 6, 7, 8, 9, 10, 11, 12, 13, 14, 15, 16, 17] [] [] (by kernel_rfl) (by kernel_rfl) (by kernel_rfl) (by simp only [pickL, put, lk_cons, Int.reduceEq, Int.reduceLT, Int.reduceLE, Int.reduceToNat, Int.reduceNeg, Int.reduceAdd, Int.reduceSub, Nat.reduceEqDiff, Nat.reduceAdd, Nat.reduceMul, Nat.reduceLeDiff, Nat.reduceSub, ↓reduceIte, reduceCtorEq, if_true, if_false]; exact rfl) (by decide) ?_ ?_
              · simp -implicitDefEqProofs (disch := omega) only [go_sem, Int.reduceEq, Int.reduceLT, Int.reduceLE, Int.reduceToNat, Int.reduceNeg, Int.reduceAdd, Int.reduceSub, Nat.reduceEqDiff, Nat.reduceAdd, Nat.reduceMul, Nat.reduceLeDiff, Nat.reduceSub, ↓reduceIte, reduceCtorEq, c1, c2, hc, hb5]
                repeat' (first | (refine gN_split2 (fun hs => ?_) (fun hs => ?_) <;> simp -implicitDefEqProofs (disch := omega) only [go_sem, Int.reduceEq, Int.reduceLT, Int.reduceLE, Int.reduceToNat, Int.reduceNeg, Int.reduceAdd, Int.reduceSub, Nat.reduceEqDiff, Nat.reduceAdd, Nat.reduceMul, Nat.reduceLeDiff, Nat.reduceSub, ↓reduceIte, reduceCtorEq, hs, c1, c2, hc, hb5]) | simp -implicitDefEqProofs (disch := omega) only [go_sem, Int.reduceEq, Int.reduceLT, Int.reduceLE, Int.reduceToNat, Int.reduceNeg, Int.reduceAdd, Int.reduceSub, Nat.reduceEqDiff, Nat.reduceAdd, Nat.reduceMul, Nat.reduceLeDiff, Nat.reduceSub, ↓reduceIte, reduceCtorEq, c1, c2, hc, hb5] | refine And.intro (by omega) ?_)
                all_goals (try clear hK'; try clear hn1; try clear hx1; try clear ho1; try clear hn2; try clear hx2; try clear hn4; try clear hx4; try clear ho4; try clear hn5; try clear hx5; try clear ho5; try clear hn6; try clear hx6; try clear hn8; try clear hx8; try clear ho8; try clear hj9; try clear ox9; try clear hj9; try clear ox9; try clear hj10; try clear ox10; try clear hj9; try clear ox9; try clear hj9; try clear ox9; try clear hn4; try clear hx4; try clear ho4; try clear hn5; try clear hx5; try clear ho5; try clear hn6; try clear hx6; try clear hn8; try clear hx8; try clear ho8; try clear hj9; try clear ox9)
                all_goals ((first | rfl | omega | (simp_all; done) | (simp_all; omega)))
              repeat' (first | refine wpL_seq ?_ | refine wpL_skip ?_ | refine wpL_label ?_ | refine wpL_scope ?_)
              refine wpL_condK rfl fun j9 hj9 ox9 => ?_
              have hh : huge = 1099511627776 := rfl
              have q30 := f30_digits ((s.drop i).take dN) 10 false (by simp; omega) (.inl rfl)
              have hdg := digits_in 10 false (by omega) ((s.drop i).take dN)
              rw [if_pos hu] at hD
              generalize digitsL 10 false ((s.drop i).take dN) = dd at *
              have e1 : (i + dN) - i = dN := by omega
              have tail9 : ∀ z, z = min (n + dd.1 * 60) huge → j9 .normal (lk [(0, .str s), (4, .str [104, 109, 115]), (5, .rp [.int .i64 3600, .int .i64 60, .int .i64 1] 0), (6, .int .i64 z), (7, .int .i64 (i + dN + 1 : Nat)), (8, .int .i64 (1 : Nat))]) Heap.emp := by
                rintro z rfl
                refine hj9 _ _ ?_
                repeat' (first | refine wpL_seq ?_ | refine wpL_skip ?_ | refine wpL_label ?_ | refine wpL_scope ?_)
                refine wpL_nil (hn4 _ _ ?_)
                repeat' (first | refine wpL_seq ?_ | refine wpL_skip ?_ | refine wpL_label ?_ | refine wpL_scope ?_)
                refine wpL_region' [0, 4, 5, 6, 7, 8] fun q hq => ?_
                simp -implicitDefEqProofs (disch := omega) only [go_sem, Int.reduceEq, Int.reduceLT, Int.reduceLE, Int.reduceToNat, Int.reduceNeg, Int.reduceAdd, Int.reduceSub, Nat.reduceEqDiff, Nat.reduceAdd, Nat.reduceMul, Nat.reduceLeDiff, Nat.reduceSub, ↓reduceIte, reduceCtorEq, hb5]
                repeat (refine And.intro (by omega) ?_)
                refine hq _ _ _ (by simp only [pickL, lk_cons, Nat.reduceEqDiff, ↓reduceIte]; exact rfl) ?_
                clear hq q
                repeat' (first | refine wpL_seq ?_ | refine wpL_skip ?_ | refine wpL_label ?_ | refine wpL_scope ?_)
                exact wpL_nil (hn2 (3 - (1 + 1)) _ _ (by omega) ⟨1 + 1, i + dN + 1, min (n + dd.1 * 60) huge, by omega, by omega, rfl, by omega, by omega, by omega, by rw [List.drop_drop, show i + (dN + 1) = i + dN + 1 by omega] at hD; rw [← hD, decide_eq_true (show 0 < i + dN + 1 by omega)], rfl⟩)
              refine ⟨fun hc9 => ?_, fun hc9 => ?_⟩
              · repeat' (first | refine wpL_seq ?_ | refine wpL_skip ?_ | refine wpL_label ?_ | refine wpL_scope ?_)
                refine wpL_region' [0, 4, 5, 6, 8, 9, 10] fun q hq => ?_
                simp -implicitDefEqProofs (disch := omega) only [go_sem, Int.reduceEq, Int.reduceLT, Int.reduceLE, Int.reduceToNat, Int.reduceNeg, Int.reduceAdd, Int.reduceSub, Nat.reduceEqDiff, Nat.reduceAdd, Nat.reduceMul, Nat.reduceLeDiff, Nat.reduceSub, ↓reduceIte, reduceCtorEq, e1, Int.toNat_natCast, hb5]
                repeat (refine And.intro (by omega) ?_)
                refine gN_callP (q30) ?_
                simp -implicitDefEqProofs (disch := omega) only [go_sem, Int.reduceEq, Int.reduceLT, Int.reduceLE, Int.reduceToNat, Int.reduceNeg, Int.reduceAdd, Int.reduceSub, Nat.reduceEqDiff, Nat.reduceAdd, Nat.reduceMul, Nat.reduceLeDiff, Nat.reduceSub, ↓reduceIte, reduceCtorEq, e1, Int.toNat_natCast, hb5]
                repeat (refine And.intro (by omega) ?_)
                refine hq _ _ _ (by simp only [pickL, lk_cons, Nat.reduceEqDiff, ↓reduceIte]; exact rfl) ?_
                clear hq q
                repeat' (first | refine wpL_seq ?_ | refine wpL_skip ?_ | refine wpL_label ?_ | refine wpL_scope ?_)
                refine wpL_region' [0, 4, 5, 6, 8, 9] fun q hq => ?_
                simp -implicitDefEqProofs (disch := omega) only [go_sem, Int.reduceEq, Int.reduceLT, Int.reduceLE, Int.reduceToNat, Int.reduceNeg, Int.reduceAdd, Int.reduceSub, Nat.reduceEqDiff, Nat.reduceAdd, Nat.reduceMul, Nat.reduceLeDiff, Nat.reduceSub, ↓reduceIte, reduceCtorEq, hb5]
                repeat (refine And.intro (by omega) ?_)
                refine hq _ _ _ (by simp only [pickL, lk_cons, Nat.reduceEqDiff, ↓reduceIte]; exact rfl) ?_
                clear hq q
                repeat' (first | refine wpL_seq ?_ | refine wpL_skip ?_ | refine wpL_label ?_ | refine wpL_scope ?_)
                refine wpL_region' [0, 4, 5, 6, 8, 9, 64] fun q hq => ?_
                simp -implicitDefEqProofs (disch := omega) only [go_sem, Int.reduceEq, Int.reduceLT, Int.reduceLE, Int.reduceToNat, Int.reduceNeg, Int.reduceAdd, Int.reduceSub, Nat.reduceEqDiff, Nat.reduceAdd, Nat.reduceMul, Nat.reduceLeDiff, Nat.reduceSub, ↓reduceIte, reduceCtorEq, hb5]
                repeat (refine And.intro (by omega) ?_)
                refine hq _ _ _ (by simp only [pickL, lk_cons, Nat.reduceEqDiff, ↓reduceIte]; exact rfl) ?_
                clear hq q
                repeat' (first | refine wpL_seq ?_ | refine wpL_skip ?_ | refine wpL_label ?_ | refine wpL_scope ?_)
                refine wpL_condK rfl fun j10 hj10 ox10 => ?_
                have tail10 : ∀ z, z = min (n + dd.1 * 60) huge → j10 .normal (lk [(0, .str s), (4, .str [104, 109, 115]), (5, .rp [.int .i64 3600, .int .i64 60, .int .i64 1] 0), (6, .int .i64 z), (8, .int .i64 (1 : Nat)), (9, .int .i64 (i + dN : Nat))]) Heap.emp := by
                  intro z hz
                  refine hj10 _ _ ?_
                  repeat' (first | refine wpL_seq ?_ | refine wpL_skip ?_ | refine wpL_label ?_ | refine wpL_scope ?_)
                  refine wpL_region' [0, 4, 5, 6, 7, 8] fun q hq => ?_
                  simp -implicitDefEqProofs (disch := omega) only [go_sem, Int.reduceEq, Int.reduceLT, Int.reduceLE, Int.reduceToNat, Int.reduceNeg, Int.reduceAdd, Int.reduceSub, Nat.reduceEqDiff, Nat.reduceAdd, Nat.reduceMul, Nat.reduceLeDiff, Nat.reduceSub, ↓reduceIte, reduceCtorEq, hb5]
                  repeat (refine And.intro (by omega) ?_)
                  refine hq _ _ _ (by simp only [pickL, lk_cons, Nat.reduceEqDiff, ↓reduceIte]; exact rfl) ?_
                  clear hq q
                  repeat' (first | refine wpL_seq ?_ | refine wpL_skip ?_ | refine wpL_label ?_ | refine wpL_scope ?_)
                  exact wpL_nil (tail9 z hz)
                refine ⟨fun hc10 => ?_, fun hc10 => ?_⟩
                · have h10 := of_decide_eq_true hc10
                  repeat' (first | refine wpL_seq ?_ | refine wpL_skip ?_ | refine wpL_label ?_ | refine wpL_scope ?_)
                  refine wpL_region' [0, 4, 5, 6, 8, 9] fun q hq => ?_
                  simp -implicitDefEqProofs (disch := omega) only [go_sem, Int.reduceEq, Int.reduceLT, Int.reduceLE, Int.reduceToNat, Int.reduceNeg, Int.reduceAdd, Int.reduceSub, Nat.reduceEqDiff, Nat.reduceAdd, Nat.reduceMul, Nat.reduceLeDiff, Nat.reduceSub, ↓reduceIte, reduceCtorEq, hb5]
                  repeat (refine And.intro (by omega) ?_)
                  refine hq _ _ _ (by simp only [pickL, lk_cons, Nat.reduceEqDiff, ↓reduceIte]; exact rfl) ?_
                  clear hq q
                  repeat' (first | refine wpL_seq ?_ | refine wpL_skip ?_ | refine wpL_label ?_ | refine wpL_scope ?_)
                  exact wpL_nil (tail10 _ (by omega))
                · have h10 := of_decide_eq_false hc10
                  refine wpL_pick' [0, 4, 5, 6, 8, 9] (by simp only [pickL, lk_cons, Nat.reduceEqDiff, ↓reduceIte]; exact rfl) ?_
                  repeat' (first | refine wpL_seq ?_ | refine wpL_skip ?_ | refine wpL_label ?_ | refine wpL_scope ?_)
                  repeat' (first | refine wpL_seq ?_ | refine wpL_skip ?_ | refine wpL_label ?_ | refine wpL_scope ?_)
                  exact wpL_nil (tail10 _ (by omega))
              · cases hc9
            · have hu : unitAt (s.drop i) 109 = false := by rw [huv]; simp [hcc]
              have c3 : decide ((c.toNat : Int) = 109) = false := by have : decide ((c.toNat : Int) = 109) = decide (c = 109) := u8lit c 109 109 rfl; rw [this]; exact decide_eq_false hcc
              repeat' (first | refine wpL_seq ?_ | refine wpL_skip ?_ | refine wpL_label ?_ | refine wpL_scope ?_)
              refine wpL_drawV [0, 4, 5, 6, 7, 8, 9] 47 (.bool (false)) [0, 1, 2, 3, 4, 5, 6, 7, 8, 9, 10, 11, 12, 13, 14, 15, 16, 17] [] [] (by kernel_rfl) (by kernel_rfl) (by kernel_rfl) (by simp only [pickL, put, lk_cons, Int.reduceEq, Int.reduceLT, Int.reduceLE, Int.reduceToNat, Int.reduceNeg, Int.reduceAdd, Int.reduceSub, Nat.reduceEqDiff, Nat.reduceAdd, Nat.reduceMul, Nat.reduceLeDiff, Nat.reduceSub, ↓reduceIte, reduceCtorEq, if_true, if_false]; exact rfl) (by decide) ?_ ?_
              · simp -implicitDefEqProofs (disch := omega) only [go_sem, Int.reduceEq, Int.reduceLT, Int.reduceLE, Int.reduceToNat, Int.reduceNeg, Int.reduceAdd, Int.reduceSub, Nat.reduceEqDiff, Nat.reduceAdd, Nat.reduceMul, Nat.reduceLeDiff, Nat.reduceSub, ↓reduceIte, reduceCtorEq, c1, c2, hc, c3, hb5]
                repeat' (first | (refine gN_split2 (fun hs => ?_) (fun hs => ?_) <;> simp -implicitDefEqProofs (disch := omega) only [go_sem, Int.reduceEq, Int.reduceLT, Int.reduceLE, Int.reduceToNat, Int.reduceNeg, Int.reduceAdd, Int.reduceSub, Nat.reduceEqDiff, Nat.reduceAdd, Nat.reduceMul, Nat.reduceLeDiff, Nat.reduceSub, ↓reduceIte, reduceCtorEq, hs, c1, c2, hc, c3, hb5]) | simp -implicitDefEqProofs (disch := omega) only [go_sem, Int.reduceEq, Int.reduceLT, Int.reduceLE, Int.reduceToNat, Int.reduceNeg, Int.reduceAdd, Int.reduceSub, Nat.reduceEqDiff, Nat.reduceAdd, Nat.reduceMul, Nat.reduceLeDiff, Nat.reduceSub, ↓reduceIte, reduceCtorEq, c1, c2, hc, c3, hb5] | refine And.intro (by omega) ?_)
                all_goals (try clear hK'; try clear hn1; try clear hx1; try clear ho1; try clear hn2; try clear hx2; try clear hn4; try clear hx4; try clear ho4; try clear hn5; try clear hx5; try clear ho5; try clear hn6; try clear hx6; try clear hn8; try clear hx8; try clear ho8; try clear hj9; try clear ox9; try clear hj9; try clear ox9; try clear hj10; try clear ox10; try clear hj9; try clear ox9; try clear hj9; try clear ox9; try clear hn4; try clear hx4; try clear ho4; try clear hn5; try clear hx5; try clear ho5; try clear hn6; try clear hx6; try clear hn8; try clear hx8; try clear ho8; try clear hj9; try clear ox9; try clear hj9; try clear ox9; try clear hj10; try clear ox10)
                all_goals ((first | rfl | omega | (simp_all; done) | (simp_all; omega)))
              repeat' (first | refine wpL_seq ?_ | refine wpL_skip ?_ | refine wpL_label ?_ | refine wpL_scope ?_)
              refine wpL_condK rfl fun j9 hj9 ox9 => ?_
              have tail9 : j9 .normal (lk [(0, .str s), (4, .str [104, 109, 115]), (5, .rp [.int .i64 3600, .int .i64 60, .int .i64 1] 0), (6, .int .i64 n), (7, .int .i64 i), (8, .int .i64 (1 : Nat))]) Heap.emp := by
                refine hj9 _ _ ?_
                repeat' (first | refine wpL_seq ?_ | refine wpL_skip ?_ | refine wpL_label ?_ | refine wpL_scope ?_)
                refine wpL_nil (hn4 _ _ ?_)
                repeat' (first | refine wpL_seq ?_ | refine wpL_skip ?_ | refine wpL_label ?_ | refine wpL_scope ?_)
                refine wpL_region' [0, 4, 5, 6, 7, 8] fun q hq => ?_
                simp -implicitDefEqProofs (disch := omega) only [go_sem, Int.reduceEq, Int.reduceLT, Int.reduceLE, Int.reduceToNat, Int.reduceNeg, Int.reduceAdd, Int.reduceSub, Nat.reduceEqDiff, Nat.reduceAdd, Nat.reduceMul, Nat.reduceLeDiff, Nat.reduceSub, ↓reduceIte, reduceCtorEq, hb5]
                repeat (refine And.intro (by omega) ?_)
                refine hq _ _ _ (by simp only [pickL, lk_cons, Nat.reduceEqDiff, ↓reduceIte]; exact rfl) ?_
                clear hq q
                repeat' (first | refine wpL_seq ?_ | refine wpL_skip ?_ | refine wpL_label ?_ | refine wpL_scope ?_)
                exact wpL_nil (hn2 (3 - (1 + 1)) _ _ (by omega) ⟨1 + 1, i, n, by omega, by omega, rfl, hi, hn0, hn1, by rw [if_neg (by simp [hu])] at hD; exact hD, rfl⟩)
              refine ⟨fun hc9 => ?_, fun hc9 => ?_⟩
              · cases hc9
              · refine wpL_pick' [0, 4, 5, 6, 7, 8] (by simp only [pickL, lk_cons, Nat.reduceEqDiff, ↓reduceIte]; exact rfl) ?_
                repeat' (first | refine wpL_seq ?_ | refine wpL_skip ?_ | refine wpL_label ?_ | refine wpL_scope ?_)
                repeat' (first | refine wpL_seq ?_ | refine wpL_skip ?_ | refine wpL_label ?_ | refine wpL_scope ?_)
                exact wpL_nil tail9
        · have hu : unitAt (s.drop i) 109 = false := by rw [huv, List.getElem?_eq_none (by omega)]; simp
          have c2 : decide (((i + dN : Nat) : Int) < (s.length : Int)) = false := decide_eq_false (by omega)
          repeat' (first | refine wpL_seq ?_ | refine wpL_skip ?_ | refine wpL_label ?_ | refine wpL_scope ?_)
          refine wpL_drawV [0, 4, 5, 6, 7, 8, 9] 47 (.bool (false)) [0, 1, 2, 3, 4, 5, 6, 7, 8, 9, 10, 11, 12, 13, 14, 15, 16, 17] [] [] (by kernel_rfl) (by kernel_rfl) (by kernel_rfl) (by simp only [pickL, put, lk_cons, Int.reduceEq, Int.reduceLT, Int.reduceLE, Int.reduceToNat, Int.reduceNeg, Int.reduceAdd, Int.reduceSub, Nat.reduceEqDiff, Nat.reduceAdd, Nat.reduceMul, Nat.reduceLeDiff, Nat.reduceSub, ↓reduceIte, reduceCtorEq, if_true, if_false]; exact rfl) (by decide) ?_ ?_
          · simp -implicitDefEqProofs (disch := omega) only [go_sem, Int.reduceEq, Int.reduceLT, Int.reduceLE, Int.reduceToNat, Int.reduceNeg, Int.reduceAdd, Int.reduceSub, Nat.reduceEqDiff, Nat.reduceAdd, Nat.reduceMul, Nat.reduceLeDiff, Nat.reduceSub, ↓reduceIte, reduceCtorEq, c2, hb5]
            repeat' (first | (refine gN_split2 (fun hs => ?_) (fun hs => ?_) <;> simp -implicitDefEqProofs (disch := omega) only [go_sem, Int.reduceEq, Int.reduceLT, Int.reduceLE, Int.reduceToNat, Int.reduceNeg, Int.reduceAdd, Int.reduceSub, Nat.reduceEqDiff, Nat.reduceAdd, Nat.reduceMul, Nat.reduceLeDiff, Nat.reduceSub, ↓reduceIte, reduceCtorEq, hs, c2, hb5]) | simp -implicitDefEqProofs (disch := omega) only [go_sem, Int.reduceEq, Int.reduceLT, Int.reduceLE, Int.reduceToNat, Int.reduceNeg, Int.reduceAdd, Int.reduceSub, Nat.reduceEqDiff, Nat.reduceAdd, Nat.reduceMul, Nat.reduceLeDiff, Nat.reduceSub, ↓reduceIte, reduceCtorEq, c2, hb5] | refine And.intro (by omega) ?_)
            all_goals (try clear hK'; try clear hn1; try clear hx1; try clear ho1; try clear hn2; try clear hx2; try clear hn4; try clear hx4; try clear ho4; try clear hn5; try clear hx5; try clear ho5; try clear hn6; try clear hx6; try clear hn8; try clear hx8; try clear ho8; try clear hj9; try clear ox9; try clear hj9; try clear ox9; try clear hj10; try clear ox10; try clear hj9; try clear ox9; try clear hj9; try clear ox9; try clear hn4; try clear hx4; try clear ho4; try clear hn5; try clear hx5; try clear ho5; try clear hn6; try clear hx6; try clear hn8; try clear hx8; try clear ho8; try clear hj9; try clear ox9; try clear hj9; try clear ox9; try clear hj10; try clear ox10; try clear hj9; try clear ox9)
            all_goals ((first | rfl | omega | (simp_all; done) | (simp_all; omega)))
          repeat' (first | refine wpL_seq ?_ | refine wpL_skip ?_ | refine wpL_label ?_ | refine wpL_scope ?_)
          refine wpL_condK rfl fun j9 hj9 ox9 => ?_
          have tail9 : j9 .normal (lk [(0, .str s), (4, .str [104, 109, 115]), (5, .rp [.int .i64 3600, .int .i64 60, .int .i64 1] 0), (6, .int .i64 n), (7, .int .i64 i), (8, .int .i64 (1 : Nat))]) Heap.emp := by
            refine hj9 _ _ ?_
            repeat' (first | refine wpL_seq ?_ | refine wpL_skip ?_ | refine wpL_label ?_ | refine wpL_scope ?_)
            refine wpL_nil (hn4 _ _ ?_)
            repeat' (first | refine wpL_seq ?_ | refine wpL_skip ?_ | refine wpL_label ?_ | refine wpL_scope ?_)
            refine wpL_region' [0, 4, 5, 6, 7, 8] fun q hq => ?_
            simp -implicitDefEqProofs (disch := omega) only [go_sem, Int.reduceEq, Int.reduceLT, Int.reduceLE, Int.reduceToNat, Int.reduceNeg, Int.reduceAdd, Int.reduceSub, Nat.reduceEqDiff, Nat.reduceAdd, Nat.reduceMul, Nat.reduceLeDiff, Nat.reduceSub, ↓reduceIte, reduceCtorEq, hb5]
            repeat (refine And.intro (by omega) ?_)
            refine hq _ _ _ (by simp only [pickL, lk_cons, Nat.reduceEqDiff, ↓reduceIte]; exact rfl) ?_
            clear hq q
            repeat' (first | refine wpL_seq ?_ | refine wpL_skip ?_ | refine wpL_label ?_ | refine wpL_scope ?_)
            exact wpL_nil (hn2 (3 - (1 + 1)) _ _ (by omega) ⟨1 + 1, i, n, by omega, by omega, rfl, hi, hn0, hn1, by rw [if_neg (by simp [hu])] at hD; exact hD, rfl⟩)
          refine ⟨fun hc9 => ?_, fun hc9 => ?_⟩
          · cases hc9
          · refine wpL_pick' [0, 4, 5, 6, 7, 8] (by simp only [pickL, lk_cons, Nat.reduceEqDiff, ↓reduceIte]; exact rfl) ?_
            repeat' (first | refine wpL_seq ?_ | refine wpL_skip ?_ | refine wpL_label ?_ | refine wpL_scope ?_)
            repeat' (first | refine wpL_seq ?_ | refine wpL_skip ?_ | refine wpL_label ?_ | refine wpL_scope ?_)
            exact wpL_nil tail9
      by_cases hl : i + dN < s.length
      · obtain ⟨c, hc, hd⟩ := hz.2 hl
        have c2 : decide (((i + dN : Nat) : Int) < (s.length : Int)) = true := decide_eq_true (by omega)
        repeat' (first | refine wpL_seq ?_ | refine wpL_skip ?_ | refine wpL_label ?_ | refine wpL_scope ?_)
        refine wpL_regV [0, 4, 5, 6, 7, 8, 9] 27 (.bool false) (by simp only [pickL, put, lk_cons, Int.reduceEq, Int.reduceLT, Int.reduceLE, Int.reduceToNat, Int.reduceNeg, Int.reduceAdd, Int.reduceSub, Nat.reduceEqDiff, Nat.reduceAdd, Nat.reduceMul, Nat.reduceLeDiff, Nat.reduceSub, ↓reduceIte, reduceCtorEq, if_true, if_false]; exact rfl) (by decide) ?_ ?_
        · simp -implicitDefEqProofs (disch := omega) only [go_sem, Int.reduceEq, Int.reduceLT, Int.reduceLE, Int.reduceToNat, Int.reduceNeg, Int.reduceAdd, Int.reduceSub, Nat.reduceEqDiff, Nat.reduceAdd, Nat.reduceMul, Nat.reduceLeDiff, Nat.reduceSub, ↓reduceIte, reduceCtorEq, c2, hc, hd, hb5]
          repeat' (first | (refine gN_split2 (fun hs => ?_) (fun hs => ?_) <;> simp -implicitDefEqProofs (disch := omega) only [go_sem, Int.reduceEq, Int.reduceLT, Int.reduceLE, Int.reduceToNat, Int.reduceNeg, Int.reduceAdd, Int.reduceSub, Nat.reduceEqDiff, Nat.reduceAdd, Nat.reduceMul, Nat.reduceLeDiff, Nat.reduceSub, ↓reduceIte, reduceCtorEq, hs, c2, hc, hd, hb5]) | refine gN_callP (f55_digit c) ?_ | simp -implicitDefEqProofs (disch := omega) only [go_sem, Int.reduceEq, Int.reduceLT, Int.reduceLE, Int.reduceToNat, Int.reduceNeg, Int.reduceAdd, Int.reduceSub, Nat.reduceEqDiff, Nat.reduceAdd, Nat.reduceMul, Nat.reduceLeDiff, Nat.reduceSub, ↓reduceIte, reduceCtorEq, c2, hc, hd, hb5] | refine And.intro (by omega) ?_)
          all_goals (try clear hK'; try clear hn1; try clear hx1; try clear ho1; try clear hn2; try clear hx2; try clear hn4; try clear hx4; try clear ho4; try clear hn5; try clear hx5; try clear ho5; try clear hn6; try clear hx6; try clear hn8; try clear hx8; try clear ho8; try clear hj9; try clear ox9; try clear hj9; try clear ox9; try clear hj10; try clear ox10; try clear hj9; try clear ox9; try clear hj9; try clear ox9; try clear hn4; try clear hx4; try clear ho4; try clear hn5; try clear hx5; try clear ho5; try clear hn6; try clear hx6; try clear hn8; try clear hx8; try clear ho8; try clear hj9; try clear ox9; try clear hj9; try clear ox9; try clear hj10; try clear ox10; try clear hj9; try clear ox9; try clear hj9; try clear ox9)
          all_goals ((first | rfl | omega | (simp_all; done)))
        repeat' (first | refine wpL_seq ?_ | refine wpL_skip ?_ | refine wpL_label ?_ | refine wpL_scope ?_)
        refine wpL_cond rfl (fun hc7 => ?_) (fun hc7 => ?_)
        · cases hc7
        refine wpL_pick' [0, 4, 5, 6, 7, 8, 9] (by simp only [pickL, lk_cons, Nat.reduceEqDiff, ↓reduceIte]; exact rfl) ?_
        repeat' (first | refine wpL_seq ?_ | refine wpL_skip ?_ | refine wpL_label ?_ | refine wpL_scope ?_)
        repeat' (first | refine wpL_seq ?_ | refine wpL_skip ?_ | refine wpL_label ?_ | refine wpL_scope ?_)
        exact wpL_exit (hex _ rfl)
      · have c2 : decide (((i + dN : Nat) : Int) < (s.length : Int)) = false := decide_eq_false (by omega)
        repeat' (first | refine wpL_seq ?_ | refine wpL_skip ?_ | refine wpL_label ?_ | refine wpL_scope ?_)
        refine wpL_regV [0, 4, 5, 6, 7, 8, 9] 27 (.bool false) (by simp only [pickL, put, lk_cons, Int.reduceEq, Int.reduceLT, Int.reduceLE, Int.reduceToNat, Int.reduceNeg, Int.reduceAdd, Int.reduceSub, Nat.reduceEqDiff, Nat.reduceAdd, Nat.reduceMul, Nat.reduceLeDiff, Nat.reduceSub, ↓reduceIte, reduceCtorEq, if_true, if_false]; exact rfl) (by decide) ?_ ?_
        · simp -implicitDefEqProofs (disch := omega) only [go_sem, Int.reduceEq, Int.reduceLT, Int.reduceLE, Int.reduceToNat, Int.reduceNeg, Int.reduceAdd, Int.reduceSub, Nat.reduceEqDiff, Nat.reduceAdd, Nat.reduceMul, Nat.reduceLeDiff, Nat.reduceSub, ↓reduceIte, reduceCtorEq, c2, hb5]
          repeat' (first | (refine gN_split2 (fun hs => ?_) (fun hs => ?_) <;> simp -implicitDefEqProofs (disch := omega) only [go_sem, Int.reduceEq, Int.reduceLT, Int.reduceLE, Int.reduceToNat, Int.reduceNeg, Int.reduceAdd, Int.reduceSub, Nat.reduceEqDiff, Nat.reduceAdd, Nat.reduceMul, Nat.reduceLeDiff, Nat.reduceSub, ↓reduceIte, reduceCtorEq, hs, c2, hb5]) | simp -implicitDefEqProofs (disch := omega) only [go_sem, Int.reduceEq, Int.reduceLT, Int.reduceLE, Int.reduceToNat, Int.reduceNeg, Int.reduceAdd, Int.reduceSub, Nat.reduceEqDiff, Nat.reduceAdd, Nat.reduceMul, Nat.reduceLeDiff, Nat.reduceSub, ↓reduceIte, reduceCtorEq, c2, hb5] | refine And.intro (by omega) ?_)
          all_goals (try clear hK'; try clear hn1; try clear hx1; try clear ho1; try clear hn2; try clear hx2; try clear hn4; try clear hx4; try clear ho4; try clear hn5; try clear hx5; try clear ho5; try clear hn6; try clear hx6; try clear hn8; try clear hx8; try clear ho8; try clear hj9; try clear ox9; try clear hj9; try clear ox9; try clear hj10; try clear ox10; try clear hj9; try clear ox9; try clear hj9; try clear ox9; try clear hn4; try clear hx4; try clear ho4; try clear hn5; try clear hx5; try clear ho5; try clear hn6; try clear hx6; try clear hn8; try clear hx8; try clear ho8; try clear hj9; try clear ox9; try clear hj9; try clear ox9; try clear hj10; try clear ox10; try clear hj9; try clear ox9; try clear hj9; try clear ox9)
          all_goals ((first | rfl | omega | (simp_all; done)))
        repeat' (first | refine wpL_seq ?_ | refine wpL_skip ?_ | refine wpL_label ?_ | refine wpL_scope ?_)
        refine wpL_cond rfl (fun hc7 => ?_) (fun hc7 => ?_)
        · cases hc7
        refine wpL_pick' [0, 4, 5, 6, 7, 8, 9] (by simp only [pickL, lk_cons, Nat.reduceEqDiff, ↓reduceIte]; exact rfl) ?_
        repeat' (first | refine wpL_seq ?_ | refine wpL_skip ?_ | refine wpL_label ?_ | refine wpL_scope ?_)
        repeat' (first | refine wpL_seq ?_ | refine wpL_skip ?_ | refine wpL_label ?_ | refine wpL_scope ?_)
        exact wpL_exit (hex _ rfl)
    · rw [show units.drop 2 = (115, 1) :: units.drop 3 from rfl, durG] at hD
      repeat' (first | refine wpL_seq ?_ | refine wpL_skip ?_ | refine wpL_label ?_ | refine wpL_scope ?_)
      refine wpL_block fun k4 hn4 hx4 ho4 => ?_
      repeat' (first | refine wpL_seq ?_ | refine wpL_skip ?_ | refine wpL_label ?_ | refine wpL_scope ?_)
      refine wpL_region' [0, 4, 5, 6, 7, 8, 9] fun q hq => ?_
      simp -implicitDefEqProofs (disch := omega) only [go_sem, Int.reduceEq, Int.reduceLT, Int.reduceLE, Int.reduceToNat, Int.reduceNeg, Int.reduceAdd, Int.reduceSub, Nat.reduceEqDiff, Nat.reduceAdd, Nat.reduceMul, Nat.reduceLeDiff, Nat.reduceSub, ↓reduceIte, reduceCtorEq, hb5]
      repeat (refine And.intro (by omega) ?_)
      refine hq _ _ _ (by simp only [pickL, lk_cons, Nat.reduceEqDiff, ↓reduceIte]; exact rfl) ?_
      clear hq q
      repeat' (first | refine wpL_seq ?_ | refine wpL_skip ?_ | refine wpL_label ?_ | refine wpL_scope ?_)
      refine wpL_block fun k5 hn5 hx5 ho5 => ?_
      refine wpL_loop (fun j e h => ∃ m : Nat, m ≤ digN (s.drop i) ∧ j = digN (s.drop i) - m ∧ h = Heap.emp ∧ digN (s.drop i) = m + digN (s.drop (i + m)) ∧ e = lk [(0, .str s), (4, .str [104, 109, 115]), (5, .rp [.int .i64 3600, .int .i64 60, .int .i64 1] 0), (6, .int .i64 n), (7, .int .i64 i), (8, .int .i64 (2 : Nat)), (9, .int .i64 (i + m : Nat))]) (digN (s.drop i)) ⟨0, by omega, by omega, rfl, by simp, rfl⟩ ?_
      rintro j e h ⟨m, hm, rfl, rfl, hR, rfl⟩ k6 hn6 hx6
      have hdl := digN_le (s.drop i)
      rw [List.length_drop] at hdl
      by_cases hlt : i + m < s.length ∧ (s[i + m]?.map isDig) = some true
      · obtain ⟨c, hc⟩ := get_of_lt hlt.1
        have hdc : isDig c = true := by have := hlt.2; rw [hc] at this; simpa using this
        rw [drop_get hc, digN, if_pos hdc] at hR
        have hlt1 := hlt.1
        repeat' (first | refine wpL_seq ?_ | refine wpL_skip ?_ | refine wpL_label ?_ | refine wpL_scope ?_)
        refine wpL_regV [0, 4, 5, 6, 7, 8, 9] 27 (.bool true) (by simp only [pickL, put, lk_cons, Int.reduceEq, Int.reduceLT, Int.reduceLE, Int.reduceToNat, Int.reduceNeg, Int.reduceAdd, Int.reduceSub, Nat.reduceEqDiff, Nat.reduceAdd, Nat.reduceMul, Nat.reduceLeDiff, Nat.reduceSub, ↓reduceIte, reduceCtorEq, if_true, if_false]; exact rfl) (by decide) ?_ ?_
        · simp -implicitDefEqProofs (disch := omega) only [go_sem, Int.reduceEq, Int.reduceLT, Int.reduceLE, Int.reduceToNat, Int.reduceNeg, Int.reduceAdd, Int.reduceSub, Nat.reduceEqDiff, Nat.reduceAdd, Nat.reduceMul, Nat.reduceLeDiff, Nat.reduceSub, ↓reduceIte, reduceCtorEq, hc, hdc, hb5]
          repeat' (first | (refine gN_split2 (fun hs => ?_) (fun hs => ?_) <;> simp -implicitDefEqProofs (disch := omega) only [go_sem, Int.reduceEq, Int.reduceLT, Int.reduceLE, Int.reduceToNat, Int.reduceNeg, Int.reduceAdd, Int.reduceSub, Nat.reduceEqDiff, Nat.reduceAdd, Nat.reduceMul, Nat.reduceLeDiff, Nat.reduceSub, ↓reduceIte, reduceCtorEq, hs, hc, hdc, hb5]) | refine gN_callP (f55_digit c) ?_ | simp -implicitDefEqProofs (disch := omega) only [go_sem, Int.reduceEq, Int.reduceLT, Int.reduceLE, Int.reduceToNat, Int.reduceNeg, Int.reduceAdd, Int.reduceSub, Nat.reduceEqDiff, Nat.reduceAdd, Nat.reduceMul, Nat.reduceLeDiff, Nat.reduceSub, ↓reduceIte, reduceCtorEq, hc, hdc, hb5] | refine And.intro (by omega) ?_)
          all_goals (try clear hK'; try clear hn1; try clear hx1; try clear ho1; try clear hn2; try clear hx2; try clear hn4; try clear hx4; try clear ho4; try clear hn5; try clear hx5; try clear ho5; try clear hn6; try clear hx6; try clear hn8; try clear hx8; try clear ho8; try clear hj9; try clear ox9; try clear hj9; try clear ox9; try clear hj10; try clear ox10; try clear hj9; try clear ox9; try clear hj9; try clear ox9; try clear hn4; try clear hx4; try clear ho4; try clear hn5; try clear hx5; try clear ho5; try clear hn6; try clear hx6; try clear hn8; try clear hx8; try clear ho8; try clear hj9; try clear ox9; try clear hj9; try clear ox9; try clear hj10; try clear ox10; try clear hj9; try clear ox9; try clear hj9; try clear ox9; try clear hn4; try clear hx4; try clear ho4; try clear hn5; try clear hx5; try clear ho5; try clear hn6; try clear hx6)
          all_goals ((first | rfl | (exfalso; simp at hs; omega) | omega | (simp_all; done)))
        repeat' (first | refine wpL_seq ?_ | refine wpL_skip ?_ | refine wpL_label ?_ | refine wpL_scope ?_)
        refine wpL_cond rfl (fun hc7 => ?_) (fun hc7 => ?_)
        · repeat' (first | refine wpL_seq ?_ | refine wpL_skip ?_ | refine wpL_label ?_ | refine wpL_scope ?_)
          refine wpL_block fun k8 hn8 hx8 ho8 => ?_
          repeat' (first | refine wpL_seq ?_ | refine wpL_skip ?_ | refine wpL_label ?_ | refine wpL_scope ?_)
          refine wpL_region' [0, 4, 5, 6, 7, 8, 9] fun q hq => ?_
          simp -implicitDefEqProofs (disch := omega) only [go_sem, Int.reduceEq, Int.reduceLT, Int.reduceLE, Int.reduceToNat, Int.reduceNeg, Int.reduceAdd, Int.reduceSub, Nat.reduceEqDiff, Nat.reduceAdd, Nat.reduceMul, Nat.reduceLeDiff, Nat.reduceSub, ↓reduceIte, reduceCtorEq, hb5]
          repeat (refine And.intro (by omega) ?_)
          refine hq _ _ _ (by simp only [pickL, lk_cons, Nat.reduceEqDiff, ↓reduceIte]; exact rfl) ?_
          clear hq q
          repeat' (first | refine wpL_seq ?_ | refine wpL_skip ?_ | refine wpL_label ?_ | refine wpL_scope ?_)
          refine wpL_nil (hn8 _ _ ?_)
          repeat' (first | refine wpL_seq ?_ | refine wpL_skip ?_ | refine wpL_label ?_ | refine wpL_scope ?_)
          exact wpL_nil (hn6 (digN (s.drop i) - (m + 1)) _ _ (by omega) ⟨m + 1, by omega, by omega, rfl, by rw [hR, show i + (m + 1) = i + m + 1 by omega]; omega, rfl⟩)
        · cases hc7
      have hz : digN (s.drop (i + m)) = 0 ∧ (i + m < s.length → ∃ c, s[i + m]? = some c ∧ isDig c = false) := by
        by_cases hl : i + m < s.length
        · obtain ⟨c, hc⟩ := get_of_lt hl
          have hd : isDig c = false := by
            cases hh : isDig c with
            | false => rfl
            | true => exact absurd ⟨hl, by rw [hc]; simp [hh]⟩ hlt
          exact ⟨digN_not hc hd, fun _ => ⟨c, hc, hd⟩⟩
        · exact ⟨digN_nil (by omega), fun h => absurd h hl⟩
      obtain ⟨dN, hdN⟩ : ∃ dN, digN (s.drop i) = dN := ⟨_, rfl⟩
      rw [hz.1, hdN] at hR
      obtain rfl : dN = m := by omega
      rw [hdN] at hdl hD
      have hxd : (s.drop i)[dN]? = s[i + dN]? := by rw [List.getElem?_drop]
      have huv : unitAt (s.drop i) 115 = (decide (0 < dN) && decide (s[i + dN]? = some 115)) := by rw [unitAt, hdN, hxd]
      clear hm hR hlt
      have hex : ∀ e : Env, e = lk [(0, .str s), (4, .str [104, 109, 115]), (5, .rp [.int .i64 3600, .int .i64 60, .int .i64 1] 0), (6, .int .i64 n), (7, .int .i64 i), (8, .int .i64 (2 : Nat)), (9, .int .i64 (i + dN : Nat))] → k6 (.exit 2) e Heap.emp := by
        rintro e rfl
        refine hx6 _ _ _ (by simp) (hx5 _ _ ?_)
        by_cases hl : i + dN < s.length
        · obtain ⟨c, hc, hd⟩ := hz.2 hl
          rw [hc] at huv
          have hcu := u8lit c 115 _ rfl
          by_cases h0 : dN = 0
          · have hu : unitAt (s.drop i) 115 = false := by rw [huv]; simp [h0]
            have c1 : decide (((i + dN : Nat) : Int) > (i : Int)) = false := decide_eq_false (by omega)
            repeat' (first | refine wpL_seq ?_ | refine wpL_skip ?_ | refine wpL_label ?_ | refine wpL_scope ?_)
            refine wpL_drawV [0, 4, 5, 6, 7, 8, 9] 47 (.bool (false)) [0, 1, 2, 3, 4, 5, 6, 7, 8, 9, 10, 11, 12, 13, 14, 15, 16, 17] [] [] (by kernel_rfl) (by kernel_rfl) (by kernel_rfl) (by simp only [pickL, put, lk_cons, Int.reduceEq, Int.reduceLT, Int.reduceLE, Int.reduceToNat, Int.reduceNeg, Int.reduceAdd, Int.reduceSub, Nat.reduceEqDiff, Nat.reduceAdd, Nat.reduceMul, Nat.reduceLeDiff, Nat.reduceSub, ↓reduceIte, reduceCtorEq, if_true, if_false]; exact rfl) (by decide) ?_ ?_
            · simp -implicitDefEqProofs (disch := omega) only [go_sem, Int.reduceEq, Int.reduceLT, Int.reduceLE, Int.reduceToNat, Int.reduceNeg, Int.reduceAdd, Int.reduceSub, Nat.reduceEqDiff, Nat.reduceAdd, Nat.reduceMul, Nat.reduceLeDiff, Nat.reduceSub, ↓reduceIte, reduceCtorEq, c1, hb5]
              repeat' (first | (refine gN_split2 (fun hs => ?_) (fun hs => ?_) <;> simp -implicitDefEqProofs (disch := omega) only [go_sem, Int.reduceEq, Int.reduceLT, Int.reduceLE, Int.reduceToNat, Int.reduceNeg, Int.reduceAdd, Int.reduceSub, Nat.reduceEqDiff, Nat.reduceAdd, Nat.reduceMul, Nat.reduceLeDiff, Nat.reduceSub, ↓reduceIte, reduceCtorEq, hs, c1, hb5]) | simp -implicitDefEqProofs (disch := omega) only [go_sem, Int.reduceEq, Int.reduceLT, Int.reduceLE, Int.reduceToNat, Int.reduceNeg, Int.reduceAdd, Int.reduceSub, Nat.reduceEqDiff, Nat.reduceAdd, Nat.reduceMul, Nat.reduceLeDiff, Nat.reduceSub, ↓reduceIte, reduceCtorEq, c1, hb5] | refine And.intro (by omega) ?_)
              all_goals (try clear hK'; try clear hn1; try clear hx1; try clear ho1; try clear hn2; try clear hx2; try clear hn4; try clear hx4; try clear ho4; try clear hn5; try clear hx5; try clear ho5; try clear hn6; try clear hx6; try clear hn8; try clear hx8; try clear ho8; try clear hj9; try clear ox9; try clear hj9; try clear ox9; try clear hj10; try clear ox10; try clear hj9; try clear ox9; try clear hj9; try clear ox9; try clear hn4; try clear hx4; try clear ho4; try clear hn5; try clear hx5; try clear ho5; try clear hn6; try clear hx6; try clear hn8; try clear hx8; try clear ho8; try clear hj9; try clear ox9; try clear hj9; try clear ox9; try clear hj10; try clear ox10; try clear hj9; try clear ox9; try clear hj9; try clear ox9; try clear hn4; try clear hx4; try clear ho4; try clear hn5; try clear hx5; try clear ho5; try clear hn6; try clear hx6; try clear hn8; try clear hx8; try clear ho8)
              all_goals ((first | rfl | omega | (simp_all; done) | (simp_all; omega)))
            repeat' (first | refine wpL_seq ?_ | refine wpL_skip ?_ | refine wpL_label ?_ | refine wpL_scope ?_)
            refine wpL_condK rfl fun j9 hj9 ox9 => ?_
            have tail9 : j9 .normal (lk [(0, .str s), (4, .str [104, 109, 115]), (5, .rp [.int .i64 3600, .int .i64 60, .int .i64 1] 0), (6, .int .i64 n), (7, .int .i64 i), (8, .int .i64 (2 : Nat))]) Heap.emp := by
              refine hj9 _ _ ?_
              repeat' (first | refine wpL_seq ?_ | refine wpL_skip ?_ | refine wpL_label ?_ | refine wpL_scope ?_)
              refine wpL_nil (hn4 _ _ ?_)
              repeat' (first | refine wpL_seq ?_ | refine wpL_skip ?_ | refine wpL_label ?_ | refine wpL_scope ?_)
              refine wpL_region' [0, 4, 5, 6, 7, 8] fun q hq => ?_
              simp -implicitDefEqProofs (disch := omega) only [go_sem, Int.reduceEq, Int.reduceLT, Int.reduceLE, Int.reduceToNat, Int.reduceNeg, Int.reduceAdd, Int.reduceSub, Nat.reduceEqDiff, Nat.reduceAdd, Nat.reduceMul, Nat.reduceLeDiff, Nat.reduceSub, ↓reduceIte, reduceCtorEq, hb5]
              repeat (refine And.intro (by omega) ?_)
              refine hq _ _ _ (by simp only [pickL, lk_cons, Nat.reduceEqDiff, ↓reduceIte]; exact rfl) ?_
              clear hq q
              repeat' (first | refine wpL_seq ?_ | refine wpL_skip ?_ | refine wpL_label ?_ | refine wpL_scope ?_)
              exact wpL_nil (hn2 (3 - (2 + 1)) _ _ (by omega) ⟨2 + 1, i, n, by omega, by omega, rfl, hi, hn0, hn1, by rw [if_neg (by simp [hu])] at hD; exact hD, rfl⟩)
            refine ⟨fun hc9 => ?_, fun hc9 => ?_⟩
            · cases hc9
            · refine wpL_pick' [0, 4, 5, 6, 7, 8] (by simp only [pickL, lk_cons, Nat.reduceEqDiff, ↓reduceIte]; exact rfl) ?_
              repeat' (first | refine wpL_seq ?_ | refine wpL_skip ?_ | refine wpL_label ?_ | refine wpL_scope ?_)
              repeat' (first | refine wpL_seq ?_ | refine wpL_skip ?_ | refine wpL_label ?_ | refine wpL_scope ?_)
              exact wpL_nil tail9
          · have c1 : decide (((i + dN : Nat) : Int) > (i : Int)) = true := decide_eq_true (by omega)
            have c2 : decide (((i + dN : Nat) : Int) < (s.length : Int)) = true := decide_eq_true (by omega)
            by_cases hcc : c = 115
            · have hu : unitAt (s.drop i) 115 = true := by rw [huv]; simp [h0, hcc]; omega
              have c3 : decide ((c.toNat : Int) = (115 : UInt8).toNat) = true := by rw [hcu]; exact decide_eq_true hcc
              subst hcc
              repeat' (first | refine wpL_seq ?_ | refine wpL_skip ?_ | refine wpL_label ?_ | refine wpL_scope ?_)
              refine wpL_drawV [0, 4, 5, 6, 7, 8, 9] 47 (.bool (true)) [0, 1, 2, 3, 4, 5, 6, 7, 8, 9, 10, 11, 12, 13, 14, 15, 16, 17] [] [] (by kernel_rfl) (by kernel_rfl) (by kernel_rfl) (by simp only [pickL, put, lk_cons, Int.reduceEq, Int.reduceLT, Int.reduceLE, Int.reduceToNat, Int.reduceNeg, Int.reduceAdd, Int.reduceSub, Nat.reduceEqDiff, Nat.reduceAdd, Nat.reduceMul, Nat.reduceLeDiff, Nat.reduceSub, ↓reduceIte, reduceCtorEq, if_true, if_false]; exact rfl) (by decide) ?_ ?_
              · simp -implicitDefEqProofs (disch := omega) only [go_sem, Int.reduceEq, Int.reduceLT, Int.reduceLE, Int.reduceToNat, Int.reduceNeg, Int.reduceAdd, Int.reduceSub, Nat.reduceEqDiff, Nat.reduceAdd, Nat.reduceMul, Nat.reduceLeDiff, Nat.reduceSub, ↓reduceIte, reduceCtorEq, c1, c2, hc, hb5]
                repeat' (first | (refine gN_split2 (fun hs => ?_) (fun hs => ?_) <;> simp -implicitDefEqProofs (disch := omega) only [go_sem, Int.reduceEq, Int.reduceLT, Int.reduceLE, Int.reduceToNat, Int.reduceNeg, Int.reduceAdd, Int.reduceSub, Nat.reduceEqDiff, Nat.reduceAdd, Nat.reduceMul, Nat.reduceLeDiff, Nat.reduceSub, ↓reduceIte, reduceCtorEq, hs, c1, c2, hc, hb5]) | simp -implicitDefEqProofs (disch := omega) only [go_sem, Int.reduceEq, Int.reduceLT, Int.reduceLE, Int.reduceToNat, Int.reduceNeg, Int.reduceAdd, Int.reduceSub, Nat.reduceEqDiff, Nat.reduceAdd, Nat.reduceMul, Nat.reduceLeDiff, Nat.reduceSub, ↓reduceIte, reduceCtorEq, c1, c2, hc, hb5] | refine And.intro (by omega) ?_)
                all_goals (try clear hK'; try clear hn1; try clear hx1; try clear ho1; try clear hn2; try clear hx2; try clear hn4; try clear hx4; try clear ho4; try clear hn5; try clear hx5; try clear ho5; try clear hn6; try clear hx6; try clear hn8; try clear hx8; try clear ho8; try clear hj9; try clear ox9; try clear hj9; try clear ox9; try clear hj10; try clear ox10; try clear hj9; try clear ox9; try clear hj9; try clear ox9; try clear hn4; try clear hx4; try clear ho4; try clear hn5; try clear hx5; try clear ho5; try clear hn6; try clear hx6; try clear hn8; try clear hx8; try clear ho8; try clear hj9; try clear ox9; try clear hj9; try clear ox9; try clear hj10; try clear ox10; try clear hj9; try clear ox9; try clear hj9; try clear ox9; try clear hn4; try clear hx4; try clear ho4; try clear hn5; try clear hx5; try clear ho5; try clear hn6; try clear hx6; try clear hn8; try clear hx8; try clear ho8; try clear hj9; try clear ox9)
                all_goals ((first | rfl | omega | (simp_all; done) | (simp_all; omega)))
              repeat' (first | refine wpL_seq ?_ | refine wpL_skip ?_ | refine wpL_label ?_ | refine wpL_scope ?_)
              refine wpL_condK rfl fun j9 hj9 ox9 => ?_
              have hh : huge = 1099511627776 := rfl
              have q30 := f30_digits ((s.drop i).take dN) 10 false (by simp; omega) (.inl rfl)
              have hdg := digits_in 10 false (by omega) ((s.drop i).take dN)
              rw [if_pos hu] at hD
              generalize digitsL 10 false ((s.drop i).take dN) = dd at *
              have e1 : (i + dN) - i = dN := by omega
              have tail9 : ∀ z, z = min (n + dd.1 * 1) huge → j9 .normal (lk [(0, .str s), (4, .str [104, 109, 115]), (5, .rp [.int .i64 3600, .int .i64 60, .int .i64 1] 0), (6, .int .i64 z), (7, .int .i64 (i + dN + 1 : Nat)), (8, .int .i64 (2 : Nat))]) Heap.emp := by
                rintro z rfl
                refine hj9 _ _ ?_
                repeat' (first | refine wpL_seq ?_ | refine wpL_skip ?_ | refine wpL_label ?_ | refine wpL_scope ?_)
                refine wpL_nil (hn4 _ _ ?_)
                repeat' (first | refine wpL_seq ?_ | refine wpL_skip ?_ | refine wpL_label ?_ | refine wpL_scope ?_)
                refine wpL_region' [0, 4, 5, 6, 7, 8] fun q hq => ?_
                simp -implicitDefEqProofs (disch := omega) only [go_sem, Int.reduceEq, Int.reduceLT, Int.reduceLE, Int.reduceToNat, Int.reduceNeg, Int.reduceAdd, Int.reduceSub, Nat.reduceEqDiff, Nat.reduceAdd, Nat.reduceMul, Nat.reduceLeDiff, Nat.reduceSub, ↓reduceIte, reduceCtorEq, hb5]
                repeat (refine And.intro (by omega) ?_)
                refine hq _ _ _ (by simp only [pickL, lk_cons, Nat.reduceEqDiff, ↓reduceIte]; exact rfl) ?_
                clear hq q
                repeat' (first | refine wpL_seq ?_ | refine wpL_skip ?_ | refine wpL_label ?_ | refine wpL_scope ?_)
                exact wpL_nil (hn2 (3 - (2 + 1)) _ _ (by omega) ⟨2 + 1, i + dN + 1, min (n + dd.1 * 1) huge, by omega, by omega, rfl, by omega, by omega, by omega, by rw [List.drop_drop, show i + (dN + 1) = i + dN + 1 by omega] at hD; rw [← hD, decide_eq_true (show 0 < i + dN + 1 by omega)], rfl⟩)
              refine ⟨fun hc9 => ?_, fun hc9 => ?_⟩
              · repeat' (first | refine wpL_seq ?_ | refine wpL_skip ?_ | refine wpL_label ?_ | refine wpL_scope ?_)
                refine wpL_region' [0, 4, 5, 6, 8, 9, 10] fun q hq => ?_
                simp -implicitDefEqProofs (disch := omega) only [go_sem, Int.reduceEq, Int.reduceLT, Int.reduceLE, Int.reduceToNat, Int.reduceNeg, Int.reduceAdd, Int.reduceSub, Nat.reduceEqDiff, Nat.reduceAdd, Nat.reduceMul, Nat.reduceLeDiff, Nat.reduceSub, ↓reduceIte, reduceCtorEq, e1, Int.toNat_natCast, hb5]
                repeat (refine And.intro (by omega) ?_)
                refine gN_callP (q30) ?_
                simp -implicitDefEqProofs (disch := omega) only [go_sem, Int.reduceEq, Int.reduceLT, Int.reduceLE, Int.reduceToNat, Int.reduceNeg, Int.reduceAdd, Int.reduceSub, Nat.reduceEqDiff, Nat.reduceAdd, Nat.reduceMul, Nat.reduceLeDiff, Nat.reduceSub, ↓reduceIte, reduceCtorEq, e1, Int.toNat_natCast, hb5]
                repeat (refine And.intro (by omega) ?_)
                refine hq _ _ _ (by simp only [pickL, lk_cons, Nat.reduceEqDiff, ↓reduceIte]; exact rfl) ?_
                clear hq q
                repeat' (first | refine wpL_seq ?_ | refine wpL_skip ?_ | refine wpL_label ?_ | refine wpL_scope ?_)
                refine wpL_region' [0, 4, 5, 6, 8, 9] fun q hq => ?_
                simp -implicitDefEqProofs (disch := omega) only [go_sem, Int.reduceEq, Int.reduceLT, Int.reduceLE, Int.reduceToNat, Int.reduceNeg, Int.reduceAdd, Int.reduceSub, Nat.reduceEqDiff, Nat.reduceAdd, Nat.reduceMul, Nat.reduceLeDiff, Nat.reduceSub, ↓reduceIte, reduceCtorEq, hb5]
                repeat (refine And.intro (by omega) ?_)
                refine hq _ _ _ (by simp only [pickL, lk_cons, Nat.reduceEqDiff, ↓reduceIte]; exact rfl) ?_
                clear hq q
                repeat' (first | refine wpL_seq ?_ | refine wpL_skip ?_ | refine wpL_label ?_ | refine wpL_scope ?_)
                refine wpL_region' [0, 4, 5, 6, 8, 9, 64] fun q hq => ?_
                simp -implicitDefEqProofs (disch := omega) only [go_sem, Int.reduceEq, Int.reduceLT, Int.reduceLE, Int.reduceToNat, Int.reduceNeg, Int.reduceAdd, Int.reduceSub, Nat.reduceEqDiff, Nat.reduceAdd, Nat.reduceMul, Nat.reduceLeDiff, Nat.reduceSub, ↓reduceIte, reduceCtorEq, hb5]
                repeat (refine And.intro (by omega) ?_)
                refine hq _ _ _ (by simp only [pickL, lk_cons, Nat.reduceEqDiff, ↓reduceIte]; exact rfl) ?_
                clear hq q
                repeat' (first | refine wpL_seq ?_ | refine wpL_skip ?_ | refine wpL_label ?_ | refine wpL_scope ?_)
                refine wpL_condK rfl fun j10 hj10 ox10 => ?_
                have tail10 : ∀ z, z = min (n + dd.1 * 1) huge → j10 .normal (lk [(0, .str s), (4, .str [104, 109, 115]), (5, .rp [.int .i64 3600, .int .i64 60, .int .i64 1] 0), (6, .int .i64 z), (8, .int .i64 (2 : Nat)), (9, .int .i64 (i + dN : Nat))]) Heap.emp := by
                  intro z hz
                  refine hj10 _ _ ?_
                  repeat' (first | refine wpL_seq ?_ | refine wpL_skip ?_ | refine wpL_label ?_ | refine wpL_scope ?_)
                  refine wpL_region' [0, 4, 5, 6, 7, 8] fun q hq => ?_
                  simp -implicitDefEqProofs (disch := omega) only [go_sem, Int.reduceEq, Int.reduceLT, Int.reduceLE, Int.reduceToNat, Int.reduceNeg, Int.reduceAdd, Int.reduceSub, Nat.reduceEqDiff, Nat.reduceAdd, Nat.reduceMul, Nat.reduceLeDiff, Nat.reduceSub, ↓reduceIte, reduceCtorEq, hb5]
                  repeat (refine And.intro (by omega) ?_)
                  refine hq _ _ _ (by simp only [pickL, lk_cons, Nat.reduceEqDiff, ↓reduceIte]; exact rfl) ?_
                  clear hq q
                  repeat' (first | refine wpL_seq ?_ | refine wpL_skip ?_ | refine wpL_label ?_ | refine wpL_scope ?_)
                  exact wpL_nil (tail9 z hz)
                refine ⟨fun hc10 => ?_, fun hc10 => ?_⟩
                · have h10 := of_decide_eq_true hc10
                  repeat' (first | refine wpL_seq ?_ | refine wpL_skip ?_ | refine wpL_label ?_ | refine wpL_scope ?_)
                  refine wpL_region' [0, 4, 5, 6, 8, 9] fun q hq => ?_
                  simp -implicitDefEqProofs (disch := omega) only [go_sem, Int.reduceEq, Int.reduceLT, Int.reduceLE, Int.reduceToNat, Int.reduceNeg, Int.reduceAdd, Int.reduceSub, Nat.reduceEqDiff, Nat.reduceAdd, Nat.reduceMul, Nat.reduceLeDiff, Nat.reduceSub, ↓reduceIte, reduceCtorEq, hb5]
                  repeat (refine And.intro (by omega) ?_)
                  refine hq _ _ _ (by simp only [pickL, lk_cons, Nat.reduceEqDiff, ↓reduceIte]; exact rfl) ?_
                  clear hq q
                  repeat' (first | refine wpL_seq ?_ | refine wpL_skip ?_ | refine wpL_label ?_ | refine wpL_scope ?_)
                  exact wpL_nil (tail10 _ (by omega))
                · have h10 := of_decide_eq_false hc10
                  refine wpL_pick' [0, 4, 5, 6, 8, 9] (by simp only [pickL, lk_cons, Nat.reduceEqDiff, ↓reduceIte]; exact rfl) ?_
                  repeat' (first | refine wpL_seq ?_ | refine wpL_skip ?_ | refine wpL_label ?_ | refine wpL_scope ?_)
                  repeat' (first | refine wpL_seq ?_ | refine wpL_skip ?_ | refine wpL_label ?_ | refine wpL_scope ?_)
                  exact wpL_nil (tail10 _ (by omega))
              · cases hc9
            · have hu : unitAt (s.drop i) 115 = false := by rw [huv]; simp [hcc]
              have c3 : decide ((c.toNat : Int) = 115) = false := by have : decide ((c.toNat : Int) = 115) = decide (c = 115) := u8lit c 115 115 rfl; rw [this]; exact decide_eq_false hcc
              repeat' (first | refine wpL_seq ?_ | refine wpL_skip ?_ | refine wpL_label ?_ | refine wpL_scope ?_)
              refine wpL_drawV [0, 4, 5, 6, 7, 8, 9] 47 (.bool (false)) [0, 1, 2, 3, 4, 5, 6, 7, 8, 9, 10, 11, 12, 13, 14, 15, 16, 17] [] [] (by kernel_rfl) (by kernel_rfl) (by kernel_rfl) (by simp only [pickL, put, lk_cons, Int.reduceEq, Int.reduceLT, Int.reduceLE, Int.reduceToNat, Int.reduceNeg, Int.reduceAdd, Int.reduceSub, Nat.reduceEqDiff, Nat.reduceAdd, Nat.reduceMul, Nat.reduceLeDiff, Nat.reduceSub, ↓reduceIte, reduceCtorEq, if_true, if_false]; exact rfl) (by decide) ?_ ?_
              · simp -implicitDefEqProofs (disch := omega) only [go_sem, Int.reduceEq, Int.reduceLT, Int.reduceLE, Int.reduceToNat, Int.reduceNeg, Int.reduceAdd, Int.reduceSub, Nat.reduceEqDiff, Nat.reduceAdd, Nat.reduceMul, Nat.reduceLeDiff, Nat.reduceSub, ↓reduceIte, reduceCtorEq, c1, c2, hc, c3, hb5]
                repeat' (first | (refine gN_split2 (fun hs => ?_) (fun hs => ?_) <;> simp -implicitDefEqProofs (disch := omega) only [go_sem, Int.reduceEq, Int.reduceLT, Int.reduceLE, Int.reduceToNat, Int.reduceNeg, Int.reduceAdd, Int.reduceSub, Nat.reduceEqDiff, Nat.reduceAdd, Nat.reduceMul, Nat.reduceLeDiff, Nat.reduceSub, ↓reduceIte, reduceCtorEq, hs, c1, c2, hc, c3, hb5]) | simp -implicitDefEqProofs (disch := omega) only [go_sem, Int.reduceEq, Int.reduceLT, Int.reduceLE, Int.reduceToNat, Int.reduceNeg, Int.reduceAdd, Int.reduceSub, Nat.reduceEqDiff, Nat.reduceAdd, Nat.reduceMul, Nat.reduceLeDiff, Nat.reduceSub, ↓reduceIte, reduceCtorEq, c1, c2, hc, c3, hb5] | refine And.intro (by omega) ?_)
                all_goals (try clear hK'; try clear hn1; try clear hx1; try clear ho1; try clear hn2; try clear hx2; try clear hn4; try clear hx4; try clear ho4; try clear hn5; try clear hx5; try clear ho5; try clear hn6; try clear hx6; try clear hn8; try clear hx8; try clear ho8; try clear hj9; try clear ox9; try clear hj9; try clear ox9; try clear hj10; try clear ox10; try clear hj9; try clear ox9; try clear hj9; try clear ox9; try clear hn4; try clear hx4; try clear ho4; try clear hn5; try clear hx5; try clear ho5; try clear hn6; try clear hx6; try clear hn8; try clear hx8; try clear ho8; try clear hj9; try clear ox9; try clear hj9; try clear ox9; try clear hj10; try clear ox10; try clear hj9; try clear ox9; try clear hj9; try clear ox9; try clear hn4; try clear hx4; try clear ho4; try clear hn5; try clear hx5; try clear ho5; try clear hn6; try clear hx6; try clear hn8; try clear hx8; try clear ho8; try clear hj9; try clear ox9; try clear hj9; try clear ox9; try clear hj10; try clear ox10)
                all_goals ((first | rfl | omega | (simp_all; done) | (simp_all; omega)))
              repeat' (first | refine wpL_seq ?_ | refine wpL_skip ?_ | refine wpL_label ?_ | refine wpL_scope ?_)
              refine wpL_condK rfl fun j9 hj9 ox9 => ?_
              have tail9 : j9 .normal (lk [(0, .str s), (4, .str [104, 109, 115]), (5, .rp [.int .i64 3600, .int .i64 60, .int .i64 1] 0), (6, .int .i64 n), (7, .int .i64 i), (8, .int .i64 (2 : Nat))]) Heap.emp := by
                refine hj9 _ _ ?_
                repeat' (first | refine wpL_seq ?_ | refine wpL_skip ?_ | refine wpL_label ?_ | refine wpL_scope ?_)
                refine wpL_nil (hn4 _ _ ?_)
                repeat' (first | refine wpL_seq ?_ | refine wpL_skip ?_ | refine wpL_label ?_ | refine wpL_scope ?_)
                refine wpL_region' [0, 4, 5, 6, 7, 8] fun q hq => ?_
                simp -implicitDefEqProofs (disch := omega) only [go_sem, Int.reduceEq, Int.reduceLT, Int.reduceLE, Int.reduceToNat, Int.reduceNeg, Int.reduceAdd, Int.reduceSub, Nat.reduceEqDiff, Nat.reduceAdd, Nat.reduceMul, Nat.reduceLeDiff, Nat.reduceSub, ↓reduceIte, reduceCtorEq, hb5]
                repeat (refine And.intro (by omega) ?_)
                refine hq _ _ _ (by simp only [pickL, lk_cons, Nat.reduceEqDiff, ↓reduceIte]; exact rfl) ?_
                clear hq q
                repeat' (first | refine wpL_seq ?_ | refine wpL_skip ?_ | refine wpL_label ?_ | refine wpL_scope ?_)
                exact wpL_nil (hn2 (3 - (2 + 1)) _ _ (by omega) ⟨2 + 1, i, n, by omega, by omega, rfl, hi, hn0, hn1, by rw [if_neg (by simp [hu])] at hD; exact hD, rfl⟩)
              refine ⟨fun hc9 => ?_, fun hc9 => ?_⟩
              · cases hc9
              · refine wpL_pick' [0, 4, 5, 6, 7, 8] (by simp only [pickL, lk_cons, Nat.reduceEqDiff, ↓reduceIte]; exact rfl) ?_
                repeat' (first | refine wpL_seq ?_ | refine wpL_skip ?_ | refine wpL_label ?_ | refine wpL_scope ?_)
                repeat' (first | refine wpL_seq ?_ | refine wpL_skip ?_ | refine wpL_label ?_ | refine wpL_scope ?_)
                exact wpL_nil tail9
        · have hu : unitAt (s.drop i) 115 = false := by rw [huv, List.getElem?_eq_none (by omega)]; simp
          have c2 : decide (((i + dN : Nat) : Int) < (s.length : Int)) = false := decide_eq_false (by omega)
          repeat' (first | refine wpL_seq ?_ | refine wpL_skip ?_ | refine wpL_label ?_ | refine wpL_scope ?_)
          refine wpL_drawV [0, 4, 5, 6, 7, 8, 9] 47 (.bool (false)) [0, 1, 2, 3, 4, 5, 6, 7, 8, 9, 10, 11, 12, 13, 14, 15, 16, 17] [] [] (by kernel_rfl) (by kernel_rfl) (by kernel_rfl) (by simp only [pickL, put, lk_cons, Int.reduceEq, Int.reduceLT, Int.reduceLE, Int.reduceToNat, Int.reduceNeg, Int.reduceAdd, Int.reduceSub, Nat.reduceEqDiff, Nat.reduceAdd, Nat.reduceMul, Nat.reduceLeDiff, Nat.reduceSub, ↓reduceIte, reduceCtorEq, if_true, if_false]; exact rfl) (by decide) ?_ ?_
          · simp -implicitDefEqProofs (disch := omega) only [go_sem, Int.reduceEq, Int.reduceLT, Int.reduceLE, Int.reduceToNat, Int.reduceNeg, Int.reduceAdd, Int.reduceSub, Nat.reduceEqDiff, Nat.reduceAdd, Nat.reduceMul, Nat.reduceLeDiff, Nat.reduceSub, ↓reduceIte, reduceCtorEq, c2, hb5]
            repeat' (first | (refine gN_split2 (fun hs => ?_) (fun hs => ?_) <;> simp -implicitDefEqProofs (disch := omega) only [go_sem, Int.reduceEq, Int.reduceLT, Int.reduceLE, Int.reduceToNat, Int.reduceNeg, Int.reduceAdd, Int.reduceSub, Nat.reduceEqDiff, Nat.reduceAdd, Nat.reduceMul, Nat.reduceLeDiff, Nat.reduceSub, ↓reduceIte, reduceCtorEq, hs, c2, hb5]) | simp -implicitDefEqProofs (disch := omega) only [go_sem, Int.reduceEq, Int.reduceLT, Int.reduceLE, Int.reduceToNat, Int.reduceNeg, Int.reduceAdd, Int.reduceSub, Nat.reduceEqDiff, Nat.reduceAdd, Nat.reduceMul, Nat.reduceLeDiff, Nat.reduceSub, ↓reduceIte, reduceCtorEq, c2, hb5] | refine And.intro (by omega) ?_)
            all_goals (try clear hK'; try clear hn1; try clear hx1; try clear ho1; try clear hn2; try clear hx2; try clear hn4; try clear hx4; try clear ho4; try clear hn5; try clear hx5; try clear ho5; try clear hn6; try clear hx6; try clear hn8; try clear hx8; try clear ho8; try clear hj9; try clear ox9; try clear hj9; try clear ox9; try clear hj10; try clear ox10; try clear hj9; try clear ox9; try clear hj9; try clear ox9; try clear hn4; try clear hx4; try clear ho4; try clear hn5; try clear hx5; try clear ho5; try clear hn6; try clear hx6; try clear hn8; try clear hx8; try clear ho8; try clear hj9; try clear ox9; try clear hj9; try clear ox9; try clear hj10; try clear ox10; try clear hj9; try clear ox9; try clear hj9; try clear ox9; try clear hn4; try clear hx4; try clear ho4; try clear hn5; try clear hx5; try clear ho5; try clear hn6; try clear hx6; try clear hn8; try clear hx8; try clear ho8; try clear hj9; try clear ox9; try clear hj9; try clear ox9; try clear hj10; try clear ox10; try clear hj9; try clear ox9)
            all_goals ((first | rfl | omega | (simp_all; done) | (simp_all; omega)))
          repeat' (first | refine wpL_seq ?_ | refine wpL_skip ?_ | refine wpL_label ?_ | refine wpL_scope ?_)
          refine wpL_condK rfl fun j9 hj9 ox9 => ?_
          have tail9 : j9 .normal (lk [(0, .str s), (4, .str [104, 109, 115]), (5, .rp [.int .i64 3600, .int .i64 60, .int .i64 1] 0), (6, .int .i64 n), (7, .int .i64 i), (8, .int .i64 (2 : Nat))]) Heap.emp := by
            refine hj9 _ _ ?_
            repeat' (first | refine wpL_seq ?_ | refine wpL_skip ?_ | refine wpL_label ?_ | refine wpL_scope ?_)
            refine wpL_nil (hn4 _ _ ?_)
            repeat' (first | refine wpL_seq ?_ | refine wpL_skip ?_ | refine wpL_label ?_ | refine wpL_scope ?_)
            refine wpL_region' [0, 4, 5, 6, 7, 8] fun q hq => ?_
            simp -implicitDefEqProofs (disch := omega) only [go_sem, Int.reduceEq, Int.reduceLT, Int.reduceLE, Int.reduceToNat, Int.reduceNeg, Int.reduceAdd, Int.reduceSub, Nat.reduceEqDiff, Nat.reduceAdd, Nat.reduceMul, Nat.reduceLeDiff, Nat.reduceSub, ↓reduceIte, reduceCtorEq, hb5]
            repeat (refine And.intro (by omega) ?_)
            refine hq _ _ _ (by simp only [pickL, lk_cons, Nat.reduceEqDiff, ↓reduceIte]; exact rfl) ?_
            clear hq q
            repeat' (first | refine wpL_seq ?_ | refine wpL_skip ?_ | refine wpL_label ?_ | refine wpL_scope ?_)
            exact wpL_nil (hn2 (3 - (2 + 1)) _ _ (by omega) ⟨2 + 1, i, n, by omega, by omega, rfl, hi, hn0, hn1, by rw [if_neg (by simp [hu])] at hD; exact hD, rfl⟩)
          refine ⟨fun hc9 => ?_, fun hc9 => ?_⟩
          · cases hc9
          · refine wpL_pick' [0, 4, 5, 6, 7, 8] (by simp only [pickL, lk_cons, Nat.reduceEqDiff, ↓reduceIte]; exact rfl) ?_
            repeat' (first | refine wpL_seq ?_ | refine wpL_skip ?_ | refine wpL_label ?_ | refine wpL_scope ?_)
            repeat' (first | refine wpL_seq ?_ | refine wpL_skip ?_ | refine wpL_label ?_ | refine wpL_scope ?_)
            exact wpL_nil tail9
      by_cases hl : i + dN < s.length
      · obtain ⟨c, hc, hd⟩ := hz.2 hl
        have c2 : decide (((i + dN : Nat) : Int) < (s.length : Int)) = true := decide_eq_true (by omega)
        repeat' (first | refine wpL_seq ?_ | refine wpL_skip ?_ | refine wpL_label ?_ | refine wpL_scope ?_)
        refine wpL_regV [0, 4, 5, 6, 7, 8, 9] 27 (.bool false) (by simp only [pickL, put, lk_cons, Int.reduceEq, Int.reduceLT, Int.reduceLE, Int.reduceToNat, Int.reduceNeg, Int.reduceAdd, Int.reduceSub, Nat.reduceEqDiff, Nat.reduceAdd, Nat.reduceMul, Nat.reduceLeDiff, Nat.reduceSub, ↓reduceIte, reduceCtorEq, if_true, if_false]; exact rfl) (by decide) ?_ ?_
        · simp -implicitDefEqProofs (disch := omega) only [go_sem, Int.reduceEq, Int.reduceLT, Int.reduceLE, Int.reduceToNat, Int.reduceNeg, Int.reduceAdd, Int.reduceSub, Nat.reduceEqDiff, Nat.reduceAdd, Nat.reduceMul, Nat.reduceLeDiff, Nat.reduceSub, ↓reduceIte, reduceCtorEq, c2, hc, hd, hb5]
          repeat' (first | (refine gN_split2 (fun hs => ?_) (fun hs => ?_) <;> simp -implicitDefEqProofs (disch := omega) only [go_sem, Int.reduceEq, Int.reduceLT, Int.reduceLE, Int.reduceToNat, Int.reduceNeg, Int.reduceAdd, Int.reduceSub, Nat.reduceEqDiff, Nat.reduceAdd, Nat.reduceMul, Nat.reduceLeDiff, Nat.reduceSub, ↓reduceIte, reduceCtorEq, hs, c2, hc, hd, hb5]) | refine gN_callP (f55_digit c) ?_ | simp -implicitDefEqProofs (disch := omega) only [go_sem, Int.reduceEq, Int.reduceLT, Int.reduceLE, Int.reduceToNat, Int.reduceNeg, Int.reduceAdd, Int.reduceSub, Nat.reduceEqDiff, Nat.reduceAdd, Nat.reduceMul, Nat.reduceLeDiff, Nat.reduceSub, ↓reduceIte, reduceCtorEq, c2, hc, hd, hb5] | refine And.intro (by omega) ?_)
          all_goals (try clear hK'; try clear hn1; try clear hx1; try clear ho1; try clear hn2; try clear hx2; try clear hn4; try clear hx4; try clear ho4; try clear hn5; try clear hx5; try clear ho5; try clear hn6; try clear hx6; try clear hn8; try clear hx8; try clear ho8; try clear hj9; try clear ox9; try clear hj9; try clear ox9; try clear hj10; try clear ox10; try clear hj9; try clear ox9; try clear hj9; try clear ox9; try clear hn4; try clear hx4; try clear ho4; try clear hn5; try clear hx5; try clear ho5; try clear hn6; try clear hx6; try clear hn8; try clear hx8; try clear ho8; try clear hj9; try clear ox9; try clear hj9; try clear ox9; try clear hj10; try clear ox10; try clear hj9; try clear ox9; try clear hj9; try clear ox9; try clear hn4; try clear hx4; try clear ho4; try clear hn5; try clear hx5; try clear ho5; try clear hn6; try clear hx6; try clear hn8; try clear hx8; try clear ho8; try clear hj9; try clear ox9; try clear hj9; try clear ox9; try clear hj10; try clear ox10; try clear hj9; try clear ox9; try clear hj9; try clear ox9)
          all_goals ((first | rfl | omega | (simp_all; done)))
        repeat' (first | refine wpL_seq ?_ | refine wpL_skip ?_ | refine wpL_label ?_ | refine wpL_scope ?_)
        refine wpL_cond rfl (fun hc7 => ?_) (fun hc7 => ?_)
        · cases hc7
        refine wpL_pick' [0, 4, 5, 6, 7, 8, 9] (by simp only [pickL, lk_cons, Nat.reduceEqDiff, ↓reduceIte]; exact rfl) ?_
        repeat' (first | refine wpL_seq ?_ | refine wpL_skip ?_ | refine wpL_label ?_ | refine wpL_scope ?_)
        repeat' (first | refine wpL_seq ?_ | refine wpL_skip ?_ | refine wpL_label ?_ | refine wpL_scope ?_)
        exact wpL_exit (hex _ rfl)
      · have c2 : decide (((i + dN : Nat) : Int) < (s.length : Int)) = false := decide_eq_false (by omega)
        repeat' (first | refine wpL_seq ?_ | refine wpL_skip ?_ | refine wpL_label ?_ | refine wpL_scope ?_)
        refine wpL_regV [0, 4, 5, 6, 7, 8, 9] 27 (.bool false) (by simp only [pickL, put, lk_cons, Int.reduceEq, Int.reduceLT, Int.reduceLE, Int.reduceToNat, Int.reduceNeg, Int.reduceAdd, Int.reduceSub, Nat.reduceEqDiff, Nat.reduceAdd, Nat.reduceMul, Nat.reduceLeDiff, Nat.reduceSub, ↓reduceIte, reduceCtorEq, if_true, if_false]; exact rfl) (by decide) ?_ ?_
        · simp -implicitDefEqProofs (disch := omega) only [go_sem, Int.reduceEq, Int.reduceLT, Int.reduceLE, Int.reduceToNat, Int.reduceNeg, Int.reduceAdd, Int.reduceSub, Nat.reduceEqDiff, Nat.reduceAdd, Nat.reduceMul, Nat.reduceLeDiff, Nat.reduceSub, ↓reduceIte, reduceCtorEq, c2, hb5]
          repeat' (first | (refine gN_split2 (fun hs => ?_) (fun hs => ?_) <;> simp -implicitDefEqProofs (disch := omega) only [go_sem, Int.reduceEq, Int.reduceLT, Int.reduceLE, Int.reduceToNat, Int.reduceNeg, Int.reduceAdd, Int.reduceSub, Nat.reduceEqDiff, Nat.reduceAdd, Nat.reduceMul, Nat.reduceLeDiff, Nat.reduceSub, ↓reduceIte, reduceCtorEq, hs, c2, hb5]) | simp -implicitDefEqProofs (disch := omega) only [go_sem, Int.reduceEq, Int.reduceLT, Int.reduceLE, Int.reduceToNat, Int.reduceNeg, Int.reduceAdd, Int.reduceSub, Nat.reduceEqDiff, Nat.reduceAdd, Nat.reduceMul, Nat.reduceLeDiff, Nat.reduceSub, ↓reduceIte, reduceCtorEq, c2, hb5] | refine And.intro (by omega) ?_)
          all_goals (try clear hK'; try clear hn1; try clear hx1; try clear ho1; try clear hn2; try clear hx2; try clear hn4; try clear hx4; try clear ho4; try clear hn5; try clear hx5; try clear ho5; try clear hn6; try clear hx6; try clear hn8; try clear hx8; try clear ho8; try clear hj9; try clear ox9; try clear hj9; try clear ox9; try clear hj10; try clear ox10; try clear hj9; try clear ox9; try clear hj9; try clear ox9; try clear hn4; try clear hx4; try clear ho4; try clear hn5; try clear hx5; try clear ho5; try clear hn6; try clear hx6; try clear hn8; try clear hx8; try clear ho8; try clear hj9; try clear ox9; try clear hj9; try clear ox9; try clear hj10; try clear ox10; try clear hj9; try clear ox9; try clear hj9; try clear ox9; try clear hn4; try clear hx4; try clear ho4; try clear hn5; try clear hx5; try clear ho5; try clear hn6; try clear hx6; try clear hn8; try clear hx8; try clear ho8; try clear hj9; try clear ox9; try clear hj9; try clear ox9; try clear hj10; try clear ox10; try clear hj9; try clear ox9; try clear hj9; try clear ox9)
          all_goals ((first | rfl | omega | (simp_all; done)))
        repeat' (first | refine wpL_seq ?_ | refine wpL_skip ?_ | refine wpL_label ?_ | refine wpL_scope ?_)
        refine wpL_cond rfl (fun hc7 => ?_) (fun hc7 => ?_)
        · cases hc7
        refine wpL_pick' [0, 4, 5, 6, 7, 8, 9] (by simp only [pickL, lk_cons, Nat.reduceEqDiff, ↓reduceIte]; exact rfl) ?_
        repeat' (first | refine wpL_seq ?_ | refine wpL_skip ?_ | refine wpL_label ?_ | refine wpL_scope ?_)
        repeat' (first | refine wpL_seq ?_ | refine wpL_skip ?_ | refine wpL_label ?_ | refine wpL_scope ?_)
        exact wpL_exit (hex _ rfl)
  have hqe : q = 3 := by simp at hc3; omega
  subst hqe
  rw [show units.drop 3 = [] from rfl, durG] at hD
  have hse : decide (i = s.length) = (s.drop i).isEmpty := by
    by_cases h : i = s.length
    · subst h; simp
    · rw [decide_eq_false h]
      obtain ⟨c, hc⟩ := get_of_lt (show i < s.length by omega)
      rw [drop_get hc]; rfl
  have hse2 : decide ((i : Int) = (s.length : Int)) = decide (i = s.length) := by
    by_cases h : i = s.length
    · rw [decide_eq_true h]; exact decide_eq_true (by omega)
    · rw [decide_eq_false h]; exact decide_eq_false (by omega)
  repeat' (first | refine wpL_seq ?_ | refine wpL_skip ?_ | refine wpL_label ?_ | refine wpL_scope ?_)
  refine wpL_exit (hx2 _ _ _ (by simp) (hx1 _ _ ?_))
  by_cases h0 : 0 < i
  · have c1 : decide ((i : Int) > 0) = true := decide_eq_true (by omega)
    repeat' (first | refine wpL_seq ?_ | refine wpL_skip ?_ | refine wpL_label ?_ | refine wpL_scope ?_)
    refine wpL_region' [2, 3] fun q hq => ?_
    simp -implicitDefEqProofs (disch := omega) only [go_sem, Int.reduceEq, Int.reduceLT, Int.reduceLE, Int.reduceToNat, Int.reduceNeg, Int.reduceAdd, Int.reduceSub, Nat.reduceEqDiff, Nat.reduceAdd, Nat.reduceMul, Nat.reduceLeDiff, Nat.reduceSub, ↓reduceIte, reduceCtorEq, c1, hse2, hse, hb5]
    repeat (refine And.intro (by omega) ?_)
    refine hq _ _ _ (by simp only [pickL, lk_cons, Nat.reduceEqDiff, ↓reduceIte]; exact rfl) ?_
    clear hq q
    repeat' (first | refine wpL_seq ?_ | refine wpL_skip ?_ | refine wpL_label ?_ | refine wpL_scope ?_)
    refine wpL_ret (hK' _ _ _ _ (.inr rfl) (resTo (rs' := [.tmp 2, .tmp 3]) rfl (by simp only [go_sem, Int.reduceEq, Int.reduceLT, Int.reduceLE, Int.reduceToNat, Int.reduceNeg, Int.reduceAdd, Int.reduceSub, Nat.reduceEqDiff, Nat.reduceAdd, Nat.reduceMul, Nat.reduceLeDiff, Nat.reduceSub, ↓reduceIte, reduceCtorEq, hb5]; exact rfl)) ?_)
    rw [← hD, decide_eq_true h0]; rfl
  · have c1 : decide ((i : Int) > 0) = false := decide_eq_false (by omega)
    repeat' (first | refine wpL_seq ?_ | refine wpL_skip ?_ | refine wpL_label ?_ | refine wpL_scope ?_)
    refine wpL_region' [2, 3] fun q hq => ?_
    simp -implicitDefEqProofs (disch := omega) only [go_sem, Int.reduceEq, Int.reduceLT, Int.reduceLE, Int.reduceToNat, Int.reduceNeg, Int.reduceAdd, Int.reduceSub, Nat.reduceEqDiff, Nat.reduceAdd, Nat.reduceMul, Nat.reduceLeDiff, Nat.reduceSub, ↓reduceIte, reduceCtorEq, c1, hb5]
    repeat (refine And.intro (by omega) ?_)
    refine hq _ _ _ (by simp only [pickL, lk_cons, Nat.reduceEqDiff, ↓reduceIte]; exact rfl) ?_
    clear hq q
    repeat' (first | refine wpL_seq ?_ | refine wpL_skip ?_ | refine wpL_label ?_ | refine wpL_scope ?_)
    refine wpL_ret (hK' _ _ _ _ (.inr rfl) (resTo (rs' := [.tmp 2, .tmp 3]) rfl (by simp only [go_sem, Int.reduceEq, Int.reduceLT, Int.reduceLE, Int.reduceToNat, Int.reduceNeg, Int.reduceAdd, Int.reduceSub, Nat.reduceEqDiff, Nat.reduceAdd, Nat.reduceMul, Nat.reduceLeDiff, Nat.reduceSub, ↓reduceIte, reduceCtorEq, hb5]; exact rfl)) ?_)
    rw [← hD, decide_eq_false h0]; rfl
end Go.Proofs.YtlalbjkdlkhjiaaDoor.Am.L
