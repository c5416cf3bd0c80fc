/- What a number looks like; kinds, told twice. -/
import Derived.Test.YtlalbjkdlkhjiaaDoorS7
namespace Go.Proofs.YtlalbjkdlkhjiaaDoor.Am.L
set_option linter.unusedSectionVars false
open Go Go.Proofs Am
set_option linter.unusedVariables false
set_option linter.unusedSimpArgs false
set_option maxRecDepth 100000
attribute [local irreducible] gO gN gW gdO

theorem dig_inn {c : UInt8} (h : isDig c = true) : isInn c = true := by simp [isInn, h]
theorem dig_let {c : UInt8} (h : isDig c = true) : isLet c = false := by
  simp only [isDig, Bool.and_eq_true, decide_eq_true_eq] at h
  simp only [isLet, Bool.or_eq_false_iff, Bool.and_eq_false_iff, decide_eq_false_iff_not]
  omega
theorem dv_inn {c : UInt8} (h : ¬ dv c ≥ 16) : isInn c = true := by
  unfold dv at h
  by_cases h1 : isDig c = true
  · exact dig_inn h1
  · rw [if_neg h1] at h
    have h2 : isLet c = true := by
      simp only [isLet, Bool.or_eq_true, Bool.and_eq_true, decide_eq_true_eq]
      split at h
      · omega
      · split at h
        · omega
        · omega
    simp [isInn, h2]
theorem digA_inn (base : Int) (under : Bool) (hb : base ≤ 16) : ∀ (l : List UInt8) (p : Option UInt8) (v w : Int), digA base under p v l = some w → l.all isInn = true
  | [], p, v, w, h => rfl
  | c :: l, p, v, w, h => by
    rw [digA] at h
    split at h
    · rename_i hc
      simp only [Bool.and_eq_true, decide_eq_true_eq] at hc
      have h95 : c = 95 := hc.1.1.2
      rw [List.all_cons, digA_inn base under hb l _ _ _ h, h95]; rfl
    · split at h
      · cases h
      · rename_i hd
        rw [List.all_cons, digA_inn base under hb l _ _ _ h, dv_inn (by omega)]; rfl
theorem digits_inn {base : Int} {under : Bool} (hb : base ≤ 16) {s : List UInt8} (h : (digitsL base under s).2 = true) : s.all isInn = true := by
  unfold digitsL at h
  split at h
  · cases h
  · rename_i v hv
    exact digA_inn base under hb s _ _ _ hv
theorem digits_head {under : Bool} {c : UInt8} {s : List UInt8} (h : (digitsL 10 under (c :: s)).2 = true) : isDig c = true := by
  unfold digitsL at h
  split at h
  · cases h
  · rename_i v hv
    rw [digA, if_neg (by simp [gapP])] at hv
    split at hv
    · cases hv
    · rename_i hd
      rw [dv10] at hd
      simpa using hd
theorem all_dig_inn {l : List UInt8} (h : l.all isDig = true) : l.all isInn = true := List.all_eq_true.2 fun x hx => dig_inn (List.all_eq_true.1 h x hx)
theorem durG_inn : ∀ (l : List (UInt8 × Int)) (n : Int) (any : Bool) (s : List UInt8), (∀ p ∈ l, isInn p.1 = true) → (durG l n any s).2 = true → s.all isInn = true ∧ (any = false → ∃ c t, s = c :: t ∧ isDig c = true)
  | [], n, any, s, _, h => by
    rw [durG] at h
    simp at h
    obtain ⟨h1, h2⟩ := h
    subst h2
    exact ⟨rfl, fun h => by rw [h] at h1; cases h1⟩
  | u :: l, n, any, s, hl, h => by
    have hl' : ∀ p ∈ l, isInn p.1 = true := fun p hp => hl p (List.mem_cons_of_mem _ hp)
    rw [durG] at h
    split at h
    · rename_i hu
      simp only [unitAt, Bool.and_eq_true, decide_eq_true_eq] at hu
      have e : s.take (digN s) ++ u.1 :: s.drop (digN s + 1) = s := by
        have := List.take_append_drop (digN s) s
        rwa [drop_get hu.2] at this
      obtain ⟨ih, _⟩ := durG_inn l _ _ _ hl' h
      refine ⟨?_, fun _ => ?_⟩
      · rw [← e, List.all_append, List.all_cons, all_dig_inn (digN_all s), hl u List.mem_cons_self, ih]; rfl
      · cases s with
        | nil => simp [digN] at hu
        | cons c t =>
          refine ⟨c, t, rfl, ?_⟩
          have h0 := hu.1
          rw [digN] at h0
          split at h0
          · assumption
          · cases h0
    · exact durG_inn l _ _ _ hl' h
/-- A number's text: letters, digits and _ alone; a digit first. -/
theorem num_look {s : List UInt8} (h : (ansN (numA s)).2 = 0) : s.all isInn = true ∧ ∃ c t, s = c :: t ∧ isDig c = true := by
  have h2 : (numA s).2 = true := by
    cases hn : (numA s).2 with
    | true => rfl
    | false => rw [ansN, if_neg (by simp [hn])] at h; cases h
  unfold numA at h2
  split at h2
  · refine ⟨digits_inn (by omega) h2, ?_⟩
    cases s with
    | nil => simp [digitsL, digA] at h2
    | cons c t => exact ⟨c, t, rfl, digits_head h2⟩
  · split at h2
    · rename_i hx
      have hx := of_decide_eq_true hx
      have hs : s = 48 :: 120 :: s.drop 2 := by
        have := List.take_append_drop 2 s
        rw [hx] at this; exact this.symm
      refine ⟨?_, 48, 120 :: s.drop 2, hs, rfl⟩
      rw [hs, List.all_cons, List.all_cons]
      have := digits_inn (by omega) h2
      rw [this]; rfl
    · have hd := (dur_both s).1
      rw [h2] at hd
      have := durG_inn units 0 false s (fun p hp => by
        simp only [units, List.mem_cons, List.not_mem_nil, or_false] at hp
        rcases hp with rfl | rfl | rfl <;> rfl) hd.symm
      exact ⟨this.1, this.2 rfl⟩
theorem run_all : ∀ {s : List UInt8}, s.all isInn = true → runN s = s.length
  | [], _ => rfl
  | c :: l, h => by
    simp only [List.all_cons, Bool.and_eq_true] at h
    rw [runN, if_pos h.1, run_all h.2]; rfl
/-- The kind of the one token that a text is, or -1. -/
def kindOfL (s : List UInt8) : Int :=
  if kindL s ≠ 0 then kindL s else match s with
    | [] => -1
    | c :: _ => if isLet c = true ∧ s.length ≤ 32 ∧ runN s = s.length then 1 else if (ansN (numA s)).2 = 0 then 2 else -1
theorem kindOf_num {s : List UInt8} (h0 : kindL s = 0) (h : (ansN (numA s)).2 = 0) : kindOfL s = 2 := by
  obtain ⟨h1, c, t, rfl, hd⟩ := num_look h
  rw [kindOfL.eq_def, if_neg (by simp [h0])]
  show (if _ then _ else _) = _
  rw [if_neg (by rw [dig_let hd]; simp), if_pos h]
theorem f14_kindOf (s : List UInt8) (hs : s.length ≤ 140737488351232) : wpP Tryd.prog 14 [.str s] (.int .i64 (kindOfL s)) := by
  have q32 := f32_kind s
  have q34 := f34_run s hs
  have q10 : wpP Tryd.prog 10 [.str s] (.tup [.int .i32 (ansN (numA s)).1, .int .i64 (ansN (numA s)).2]) := f10_number s hs
  refine wpP_intro ?_
  refine wpH_intro (fn := Tryd.f14) rfl rfl (by decide) (by kernel_rfl) fun K' hK' => ?_
  repeat' (first | refine wpL_seq ?_ | refine wpL_skip ?_ | refine wpL_label ?_ | refine wpL_scope ?_)
  refine wpL_region' [0] fun q hq => ?_
  simp -implicitDefEqProofs (disch := omega) only [go_sem, Int.reduceEq, Int.reduceLT, Int.reduceLE, Int.reduceToNat, Int.reduceNeg, Int.reduceAdd, Int.reduceSub, Nat.reduceEqDiff, Nat.reduceAdd, Nat.reduceMul, Nat.reduceLeDiff, Nat.reduceSub, ↓reduceIte, reduceCtorEq]
  repeat (refine And.intro (by omega) ?_)
  refine hq _ _ _ (by simp only [pickL, lk_cons, Nat.reduceEqDiff, ↓reduceIte]; exact rfl) ?_
  clear hq q
  repeat' (first | refine wpL_seq ?_ | refine wpL_skip ?_ | refine wpL_label ?_ | refine wpL_scope ?_)
  refine wpL_region' [0, 3] fun q hq => ?_
  simp -implicitDefEqProofs (disch := omega) only [go_sem, Int.reduceEq, Int.reduceLT, Int.reduceLE, Int.reduceToNat, Int.reduceNeg, Int.reduceAdd, Int.reduceSub, Nat.reduceEqDiff, Nat.reduceAdd, Nat.reduceMul, Nat.reduceLeDiff, Nat.reduceSub, ↓reduceIte, reduceCtorEq]
  repeat (refine And.intro (by omega) ?_)
  refine gN_callP (q32) ?_
  simp -implicitDefEqProofs (disch := omega) only [go_sem, Int.reduceEq, Int.reduceLT, Int.reduceLE, Int.reduceToNat, Int.reduceNeg, Int.reduceAdd, Int.reduceSub, Nat.reduceEqDiff, Nat.reduceAdd, Nat.reduceMul, Nat.reduceLeDiff, Nat.reduceSub, ↓reduceIte, reduceCtorEq]
  repeat (refine And.intro (by omega) ?_)
  refine hq _ _ _ (by simp only [pickL, lk_cons, Nat.reduceEqDiff, ↓reduceIte]; exact rfl) ?_
  clear hq q
  repeat' (first | refine wpL_seq ?_ | refine wpL_skip ?_ | refine wpL_label ?_ | refine wpL_scope ?_)
  refine wpL_region' [0, 3, 9] fun q hq => ?_
  simp -implicitDefEqProofs (disch := omega) only [go_sem, Int.reduceEq, Int.reduceLT, Int.reduceLE, Int.reduceToNat, Int.reduceNeg, Int.reduceAdd, Int.reduceSub, Nat.reduceEqDiff, Nat.reduceAdd, Nat.reduceMul, Nat.reduceLeDiff, Nat.reduceSub, ↓reduceIte, reduceCtorEq]
  repeat (refine And.intro (by omega) ?_)
  refine hq _ _ _ (by simp only [pickL, lk_cons, Nat.reduceEqDiff, ↓reduceIte]; exact rfl) ?_
  clear hq q
  repeat' (first | refine wpL_seq ?_ | refine wpL_skip ?_ | refine wpL_label ?_ | refine wpL_scope ?_)
  refine wpL_cond rfl (fun hc1 => ?_) (fun hc1 => ?_)
  · have hc : kindL s ≠ 0 := by simpa using hc1
    repeat' (first | refine wpL_seq ?_ | refine wpL_skip ?_ | refine wpL_label ?_ | refine wpL_scope ?_)
    refine wpL_region' [2] fun q hq => ?_
    simp -implicitDefEqProofs (disch := omega) only [go_sem, Int.reduceEq, Int.reduceLT, Int.reduceLE, Int.reduceToNat, Int.reduceNeg, Int.reduceAdd, Int.reduceSub, Nat.reduceEqDiff, Nat.reduceAdd, Nat.reduceMul, Nat.reduceLeDiff, Nat.reduceSub, ↓reduceIte, reduceCtorEq]
    repeat (refine And.intro (by omega) ?_)
    refine hq _ _ _ (by simp only [pickL, lk_cons, Nat.reduceEqDiff, ↓reduceIte]; exact rfl) ?_
    clear hq q
    repeat' (first | refine wpL_seq ?_ | refine wpL_skip ?_ | refine wpL_label ?_ | refine wpL_scope ?_)
    refine wpL_ret (hK' _ _ _ _ (.inr rfl) (resTo (rs' := [.tmp 2]) rfl (by simp only [go_sem, Int.reduceEq, Int.reduceLT, Int.reduceLE, Int.reduceToNat, Int.reduceNeg, Int.reduceAdd, Int.reduceSub, Nat.reduceEqDiff, Nat.reduceAdd, Nat.reduceMul, Nat.reduceLeDiff, Nat.reduceSub, ↓reduceIte, reduceCtorEq]; exact rfl)) ?_)
    rw [kindOfL.eq_def, if_pos hc]
  have hc : kindL s = 0 := by simpa using hc1
  repeat' (first | refine wpL_seq ?_ | refine wpL_skip ?_ | refine wpL_label ?_ | refine wpL_scope ?_)
  refine wpL_region' [0, 12] fun q hq => ?_
  simp -implicitDefEqProofs (disch := omega) only [go_sem, Int.reduceEq, Int.reduceLT, Int.reduceLE, Int.reduceToNat, Int.reduceNeg, Int.reduceAdd, Int.reduceSub, Nat.reduceEqDiff, Nat.reduceAdd, Nat.reduceMul, Nat.reduceLeDiff, Nat.reduceSub, ↓reduceIte, reduceCtorEq]
  repeat (refine And.intro (by omega) ?_)
  refine hq _ _ _ (by simp only [pickL, lk_cons, Nat.reduceEqDiff, ↓reduceIte]; exact rfl) ?_
  clear hq q
  repeat' (first | refine wpL_seq ?_ | refine wpL_skip ?_ | refine wpL_label ?_ | refine wpL_scope ?_)
  refine wpL_cond rfl (fun hc2 => ?_) (fun hc2 => ?_)
  · have he : s = [] := by simpa using hc2
    repeat' (first | refine wpL_seq ?_ | refine wpL_skip ?_ | refine wpL_label ?_ | refine wpL_scope ?_)
    refine wpL_region' [2] fun q hq => ?_
    simp -implicitDefEqProofs (disch := omega) only [go_sem, Int.reduceEq, Int.reduceLT, Int.reduceLE, Int.reduceToNat, Int.reduceNeg, Int.reduceAdd, Int.reduceSub, Nat.reduceEqDiff, Nat.reduceAdd, Nat.reduceMul, Nat.reduceLeDiff, Nat.reduceSub, ↓reduceIte, reduceCtorEq]
    repeat (refine And.intro (by omega) ?_)
    refine hq _ _ _ (by simp only [pickL, lk_cons, Nat.reduceEqDiff, ↓reduceIte]; exact rfl) ?_
    clear hq q
    repeat' (first | refine wpL_seq ?_ | refine wpL_skip ?_ | refine wpL_label ?_ | refine wpL_scope ?_)
    refine wpL_ret (hK' _ _ _ _ (.inr rfl) (resTo (rs' := [.tmp 2]) rfl (by simp only [go_sem, Int.reduceEq, Int.reduceLT, Int.reduceLE, Int.reduceToNat, Int.reduceNeg, Int.reduceAdd, Int.reduceSub, Nat.reduceEqDiff, Nat.reduceAdd, Nat.reduceMul, Nat.reduceLeDiff, Nat.reduceSub, ↓reduceIte, reduceCtorEq]; exact rfl)) ?_)
    rw [kindOfL.eq_def, if_neg (by simp [hc]), he]
  have he : s ≠ [] := by simpa using hc2
  obtain ⟨c, t, hct⟩ : ∃ c t, s = c :: t := by
    cases s with
    | nil => exact absurd rfl he
    | cons c t => exact ⟨c, t, rfl⟩
  have h0 : s[0]? = some c := by rw [hct]; rfl
  have eK : kindOfL s = if isLet c = true ∧ s.length ≤ 32 ∧ runN s = s.length then 1 else if (ansN (numA s)).2 = 0 then 2 else -1 := by
    rw [kindOfL.eq_def, if_neg (by simp [hc]), hct]
  repeat' (first | refine wpL_seq ?_ | refine wpL_skip ?_ | refine wpL_label ?_ | refine wpL_scope ?_)
  refine wpL_regV [0] 27 (.bool (decide (isLet c = true ∧ s.length ≤ 32 ∧ runN s = s.length))) (by simp only [pickL, put, lk_cons, Int.reduceEq, Int.reduceLT, Int.reduceLE, Int.reduceToNat, Int.reduceNeg, Int.reduceAdd, Int.reduceSub, Nat.reduceEqDiff, Nat.reduceAdd, Nat.reduceMul, Nat.reduceLeDiff, Nat.reduceSub, ↓reduceIte, reduceCtorEq, if_true, if_false]; exact rfl) (by decide) ?_ ?_
  · simp -implicitDefEqProofs (disch := omega) only [go_sem, Int.reduceEq, Int.reduceLT, Int.reduceLE, Int.reduceToNat, Int.reduceNeg, Int.reduceAdd, Int.reduceSub, Nat.reduceEqDiff, Nat.reduceAdd, Nat.reduceMul, Nat.reduceLeDiff, Nat.reduceSub, ↓reduceIte, reduceCtorEq, h0]
    repeat' (first | (refine gN_split2 (fun hs => ?_) (fun hs => ?_) <;> simp -implicitDefEqProofs (disch := omega) only [go_sem, Int.reduceEq, Int.reduceLT, Int.reduceLE, Int.reduceToNat, Int.reduceNeg, Int.reduceAdd, Int.reduceSub, Nat.reduceEqDiff, Nat.reduceAdd, Nat.reduceMul, Nat.reduceLeDiff, Nat.reduceSub, ↓reduceIte, reduceCtorEq, hs, h0]) | refine gN_callP ((by first | exact f33_letter c | exact q34)) ?_ | simp -implicitDefEqProofs (disch := omega) only [go_sem, Int.reduceEq, Int.reduceLT, Int.reduceLE, Int.reduceToNat, Int.reduceNeg, Int.reduceAdd, Int.reduceSub, Nat.reduceEqDiff, Nat.reduceAdd, Nat.reduceMul, Nat.reduceLeDiff, Nat.reduceSub, ↓reduceIte, reduceCtorEq, h0] | refine And.intro (by omega) ?_)
    all_goals (try clear hK')
    all_goals ((first | rfl | (exfalso; simp at hs; omega) | (simp_all; done) | grind))
  repeat' (first | refine wpL_seq ?_ | refine wpL_skip ?_ | refine wpL_label ?_ | refine wpL_scope ?_)
  refine wpL_cond rfl (fun hc3 => ?_) (fun hc3 => ?_)
  · have h := of_decide_eq_true hc3
    repeat' (first | refine wpL_seq ?_ | refine wpL_skip ?_ | refine wpL_label ?_ | refine wpL_scope ?_)
    refine wpL_region' [2] fun q hq => ?_
    simp -implicitDefEqProofs (disch := omega) only [go_sem, Int.reduceEq, Int.reduceLT, Int.reduceLE, Int.reduceToNat, Int.reduceNeg, Int.reduceAdd, Int.reduceSub, Nat.reduceEqDiff, Nat.reduceAdd, Nat.reduceMul, Nat.reduceLeDiff, Nat.reduceSub, ↓reduceIte, reduceCtorEq]
    repeat (refine And.intro (by omega) ?_)
    refine hq _ _ _ (by simp only [pickL, lk_cons, Nat.reduceEqDiff, ↓reduceIte]; exact rfl) ?_
    clear hq q
    repeat' (first | refine wpL_seq ?_ | refine wpL_skip ?_ | refine wpL_label ?_ | refine wpL_scope ?_)
    refine wpL_ret (hK' _ _ _ _ (.inr rfl) (resTo (rs' := [.tmp 2]) rfl (by simp only [go_sem, Int.reduceEq, Int.reduceLT, Int.reduceLE, Int.reduceToNat, Int.reduceNeg, Int.reduceAdd, Int.reduceSub, Nat.reduceEqDiff, Nat.reduceAdd, Nat.reduceMul, Nat.reduceLeDiff, Nat.reduceSub, ↓reduceIte, reduceCtorEq]; exact rfl)) ?_)
    rw [eK, if_pos h]
  have h := of_decide_eq_false hc3
  repeat' (first | refine wpL_seq ?_ | refine wpL_skip ?_ | refine wpL_label ?_ | refine wpL_scope ?_)
  refine wpL_region' [5] fun q hq => ?_
  simp -implicitDefEqProofs (disch := omega) only [go_sem, Int.reduceEq, Int.reduceLT, Int.reduceLE, Int.reduceToNat, Int.reduceNeg, Int.reduceAdd, Int.reduceSub, Nat.reduceEqDiff, Nat.reduceAdd, Nat.reduceMul, Nat.reduceLeDiff, Nat.reduceSub, ↓reduceIte, reduceCtorEq]
  repeat (refine And.intro (by omega) ?_)
  refine gN_callP (q10) ?_
  simp -implicitDefEqProofs (disch := omega) only [go_sem, Int.reduceEq, Int.reduceLT, Int.reduceLE, Int.reduceToNat, Int.reduceNeg, Int.reduceAdd, Int.reduceSub, Nat.reduceEqDiff, Nat.reduceAdd, Nat.reduceMul, Nat.reduceLeDiff, Nat.reduceSub, ↓reduceIte, reduceCtorEq]
  repeat (refine And.intro (by omega) ?_)
  refine hq _ _ _ (by simp only [pickL, lk_cons, Nat.reduceEqDiff, ↓reduceIte]; exact rfl) ?_
  clear hq q
  repeat' (first | refine wpL_seq ?_ | refine wpL_skip ?_ | refine wpL_label ?_ | refine wpL_scope ?_)
  refine wpL_region' [34] fun q hq => ?_
  simp -implicitDefEqProofs (disch := omega) only [go_sem, Int.reduceEq, Int.reduceLT, Int.reduceLE, Int.reduceToNat, Int.reduceNeg, Int.reduceAdd, Int.reduceSub, Nat.reduceEqDiff, Nat.reduceAdd, Nat.reduceMul, Nat.reduceLeDiff, Nat.reduceSub, ↓reduceIte, reduceCtorEq]
  repeat (refine And.intro (by omega) ?_)
  refine hq _ _ _ (by simp only [pickL, lk_cons, Nat.reduceEqDiff, ↓reduceIte]; exact rfl) ?_
  clear hq q
  repeat' (first | refine wpL_seq ?_ | refine wpL_skip ?_ | refine wpL_label ?_ | refine wpL_scope ?_)
  refine wpL_cond rfl (fun hc4 => ?_) (fun hc4 => ?_)
  · have h4 := of_decide_eq_true hc4
    repeat' (first | refine wpL_seq ?_ | refine wpL_skip ?_ | refine wpL_label ?_ | refine wpL_scope ?_)
    refine wpL_region' [2] fun q hq => ?_
    simp -implicitDefEqProofs (disch := omega) only [go_sem, Int.reduceEq, Int.reduceLT, Int.reduceLE, Int.reduceToNat, Int.reduceNeg, Int.reduceAdd, Int.reduceSub, Nat.reduceEqDiff, Nat.reduceAdd, Nat.reduceMul, Nat.reduceLeDiff, Nat.reduceSub, ↓reduceIte, reduceCtorEq]
    repeat (refine And.intro (by omega) ?_)
    refine hq _ _ _ (by simp only [pickL, lk_cons, Nat.reduceEqDiff, ↓reduceIte]; exact rfl) ?_
    clear hq q
    repeat' (first | refine wpL_seq ?_ | refine wpL_skip ?_ | refine wpL_label ?_ | refine wpL_scope ?_)
    refine wpL_ret (hK' _ _ _ _ (.inr rfl) (resTo (rs' := [.tmp 2]) rfl (by simp only [go_sem, Int.reduceEq, Int.reduceLT, Int.reduceLE, Int.reduceToNat, Int.reduceNeg, Int.reduceAdd, Int.reduceSub, Nat.reduceEqDiff, Nat.reduceAdd, Nat.reduceMul, Nat.reduceLeDiff, Nat.reduceSub, ↓reduceIte, reduceCtorEq]; exact rfl)) ?_)
    rw [eK, if_neg h, if_pos h4]
  have h4 := of_decide_eq_false hc4
  repeat' (first | refine wpL_seq ?_ | refine wpL_skip ?_ | refine wpL_label ?_ | refine wpL_scope ?_)
  refine wpL_region' [2] fun q hq => ?_
  simp -implicitDefEqProofs (disch := omega) only [go_sem, Int.reduceEq, Int.reduceLT, Int.reduceLE, Int.reduceToNat, Int.reduceNeg, Int.reduceAdd, Int.reduceSub, Nat.reduceEqDiff, Nat.reduceAdd, Nat.reduceMul, Nat.reduceLeDiff, Nat.reduceSub, ↓reduceIte, reduceCtorEq]
  repeat (refine And.intro (by omega) ?_)
  refine hq _ _ _ (by simp only [pickL, lk_cons, Nat.reduceEqDiff, ↓reduceIte]; exact rfl) ?_
  clear hq q
  repeat' (first | refine wpL_seq ?_ | refine wpL_skip ?_ | refine wpL_label ?_ | refine wpL_scope ?_)
  refine wpL_ret (hK' _ _ _ _ (.inr rfl) (resTo (rs' := [.tmp 2]) rfl (by simp only [go_sem, Int.reduceEq, Int.reduceLT, Int.reduceLE, Int.reduceToNat, Int.reduceNeg, Int.reduceAdd, Int.reduceSub, Nat.reduceEqDiff, Nat.reduceAdd, Nat.reduceMul, Nat.reduceLeDiff, Nat.reduceSub, ↓reduceIte, reduceCtorEq]; exact rfl)) ?_)
  rw [eK, if_neg h, if_neg h4]
theorem f15_kindOf (s : List UInt8) (hs : s.length ≤ 140737488351232) : wpP Tryd.prog 15 [.str s] (.int .i64 (kindOfL s)) := by
  have q35 := f35_runEnd s 0 (by omega) hs
  rw [Nat.zero_add, List.drop_zero] at q35
  have q11 : wpP Tryd.prog 11 [.str s] (.tup [.int .i32 (ansN (numA s)).1, .int .i64 (ansN (numA s)).2]) := f11_number s hs
  have l1 : wordsL.length = 41 := by unfold wordsL; rfl
  have l2 : signsL.length = 18 := by unfold signsL; rfl
  refine wpP_intro ?_
  refine wpH_intro (fn := Tryd.f15) rfl rfl (by decide) (by kernel_rfl) fun K' hK' => ?_
  repeat' (first | refine wpL_seq ?_ | refine wpL_skip ?_ | refine wpL_label ?_ | refine wpL_scope ?_)
  refine wpL_region' [0] fun q hq => ?_
  simp -implicitDefEqProofs (disch := omega) only [go_sem, Int.reduceEq, Int.reduceLT, Int.reduceLE, Int.reduceToNat, Int.reduceNeg, Int.reduceAdd, Int.reduceSub, Nat.reduceEqDiff, Nat.reduceAdd, Nat.reduceMul, Nat.reduceLeDiff, Nat.reduceSub, ↓reduceIte, reduceCtorEq]
  repeat (refine And.intro (by omega) ?_)
  refine hq _ _ _ (by simp only [pickL, lk_cons, Nat.reduceEqDiff, ↓reduceIte]; exact rfl) ?_
  clear hq q
  repeat' (first | refine wpL_seq ?_ | refine wpL_skip ?_ | refine wpL_label ?_ | refine wpL_scope ?_)
  refine wpL_region' [0, 3] fun q hq => ?_
  simp -implicitDefEqProofs (disch := omega) only [go_sem, Int.reduceEq, Int.reduceLT, Int.reduceLE, Int.reduceToNat, Int.reduceNeg, Int.reduceAdd, Int.reduceSub, Nat.reduceEqDiff, Nat.reduceAdd, Nat.reduceMul, Nat.reduceLeDiff, Nat.reduceSub, ↓reduceIte, reduceCtorEq]
  repeat (refine And.intro (by omega) ?_)
  refine hq _ _ _ (by simp only [pickL, lk_cons, Nat.reduceEqDiff, ↓reduceIte]; exact rfl) ?_
  clear hq q
  repeat' (first | refine wpL_seq ?_ | refine wpL_skip ?_ | refine wpL_label ?_ | refine wpL_scope ?_)
  refine wpL_block fun k1 hn1 hx1 ho1 => ?_
  refine wpL_loop (fun j e h => ∃ i : Nat, i ≤ 41 ∧ j = 41 - i ∧ h = Heap.emp ∧ idxFrom s 10 wordsL = idxFrom s (10 + i) (wordsL.drop i) ∧
    e = lk [(0, .str s), (3, .int .i64 i)]) 41 ⟨0, by omega, by omega, rfl, by simp, rfl⟩ ?_
  rintro j e h ⟨i, hi, rfl, rfl, hI, rfl⟩ k2 hn2 hx2
  repeat' (first | refine wpL_seq ?_ | refine wpL_skip ?_ | refine wpL_label ?_ | refine wpL_scope ?_)
  refine wpL_region' [0, 3, 8] fun q hq => ?_
  simp -implicitDefEqProofs (disch := omega) only [go_sem, Int.reduceEq, Int.reduceLT, Int.reduceLE, Int.reduceToNat, Int.reduceNeg, Int.reduceAdd, Int.reduceSub, Nat.reduceEqDiff, Nat.reduceAdd, Nat.reduceMul, Nat.reduceLeDiff, Nat.reduceSub, ↓reduceIte, reduceCtorEq]
  repeat (refine And.intro (by omega) ?_)
  refine hq _ _ _ (by simp only [pickL, lk_cons, Nat.reduceEqDiff, ↓reduceIte]; exact rfl) ?_
  clear hq q
  repeat' (first | refine wpL_seq ?_ | refine wpL_skip ?_ | refine wpL_label ?_ | refine wpL_scope ?_)
  refine wpL_cond rfl (fun hc3 => ?_) (fun hc3 => ?_)
  · simp at hc3
    obtain ⟨w, hw⟩ := get_of_lt (show i < wordsL.length by omega)
    have hwc := wordsC_at hw
    rw [drop_get hw, idxFrom] at hI
    repeat' (first | refine wpL_seq ?_ | refine wpL_skip ?_ | refine wpL_label ?_ | refine wpL_scope ?_)
    refine wpL_block fun k4 hn4 hx4 ho4 => ?_
    repeat' (first | refine wpL_seq ?_ | refine wpL_skip ?_ | refine wpL_label ?_ | refine wpL_scope ?_)
    refine wpL_region' [0, 3, 15] fun q hq => ?_
    simp -implicitDefEqProofs (disch := omega) only [go_sem, Int.reduceEq, Int.reduceLT, Int.reduceLE, Int.reduceToNat, Int.reduceNeg, Int.reduceAdd, Int.reduceSub, Nat.reduceEqDiff, Nat.reduceAdd, Nat.reduceMul, Nat.reduceLeDiff, Nat.reduceSub, ↓reduceIte, reduceCtorEq, ev_G2, hwc, wordsC_len]
    repeat (refine And.intro (by omega) ?_)
    refine hq _ _ _ (by simp only [pickL, lk_cons, Nat.reduceEqDiff, ↓reduceIte]; exact rfl) ?_
    clear hq q
    repeat' (first | refine wpL_seq ?_ | refine wpL_skip ?_ | refine wpL_label ?_ | refine wpL_scope ?_)
    refine wpL_cond rfl (fun hc5 => ?_) (fun hc5 => ?_)
    · rw [if_pos (of_decide_eq_true hc5)] at hI
      repeat' (first | refine wpL_seq ?_ | refine wpL_skip ?_ | refine wpL_label ?_ | refine wpL_scope ?_)
      refine wpL_region' [2] fun q hq => ?_
      simp -implicitDefEqProofs (disch := omega) only [go_sem, Int.reduceEq, Int.reduceLT, Int.reduceLE, Int.reduceToNat, Int.reduceNeg, Int.reduceAdd, Int.reduceSub, Nat.reduceEqDiff, Nat.reduceAdd, Nat.reduceMul, Nat.reduceLeDiff, Nat.reduceSub, ↓reduceIte, reduceCtorEq]
      repeat (refine And.intro (by omega) ?_)
      refine hq _ _ _ (by simp only [pickL, lk_cons, Nat.reduceEqDiff, ↓reduceIte]; exact rfl) ?_
      clear hq q
      repeat' (first | refine wpL_seq ?_ | refine wpL_skip ?_ | refine wpL_label ?_ | refine wpL_scope ?_)
      refine wpL_ret (ho4 _ _ _ (by simp) (by simp) (hx2 _ _ _ (by simp) (ho1 _ _ _ (by simp) (by simp) (hK' _ _ _ _ (.inr rfl) (resTo (rs' := [.tmp 2]) rfl (by simp only [go_sem, Int.reduceEq, Int.reduceLT, Int.reduceLE, Int.reduceToNat, Int.reduceNeg, Int.reduceAdd, Int.reduceSub, Nat.reduceEqDiff, Nat.reduceAdd, Nat.reduceMul, Nat.reduceLeDiff, Nat.reduceSub, ↓reduceIte, reduceCtorEq]; exact rfl)) ?_))))
      have hk : kindL s = 10 + i := by simp only [kindL, hI]
      rw [kindOfL.eq_def, if_pos (by omega), hk]
    rw [if_neg (of_decide_eq_false hc5)] at hI
    repeat' (first | refine wpL_seq ?_ | refine wpL_skip ?_ | refine wpL_label ?_ | refine wpL_scope ?_)
    refine wpL_nil (hn4 _ _ ?_)
    repeat' (first | refine wpL_seq ?_ | refine wpL_skip ?_ | refine wpL_label ?_ | refine wpL_scope ?_)
    refine wpL_region' [0, 3] fun q hq => ?_
    simp -implicitDefEqProofs (disch := omega) only [go_sem, Int.reduceEq, Int.reduceLT, Int.reduceLE, Int.reduceToNat, Int.reduceNeg, Int.reduceAdd, Int.reduceSub, Nat.reduceEqDiff, Nat.reduceAdd, Nat.reduceMul, Nat.reduceLeDiff, Nat.reduceSub, ↓reduceIte, reduceCtorEq]
    repeat (refine And.intro (by omega) ?_)
    refine hq _ _ _ (by simp only [pickL, lk_cons, Nat.reduceEqDiff, ↓reduceIte]; exact rfl) ?_
    clear hq q
    repeat' (first | refine wpL_seq ?_ | refine wpL_skip ?_ | refine wpL_label ?_ | refine wpL_scope ?_)
    exact wpL_nil (hn2 (41 - (i + 1)) _ _ (by omega) ⟨i + 1, by omega, by omega, rfl, by rw [hI]; congr 1, rfl⟩)
  have hie : i = 41 := by simp at hc3; omega
  subst hie
  rw [List.drop_eq_nil_of_le (by omega), idxFrom] at hI
  repeat' (first | refine wpL_seq ?_ | refine wpL_skip ?_ | refine wpL_label ?_ | refine wpL_scope ?_)
  refine wpL_exit (hx2 _ _ _ (by simp) (hx1 _ _ ?_))
  repeat' (first | refine wpL_seq ?_ | refine wpL_skip ?_ | refine wpL_label ?_ | refine wpL_scope ?_)
  refine wpL_region' [0, 4] fun q hq => ?_
  simp -implicitDefEqProofs (disch := omega) only [go_sem, Int.reduceEq, Int.reduceLT, Int.reduceLE, Int.reduceToNat, Int.reduceNeg, Int.reduceAdd, Int.reduceSub, Nat.reduceEqDiff, Nat.reduceAdd, Nat.reduceMul, Nat.reduceLeDiff, Nat.reduceSub, ↓reduceIte, reduceCtorEq]
  repeat (refine And.intro (by omega) ?_)
  refine hq _ _ _ (by simp only [pickL, lk_cons, Nat.reduceEqDiff, ↓reduceIte]; exact rfl) ?_
  clear hq q
  repeat' (first | refine wpL_seq ?_ | refine wpL_skip ?_ | refine wpL_label ?_ | refine wpL_scope ?_)
  refine wpL_block fun k6 hn6 hx6 ho6 => ?_
  refine wpL_loop (fun j e h => ∃ i : Nat, i ≤ 18 ∧ j = 18 - i ∧ h = Heap.emp ∧ idxFrom s 60 signsL = idxFrom s (60 + i) (signsL.drop i) ∧
    e = lk [(0, .str s), (4, .int .i64 i)]) 18 ⟨0, by omega, by omega, rfl, by simp, rfl⟩ ?_
  clear hi hc3
  rintro j e h ⟨i, hi, rfl, rfl, hJ, rfl⟩ k7 hn7 hx7
  repeat' (first | refine wpL_seq ?_ | refine wpL_skip ?_ | refine wpL_label ?_ | refine wpL_scope ?_)
  refine wpL_region' [0, 4, 19] fun q hq => ?_
  simp -implicitDefEqProofs (disch := omega) only [go_sem, Int.reduceEq, Int.reduceLT, Int.reduceLE, Int.reduceToNat, Int.reduceNeg, Int.reduceAdd, Int.reduceSub, Nat.reduceEqDiff, Nat.reduceAdd, Nat.reduceMul, Nat.reduceLeDiff, Nat.reduceSub, ↓reduceIte, reduceCtorEq]
  repeat (refine And.intro (by omega) ?_)
  refine hq _ _ _ (by simp only [pickL, lk_cons, Nat.reduceEqDiff, ↓reduceIte]; exact rfl) ?_
  clear hq q
  repeat' (first | refine wpL_seq ?_ | refine wpL_skip ?_ | refine wpL_label ?_ | refine wpL_scope ?_)
  refine wpL_cond rfl (fun hc8 => ?_) (fun hc8 => ?_)
  · simp at hc8
    obtain ⟨w, hw⟩ := get_of_lt (show i < signsL.length by omega)
    have hwc := signsC_at hw
    rw [drop_get hw, idxFrom] at hJ
    repeat' (first | refine wpL_seq ?_ | refine wpL_skip ?_ | refine wpL_label ?_ | refine wpL_scope ?_)
    refine wpL_block fun k9 hn9 hx9 ho9 => ?_
    repeat' (first | refine wpL_seq ?_ | refine wpL_skip ?_ | refine wpL_label ?_ | refine wpL_scope ?_)
    refine wpL_region' [0, 4, 26] fun q hq => ?_
    simp -implicitDefEqProofs (disch := omega) only [go_sem, Int.reduceEq, Int.reduceLT, Int.reduceLE, Int.reduceToNat, Int.reduceNeg, Int.reduceAdd, Int.reduceSub, Nat.reduceEqDiff, Nat.reduceAdd, Nat.reduceMul, Nat.reduceLeDiff, Nat.reduceSub, ↓reduceIte, reduceCtorEq, ev_G3, hwc, signsC_len]
    repeat (refine And.intro (by omega) ?_)
    refine hq _ _ _ (by simp only [pickL, lk_cons, Nat.reduceEqDiff, ↓reduceIte]; exact rfl) ?_
    clear hq q
    repeat' (first | refine wpL_seq ?_ | refine wpL_skip ?_ | refine wpL_label ?_ | refine wpL_scope ?_)
    refine wpL_cond rfl (fun hc10 => ?_) (fun hc10 => ?_)
    · rw [if_pos (of_decide_eq_true hc10)] at hJ
      repeat' (first | refine wpL_seq ?_ | refine wpL_skip ?_ | refine wpL_label ?_ | refine wpL_scope ?_)
      refine wpL_region' [2] fun q hq => ?_
      simp -implicitDefEqProofs (disch := omega) only [go_sem, Int.reduceEq, Int.reduceLT, Int.reduceLE, Int.reduceToNat, Int.reduceNeg, Int.reduceAdd, Int.reduceSub, Nat.reduceEqDiff, Nat.reduceAdd, Nat.reduceMul, Nat.reduceLeDiff, Nat.reduceSub, ↓reduceIte, reduceCtorEq]
      repeat (refine And.intro (by omega) ?_)
      refine hq _ _ _ (by simp only [pickL, lk_cons, Nat.reduceEqDiff, ↓reduceIte]; exact rfl) ?_
      clear hq q
      repeat' (first | refine wpL_seq ?_ | refine wpL_skip ?_ | refine wpL_label ?_ | refine wpL_scope ?_)
      refine wpL_ret (ho9 _ _ _ (by simp) (by simp) (hx7 _ _ _ (by simp) (ho6 _ _ _ (by simp) (by simp) (hK' _ _ _ _ (.inr rfl) (resTo (rs' := [.tmp 2]) rfl (by simp only [go_sem, Int.reduceEq, Int.reduceLT, Int.reduceLE, Int.reduceToNat, Int.reduceNeg, Int.reduceAdd, Int.reduceSub, Nat.reduceEqDiff, Nat.reduceAdd, Nat.reduceMul, Nat.reduceLeDiff, Nat.reduceSub, ↓reduceIte, reduceCtorEq]; exact rfl)) ?_))))
      have hk : kindL s = 60 + i := by simp only [kindL, hI, hJ]
      rw [kindOfL.eq_def, if_pos (by omega), hk]
    rw [if_neg (of_decide_eq_false hc10)] at hJ
    repeat' (first | refine wpL_seq ?_ | refine wpL_skip ?_ | refine wpL_label ?_ | refine wpL_scope ?_)
    refine wpL_nil (hn9 _ _ ?_)
    repeat' (first | refine wpL_seq ?_ | refine wpL_skip ?_ | refine wpL_label ?_ | refine wpL_scope ?_)
    refine wpL_region' [0, 4] fun q hq => ?_
    simp -implicitDefEqProofs (disch := omega) only [go_sem, Int.reduceEq, Int.reduceLT, Int.reduceLE, Int.reduceToNat, Int.reduceNeg, Int.reduceAdd, Int.reduceSub, Nat.reduceEqDiff, Nat.reduceAdd, Nat.reduceMul, Nat.reduceLeDiff, Nat.reduceSub, ↓reduceIte, reduceCtorEq]
    repeat (refine And.intro (by omega) ?_)
    refine hq _ _ _ (by simp only [pickL, lk_cons, Nat.reduceEqDiff, ↓reduceIte]; exact rfl) ?_
    clear hq q
    repeat' (first | refine wpL_seq ?_ | refine wpL_skip ?_ | refine wpL_label ?_ | refine wpL_scope ?_)
    exact wpL_nil (hn7 (18 - (i + 1)) _ _ (by omega) ⟨i + 1, by omega, by omega, rfl, by rw [hJ]; congr 1, rfl⟩)
  have hie : i = 18 := by simp at hc8; omega
  subst hie
  rw [List.drop_eq_nil_of_le (by omega), idxFrom] at hJ
  repeat' (first | refine wpL_seq ?_ | refine wpL_skip ?_ | refine wpL_label ?_ | refine wpL_scope ?_)
  refine wpL_exit (hx7 _ _ _ (by simp) (hx6 _ _ ?_))
  have hk : kindL s = 0 := by simp only [kindL, hI, hJ]
  repeat' (first | refine wpL_seq ?_ | refine wpL_skip ?_ | refine wpL_label ?_ | refine wpL_scope ?_)
  refine wpL_regV [0] 37 (.bool (decide (s = [] ∨ runN s ≠ s.length))) (by simp only [pickL, put, lk_cons, Int.reduceEq, Int.reduceLT, Int.reduceLE, Int.reduceToNat, Int.reduceNeg, Int.reduceAdd, Int.reduceSub, Nat.reduceEqDiff, Nat.reduceAdd, Nat.reduceMul, Nat.reduceLeDiff, Nat.reduceSub, ↓reduceIte, reduceCtorEq, if_true, if_false]; exact rfl) (by decide) ?_ ?_
  · simp -implicitDefEqProofs (disch := omega) only [go_sem, Int.reduceEq, Int.reduceLT, Int.reduceLE, Int.reduceToNat, Int.reduceNeg, Int.reduceAdd, Int.reduceSub, Nat.reduceEqDiff, Nat.reduceAdd, Nat.reduceMul, Nat.reduceLeDiff, Nat.reduceSub, ↓reduceIte, reduceCtorEq]
    repeat' (first | (refine gN_split2 (fun hs => ?_) (fun hs => ?_) <;> simp -implicitDefEqProofs (disch := omega) only [go_sem, Int.reduceEq, Int.reduceLT, Int.reduceLE, Int.reduceToNat, Int.reduceNeg, Int.reduceAdd, Int.reduceSub, Nat.reduceEqDiff, Nat.reduceAdd, Nat.reduceMul, Nat.reduceLeDiff, Nat.reduceSub, ↓reduceIte, reduceCtorEq, hs]) | refine gN_callP (q35) ?_ | simp -implicitDefEqProofs (disch := omega) only [go_sem, Int.reduceEq, Int.reduceLT, Int.reduceLE, Int.reduceToNat, Int.reduceNeg, Int.reduceAdd, Int.reduceSub, Nat.reduceEqDiff, Nat.reduceAdd, Nat.reduceMul, Nat.reduceLeDiff, Nat.reduceSub, ↓reduceIte, reduceCtorEq] | refine And.intro (by omega) ?_)
    all_goals (try clear hK'; try clear hn1; try clear hx1; try clear ho1; try clear hn2; try clear hx2; try clear hn4; try clear hx4; try clear ho4; try clear hn6; try clear hx6; try clear ho6; try clear hn7; try clear hx7; try clear hn9; try clear hx9; try clear ho9)
    all_goals ((first | rfl | (exfalso; simp at hs; omega) | (simp_all; done) | grind))
  repeat' (first | refine wpL_seq ?_ | refine wpL_skip ?_ | refine wpL_label ?_ | refine wpL_scope ?_)
  refine wpL_cond rfl (fun hc11 => ?_) (fun hc11 => ?_)
  · have h := of_decide_eq_true hc11
    repeat' (first | refine wpL_seq ?_ | refine wpL_skip ?_ | refine wpL_label ?_ | refine wpL_scope ?_)
    refine wpL_region' [2] fun q hq => ?_
    simp -implicitDefEqProofs (disch := omega) only [go_sem, Int.reduceEq, Int.reduceLT, Int.reduceLE, Int.reduceToNat, Int.reduceNeg, Int.reduceAdd, Int.reduceSub, Nat.reduceEqDiff, Nat.reduceAdd, Nat.reduceMul, Nat.reduceLeDiff, Nat.reduceSub, ↓reduceIte, reduceCtorEq]
    repeat (refine And.intro (by omega) ?_)
    refine hq _ _ _ (by simp only [pickL, lk_cons, Nat.reduceEqDiff, ↓reduceIte]; exact rfl) ?_
    clear hq q
    repeat' (first | refine wpL_seq ?_ | refine wpL_skip ?_ | refine wpL_label ?_ | refine wpL_scope ?_)
    refine wpL_ret (hK' _ _ _ _ (.inr rfl) (resTo (rs' := [.tmp 2]) rfl (by simp only [go_sem, Int.reduceEq, Int.reduceLT, Int.reduceLE, Int.reduceToNat, Int.reduceNeg, Int.reduceAdd, Int.reduceSub, Nat.reduceEqDiff, Nat.reduceAdd, Nat.reduceMul, Nat.reduceLeDiff, Nat.reduceSub, ↓reduceIte, reduceCtorEq]; exact rfl)) ?_)
    by_cases he : s = []
    · rw [kindOfL.eq_def, if_neg (by simp [hk]), he]
    · have hr : runN s ≠ s.length := by rcases h with h | h; exact absurd h he; exact h
      have hz : ¬ (ansN (numA s)).2 = 0 := fun hz => hr (run_all (num_look hz).1)
      obtain ⟨c, t, hct⟩ : ∃ c t, s = c :: t := by
        cases s with
        | nil => exact absurd rfl he
        | cons c t => exact ⟨c, t, rfl⟩
      have eK : kindOfL s = if isLet c = true ∧ s.length ≤ 32 ∧ runN s = s.length then 1 else if (ansN (numA s)).2 = 0 then 2 else -1 := by
        rw [kindOfL.eq_def, if_neg (by simp [hk]), hct]
      rw [eK, if_neg (fun hh => hr hh.2.2), if_neg hz]
  have h := of_decide_eq_false hc11
  have he : s ≠ [] := fun he => h (.inl he)
  have hr : runN s = s.length := Classical.byContradiction fun hr => h (.inr hr)
  obtain ⟨c, t, hct⟩ : ∃ c t, s = c :: t := by
    cases s with
    | nil => exact absurd rfl he
    | cons c t => exact ⟨c, t, rfl⟩
  have h0 : s[0]? = some c := by rw [hct]; rfl
  have eK : kindOfL s = if isLet c = true ∧ s.length ≤ 32 ∧ runN s = s.length then 1 else if (ansN (numA s)).2 = 0 then 2 else -1 := by
    rw [kindOfL.eq_def, if_neg (by simp [hk]), hct]
  repeat' (first | refine wpL_seq ?_ | refine wpL_skip ?_ | refine wpL_label ?_ | refine wpL_scope ?_)
  refine wpL_region' [0, 40] fun q hq => ?_
  simp -implicitDefEqProofs (disch := omega) only [go_sem, Int.reduceEq, Int.reduceLT, Int.reduceLE, Int.reduceToNat, Int.reduceNeg, Int.reduceAdd, Int.reduceSub, Nat.reduceEqDiff, Nat.reduceAdd, Nat.reduceMul, Nat.reduceLeDiff, Nat.reduceSub, ↓reduceIte, reduceCtorEq, h0]
  repeat (refine And.intro (by omega) ?_)
  refine gN_callP (f36_letter c) ?_
  simp -implicitDefEqProofs (disch := omega) only [go_sem, Int.reduceEq, Int.reduceLT, Int.reduceLE, Int.reduceToNat, Int.reduceNeg, Int.reduceAdd, Int.reduceSub, Nat.reduceEqDiff, Nat.reduceAdd, Nat.reduceMul, Nat.reduceLeDiff, Nat.reduceSub, ↓reduceIte, reduceCtorEq, h0]
  repeat (refine And.intro (by omega) ?_)
  refine hq _ _ _ (by simp only [pickL, lk_cons, Nat.reduceEqDiff, ↓reduceIte]; exact rfl) ?_
  clear hq q
  repeat' (first | refine wpL_seq ?_ | refine wpL_skip ?_ | refine wpL_label ?_ | refine wpL_scope ?_)
  refine wpL_cond rfl (fun hc12 => ?_) (fun hc12 => ?_)
  · repeat' (first | refine wpL_seq ?_ | refine wpL_skip ?_ | refine wpL_label ?_ | refine wpL_scope ?_)
    refine wpL_region' [43] fun q hq => ?_
    simp -implicitDefEqProofs (disch := omega) only [go_sem, Int.reduceEq, Int.reduceLT, Int.reduceLE, Int.reduceToNat, Int.reduceNeg, Int.reduceAdd, Int.reduceSub, Nat.reduceEqDiff, Nat.reduceAdd, Nat.reduceMul, Nat.reduceLeDiff, Nat.reduceSub, ↓reduceIte, reduceCtorEq]
    repeat (refine And.intro (by omega) ?_)
    refine hq _ _ _ (by simp only [pickL, lk_cons, Nat.reduceEqDiff, ↓reduceIte]; exact rfl) ?_
    clear hq q
    have hz : ¬ (ansN (numA s)).2 = 0 := fun hz => by
      obtain ⟨_, c', t', h1, h2⟩ := num_look hz
      rw [hct] at h1
      cases h1
      rw [dig_let h2] at hc12; cases hc12
    repeat' (first | refine wpL_seq ?_ | refine wpL_skip ?_ | refine wpL_label ?_ | refine wpL_scope ?_)
    refine wpL_cond rfl (fun hc13 => ?_) (fun hc13 => ?_)
    · have h13 := of_decide_eq_true hc13
      repeat' (first | refine wpL_seq ?_ | refine wpL_skip ?_ | refine wpL_label ?_ | refine wpL_scope ?_)
      refine wpL_region' [2] fun q hq => ?_
      simp -implicitDefEqProofs (disch := omega) only [go_sem, Int.reduceEq, Int.reduceLT, Int.reduceLE, Int.reduceToNat, Int.reduceNeg, Int.reduceAdd, Int.reduceSub, Nat.reduceEqDiff, Nat.reduceAdd, Nat.reduceMul, Nat.reduceLeDiff, Nat.reduceSub, ↓reduceIte, reduceCtorEq]
      repeat (refine And.intro (by omega) ?_)
      refine hq _ _ _ (by simp only [pickL, lk_cons, Nat.reduceEqDiff, ↓reduceIte]; exact rfl) ?_
      clear hq q
      repeat' (first | refine wpL_seq ?_ | refine wpL_skip ?_ | refine wpL_label ?_ | refine wpL_scope ?_)
      refine wpL_ret (hK' _ _ _ _ (.inr rfl) (resTo (rs' := [.tmp 2]) rfl (by simp only [go_sem, Int.reduceEq, Int.reduceLT, Int.reduceLE, Int.reduceToNat, Int.reduceNeg, Int.reduceAdd, Int.reduceSub, Nat.reduceEqDiff, Nat.reduceAdd, Nat.reduceMul, Nat.reduceLeDiff, Nat.reduceSub, ↓reduceIte, reduceCtorEq]; exact rfl)) ?_)
      rw [eK, if_neg (fun hh => by omega), if_neg hz]
    · have h13 := of_decide_eq_false hc13
      repeat' (first | refine wpL_seq ?_ | refine wpL_skip ?_ | refine wpL_label ?_ | refine wpL_scope ?_)
      refine wpL_region' [2] fun q hq => ?_
      simp -implicitDefEqProofs (disch := omega) only [go_sem, Int.reduceEq, Int.reduceLT, Int.reduceLE, Int.reduceToNat, Int.reduceNeg, Int.reduceAdd, Int.reduceSub, Nat.reduceEqDiff, Nat.reduceAdd, Nat.reduceMul, Nat.reduceLeDiff, Nat.reduceSub, ↓reduceIte, reduceCtorEq]
      repeat (refine And.intro (by omega) ?_)
      refine hq _ _ _ (by simp only [pickL, lk_cons, Nat.reduceEqDiff, ↓reduceIte]; exact rfl) ?_
      clear hq q
      repeat' (first | refine wpL_seq ?_ | refine wpL_skip ?_ | refine wpL_label ?_ | refine wpL_scope ?_)
      refine wpL_ret (hK' _ _ _ _ (.inr rfl) (resTo (rs' := [.tmp 2]) rfl (by simp only [go_sem, Int.reduceEq, Int.reduceLT, Int.reduceLE, Int.reduceToNat, Int.reduceNeg, Int.reduceAdd, Int.reduceSub, Nat.reduceEqDiff, Nat.reduceAdd, Nat.reduceMul, Nat.reduceLeDiff, Nat.reduceSub, ↓reduceIte, reduceCtorEq]; exact rfl)) ?_)
      rw [eK, if_pos ⟨hc12, by omega, hr⟩]
  repeat' (first | refine wpL_seq ?_ | refine wpL_skip ?_ | refine wpL_label ?_ | refine wpL_scope ?_)
  refine wpL_region' [6] fun q hq => ?_
  simp -implicitDefEqProofs (disch := omega) only [go_sem, Int.reduceEq, Int.reduceLT, Int.reduceLE, Int.reduceToNat, Int.reduceNeg, Int.reduceAdd, Int.reduceSub, Nat.reduceEqDiff, Nat.reduceAdd, Nat.reduceMul, Nat.reduceLeDiff, Nat.reduceSub, ↓reduceIte, reduceCtorEq]
  repeat (refine And.intro (by omega) ?_)
  refine gN_callP (q11) ?_
  simp -implicitDefEqProofs (disch := omega) only [go_sem, Int.reduceEq, Int.reduceLT, Int.reduceLE, Int.reduceToNat, Int.reduceNeg, Int.reduceAdd, Int.reduceSub, Nat.reduceEqDiff, Nat.reduceAdd, Nat.reduceMul, Nat.reduceLeDiff, Nat.reduceSub, ↓reduceIte, reduceCtorEq]
  repeat (refine And.intro (by omega) ?_)
  refine hq _ _ _ (by simp only [pickL, lk_cons, Nat.reduceEqDiff, ↓reduceIte]; exact rfl) ?_
  clear hq q
  repeat' (first | refine wpL_seq ?_ | refine wpL_skip ?_ | refine wpL_label ?_ | refine wpL_scope ?_)
  refine wpL_region' [50] fun q hq => ?_
  simp -implicitDefEqProofs (disch := omega) only [go_sem, Int.reduceEq, Int.reduceLT, Int.reduceLE, Int.reduceToNat, Int.reduceNeg, Int.reduceAdd, Int.reduceSub, Nat.reduceEqDiff, Nat.reduceAdd, Nat.reduceMul, Nat.reduceLeDiff, Nat.reduceSub, ↓reduceIte, reduceCtorEq]
  repeat (refine And.intro (by omega) ?_)
  refine hq _ _ _ (by simp only [pickL, lk_cons, Nat.reduceEqDiff, ↓reduceIte]; exact rfl) ?_
  clear hq q
  repeat' (first | refine wpL_seq ?_ | refine wpL_skip ?_ | refine wpL_label ?_ | refine wpL_scope ?_)
  refine wpL_cond rfl (fun hc14 => ?_) (fun hc14 => ?_)
  · have h14 : ¬ (ansN (numA s)).2 = 0 := by simpa using hc14
    repeat' (first | refine wpL_seq ?_ | refine wpL_skip ?_ | refine wpL_label ?_ | refine wpL_scope ?_)
    refine wpL_region' [2] fun q hq => ?_
    simp -implicitDefEqProofs (disch := omega) only [go_sem, Int.reduceEq, Int.reduceLT, Int.reduceLE, Int.reduceToNat, Int.reduceNeg, Int.reduceAdd, Int.reduceSub, Nat.reduceEqDiff, Nat.reduceAdd, Nat.reduceMul, Nat.reduceLeDiff, Nat.reduceSub, ↓reduceIte, reduceCtorEq]
    repeat (refine And.intro (by omega) ?_)
    refine hq _ _ _ (by simp only [pickL, lk_cons, Nat.reduceEqDiff, ↓reduceIte]; exact rfl) ?_
    clear hq q
    repeat' (first | refine wpL_seq ?_ | refine wpL_skip ?_ | refine wpL_label ?_ | refine wpL_scope ?_)
    refine wpL_ret (hK' _ _ _ _ (.inr rfl) (resTo (rs' := [.tmp 2]) rfl (by simp only [go_sem, Int.reduceEq, Int.reduceLT, Int.reduceLE, Int.reduceToNat, Int.reduceNeg, Int.reduceAdd, Int.reduceSub, Nat.reduceEqDiff, Nat.reduceAdd, Nat.reduceMul, Nat.reduceLeDiff, Nat.reduceSub, ↓reduceIte, reduceCtorEq]; exact rfl)) ?_)
    rw [eK, if_neg (by simp [hc12]), if_neg h14]
  have h14 : (ansN (numA s)).2 = 0 := by simpa using hc14
  repeat' (first | refine wpL_seq ?_ | refine wpL_skip ?_ | refine wpL_label ?_ | refine wpL_scope ?_)
  refine wpL_region' [2] fun q hq => ?_
  simp -implicitDefEqProofs (disch := omega) only [go_sem, Int.reduceEq, Int.reduceLT, Int.reduceLE, Int.reduceToNat, Int.reduceNeg, Int.reduceAdd, Int.reduceSub, Nat.reduceEqDiff, Nat.reduceAdd, Nat.reduceMul, Nat.reduceLeDiff, Nat.reduceSub, ↓reduceIte, reduceCtorEq]
  repeat (refine And.intro (by omega) ?_)
  refine hq _ _ _ (by simp only [pickL, lk_cons, Nat.reduceEqDiff, ↓reduceIte]; exact rfl) ?_
  clear hq q
  repeat' (first | refine wpL_seq ?_ | refine wpL_skip ?_ | refine wpL_label ?_ | refine wpL_scope ?_)
  refine wpL_ret (hK' _ _ _ _ (.inr rfl) (resTo (rs' := [.tmp 2]) rfl (by simp only [go_sem, Int.reduceEq, Int.reduceLT, Int.reduceLE, Int.reduceToNat, Int.reduceNeg, Int.reduceAdd, Int.reduceSub, Nat.reduceEqDiff, Nat.reduceAdd, Nat.reduceMul, Nat.reduceLeDiff, Nat.reduceSub, ↓reduceIte, reduceCtorEq]; exact rfl)) ?_)
  rw [eK, if_neg (by simp [hc12]), if_pos h14]
end Go.Proofs.YtlalbjkdlkhjiaaDoor.Am.L
