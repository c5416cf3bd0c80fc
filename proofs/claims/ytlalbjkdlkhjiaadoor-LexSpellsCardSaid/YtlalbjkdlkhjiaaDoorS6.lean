/- Numbers. -/
import Derived.Test.YtlalbjkdlkhjiaaDoorS5
namespace Go.Proofs.YtlalbjkdlkhjiaaDoor.Am.L
set_option linter.unusedSectionVars false
open Go Go.Proofs Am
set_option linter.unusedVariables false
set_option linter.unusedSimpArgs false
set_option maxRecDepth 100000
attribute [local irreducible] gO gN gW gdO

theorem ixb_spec (c : UInt8) : ∀ (a b : List UInt8), c ∉ a → Lib.indexByte (a ++ c :: b) c = a.length
  | [], b, _ => by simp [Lib.indexByte]
  | x :: a, b, h => by
    have h1 : x ≠ c := fun e => h (by simp [e])
    have ih := ixb_spec c a b fun hm => h (by simp [hm])
    simp only [List.cons_append, Lib.indexByte, ih, List.length_cons]
    rw [if_neg (by simpa using h1), if_neg (by simp)]
    push_cast; rfl
theorem ixb_none (c : UInt8) : ∀ (a : List UInt8), c ∉ a → Lib.indexByte a c = -1
  | [], _ => rfl
  | x :: a, h => by
    have h1 : x ≠ c := fun e => h (by simp [e])
    have ih := ixb_none c a fun hm => h (by simp [hm])
    simp [Lib.indexByte, ih, h1]
theorem cutB_at (c : UInt8) (a b : List UInt8) (h : c ∉ a) : cutB (a ++ c :: b) c = (a, b, true) := by
  rw [cutB, ixb_spec c a b h, if_pos (by omega)]
  simp
theorem cutB_end (c : UInt8) (a : List UInt8) (h : c ∉ a) : cutB a c = (a, [], false) := by
  rw [cutB, ixb_none c a h, if_neg (by omega)]

theorem dv10 (c : UInt8) : (dv c ≥ 10) = (isDig c = false) := by
  unfold dv
  cases h : isDig c with
  | true =>
    simp only [if_true]
    simp only [isDig, Bool.and_eq_true, decide_eq_true_eq] at h
    simp; omega
  | false =>
    simp only [Bool.false_eq_true, if_false]
    split
    · simp; omega
    · split
      · simp; omega
      · simp
theorem digA10 : ∀ (l : List UInt8) (p : Option UInt8) (v : Int), (digA 10 false p v l).isSome = l.all isDig
  | [], p, v => rfl
  | c :: l, p, v => by
    rw [digA, if_neg (by simp), List.all_cons]
    cases h : isDig c with
    | true => rw [if_neg (by rw [dv10]; simp [h]), digA10 l]; rfl
    | false => rw [if_pos (by rw [dv10]; exact h)]; rfl
theorem digits10 (s : List UInt8) : (digitsL 10 false s).2 = (s.all isDig && !s.isEmpty) := by
  have := digA10 s none 0
  unfold digitsL
  cases h : digA 10 false none 0 s with
  | none => rw [h] at this; rw [← this]; rfl
  | some v => rw [h] at this; rw [← this]; rfl
theorem digN_app : ∀ {a b : List UInt8} {u : UInt8}, a.all isDig = true → isDig u = false → digN (a ++ u :: b) = a.length
  | [], b, u, _, hu => by simp [digN, hu]
  | c :: a, b, u, h, hu => by
    simp only [List.all_cons, Bool.and_eq_true] at h
    simp [digN, h.1, digN_app h.2 hu]
theorem digN_all : ∀ s : List UInt8, (s.take (digN s)).all isDig = true
  | [] => rfl
  | c :: s => by
    rw [digN]
    cases h : isDig c with
    | true => simp [h]; simpa using digN_all s
    | false => simp
theorem unit_cut {s : List UInt8} {u : UInt8} (hu : isDig u = false) (h : unitAt s u = true) : cutB s u = (s.take (digN s), s.drop (digN s + 1), true) ∧ (digitsL 10 false (s.take (digN s))).2 = true := by
  simp only [unitAt, Bool.and_eq_true, decide_eq_true_eq] at h
  obtain ⟨h0, h1⟩ := h
  have ha := digN_all s
  have hl := digN_le s
  have e : s.take (digN s) ++ u :: s.drop (digN s + 1) = s := by
    have := List.take_append_drop (digN s) s
    rwa [drop_get h1] at this
  refine ⟨?_, ?_⟩
  · have := cutB_at u (s.take (digN s)) (s.drop (digN s + 1)) fun hm => by
      have := List.all_eq_true.1 ha u hm
      rw [hu] at this; cases this
    rwa [e] at this
  · rw [digits10, ha]
    have : (s.take (digN s)).length ≠ 0 := by rw [List.length_take]; omega
    cases hc : s.take (digN s) with
    | nil => rw [hc] at this; exact absurd rfl this
    | cons x l => rfl
theorem not_unit {s : List UInt8} {u : UInt8} (hu : isDig u = false) (h : unitAt s u = false) : (u ∉ s ∧ (cutB s u).2.2 = false) ∨ (u ∈ s ∧ (cutB s u).2.2 = true ∧ (digitsL 10 false (cutB s u).1).2 = false) := by
  by_cases hm : u ∈ s
  · right
    obtain ⟨a, b, rfl, ha⟩ := List.eq_append_cons_of_mem hm
    rw [cutB_at u a b ha]
    refine ⟨hm, rfl, ?_⟩
    rw [digits10]
    cases hd : a.all isDig with
    | false => rfl
    | true =>
      cases a with
      | nil => rfl
      | cons c l =>
        exfalso
        have e := digN_app (b := b) hd hu
        rw [unitAt, e] at h
        simp at h
  · left
    exact ⟨hm, by rw [cutB_end u s hm]⟩
theorem durG_has {u : UInt8} (hu : isDig u = false) : ∀ (l : List (UInt8 × Int)) (n : Int) (any : Bool) (s : List UInt8), (∀ p ∈ l, p.1 ≠ u) → u ∈ s → (durG l n any s).2 = false
  | [], n, any, s, _, hm => by
    cases s with
    | nil => cases hm
    | cons c s => simp [durG]
  | q :: l, n, any, s, hl, hm => by
    rw [durG]
    split
    · rename_i hq
      refine durG_has hu l _ _ _ (fun p hp => hl p (List.mem_cons_of_mem _ hp)) ?_
      simp only [unitAt, Bool.and_eq_true, decide_eq_true_eq] at hq
      have e : s.take (digN s) ++ q.1 :: s.drop (digN s + 1) = s := by
        have := List.take_append_drop (digN s) s
        rwa [drop_get hq.2] at this
      rw [← e] at hm
      rcases List.mem_append.1 hm with h | h
      · have := List.all_eq_true.1 (digN_all s) u h
        rw [hu] at this; cases this
      · rcases List.mem_cons.1 h with h | h
        · exact absurd h.symm (hl q List.mem_cons_self)
        · exact h
    · exact durG_has hu l _ _ _ (fun p hp => hl p (List.mem_cons_of_mem _ hp)) hm
def Alike (a b : Int × Bool) : Prop := a.2 = b.2 ∧ (a.2 = true → b.1 = min a.1 huge)
theorem dur_alike : ∀ (l : List (UInt8 × Int)) (v n : Int) (any : Bool) (s : List UInt8), (∀ p ∈ l, isDig p.1 = false ∧ 0 ≤ p.2) → (l.map Prod.fst).Nodup → 0 ≤ v → n = min v huge → Alike (durF l v any s) (durG l n any s)
  | [], v, n, any, s, _, _, _, hn => ⟨rfl, fun _ => hn⟩
  | u :: l, v, n, any, s, hl, hd, hv, hn => by
    have hu := hl u List.mem_cons_self
    have hl' : ∀ p ∈ l, isDig p.1 = false ∧ 0 ≤ p.2 := fun p hp => hl p (List.mem_cons_of_mem _ hp)
    simp only [List.map_cons, List.nodup_cons] at hd
    rw [durF, durG]
    cases hx : unitAt s u.1 with
    | true =>
      obtain ⟨e1, e2⟩ := unit_cut hu.1 hx
      rw [e1, if_pos rfl, if_pos e2, if_pos rfl]
      have hdg := digits_in 10 false (by omega) (s.take (digN s))
      have hm : 0 ≤ (digitsL 10 false (s.take (digN s))).1 * u.2 := Int.mul_nonneg hdg.1 hu.2
      have hh : (0 : Int) ≤ huge := by decide
      show Alike (durF l (v + (digitsL 10 false (s.take (digN s))).1 * u.2) true (s.drop (digN s + 1))) _
      generalize (digitsL 10 false (s.take (digN s))).1 * u.2 = M at hm ⊢
      exact dur_alike l _ _ _ _ hl' hd.2 (by omega) (by omega)
    | false =>
      simp only [Bool.false_eq_true, if_false]
      rcases not_unit hu.1 hx with ⟨h1, h2⟩ | ⟨h1, h2, h3⟩
      · rw [if_neg (by simp [h2])]
        exact dur_alike l _ _ _ _ hl' hd.2 hv hn
      · rw [if_pos h2, if_neg (by simp [h3])]
        have := durG_has hu.1 l n any s (fun p hp he => hd.1 (List.mem_map.2 ⟨p, hp, he⟩)) h1
        exact ⟨this.symm, fun h => by cases h⟩
theorem dur_both (s : List UInt8) : Alike (durL s) (durR s) := by
  refine dur_alike units 0 0 false s (fun p hp => ?_) (by decide) (by decide) (by decide)
  simp only [units, List.mem_cons, List.not_mem_nil, or_false] at hp
  rcases hp with rfl | rfl | rfl <;> exact ⟨by decide, by decide⟩
/-- A number's answer. -/
def ansN (p : Int × Bool) : Int × Int := if p.2 = true then (if p.1 > 2147483647 then (0, 23) else (p.1, 0)) else (0, 22)
theorem ans_alike {a b : Int × Bool} (h : Alike a b) : ansN a = ansN b := by
  obtain ⟨h1, h2⟩ := h
  unfold ansN
  rw [← h1]
  by_cases ha : a.2 = true
  · rw [if_pos ha, if_pos ha]
    have := h2 ha
    have hh : huge = 1099511627776 := rfl
    by_cases hb : a.1 > 2147483647
    · rw [if_pos hb, if_pos (by omega)]
    · rw [if_neg hb, if_neg (by omega), show b.1 = a.1 by omega]
  · rw [if_neg ha, if_neg ha]
def numA (s : List UInt8) : Int × Bool := if (digitsL 10 true s).2 = true then digitsL 10 true s else if hexB s = true then digitsL 16 true (s.drop 2) else durL s
def numB0 (s : List UInt8) : Int × Bool := if (digitsL 10 true s).2 = false ∧ 2 < s.length ∧ hexB s = true then digitsL 16 true (s.drop 2) else digitsL 10 true s
def numB (s : List UInt8) : Int × Bool := if (numB0 s).2 = true then numB0 s else durR s
theorem durR_hex {s : List UInt8} (h : hexB s = true) : (durR s).2 = false := by
  have h := of_decide_eq_true h
  have hs : s = 48 :: 120 :: s.drop 2 := by
    have := List.take_append_drop 2 s
    rw [h] at this; exact this.symm
  have hd : digN s = 1 := by rw [hs]; simp [digN, isDig]
  have h1 : s[1]? = some 120 := by rw [hs]; rfl
  have hu : ∀ u : UInt8, u ≠ 120 → unitAt s u = false := fun u hu => by rw [unitAt, hd, h1]; simp [Ne.symm hu]
  simp only [durR, units, durG, hu 104 (by decide), hu 109 (by decide), hu 115 (by decide), Bool.false_eq_true, if_false, Bool.false_and]
theorem num_both (s : List UInt8) : ansN (numA s) = ansN (numB s) := by
  unfold numA numB numB0
  by_cases hd : (digitsL 10 true s).2 = true
  · simp [hd]
  · have hd' : (digitsL 10 true s).2 = false := by simpa using hd
    by_cases hx : hexB s = true
    · have hr := durR_hex hx
      by_cases hl : 2 < s.length
      · by_cases he : (digitsL 16 true (s.drop 2)).2 = true
        · simp [hd', hx, hl, he]
        · have he' : (digitsL 16 true (s.drop 2)).2 = false := by simpa using he
          simp [hd', hx, hl, he']
          unfold ansN
          simp [he', hr]
      · have h0 : s.drop 2 = [] := List.drop_eq_nil_of_le (by omega)
        have h1 : digitsL 16 true [] = (0, false) := rfl
        simp [hd', hx, hl, h0, h1]
        unfold ansN
        simp [hr]
    · simp [hd', hx]
      exact ans_alike (dur_both s)
end Go.Proofs.YtlalbjkdlkhjiaaDoor.Am.L
