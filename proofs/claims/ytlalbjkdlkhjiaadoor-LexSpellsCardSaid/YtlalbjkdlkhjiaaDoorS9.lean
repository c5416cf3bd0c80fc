/- LexSpells: the law; what came in; the tables as they are laid. -/
import Derived.Test.YtlalbjkdlkhjiaaDoorS8
import Derived.Test.YtlalbjkdlkhjiaaDoorAm18
import Derived.Test.YtlalbjkdlkhjiaaDoorRows
namespace Go.Proofs.YtlalbjkdlkhjiaaDoor.Am.L
set_option linter.unusedSectionVars false
open Go Go.Proofs Am
set_option linter.unusedVariables false
set_option linter.unusedSimpArgs false
set_option maxRecDepth 100000
section
attribute [local irreducible] gO gN gW gdO
theorem f3_spells (k : Int) (s : List UInt8) (hs : s.length ≤ 140737488351232) : wpP Tryd.prog 3 [.int .i64 k, .str s] (.bool true) := by
  have q10 : wpP Tryd.prog 10 [.str s] (.tup [.int .i32 (ansN (numA s)).1, .int .i64 (ansN (numA s)).2]) := f10_number s hs
  have q11 : wpP Tryd.prog 11 [.str s] (.tup [.int .i32 (ansN (numA s)).1, .int .i64 (ansN (numA s)).2]) := f11_number s hs
  have q12 := f12_word k
  have q13 := f13_word k
  have q14 := f14_kindOf s hs
  have q15 := f15_kindOf s hs
  generalize ansN (numA s) = N at *
  generalize wordL k = W at *
  generalize kindOfL s = K at *
  refine wpP_intro ?_
  refine wpH_intro (fn := Tryd.f3) rfl rfl (by decide) (by kernel_rfl) fun K' hK' => ?_
  repeat' (first | refine wpL_seq ?_ | refine wpL_skip ?_ | refine wpL_label ?_ | refine wpL_scope ?_)
  refine wpL_region' [0, 1] fun q hq => ?_
  simp -implicitDefEqProofs (disch := omega) only [go_sem, Int.reduceEq, Int.reduceLT, Int.reduceLE, Int.reduceToNat, Int.reduceNeg, Int.reduceAdd, Int.reduceSub, Nat.reduceEqDiff, Nat.reduceAdd, Nat.reduceMul, Nat.reduceLeDiff, Nat.reduceSub, ↓reduceIte, reduceCtorEq]
  repeat (refine And.intro (by omega) ?_)
  refine hq _ _ _ (by simp only [pickL, lk_cons, Nat.reduceEqDiff, ↓reduceIte]; exact rfl) ?_
  clear hq q
  repeat' (first | refine wpL_seq ?_ | refine wpL_skip ?_ | refine wpL_label ?_ | refine wpL_scope ?_)
  refine wpL_region' [0, 1, 5, 6] fun q hq => ?_
  simp -implicitDefEqProofs (disch := omega) only [go_sem, Int.reduceEq, Int.reduceLT, Int.reduceLE, Int.reduceToNat, Int.reduceNeg, Int.reduceAdd, Int.reduceSub, Nat.reduceEqDiff, Nat.reduceAdd, Nat.reduceMul, Nat.reduceLeDiff, Nat.reduceSub, ↓reduceIte, reduceCtorEq]
  repeat (refine And.intro (by omega) ?_)
  refine gN_callP (q10) ?_
  simp -implicitDefEqProofs (disch := omega) only [go_sem, Int.reduceEq, Int.reduceLT, Int.reduceLE, Int.reduceToNat, Int.reduceNeg, Int.reduceAdd, Int.reduceSub, Nat.reduceEqDiff, Nat.reduceAdd, Nat.reduceMul, Nat.reduceLeDiff, Nat.reduceSub, ↓reduceIte, reduceCtorEq]
  repeat (refine And.intro (by omega) ?_)
  refine hq _ _ _ (by simp only [pickL, lk_cons, Nat.reduceEqDiff, ↓reduceIte]; exact rfl) ?_
  clear hq q
  repeat' (first | refine wpL_seq ?_ | refine wpL_skip ?_ | refine wpL_label ?_ | refine wpL_scope ?_)
  refine wpL_region' [0, 1, 5, 6, 7, 8] fun q hq => ?_
  simp -implicitDefEqProofs (disch := omega) only [go_sem, Int.reduceEq, Int.reduceLT, Int.reduceLE, Int.reduceToNat, Int.reduceNeg, Int.reduceAdd, Int.reduceSub, Nat.reduceEqDiff, Nat.reduceAdd, Nat.reduceMul, Nat.reduceLeDiff, Nat.reduceSub, ↓reduceIte, reduceCtorEq]
  repeat (refine And.intro (by omega) ?_)
  refine gN_callP (q11) ?_
  simp -implicitDefEqProofs (disch := omega) only [go_sem, Int.reduceEq, Int.reduceLT, Int.reduceLE, Int.reduceToNat, Int.reduceNeg, Int.reduceAdd, Int.reduceSub, Nat.reduceEqDiff, Nat.reduceAdd, Nat.reduceMul, Nat.reduceLeDiff, Nat.reduceSub, ↓reduceIte, reduceCtorEq]
  repeat (refine And.intro (by omega) ?_)
  refine hq _ _ _ (by simp only [pickL, lk_cons, Nat.reduceEqDiff, ↓reduceIte]; exact rfl) ?_
  clear hq q
  repeat' (first | refine wpL_seq ?_ | refine wpL_skip ?_ | refine wpL_label ?_ | refine wpL_scope ?_)
  refine wpL_regV [] 4 (.bool true) (by simp only [pickL, put, lk_cons, Int.reduceEq, Int.reduceLT, Int.reduceLE, Int.reduceToNat, Int.reduceNeg, Int.reduceAdd, Int.reduceSub, Nat.reduceEqDiff, Nat.reduceAdd, Nat.reduceMul, Nat.reduceLeDiff, Nat.reduceSub, ↓reduceIte, reduceCtorEq, if_true, if_false]; exact rfl) (by decide) ?_ ?_
  · simp -implicitDefEqProofs (disch := omega) only [go_sem, Int.reduceEq, Int.reduceLT, Int.reduceLE, Int.reduceToNat, Int.reduceNeg, Int.reduceAdd, Int.reduceSub, Nat.reduceEqDiff, Nat.reduceAdd, Nat.reduceMul, Nat.reduceLeDiff, Nat.reduceSub, ↓reduceIte, reduceCtorEq, decide_true, eq_self, Bool.and_self]
    repeat' (first | (refine gN_split2 (fun hs => ?_) (fun hs => ?_) <;> simp -implicitDefEqProofs (disch := omega) only [go_sem, Int.reduceEq, Int.reduceLT, Int.reduceLE, Int.reduceToNat, Int.reduceNeg, Int.reduceAdd, Int.reduceSub, Nat.reduceEqDiff, Nat.reduceAdd, Nat.reduceMul, Nat.reduceLeDiff, Nat.reduceSub, ↓reduceIte, reduceCtorEq, hs, decide_true, eq_self, Bool.and_self]) | refine gN_callP ((by first | exact q12 | exact q13 | exact q14 | exact q15)) ?_ | simp -implicitDefEqProofs (disch := omega) only [go_sem, Int.reduceEq, Int.reduceLT, Int.reduceLE, Int.reduceToNat, Int.reduceNeg, Int.reduceAdd, Int.reduceSub, Nat.reduceEqDiff, Nat.reduceAdd, Nat.reduceMul, Nat.reduceLeDiff, Nat.reduceSub, ↓reduceIte, reduceCtorEq, decide_true, eq_self, Bool.and_self] | refine And.intro (by omega) ?_)
    all_goals (try clear hK')
    all_goals ((first | rfl | simp_all))
  repeat' (first | refine wpL_seq ?_ | refine wpL_skip ?_ | refine wpL_label ?_ | refine wpL_scope ?_)
  refine wpL_ret (hK' _ _ _ _ (.inr rfl) (resTo (rs' := [.tmp 4]) rfl (by simp only [go_sem, Int.reduceEq, Int.reduceLT, Int.reduceLE, Int.reduceToNat, Int.reduceNeg, Int.reduceAdd, Int.reduceSub, Nat.reduceEqDiff, Nat.reduceAdd, Nat.reduceMul, Nat.reduceLeDiff, Nat.reduceSub, ↓reduceIte, reduceCtorEq]; exact rfl)) ?_)
  rfl
end
theorem laid_strs {P : Program} {W : World} {n : String} {L : List (List UInt8)} {rest : List (String × DataW Unit)} {ps : List MemPlace} {g : Nat} {t e : TypeId}
    (h : DataW.LaidVars P W ((n, .agg (L.map fun x => .lit (.string x))) :: rest) ps) (hg : P.globalNamed n = some g) (ht : (P.globals[g]?).map (·.type) = some t) (ha : P.underlying t = some (.array L.length e))
    (he : P.underlying e = some .string) (hz : P.cellsOf e = 1) : (∀ j : Nat, j < L.length → W.cell? ⟨g, j, none⟩ = some (.string ⟨(L.getD j []).toArray⟩)) ∧ ∃ q, DataW.LaidVars P W rest q := by
  obtain ⟨g', t', cs, fuel, p, q, hg', ht', hv, hd, hq, _⟩ := h
  rw [hg] at hg'; cases hg'
  rw [ht] at ht'; cases ht'
  refine ⟨fun r hr => ?_, q, hq⟩
  obtain ⟨xs, m, _, ex, _, hl, hel⟩ := DataW.trod_array ha hd
  have hE := hel r hr
  rw [hz, Nat.mul_one, List.getElem?_eq_getElem (by omega)] at hE
  obtain ⟨z, e1, e2, _⟩ : ∃ z, (cs.toList.drop r).take 1 = [Value.string z] ∧ xs[r] = (.lit (.string z.data.toList), []) ∧ z.size ≤ maxLen := by
    cases m with
    | zero => simp [DataW.trod] at hE
    | succ m => exact trod_str he hE
  have e3 : (xs.map (·.1)) = L.map fun x => .lit (.string x) := (DataW.agg.inj (Prod.mk.inj ex).1).symm
  have e4 : (xs.map (·.1))[r]? = (L.map fun x => (DataW.lit (.string x) : DataW Unit))[r]? := by rw [e3]
  rw [List.getElem?_map, List.getElem?_map, List.getElem?_eq_getElem (by omega : r < xs.length), List.getElem?_eq_getElem hr, e2] at e4
  have hz' : z.data.toList = L.getD r [] := by
    simp only [Option.map_some, Option.some.injEq, DataW.lit.injEq, Lit.string.injEq] at e4
    rw [e4, List.getD, List.getElem?_eq_getElem hr]; rfl
  rw [World.var?_cell hg hv r, ← hz']
  have : cs.toList[r]? = some (.string z) := by
    have h0 : ((cs.toList.drop r).take 1)[0]? = some (.string z) := by rw [e1]; rfl
    simpa using h0
  simpa using this
theorem tab_strs {W : World} {g : Nat} {L : List (List UInt8)} (h : ∀ j : Nat, j < L.length → W.cell? ⟨g, j, none⟩ = some (.string ⟨(L.getD j []).toArray⟩)) :
    ∃ vs : Nat → Value, (∀ (j : Nat) (c : AV), (L.map AV.str)[j]? = some c → ∀ ρ, VR ρ c (vs j)) ∧ ∀ j : Nat, j < (L.map AV.str).length → W.cell? ⟨g, j, none⟩ = some (vs j) := by
  refine ⟨fun j => .string ⟨(L.getD j []).toArray⟩, fun j c hc ρ => ?_, fun j hj => h j (by simpa using hj)⟩
  rw [List.getElem?_map] at hc
  cases hx : L[j]? with
  | none => simp [hx] at hc
  | some x =>
    simp [hx] at hc; subst hc
    simp only [List.getD, hx, Option.getD_some]
    exact .str _
theorem tabs_ok {W : World} (h : laidMet Tryd.prog [("junction/junctionref2.words", YtlalbjkdlkhjiaaDoor.Rows.laid_junction_junctionref2_words), ("junction/junctionref2.signs", YtlalbjkdlkhjiaaDoor.Rows.laid_junction_junctionref2_signs), ("junction/lex.words", YtlalbjkdlkhjiaaDoor.Rows.laid_junction_lex_words), ("junction/lex.signs", YtlalbjkdlkhjiaaDoor.Rows.laid_junction_lex_signs)] W) : TabsOk W := by
  obtain ⟨ps, h, _, _⟩ := h
  obtain ⟨h2, q2, h⟩ := laid_strs (L := wordsL) (g := 2) (t := 64) (e := 9) h (by kernel_rfl) (by kernel_rfl) Tryd.underlying64 Tryd.underlying9 (by kernel_rfl)
  obtain ⟨h3, q3, h⟩ := laid_strs (L := signsL) (g := 3) (t := 65) (e := 9) h (by kernel_rfl) (by kernel_rfl) Tryd.underlying65 Tryd.underlying9 (by kernel_rfl)
  obtain ⟨h0, q0, h⟩ := laid_strs (L := wordsL) (g := 0) (t := 64) (e := 9) h (by kernel_rfl) (by kernel_rfl) Tryd.underlying64 Tryd.underlying9 (by kernel_rfl)
  obtain ⟨h1, q1, h⟩ := laid_strs (L := signsL) (g := 1) (t := 65) (e := 9) h (by kernel_rfl) (by kernel_rfl) Tryd.underlying65 Tryd.underlying9 (by kernel_rfl)
  intro g cs hc
  by_cases e0 : g = 0
  · subst e0
    have : wordsC = cs := by simpa [Tab.cells] using hc
    subst this; exact tab_strs h0
  by_cases e1 : g = 1
  · subst e1
    have : signsC = cs := by simpa [Tab.cells] using hc
    subst this; exact tab_strs h1
  by_cases e2 : g = 2
  · subst e2
    have : wordsC = cs := by simpa [Tab.cells] using hc
    subst this; exact tab_strs h2
  by_cases e3 : g = 3
  · subst e3
    have : signsC = cs := by simpa [Tab.cells] using hc
    subst this; exact tab_strs h3
  simp [Tab.cells, e0, e1, e2, e3] at hc
section
variable {H : Type}
theorem lexSpells_core (avs : List AV) (ds : List (DataW H)) (h : RdL Tryd.prog Tryd.f3.params.toList avs ds) (hs : ∀ n ∈ DataW.weightsEach Tryd.prog Tryd.f3.params.toList ds, n ≤ reachBytes) :
    wpP Tryd.prog 3 avs (.bool true) := by
  have hp : Tryd.f3.params.toList = [3, 9] := by rw [Tryd.params3]
  rw [hp] at h hs
  obtain ⟨v0, _, d0, _, rfl, rfl, q0, _, h, hs⟩ := h.consW hs
  obtain ⟨v1, _, d1, _, rfl, rfl, q1, _, h, hs⟩ := h.consW hs
  obtain ⟨rfl, rfl⟩ := h.nil
  obtain ⟨a, rfl, w1⟩ := (q0 (by kernel_rfl)).int Tryd.underlying3
  obtain ⟨s, rfl, hsl⟩ := (q1 (by kernel_rfl)).str Tryd.underlying9
  exact f3_spells a s hsl
end
end Go.Proofs.YtlalbjkdlkhjiaaDoor.Am.L
