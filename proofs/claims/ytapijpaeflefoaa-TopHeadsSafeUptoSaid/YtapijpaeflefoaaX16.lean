/- The aspects behind both passes. -/
import Derived.Test.YtapijpaeflefoaaX15
namespace Go.Proofs.Ytapijpaeflefoaa.Am.X
set_option linter.unusedSectionVars false
open Go Go.Proofs Am
set_option linter.unusedVariables false
set_option linter.unusedSimpArgs false
set_option maxRecDepth 100000
attribute [local irreducible] gO gN gW gdO

theorem headsFrom_at : ∀ {gs : List Group} {bs is ws : List Int}, headsFrom gs bs is ws = true → ∀ {i : Nat} {g : Group} {a x w : Int}, gs[i]? = some g → bs[i]? = some a → is[i]? = some x → ws[i]? = some w → headOk g a x w = true
  | [], _, _, _, _, _, _, _, _, _, h, _, _, _ => by simp at h
  | _ :: _, [], _, _, _, _, _, _, _, _, _, h, _, _ => by simp at h
  | _ :: _, _ :: _, [], _, _, _, _, _, _, _, _, _, h, _ => by simp at h
  | _ :: _, _ :: _, _ :: _, [], _, _, _, _, _, _, _, _, _, h => by simp at h
  | g0 :: gs, a0 :: bs, x0 :: is, w0 :: ws, h, 0, g, a, x, w, h1, h2, h3, h4 => by
    simp at h1 h2 h3 h4
    subst h1; subst h2; subst h3; subst h4
    simp only [headsFrom, Bool.and_eq_true] at h; exact h.1
  | g0 :: gs, a0 :: bs, x0 :: is, w0 :: ws, h, i + 1, g, a, x, w, h1, h2, h3, h4 => by
    simp only [headsFrom, Bool.and_eq_true] at h
    exact headsFrom_at h.2 (by simpa using h1) (by simpa using h2) (by simpa using h3) (by simpa using h4)
theorem sound_heads {t : Tables} {h : Hd} (hs : sound t h = true) : headsFrom t.groups h.aspect h.ins h.away = true := by
  simp only [sound, Bool.and_eq_true] at hs; exact hs.1.2
theorem headOk_a {g a x w} (h : headOk g a x w = true) : a = 0 ∨ a = 1 ∨ a = 2 ∨ a = 3 := by
  simp only [headOk, inB, Bool.and_eq_true, decide_eq_true_eq] at h; omega

/-- What the groups show next by themselves. -/
def alonesFrom (w : BitVec 64) : Nat → List Group → List Int → List Int → List Int
  | i, g :: gs, a :: bs, x :: xs => alone g a x (w.getLsbD i) :: alonesFrom w (i + 1) gs bs xs
  | _, _, _, _ => []
def freeB (now away : List Int) : List (Int × Int) → Bool
  | [] => true
  | r :: l => decide (now.getD r.1.toNat 0 = 0) && decide (r.2 ≤ away.getD r.1.toNat 0) && freeB now away l
/-- The second pass. -/
def secondFrom (confs : List Conf) (away : List Int) (w : BitVec 64) : Nat → List Group → List Int → List Int → List Int
  | i, g :: gs, a :: bs, now => secondFrom confs away w (i + 1) gs bs (if decide (a = 0) && w.getLsbD i && freeB now away (rivOf i confs) then now.set i (firstOf g) else now)
  | _, _, _, now => now
def nextL (t : Tables) (h : Hd) (w : BitVec 64) : List Int := secondFrom t.confs h.away w 0 t.groups h.aspect (alonesFrom w 0 t.groups h.aspect h.ins)

theorem rivOf_in {t : Tables} (hok : t.ok = true) (g : Nat) : ∀ r ∈ rivOf g t.confs, ∃ b : Nat, r.1 = b ∧ b < t.groups.length := by
  have key : ∀ l : List Conf, (∀ c ∈ l, c ∈ t.confs) → ∀ r ∈ rivOf g l, ∃ b : Nat, r.1 = b ∧ b < t.groups.length := by
    intro l
    induction l with
    | nil => intro _ r hr; cases hr
    | cons c l ih =>
      intro hl r hr
      obtain ⟨a, b, ha, hb, hab, hbn⟩ := Tables.ok_conf hok (hl c (by simp))
      simp only [rivOf, List.mem_append] at hr
      rcases hr with (hr | hr) | hr
      · split at hr
        · simp at hr; subst hr; exact ⟨b, hb, hbn⟩
        · cases hr
      · split at hr
        · simp at hr; subst hr; exact ⟨a, ha, by omega⟩
        · cases hr
      · exact ih (fun c hc => hl c (List.mem_cons_of_mem _ hc)) r hr
  exact key _ fun c hc => hc
abbrev ci (a : Int) : AV := .int .i64 a

set_option maxHeartbeats 1000000 in
theorem f22_next (t : Tables) (h : Hd) (w : BitVec 64) (hs : SmallT t) (hh : SmallH h) (hI : I32 h) (hso : sound t h = true) : wpP Try.prog 22 [stepAV t h w] (.rs 1 ((nextL t h w).map (c1 .i64))) := by
  have hok : t.ok = true := (by simp only [sound, Bool.and_eq_true] at hso; exact hso.1.1.1)
  have h64 := ok_64 hok
  obtain ⟨l0, l1, l2, l3, l4⟩ := sound_len hso
  have hhd := sound_heads hso
  refine wpP_frz ?_
  refine wpH_intro (fn := Try.f22) rfl rfl (by decide) (by kernel_rfl) fun K' hK' => ?_
  repeat' (first | refine wpL_seq ?_ | refine wpL_skip ?_ | refine wpL_label ?_ | refine wpL_scope ?_)
  refine wpL_region' [0] fun q hq => ?_
  simp -implicitDefEqProofs (disch := omega) only [go_sem, Int.reduceEq, Int.reduceLT, Int.reduceLE, Int.reduceToNat, Int.reduceNeg, Int.reduceAdd, Int.reduceSub, Nat.reduceEqDiff, Nat.reduceAdd, Nat.reduceMul, Nat.reduceLeDiff, Nat.reduceSub, ↓reduceIte, reduceCtorEq, stepAV, stepC]
  repeat (refine And.intro (by omega) ?_)
  refine hq _ _ _ (by simp only [pickL, lk_cons, Nat.reduceEqDiff, ↓reduceIte]; exact rfl) ?_
  clear hq q
  repeat' (first | refine wpL_seq ?_ | refine wpL_skip ?_ | refine wpL_label ?_ | refine wpL_scope ?_)
  refine wpL_region' [0, 3] fun q hq => ?_
  simp -implicitDefEqProofs (disch := omega) only [go_sem, Int.reduceEq, Int.reduceLT, Int.reduceLE, Int.reduceToNat, Int.reduceNeg, Int.reduceAdd, Int.reduceSub, Nat.reduceEqDiff, Nat.reduceAdd, Nat.reduceMul, Nat.reduceLeDiff, Nat.reduceSub, ↓reduceIte, reduceCtorEq]
  repeat (refine And.intro (by omega) ?_)
  refine gN_new fun b3 hb3 => ?_
  try simp only [newIn_put, newIn_upd] at hb3
  simp -implicitDefEqProofs (disch := omega) only [go_sem, Int.reduceEq, Int.reduceLT, Int.reduceLE, Int.reduceToNat, Int.reduceNeg, Int.reduceAdd, Int.reduceSub, Nat.reduceEqDiff, Nat.reduceAdd, Nat.reduceMul, Nat.reduceLeDiff, Nat.reduceSub, ↓reduceIte, reduceCtorEq, hb3]
  repeat (refine And.intro (by omega) ?_)
  refine hq _ _ _ (by simp only [pickL, lk_cons, Nat.reduceEqDiff, ↓reduceIte]; exact rfl) ?_
  clear hq q
  refine wpL_frzP' 3 rfl (by simp only [go_sem, hb3]; exact rfl) rfl (by simp only [go_sem, Int.reduceEq, Int.reduceLT, Int.reduceLE, Int.reduceToNat, Int.reduceNeg, Int.reduceAdd, Int.reduceSub, Nat.reduceEqDiff, Nat.reduceAdd, Nat.reduceMul, Nat.reduceLeDiff, Nat.reduceSub, ↓reduceIte, reduceCtorEq]; exact rfl) (by simp only [go_sem, hb3]; exact rfl) ?_
  repeat' (first | refine wpL_seq ?_ | refine wpL_skip ?_ | refine wpL_label ?_ | refine wpL_scope ?_)
  refine wpL_region' [0, 3, 4] fun q hq => ?_
  simp -implicitDefEqProofs (disch := omega) only [go_sem, Int.reduceEq, Int.reduceLT, Int.reduceLE, Int.reduceToNat, Int.reduceNeg, Int.reduceAdd, Int.reduceSub, Nat.reduceEqDiff, Nat.reduceAdd, Nat.reduceMul, Nat.reduceLeDiff, Nat.reduceSub, ↓reduceIte, reduceCtorEq, hb3]
  repeat (refine And.intro (by omega) ?_)
  refine gN_new fun b27 hb27 => ?_
  try simp only [newIn_put, newIn_upd] at hb27
  simp -implicitDefEqProofs (disch := omega) only [go_sem, Int.reduceEq, Int.reduceLT, Int.reduceLE, Int.reduceToNat, Int.reduceNeg, Int.reduceAdd, Int.reduceSub, Nat.reduceEqDiff, Nat.reduceAdd, Nat.reduceMul, Nat.reduceLeDiff, Nat.reduceSub, ↓reduceIte, reduceCtorEq, hb3, hb27]
  repeat (refine And.intro (by omega) ?_)
  refine hq _ _ _ (by simp only [pickL, lk_cons, Nat.reduceEqDiff, ↓reduceIte]; exact rfl) ?_
  clear hq q
  repeat' (first | refine wpL_seq ?_ | refine wpL_skip ?_ | refine wpL_label ?_ | refine wpL_scope ?_)
  refine wpL_region' [0, 3, 4, 32, 33, 34] fun q hq => ?_
  simp -implicitDefEqProofs (disch := omega) only [go_sem, Int.reduceEq, Int.reduceLT, Int.reduceLE, Int.reduceToNat, Int.reduceNeg, Int.reduceAdd, Int.reduceSub, Nat.reduceEqDiff, Nat.reduceAdd, Nat.reduceMul, Nat.reduceLeDiff, Nat.reduceSub, ↓reduceIte, reduceCtorEq, hb3, hb27]
  repeat (refine And.intro (by omega) ?_)
  refine hq _ _ _ (by simp only [pickL, lk_cons, Nat.reduceEqDiff, ↓reduceIte]; exact rfl) ?_
  clear hq q
  repeat' (first | refine wpL_seq ?_ | refine wpL_skip ?_ | refine wpL_label ?_ | refine wpL_scope ?_)
  refine wpL_block fun k1 hn1 hx1 ho1 => ?_
  refine wpL_loop (fun j e h' => ∃ (i : Nat) (O : List Int), i ≤ t.groups.length ∧ j = t.groups.length - i ∧ h' = Heap.emp.put b27 ⟨.own, O.map ci, 3, []⟩ ∧ O.length = t.groups.length ∧
      O.take i ++ alonesFrom w i (t.groups.drop i) (h.aspect.drop i) (h.ins.drop i) = alonesFrom w 0 t.groups h.aspect h.ins ∧
      e = lk [(0, .rp (stepC t h w) 0), (3, .rp [.fn 27 [.rp (stepC t h w) 0] [], .fn 28 [.rp (stepC t h w) 0] [], .fn 29 [.rp (stepC t h w) 0] [], .fn 30 [.rp (stepC t h w) 0] []] 0), (4, .sl b27 0 t.groups.length 1), (32, .rs 1 (h.aspect.map (c1 .i64))), (33, .int .i64 t.groups.length), (34, .int .i64 i)]) t.groups.length
    ⟨0, List.replicate t.groups.length 0, by omega, by omega, by simp [ci, l1], by simp, by simp, by simp only [← l1]; rfl⟩ ?_
  rintro j e h' ⟨i, O, hi, rfl, rfl, hO, hA, rfl⟩ k2 hn2 hx2
  repeat' (first | refine wpL_seq ?_ | refine wpL_skip ?_ | refine wpL_label ?_ | refine wpL_scope ?_)
  refine wpL_region' [0, 3, 4, 32, 33, 34, 35] fun q hq => ?_
  simp -implicitDefEqProofs (disch := omega) only [go_sem, Int.reduceEq, Int.reduceLT, Int.reduceLE, Int.reduceToNat, Int.reduceNeg, Int.reduceAdd, Int.reduceSub, Nat.reduceEqDiff, Nat.reduceAdd, Nat.reduceMul, Nat.reduceLeDiff, Nat.reduceSub, ↓reduceIte, reduceCtorEq, hb3, hb27]
  repeat (refine And.intro (by omega) ?_)
  refine hq _ _ _ (by simp only [pickL, lk_cons, Nat.reduceEqDiff, ↓reduceIte]; exact rfl) ?_
  clear hq q
  repeat' (first | refine wpL_seq ?_ | refine wpL_skip ?_ | refine wpL_label ?_ | refine wpL_scope ?_)
  refine wpL_cond rfl (fun hc3 => ?_) (fun hc3 => ?_)
  · simp at hc3
    obtain ⟨g, hg⟩ := get_of_lt hc3
    obtain ⟨a, ha⟩ := get_of_lt (show i < h.aspect.length by omega)
    obtain ⟨x, hx⟩ := get_of_lt (show i < h.ins.length by omega)
    obtain ⟨y, hy⟩ := get_of_lt (show i < h.away.length by omega)
    have hxr := hI.i x (List.mem_of_getElem? hx)
    have hok4 := headOk_a (headsFrom_at hhd hg ha hx hy)
    rw [drop_get hg, drop_get ha, drop_get hx, alonesFrom] at hA
    repeat' (first | refine wpL_seq ?_ | refine wpL_skip ?_ | refine wpL_label ?_ | refine wpL_scope ?_)
    refine wpL_block fun k4 hn4 hx4 ho4 => ?_
    repeat' (first | refine wpL_seq ?_ | refine wpL_skip ?_ | refine wpL_label ?_ | refine wpL_scope ?_)
    refine wpL_region' [0, 3, 4, 5, 6, 32, 33, 34] fun q hq => ?_
    simp -implicitDefEqProofs (disch := omega) only [go_sem, Int.reduceEq, Int.reduceLT, Int.reduceLE, Int.reduceToNat, Int.reduceNeg, Int.reduceAdd, Int.reduceSub, Nat.reduceEqDiff, Nat.reduceAdd, Nat.reduceMul, Nat.reduceLeDiff, Nat.reduceSub, ↓reduceIte, reduceCtorEq, ha, c1, hb3, hb27]
    repeat (refine And.intro (by omega) ?_)
    refine hq _ _ _ (by simp only [pickL, lk_cons, Nat.reduceEqDiff, ↓reduceIte]; exact rfl) ?_
    clear hq q
    rcases hok4 with rfl | rfl | rfl | rfl
    · repeat' (first | refine wpL_seq ?_ | refine wpL_skip ?_ | refine wpL_label ?_ | refine wpL_scope ?_)
      refine wpL_region' [0, 3, 4, 32, 33, 34] fun q hq => ?_
      simp -implicitDefEqProofs (disch := omega) only [go_sem, Int.reduceEq, Int.reduceLT, Int.reduceLE, Int.reduceToNat, Int.reduceNeg, Int.reduceAdd, Int.reduceSub, Nat.reduceEqDiff, Nat.reduceAdd, Nat.reduceMul, Nat.reduceLeDiff, Nat.reduceSub, ↓reduceIte, reduceCtorEq, hO, List.length_map, stepC, hb3, hb27]
      repeat (refine And.intro (by omega) ?_)
      refine gN_callP (f27_red t h w i) ?_
      simp -implicitDefEqProofs (disch := omega) only [go_sem, Int.reduceEq, Int.reduceLT, Int.reduceLE, Int.reduceToNat, Int.reduceNeg, Int.reduceAdd, Int.reduceSub, Nat.reduceEqDiff, Nat.reduceAdd, Nat.reduceMul, Nat.reduceLeDiff, Nat.reduceSub, ↓reduceIte, reduceCtorEq, hO, List.length_map, stepC, hb3, hb27]
      repeat (refine And.intro (by omega) ?_)
      refine hq _ _ _ (by simp only [pickL, lk_cons, Nat.reduceEqDiff, ↓reduceIte]; exact rfl) ?_
      clear hq q
      repeat' (first | refine wpL_seq ?_ | refine wpL_skip ?_ | refine wpL_label ?_ | refine wpL_scope ?_)
      refine wpL_nil (hn4 _ _ ?_)
      repeat' (first | refine wpL_seq ?_ | refine wpL_skip ?_ | refine wpL_label ?_ | refine wpL_scope ?_)
      refine wpL_region' [0, 3, 4, 32, 33, 34] fun q hq => ?_
      simp -implicitDefEqProofs (disch := omega) only [go_sem, Int.reduceEq, Int.reduceLT, Int.reduceLE, Int.reduceToNat, Int.reduceNeg, Int.reduceAdd, Int.reduceSub, Nat.reduceEqDiff, Nat.reduceAdd, Nat.reduceMul, Nat.reduceLeDiff, Nat.reduceSub, ↓reduceIte, reduceCtorEq, hb3, hb27]
      repeat (refine And.intro (by omega) ?_)
      refine hq _ _ _ (by simp only [pickL, lk_cons, Nat.reduceEqDiff, ↓reduceIte]; exact rfl) ?_
      clear hq q
      repeat' (first | refine wpL_seq ?_ | refine wpL_skip ?_ | refine wpL_label ?_ | refine wpL_scope ?_)
      exact wpL_nil (hn2 (t.groups.length - (i + 1)) _ _ (by omega) ⟨i + 1, O.set i (alone g 0 x (w.getLsbD i)), by omega, by omega, by rw [set_of_take (by simp [hO]; exact hc3), List.map_set]; simp [alone], by simp [hO], by rw [take_set_succ (by omega), List.append_assoc]; exact hA, rfl⟩)
    · repeat' (first | refine wpL_seq ?_ | refine wpL_skip ?_ | refine wpL_label ?_ | refine wpL_scope ?_)
      refine wpL_region' [0, 3, 4, 32, 33, 34] fun q hq => ?_
      simp -implicitDefEqProofs (disch := omega) only [go_sem, Int.reduceEq, Int.reduceLT, Int.reduceLE, Int.reduceToNat, Int.reduceNeg, Int.reduceAdd, Int.reduceSub, Nat.reduceEqDiff, Nat.reduceAdd, Nat.reduceMul, Nat.reduceLeDiff, Nat.reduceSub, ↓reduceIte, reduceCtorEq, hO, List.length_map, stepC, hb3, hb27]
      repeat (refine And.intro (by omega) ?_)
      refine gN_callP (f28_lead t h w i hg hx hxr) ?_
      simp -implicitDefEqProofs (disch := omega) only [go_sem, Int.reduceEq, Int.reduceLT, Int.reduceLE, Int.reduceToNat, Int.reduceNeg, Int.reduceAdd, Int.reduceSub, Nat.reduceEqDiff, Nat.reduceAdd, Nat.reduceMul, Nat.reduceLeDiff, Nat.reduceSub, ↓reduceIte, reduceCtorEq, hO, List.length_map, stepC, hb3, hb27]
      repeat (refine And.intro (by omega) ?_)
      refine hq _ _ _ (by simp only [pickL, lk_cons, Nat.reduceEqDiff, ↓reduceIte]; exact rfl) ?_
      clear hq q
      repeat' (first | refine wpL_seq ?_ | refine wpL_skip ?_ | refine wpL_label ?_ | refine wpL_scope ?_)
      refine wpL_nil (hn4 _ _ ?_)
      repeat' (first | refine wpL_seq ?_ | refine wpL_skip ?_ | refine wpL_label ?_ | refine wpL_scope ?_)
      refine wpL_region' [0, 3, 4, 32, 33, 34] fun q hq => ?_
      simp -implicitDefEqProofs (disch := omega) only [go_sem, Int.reduceEq, Int.reduceLT, Int.reduceLE, Int.reduceToNat, Int.reduceNeg, Int.reduceAdd, Int.reduceSub, Nat.reduceEqDiff, Nat.reduceAdd, Nat.reduceMul, Nat.reduceLeDiff, Nat.reduceSub, ↓reduceIte, reduceCtorEq, hb3, hb27]
      repeat (refine And.intro (by omega) ?_)
      refine hq _ _ _ (by simp only [pickL, lk_cons, Nat.reduceEqDiff, ↓reduceIte]; exact rfl) ?_
      clear hq q
      repeat' (first | refine wpL_seq ?_ | refine wpL_skip ?_ | refine wpL_label ?_ | refine wpL_scope ?_)
      exact wpL_nil (hn2 (t.groups.length - (i + 1)) _ _ (by omega) ⟨i + 1, O.set i (alone g 1 x (w.getLsbD i)), by omega, by omega, by rw [set_of_take (by simp [hO]; exact hc3), List.map_set]; simp [alone], by simp [hO], by rw [take_set_succ (by omega), List.append_assoc]; exact hA, rfl⟩)
    · repeat' (first | refine wpL_seq ?_ | refine wpL_skip ?_ | refine wpL_label ?_ | refine wpL_scope ?_)
      refine wpL_region' [0, 3, 4, 32, 33, 34] fun q hq => ?_
      simp -implicitDefEqProofs (disch := omega) only [go_sem, Int.reduceEq, Int.reduceLT, Int.reduceLE, Int.reduceToNat, Int.reduceNeg, Int.reduceAdd, Int.reduceSub, Nat.reduceEqDiff, Nat.reduceAdd, Nat.reduceMul, Nat.reduceLeDiff, Nat.reduceSub, ↓reduceIte, reduceCtorEq, hO, List.length_map, stepC, hb3, hb27]
      repeat (refine And.intro (by omega) ?_)
      refine gN_callP (f29_green t h w i (by omega) hg hx hxr) ?_
      simp -implicitDefEqProofs (disch := omega) only [go_sem, Int.reduceEq, Int.reduceLT, Int.reduceLE, Int.reduceToNat, Int.reduceNeg, Int.reduceAdd, Int.reduceSub, Nat.reduceEqDiff, Nat.reduceAdd, Nat.reduceMul, Nat.reduceLeDiff, Nat.reduceSub, ↓reduceIte, reduceCtorEq, hO, List.length_map, stepC, hb3, hb27]
      repeat (refine And.intro (by omega) ?_)
      refine hq _ _ _ (by simp only [pickL, lk_cons, Nat.reduceEqDiff, ↓reduceIte]; exact rfl) ?_
      clear hq q
      repeat' (first | refine wpL_seq ?_ | refine wpL_skip ?_ | refine wpL_label ?_ | refine wpL_scope ?_)
      refine wpL_nil (hn4 _ _ ?_)
      repeat' (first | refine wpL_seq ?_ | refine wpL_skip ?_ | refine wpL_label ?_ | refine wpL_scope ?_)
      refine wpL_region' [0, 3, 4, 32, 33, 34] fun q hq => ?_
      simp -implicitDefEqProofs (disch := omega) only [go_sem, Int.reduceEq, Int.reduceLT, Int.reduceLE, Int.reduceToNat, Int.reduceNeg, Int.reduceAdd, Int.reduceSub, Nat.reduceEqDiff, Nat.reduceAdd, Nat.reduceMul, Nat.reduceLeDiff, Nat.reduceSub, ↓reduceIte, reduceCtorEq, hb3, hb27]
      repeat (refine And.intro (by omega) ?_)
      refine hq _ _ _ (by simp only [pickL, lk_cons, Nat.reduceEqDiff, ↓reduceIte]; exact rfl) ?_
      clear hq q
      repeat' (first | refine wpL_seq ?_ | refine wpL_skip ?_ | refine wpL_label ?_ | refine wpL_scope ?_)
      exact wpL_nil (hn2 (t.groups.length - (i + 1)) _ _ (by omega) ⟨i + 1, O.set i (alone g 2 x (w.getLsbD i)), by omega, by omega, by rw [set_of_take (by simp [hO]; exact hc3), List.map_set]; simp [alone], by simp [hO], by rw [take_set_succ (by omega), List.append_assoc]; exact hA, rfl⟩)
    · repeat' (first | refine wpL_seq ?_ | refine wpL_skip ?_ | refine wpL_label ?_ | refine wpL_scope ?_)
      refine wpL_region' [0, 3, 4, 32, 33, 34] fun q hq => ?_
      simp -implicitDefEqProofs (disch := omega) only [go_sem, Int.reduceEq, Int.reduceLT, Int.reduceLE, Int.reduceToNat, Int.reduceNeg, Int.reduceAdd, Int.reduceSub, Nat.reduceEqDiff, Nat.reduceAdd, Nat.reduceMul, Nat.reduceLeDiff, Nat.reduceSub, ↓reduceIte, reduceCtorEq, hO, List.length_map, stepC, hb3, hb27]
      repeat (refine And.intro (by omega) ?_)
      refine gN_callP (f30_amber t h w i hg hx hxr) ?_
      simp -implicitDefEqProofs (disch := omega) only [go_sem, Int.reduceEq, Int.reduceLT, Int.reduceLE, Int.reduceToNat, Int.reduceNeg, Int.reduceAdd, Int.reduceSub, Nat.reduceEqDiff, Nat.reduceAdd, Nat.reduceMul, Nat.reduceLeDiff, Nat.reduceSub, ↓reduceIte, reduceCtorEq, hO, List.length_map, stepC, hb3, hb27]
      repeat (refine And.intro (by omega) ?_)
      refine hq _ _ _ (by simp only [pickL, lk_cons, Nat.reduceEqDiff, ↓reduceIte]; exact rfl) ?_
      clear hq q
      repeat' (first | refine wpL_seq ?_ | refine wpL_skip ?_ | refine wpL_label ?_ | refine wpL_scope ?_)
      refine wpL_nil (hn4 _ _ ?_)
      repeat' (first | refine wpL_seq ?_ | refine wpL_skip ?_ | refine wpL_label ?_ | refine wpL_scope ?_)
      refine wpL_region' [0, 3, 4, 32, 33, 34] fun q hq => ?_
      simp -implicitDefEqProofs (disch := omega) only [go_sem, Int.reduceEq, Int.reduceLT, Int.reduceLE, Int.reduceToNat, Int.reduceNeg, Int.reduceAdd, Int.reduceSub, Nat.reduceEqDiff, Nat.reduceAdd, Nat.reduceMul, Nat.reduceLeDiff, Nat.reduceSub, ↓reduceIte, reduceCtorEq, hb3, hb27]
      repeat (refine And.intro (by omega) ?_)
      refine hq _ _ _ (by simp only [pickL, lk_cons, Nat.reduceEqDiff, ↓reduceIte]; exact rfl) ?_
      clear hq q
      repeat' (first | refine wpL_seq ?_ | refine wpL_skip ?_ | refine wpL_label ?_ | refine wpL_scope ?_)
      exact wpL_nil (hn2 (t.groups.length - (i + 1)) _ _ (by omega) ⟨i + 1, O.set i (alone g 3 x (w.getLsbD i)), by omega, by omega, by rw [set_of_take (by simp [hO]; exact hc3), List.map_set]; simp [alone], by simp [hO], by rw [take_set_succ (by omega), List.append_assoc]; exact hA, rfl⟩)
  simp at hc3
  have hin : i = t.groups.length := by omega
  subst hin
  rw [List.take_of_length_le (by omega), List.drop_length, alonesFrom.eq_2 _ _ _ _ _ (by simp), List.append_nil] at hA
  repeat' (first | refine wpL_seq ?_ | refine wpL_skip ?_ | refine wpL_label ?_ | refine wpL_scope ?_)
  refine wpL_exit (hx2 _ _ _ (by simp) (hx1 _ _ ?_))
  repeat' (first | refine wpL_seq ?_ | refine wpL_skip ?_ | refine wpL_label ?_ | refine wpL_scope ?_)
  refine wpL_region' [0, 4, 7] fun q hq => ?_
  simp -implicitDefEqProofs (disch := omega) only [go_sem, Int.reduceEq, Int.reduceLT, Int.reduceLE, Int.reduceToNat, Int.reduceNeg, Int.reduceAdd, Int.reduceSub, Nat.reduceEqDiff, Nat.reduceAdd, Nat.reduceMul, Nat.reduceLeDiff, Nat.reduceSub, ↓reduceIte, reduceCtorEq, stepC, hb3, hb27]
  repeat (refine And.intro (by omega) ?_)
  refine gN_callP (f31_rivals t hok hs) ?_
  simp -implicitDefEqProofs (disch := omega) only [go_sem, Int.reduceEq, Int.reduceLT, Int.reduceLE, Int.reduceToNat, Int.reduceNeg, Int.reduceAdd, Int.reduceSub, Nat.reduceEqDiff, Nat.reduceAdd, Nat.reduceMul, Nat.reduceLeDiff, Nat.reduceSub, ↓reduceIte, reduceCtorEq, stepC, hb3, hb27]
  repeat (refine And.intro (by omega) ?_)
  refine hq _ _ _ (by simp only [pickL, lk_cons, Nat.reduceEqDiff, ↓reduceIte]; exact rfl) ?_
  clear hq q
  repeat' (first | refine wpL_seq ?_ | refine wpL_skip ?_ | refine wpL_label ?_ | refine wpL_scope ?_)
  refine wpL_region' [0, 4, 7, 57, 58, 59] fun q hq => ?_
  simp -implicitDefEqProofs (disch := omega) only [go_sem, Int.reduceEq, Int.reduceLT, Int.reduceLE, Int.reduceToNat, Int.reduceNeg, Int.reduceAdd, Int.reduceSub, Nat.reduceEqDiff, Nat.reduceAdd, Nat.reduceMul, Nat.reduceLeDiff, Nat.reduceSub, ↓reduceIte, reduceCtorEq, stepC, hb3, hb27]
  repeat (refine And.intro (by omega) ?_)
  refine hq _ _ _ (by simp only [pickL, lk_cons, Nat.reduceEqDiff, ↓reduceIte]; exact rfl) ?_
  clear hq q
  repeat' (first | refine wpL_seq ?_ | refine wpL_skip ?_ | refine wpL_label ?_ | refine wpL_scope ?_)
  refine wpL_block fun k5 hn5 hx5 ho5 => ?_
  refine wpL_loop (fun j e h' => ∃ (i : Nat) (N : List Int), i ≤ t.groups.length ∧ j = t.groups.length - i ∧ h' = Heap.emp.put b27 ⟨.own, N.map ci, 3, []⟩ ∧ N.length = t.groups.length ∧
      secondFrom t.confs h.away w i (t.groups.drop i) (h.aspect.drop i) N = nextL t h w ∧
      e = lk [(0, .rp (stepC t h w) 0), (4, .sl b27 0 t.groups.length 1), (7, rivAV t), (57, .rs 1 (h.aspect.map (c1 .i64))), (58, .int .i64 t.groups.length), (59, .int .i64 i)]) t.groups.length
    ⟨0, O, by omega, by omega, rfl, hO, by rw [hA]; rfl, by simp only [← l1]; rfl⟩ ?_
  rintro j e h' ⟨i, N, hi, rfl, rfl, hN, hS, rfl⟩ k6 hn6 hx6
  repeat' (first | refine wpL_seq ?_ | refine wpL_skip ?_ | refine wpL_label ?_ | refine wpL_scope ?_)
  refine wpL_region' [0, 4, 7, 57, 58, 59, 60] fun q hq => ?_
  simp -implicitDefEqProofs (disch := omega) only [go_sem, Int.reduceEq, Int.reduceLT, Int.reduceLE, Int.reduceToNat, Int.reduceNeg, Int.reduceAdd, Int.reduceSub, Nat.reduceEqDiff, Nat.reduceAdd, Nat.reduceMul, Nat.reduceLeDiff, Nat.reduceSub, ↓reduceIte, reduceCtorEq, hb3, hb27]
  repeat (refine And.intro (by omega) ?_)
  refine hq _ _ _ (by simp only [pickL, lk_cons, Nat.reduceEqDiff, ↓reduceIte]; exact rfl) ?_
  clear hq q
  repeat' (first | refine wpL_seq ?_ | refine wpL_skip ?_ | refine wpL_label ?_ | refine wpL_scope ?_)
  refine wpL_cond rfl (fun hc7 => ?_) (fun hc7 => ?_)
  · simp at hc7
    obtain ⟨g, hg⟩ := get_of_lt hc7
    obtain ⟨a, ha⟩ := get_of_lt (show i < h.aspect.length by omega)
    rw [drop_get hg, drop_get ha, secondFrom] at hS
    repeat' (first | refine wpL_seq ?_ | refine wpL_skip ?_ | refine wpL_label ?_ | refine wpL_scope ?_)
    refine wpL_block fun k8 hn8 hx8 ho8 => ?_
    repeat' (first | refine wpL_seq ?_ | refine wpL_skip ?_ | refine wpL_label ?_ | refine wpL_scope ?_)
    refine wpL_region' [0, 4, 7, 8, 9, 57, 58, 59] fun q hq => ?_
    simp -implicitDefEqProofs (disch := omega) only [go_sem, Int.reduceEq, Int.reduceLT, Int.reduceLE, Int.reduceToNat, Int.reduceNeg, Int.reduceAdd, Int.reduceSub, Nat.reduceEqDiff, Nat.reduceAdd, Nat.reduceMul, Nat.reduceLeDiff, Nat.reduceSub, ↓reduceIte, reduceCtorEq, ha, c1, hb3, hb27]
    repeat (refine And.intro (by omega) ?_)
    refine hq _ _ _ (by simp only [pickL, lk_cons, Nat.reduceEqDiff, ↓reduceIte]; exact rfl) ?_
    clear hq q
    repeat' (first | refine wpL_seq ?_ | refine wpL_skip ?_ | refine wpL_label ?_ | refine wpL_scope ?_)
    refine wpL_regV [0, 4, 7, 8, 57, 58, 59] 74 (.bool (!decide (a = 0) || !w.getLsbD i)) (by simp only [pickL, put, lk_cons, Int.reduceEq, Int.reduceLT, Int.reduceLE, Int.reduceToNat, Int.reduceNeg, Int.reduceAdd, Int.reduceSub, Nat.reduceEqDiff, Nat.reduceAdd, Nat.reduceMul, Nat.reduceLeDiff, Nat.reduceSub, ↓reduceIte, reduceCtorEq, if_true, if_false]; exact rfl) (by decide) ?_ ?_
    · simp -implicitDefEqProofs (disch := omega) only [go_sem, Int.reduceEq, Int.reduceLT, Int.reduceLE, Int.reduceToNat, Int.reduceNeg, Int.reduceAdd, Int.reduceSub, Nat.reduceEqDiff, Nat.reduceAdd, Nat.reduceMul, Nat.reduceLeDiff, Nat.reduceSub, ↓reduceIte, reduceCtorEq, stepC, hb3, hb27]
      repeat' (first | (refine gN_split2 (fun hs => ?_) (fun hs => ?_) <;> simp -implicitDefEqProofs (disch := omega) only [go_sem, Int.reduceEq, Int.reduceLT, Int.reduceLE, Int.reduceToNat, Int.reduceNeg, Int.reduceAdd, Int.reduceSub, Nat.reduceEqDiff, Nat.reduceAdd, Nat.reduceMul, Nat.reduceLeDiff, Nat.reduceSub, ↓reduceIte, reduceCtorEq, hs, stepC, hb3, hb27]) | refine gN_callP (f32_wanted w i (by omega)) ?_ | simp -implicitDefEqProofs (disch := omega) only [go_sem, Int.reduceEq, Int.reduceLT, Int.reduceLE, Int.reduceToNat, Int.reduceNeg, Int.reduceAdd, Int.reduceSub, Nat.reduceEqDiff, Nat.reduceAdd, Nat.reduceMul, Nat.reduceLeDiff, Nat.reduceSub, ↓reduceIte, reduceCtorEq, stepC, hb3, hb27] | refine And.intro (by omega) ?_)
      all_goals (try clear hK'; try clear hn1; try clear hx1; try clear ho1; try clear hn2; try clear hx2; try clear hn4; try clear hx4; try clear ho4; try clear hn5; try clear hx5; try clear ho5; try clear hn6; try clear hx6; try clear hn8; try clear hx8; try clear ho8)
      all_goals (grind)
    repeat' (first | refine wpL_seq ?_ | refine wpL_skip ?_ | refine wpL_label ?_ | refine wpL_scope ?_)
    refine wpL_cond rfl (fun hc9 => ?_) (fun hc9 => ?_)
    · repeat' (first | refine wpL_seq ?_ | refine wpL_skip ?_ | refine wpL_label ?_ | refine wpL_scope ?_)
      refine wpL_exit (hx8 _ _ ?_)
      repeat' (first | refine wpL_seq ?_ | refine wpL_skip ?_ | refine wpL_label ?_ | refine wpL_scope ?_)
      refine wpL_region' [0, 4, 7, 57, 58, 59] fun q hq => ?_
      simp -implicitDefEqProofs (disch := omega) only [go_sem, Int.reduceEq, Int.reduceLT, Int.reduceLE, Int.reduceToNat, Int.reduceNeg, Int.reduceAdd, Int.reduceSub, Nat.reduceEqDiff, Nat.reduceAdd, Nat.reduceMul, Nat.reduceLeDiff, Nat.reduceSub, ↓reduceIte, reduceCtorEq, hb3, hb27]
      repeat (refine And.intro (by omega) ?_)
      refine hq _ _ _ (by simp only [pickL, lk_cons, Nat.reduceEqDiff, ↓reduceIte]; exact rfl) ?_
      clear hq q
      repeat' (first | refine wpL_seq ?_ | refine wpL_skip ?_ | refine wpL_label ?_ | refine wpL_scope ?_)
      exact wpL_nil (hn6 (t.groups.length - (i + 1)) _ _ (by omega) ⟨i + 1, N, by omega, by omega, rfl, hN, by rw [← hS, if_neg (by grind)], rfl⟩)
    have hc9' : a = 0 ∧ w.getLsbD i = true := by grind
    obtain ⟨rfl, hwi⟩ := hc9'
    have hri : (List.map (fun g => [AV.rs 2 ((rivOf g t.confs).map rcell)]) (List.range t.groups.length))[i]? = some [AV.rs 2 ((rivOf i t.confs).map rcell)] := by simp [hc7]
    repeat' (first | refine wpL_seq ?_ | refine wpL_skip ?_ | refine wpL_label ?_ | refine wpL_scope ?_)
    refine wpL_region' [0, 4, 7, 8, 57, 58, 59, 78, 79, 80] fun q hq => ?_
    simp -implicitDefEqProofs (disch := omega) only [go_sem, Int.reduceEq, Int.reduceLT, Int.reduceLE, Int.reduceToNat, Int.reduceNeg, Int.reduceAdd, Int.reduceSub, Nat.reduceEqDiff, Nat.reduceAdd, Nat.reduceMul, Nat.reduceLeDiff, Nat.reduceSub, ↓reduceIte, reduceCtorEq, rivAV, hri, List.length_map, hb3, hb27]
    repeat (refine And.intro (by omega) ?_)
    refine hq _ _ _ (by simp only [pickL, lk_cons, Nat.reduceEqDiff, ↓reduceIte]; exact rfl) ?_
    clear hq q
    have hrl := rivOf_length i t.confs
    have hcl := hs.c
    repeat' (first | refine wpL_seq ?_ | refine wpL_skip ?_ | refine wpL_label ?_ | refine wpL_scope ?_)
    refine wpL_block fun k10 hn10 hx10 ho10 => ?_
    refine wpL_loop (fun j e h' => ∃ k : Nat, k ≤ (rivOf i t.confs).length ∧ j = (rivOf i t.confs).length - k ∧ h' = Heap.emp.put b27 ⟨.own, N.map ci, 3, []⟩ ∧ freeB N h.away (rivOf i t.confs) = freeB N h.away ((rivOf i t.confs).drop k) ∧
        e = lk [(0, .rp (stepC t h w) 0), (4, .sl b27 0 t.groups.length 1), (7, rivAV t), (8, .int .i64 i), (57, .rs 1 (h.aspect.map (c1 .i64))), (58, .int .i64 t.groups.length), (59, .int .i64 i),
          (78, .rs 2 ((rivOf i t.confs).map rcell)), (79, .int .i64 (rivOf i t.confs).length), (80, .int .i64 k)]) (rivOf i t.confs).length
      ⟨0, by omega, by omega, rfl, rfl, rfl⟩ ?_
    rintro j e h' ⟨k, hk, rfl, rfl, hF, rfl⟩ k11 hn11 hx11
    repeat' (first | refine wpL_seq ?_ | refine wpL_skip ?_ | refine wpL_label ?_ | refine wpL_scope ?_)
    refine wpL_region' [0, 4, 7, 8, 57, 58, 59, 78, 79, 80, 81] fun q hq => ?_
    simp -implicitDefEqProofs (disch := omega) only [go_sem, Int.reduceEq, Int.reduceLT, Int.reduceLE, Int.reduceToNat, Int.reduceNeg, Int.reduceAdd, Int.reduceSub, Nat.reduceEqDiff, Nat.reduceAdd, Nat.reduceMul, Nat.reduceLeDiff, Nat.reduceSub, ↓reduceIte, reduceCtorEq, hb3, hb27]
    repeat (refine And.intro (by omega) ?_)
    refine hq _ _ _ (by simp only [pickL, lk_cons, Nat.reduceEqDiff, ↓reduceIte]; exact rfl) ?_
    clear hq q
    repeat' (first | refine wpL_seq ?_ | refine wpL_skip ?_ | refine wpL_label ?_ | refine wpL_scope ?_)
    refine wpL_cond rfl (fun hc12 => ?_) (fun hc12 => ?_)
    · simp at hc12
      obtain ⟨r, hr⟩ := get_of_lt hc12
      obtain ⟨b, hrb, hbn⟩ := rivOf_in hok i r (List.mem_of_getElem? hr)
      rw [drop_get hr, freeB] at hF
      obtain ⟨v, hv⟩ := get_of_lt (show b < N.length by omega)
      obtain ⟨y, hy⟩ := get_of_lt (show b < h.away.length by omega)
      have hyr := hI.w y (List.mem_of_getElem? hy)
      repeat' (first | refine wpL_seq ?_ | refine wpL_skip ?_ | refine wpL_label ?_ | refine wpL_scope ?_)
      refine wpL_block fun k13 hn13 hx13 ho13 => ?_
      repeat' (first | refine wpL_seq ?_ | refine wpL_skip ?_ | refine wpL_label ?_ | refine wpL_scope ?_)
      refine wpL_region' [0, 4, 7, 8, 11, 57, 58, 59, 78, 79, 80] fun q hq => ?_
      simp -implicitDefEqProofs (disch := omega) only [go_sem, Int.reduceEq, Int.reduceLT, Int.reduceLE, Int.reduceToNat, Int.reduceNeg, Int.reduceAdd, Int.reduceSub, Nat.reduceEqDiff, Nat.reduceAdd, Nat.reduceMul, Nat.reduceLeDiff, Nat.reduceSub, ↓reduceIte, reduceCtorEq, hr, rcell, hb3, hb27]
      repeat (refine And.intro (by omega) ?_)
      refine gN_new fun b11 hb11 => ?_
      try simp only [newIn_put, newIn_upd] at hb11
      simp -implicitDefEqProofs (disch := omega) only [go_sem, Int.reduceEq, Int.reduceLT, Int.reduceLE, Int.reduceToNat, Int.reduceNeg, Int.reduceAdd, Int.reduceSub, Nat.reduceEqDiff, Nat.reduceAdd, Nat.reduceMul, Nat.reduceLeDiff, Nat.reduceSub, ↓reduceIte, reduceCtorEq, hr, rcell, hb3, hb27, hb11]
      repeat (refine And.intro (by omega) ?_)
      refine hq _ _ _ (by simp only [pickL, lk_cons, Nat.reduceEqDiff, ↓reduceIte]; exact rfl) ?_
      clear hq q
      refine wpL_frzP' 11 rfl (by simp only [go_sem, hb3, hb27, hb11]; exact rfl) rfl (by simp only [go_sem, Int.reduceEq, Int.reduceLT, Int.reduceLE, Int.reduceToNat, Int.reduceNeg, Int.reduceAdd, Int.reduceSub, Nat.reduceEqDiff, Nat.reduceAdd, Nat.reduceMul, Nat.reduceLeDiff, Nat.reduceSub, ↓reduceIte, reduceCtorEq]; exact rfl) (by simp only [go_sem, hb3, hb27, hb11]; exact rfl) ?_
      repeat' (first | refine wpL_seq ?_ | refine wpL_skip ?_ | refine wpL_label ?_ | refine wpL_scope ?_)
      refine wpL_drawV [0, 4, 7, 8, 57, 58, 59, 78, 79, 80] 104 (.bool (!(decide (v = 0) && decide (r.2 ≤ y)))) [0, 1, 2, 3, 4, 5, 6, 7, 8, 9, 10, 12, 17, 11, 13, 14, 15, 16, 18, 19, 20] [] [] (by kernel_rfl) (by kernel_rfl) (by kernel_rfl) (by simp only [pickL, put, lk_cons, Int.reduceEq, Int.reduceLT, Int.reduceLE, Int.reduceToNat, Int.reduceNeg, Int.reduceAdd, Int.reduceSub, Nat.reduceEqDiff, Nat.reduceAdd, Nat.reduceMul, Nat.reduceLeDiff, Nat.reduceSub, ↓reduceIte, reduceCtorEq, if_true, if_false]; exact rfl) (by decide) ?_ ?_
      · simp -implicitDefEqProofs (disch := omega) only [go_sem, Int.reduceEq, Int.reduceLT, Int.reduceLE, Int.reduceToNat, Int.reduceNeg, Int.reduceAdd, Int.reduceSub, Nat.reduceEqDiff, Nat.reduceAdd, Nat.reduceMul, Nat.reduceLeDiff, Nat.reduceSub, ↓reduceIte, reduceCtorEq, hv, hy, hrb, stepC, c1, hN, hb3, hb27, hb11]
        repeat' (first | (refine gN_split2 (fun hs => ?_) (fun hs => ?_) <;> simp -implicitDefEqProofs (disch := omega) only [go_sem, Int.reduceEq, Int.reduceLT, Int.reduceLE, Int.reduceToNat, Int.reduceNeg, Int.reduceAdd, Int.reduceSub, Nat.reduceEqDiff, Nat.reduceAdd, Nat.reduceMul, Nat.reduceLeDiff, Nat.reduceSub, ↓reduceIte, reduceCtorEq, hs, hv, hy, hrb, stepC, c1, hN, hb3, hb27, hb11]) | simp -implicitDefEqProofs (disch := omega) only [go_sem, Int.reduceEq, Int.reduceLT, Int.reduceLE, Int.reduceToNat, Int.reduceNeg, Int.reduceAdd, Int.reduceSub, Nat.reduceEqDiff, Nat.reduceAdd, Nat.reduceMul, Nat.reduceLeDiff, Nat.reduceSub, ↓reduceIte, reduceCtorEq, hv, hy, hrb, stepC, c1, hN, hb3, hb27, hb11] | refine And.intro (by omega) ?_)
        all_goals (try clear hK'; try clear hn1; try clear hx1; try clear ho1; try clear hn2; try clear hx2; try clear hn4; try clear hx4; try clear ho4; try clear hn5; try clear hx5; try clear ho5; try clear hn6; try clear hx6; try clear hn8; try clear hx8; try clear ho8; try clear hn10; try clear hx10; try clear ho10; try clear hn11; try clear hx11; try clear hn13; try clear hx13; try clear ho13)
        all_goals (grind)
      have hvd : N.getD b 0 = v := by simp [hv]
      have hyd : h.away.getD b 0 = y := by simp [hy]
      rw [hrb, Int.toNat_natCast, hvd, hyd] at hF
      repeat' (first | refine wpL_seq ?_ | refine wpL_skip ?_ | refine wpL_label ?_ | refine wpL_scope ?_)
      refine wpL_cond rfl (fun hc14 => ?_) (fun hc14 => ?_)
      · repeat' (first | refine wpL_seq ?_ | refine wpL_skip ?_ | refine wpL_label ?_ | refine wpL_scope ?_)
        refine wpL_exit (ho13 _ _ _ (by simp) (by simp) (hx11 _ _ _ (by simp) (ho10 _ _ _ (by simp) (by simp) (hx8 _ _ ?_))))
        repeat' (first | refine wpL_seq ?_ | refine wpL_skip ?_ | refine wpL_label ?_ | refine wpL_scope ?_)
        refine wpL_region' [0, 4, 7, 57, 58, 59] fun q hq => ?_
        simp -implicitDefEqProofs (disch := omega) only [go_sem, Int.reduceEq, Int.reduceLT, Int.reduceLE, Int.reduceToNat, Int.reduceNeg, Int.reduceAdd, Int.reduceSub, Nat.reduceEqDiff, Nat.reduceAdd, Nat.reduceMul, Nat.reduceLeDiff, Nat.reduceSub, ↓reduceIte, reduceCtorEq, hb3, hb27, hb11]
        repeat (refine And.intro (by omega) ?_)
        refine hq _ _ _ (by simp only [pickL, lk_cons, Nat.reduceEqDiff, ↓reduceIte]; exact rfl) ?_
        clear hq q
        repeat' (first | refine wpL_seq ?_ | refine wpL_skip ?_ | refine wpL_label ?_ | refine wpL_scope ?_)
        exact wpL_nil (hn6 (t.groups.length - (i + 1)) _ _ (by omega) ⟨i + 1, N, by omega, by omega, rfl, hN, by rw [← hS, if_neg (by rw [hF]; grind)], rfl⟩)
      repeat' (first | refine wpL_seq ?_ | refine wpL_skip ?_ | refine wpL_label ?_ | refine wpL_scope ?_)
      refine wpL_nil (hn13 _ _ ?_)
      repeat' (first | refine wpL_seq ?_ | refine wpL_skip ?_ | refine wpL_label ?_ | refine wpL_scope ?_)
      refine wpL_region' [0, 4, 7, 8, 57, 58, 59, 78, 79, 80] fun q hq => ?_
      simp -implicitDefEqProofs (disch := omega) only [go_sem, Int.reduceEq, Int.reduceLT, Int.reduceLE, Int.reduceToNat, Int.reduceNeg, Int.reduceAdd, Int.reduceSub, Nat.reduceEqDiff, Nat.reduceAdd, Nat.reduceMul, Nat.reduceLeDiff, Nat.reduceSub, ↓reduceIte, reduceCtorEq, hb3, hb27, hb11]
      repeat (refine And.intro (by omega) ?_)
      refine hq _ _ _ (by simp only [pickL, lk_cons, Nat.reduceEqDiff, ↓reduceIte]; exact rfl) ?_
      clear hq q
      repeat' (first | refine wpL_seq ?_ | refine wpL_skip ?_ | refine wpL_label ?_ | refine wpL_scope ?_)
      exact wpL_nil (hn11 ((rivOf i t.confs).length - (k + 1)) _ _ (by omega) ⟨k + 1, by omega, by omega, rfl, by rw [hF]; grind, rfl⟩)
    simp at hc12
    have hkk : k = (rivOf i t.confs).length := by omega
    subst hkk
    rw [List.drop_length, freeB] at hF
    repeat' (first | refine wpL_seq ?_ | refine wpL_skip ?_ | refine wpL_label ?_ | refine wpL_scope ?_)
    refine wpL_exit (hx11 _ _ _ (by simp) (hx10 _ _ ?_))
    repeat' (first | refine wpL_seq ?_ | refine wpL_skip ?_ | refine wpL_label ?_ | refine wpL_scope ?_)
    refine wpL_region' [0, 4, 7, 57, 58, 59] fun q hq => ?_
    simp -implicitDefEqProofs (disch := omega) only [go_sem, Int.reduceEq, Int.reduceLT, Int.reduceLE, Int.reduceToNat, Int.reduceNeg, Int.reduceAdd, Int.reduceSub, Nat.reduceEqDiff, Nat.reduceAdd, Nat.reduceMul, Nat.reduceLeDiff, Nat.reduceSub, ↓reduceIte, reduceCtorEq, hN, List.length_map, hb3, hb27]
    repeat (refine And.intro (by omega) ?_)
    refine gN_callP (f33_first t h w i hg) ?_
    simp -implicitDefEqProofs (disch := omega) only [go_sem, Int.reduceEq, Int.reduceLT, Int.reduceLE, Int.reduceToNat, Int.reduceNeg, Int.reduceAdd, Int.reduceSub, Nat.reduceEqDiff, Nat.reduceAdd, Nat.reduceMul, Nat.reduceLeDiff, Nat.reduceSub, ↓reduceIte, reduceCtorEq, hN, List.length_map, hb3, hb27]
    repeat (refine And.intro (by omega) ?_)
    refine hq _ _ _ (by simp only [pickL, lk_cons, Nat.reduceEqDiff, ↓reduceIte]; exact rfl) ?_
    clear hq q
    repeat' (first | refine wpL_seq ?_ | refine wpL_skip ?_ | refine wpL_label ?_ | refine wpL_scope ?_)
    refine wpL_nil (hn8 _ _ ?_)
    repeat' (first | refine wpL_seq ?_ | refine wpL_skip ?_ | refine wpL_label ?_ | refine wpL_scope ?_)
    refine wpL_region' [0, 4, 7, 57, 58, 59] fun q hq => ?_
    simp -implicitDefEqProofs (disch := omega) only [go_sem, Int.reduceEq, Int.reduceLT, Int.reduceLE, Int.reduceToNat, Int.reduceNeg, Int.reduceAdd, Int.reduceSub, Nat.reduceEqDiff, Nat.reduceAdd, Nat.reduceMul, Nat.reduceLeDiff, Nat.reduceSub, ↓reduceIte, reduceCtorEq, hb3, hb27]
    repeat (refine And.intro (by omega) ?_)
    refine hq _ _ _ (by simp only [pickL, lk_cons, Nat.reduceEqDiff, ↓reduceIte]; exact rfl) ?_
    clear hq q
    repeat' (first | refine wpL_seq ?_ | refine wpL_skip ?_ | refine wpL_label ?_ | refine wpL_scope ?_)
    exact wpL_nil (hn6 (t.groups.length - (i + 1)) _ _ (by omega) ⟨i + 1, N.set i (firstOf g), by omega, by omega, by rw [set_of_take (by simp [hN]; exact hc7), List.map_set], by simp [hN], by rw [← hS, if_pos (by rw [hF]; simp [hwi])], rfl⟩)
  simp at hc7
  have hin : i = t.groups.length := by omega
  subst hin
  rw [List.drop_length, secondFrom.eq_2 _ _ _ _ _ _ _ (by simp)] at hS
  repeat' (first | refine wpL_seq ?_ | refine wpL_skip ?_ | refine wpL_label ?_ | refine wpL_scope ?_)
  refine wpL_exit (hx6 _ _ _ (by simp) (hx5 _ _ ?_))
  repeat' (first | refine wpL_seq ?_ | refine wpL_skip ?_ | refine wpL_label ?_ | refine wpL_scope ?_)
  refine wpL_region' [2] fun q hq => ?_
  simp -implicitDefEqProofs (disch := omega) only [go_sem, Int.reduceEq, Int.reduceLT, Int.reduceLE, Int.reduceToNat, Int.reduceNeg, Int.reduceAdd, Int.reduceSub, Nat.reduceEqDiff, Nat.reduceAdd, Nat.reduceMul, Nat.reduceLeDiff, Nat.reduceSub, ↓reduceIte, reduceCtorEq, hb3, hb27]
  repeat (refine And.intro (by omega) ?_)
  refine hq _ _ _ (by simp only [pickL, lk_cons, Nat.reduceEqDiff, ↓reduceIte]; exact rfl) ?_
  clear hq q
  repeat' (first | refine wpL_seq ?_ | refine wpL_skip ?_ | refine wpL_label ?_ | refine wpL_scope ?_)
  refine wpL_ret (hK' _ _ _ _ (.inr rfl) (resTo (rs' := [.tmp 2]) rfl (by simp only [go_sem, Int.reduceEq, Int.reduceLT, Int.reduceLE, Int.reduceToNat, Int.reduceNeg, Int.reduceAdd, Int.reduceSub, Nat.reduceEqDiff, Nat.reduceAdd, Nat.reduceMul, Nat.reduceLeDiff, Nat.reduceSub, ↓reduceIte, reduceCtorEq, hb3, hb27]; exact rfl)) ?_)
  subst hS
  refine ⟨[⟨b27, 1, t.groups.length, (nextL t h w).map (c1 .i64)⟩], .cons (by simp only [go_sem, hb3, hb27] <;> exact rfl) rfl (Els.of (c1_len _) _ (by generalize nextL t h w = l; induction l with | nil => rfl | cons x l ih => have ih' : List.map ci l = (List.map (c1 .i64) l).flatten := ih; simp [c1]; exact ih') hN) (by simp only [go_sem, hb3, hb27]) (.nil), ?_⟩
  simp only [go_sem, Int.reduceEq, Int.reduceLT, Int.reduceLE, Int.reduceToNat, Int.reduceNeg, Int.reduceAdd, Int.reduceSub, Nat.reduceEqDiff, Nat.reduceAdd, Nat.reduceMul, Nat.reduceLeDiff, Nat.reduceSub, ↓reduceIte, reduceCtorEq, hb3, hb27]
end Go.Proofs.Ytapijpaeflefoaa.Am.X
