/- Heads: a step from sound heads gives sound heads. Plain laws. -/
import Derived.Test.YtapijpaeflefoaaX17
namespace Go.Proofs.Ytapijpaeflefoaa.Am.X
set_option linter.unusedSectionVars false
open Go Am
set_option linter.unusedVariables false
set_option linter.unusedSimpArgs false

theorem alonesFrom_at (w : BitVec 64) : ∀ {gs : List Group} {bs xs : List Int} {k i : Nat} {g : Group} {a x : Int}, gs[i]? = some g → bs[i]? = some a → xs[i]? = some x → (alonesFrom w k gs bs xs)[i]? = some (alone g a x (w.getLsbD (k + i)))
  | [], _, _, _, _, _, _, _, h, _, _ => by simp at h
  | _ :: _, [], _, _, _, _, _, _, _, h, _ => by simp at h
  | _ :: _, _ :: _, [], _, _, _, _, _, _, _, h => by simp at h
  | g0 :: gs, a0 :: bs, x0 :: xs, k, 0, g, a, x, h1, h2, h3 => by
    simp at h1 h2 h3
    subst h1; subst h2; subst h3
    simp [alonesFrom]
  | g0 :: gs, a0 :: bs, x0 :: xs, k, i + 1, g, a, x, h1, h2, h3 => by
    simp only [alonesFrom, List.getElem?_cons_succ] at h1 h2 h3 ⊢
    rw [alonesFrom_at w h1 h2 h3, show k + 1 + i = k + (i + 1) by omega]
theorem freeB_mem {now away : List Int} : ∀ {l : List (Int × Int)}, freeB now away l = true → ∀ r ∈ l, now.getD r.1.toNat 0 = 0 ∧ r.2 ≤ away.getD r.1.toNat 0
  | [], _, r, hr => by cases hr
  | r0 :: l, h, r, hr => by
    simp only [freeB, Bool.and_eq_true, decide_eq_true_eq] at h
    rcases List.mem_cons.1 hr with rfl | hr
    · exact h.1
    · exact freeB_mem h.2 r hr
theorem rivOf_a {g : Nat} : ∀ {l : List Conf} {c : Conf}, c ∈ l → c.a = g → (c.b, c.ba) ∈ rivOf g l
  | c0 :: l, c, h, ha => by
    rcases List.mem_cons.1 h with rfl | h
    · simp [rivOf, ha]
    · simp only [rivOf, List.mem_append]; exact .inr (rivOf_a h ha)
theorem rivOf_b {g : Nat} : ∀ {l : List Conf} {c : Conf}, c ∈ l → c.b = g → (c.a, c.ab) ∈ rivOf g l
  | c0 :: l, c, h, ha => by
    rcases List.mem_cons.1 h with rfl | h
    · simp [rivOf, ha]
    · simp only [rivOf, List.mem_append]; exact .inr (rivOf_b h ha)

/-- What stands between the groups of the second pass. -/
structure Pass (t : Tables) (h : Hd) (w : BitVec 64) (now : List Int) : Prop where
  len : now.length = t.groups.length
  val : ∀ (j : Nat) g a x v, t.groups[j]? = some g → h.aspect[j]? = some a → h.ins[j]? = some x → now[j]? = some v → v = alone g a x (w.getLsbD j) ∨ (a = 0 ∧ w.getLsbD j = true ∧ v = firstOf g)
  clr : ∀ c ∈ t.confs, now.getD c.a.toNat 0 = 0 ∨ now.getD c.b.toNat 0 = 0
theorem getD_set {l : List Int} {i k : Nat} {v : Int} : (l.set i v).getD k 0 = if k = i ∧ i < l.length then v else l.getD k 0 := by
  simp only [List.getD_eq_getElem?_getD, List.getElem?_set]
  by_cases h : i = k
  · subst h
    by_cases h2 : i < l.length
    · simp [h2]
    · simp [h2, List.getElem?_eq_none (Nat.le_of_not_lt h2)]
  · rw [if_neg h, if_neg (by omega)]
theorem pass_second {t : Tables} {h : Hd} {w : BitVec 64} (hok : t.ok = true) : ∀ (gs : List Group) (i : Nat) (bs now : List Int), gs = t.groups.drop i → bs = h.aspect.drop i → Pass t h w now → Pass t h w (secondFrom t.confs h.away w i gs bs now)
  | [], i, bs, now, _, _, hp => by simpa [secondFrom] using hp
  | g :: gs, i, [], now, _, _, hp => by simpa [secondFrom] using hp
  | g :: gs, i, a :: bs, now, hg, hb, hp => by
    simp only [secondFrom]
    have hgi : t.groups[i]? = some g := by
      have := congrArg (·[0]?) hg
      simpa using this.symm
    have hbi : h.aspect[i]? = some a := by
      have := congrArg (·[0]?) hb
      simpa using this.symm
    have hi : i < t.groups.length := (List.getElem?_eq_some_iff.1 hgi).1
    refine pass_second hok gs (i + 1) bs _ ?_ ?_ ?_
    · rw [← List.drop_drop, ← hg]; rfl
    · rw [← List.drop_drop, ← hb]; rfl
    split
    · rename_i hc
      simp only [Bool.and_eq_true, decide_eq_true_eq] at hc
      obtain ⟨⟨rfl, hw⟩, hf⟩ := hc
      have hfm := freeB_mem hf
      refine ⟨by rw [List.length_set]; exact hp.len, ?_, ?_⟩
      · intro j g' a' x' v' h1 h2 h3 h4
        by_cases hj : i = j
        · subst hj
          rw [List.getElem?_set_self (by rw [hp.len]; exact hi)] at h4
          rw [hgi] at h1; cases h1
          rw [hbi] at h2; cases h2
          cases h4
          exact .inr ⟨rfl, hw, rfl⟩
        · rw [List.getElem?_set_ne hj] at h4
          exact hp.val j g' a' x' v' h1 h2 h3 h4
      · intro c hc
        obtain ⟨ca, cb, ea, eb, hab, hbn⟩ := Tables.ok_conf hok hc
        have hca : c.a.toNat = ca := by omega
        have hcb : c.b.toNat = cb := by omega
        rw [hca, hcb, getD_set, getD_set]
        have h0 := hp.clr c hc
        rw [hca, hcb] at h0
        by_cases h1 : ca = i
        · subst h1
          right
          rw [if_neg (by omega)]
          have := (hfm _ (rivOf_a hc ea)).1
          simpa only [hcb] using this
        · by_cases h2 : cb = i
          · subst h2
            left
            rw [if_neg (by omega)]
            have := (hfm _ (rivOf_b hc eb)).1
            simpa only [hca] using this
          · rw [if_neg (by omega), if_neg (by omega)]; exact h0
    · exact hp
theorem alone_0 (g : Group) (x : Int) (w : Bool) : alone g 0 x w = 0 := by simp [alone]
theorem pass_first {t : Tables} {h : Hd} (w : BitVec 64) (hs : sound t h = true) : Pass t h w (alonesFrom w 0 t.groups h.aspect h.ins) := by
  obtain ⟨l0, l1, l2, l3, l4⟩ := sound_len hs
  refine ⟨alonesFrom_length _ _ _ _ _ l1 l2, ?_, ?_⟩
  · intro j g a x v h1 h2 h3 h4
    rw [alonesFrom_at w h1 h2 h3, Nat.zero_add] at h4
    cases h4; exact .inl rfl
  · have key : ∀ k : Nat, h.aspect.getD k 0 = 0 → (alonesFrom w 0 t.groups h.aspect h.ins).getD k 0 = 0 := by
      intro k hk
      by_cases hkn : k < t.groups.length
      · obtain ⟨g, hg⟩ := get_of_lt hkn
        obtain ⟨a, ha⟩ := get_of_lt (show k < h.aspect.length by omega)
        obtain ⟨x, hx⟩ := get_of_lt (show k < h.ins.length by omega)
        rw [List.getD_eq_getElem?_getD, ha] at hk
        simp at hk; subst hk
        rw [List.getD_eq_getElem?_getD, alonesFrom_at w hg ha hx]
        simp [alone_0]
      · rw [List.getD_eq_getElem?_getD, List.getElem?_eq_none (by rw [alonesFrom_length _ _ _ _ _ l1 l2]; omega)]; rfl
    intro c hc
    simp only [sound, Bool.and_eq_true, List.all_eq_true] at hs
    have := hs.2 c hc
    simp only [confFree, Bool.or_eq_true, decide_eq_true_eq] at this
    exact this.imp (key _) (key _)
/-- What is known of the next aspects. -/
theorem pass_next {t : Tables} {h : Hd} (w : BitVec 64) (hs : sound t h = true) : Pass t h w (nextL t h w) :=
  pass_second (sound_len hs).ok t.groups 0 h.aspect _ (by simp) (by simp) (pass_first w hs)

theorem insFrom_at : ∀ {ns bs xs : List Int} {i : Nat} {n a x : Int}, ns[i]? = some n → bs[i]? = some a → xs[i]? = some x → (insFrom ns bs xs)[i]? = some (inOf n a x)
  | [], _, _, _, _, _, _, h, _, _ => by simp at h
  | _ :: _, [], _, _, _, _, _, _, h, _ => by simp at h
  | _ :: _, _ :: _, [], _, _, _, _, _, _, h => by simp at h
  | n0 :: ns, a0 :: bs, x0 :: xs, 0, n, a, x, h1, h2, h3 => by
    simp at h1 h2 h3; subst h1; subst h2; subst h3; rfl
  | n0 :: ns, a0 :: bs, x0 :: xs, i + 1, n, a, x, h1, h2, h3 => by
    simp only [insFrom, List.getElem?_cons_succ] at h1 h2 h3 ⊢; exact insFrom_at h1 h2 h3
theorem awFrom_at : ∀ {ns ys : List Int} {i : Nat} {n y : Int}, ns[i]? = some n → ys[i]? = some y → (awFrom ns ys)[i]? = some (awOf n y)
  | [], _, _, _, _, h, _ => by simp at h
  | _ :: _, [], _, _, _, _, h => by simp at h
  | n0 :: ns, y0 :: ys, 0, n, y, h1, h2 => by simp at h1 h2; subst h1; subst h2; rfl
  | n0 :: ns, y0 :: ys, i + 1, n, y, h1, h2 => by
    simp only [awFrom, List.getElem?_cons_succ] at h1 h2 ⊢; exact awFrom_at h1 h2
theorem insFrom_len : ∀ {ns bs xs : List Int}, bs.length = ns.length → xs.length = ns.length → (insFrom ns bs xs).length = ns.length
  | [], [], [], _, _ => rfl
  | n :: ns, a :: bs, x :: xs, h1, h2 => by simp [insFrom, insFrom_len (ns := ns) (bs := bs) (xs := xs) (by simpa using h1) (by simpa using h2)]
theorem awFrom_len : ∀ {ns ys : List Int}, ys.length = ns.length → (awFrom ns ys).length = ns.length
  | [], [], _ => rfl
  | n :: ns, y :: ys, h => by simp [awFrom, awFrom_len (ns := ns) (ys := ys) (by simpa using h)]
theorem headsFrom_of : ∀ {gs : List Group} {bs is ws : List Int}, (∀ (i : Nat) g a x w, gs[i]? = some g → bs[i]? = some a → is[i]? = some x → ws[i]? = some w → headOk g a x w = true) → headsFrom gs bs is ws = true
  | [], _, _, _, _ => by simp [headsFrom]
  | _ :: _, [], _, _, _ => by simp [headsFrom]
  | _ :: _, _ :: _, [], _, _ => by simp [headsFrom]
  | _ :: _, _ :: _, _ :: _, [], _ => by simp [headsFrom]
  | g :: gs, a :: bs, x :: is, w :: ws, h => by
    simp only [headsFrom, Bool.and_eq_true]
    exact ⟨h 0 g a x w rfl rfl rfl rfl, headsFrom_of fun i g' a' x' w' h1 h2 h3 h4 => h (i + 1) g' a' x' w' (by simpa using h1) (by simpa using h2) (by simpa using h3) (by simpa using h4)⟩
theorem ok_group {t : Tables} (h : t.ok = true) {g : Group} (hg : g ∈ t.groups) : (1 ≤ g.min ∧ g.min ≤ 3600) ∧ (0 ≤ g.amber ∧ g.amber ≤ 60) ∧ (0 ≤ g.lead ∧ g.lead ≤ 60) := by
  simp only [Tables.ok, Bool.and_eq_true, List.all_eq_true] at h
  have := h.1.2 g hg
  simp only [Group.ok, inB, Bool.and_eq_true, decide_eq_true_eq] at this
  omega
/-- May b follow a? -/
def nextOk (g : Group) (a b : Int) : Bool :=
  if a = b then true
  else if a = 0 then (decide (b = 1) && decide (0 < g.lead)) || (decide (b = 2) && decide (g.lead = 0))
  else if a = 1 then decide (b = 2)
  else if a = 2 then (decide (b = 3) && decide (0 < g.amber)) || (decide (b = 0) && decide (g.amber = 0))
  else decide (b = 0)
theorem headOk_of {g : Group} {v I W : Int} (h0 : 0 ≤ v) (h3 : v ≤ 3) (hI : 1 ≤ I) (h2 : v = 2 → W = 0) (h2' : v ≠ 2 → 1 ≤ W) (hl : v = 1 → I ≤ g.lead) (ha : v = 3 → I ≤ g.amber) : headOk g v I W = true := by
  simp only [headOk, inB, Bool.and_eq_true, decide_eq_true_eq, Bool.or_eq_true, Bool.not_eq_true', decide_eq_false_iff_not]
  refine ⟨⟨⟨⟨⟨h0, h3⟩, hI⟩, ?_⟩, ?_⟩, ?_⟩
  · split <;> rename_i h
    · simp [h2 h]
    · simp [h2' h]
  · by_cases h : v = 1
    · exact .inr (hl h)
    · exact .inl h
  · by_cases h : v = 3
    · exact .inr (ha h)
    · exact .inl h
/-- One group's step. -/
theorem head_step {g : Group} {a x y v : Int} {w : Bool} (hg : (1 ≤ g.min ∧ g.min ≤ 3600) ∧ (0 ≤ g.amber ∧ g.amber ≤ 60) ∧ (0 ≤ g.lead ∧ g.lead ≤ 60)) (h : headOk g a x y = true)
    (hx : x ≤ 2147483647) (hy : y ≤ 2147483647) (hv : v = alone g a x w ∨ (a = 0 ∧ w = true ∧ v = firstOf g)) : headOk g v (inOf v a x) (awOf v y) = true ∧ nextOk g a v = true ∧ (inOf v a x ≤ 2147483647 ∧ awOf v y ≤ 2147483647) := by
  have hu : ∀ z, 0 ≤ z → z ≤ 2147483647 → 1 ≤ upOf z ∧ upOf z ≤ 2147483647 ∧ (z < 2147483647 → upOf z = z + 1) := fun z hz hz' => by unfold upOf; split <;> omega
  simp only [headOk, inB, Bool.and_eq_true, decide_eq_true_eq, Bool.or_eq_true, Bool.not_eq_true', decide_eq_false_iff_not] at h
  obtain ⟨⟨⟨⟨⟨h0, h3⟩, h1⟩, h4⟩, h5⟩, h6⟩ := h
  have hy0 : 0 ≤ y := by split at h4 <;> simp at h4 <;> omega
  have hux := hu x (by omega) hx
  have huy := hu y hy0 hy
  have hI : inOf v a x = upOf x ∧ v = a ∨ inOf v a x = 1 ∧ v ≠ a := by unfold inOf; split <;> simp_all
  have hW : awOf v y = 0 ∧ v = 2 ∨ awOf v y = upOf y ∧ v ≠ 2 := by unfold awOf; split <;> simp_all
  have hc : (a = 0 ∧ (v = 0 ∨ v = 1 ∧ 0 < g.lead ∨ v = 2 ∧ g.lead = 0)) ∨ (a = 1 ∧ (v = 1 ∧ x < g.lead ∨ v = 2)) ∨ (a = 2 ∧ (v = 2 ∨ v = 3 ∧ 0 < g.amber ∨ v = 0 ∧ g.amber = 0)) ∨ (a = 3 ∧ (v = 3 ∧ x < g.amber ∨ v = 0)) := by
    rcases hv with rfl | ⟨rfl, _, rfl⟩
    · rcases (show a = 0 ∨ a = 1 ∨ a = 2 ∨ a = 3 by omega) with rfl | rfl | rfl | rfl
      · left; simp [alone]
      · right; left; refine ⟨rfl, ?_⟩; simp only [alone, leadOf]; simp; omega
      · right; right; left; refine ⟨rfl, ?_⟩
        simp only [alone, greenOf, if_true]
        split
        · exact .inl rfl
        · split
          · rename_i h; exact .inr (.inl ⟨rfl, h⟩)
          · exact .inr (.inr ⟨rfl, by omega⟩)
      · right; right; right; refine ⟨rfl, ?_⟩
        simp only [alone, amberOf]
        simp
        omega
    · left; refine ⟨rfl, ?_⟩
      unfold firstOf; split
      · rename_i h; exact .inr (.inl ⟨rfl, h⟩)
      · exact .inr (.inr ⟨rfl, by omega⟩)
  refine ⟨headOk_of (by omega) (by omega) (by omega) (by omega) (by omega) (by omega) (by omega), ?_, by omega, by omega⟩
  unfold nextOk
  rcases hc with ⟨rfl, rfl | ⟨rfl, h⟩ | ⟨rfl, h⟩⟩ | ⟨rfl, ⟨rfl, h⟩ | rfl⟩ | ⟨rfl, rfl | ⟨rfl, h⟩ | ⟨rfl, h⟩⟩ | ⟨rfl, ⟨rfl, h⟩ | rfl⟩ <;> first | (simp; done) | (simp [h]; done)
/-- A step from sound heads gives sound heads; each aspect is the same or the next one. -/
theorem sound_step {t : Tables} {h : Hd} (w : BitVec 64) (hs : sound t h = true) (hI : I32 h) : sound t (afterHd t h w) = true ∧ I32 (afterHd t h w) ∧
    (∀ (j : Nat) g a b, t.groups[j]? = some g → h.aspect[j]? = some a → (afterHd t h w).aspect[j]? = some b → nextOk g a b = true) := by
  obtain ⟨l0, l1, l2, l3, l4⟩ := sound_len hs
  have hp := pass_next w hs
  have hnl := nextL_length (w := w) l1 l2
  have hh := sound_heads hs
  have li : (insFrom (nextL t h w) h.aspect h.ins).length = t.groups.length := by rw [insFrom_len (by omega) (by omega), hnl]
  have lw : (awFrom (nextL t h w) h.away).length = t.groups.length := by rw [awFrom_len (by omega), hnl]
  have key : ∀ (j : Nat), j < t.groups.length → ∃ g a x y v, t.groups[j]? = some g ∧ h.aspect[j]? = some a ∧ h.ins[j]? = some x ∧ h.away[j]? = some y ∧ (nextL t h w)[j]? = some v ∧
      (insFrom (nextL t h w) h.aspect h.ins)[j]? = some (inOf v a x) ∧ (awFrom (nextL t h w) h.away)[j]? = some (awOf v y) ∧ headOk g v (inOf v a x) (awOf v y) = true ∧ nextOk g a v = true ∧ (inOf v a x ≤ 2147483647 ∧ awOf v y ≤ 2147483647) := by
    intro j hj
    obtain ⟨g, hg⟩ := get_of_lt hj
    obtain ⟨a, ha⟩ := get_of_lt (show j < h.aspect.length by omega)
    obtain ⟨x, hx⟩ := get_of_lt (show j < h.ins.length by omega)
    obtain ⟨y, hy⟩ := get_of_lt (show j < h.away.length by omega)
    obtain ⟨v, hv⟩ := get_of_lt (show j < (nextL t h w).length by omega)
    refine ⟨g, a, x, y, v, hg, ha, hx, hy, hv, insFrom_at hv ha hx, awFrom_at hv hy, ?_⟩
    exact head_step (ok_group l0 (List.mem_of_getElem? hg)) (headsFrom_at hh hg ha hx hy) (hI.i x (List.mem_of_getElem? hx)).2 (hI.w y (List.mem_of_getElem? hy)).2 (hp.val j g a x v hg ha hx hv)
  refine ⟨?_, ⟨?_, ?_⟩, ?_⟩
  · simp only [sound, Bool.and_eq_true, List.all_eq_true]
    refine ⟨⟨⟨l0, Hd.len_iff.2 ⟨hnl, li, lw⟩⟩, headsFrom_of fun i g a x y h1 h2 h3 h4 => ?_⟩, fun c hc => ?_⟩
    · obtain ⟨g', a', x', y', v', e1, e2, e3, e4, e5, e6, e7, e8, _⟩ := key i (List.getElem?_eq_some_iff.1 h1).1
      have d1 : (nextL t h w)[i]? = some a := h2
      have d2 : (insFrom (nextL t h w) h.aspect h.ins)[i]? = some x := h3
      have d3 : (awFrom (nextL t h w) h.away)[i]? = some y := h4
      rw [e1] at h1; cases h1
      rw [e5] at d1; cases d1
      rw [e6] at d2; cases d2
      rw [e7] at d3; cases d3
      exact e8
    · simp only [confFree, Bool.or_eq_true, decide_eq_true_eq]
      exact hp.clr c hc
  · intro z hz
    obtain ⟨i, hi⟩ := List.mem_iff_getElem?.1 hz
    have d2 : (insFrom (nextL t h w) h.aspect h.ins)[i]? = some z := hi
    have hil := (List.getElem?_eq_some_iff.1 d2).1
    obtain ⟨g', a', x', y', v', e1, e2, e3, e4, e5, e6, e7, e8, _, e9, _⟩ := key i (by omega)
    rw [e6] at d2; cases d2
    simp only [headOk, Bool.and_eq_true, decide_eq_true_eq] at e8
    omega
  · intro z hz
    obtain ⟨i, hi⟩ := List.mem_iff_getElem?.1 hz
    have d2 : (awFrom (nextL t h w) h.away)[i]? = some z := hi
    have hil := (List.getElem?_eq_some_iff.1 d2).1
    obtain ⟨g', a', x', y', v', e1, e2, e3, e4, e5, e6, e7, e8, _, _, e9⟩ := key i (by omega)
    rw [e7] at d2; cases d2
    simp only [headOk, Bool.and_eq_true, decide_eq_true_eq] at e8
    refine ⟨?_, e9⟩
    have := e8.1.1.2
    split at this <;> simp at this <;> omega
  · intro j g a b h1 h2 h3
    obtain ⟨g', a', x', y', v', e1, e2, e3, e4, e5, e6, e7, e8, e9, _⟩ := key j (List.getElem?_eq_some_iff.1 h1).1
    have d1 : (nextL t h w)[j]? = some b := h3
    rw [e1] at h1; cases h1
    rw [e2] at h2; cases h2
    rw [e5] at d1; cases d1
    exact e9
end Go.Proofs.Ytapijpaeflefoaa.Am.X
