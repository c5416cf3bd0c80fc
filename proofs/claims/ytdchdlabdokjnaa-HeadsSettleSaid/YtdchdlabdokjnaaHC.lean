/- Heads: the same wants without a conflict, again and again: settled. Plain laws. -/
import Derived.Test.YtdchdlabdokjnaaHP
namespace Go.Proofs.Ytdchdlabdokjnaa.Am.H
set_option linter.unusedSectionVars false
open Go Am
set_option linter.unusedVariables false
set_option linter.unusedSimpArgs false

/-- The heads behind n steps with the same wants. -/
def itS (t : Tables) (w : BitVec 64) (h : Hd) : Nat → Hd
  | 0 => h
  | n + 1 => afterHd t (itS t w h n) w
theorem it_sound {t : Tables} {w : BitVec 64} {h : Hd} (hs : sound t h = true) (hI : I32 h) : ∀ n, sound t (itS t w h n) = true ∧ I32 (itS t w h n)
  | 0 => ⟨hs, hI⟩
  | n + 1 => by
    obtain ⟨h1, h2⟩ := it_sound hs hI n (w := w)
    obtain ⟨a, b, _⟩ := sound_step w h1 h2
    exact ⟨a, b⟩
theorem first_ne (g : Group) : firstOf g ≠ 0 := by unfold firstOf; split <;> decide
theorem second_keep (cs : List Conf) (aw : List Int) (w : BitVec 64) : ∀ (gs : List Group) (i : Nat) (bs now : List Int) (j : Nat), j < i → (secondFrom cs aw w i gs bs now).getD j 0 = now.getD j 0
  | [], i, bs, now, j, h => by simp [secondFrom]
  | g :: gs, i, [], now, j, h => by simp [secondFrom]
  | g :: gs, i, a :: bs, now, j, h => by
    simp only [secondFrom]
    rw [second_keep cs aw w gs (i + 1) bs _ j (by omega)]
    split
    · rw [getD_set, if_neg (by omega)]
    · rfl
theorem second_zero (cs : List Conf) (aw : List Int) (w : BitVec 64) : ∀ (gs : List Group) (i : Nat) (bs now : List Int) (j : Nat), (secondFrom cs aw w i gs bs now).getD j 0 = 0 → now.getD j 0 = 0
  | [], i, bs, now, j, h => by simpa [secondFrom] using h
  | g :: gs, i, [], now, j, h => by simpa [secondFrom] using h
  | g :: gs, i, a :: bs, now, j, h => by
    simp only [secondFrom] at h
    have h1 := second_zero cs aw w gs (i + 1) bs _ j h
    split at h1
    · rw [getD_set] at h1
      split at h1
      · exact absurd h1 (first_ne g)
      · exact h1
    · exact h1
theorem freeB_of {now away : List Int} : ∀ {l : List (Int × Int)}, (∀ r ∈ l, now.getD r.1.toNat 0 = 0 ∧ r.2 ≤ away.getD r.1.toNat 0) → freeB now away l = true
  | [], _ => rfl
  | r :: l, h => by
    simp only [freeB, Bool.and_eq_true, decide_eq_true_eq]
    exact ⟨h r List.mem_cons_self, freeB_of fun r hr => h r (List.mem_cons_of_mem _ hr)⟩
theorem second_starts {t : Tables} {h : Hd} {w : BitVec 64} {k : Nat} {g : Group} (hg : t.groups[k]? = some g) (ha : h.aspect[k]? = some 0) (hw : w.getLsbD k = true) :
    ∀ (gs : List Group) (i : Nat) (bs now : List Int), gs = t.groups.drop i → bs = h.aspect.drop i → i ≤ k → now.length = t.groups.length →
      (∀ r ∈ rivOf k t.confs, (secondFrom t.confs h.away w i gs bs now).getD r.1.toNat 0 = 0 ∧ r.2 ≤ h.away.getD r.1.toNat 0) → (secondFrom t.confs h.away w i gs bs now).getD k 0 = firstOf g
  | [], i, bs, now, hgs, _, hik, _, _ => by
    have := congrArg List.length hgs
    have hk := (List.getElem?_eq_some_iff.1 hg).1
    simp at this; omega
  | g0 :: gs, i, [], now, _, hbs, hik, _, _ => by
    have := congrArg List.length hbs
    have hk := (List.getElem?_eq_some_iff.1 ha).1
    simp at this; omega
  | g0 :: gs, i, a0 :: bs, now, hgs, hbs, hik, hn, hr => by
    have e1 : t.groups[i]? = some g0 := by
      have := congrArg (·[0]?) hgs
      simpa using this.symm
    have e2 : h.aspect[i]? = some a0 := by
      have := congrArg (·[0]?) hbs
      simpa using this.symm
    have d1 : gs = t.groups.drop (i + 1) := by rw [← List.drop_drop, ← hgs]; rfl
    have d2 : bs = h.aspect.drop (i + 1) := by rw [← List.drop_drop, ← hbs]; rfl
    have hk := (List.getElem?_eq_some_iff.1 hg).1
    by_cases hki : i = k
    · subst hki
      rw [hg] at e1; cases e1
      rw [ha] at e2; cases e2
      simp only [secondFrom] at hr ⊢
      by_cases hc : freeB now h.away (rivOf i t.confs) = true
      · rw [second_keep _ _ _ _ _ _ _ _ (by omega), if_pos (by simp [hw, hc]), getD_set, if_pos ⟨rfl, by omega⟩]
      · exfalso
        apply hc
        refine freeB_of fun r hm => ⟨?_, (hr r hm).2⟩
        have := second_zero _ _ _ _ _ _ _ _ (hr r hm).1
        rwa [if_neg (by simp [hc])] at this
    · simp only [secondFrom] at hr ⊢
      refine second_starts hg ha hw gs (i + 1) bs _ d1 d2 (by omega) (by split <;> simp [hn]) hr
theorem rivOf_conf {k : Nat} : ∀ {l : List Conf} {r : Int × Int}, r ∈ rivOf k l → ∃ c ∈ l, (c.a = k ∧ r = (c.b, c.ba)) ∨ (c.b = k ∧ r = (c.a, c.ab))
  | [], r, h => by cases h
  | c :: l, r, h => by
    simp only [rivOf, List.mem_append] at h
    rcases h with (h | h) | h
    · split at h
      · rename_i hc; simp at h; exact ⟨c, List.mem_cons_self, .inl ⟨hc, h⟩⟩
      · cases h
    · split at h
      · rename_i hc; simp at h; exact ⟨c, List.mem_cons_self, .inr ⟨hc, h⟩⟩
      · cases h
    · obtain ⟨c', h1, h2⟩ := rivOf_conf h
      exact ⟨c', List.mem_cons_of_mem _ h1, h2⟩

/-- A group's row, and what its heads hold. -/
structure At (t : Tables) (h : Hd) (k : Nat) (g : Group) (a x y : Int) : Prop where
  g' : t.groups[k]? = some g
  a' : h.aspect[k]? = some a
  x' : h.ins[k]? = some x
  y' : h.away[k]? = some y
theorem at_of {t : Tables} {h : Hd} (hs : sound t h = true) {k : Nat} {g : Group} (hg : t.groups[k]? = some g) : ∃ a x y, At t h k g a x y := by
  obtain ⟨l0, l1, l2, l3, l4⟩ := sound_len hs
  have hk := (List.getElem?_eq_some_iff.1 hg).1
  obtain ⟨a, ha⟩ := get_of_lt (show k < h.aspect.length by omega)
  obtain ⟨x, hx⟩ := get_of_lt (show k < h.ins.length by omega)
  obtain ⟨y, hy⟩ := get_of_lt (show k < h.away.length by omega)
  exact ⟨a, x, y, hg, ha, hx, hy⟩
theorem At.step {t : Tables} {h : Hd} (w : BitVec 64) (hs : sound t h = true) {k : Nat} {g : Group} {a x y : Int} (hA : At t h k g a x y) :
    ∃ v, At t (afterHd t h w) k g v (inOf v a x) (awOf v y) ∧ (v = alone g a x (w.getLsbD k) ∨ (a = 0 ∧ w.getLsbD k = true ∧ v = firstOf g)) := by
  obtain ⟨l0, l1, l2, l3, l4⟩ := sound_len hs
  have hk := (List.getElem?_eq_some_iff.1 hA.g').1
  have hnl := nextL_length (w := w) l1 l2
  obtain ⟨v, hv⟩ := get_of_lt (show k < (nextL t h w).length by omega)
  exact ⟨v, ⟨hA.g', hv, insFrom_at hv hA.a' hA.x', awFrom_at hv hA.y'⟩, (pass_next w hs).val k g a x v hA.g' hA.a' hA.x' hv⟩
theorem At.ok {t : Tables} {h : Hd} (hs : sound t h = true) (hI : I32 h) {k : Nat} {g : Group} {a x y : Int} (hA : At t h k g a x y) :
    (a = 0 ∨ a = 1 ∨ a = 2 ∨ a = 3) ∧ (1 ≤ x ∧ x ≤ 2147483647) ∧ (0 ≤ y ∧ y ≤ 2147483647) ∧ (a ≠ 2 → 1 ≤ y) ∧ (a = 1 → x ≤ g.lead) ∧ (a = 3 → x ≤ g.amber) := by
  have hh := headsFrom_at (sound_heads hs) hA.g' hA.a' hA.x' hA.y'
  have ha := headOk_a hh
  have i1 := hI.i x (List.mem_of_getElem? hA.x')
  have i2 := hI.w y (List.mem_of_getElem? hA.y')
  simp only [headOk, inB, Bool.and_eq_true, decide_eq_true_eq, Bool.or_eq_true, Bool.not_eq_true', decide_eq_false_iff_not] at hh
  obtain ⟨⟨⟨⟨⟨h0, h3⟩, h1⟩, h4⟩, h5⟩, h6⟩ := hh
  refine ⟨ha, ⟨h1, i1.2⟩, ⟨?_, i2.2⟩, fun h2 => ?_, fun h => h5.resolve_left (fun h2 => h2 h), fun h => h6.resolve_left (fun h2 => h2 h)⟩
  · split at h4 <;> simp at h4 <;> omega
  · rw [if_neg h2] at h4; simpa using h4

/-- For how long a group that is not wanted may go on yet. -/
def sig (g : Group) (M C a x : Int) : Int := if a = 1 then g.lead - x + 1 + M + C else if a = 2 then max (g.min - x) 0 + 1 + C else if a = 3 then g.amber - x + 1 else 0
theorem up_ge {z : Int} (h0 : 0 ≤ z) (h1 : z ≤ 2147483647) : upOf z ≤ 2147483647 ∧ 1 ≤ upOf z ∧ (z ≤ 2147483646 → upOf z = z + 1) ∧ z ≤ upOf z := by
  unfold upOf; split <;> omega
theorem sig_step {g : Group} {M C a x v : Int} (hg : (1 ≤ g.min ∧ g.min ≤ 3600) ∧ (0 ≤ g.amber ∧ g.amber ≤ 60) ∧ (0 ≤ g.lead ∧ g.lead ≤ 60)) (hM : g.min ≤ M) (hC : g.amber ≤ C) (ha : a = 0 ∨ a = 1 ∨ a = 2 ∨ a = 3)
    (hx : 1 ≤ x ∧ x ≤ 2147483647) (h1 : a = 1 → x ≤ g.lead) (h3 : a = 3 → x ≤ g.amber) (hv : v = alone g a x false) : sig g M C v (inOf v a x) ≤ max (sig g M C a x - 1) 0 := by
  have hu := up_ge (z := x) (by omega) hx.2
  rcases ha with rfl | rfl | rfl | rfl
  · simp [alone] at hv; subst hv; simp [sig]; omega
  · have hl := h1 rfl
    simp only [alone, leadOf] at hv
    simp at hv
    by_cases hc : x < g.lead
    · rw [if_pos hc] at hv; subst hv
      simp only [sig, inOf, if_true]; omega
    · rw [if_neg hc] at hv; subst hv
      simp [sig, inOf]; omega
  · simp only [alone, greenOf, if_true, Bool.false_or, decide_eq_true_eq] at hv
    by_cases hc : x < g.min
    · rw [if_pos hc] at hv; subst hv
      simp [sig, inOf]; omega
    · rw [if_neg hc] at hv
      by_cases hd : 0 < g.amber
      · rw [if_pos hd] at hv; subst hv
        simp [sig, inOf]; omega
      · rw [if_neg hd] at hv; subst hv
        simp [sig]; omega
  · simp only [alone, amberOf] at hv
    simp at hv
    by_cases hc : x < g.amber
    · rw [if_pos hc] at hv; subst hv
      simp [sig, inOf]; omega
    · rw [if_neg hc] at hv; subst hv
      simp [sig]; omega
theorem sig_0 {g : Group} {M C L : Int} {a x : Int} (hg : (1 ≤ g.min ∧ g.min ≤ 3600) ∧ (0 ≤ g.amber ∧ g.amber ≤ 60) ∧ (0 ≤ g.lead ∧ g.lead ≤ 60)) (hM : g.min ≤ M) (hC : g.amber ≤ C) (hL : g.lead ≤ L) (ha : a = 0 ∨ a = 1 ∨ a = 2 ∨ a = 3) (hx : 1 ≤ x) : sig g M C a x ≤ L + M + C := by
  rcases ha with rfl | rfl | rfl | rfl <;> simp [sig] <;> omega

/-- What bounds the tables' times. -/
structure Bds (t : Tables) (L M C : Int) : Prop where
  l : ∀ g ∈ t.groups, g.lead ≤ L
  m : ∀ g ∈ t.groups, g.min ≤ M
  c : ∀ g ∈ t.groups, g.amber ≤ C
  ab : ∀ c ∈ t.confs, c.ab ≤ C ∧ c.ba ≤ C
  r : 0 ≤ L ∧ 0 ≤ M ∧ 0 ≤ C ∧ C ≤ 3600
/-- A group that is not wanted. -/
theorem unw {t : Tables} {h : Hd} {w : BitVec 64} {L M C : Int} (hs : sound t h = true) (hI : I32 h) (hB : Bds t L M C) {k : Nat} {g : Group} (hg : t.groups[k]? = some g) (hw : w.getLsbD k = false) :
    ∀ j : Nat, ∃ a x y, At t (itS t w h j) k g a x y ∧ sig g M C a x ≤ max (L + M + C - j) 0 ∧ (L + M ≤ j → min (1 + (j - (L + M))) 3600 ≤ y) := by
  have hgm := List.mem_of_getElem? hg
  have hgr := ok_group (sound_len hs).ok hgm
  have b1 := hB.l g hgm
  have b2 := hB.m g hgm
  have b3 := hB.c g hgm
  obtain ⟨r1, r2, r3, r4⟩ := hB.r
  intro j
  induction j with
  | zero =>
    obtain ⟨a, x, y, hA⟩ := at_of hs hg
    obtain ⟨o1, o2, o3, o4, o5, o6⟩ := hA.ok hs hI
    have := sig_0 (L := L) hgr b2 b3 b1 o1 o2.1
    exact ⟨a, x, y, hA, by omega, fun h => by omega⟩
  | succ j ih =>
    obtain ⟨a, x, y, hA, i1, i2⟩ := ih
    obtain ⟨s1, s2⟩ := it_sound (w := w) hs hI j
    obtain ⟨z1, z2⟩ := it_sound (w := w) hs hI (j + 1)
    obtain ⟨o1, o2, o3, o4, o5, o6⟩ := hA.ok s1 s2
    obtain ⟨v, hA', hv⟩ := hA.step w s1
    have hv' : v = alone g a x false := by
      rcases hv with hv | ⟨_, h2, _⟩
      · rw [hw] at hv; exact hv
      · rw [hw] at h2; cases h2
    have hsg := sig_step hgr b2 b3 o1 o2 o5 o6 hv'
    obtain ⟨q1, q2, q3, q4, q5, q6⟩ := At.ok z1 z2 hA'
    have hk : sig g M C v (inOf v a x) ≤ max (L + M + C - (j + 1 : Nat)) 0 := by
      clear i2 q1 q2 q3 q4 q5 q6 o1 o2 o3 o4 o5 o6
      generalize sig g M C v (inOf v a x) = S' at *
      generalize sig g M C a x = S at *
      omega
    refine ⟨v, _, _, hA', hk, fun hj => ?_⟩
    have hv2 : v ≠ 2 := by
      rintro rfl
      simp [sig] at hk
      omega
    have hu := up_ge (z := y) o3.1 o3.2
    have e : awOf v y = upOf y := by simp [awOf, hv2]
    rw [e]
    clear hk hsg i1 q1 q2 q3 q4 q5 q6 o1 o2 o4 o5 o6 hv hv' hA' hA
    by_cases hj0 : L + M ≤ j
    · have := i2 hj0
      omega
    · clear i2
      omega
theorem unw_red {t : Tables} {h : Hd} {w : BitVec 64} {L M C : Int} (hs : sound t h = true) (hI : I32 h) (hB : Bds t L M C) {k : Nat} {g : Group} (hg : t.groups[k]? = some g) (hw : w.getLsbD k = false) (j : Nat) (hj : L + M + C ≤ j) :
    ∃ x y, At t (itS t w h j) k g 0 x y := by
  have hgm := List.mem_of_getElem? hg
  have hgr := ok_group (sound_len hs).ok hgm
  have b2 := hB.m g hgm
  obtain ⟨r1, r2, r3, r4⟩ := hB.r
  obtain ⟨a, x, y, hA, i1, _⟩ := unw hs hI hB hg hw j
  obtain ⟨s1, s2⟩ := it_sound (w := w) hs hI j
  obtain ⟨o1, o2, o3, o4, o5, o6⟩ := hA.ok s1 s2
  have : a = 0 := by
    rcases o1 with rfl | rfl | rfl | rfl
    · rfl
    · have := o5 rfl; simp [sig] at i1; omega
    · simp [sig] at i1; omega
    · have := o6 rfl; simp [sig] at i1; omega
  subst this
  exact ⟨x, y, hA⟩
/-- No two of the wanted groups conflict. -/
def fits (t : Tables) (w : BitVec 64) : Bool := t.confs.all fun c => !(w.getLsbD c.a.toNat && w.getLsbD c.b.toNat)
theorem At.getA {t h k g a x y} (hA : At t h k g a x y) : h.aspect.getD k 0 = a := by rw [List.getD_eq_getElem?_getD, hA.a']; rfl
theorem At.getY {t h k g a x y} (hA : At t h k g a x y) : h.away.getD k 0 = y := by rw [List.getD_eq_getElem?_getD, hA.y']; rfl
/-- A group that is wanted. -/
theorem wtd {t : Tables} {h : Hd} {w : BitVec 64} {L M C : Int} (hs : sound t h = true) (hI : I32 h) (hB : Bds t L M C) (hf : fits t w = true) {k : Nat} {g : Group} (hg : t.groups[k]? = some g) (hw : w.getLsbD k = true) :
    ∀ j : Nat, ∃ a x y, At t (itS t w h j) k g a x y ∧ (a = 3 → g.amber - x + 1 ≤ C - j) ∧ (L + M + C ≤ j → a = 2 ∨ (a = 1 ∧ g.lead - x + 1 ≤ 2 * L + M + C - j)) := by
  have hok := (sound_len hs).ok
  have hgm := List.mem_of_getElem? hg
  have hgr := ok_group hok hgm
  have b1 := hB.l g hgm
  have b2 := hB.m g hgm
  have b3 := hB.c g hgm
  obtain ⟨r1, r2, r3, r4⟩ := hB.r
  intro j
  induction j with
  | zero =>
    obtain ⟨a, x, y, hA⟩ := at_of hs hg
    obtain ⟨o1, o2, o3, o4, o5, o6⟩ := hA.ok hs hI
    exact ⟨a, x, y, hA, fun h => by omega, fun h => by omega⟩
  | succ j ih =>
    obtain ⟨a, x, y, hA, i1, i2⟩ := ih
    obtain ⟨s1, s2⟩ := it_sound (w := w) hs hI j
    obtain ⟨o1, o2, o3, o4, o5, o6⟩ := hA.ok s1 s2
    obtain ⟨v, hA', hv⟩ := hA.step w s1
    rw [hw] at hv
    have hu := up_ge (z := x) (by omega) o2.2
    -- what each aspect comes to
    have n1 : a = 1 → (v = 1 ∧ x < g.lead ∧ inOf v a x = x + 1) ∨ v = 2 := by
      rintro rfl
      rcases hv with hv | ⟨h0, _⟩
      · simp only [alone, leadOf] at hv; simp at hv
        by_cases hc : x < g.lead
        · rw [if_pos hc] at hv; subst hv
          exact .inl ⟨rfl, hc, by simp [inOf]; omega⟩
        · rw [if_neg hc] at hv; exact .inr hv
      · cases h0
    have n2 : a = 2 → v = 2 := by
      rintro rfl
      rcases hv with hv | ⟨h0, _⟩
      · simpa [alone, greenOf] using hv
      · cases h0
    have n3 : a = 3 → (v = 3 ∧ x < g.amber ∧ inOf v a x = x + 1) ∨ v = 0 := by
      rintro rfl
      rcases hv with hv | ⟨h0, _⟩
      · simp only [alone, amberOf] at hv; simp at hv
        by_cases hc : x < g.amber
        · rw [if_pos hc] at hv; subst hv
          exact .inl ⟨rfl, hc, by simp [inOf]; omega⟩
        · rw [if_neg hc] at hv; exact .inr hv
      · cases h0
    have n0 : a = 0 → v = 0 ∨ v = firstOf g := by
      rintro rfl
      rcases hv with hv | ⟨_, _, h0⟩
      · exact .inl (by simpa [alone] using hv)
      · exact .inr h0
    have nf : firstOf g = 1 ∧ 0 < g.lead ∨ firstOf g = 2 := by unfold firstOf; split <;> simp_all
    have in1 : a ≠ v → inOf v a x = 1 := fun h => by simp [inOf, Ne.symm h]
    refine ⟨v, _, _, hA', fun h3 => ?_, fun hj => ?_⟩
    · rcases o1 with rfl | rfl | rfl | rfl
      · rcases n0 rfl with h | h <;> omega
      · rcases n1 rfl with ⟨h, _⟩ | h <;> omega
      · have := n2 rfl; omega
      · rcases n3 rfl with ⟨h, h', h''⟩ | h
        · have := i1 rfl; rw [h'']; omega
        · omega
    · by_cases hj0 : L + M + C ≤ j
      · rcases i2 hj0 with rfl | ⟨rfl, h1⟩
        · exact .inl (n2 rfl)
        · rcases n1 rfl with ⟨h, h', h''⟩ | h
          · exact .inr ⟨h, by rw [h'']; omega⟩
          · exact .inl h
      · have hjj : (j : Int) + 1 = L + M + C := by omega
        rcases o1 with rfl | rfl | rfl | rfl
        · have hst : v = firstOf g := by
            obtain ⟨l0, l1, l2, l3, l4⟩ := sound_len s1
            have := second_starts (t := t) (h := itS t w h j) (w := w) hg hA.a' hw t.groups 0 (itS t w h j).aspect (alonesFrom w 0 t.groups (itS t w h j).aspect (itS t w h j).ins) (by simp) (by simp) (by omega)
              (alonesFrom_length _ _ _ _ _ l1 l2) (fun r hr => ?_)
            · have hx := hA'.getA
              rw [← hx]; exact this
            · obtain ⟨c, hc, hcr⟩ := rivOf_conf hr
              obtain ⟨ca, cb, ea, eb, hab, hbn⟩ := Tables.ok_conf hok hc
              have hfc := List.all_eq_true.1 hf c hc
              have hcb := hB.ab c hc
              simp only [Bool.not_eq_true', Bool.and_eq_false_iff] at hfc
              have rival : ∀ q : Nat, q < t.groups.length → w.getLsbD q = false → ∀ n : Int, n ≤ C → (secondFrom t.confs (itS t w h j).away w 0 t.groups (itS t w h j).aspect (alonesFrom w 0 t.groups (itS t w h j).aspect (itS t w h j).ins)).getD q 0 = 0 ∧ n ≤ (itS t w h j).away.getD q 0 := by
                intro q hq hwq n hn
                obtain ⟨gq, hgq⟩ := get_of_lt hq
                obtain ⟨a1, x1, y1, hA1, _, k1⟩ := unw hs hI hB hgq hwq j
                obtain ⟨x2, y2, hA2⟩ := unw_red hs hI hB hgq hwq (j + 1) (by omega)
                refine ⟨hA2.getA, ?_⟩
                rw [hA1.getY]
                have hy1 := (hA1.ok s1 s2).2.2.1.1
                by_cases hC0 : C = 0
                · omega
                · have := k1 (by omega)
                  omega
              rcases hcr with ⟨e1, rfl⟩ | ⟨e1, rfl⟩
              · have hk1 : c.a.toNat = k := by omega
                rw [hk1, hw] at hfc
                refine rival _ (by omega) (by simpa using hfc) _ hcb.2
              · have hk1 : c.b.toNat = k := by omega
                rw [hk1, hw] at hfc
                refine rival _ (by omega) (by simpa using hfc) _ hcb.1
          have hin := in1 (by rw [hst]; exact (first_ne g).symm)
          rcases nf with ⟨h, h'⟩ | h
          · exact .inr ⟨by rw [hst, h], by rw [hin]; omega⟩
          · exact .inl (by rw [hst, h])
        · rcases n1 rfl with ⟨h, h', h''⟩ | h
          · exact .inr ⟨h, by rw [h'']; omega⟩
          · exact .inl h
        · exact .inl (n2 rfl)
        · have := i1 rfl
          have := o6 rfl
          omega
theorem wtd_green {t : Tables} {h : Hd} {w : BitVec 64} {L M C : Int} (hs : sound t h = true) (hI : I32 h) (hB : Bds t L M C) (hf : fits t w = true) {k : Nat} {g : Group} (hg : t.groups[k]? = some g) (hw : w.getLsbD k = true) (j : Nat) (hj : 2 * L + M + C ≤ j) :
    ∃ x y, At t (itS t w h j) k g 2 x y := by
  obtain ⟨r1, r2, r3, r4⟩ := hB.r
  obtain ⟨a, x, y, hA, _, i2⟩ := wtd hs hI hB hf hg hw j
  obtain ⟨s1, s2⟩ := it_sound (w := w) hs hI j
  obtain ⟨o1, o2, o3, o4, o5, o6⟩ := hA.ok s1 s2
  rcases i2 (by omega) with rfl | ⟨rfl, h1⟩
  · exact ⟨x, y, hA⟩
  · have := o5 rfl; omega
/-- Behind so many steps each group is green, if it is wanted, or else red. -/
theorem settles {t : Tables} {h : Hd} {w : BitVec 64} {L M C : Int} (hs : sound t h = true) (hI : I32 h) (hB : Bds t L M C) (hf : fits t w = true) (j : Nat) (hj : 2 * L + M + C ≤ j) {k : Nat} {a : Int} (ha : (itS t w h j).aspect[k]? = some a) :
    a = if w.getLsbD k then 2 else 0 := by
  obtain ⟨r1, r2, r3, r4⟩ := hB.r
  obtain ⟨s1, s2⟩ := it_sound (w := w) hs hI j
  obtain ⟨l0, l1, l2, l3, l4⟩ := sound_len s1
  obtain ⟨g, hg⟩ := get_of_lt (show k < t.groups.length by have := (List.getElem?_eq_some_iff.1 ha).1; omega)
  cases hw : w.getLsbD k with
  | true =>
    obtain ⟨x, y, hA⟩ := wtd_green hs hI hB hf hg hw j hj
    have := hA.a'; rw [ha] at this; cases this; rfl
  | false =>
    obtain ⟨x, y, hA⟩ := unw_red hs hI hB hg hw j (by omega)
    have := hA.a'; rw [ha] at this; cases this; rfl
end Go.Proofs.Ytdchdlabdokjnaa.Am.H
