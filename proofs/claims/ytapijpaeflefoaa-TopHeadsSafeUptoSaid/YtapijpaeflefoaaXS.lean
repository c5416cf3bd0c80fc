/- Heads: each group goes its rounds. Plain laws. -/
import Derived.Test.YtapijpaeflefoaaXR
import Derived.Test.YtapijpaeflefoaaX34
namespace Go.Proofs.Ytapijpaeflefoaa.Am.X
set_option linter.unusedSectionVars false
open Go Am
set_option linter.unusedVariables false
set_option linter.unusedSimpArgs false

def stT (t : Tables) (h : Hd) : List (BitVec 64) → List Hd
  | [] => []
  | w :: ws => afterHd t h w :: stT t (afterHd t h w) ws
def stL (t : Tables) (h : Hd) (ws : List (BitVec 64)) : List Hd := h :: stT t h ws
theorem st_show (t : Tables) : ∀ (ws : List (BitVec 64)) (h : Hd), (stT t h ws).map Hd.show = runT t h ws
  | [], h => rfl
  | w :: ws, h => by simp [stT, runT, st_show t ws]
theorem st_step (t : Tables) : ∀ (ws : List (BitVec 64)) (h : Hd) (j : Nat) h', (stL t h ws)[j + 1]? = some h' → ∃ h0 w, (stL t h ws)[j]? = some h0 ∧ h' = afterHd t h0 w
  | [], h, j, h', e => by simp [stL, stT] at e
  | w :: ws, h, 0, h', e => by simp [stL, stT] at e; exact ⟨h, w, rfl, e.symm⟩
  | w :: ws, h, j + 1, h', e => by
    have e' : (stL t (afterHd t h w) ws)[j + 1]? = some h' := by simpa [stL, stT] using e
    obtain ⟨h0, w0, e1, e2⟩ := st_step t ws (afterHd t h w) j h' e'
    exact ⟨h0, w0, by simpa [stL, stT] using e1, e2⟩
theorem st_sound {t : Tables} : ∀ (ws : List (BitVec 64)) (h : Hd), sound t h = true → I32 h → ∀ h' ∈ stL t h ws, sound t h' = true ∧ I32 h'
  | [], h, hs, hI, h', hm => by simp [stL, stT] at hm; subst hm; exact ⟨hs, hI⟩
  | w :: ws, h, hs, hI, h', hm => by
    obtain ⟨s1, s2, _⟩ := sound_step w hs hI
    have hm' : h' = h ∨ h' ∈ stL t (afterHd t h w) ws := by simpa [stL, stT] using hm
    rcases hm' with rfl | hm'
    · exact ⟨hs, hI⟩
    · exact st_sound ws _ s1 s2 h' hm'
def pairAt (h : Hd) (k : Nat) : Int × Int := (h.aspect.getD k 0, h.ins.getD k 0)
/-- One group's step, seen from outside. -/
theorem pair_step {t : Tables} {h : Hd} (w : BitVec 64) (hs : sound t h = true) {k : Nat} {g : Group} (hg : t.groups[k]? = some g) (hx : (pairAt h k).2 < 2147483647) :
    let p := pairAt h k; let q := pairAt (afterHd t h w) k
    (q.1 = p.1 → q.2 = p.2 + 1) ∧ (q.1 ≠ p.1 → q.2 = 1) ∧ (p.1 = 0 → q.1 = 0 ∨ (q.1 = 1 ∧ 0 < g.lead) ∨ (q.1 = 2 ∧ g.lead = 0)) ∧ (p.1 = 1 → q.1 = 1 ∨ (q.1 = 2 ∧ g.lead ≤ p.2)) ∧
    (p.1 = 2 → q.1 = 2 ∨ (g.min ≤ p.2 ∧ ((q.1 = 3 ∧ 0 < g.amber) ∨ (q.1 = 0 ∧ g.amber = 0)))) ∧ (p.1 = 3 → q.1 = 3 ∨ (q.1 = 0 ∧ g.amber ≤ p.2)) := by
  obtain ⟨l0, l1, l2, l3, l4⟩ := sound_len hs
  have hgr := ok_group l0 (List.mem_of_getElem? hg)
  have hkn := (List.getElem?_eq_some_iff.1 hg).1
  have hnl := nextL_length (w := w) l1 l2
  obtain ⟨a, ha⟩ := get_of_lt (show k < h.aspect.length by omega)
  obtain ⟨x, hx'⟩ := get_of_lt (show k < h.ins.length by omega)
  obtain ⟨y, hy⟩ := get_of_lt (show k < h.away.length by omega)
  obtain ⟨v, hv⟩ := get_of_lt (show k < (nextL t h w).length by omega)
  have hpa : pairAt h k = (a, x) := by simp [pairAt, ha, hx']
  have e1 : (afterHd t h w).aspect[k]? = some v := hv
  have e2 : (afterHd t h w).ins[k]? = some (inOf v a x) := insFrom_at hv ha hx'
  have hqa : pairAt (afterHd t h w) k = (v, inOf v a x) := by simp [pairAt, e1, e2]
  rw [hpa] at hx
  have hh := headsFrom_at (sound_heads hs) hg ha hx' hy
  have h1x : 1 ≤ x := by simp only [headOk, Bool.and_eq_true, decide_eq_true_eq] at hh; exact hh.1.1.1.2
  have hup : upOf x = x + 1 := by have : x < 2147483647 := hx; unfold upOf; rw [if_neg (by omega)]; omega
  have hval := (pass_next w hs).val k g a x v hg ha hx' hv
  simp only [hpa, hqa]
  refine ⟨fun h => by rw [inOf, if_pos h, hup], fun h => by rw [inOf, if_neg h], ?_, ?_, ?_, ?_⟩
  · rintro rfl
    rcases hval with rfl | ⟨_, _, rfl⟩
    · left; exact alone_0 _ _ _
    · right; unfold firstOf; split <;> omega
  · rintro rfl
    rcases hval with rfl | ⟨h, _, _⟩
    · simp only [alone, leadOf]; simp; omega
    · cases h
  · rintro rfl
    rcases hval with rfl | ⟨h, _, _⟩
    · simp only [alone, greenOf, if_true]
      by_cases hc : (w.getLsbD k || decide (x < g.min)) = true
      · rw [if_pos hc]; exact .inl rfl
      · rw [if_neg hc]
        simp only [Bool.or_eq_true, decide_eq_true_eq, not_or] at hc
        right
        refine ⟨by omega, ?_⟩
        split
        · rename_i h; exact .inl ⟨rfl, h⟩
        · exact .inr ⟨rfl, by omega⟩
    · cases h
  · rintro rfl
    rcases hval with rfl | ⟨h, _, _⟩
    · simp only [alone, amberOf]; simp; omega
    · cases h
theorem col_run {t : Tables} (hok : t.ok = true) (ws : List (BitVec 64)) (hw : ws.length ≤ 1048576) {k : Nat} {g : Group} (hg : t.groups[k]? = some g) :
    Col g (runL t ws) k fun j => pairAt ((stL t (startHd t.groups.length) ws).getD j (startHd t.groups.length)) k := by
  obtain ⟨z1, z2⟩ := start_sound hok
  have hkn := (List.getElem?_eq_some_iff.1 hg).1
  generalize hst : stL t (startHd t.groups.length) ws = L
  have hsh : runL t ws = L.map Hd.show := by rw [← hst, stL, List.map_cons, st_show]; rfl
  have hlen : (runL t ws).length = L.length := by rw [hsh]; simp
  have hn : L.length = ws.length + 1 := by rw [← hlen]; simp [runL, runT_len]
  have hat : ∀ j, j < L.length → ∃ h, L[j]? = some h ∧ L.getD j (startHd t.groups.length) = h ∧ sound t h = true ∧ I32 h := by
    intro j hj
    obtain ⟨h, hh⟩ := get_of_lt hj
    have := st_sound ws _ z1 z2 h (by rw [hst]; exact List.mem_of_getElem? hh)
    exact ⟨h, hh, by rw [List.getD_eq_getElem?_getD, hh]; rfl, this⟩
  have hstep : ∀ j, j + 1 < L.length → ∃ h w, L.getD j (startHd t.groups.length) = h ∧ L.getD (j + 1) (startHd t.groups.length) = afterHd t h w ∧ sound t h = true := by
    intro j hj
    obtain ⟨h', e1, e2, _⟩ := hat (j + 1) hj
    obtain ⟨h, f1, f2, f3, _⟩ := hat j (by omega)
    obtain ⟨h0, w, g1, g2⟩ := st_step t ws (startHd t.groups.length) j h' (by rw [hst]; exact e1)
    rw [hst, f1] at g1
    cases g1
    exact ⟨h, w, f2, by rw [e2, g2], f3⟩
  have hz : pairAt (startHd t.groups.length) k = (0, 1) := by simp [pairAt, startHd, hkn]
  have h0L : L.getD 0 (startHd t.groups.length) = startHd t.groups.length := by rw [← hst]; rfl
  have hbd : ∀ j, j < L.length → (pairAt (L.getD j (startHd t.groups.length)) k).2 ≤ j + 1 := by
    intro j
    induction j with
    | zero => intro _; rw [h0L, hz]; simp
    | succ j ih =>
      intro hj
      have ih := ih (by omega)
      obtain ⟨h, w, e1, e2, hs⟩ := hstep j hj
      rw [e1] at ih
      rw [e2]
      obtain ⟨p1, p2, _⟩ := pair_step w hs hg (by omega)
      by_cases he : (pairAt (afterHd t h w) k).1 = (pairAt h k).1
      · rw [p1 he]; omega
      · rw [p2 he]; omega
  have hps : ∀ j, j + 1 < L.length → ∃ h w, L.getD j (startHd t.groups.length) = h ∧ L.getD (j + 1) (startHd t.groups.length) = afterHd t h w ∧ sound t h = true ∧ (pairAt h k).2 < 2147483647 := by
    intro j hj
    obtain ⟨h, w, e1, e2, hs⟩ := hstep j hj
    have := hbd j (by omega)
    rw [e1] at this
    exact ⟨h, w, e1, e2, hs, by omega⟩
  have hok4 : ∀ j, j < L.length → ∀ h, L.getD j (startHd t.groups.length) = h → ∃ a x, pairAt h k = (a, x) ∧ h.aspect[k]? = some a ∧ (0 ≤ a ∧ a ≤ 3) ∧ (a = 1 → x ≤ g.lead) ∧ (a = 3 → x ≤ g.amber) := by
    intro j hj h he
    obtain ⟨h', e1, e2, hs, _⟩ := hat j hj
    rw [e2] at he; subst he
    obtain ⟨l0, l1, l2, l3, l4⟩ := sound_len hs
    obtain ⟨a, ha⟩ := get_of_lt (show k < h'.aspect.length by omega)
    obtain ⟨x, hx⟩ := get_of_lt (show k < h'.ins.length by omega)
    obtain ⟨y, hy⟩ := get_of_lt (show k < h'.away.length by omega)
    have hh := headsFrom_at (sound_heads hs) hg ha hx hy
    have h4 := headOk_a hh
    simp only [headOk, Bool.and_eq_true, decide_eq_true_eq, Bool.or_eq_true, Bool.not_eq_true', decide_eq_false_iff_not] at hh
    exact ⟨a, x, by simp [pairAt, ha, hx], ha, by omega, fun h1 => hh.1.2.resolve_left (fun h2 => h2 h1), fun h1 => hh.2.resolve_left (fun h2 => h2 h1)⟩
  refine ⟨fun j hj => ?_, fun _ => by simp only [h0L, hz], fun j hj => ?_, fun j hj => ?_, fun j hj => ?_, fun j hj => ?_, fun j hj => ?_, fun j hj => ?_, fun j hj => ?_, fun j hj => ?_⟩
  · rw [hlen] at hj
    obtain ⟨h, e1, e2, hs, _⟩ := hat j hj
    obtain ⟨a, x, p, pa, pr, _⟩ := hok4 j hj h e2
    refine ⟨h.show, by rw [hsh, List.getElem?_map, e1]; rfl, ?_, ?_⟩
    · simp only [e2, p, Hd.show, List.getElem?_map, pa]; rfl
    · simp only [e2, p]; exact pr
  · rw [hlen] at hj; obtain ⟨h, w, e1, e2, hs, hx⟩ := hps j hj; simp only [e1, e2]; exact (pair_step w hs hg hx).1
  · rw [hlen] at hj; obtain ⟨h, w, e1, e2, hs, hx⟩ := hps j hj; simp only [e1, e2]; exact (pair_step w hs hg hx).2.1
  · rw [hlen] at hj; obtain ⟨h, w, e1, e2, hs, hx⟩ := hps j hj; simp only [e1, e2]; exact (pair_step w hs hg hx).2.2.1
  · rw [hlen] at hj; obtain ⟨h, w, e1, e2, hs, hx⟩ := hps j hj; simp only [e1, e2]; exact (pair_step w hs hg hx).2.2.2.1
  · rw [hlen] at hj; obtain ⟨h, w, e1, e2, hs, hx⟩ := hps j hj; simp only [e1, e2]; exact (pair_step w hs hg hx).2.2.2.2.1
  · rw [hlen] at hj; obtain ⟨h, w, e1, e2, hs, hx⟩ := hps j hj; simp only [e1, e2]; exact (pair_step w hs hg hx).2.2.2.2.2
  · rw [hlen] at hj
    obtain ⟨h, e1, e2, hs, _⟩ := hat j hj
    obtain ⟨a, x, p, pa, pr, q1, q2⟩ := hok4 j hj h e2
    simp only [e2, p]; exact q1
  · rw [hlen] at hj
    obtain ⟨h, e1, e2, hs, _⟩ := hat j hj
    obtain ⟨a, x, p, pa, pr, q1, q2⟩ := hok4 j hj h e2
    simp only [e2, p]; exact q2
end Go.Proofs.Ytapijpaeflefoaa.Am.X
