/- Heads: the intergreens are kept. Plain laws. -/
import Derived.Test.YtapijpaeflefoaaX30
namespace Go.Proofs.Ytapijpaeflefoaa.Am.X
set_option linter.unusedSectionVars false
open Go Am
set_option linter.unusedVariables false
set_option linter.unusedSimpArgs false

def Started (t : Tables) (h : Hd) (now : List Int) : Prop := ∀ (j : Nat) v, h.aspect[j]? = some 0 → now[j]? = some v → v ≠ 0 → ∀ r ∈ rivOf j t.confs, r.2 ≤ h.away.getD r.1.toNat 0
theorem started_second {t : Tables} {h : Hd} {w : BitVec 64} : ∀ (gs : List Group) (i : Nat) (bs now : List Int), bs = h.aspect.drop i → Started t h now → Started t h (secondFrom t.confs h.away w i gs bs now)
  | [], i, bs, now, _, hp => by simpa [secondFrom] using hp
  | g :: gs, i, [], now, _, hp => by simpa [secondFrom] using hp
  | g :: gs, i, a :: bs, now, hb, hp => by
    simp only [secondFrom]
    refine started_second gs (i + 1) bs _ (by rw [← List.drop_drop, ← hb]; rfl) ?_
    split
    · rename_i hc
      simp only [Bool.and_eq_true, decide_eq_true_eq] at hc
      have hfm := freeB_mem hc.2
      intro j v h1 h2 h3 r hr
      by_cases hj : i = j
      · subst hj; exact (hfm r hr).2
      · rw [List.getElem?_set_ne hj] at h2
        exact hp j v h1 h2 h3 r hr
    · exact hp
theorem started_next {t : Tables} {h : Hd} (w : BitVec 64) (hs : sound t h = true) : Started t h (nextL t h w) := by
  refine started_second t.groups 0 h.aspect _ (by simp) ?_
  intro j v h1 h2 h3 r hr
  exfalso
  obtain ⟨l0, l1, l2, l3, l4⟩ := sound_len hs
  have hj := (List.getElem?_eq_some_iff.1 h1).1
  obtain ⟨g, hg⟩ := get_of_lt (show j < t.groups.length by omega)
  obtain ⟨x, hx⟩ := get_of_lt (show j < h.ins.length by omega)
  rw [alonesFrom_at w hg h1 hx, alone_0] at h2
  cases h2; exact h3 rfl
/-- A group away from red: its rivals' greens are long over. -/
structure ISound (t : Tables) (h : Hd) : Prop where
  ab : ∀ c ∈ t.confs, ∀ a b : Nat, c.a = a → c.b = b → ∀ v y, h.aspect[b]? = some v → v ≠ 0 → h.away[a]? = some y → c.ab < y
  ba : ∀ c ∈ t.confs, ∀ a b : Nat, c.a = a → c.b = b → ∀ v y, h.aspect[a]? = some v → v ≠ 0 → h.away[b]? = some y → c.ba < y
theorem up_ge {y : Int} (h0 : 0 ≤ y) (h : y ≤ 2147483647) : y ≤ upOf y ∧ upOf y ≤ y + 1 ∧ (y < 2147483647 → upOf y = y + 1) := by unfold upOf; split <;> omega
theorem away_nn {t : Tables} {h : Hd} (hs : sound t h = true) {i : Nat} {y : Int} (hy : h.away[i]? = some y) : 0 ≤ y := by
  obtain ⟨l0, l1, l2, l3, l4⟩ := sound_len hs
  have hi := (List.getElem?_eq_some_iff.1 hy).1
  obtain ⟨g, hg⟩ := get_of_lt (show i < t.groups.length by omega)
  obtain ⟨a, ha⟩ := get_of_lt (show i < h.aspect.length by omega)
  obtain ⟨x, hx⟩ := get_of_lt (show i < h.ins.length by omega)
  have := headsFrom_at (sound_heads hs) hg ha hx hy
  simp only [headOk, Bool.and_eq_true] at this
  have h4 := this.1.1.2
  split at h4 <;> simp at h4 <;> omega
theorem two_red {t : Tables} {h : Hd} (hs : sound t h = true) {c : Conf} (hc : c ∈ t.confs) {a b : Nat} (ea : c.a = a) (eb : c.b = b) {u v : Int} (hu : h.aspect[a]? = some u) (hv : h.aspect[b]? = some v) : u = 0 ∨ v = 0 := by
  simp only [sound, Bool.and_eq_true, List.all_eq_true] at hs
  have := hs.2 c hc
  simp only [confFree, Bool.or_eq_true, decide_eq_true_eq] at this
  rw [show c.a.toNat = a by omega, show c.b.toNat = b by omega] at this
  simpa only [List.getD_eq_getElem?_getD, hu, hv, Option.getD_some] using this
/-- One side of a conflict, over a step. -/
theorem side_step {t : Tables} {h : Hd} (w : BitVec 64) (hs : sound t h = true) (hI : I32 h) {o p : Nat} {k : Int} (hk : k ≤ 3600) (ho : o < t.groups.length) (hp : p < t.groups.length)
    (hold : ∀ v y, h.aspect[p]? = some v → v ≠ 0 → h.away[o]? = some y → k < y) (hriv : ((o : Int), k) ∈ rivOf p t.confs)
    (hred : ∀ u v, (afterHd t h w).aspect[o]? = some u → (afterHd t h w).aspect[p]? = some v → u = 0 ∨ v = 0) :
    ∀ v y, (afterHd t h w).aspect[p]? = some v → v ≠ 0 → (afterHd t h w).away[o]? = some y → k < y := by
  intro v y hv hne hy
  obtain ⟨l0, l1, l2, l3, l4⟩ := sound_len hs
  have hnl := nextL_length (w := w) l1 l2
  obtain ⟨y0, hy0⟩ := get_of_lt (show o < h.away.length by omega)
  obtain ⟨u, hu⟩ := get_of_lt (show o < (nextL t h w).length by omega)
  obtain ⟨a, ha⟩ := get_of_lt (show p < h.aspect.length by omega)
  have hur := (hred u v hu hv).resolve_right hne
  subst hur
  have e : (afterHd t h w).away[o]? = some (awOf 0 y0) := awFrom_at hu hy0
  rw [e] at hy
  have hy' : y = upOf y0 := by have := Option.some.inj hy; rw [← this]; simp [awOf]
  have hyr := hI.w y0 (List.mem_of_getElem? hy0)
  have h0 := away_nn hs hy0
  have hup := up_ge h0 hyr.2
  by_cases ha0 : a = 0
  · subst ha0
    have := started_next w hs p v ha hv hne _ hriv
    simp only [Int.toNat_natCast, List.getD_eq_getElem?_getD, hy0, Option.getD_some] at this
    by_cases hm : y0 < 2147483647
    · have := hup.2.2 hm; omega
    · omega
  · have := hold a y0 ha ha0 hy0
    omega
theorem isound_step {t : Tables} {h : Hd} (w : BitVec 64) (hs : sound t h = true) (hI : I32 h) (hi : ISound t h) : ISound t (afterHd t h w) := by
  have hs' := (sound_step w hs hI).1
  have hok := (sound_len hs).ok
  refine ⟨fun c hc a b ea eb => ?_, fun c hc a b ea eb => ?_⟩
  · obtain ⟨a', b', ea', eb', hab, hbn⟩ := Tables.ok_conf hok hc
    have hct := ok_times hok hc
    exact side_step w hs hI (o := a) (p := b) hct.2.1 (by omega) (by omega) (fun v y => hi.ab c hc a b ea eb v y) (by have := rivOf_b hc eb; rwa [ea] at this) (fun u v hu hv => two_red hs' hc ea eb hu hv)
  · obtain ⟨a', b', ea', eb', hab, hbn⟩ := Tables.ok_conf hok hc
    have hct := ok_times hok hc
    exact side_step w hs hI (o := b) (p := a) hct.2.2.2 (by omega) (by omega) (fun v y => hi.ba c hc a b ea eb v y) (by have := rivOf_a hc ea; rwa [eb] at this) (fun u v hu hv => (two_red hs' hc ea eb hv hu).symm)

theorem lastG_app (l m : List (List UInt8)) (g : Nat) : ∀ j : Nat, j ≤ l.length → lastG (l ++ m) g j = lastG l g j
  | 0, _ => rfl
  | j + 1, h => by simp only [lastG]; rw [List.getElem?_append_left (by omega), lastG_app l m g j (by omega)]
/-- What is known behind pictures of which the last one shows h. -/
structure Track (t : Tables) (l : List (List UInt8)) (h : Hd) : Prop where
  ok : InterOk t l
  s : sound t h = true
  r : I32 h
  i : ISound t h
  w : ∀ (g : Nat) y, h.away[g]? = some y → y ≤ (l.length : Int) - 1 - lastG l g l.length
theorem inter_snoc {t : Tables} {l : List (List UInt8)} {s : List UInt8} (h : InterOk t l) (hs : s.length = t.groups.length)
    (hg : ∀ c ∈ t.confs, ∀ a b : Nat, c.a = a → c.b = b → ∀ x y, s[a]? = some x → s[b]? = some y → (y = 114 ∨ c.ab < l.length - lastG l a l.length) ∧ (x = 114 ∨ c.ba < l.length - lastG l b l.length)) : InterOk t (l ++ [s]) := by
  refine ⟨fun s' hs' => ?_, fun j s' hj c hc a b ea eb x y hx hy => ?_⟩
  · rcases List.mem_append.1 hs' with h1 | h1
    · exact h.len s' h1
    · simp at h1; subst h1; exact hs
  · by_cases hjl : j < l.length
    · rw [List.getElem?_append_left hjl] at hj
      rw [lastG_app _ _ _ _ (by omega), lastG_app _ _ _ _ (by omega)]
      exact h.gap j s' hj c hc a b ea eb x y hx hy
    · have hj2 := (List.getElem?_eq_some_iff.1 hj).1
      simp at hj2
      obtain rfl : j = l.length := by omega
      simp at hj
      subst hj
      rw [lastG_app _ _ _ _ (by omega), lastG_app _ _ _ _ (by omega)]
      exact hg c hc a b ea eb x y hx hy
theorem show_at {h : Hd} {g : Nat} {x : UInt8} (hx : h.show[g]? = some x) : ∃ v, h.aspect[g]? = some v ∧ x = letter v := by
  simp only [Hd.show, List.getElem?_map, Option.map_eq_some_iff] at hx
  obtain ⟨v, h1, h2⟩ := hx
  exact ⟨v, h1, h2.symm⟩
theorem lastG_snoc (l : List (List UInt8)) (s : List UInt8) (g : Nat) : lastG (l ++ [s]) g (l ++ [s]).length = if s[g]? = some 103 then (l.length : Int) else lastG l g l.length := by
  simp only [List.length_append, List.length_cons, List.length_nil, lastG]
  rw [lastG_app _ _ _ _ (by omega)]
  simp
theorem letter_g {a : Int} : letter a = 103 ↔ a = 2 := by
  unfold letter
  constructor
  · intro h
    (repeat' split at h) <;> first | (exact absurd h (by decide)) | assumption
  · rintro rfl; rfl
theorem track_start {t : Tables} (hok : t.ok = true) {l : List (List UInt8)} (h : InterOk t l) : Track t (l ++ [(startHd t.groups.length).show]) (startHd t.groups.length) := by
  obtain ⟨z1, z2⟩ := start_sound hok
  have hr : ∀ (g : Nat) x, (startHd t.groups.length).show[g]? = some x → x = 114 := by
    intro g x hx
    obtain ⟨v, h1, rfl⟩ := show_at hx
    simp only [startHd, List.getElem?_replicate] at h1
    split at h1
    · cases h1; rfl
    · cases h1
  have ha : ∀ (g : Nat) v, (startHd t.groups.length).aspect[g]? = some v → v = 0 := by
    intro g v h1
    simp only [startHd, List.getElem?_replicate] at h1
    split at h1
    · cases h1; rfl
    · cases h1
  refine ⟨inter_snoc h (by simp [Hd.show, startHd]) (fun c hc a b ea eb x y hx hy => ⟨.inl (hr _ _ hy), .inl (hr _ _ hx)⟩), z1, z2, ⟨fun c hc a b ea eb v y hv hne _ => absurd (ha _ _ hv) hne, fun c hc a b ea eb v y hv hne _ => absurd (ha _ _ hv) hne⟩, fun g y hy => ?_⟩
  have hy1 : y = 1 := by
    simp only [startHd, List.getElem?_replicate] at hy
    split at hy
    · cases hy; rfl
    · cases hy
  rw [lastG_snoc, if_neg (by intro h9; have := hr _ _ h9; exact absurd this (by decide)), hy1]
  have := lastG_in l g l.length
  simp; omega
theorem track_step {t : Tables} {l : List (List UInt8)} {h : Hd} (w : BitVec 64) (T : Track t l h) : Track t (l ++ [(afterHd t h w).show]) (afterHd t h w) := by
  obtain ⟨s1, s2, s3⟩ := sound_step w T.s T.r
  have si := isound_step w T.s T.r T.i
  obtain ⟨l0, l1, l2, l3, l4⟩ := sound_len T.s
  obtain ⟨m0, m1, m2, m3, m4⟩ := sound_len s1
  have hnl := nextL_length (w := w) l1 l2
  have hw : ∀ (g : Nat) y, (afterHd t h w).away[g]? = some y → y ≤ (l.length : Int) - (if (afterHd t h w).show[g]? = some 103 then (l.length : Int) else lastG l g l.length) := by
    intro g y hy
    have hg := (List.getElem?_eq_some_iff.1 hy).1
    obtain ⟨v, hv⟩ := get_of_lt (show g < (nextL t h w).length by omega)
    obtain ⟨y0, hy0⟩ := get_of_lt (show g < h.away.length by omega)
    have e : (afterHd t h w).away[g]? = some (awOf v y0) := awFrom_at hv hy0
    rw [e] at hy; cases hy
    have hsh : (afterHd t h w).show[g]? = some (letter v) := by simp only [Hd.show, List.getElem?_map]; rw [show (afterHd t h w).aspect[g]? = some v from hv]; rfl
    rw [hsh]
    have hT := T.w g y0 hy0
    have h0 := away_nn T.s hy0
    have hup := up_ge h0 (T.r.w y0 (List.mem_of_getElem? hy0)).2
    by_cases h2 : v = 2
    · rw [if_pos (by rw [letter_g.2 h2]), awOf, if_pos h2]; omega
    · rw [if_neg (by intro h9; exact h2 (letter_g.1 (Option.some.inj h9))), awOf, if_neg h2]; omega
  refine ⟨inter_snoc T.ok (by simp [Hd.show, m1]) (fun c hc a b ea eb x y hx hy => ?_), s1, s2, si, fun g y hy => ?_⟩
  · obtain ⟨u, hu, rfl⟩ := show_at hx
    obtain ⟨v, hv, rfl⟩ := show_at hy
    have hal := (List.getElem?_eq_some_iff.1 hu).1
    have hbl := (List.getElem?_eq_some_iff.1 hv).1
    obtain ⟨ya, hya⟩ := get_of_lt (show a < (afterHd t h w).away.length by omega)
    obtain ⟨yb, hyb⟩ := get_of_lt (show b < (afterHd t h w).away.length by omega)
    have r2 := two_red s1 hc ea eb hu hv
    rw [letter_r, letter_r]
    constructor
    · by_cases hv0 : v = 0
      · exact .inl hv0
      · right
        have h1 := si.ab c hc a b ea eb v ya hv hv0 hya
        have h2 := hw a ya hya
        have hu0 := r2.resolve_right hv0
        rw [if_neg (by rw [hx, hu0]; decide)] at h2
        omega
    · by_cases hu0 : u = 0
      · exact .inl hu0
      · right
        have h1 := si.ba c hc a b ea eb u yb hu hu0 hyb
        have h2 := hw b yb hyb
        have hv0 := r2.resolve_left hu0
        rw [if_neg (by rw [hy, hv0]; decide)] at h2
        omega
  · rw [lastG_snoc]
    have := hw g y hy
    simp only [List.length_append, List.length_cons, List.length_nil]
    omega
theorem track_run {t : Tables} : ∀ (ws : List (BitVec 64)) (l : List (List UInt8)) (h : Hd), Track t l h → InterOk t (l ++ runT t h ws)
  | [], l, h, T => by simpa [runT] using T.ok
  | w :: ws, l, h, T => by
    have := track_run ws _ _ (track_step w T)
    simpa [runT] using this
theorem inter_nil (t : Tables) : InterOk t [] := ⟨fun s h => (nomatch h), fun j s h => (nomatch h)⟩
/-- A run behind any pictures keeps the intergreens. -/
theorem inter_run {t : Tables} (hok : t.ok = true) {l : List (List UInt8)} (h : InterOk t l) (ws : List (BitVec 64)) : InterOk t (l ++ runL t ws) := by
  have := track_run ws _ _ (track_start hok h)
  simpa [runL] using this
theorem clear_run {t : Tables} : ∀ (ws : List (BitVec 64)) (h : Hd), sound t h = true → I32 h → ∀ s ∈ runT t h ws, ClearS t s
  | [], h, _, _, s, hm => by cases hm
  | w :: ws, h, hs, hI, s, hm => by
    obtain ⟨s1, s2, _⟩ := sound_step w hs hI
    simp only [runT, List.mem_cons] at hm
    rcases hm with rfl | hm
    · exact sound_clear s1
    · exact clear_run ws _ s1 s2 s hm
theorem clear_runL {t : Tables} (hok : t.ok = true) (ws : List (BitVec 64)) : ∀ s ∈ runL t ws, ClearS t s := by
  obtain ⟨z1, z2⟩ := start_sound hok
  intro s hm
  simp only [runL, List.mem_cons] at hm
  rcases hm with rfl | hm
  · exact sound_clear z1
  · exact clear_run ws _ z1 z2 s hm
end Go.Proofs.Ytapijpaeflefoaa.Am.X
