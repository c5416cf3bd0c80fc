/- AM: a slice of slices that grow, each in a block of the run's own. -/
import Derived.Test.YtdchdlabdokjnaaAm18
namespace Go.Proofs.Ytdchdlabdokjnaa.Am
set_option linter.unusedSectionVars false
open Go
set_option linter.unusedVariables false
set_option linter.unusedSimpArgs false
variable [Tab]

/-- The slice c is of the run's own (or nil) and holds es. -/
def VecAt (h : Heap) (et : TypeId) (s : Nat) (c : AV) (es : List (List AV)) : Prop :=
  (c = .snil ∧ es = []) ∨ ∃ b, c = .sl b 0 es.length s ∧ h b = some ⟨.own, es.flatten, et, []⟩
/-- Slices, each in a block of its own. -/
structure Vecs (h : Heap) (et : TypeId) (s : Nat) (L : List AV) (M : List (List (List AV))) : Prop where
  len : L.length = M.length
  at' : ∀ (i : Nat) (c : AV) (es : List (List AV)), L[i]? = some c → M[i]? = some es → VecAt h et s c es
  each : ∀ es ∈ M, ∀ e ∈ es, e.length = s
  apart : ∀ (i j b o n z o' n' z' : Nat), i ≠ j → L[i]? = some (AV.sl b o n z) → L[j]? = some (AV.sl b o' n' z') → False
/-- b is none of the slices' blocks. -/
def Off (L : List AV) (b : Nat) : Prop := ∀ (i o n z : Nat), L[i]? ≠ some (AV.sl b o n z)

theorem wk_set {fz nw} {L : List AV} {i : Nat} {c d : AV} (hi : L[i]? = some c) (h : Wk fz nw c d) : Wk fz nw (.rs 1 (L.map fun c => [c])) (.rs 1 ((L.set i d).map fun c => [c])) := by
  refine .rs (by simp) (fun k e e' h1 h2 => ?_) fun k j e e' x y h1 h2 h3 h4 => ?_
  · simp only [List.getElem?_map, Option.map_eq_some_iff] at h1 h2
    obtain ⟨_, _, rfl⟩ := h1
    obtain ⟨_, _, rfl⟩ := h2
    rfl
  · simp only [List.getElem?_map, Option.map_eq_some_iff] at h1 h2
    obtain ⟨a, ha, rfl⟩ := h1
    obtain ⟨b, hb, rfl⟩ := h2
    cases j with
    | succ j => simp at h3
    | zero =>
      simp at h3 h4
      subst h3; subst h4
      by_cases hk : k = i
      · subst hk
        rw [hi] at ha; cases ha
        have hlt : k < L.length := (List.getElem?_eq_some_iff.1 hi).1
        rw [List.getElem?_set_self hlt] at hb; cases hb
        exact h
      · rw [List.getElem?_set_ne (Ne.symm hk), ha] at hb; cases hb
        exact .refl _

theorem flat_len {s : Nat} : ∀ {es : List (List AV)}, (∀ e ∈ es, e.length = s) → es.flatten.length = es.length * s
  | [], _ => by simp
  | x :: xs, h => by
    have h1 : ∀ e ∈ xs, e.length = s := fun e he => h e (List.mem_cons_of_mem _ he)
    rw [List.flatten_cons, List.length_append, flat_len h1, h x List.mem_cons_self, List.length_cons, Nat.succ_mul, Nat.add_comm]
section
variable {P : Program} {cs : List Code} {S : List (Nat × AV)} {K : Ex → Env → Heap → Prop}
theorem wk_slot {fz nw} (t : Nat) {v v1 : AV} (he : lk S t = v) (h : Wk fz nw v v1) (i : Nat) : Wk fz nw (lk S i) (lk (setL t v1 S) i) := by
  rw [lk_setL]
  simp only [put]
  split
  · subst_vars; exact h
  · exact .refl _
theorem setL_setL (t : Nat) (v w : AV) : lk (setL t w (setL t v S)) = lk (setL t w S) := by
  simp only [lk_setL]
  funext i; simp only [put]; split <;> rfl
theorem lk_setL_self (t : Nat) (v : AV) : lk (setL t v S) t = v := by rw [lk_setL]; simp [put]

theorem frzVecs_step (t : Nat) {et : TypeId} {s : Nat} : ∀ (d j : Nat) (h : Heap) (L : List AV) (M : List (List (List AV))), M.length - j = d → L.length = M.length →
    (∀ (i : Nat) (es : List (List AV)), i < j → M[i]? = some es → L[i]? = some (AV.rs s es)) → (∀ (i : Nat) (c : AV) (es : List (List AV)), j ≤ i → L[i]? = some c → M[i]? = some es → VecAt h et s c es) → (∀ es ∈ M, ∀ e ∈ es, e.length = s) →
    (∀ (i j b o n z o' n' z' : Nat), i ≠ j → L[i]? = some (AV.sl b o n z) → L[j]? = some (AV.sl b o' n' z') → False) →
    (∀ h', wpL P cs (lk (setL t (.rs 1 (M.map fun es => [.rs s es])) S)) h' K) → wpL P cs (lk (setL t (.rs 1 (L.map fun c => [c])) S)) h K
  | 0, j, h, L, M, hd, hl, h1, h2, h3, h4, hk => by
    have : L = M.map fun es => .rs s es := by
      refine List.ext_getElem? fun i => ?_
      cases hm : M[i]? with
      | none => simp [hm]; have := List.getElem?_eq_none_iff.1 hm; omega
      | some es =>
        have := (List.getElem?_eq_some_iff.1 hm).1
        rw [h1 i es (by omega) hm]; simp [hm]
    subst this
    have := hk h
    simpa [Function.comp_def] using this
  | d + 1, j, h, L, M, hd, hl, h1, h2, h3, h4, hk => by
    have hj : j < M.length := by omega
    have hm : M[j]? = some M[j] := List.getElem?_eq_getElem hj
    have hc : L[j]? = some L[j] := List.getElem?_eq_getElem (by omega)
    have hv := h2 j _ _ (Nat.le_refl j) hc hm
    have key : ∀ h1', (∀ (i : Nat) (c : AV) (es : List (List AV)), j + 1 ≤ i → L[i]? = some c → M[i]? = some es → VecAt h1' et s c es) → wpL P cs (lk (setL t (.rs 1 ((L.set j (.rs s M[j])).map fun c => [c])) S)) h1' K := fun h1' hv' => by
      refine frzVecs_step (et := et) t d (j + 1) h1' (L.set j (.rs s M[j])) M (by omega) (by simpa using hl) (fun i es hi hes => ?_) (fun i c es hi hc' hes => ?_) h3 (fun i k b o n z o' n' z' hik e1 e2 => ?_) hk
      · by_cases hij : i = j
        · subst hij
          rw [List.getElem?_set_self (by omega)]
          rw [hm] at hes; cases hes; rfl
        · rw [List.getElem?_set_ne (Ne.symm hij)]
          exact h1 i es (by omega) hes
      · rw [List.getElem?_set_ne (by omega)] at hc'
        exact hv' i c es hi hc' hes
      · by_cases hij : i = j
        · subst hij; rw [List.getElem?_set_self (by omega)] at e1; cases e1
        · by_cases hkj : k = j
          · subst hkj; rw [List.getElem?_set_self (by omega)] at e2; cases e2
          · rw [List.getElem?_set_ne (Ne.symm hij)] at e1
            rw [List.getElem?_set_ne (Ne.symm hkj)] at e2
            exact h4 i k b o n z o' n' z' hik e1 e2
    rcases hv with ⟨e1, e2⟩ | ⟨b, e1, e2⟩
    · refine wpL_env (e1 := lk (setL t (.rs 1 ((L.set j (.rs s M[j])).map fun c => [c])) S)) (fun i => ?_) (key h fun i c es hi => h2 i c es (by omega))
      have w := wk_slot (S := setL t (.rs 1 (L.map fun c => [c])) S) (fz := fun _ => none) (nw := fun _ => False) t (lk_setL_self _ _) (wk_set (d := .rs s M[j]) hc (by rw [e1, e2]; exact .snil s)) i
      rw [setL_setL] at w; exact w
    · refine wpL_freeze (e1 := lk (setL t (.rs 1 ((L.set j (.rs s M[j])).map fun c => [c])) S)) (h1 := h.del b) e2 rfl (fun i => ?_) (by simp [Heap.del]) (fun c kc' hc => ?_) (key (h.del b) fun i c es hi hc' hes => ?_)
      · have w := wk_slot (S := setL t (.rs 1 (L.map fun c => [c])) S) (fz := fun x => if x = b then some M[j].flatten else none) (nw := fun _ => False) t (lk_setL_self _ _)
          (wk_set (d := .rs s M[j]) hc (by rw [e1]; exact Wk.slF ⟨rfl, rfl, h3 _ (List.getElem_mem hj)⟩)) i
        rw [setL_setL] at w; exact w
      · simp only [Heap.del] at hc
        split at hc
        · cases hc
        · exact ⟨kc', hc, rfl, rfl, rfl, rfl, fun i x y h1 h2 => by rw [h1] at h2; cases h2; exact .refl _⟩
      · rcases h2 i c es (by omega) hc' hes with h | ⟨b', q1, q2⟩
        · exact .inl h
        · refine .inr ⟨b', q1, ?_⟩
          simp only [Heap.del]
          rw [if_neg ?_]; exact q2
          rintro rfl
          exact h4 i j b' _ _ _ _ _ _ (by omega) (by rw [hc', q1]) (by rw [hc, e1])

/-- A slice of slices, written no more. -/
theorem wpL_frzVecs (t : Nat) {h : Heap} {b n s : Nat} {et ty : TypeId} {L : List AV} {M : List (List (List AV))} (he : lk S t = .sl b 0 n 1) (hb : h b = some ⟨.own, L, ty, []⟩) (hn : M.length = n) (hV : Vecs h et s L M) (ho : Off L b)
    (hk : ∀ h', wpL P cs (lk (setL t (.rs 1 (M.map fun es => [.rs s es])) S)) h' K) : wpL P cs (lk S) h K := by
  refine wpL_frzS t (L.map fun c => [c]) he hb rfl (by clear hV ho hk hb; induction L with | nil => rfl | cons c L ih => simp [← ih]) (by simp [hV.len, hn]) (by simp) ?_
  refine frzVecs_step t (et := et) (s := s) M.length 0 (h.del b) L M (by omega) hV.len (fun i es hi => by omega) (fun i c es _ hc hes => ?_) hV.each hV.apart hk
  rcases hV.at' i c es hc hes with h1 | ⟨b', q1, q2⟩
  · exact .inl h1
  · refine .inr ⟨b', q1, ?_⟩
    simp only [Heap.del]
    rw [if_neg ?_]; exact q2
    rintro rfl
    exact ho i _ _ _ (by rw [hc, q1])
end
theorem Vecs.off {h h' : Heap} {et s L M} (hV : Vecs h et s L M) (hk : ∀ (i b o n z : Nat), L[i]? = some (AV.sl b o n z) → h' b = h b) : Vecs h' et s L M :=
  ⟨hV.len, fun i c es hc hes => by
    rcases hV.at' i c es hc hes with h | ⟨b, q1, q2⟩
    · exact .inl h
    · exact .inr ⟨b, q1, by rw [hk i b _ _ _ (by rw [hc, q1])]; exact q2⟩, hV.each, hV.apart⟩
theorem Vecs.set {h h' : Heap} {et s L M} {a b' : Nat} {es' : List (List AV)} (hV : Vecs h et s L M) (ha : a < L.length) (hb : h' b' = some ⟨.own, es'.flatten, et, []⟩) (hes' : ∀ e ∈ es', e.length = s)
    (hk : ∀ (i b o n z : Nat), i ≠ a → L[i]? = some (AV.sl b o n z) → b ≠ b' ∧ h' b = h b) : Vecs h' et s (L.set a (.sl b' 0 es'.length s)) (M.set a es') := by
  have hl := hV.len
  refine ⟨by simpa using hl, fun i c es hc hes => ?_, fun es hes => ?_, fun i j b o n z o' n' z' hij e1 e2 => ?_⟩
  · by_cases hi : i = a
    · subst hi
      rw [List.getElem?_set_self ha] at hc; cases hc
      rw [List.getElem?_set_self (by omega)] at hes; cases hes
      exact .inr ⟨b', rfl, hb⟩
    · rw [List.getElem?_set_ne (Ne.symm hi)] at hc hes
      rcases hV.at' i c es hc hes with h | ⟨b, q1, q2⟩
      · exact .inl h
      · exact .inr ⟨b, q1, by rw [(hk i b _ _ _ hi (by rw [hc, q1])).2]; exact q2⟩
  · rcases List.mem_or_eq_of_mem_set hes with h | rfl
    · exact hV.each es h
    · exact hes'
  · by_cases hi : i = a
    · subst hi
      rw [List.getElem?_set_self ha] at e1; cases e1
      rw [List.getElem?_set_ne hij] at e2
      exact (hk j _ _ _ _ (Ne.symm hij) e2).1 rfl
    · by_cases hj : j = a
      · subst hj
        rw [List.getElem?_set_self ha] at e2; cases e2
        rw [List.getElem?_set_ne (Ne.symm hi)] at e1
        exact (hk i _ _ _ _ hi e1).1 rfl
      · rw [List.getElem?_set_ne (Ne.symm hi)] at e1
        rw [List.getElem?_set_ne (Ne.symm hj)] at e2
        exact hV.apart i j b o n z o' n' z' hij e1 e2
theorem Off.set {L : List AV} {b a b' n s : Nat} (h : Off L b) (hb : b ≠ b') : Off (L.set a (.sl b' 0 n s)) b := fun i o n' z hi => by
  rw [List.getElem?_set] at hi
  split at hi
  · split at hi
    · cases hi; exact hb rfl
    · cases hi
  · exact h i o n' z hi
theorem Vecs.blk {h : Heap} {et s L M} (hV : Vecs h et s L M) {i b o n z : Nat} (hi : L[i]? = some (AV.sl b o n z)) : h b ≠ none := by
  have hl := hV.len
  have hlt := (List.getElem?_eq_some_iff.1 hi).1
  rcases hV.at' i _ _ hi (List.getElem?_eq_getElem (by omega)) with ⟨h, _⟩ | ⟨b', q1, q2⟩
  · cases h
  · cases q1; rw [q2]; simp

theorem Vecs.put {h : Heap} {et s L M b k} (hV : Vecs h et s L M) (hb : NewIn h b) : Vecs (h.put b k) et s L M := hV.off fun i c o n z hi => by
  have hb : h b = none := hb
  have := hV.blk hi
  simp only [Heap.put]; rw [if_neg (by rintro rfl; exact this hb)]
theorem Vecs.upd {h : Heap} {et s L M b k} (hV : Vecs h et s L M) (ho : Off L b) : Vecs (h.upd b k) et s L M := hV.off fun i c o n z hi => by
  simp only [Heap.upd]; rw [if_neg (by rintro rfl; exact ho i _ _ _ hi)]
theorem del_new {h : Heap} {b : Nat} (hb : NewIn h b) : h.del b = h := by
  funext x; simp only [Heap.del]; split
  · subst_vars; exact hb.symm
  · rfl
section
variable {P : Program} {all : Array Oper} {d : Option Nat} {fl : Bool} {its : List (Oper × Bool)} {e : Env} {h : Heap} {k : Env → Heap → Prop}
/-- One of the slices grows. -/
theorem gN_appVec {t c x et ti ei s a L M es xs} (ht : tiOf P t = some ti) (hd : ti.d = .slice et) (he : tiOf P et = some ei) (hs : ei.size = s) (hp : 0 < s) (hV : Vecs h et s L M) (hc : L[a]? = some c) (hes : M[a]? = some es)
    (hx : SrcV h s x xs.length xs.flatten) (hxs : ∀ e ∈ xs, e.length = s) (hbd : (es.length + xs.length) * ei.bytes ≤ 140737488355328) (hm : es.length + xs.length ≤ maxInt)
    (hk : ∀ b' h', Vecs h' et s (L.set a (.sl b' 0 (es.length + xs.length) s)) (M.set a (es ++ xs)) → (∀ b, h b ≠ none → Off L b → h' b = h b ∧ Off (L.set a (.sl b' 0 (es.length + xs.length) s)) b) →
      gO P all its (putd e d (.sl b' 0 (es.length + xs.length) s)) h' k) : gN P all d fl its e h k (.app t c x) := by
  have hlt := (List.getElem?_eq_some_iff.1 hc).1
  have hee : ∀ e ∈ es ++ xs, e.length = s := fun e he' => by
    rcases List.mem_append.1 he' with h | h
    · exact hV.each es (List.mem_of_getElem? hes) e h
    · exact hxs e h
  rcases hV.at' a c es hc hes with ⟨rfl, rfl⟩ | ⟨b, rfl, hb⟩
  · refine gN_appN ht hd he hs hp hx (by simpa using hbd) (by simpa using hm) fun b' hb' => ?_
    have hb' : h b' = none := hb'
    rw [show xs.length = ([] : List (List AV)).length + xs.length by simp]
    refine hk _ _ ?_ fun b hb ho => ?_
    · have := hV.set (h' := h.put b' ⟨.own, xs.flatten, et, []⟩) (b' := b') (es' := xs) hlt (by simp [Heap.put]) hxs fun i b o n z hi h1 => by
        have hne : b ≠ b' := by rintro rfl; exact hV.blk h1 hb'
        exact ⟨hne, by simp [Heap.put, hne]⟩
      simpa using this
    · have hne : b ≠ b' := by rintro rfl; exact hb hb'
      exact ⟨by simp [Heap.put, hne], ho.set hne⟩
  · refine gN_appV ht hd he hs hp hx hb (flat_len (hV.each es (List.mem_of_getElem? hes))) hbd hm fun b' hb' => ?_
    have hb' : (h.del b) b' = none := hb'
    have hd' : ∀ y, y ≠ b → h y ≠ none → y ≠ b' := fun y hy hh => by
      rintro rfl; apply hh; simpa [Heap.del, hy] using hb'
    refine hk _ _ ?_ fun y hy ho => ?_
    · have := hV.set (h' := (h.del b).put b' ⟨.own, es.flatten ++ xs.flatten, et, []⟩) (b' := b') (es' := es ++ xs) hlt (by simp [Heap.put]) hee fun i y o n z hi h1 => by
        have hyb : y ≠ b := by rintro rfl; exact hV.apart i a y o n z _ _ _ hi h1 hc
        have hne := hd' y hyb (hV.blk h1)
        exact ⟨hne, by simp [Heap.put, Heap.del, hne, hyb]⟩
      simpa using this
    · have hyb : y ≠ b := by rintro rfl; exact ho a _ _ _ hc
      have hne := hd' y hyb hy
      exact ⟨by simp [Heap.put, Heap.del, hne, hyb], ho.set hne⟩
end
end Go.Proofs.Ytdchdlabdokjnaa.Am
