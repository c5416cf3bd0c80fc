/- AM: an answer said more weakly: nil slices read as empty ones. -/
import Derived.Test.YtchhknkflhikmaaDoorAm13
import Derived.LaidMore
import Derived.Lay
import Derived.FnData
import Derived.ProofKit
import Derived.WalkKit
import Derived.OpenShut
namespace Go.Proofs.YtchhknkflhikmaaDoor.Am
set_option linter.unusedSectionVars false
open Go
set_option linter.unusedVariables false
set_option linter.unusedSimpArgs false
variable [Tab]

theorem Weak.val {v v1 : AV} {m : Mem} (h : Wk (fun _ => none) (fun _ => False) v v1) : Weak (lk [(0, v)]) m (lk [(0, v1)]) m :=
  ⟨⟨fun _ => none, fun _ => False, fun b cs h => (nomatch h), fun b h => h.elim, fun i => by
      by_cases hi : i = 0
      · subst hi; simp only [lk]; exact h
      · simp only [lk, if_neg hi]; exact .refl _,
    fun b k' hk hd => .inr ⟨k', hk, rfl, rfl, fun a ha => .inl ha, rfl, fun i c d h1 h2 => by rw [h1] at h2; cases h2; exact .refl _⟩⟩, fun _ h => h⟩
theorem wpH.wk {P : Program} {f args h} {K : AV → Heap → Prop} (hw : wpH P f args h fun v h' => ∃ v1, Wk (fun _ => none) (fun _ => False) v v1 ∧ K v1 h') : wpH P f args h K := fun m Pr R => by
  obtain ⟨v, m', h', k1, k2, k3, v1, w, k4⟩ := hw m Pr R
  exact ⟨v1, m', h', k1.weak (Weak.val w), k2, k3, k4⟩
/-- A function that answers what it has made, its blocks written no more, and nil where an empty slice is said. -/
theorem wpP_frzW {P : Program} {f args} {v1 : AV} (hw : wpH P f args Heap.emp fun v h' => ∃ B, FrzOk h' B ∧ Wk (fun _ => none) (fun _ => False) (frzAll B v) v1) : wpP P f args v1 :=
  wpP_intro (wpH.wk (wpH.frz (wpH.mono hw fun v h' ⟨B, h1, h2⟩ => by obtain ⟨hh, hf⟩ := h1.frz (v := v); exact ⟨_, hh, hf, v1, h2, rfl⟩)))
theorem Wk.of_eq {fz nw} {v v1 : AV} (h : v = v1) : Wk fz nw v v1 := h ▸ .refl _
end Go.Proofs.YtchhknkflhikmaaDoor.Am

/- AM: a slice of slices that grow, each in a block of the run's own. -/
namespace Go.Proofs.YtchhknkflhikmaaDoor.Am
set_option linter.unusedSectionVars false
open Go
set_option linter.unusedVariables false
set_option linter.unusedSimpArgs false
variable [Tab]

/-- The slice c is of the run's own (or nil) and holds es. -/
def VecAt (h : Heap) (et : TypeId) (s : Nat) (c : AV) (es : List (List AV)) : Prop :=
  (c = .snil ∧ es = []) ∨ ∃ b, c = .sl b 0 es.length s ∧ h b = some ⟨.own, es.flatten, et, []⟩
/-- Slices, each in a block of its own. -/
structure Vecs (h : Heap) (et : TypeId) (s : Nat) (L : List AV) (M : List (List (List AV))) : Prop where
  len : L.length = M.length
  at' : ∀ (i : Nat) (c : AV) (es : List (List AV)), L[i]? = some c → M[i]? = some es → VecAt h et s c es
  each : ∀ es ∈ M, ∀ e ∈ es, e.length = s
  apart : ∀ (i j b o n z o' n' z' : Nat), i ≠ j → L[i]? = some (AV.sl b o n z) → L[j]? = some (AV.sl b o' n' z') → False
/-- b is none of the slices' blocks. -/
def Off (L : List AV) (b : Nat) : Prop := ∀ (i o n z : Nat), L[i]? ≠ some (AV.sl b o n z)

theorem wk_set {fz nw} {L : List AV} {i : Nat} {c d : AV} (hi : L[i]? = some c) (h : Wk fz nw c d) : Wk fz nw (.rs 1 (L.map fun c => [c])) (.rs 1 ((L.set i d).map fun c => [c])) := by
  refine .rs (by simp) (fun k e e' h1 h2 => ?_) fun k j e e' x y h1 h2 h3 h4 => ?_
  · simp only [List.getElem?_map, Option.map_eq_some_iff] at h1 h2
    obtain ⟨_, _, rfl⟩ := h1
    obtain ⟨_, _, rfl⟩ := h2
    rfl
  · simp only [List.getElem?_map, Option.map_eq_some_iff] at h1 h2
    obtain ⟨a, ha, rfl⟩ := h1
    obtain ⟨b, hb, rfl⟩ := h2
    cases j with
    | succ j => simp at h3
    | zero =>
      simp at h3 h4
      subst h3; subst h4
      by_cases hk : k = i
      · subst hk
        rw [hi] at ha; cases ha
        have hlt : k < L.length := (List.getElem?_eq_some_iff.1 hi).1
        rw [List.getElem?_set_self hlt] at hb; cases hb
        exact h
      · rw [List.getElem?_set_ne (Ne.symm hk), ha] at hb; cases hb
        exact .refl _

theorem flat_len {s : Nat} : ∀ {es : List (List AV)}, (∀ e ∈ es, e.length = s) → es.flatten.length = es.length * s
  | [], _ => by simp
  | x :: xs, h => by
    have h1 : ∀ e ∈ xs, e.length = s := fun e he => h e (List.mem_cons_of_mem _ he)
    rw [List.flatten_cons, List.length_append, flat_len h1, h x List.mem_cons_self, List.length_cons, Nat.succ_mul, Nat.add_comm]
section
variable {P : Program} {cs : List Code} {S : List (Nat × AV)} {K : Ex → Env → Heap → Prop}
theorem wk_slot {fz nw} (t : Nat) {v v1 : AV} (he : lk S t = v) (h : Wk fz nw v v1) (i : Nat) : Wk fz nw (lk S i) (lk (setL t v1 S) i) := by
  rw [lk_setL]
  simp only [put]
  split
  · subst_vars; exact h
  · exact .refl _
theorem setL_setL (t : Nat) (v w : AV) : lk (setL t w (setL t v S)) = lk (setL t w S) := by
  simp only [lk_setL]
  funext i; simp only [put]; split <;> rfl
theorem lk_setL_self (t : Nat) (v : AV) : lk (setL t v S) t = v := by rw [lk_setL]; simp [put]

theorem frzVecs_step (t : Nat) {et : TypeId} {s : Nat} : ∀ (d j : Nat) (h : Heap) (L : List AV) (M : List (List (List AV))), M.length - j = d → L.length = M.length →
    (∀ (i : Nat) (es : List (List AV)), i < j → M[i]? = some es → L[i]? = some (AV.rs s es)) → (∀ (i : Nat) (c : AV) (es : List (List AV)), j ≤ i → L[i]? = some c → M[i]? = some es → VecAt h et s c es) → (∀ es ∈ M, ∀ e ∈ es, e.length = s) →
    (∀ (i j b o n z o' n' z' : Nat), i ≠ j → L[i]? = some (AV.sl b o n z) → L[j]? = some (AV.sl b o' n' z') → False) →
    (∀ h', wpL P cs (lk (setL t (.rs 1 (M.map fun es => [.rs s es])) S)) h' K) → wpL P cs (lk (setL t (.rs 1 (L.map fun c => [c])) S)) h K
  | 0, j, h, L, M, hd, hl, h1, h2, h3, h4, hk => by
    have : L = M.map fun es => .rs s es := by
      refine List.ext_getElem? fun i => ?_
      cases hm : M[i]? with
      | none => simp [hm]; have := List.getElem?_eq_none_iff.1 hm; omega
      | some es =>
        have := (List.getElem?_eq_some_iff.1 hm).1
        rw [h1 i es (by omega) hm]; simp [hm]
    subst this
    have := hk h
    simpa [Function.comp_def] using this
  | d + 1, j, h, L, M, hd, hl, h1, h2, h3, h4, hk => by
    have hj : j < M.length := by omega
    have hm : M[j]? = some M[j] := List.getElem?_eq_getElem hj
    have hc : L[j]? = some L[j] := List.getElem?_eq_getElem (by omega)
    have hv := h2 j _ _ (Nat.le_refl j) hc hm
    have key : ∀ h1', (∀ (i : Nat) (c : AV) (es : List (List AV)), j + 1 ≤ i → L[i]? = some c → M[i]? = some es → VecAt h1' et s c es) → wpL P cs (lk (setL t (.rs 1 ((L.set j (.rs s M[j])).map fun c => [c])) S)) h1' K := fun h1' hv' => by
      refine frzVecs_step (et := et) t d (j + 1) h1' (L.set j (.rs s M[j])) M (by omega) (by simpa using hl) (fun i es hi hes => ?_) (fun i c es hi hc' hes => ?_) h3 (fun i k b o n z o' n' z' hik e1 e2 => ?_) hk
      · by_cases hij : i = j
        · subst hij
          rw [List.getElem?_set_self (by omega)]
          rw [hm] at hes; cases hes; rfl
        · rw [List.getElem?_set_ne (Ne.symm hij)]
          exact h1 i es (by omega) hes
      · rw [List.getElem?_set_ne (by omega)] at hc'
        exact hv' i c es hi hc' hes
      · by_cases hij : i = j
        · subst hij; rw [List.getElem?_set_self (by omega)] at e1; cases e1
        · by_cases hkj : k = j
          · subst hkj; rw [List.getElem?_set_self (by omega)] at e2; cases e2
          · rw [List.getElem?_set_ne (Ne.symm hij)] at e1
            rw [List.getElem?_set_ne (Ne.symm hkj)] at e2
            exact h4 i k b o n z o' n' z' hik e1 e2
    rcases hv with ⟨e1, e2⟩ | ⟨b, e1, e2⟩
    · refine wpL_env (e1 := lk (setL t (.rs 1 ((L.set j (.rs s M[j])).map fun c => [c])) S)) (fun i => ?_) (key h fun i c es hi => h2 i c es (by omega))
      have w := wk_slot (S := setL t (.rs 1 (L.map fun c => [c])) S) (fz := fun _ => none) (nw := fun _ => False) t (lk_setL_self _ _) (wk_set (d := .rs s M[j]) hc (by rw [e1, e2]; exact .snil s)) i
      rw [setL_setL] at w; exact w
    · refine wpL_freeze (e1 := lk (setL t (.rs 1 ((L.set j (.rs s M[j])).map fun c => [c])) S)) (h1 := h.del b) e2 rfl (fun i => ?_) (by simp [Heap.del]) (fun c kc' hc => ?_) (key (h.del b) fun i c es hi hc' hes => ?_)
      · have w := wk_slot (S := setL t (.rs 1 (L.map fun c => [c])) S) (fz := fun x => if x = b then some M[j].flatten else none) (nw := fun _ => False) t (lk_setL_self _ _)
          (wk_set (d := .rs s M[j]) hc (by rw [e1]; exact Wk.slF ⟨rfl, rfl, h3 _ (List.getElem_mem hj)⟩)) i
        rw [setL_setL] at w; exact w
      · simp only [Heap.del] at hc
        split at hc
        · cases hc
        · exact ⟨kc', hc, rfl, rfl, rfl, rfl, fun i x y h1 h2 => by rw [h1] at h2; cases h2; exact .refl _⟩
      · rcases h2 i c es (by omega) hc' hes with h | ⟨b', q1, q2⟩
        · exact .inl h
        · refine .inr ⟨b', q1, ?_⟩
          simp only [Heap.del]
          rw [if_neg ?_]; exact q2
          rintro rfl
          exact h4 i j b' _ _ _ _ _ _ (by omega) (by rw [hc', q1]) (by rw [hc, e1])

/-- A slice of slices, written no more. -/
theorem wpL_frzVecs (t : Nat) {h : Heap} {b n s : Nat} {et ty : TypeId} {L : List AV} {M : List (List (List AV))} (he : lk S t = .sl b 0 n 1) (hb : h b = some ⟨.own, L, ty, []⟩) (hn : M.length = n) (hV : Vecs h et s L M) (ho : Off L b)
    (hk : ∀ h', wpL P cs (lk (setL t (.rs 1 (M.map fun es => [.rs s es])) S)) h' K) : wpL P cs (lk S) h K := by
  refine wpL_frzS t (L.map fun c => [c]) he hb rfl (by clear hV ho hk hb; induction L with | nil => rfl | cons c L ih => simp [← ih]) (by simp [hV.len, hn]) (by simp) ?_
  refine frzVecs_step t (et := et) (s := s) M.length 0 (h.del b) L M (by omega) hV.len (fun i es hi => by omega) (fun i c es _ hc hes => ?_) hV.each hV.apart hk
  rcases hV.at' i c es hc hes with h1 | ⟨b', q1, q2⟩
  · exact .inl h1
  · refine .inr ⟨b', q1, ?_⟩
    simp only [Heap.del]
    rw [if_neg ?_]; exact q2
    rintro rfl
    exact ho i _ _ _ (by rw [hc, q1])
end
theorem Vecs.off {h h' : Heap} {et s L M} (hV : Vecs h et s L M) (hk : ∀ (i b o n z : Nat), L[i]? = some (AV.sl b o n z) → h' b = h b) : Vecs h' et s L M :=
  ⟨hV.len, fun i c es hc hes => by
    rcases hV.at' i c es hc hes with h | ⟨b, q1, q2⟩
    · exact .inl h
    · exact .inr ⟨b, q1, by rw [hk i b _ _ _ (by rw [hc, q1])]; exact q2⟩, hV.each, hV.apart⟩
theorem Vecs.set {h h' : Heap} {et s L M} {a b' : Nat} {es' : List (List AV)} (hV : Vecs h et s L M) (ha : a < L.length) (hb : h' b' = some ⟨.own, es'.flatten, et, []⟩) (hes' : ∀ e ∈ es', e.length = s)
    (hk : ∀ (i b o n z : Nat), i ≠ a → L[i]? = some (AV.sl b o n z) → b ≠ b' ∧ h' b = h b) : Vecs h' et s (L.set a (.sl b' 0 es'.length s)) (M.set a es') := by
  have hl := hV.len
  refine ⟨by simpa using hl, fun i c es hc hes => ?_, fun es hes => ?_, fun i j b o n z o' n' z' hij e1 e2 => ?_⟩
  · by_cases hi : i = a
    · subst hi
      rw [List.getElem?_set_self ha] at hc; cases hc
      rw [List.getElem?_set_self (by omega)] at hes; cases hes
      exact .inr ⟨b', rfl, hb⟩
    · rw [List.getElem?_set_ne (Ne.symm hi)] at hc hes
      rcases hV.at' i c es hc hes with h | ⟨b, q1, q2⟩
      · exact .inl h
      · exact .inr ⟨b, q1, by rw [(hk i b _ _ _ hi (by rw [hc, q1])).2]; exact q2⟩
  · rcases List.mem_or_eq_of_mem_set hes with h | rfl
    · exact hV.each es h
    · exact hes'
  · by_cases hi : i = a
    · subst hi
      rw [List.getElem?_set_self ha] at e1; cases e1
      rw [List.getElem?_set_ne hij] at e2
      exact (hk j _ _ _ _ (Ne.symm hij) e2).1 rfl
    · by_cases hj : j = a
      · subst hj
        rw [List.getElem?_set_self ha] at e2; cases e2
        rw [List.getElem?_set_ne (Ne.symm hi)] at e1
        exact (hk i _ _ _ _ hi e1).1 rfl
      · rw [List.getElem?_set_ne (Ne.symm hi)] at e1
        rw [List.getElem?_set_ne (Ne.symm hj)] at e2
        exact hV.apart i j b o n z o' n' z' hij e1 e2
theorem Off.set {L : List AV} {b a b' n s : Nat} (h : Off L b) (hb : b ≠ b') : Off (L.set a (.sl b' 0 n s)) b := fun i o n' z hi => by
  rw [List.getElem?_set] at hi
  split at hi
  · split at hi
    · cases hi; exact hb rfl
    · cases hi
  · exact h i o n' z hi
theorem Vecs.blk {h : Heap} {et s L M} (hV : Vecs h et s L M) {i b o n z : Nat} (hi : L[i]? = some (AV.sl b o n z)) : h b ≠ none := by
  have hl := hV.len
  have hlt := (List.getElem?_eq_some_iff.1 hi).1
  rcases hV.at' i _ _ hi (List.getElem?_eq_getElem (by omega)) with ⟨h, _⟩ | ⟨b', q1, q2⟩
  · cases h
  · cases q1; rw [q2]; simp

theorem Vecs.put {h : Heap} {et s L M b k} (hV : Vecs h et s L M) (hb : NewIn h b) : Vecs (h.put b k) et s L M := hV.off fun i c o n z hi => by
  have hb : h b = none := hb
  have := hV.blk hi
  simp only [Heap.put]; rw [if_neg (by rintro rfl; exact this hb)]
theorem Vecs.upd {h : Heap} {et s L M b k} (hV : Vecs h et s L M) (ho : Off L b) : Vecs (h.upd b k) et s L M := hV.off fun i c o n z hi => by
  simp only [Heap.upd]; rw [if_neg (by rintro rfl; exact ho i _ _ _ hi)]
theorem del_new {h : Heap} {b : Nat} (hb : NewIn h b) : h.del b = h := by
  funext x; simp only [Heap.del]; split
  · subst_vars; exact hb.symm
  · rfl
section
variable {P : Program} {all : Array Oper} {d : Option Nat} {fl : Bool} {its : List (Oper × Bool)} {e : Env} {h : Heap} {k : Env → Heap → Prop}
/-- One of the slices grows. -/
theorem gN_appVec {t c x et ti ei s a L M es xs} (ht : tiOf P t = some ti) (hd : ti.d = .slice et) (he : tiOf P et = some ei) (hs : ei.size = s) (hp : 0 < s) (hV : Vecs h et s L M) (hc : L[a]? = some c) (hes : M[a]? = some es)
    (hx : SrcV h s x xs.length xs.flatten) (hxs : ∀ e ∈ xs, e.length = s) (hbd : (es.length + xs.length) * ei.bytes ≤ 140737488355328) (hm : es.length + xs.length ≤ maxInt)
    (hk : ∀ b' h', Vecs h' et s (L.set a (.sl b' 0 (es.length + xs.length) s)) (M.set a (es ++ xs)) → (∀ b, h b ≠ none → Off L b → h' b = h b ∧ Off (L.set a (.sl b' 0 (es.length + xs.length) s)) b) →
      gO P all its (putd e d (.sl b' 0 (es.length + xs.length) s)) h' k) : gN P all d fl its e h k (.app t c x) := by
  have hlt := (List.getElem?_eq_some_iff.1 hc).1
  have hee : ∀ e ∈ es ++ xs, e.length = s := fun e he' => by
    rcases List.mem_append.1 he' with h | h
    · exact hV.each es (List.mem_of_getElem? hes) e h
    · exact hxs e h
  rcases hV.at' a c es hc hes with ⟨rfl, rfl⟩ | ⟨b, rfl, hb⟩
  · refine gN_appN ht hd he hs hp hx (by simpa using hbd) (by simpa using hm) fun b' hb' => ?_
    have hb' : h b' = none := hb'
    rw [show xs.length = ([] : List (List AV)).length + xs.length by simp]
    refine hk _ _ ?_ fun b hb ho => ?_
    · have := hV.set (h' := h.put b' ⟨.own, xs.flatten, et, []⟩) (b' := b') (es' := xs) hlt (by simp [Heap.put]) hxs fun i b o n z hi h1 => by
        have hne : b ≠ b' := by rintro rfl; exact hV.blk h1 hb'
        exact ⟨hne, by simp [Heap.put, hne]⟩
      simpa using this
    · have hne : b ≠ b' := by rintro rfl; exact hb hb'
      exact ⟨by simp [Heap.put, hne], ho.set hne⟩
  · refine gN_appV ht hd he hs hp hx hb (flat_len (hV.each es (List.mem_of_getElem? hes))) hbd hm fun b' hb' => ?_
    have hb' : (h.del b) b' = none := hb'
    have hd' : ∀ y, y ≠ b → h y ≠ none → y ≠ b' := fun y hy hh => by
      rintro rfl; apply hh; simpa [Heap.del, hy] using hb'
    refine hk _ _ ?_ fun y hy ho => ?_
    · have := hV.set (h' := (h.del b).put b' ⟨.own, es.flatten ++ xs.flatten, et, []⟩) (b' := b') (es' := es ++ xs) hlt (by simp [Heap.put]) hee fun i y o n z hi h1 => by
        have hyb : y ≠ b := by rintro rfl; exact hV.apart i a y o n z _ _ _ hi h1 hc
        have hne := hd' y hyb (hV.blk h1)
        exact ⟨hne, by simp [Heap.put, Heap.del, hne, hyb]⟩
      simpa using this
    · have hyb : y ≠ b := by rintro rfl; exact ho a _ _ _ hc
      have hne := hd' y hyb hy
      exact ⟨by simp [Heap.put, Heap.del, hne, hyb], ho.set hne⟩
end
end Go.Proofs.YtchhknkflhikmaaDoor.Am

/- AM: what is borrowed, and what a call answers of its own, at a call. -/
namespace Go.Proofs.YtchhknkflhikmaaDoor.Am
set_option linter.unusedSectionVars false
open Go
set_option linter.unusedVariables false
set_option linter.unusedSimpArgs false
variable [Tab]

theorem WkArgs.nil {fz} : WkArgs fz [] [] := ⟨rfl, fun i c d h => by simp at h⟩
theorem WkArgs.cons {fz c d cs ds} (h : Wk fz (fun _ => False) c d) (hs : WkArgs fz cs ds) : WkArgs fz (c :: cs) (d :: ds) := by
  refine ⟨by simp [hs.len], fun i x y h1 h2 => ?_⟩
  cases i with
  | zero => simp at h1 h2; subst h1; subst h2; exact h
  | succ i => exact hs.get i x y (by simpa using h1) (by simpa using h2)
theorem WkArgs.keep {fz c cs ds} (hs : WkArgs fz cs ds) : WkArgs fz (c :: cs) (c :: ds) := .cons (.refl _) hs

theorem flat_cut {α : Type} {f : α → List AV} {s : Nat} (hf : ∀ a, (f a).length = s) : ∀ (l : List α) (pre post : List AV) (i : Nat) (e : List AV), (l.map f)[i]? = some e →
    e = ((pre ++ (l.map f).flatten ++ post).drop (pre.length + i * s)).take s
  | [], _, _, i, e, h => by simp at h
  | a :: l, pre, post, 0, e, h => by
    simp at h; subst h
    rw [Nat.zero_mul, Nat.add_zero, List.append_assoc, List.drop_left]
    simp only [List.map_cons, List.flatten_cons, List.append_assoc]
    rw [List.take_append_of_le_length (by rw [hf]; omega), List.take_of_length_le (by rw [hf]; omega)]
  | a :: l, pre, post, i + 1, e, h => by
    have := flat_cut hf l (pre ++ f a) post i e (by simpa using h)
    rw [this]
    simp only [List.map_cons, List.flatten_cons, List.append_assoc, List.length_append, hf]
    rw [show pre.length + s + i * s = pre.length + (i + 1) * s by rw [Nat.succ_mul]; omega]

/-- A stretch of a block, as what is written no more. -/
theorem Wk.cut {α : Type} {f : α → List AV} {h : Heap} {b o n s : Nat} {k : Blk} {nw} (l : List α) (pre post : List AV) (hb : h b = some k) (hc : k.cells = pre ++ (l.map f).flatten ++ post) (ho : pre.length = o) (hn : l.length = n)
    (hf : ∀ a, (f a).length = s) : Wk h.view nw (.sl b o n s) (.rs s (l.map f)) := by
  refine .sl (cs := k.cells) (by simp [Heap.view, hb]) (by simpa using hn) (fun i e he => ?_) (fun e he => ?_)
  · rw [hc, ← ho]; exact flat_cut hf l pre post i e he
  · obtain ⟨a, _, rfl⟩ := List.mem_map.1 he; exact hf a
theorem Wk.all {α : Type} {f : α → List AV} {h : Heap} {b n s : Nat} {k : Blk} {nw} (l : List α) (hb : h b = some k) (hc : k.cells = (l.map f).flatten) (hn : l.length = n)
    (hf : ∀ a, (f a).length = s) : Wk h.view nw (.sl b 0 n s) (.rs s (l.map f)) := Wk.cut l [] [] hb (by simp [hc]) rfl hn hf

theorem noIs_app : ∀ {l m : List AV}, noIs (l ++ m) = (noIs l && noIs m)
  | [], m => by simp [noIs]
  | a :: l, m => by simp [noIs, noIs_app (l := l), Bool.and_assoc]
theorem noIs_flat {α : Type} {f : α → List AV} (hf : ∀ a, noIs (f a) = true) : ∀ l : List α, noIs (l.map f).flatten = true
  | [] => rfl
  | a :: l => by simp [noIs_app, hf a, noIs_flat hf l]
theorem noIs_map {α : Type} {f : α → AV} (hf : ∀ a, (f a).noI = true) : ∀ l : List α, noIs (l.map f) = true
  | [] => rfl
  | a :: l => by simp [noIs, hf a, noIs_map hf l]

/-- What is answered is f of a block of its own. -/
def OwnF (f : Nat → AV) (c : List AV) (t : TypeId) (v : AV) (h : Heap) : Prop := ∃ b, v = f b ∧ h = Heap.emp.put b ⟨.own, c, t, []⟩

section
variable {P : Program} {all : Array Oper} {d : Option Nat} {fl : Bool} {its : List (Oper × Bool)} {e : Env} {h : Heap} {k : Env → Heap → Prop} {g : FuncId} {args args1 : List AV}
theorem gN_ownF {f c t} (hw : wpH P g args Heap.emp (OwnF f c t)) (hk : ∀ b, NewIn h b → gO P all its (putd e d (f b)) (h.put b ⟨.own, c, t, []⟩) k) : gN P all d fl its e h k (.call g args) := by
  refine gN_callE (hw.mono ?_)
  rintro v h1 ⟨b, rfl, rfl⟩ hh
  have n1 : NewIn h b := NewIn.cat hh (b := b) (k := ⟨.own, c, t, []⟩) (by simp only [put_at, if_true])
  simp only [cat_put, cat_emp]
  exact hk b n1
/-- A call of a function that touches nothing, told of what stands here as of what is written no more. -/
theorem gN_brw {v} (hb : WkArgs h.view args args1) (hw : wpP P g args1 v) (hv : v.noI = true) (hk : gO P all its (putd e d v) h k) : gN P all d fl its e h k (.call g args) :=
  gN_callX (wpE_borrow hb (wpH.mono hw fun v' h1 ⟨e1, e2⟩ => by
    subst e1; subst e2
    exact ⟨hv, (fun b k hb => nomatch hb), fun _ => hk⟩))
theorem gN_brwF {f c t} (hb : WkArgs h.view args args1) (hw : wpH P g args1 Heap.emp (OwnF f c t)) (hv : ∀ b, (f b).noI = true) (hc : noIs c = true) (hk : ∀ b, NewIn h b → gO P all its (putd e d (f b)) (h.put b ⟨.own, c, t, []⟩) k) :
    gN P all d fl its e h k (.call g args) :=
  gN_callX (wpE_borrow hb (wpH.mono hw fun v' h1 ⟨b, e1, e2⟩ => by
    subst e1; subst e2
    refine ⟨hv b, fun c' k' hb' => ?_, fun hh => ?_⟩
    · rw [put_at] at hb'
      split at hb'
      · cases hb'; exact ⟨rfl, hc⟩
      · cases hb'
    · have n1 : NewIn h b := NewIn.cat hh (b := b) (k := ⟨.own, c, t, []⟩) (by simp only [put_at, if_true])
      simp only [cat_put, cat_emp]
      exact hk b n1))
end

/-! ### Bytes -/

def by1 (c : UInt8) : List AV := [.int .u8 c.toNat]
abbrev byc (c : UInt8) : AV := .int .u8 c.toNat
theorem by1_len (c) : (by1 c).length = 1 := rfl
theorem by1_leaf (c) : (by1 c).all AV.leaf = true := rfl
theorem by1_noI (c) : noIs (by1 c) = true := rfl
theorem by1_flat (l : List UInt8) : (l.map by1).flatten = l.map byc := by
  induction l with
  | nil => rfl
  | cons x l ih => rw [List.map_cons, List.flatten_cons, ih]; rfl
theorem byc_noIs (l : List UInt8) : noIs (l.map byc) = true := noIs_map (fun _ => rfl) l
theorem byc_leaf (l : List UInt8) : (l.map byc).all AV.leaf = true := by simp [AV.leaf]
theorem xorU8 (x y : UInt8) : bitsA .xor .u8 (x.toNat : Int) (y.toNat : Int) = ((x ^^^ y).toNat : Int) := xor8 x.toBitVec y.toBitVec
theorem Wk.bytes {h : Heap} {b o n : Nat} {k : Blk} {nw} (l : List UInt8) (pre post : List AV) (hb : h b = some k) (hc : k.cells = pre ++ l.map byc ++ post) (ho : pre.length = o) (hn : l.length = n) :
    Wk h.view nw (.sl b o n 1) (.rs 1 (l.map by1)) := Wk.cut l pre post hb (by rw [hc, by1_flat]) ho hn by1_len
theorem Els.bytes (l : List UInt8) (n : Nat) (hn : l.length = n) : Els 1 (l.map by1) n (l.map byc) := Els.of by1_len l (by1_flat l).symm hn
end Go.Proofs.YtchhknkflhikmaaDoor.Am

/- AM: lists of bytes, numbers, truths that came in. -/
namespace Go.Proofs.YtchhknkflhikmaaDoor.Am
set_option linter.unusedSectionVars false
open Go
set_option linter.unusedVariables false
set_option linter.unusedSimpArgs false
variable [Tab]

theorem maps_of {α : Type} {f : α → List AV} {q : α → Prop} {es : List (List AV)} (h : ∀ c ∈ es, ∃ a, c = f a ∧ q a) : ∃ l : List α, es = l.map f ∧ ∀ a ∈ l, q a := by
  induction es with
  | nil => exact ⟨[], rfl, fun a h => by cases h⟩
  | cons c es ih =>
    obtain ⟨a, rfl, ha⟩ := h _ List.mem_cons_self
    obtain ⟨l, rfl, hl⟩ := ih fun c hc => h c (List.mem_cons_of_mem _ hc)
    exact ⟨a :: l, rfl, by simpa using ⟨ha, hl⟩⟩
section
variable {H : Type} {P : Program}
theorem RdW.one {t : TypeId} {c : List AV} {d : DataW H} (hl : c.length = 1) (h : RdW P t c d) : ∃ v, c = [v] ∧ RdW P t [v] d := by
  match c, hl with
  | [c], _ => exact ⟨c, rfl, h⟩
theorem RdW.int1 {t : TypeId} {k : IntKind} {c : List AV} {d : DataW H} (ht : P.underlying t = some (.int k)) (hl : c.length = 1) (h : RdW P t c d) : ∃ n, c = [.int k n] ∧ (Lit.int k n).wf = true := by
  obtain ⟨v, rfl, h⟩ := h.one hl
  obtain ⟨n, rfl, hw⟩ := h.int ht
  exact ⟨n, rfl, hw⟩
abbrev i1 (k : IntKind) (n : Int) : List AV := [.int k n]
def bo1 (b : Bool) : List AV := [.bool b]
theorem RdW.ints {k : IntKind} {s t : TypeId} {z : Nat} {c} {d : DataW H} (hs : P.underlying s = some (.slice t)) (ht : P.underlying t = some (.int k)) (hz : P.cellsOf t = 1) (hb : P.bytesOf t = z) (h : RdW P s [c] d) :
    ∃ l : List Int, c = .rs 1 (l.map (i1 k)) ∧ l.length * z ≤ 140737488351232 ∧ ∀ n ∈ l, (Lit.int k n).wf = true := by
  obtain ⟨es0, rfl, w0, h0⟩ := h.slice hs (z := 1) hz (by omega)
  obtain ⟨gs, rfl, hw⟩ := maps_of (f := i1 k) (q := fun n => (Lit.int k n).wf = true) fun c hc => by
    obtain ⟨hl, _, hx⟩ := h0 c hc
    obtain ⟨g, rfl, hw⟩ := hx.int1 ht hl
    exact ⟨g, rfl, hw⟩
  have hrb : reachBytes = 140737488351232 := rfl
  rw [hb, hrb, List.length_map] at w0
  exact ⟨gs, rfl, w0, hw⟩
theorem RdW.bytes {s t : TypeId} {c} {d : DataW H} (hs : P.underlying s = some (.slice t)) (ht : P.underlying t = some (.int .u8)) (hz : P.cellsOf t = 1) (hb : P.bytesOf t = 1) (h : RdW P s [c] d) :
    ∃ l : List UInt8, c = .rs 1 (l.map by1) ∧ l.length ≤ 140737488351232 := by
  obtain ⟨es0, rfl, w0, h0⟩ := h.slice hs (z := 1) hz (by omega)
  obtain ⟨gs, rfl, hw⟩ := maps_of (f := by1) (q := fun n => True) fun c hc => by
    obtain ⟨hl, _, hx⟩ := h0 c hc
    obtain ⟨g, rfl, hw⟩ := hx.int1 ht hl
    obtain ⟨x, rfl⟩ := wf_u8 hw
    exact ⟨x, rfl, trivial⟩
  have hrb : reachBytes = 140737488351232 := rfl
  rw [hb, hrb, List.length_map] at w0
  exact ⟨gs, rfl, by omega⟩
theorem RdW.bools {s t : TypeId} {c} {d : DataW H} (hs : P.underlying s = some (.slice t)) (ht : P.underlying t = some .bool) (hz : P.cellsOf t = 1) (hb : P.bytesOf t = 1) (h : RdW P s [c] d) :
    ∃ l : List Bool, c = .rs 1 (l.map bo1) ∧ l.length ≤ 140737488351232 := by
  obtain ⟨es0, rfl, w0, h0⟩ := h.slice hs (z := 1) hz (by omega)
  obtain ⟨gs, rfl, hw⟩ := maps_of (f := bo1) (q := fun n => True) fun c hc => by
    obtain ⟨hl, _, hx⟩ := h0 c hc
    obtain ⟨v, rfl, hx⟩ := hx.one hl
    obtain ⟨b, rfl⟩ := hx.bool ht
    exact ⟨b, rfl, trivial⟩
  have hrb : reachBytes = 140737488351232 := rfl
  rw [hb, hrb, List.length_map] at w0
  exact ⟨gs, rfl, by omega⟩
theorem tabs_none {W : World} (h : ∀ g, Tab.cells g = none) : TabsOk W := fun g cs h' => by rw [h g] at h'; cases h'
end
end Go.Proofs.YtchhknkflhikmaaDoor.Am

/- AM: tables of numbers that a tied row lays. -/
namespace Go.Proofs.YtchhknkflhikmaaDoor.Am
set_option linter.unusedSectionVars false
open Go
set_option linter.unusedVariables false
set_option linter.unusedSimpArgs false
variable [Tab]

/-- A listed table of numbers, cell by cell. -/
theorem laid_ints {P : Program} {W : World} {n : String} {L : List Int} {k : IntKind} {rest : List (String × DataW Unit)} {ps : List MemPlace} {g : Nat} {t e : TypeId}
    (h : DataW.LaidVars P W ((n, .agg (L.map fun x => .lit (.int k x))) :: rest) ps) (hg : P.globalNamed n = some g) (ht : (P.globals[g]?).map (·.type) = some t) (ha : P.underlying t = some (.array L.length e))
    (he : P.underlying e = some (.int k)) (hz : P.cellsOf e = 1) : ∀ j : Nat, j < L.length → W.cell? ⟨g, j, none⟩ = some (.int k (L.getD j 0)) := by
  obtain ⟨g', t', cs, fuel, p, q, hg', ht', hv, hd, _, _⟩ := h
  rw [hg] at hg'; cases hg'
  rw [ht] at ht'; cases ht'
  intro r hr
  obtain ⟨xs, m, _, ex, _, hl, hel⟩ := DataW.trod_array ha hd
  have hE := hel r hr
  rw [hz, Nat.mul_one, List.getElem?_eq_getElem (by omega)] at hE
  obtain ⟨z, e1, e2, _⟩ := DataW.trod_int he hE
  have e3 : (xs.map (·.1)) = L.map fun n => .lit (.int k n) := (DataW.agg.inj (Prod.mk.inj ex).1).symm
  have e4 : (xs.map (·.1))[r]? = (L.map fun n => (DataW.lit (.int k n) : DataW Unit))[r]? := by rw [e3]
  rw [List.getElem?_map, List.getElem?_map, List.getElem?_eq_getElem (by omega : r < xs.length), List.getElem?_eq_getElem hr, e2] at e4
  have hz' : z = L.getD r 0 := by
    simp only [Option.map_some, Option.some.injEq, DataW.lit.injEq, Lit.int.injEq, true_and] at e4
    rw [e4, List.getD, List.getElem?_eq_getElem hr]; rfl
  rw [World.var?_cell hg hv r, ← hz']
  have : cs.toList[r]? = some (.int k z) := by
    have h0 : ((cs.toList.drop r).take 1)[0]? = some (.int k z) := by rw [e1]; rfl
    simpa using h0
  simpa using this

/-- What a table's cells tell. -/
theorem tab_vr {W : World} {g : Nat} {L : List Int} {k : IntKind} (h : ∀ j : Nat, j < L.length → W.cell? ⟨g, j, none⟩ = some (.int k (L.getD j 0))) :
    ∃ vs : Nat → Value, (∀ (j : Nat) (c : AV), (L.map fun n => AV.int k n)[j]? = some c → ∀ ρ, VR ρ c (vs j)) ∧ ∀ j : Nat, j < (L.map fun n => AV.int k n).length → W.cell? ⟨g, j, none⟩ = some (vs j) := by
  refine ⟨fun j => .int k (L.getD j 0), fun j c hc ρ => ?_, fun j hj => h j (by simpa using hj)⟩
  rw [List.getElem?_map] at hc
  cases hx : L[j]? with
  | none => simp [hx] at hc
  | some x =>
    simp [hx] at hc; subst hc
    simp [List.getD, hx]
    exact .int _ _
end Go.Proofs.YtchhknkflhikmaaDoor.Am

/- AM: an append that keeps what was grown; a block as it is. -/
namespace Go.Proofs.YtchhknkflhikmaaDoor.Am
set_option linter.unusedSectionVars false
open Go
set_option linter.unusedVariables false
set_option linter.unusedSimpArgs false
variable [Tab]

theorem upd_id {h : Heap} {b k} (hb : h b = some k) : h.upd b k = h := by
  funext x; simp only [Heap.upd]; split
  · subst_vars; exact hb.symm
  · rfl
section
variable {P : Program} {all : Array Oper} {d : Option Nat} {fl : Bool} {its : List (Oper × Bool)} {e : Env} {h : Heap} {k : Env → Heap → Prop}
/-- Appended to a slice of the run's own, which is read again. -/
theorem gN_appK {t b n s x m et ti ei cells news A} (ht : tiOf P t = some ti) (hd : ti.d = .slice et) (he : tiOf P et = some ei) (hs : ei.size = s) (hp : 0 < s) (hx : SrcV h s x m news) (h0 : 0 < m) (hb : h b = some ⟨.own, cells, et, A⟩)
    (hc : cells.length = n * s) (hbd : (n + m) * ei.bytes ≤ 140737488355328) (hm : n + m ≤ maxInt)
    (hk : ∀ b', NewIn h b' → gO P all its (putd e d (.sl b' 0 (n + m) s)) ((h.upd b ⟨.old, cells, et, A⟩).put b' ⟨.own, cells ++ news, et, b :: A⟩) k) : gN P all d fl its e h k (.app t (.sl b 0 n s) x) := by
  subst hs
  refine AppRun'.keep (et := et) (ei := ei) (news := news) (b := b) (o := 0) (len := n) (k := ⟨.own, cells, et, A⟩) ⟨⟨ti, ht, hd⟩, he, hp, hx.len⟩ h0 ⟨hx.src, hx.cells, hx.leaf⟩ rfl hb rfl rfl (by simpa using hc.symm) hbd hm fun b' hb' => ?_
  simpa using hk b' hb'
/-- A call that may touch all blocks. -/
theorem gN_callH {g args} {K : AV → Heap → Prop} (hw : wpH P g args h K) (hk : ∀ v h', K v h' → gO P all its (putd e d v) h' k) : gN P all d false its e h k (.call g args) := gN_call (hw.mono hk)
end
end Go.Proofs.YtchhknkflhikmaaDoor.Am

/- AM: a nil slice within a block's cells, as an empty one of its own. -/
namespace Go.Proofs.YtchhknkflhikmaaDoor.Am
set_option linter.unusedSectionVars false
open Go
set_option linter.unusedVariables false
set_option linter.unusedSimpArgs false
variable [Tab]

theorem HR.cells {Pr : Nat → Prop} {m : Mem} {h : Heap} {a : Nat} {k k' : Blk} {cs : List AV} (R : HR Pr m h) (ha : h a = some k) (hk : m.blk a = some k') :
    HR Pr (m.put a { k' with cells := cs }) (h.upd a { k with cells := cs }) := by
  have na : ¬ Pr a := fun hp => by have := (R.pr a hp).1; rw [ha] at this; cases this
  have up : ∀ x, (h.upd a { k with cells := cs }) x = none ↔ h x = none := fun x => by
    simp only [Heap.upd]; split
    · subst_vars; simp [ha]
    · rfl
  have pm : ∀ x, (m.put a { k' with cells := cs }).blk x = none ↔ m.blk x = none := fun x => by
    rw [Mem.blk_put]; split
    · subst_vars; simp [hk]
    · rfl
  have cv : ∀ (anc1 anc2 : List Nat), (∀ x ∈ anc1, (x ∈ anc2 ∧ h x ≠ none) ∨ (h x = none ∧ ¬ Pr x ∧ m.blk x ≠ none)) →
      ∀ x ∈ anc1, (x ∈ anc2 ∧ (h.upd a { k with cells := cs }) x ≠ none) ∨ ((h.upd a { k with cells := cs }) x = none ∧ ¬ Pr x ∧ (m.put a { k' with cells := cs }).blk x ≠ none) := fun anc1 anc2 hx x hm => by
    rcases hx x hm with ⟨y1, y2⟩ | ⟨y1, y2, y3⟩
    · exact .inl ⟨y1, fun hn => y2 ((up x).1 hn)⟩
    · exact .inr ⟨(up x).2 y1, y2, fun hn => y3 ((pm x).1 hn)⟩
  refine ⟨fun b hb => ?_, fun b kb hb => ?_⟩
  · obtain ⟨q1, q2⟩ := R.pr b hb
    exact ⟨(up b).2 q1, fun hn => q2 ((pm b).1 hn)⟩
  · simp only [Heap.upd] at hb
    split at hb
    · rename_i he
      subst he
      cases hb
      obtain ⟨r1, k2, r2, r3, r4, r5, r6⟩ := R.rd b k ha
      rw [hk] at r2; cases r2
      exact ⟨r1, { k' with cells := cs }, by rw [Mem.blk_put, if_pos rfl], r3, rfl, r5, cv _ _ r6⟩
    · rename_i hne
      obtain ⟨r1, k2, r2, r3, r4, r5, r6⟩ := R.rd b kb hb
      exact ⟨r1, k2, by rw [Mem.blk_put, if_neg hne]; exact r2, r3, r4, r5, cv _ _ r6⟩

section
variable {P : Program} {cs : List Code} {e : Env} {h h' : Heap} {K : Ex → Env → Heap → Prop}
theorem wpL_vecC (a j : Nat) (s : Nat) (ty : TypeId) {k : Blk} (ha : h a = some k) (hj : k.cells[j]? = some .snil)
    (hk : ∀ b, NewIn h b → wpL P cs e ((h.upd a { k with cells := k.cells.set j (.sl b 0 0 s) }).put b ⟨.own, [], ty, []⟩) K) : wpL P cs e h K := fun m Pr R => by
  obtain ⟨r1, k', r2, r3, r4, r5, r6⟩ := R.rd a k ha
  have hb := m.fresh
  have hne : m.next ≠ a := by rintro hx; rw [hx, r2] at hb; cases hb
  have R1 := R.cells (cs := k.cells.set j (.sl m.next 0 0 s)) ha r2
  have hb1 : (m.put a { k' with cells := k.cells.set j (.sl m.next 0 0 s) }).blk m.next = none := by rw [Mem.blk_put, if_neg hne]; exact hb
  obtain ⟨x, e', m', h2, k1, k2, k3, k4⟩ := hk m.next (R.fresh hb) _ Pr (R1.put hb1 (k := ⟨.own, [], ty, []⟩) rfl rfl)
  refine ⟨x, e', m', h2, .weak ⟨⟨fun _ => none, fun c => c = m.next, fun b cs h => (nomatch h), fun c hc => ?_, fun i => .refl _, fun c kc hc hd => ?_⟩, fun c hc => ?_⟩ k1, k2, fun c hc => (k3 c hc).trans ?_, k4⟩
  · subst hc; exact ⟨hb, ty, by simp⟩
  · rw [Mem.blk_put] at hc
    split at hc
    · exact .inl (by assumption)
    · rw [Mem.blk_put] at hc
      split at hc
      · rename_i hca
        subst hca
        cases hc
        refine .inr ⟨k', r2, rfl, rfl, fun a ha => .inl ha, by rw [r4]; simp, fun i c d h1 h2 => ?_⟩
        rw [r4] at h1
        simp only [List.getElem?_set] at h2
        split at h2
        · rename_i hij
          subst hij
          rw [hj] at h1; cases h1
          split at h2
          · cases h2; exact .nil0 rfl
          · cases h2
        · rw [h1] at h2; cases h2; exact .refl _
      · exact .inr ⟨kc, hc, rfl, rfl, fun a ha => .inl ha, rfl, fun i c d h1 h2 => by rw [h1] at h2; cases h2; exact .refl _⟩
  · rw [Mem.blk_put] at hc
    split at hc
    · cases hc
    · rw [Mem.blk_put] at hc
      split at hc
      · cases hc
      · exact hc
  · have n1 : c ≠ m.next := by rintro rfl; exact absurd hb (R.pr _ hc).2
    have n2 : c ≠ a := by rintro rfl; have := (R.pr _ hc).1; rw [ha] at this; cases this
    rw [Mem.blk_put, if_neg n1, Mem.blk_put, if_neg n2]
end
end Go.Proofs.YtchhknkflhikmaaDoor.Am

/- AM: a slice within immutable cells, its block written no more. -/
namespace Go.Proofs.YtchhknkflhikmaaDoor.Am
set_option linter.unusedSectionVars false
open Go
set_option linter.unusedVariables false
set_option linter.unusedSimpArgs false
variable [Tab]
section
variable {P : Program} {cs : List Code} {L L' : List (Nat × AV)} {h h' : Heap} {K : Ex → Env → Heap → Prop}
theorem wpL_frzR (t : Nat) {b o : Nat} {k : Blk} {us ds : List AV} (he : lk L t = .rp us o) (hb : h b = some k) (ho : k.st = .own) (hw : WkL (fun y => if y = b then some k.cells else none) us ds)
    (hL : setL t (.rp ds o) L = L') (hh : h.del b = h') (hk : wpL P cs (lk L') h' K) : wpL P cs (lk L) h K := by
  subst hL; subst hh
  refine wpL_freeze (e1 := lk (setL t (.rp ds o) L)) (h1 := h.del b) hb ho (fun i => ?_) (by simp [Heap.del]) (fun c kc' hc => ?_) hk
  · rw [lk_setL]
    simp only [put]
    split
    · subst_vars; rw [he]; exact .rp hw.get.1 hw.get.2
    · exact .refl _
  · simp only [Heap.del] at hc
    split at hc
    · cases hc
    · exact ⟨kc', hc, rfl, rfl, rfl, rfl, fun i x y h1 h2 => by rw [h1] at h2; cases h2; exact .refl _⟩
end
end Go.Proofs.YtchhknkflhikmaaDoor.Am

/- AM: calls that answer three blocks of their own. -/
namespace Go.Proofs.YtchhknkflhikmaaDoor.Am
set_option linter.unusedSectionVars false
open Go
set_option linter.unusedVariables false
set_option linter.unusedSimpArgs false
variable [Tab]

/-- What is answered is f of three blocks of its own. -/
def OwnF3 (f : Nat → Nat → Nat → AV) (c1 : List AV) (t1 : TypeId) (c2 : List AV) (t2 : TypeId) (c3 : List AV) (t3 : TypeId) (v : AV) (h : Heap) : Prop :=
  ∃ b1 b2 b3, v = f b1 b2 b3 ∧ NewIn ((Heap.emp.put b1 ⟨.own, c1, t1, []⟩).put b2 ⟨.own, c2, t2, []⟩) b3 ∧ NewIn (Heap.emp.put b1 ⟨.own, c1, t1, []⟩) b2 ∧
    h = ((Heap.emp.put b1 ⟨.own, c1, t1, []⟩).put b2 ⟨.own, c2, t2, []⟩).put b3 ⟨.own, c3, t3, []⟩
section
variable {P : Program} {all : Array Oper} {d : Option Nat} {fl : Bool} {its : List (Oper × Bool)} {e : Env} {h : Heap} {k : Env → Heap → Prop} {g : FuncId} {args args1 : List AV}
theorem gN_ownF3 {f c1 t1 c2 t2 c3 t3} (hw : wpH P g args Heap.emp (OwnF3 f c1 t1 c2 t2 c3 t3))
    (hk : ∀ b1 b2 b3, NewIn h b1 → NewIn (h.put b1 ⟨.own, c1, t1, []⟩) b2 → NewIn ((h.put b1 ⟨.own, c1, t1, []⟩).put b2 ⟨.own, c2, t2, []⟩) b3 →
      gO P all its (putd e d (f b1 b2 b3)) (((h.put b1 ⟨.own, c1, t1, []⟩).put b2 ⟨.own, c2, t2, []⟩).put b3 ⟨.own, c3, t3, []⟩) k) :
    gN P all d fl its e h k (.call g args) := by
  refine gN_callE (hw.mono ?_)
  rintro v h1 ⟨b1, b2, b3, rfl, hn3, hn2, rfl⟩ hh
  simp only [newIn_put, newIn_emp, and_true] at hn2 hn3
  have n1 : NewIn h b1 := NewIn.cat hh (b := b1) (k := ⟨.own, c1, t1, []⟩) (by simp only [put_at, hn2, hn3, if_true, if_false])
  have n2 : NewIn h b2 := NewIn.cat hh (b := b2) (k := ⟨.own, c2, t2, []⟩) (by simp only [put_at, hn2, hn3, if_true, if_false])
  have n3 : NewIn h b3 := NewIn.cat hh (b := b3) (k := ⟨.own, c3, t3, []⟩) (by simp only [put_at, if_true])
  simp only [cat_put, cat_emp]
  exact hk b1 b2 b3 n1 (by simp only [newIn_put, hn2, n2, and_self]) (by simp only [newIn_put, hn2, hn3, n3, and_self])
/-- The same of a function that is lent what stands here. -/
theorem gN_brwF3 {f c1 t1 c2 t2 c3 t3} (hb : WkArgs h.view args args1) (hw : wpH P g args1 Heap.emp (OwnF3 f c1 t1 c2 t2 c3 t3)) (hv : ∀ a b c, (f a b c).noI = true) (q1 : noIs c1 = true) (q2 : noIs c2 = true) (q3 : noIs c3 = true)
    (hk : ∀ b1 b2 b3, NewIn h b1 → NewIn (h.put b1 ⟨.own, c1, t1, []⟩) b2 → NewIn ((h.put b1 ⟨.own, c1, t1, []⟩).put b2 ⟨.own, c2, t2, []⟩) b3 →
      gO P all its (putd e d (f b1 b2 b3)) (((h.put b1 ⟨.own, c1, t1, []⟩).put b2 ⟨.own, c2, t2, []⟩).put b3 ⟨.own, c3, t3, []⟩) k) :
    gN P all d fl its e h k (.call g args) :=
  gN_callX (wpE_borrow hb (wpH.mono hw fun v' h1 ⟨b1, b2, b3, e1, hn3, hn2, e2⟩ => by
    subst e1; subst e2
    simp only [newIn_put, newIn_emp, and_true] at hn2 hn3
    refine ⟨hv b1 b2 b3, fun c' k' hb' => ?_, fun hh => ?_⟩
    · rw [put_at] at hb'
      split at hb'
      · cases hb'; exact ⟨rfl, q3⟩
      · rw [put_at] at hb'
        split at hb'
        · cases hb'; exact ⟨rfl, q2⟩
        · rw [put_at] at hb'
          split at hb'
          · cases hb'; exact ⟨rfl, q1⟩
          · cases hb'
    · have n1 : NewIn h b1 := NewIn.cat hh (b := b1) (k := ⟨.own, c1, t1, []⟩) (by simp only [put_at, hn2, hn3, if_true, if_false])
      have n2 : NewIn h b2 := NewIn.cat hh (b := b2) (k := ⟨.own, c2, t2, []⟩) (by simp only [put_at, hn2, hn3, if_true, if_false])
      have n3 : NewIn h b3 := NewIn.cat hh (b := b3) (k := ⟨.own, c3, t3, []⟩) (by simp only [put_at, if_true])
      simp only [cat_put, cat_emp]
      exact hk b1 b2 b3 n1 (by simp only [newIn_put, hn2, n2, and_self]) (by simp only [newIn_put, hn2, hn3, n3, and_self])))
end
theorem le3 {g : Heap} {a b c : Nat} {x y z : Blk} (h1 : g a = some x) (h2 : g b = some y) (h3 : g c = some z) : (((Heap.emp.put a x).put b y).put c z).le g := fun k kc hk => by
  simp only [put_at] at hk
  split at hk
  · subst_vars; rw [h3]; exact hk
  · split at hk
    · subst_vars; rw [h2]; exact hk
    · split at hk
      · subst_vars; rw [h1]; exact hk
      · cases hk
def delAll : List FrzB → Heap → Heap
  | [], h => h
  | x :: B, h => delAll B (h.del x.b)
theorem FrzOk.frzD : ∀ {B : List FrzB} {h : Heap} {v : AV}, FrzOk h B → Frz v h (frzAll B v) (delAll B h)
  | [], h, v, _ => .refl
  | x :: B, h, v, .cons hb ho he hn hB => .step hb ho (frzT_wk he v) (FrzOk.frzD (v := frzT x v) (FrzOk.del hn hB))
/-- Some of the blocks of what is answered are written no more. -/
theorem wpH_frzD {P : Program} {f args h} {K : AV → Heap → Prop} (hw : wpH P f args h fun v h' => ∃ B, FrzOk h' B ∧ K (frzAll B v) (delAll B h')) : wpH P f args h K :=
  wpH.frz (wpH.mono hw fun v h' ⟨B, h1, h2⟩ => ⟨_, _, h1.frzD, h2⟩)
attribute [go_sem] delAll
end Go.Proofs.YtchhknkflhikmaaDoor.Am
