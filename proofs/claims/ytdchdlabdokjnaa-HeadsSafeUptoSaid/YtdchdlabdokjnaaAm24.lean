/- AM: a nil slice within a block's cells, as an empty one of its own. -/
import Derived.Test.YtdchdlabdokjnaaAm23
namespace Go.Proofs.Ytdchdlabdokjnaa.Am
set_option linter.unusedSectionVars false
open Go
set_option linter.unusedVariables false
set_option linter.unusedSimpArgs false
variable [Tab]

theorem HR.cells {Pr : Nat → Prop} {m : Mem} {h : Heap} {a : Nat} {k k' : Blk} {cs : List AV} (R : HR Pr m h) (ha : h a = some k) (hk : m.blk a = some k') :
    HR Pr (m.put a { k' with cells := cs }) (h.upd a { k with cells := cs }) := by
  have na : ¬ Pr a := fun hp => by have := (R.pr a hp).1; rw [ha] at this; cases this
  have up : ∀ x, (h.upd a { k with cells := cs }) x = none ↔ h x = none := fun x => by
    simp only [Heap.upd]; split
    · subst_vars; simp [ha]
    · rfl
  have pm : ∀ x, (m.put a { k' with cells := cs }).blk x = none ↔ m.blk x = none := fun x => by
    rw [Mem.blk_put]; split
    · subst_vars; simp [hk]
    · rfl
  have cv : ∀ (anc1 anc2 : List Nat), (∀ x ∈ anc1, (x ∈ anc2 ∧ h x ≠ none) ∨ (h x = none ∧ ¬ Pr x ∧ m.blk x ≠ none)) →
      ∀ x ∈ anc1, (x ∈ anc2 ∧ (h.upd a { k with cells := cs }) x ≠ none) ∨ ((h.upd a { k with cells := cs }) x = none ∧ ¬ Pr x ∧ (m.put a { k' with cells := cs }).blk x ≠ none) := fun anc1 anc2 hx x hm => by
    rcases hx x hm with ⟨y1, y2⟩ | ⟨y1, y2, y3⟩
    · exact .inl ⟨y1, fun hn => y2 ((up x).1 hn)⟩
    · exact .inr ⟨(up x).2 y1, y2, fun hn => y3 ((pm x).1 hn)⟩
  refine ⟨fun b hb => ?_, fun b kb hb => ?_⟩
  · obtain ⟨q1, q2⟩ := R.pr b hb
    exact ⟨(up b).2 q1, fun hn => q2 ((pm b).1 hn)⟩
  · simp only [Heap.upd] at hb
    split at hb
    · rename_i he
      subst he
      cases hb
      obtain ⟨r1, k2, r2, r3, r4, r5, r6⟩ := R.rd b k ha
      rw [hk] at r2; cases r2
      exact ⟨r1, { k' with cells := cs }, by rw [Mem.blk_put, if_pos rfl], r3, rfl, r5, cv _ _ r6⟩
    · rename_i hne
      obtain ⟨r1, k2, r2, r3, r4, r5, r6⟩ := R.rd b kb hb
      exact ⟨r1, k2, by rw [Mem.blk_put, if_neg hne]; exact r2, r3, r4, r5, cv _ _ r6⟩

section
variable {P : Program} {cs : List Code} {e : Env} {h h' : Heap} {K : Ex → Env → Heap → Prop}
theorem wpL_vecC (a j : Nat) (s : Nat) (ty : TypeId) {k : Blk} (ha : h a = some k) (hj : k.cells[j]? = some .snil)
    (hk : ∀ b, NewIn h b → wpL P cs e ((h.upd a { k with cells := k.cells.set j (.sl b 0 0 s) }).put b ⟨.own, [], ty, []⟩) K) : wpL P cs e h K := fun m Pr R => by
  obtain ⟨r1, k', r2, r3, r4, r5, r6⟩ := R.rd a k ha
  have hb := m.fresh
  have hne : m.next ≠ a := by rintro hx; rw [hx, r2] at hb; cases hb
  have R1 := R.cells (cs := k.cells.set j (.sl m.next 0 0 s)) ha r2
  have hb1 : (m.put a { k' with cells := k.cells.set j (.sl m.next 0 0 s) }).blk m.next = none := by rw [Mem.blk_put, if_neg hne]; exact hb
  obtain ⟨x, e', m', h2, k1, k2, k3, k4⟩ := hk m.next (R.fresh hb) _ Pr (R1.put hb1 (k := ⟨.own, [], ty, []⟩) rfl rfl)
  refine ⟨x, e', m', h2, .weak ⟨⟨fun _ => none, fun c => c = m.next, fun b cs h => (nomatch h), fun c hc => ?_, fun i => .refl _, fun c kc hc hd => ?_⟩, fun c hc => ?_⟩ k1, k2, fun c hc => (k3 c hc).trans ?_, k4⟩
  · subst hc; exact ⟨hb, ty, by simp⟩
  · rw [Mem.blk_put] at hc
    split at hc
    · exact .inl (by assumption)
    · rw [Mem.blk_put] at hc
      split at hc
      · rename_i hca
        subst hca
        cases hc
        refine .inr ⟨k', r2, rfl, rfl, fun a ha => .inl ha, by rw [r4]; simp, fun i c d h1 h2 => ?_⟩
        rw [r4] at h1
        simp only [List.getElem?_set] at h2
        split at h2
        · rename_i hij
          subst hij
          rw [hj] at h1; cases h1
          split at h2
          · cases h2; exact .nil0 rfl
          · cases h2
        · rw [h1] at h2; cases h2; exact .refl _
      · exact .inr ⟨kc, hc, rfl, rfl, fun a ha => .inl ha, rfl, fun i c d h1 h2 => by rw [h1] at h2; cases h2; exact .refl _⟩
  · rw [Mem.blk_put] at hc
    split at hc
    · cases hc
    · rw [Mem.blk_put] at hc
      split at hc
      · cases hc
      · exact hc
  · have n1 : c ≠ m.next := by rintro rfl; exact absurd hb (R.pr _ hc).2
    have n2 : c ≠ a := by rintro rfl; have := (R.pr _ hc).1; rw [ha] at this; cases this
    rw [Mem.blk_put, if_neg n1, Mem.blk_put, if_neg n2]
end
end Go.Proofs.Ytdchdlabdokjnaa.Am
