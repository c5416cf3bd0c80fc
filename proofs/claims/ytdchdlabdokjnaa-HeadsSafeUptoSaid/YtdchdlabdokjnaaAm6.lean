/- AM: the memory that an abstract memory stands for; loads, new blocks, stores, appends. -/
import Derived.Test.YtdchdlabdokjnaaAm5
namespace Go.Proofs.Ytdchdlabdokjnaa.Am
set_option linter.unusedSectionVars false
open Go
open Go.RowKit (Below)
set_option linter.unusedVariables false
set_option linter.unusedSimpArgs false
variable [Tab]

structure Rel (P : Program) (B : Nat) (w0 : World) (ρ : Ren) (m : Mem) (w : World) : Prop where
  below : Below B w0 w
  size : B ≤ w.heap.size
  gl : GlOk P ρ
  dom : ∀ b, m.blk b = none → ρ b = none
  rd : ∀ b k, m.blk b = some k → k.st ≠ .dead → ∃ l vs, ρ b = some l ∧ VRs ρ k.cells vs ∧ ∀ (j : Nat) v, vs[j]? = some v → w.cell? ⟨l.blk, l.off + j, none⟩ = some v
  ro : ∀ b k l, m.blk b = some k → k.st = .ro → ρ b = some l → l.own = false ∧ l.blk < B
  own : ∀ b k l, m.blk b = some k → (k.st = .own ∨ k.st = .old) → ρ b = some l → l.own = true ∧ l.off + k.cells.length ≤ l.phys ∧ (0 < l.phys → B ≤ l.blk ∧
    ∃ cur fz, w.heap[l.blk]? = some (.cells cur k.ety fz) ∧ cur.size = l.phys ∧ ∀ o, o < l.phys → ¬ (fz.1 ≤ o ∧ o < fz.2))
  sep : ∀ b c kb kc lb lc, m.blk b = some kb → m.blk c = some kc → ρ b = some lb → ρ c = some lc → kc.st = .own → (kb.st = .own ∨ kb.st = .old) → b ≠ c → 0 < lb.phys → 0 < lc.phys → lb.blk = lc.blk →
    kb.st = .old ∧ b ∈ kc.anc ∧ lb.off + kb.cells.length ≤ lc.off + kc.cells.length
  imm : ∀ a o v, ρ.imm a o = some v → w.cell? ⟨a, o, none⟩ = some v ∧ ∀ b k l, m.blk b = some k → k.st = .own → ρ b = some l → 0 < l.phys → l.blk ≠ a

theorem cellsAt_lt {w : World} {b j : Nat} {v} (h : w.cell? ⟨b, j, none⟩ = some v) : b < w.heap.size := World.block_lt_of_cell? (w := w) (a := ⟨b, j, none⟩) h

/-- A world of the same memory. -/
structure Same (w w' : World) : Prop where
  heap : w'.heap = w.heap
  os : w'.os = w.os
  tape : w'.tape = w.tape
  output : w'.output = w.output
theorem Same.refl (w : World) : Same w w := ⟨rfl, rfl, rfl, rfl⟩
theorem Same.cell {w w' : World} (h : Same w w') (a : Addr) : w'.cell? a = w.cell? a := by simp [World.cell?, h.heap]
theorem Same.below {B w0 w w'} (h : Same w w') (k : Below B w0 w) : Below B w0 w' :=
  ⟨h.os.trans k.os, h.tape.trans k.tape, h.output.trans k.output, by rw [h.heap]; exact k.size, fun i hi => by rw [h.heap]; exact k.block i hi⟩
theorem Rel.same {P B w0 ρ m w w'} (R : Rel P B w0 ρ m w) (h : Same w w') : Rel P B w0 ρ m w' := by
  refine ⟨h.below R.below, by rw [h.heap]; exact R.size, R.gl, R.dom, fun b k hb hd => ?_, R.ro, fun b k l hb hs hl => ?_, R.sep, fun a o v hv => ⟨by rw [h.cell]; exact (R.imm a o v hv).1, (R.imm a o v hv).2⟩⟩
  · obtain ⟨l, vs, h1, h2, h3⟩ := R.rd b k hb hd
    exact ⟨l, vs, h1, h2, fun j v hv => by rw [h.cell]; exact h3 j v hv⟩
  · obtain ⟨h1, h2, h3⟩ := R.own b k l hb hs hl
    refine ⟨h1, h2, fun hp => ?_⟩
    obtain ⟨h3, cur, fz, h4, h5⟩ := h3 hp
    exact ⟨h3, cur, fz, by rw [h.heap]; exact h4, h5⟩

def upd (ρ : Ren) (b : Nat) (l : Loc) : Ren := ⟨fun x => if x = b then some l else ρ x, ρ.imm⟩
theorem upd_mono {ρ : Ren} {b l} (h : ρ b = none) : Sub ρ (upd ρ b l) := ⟨fun x l' hx => by
  simp only [upd]; rw [if_neg (by rintro rfl; simp [h] at hx)]; exact hx, fun _ _ _ h => h⟩
@[simp] theorem upd_self {ρ : Ren} {b l} : upd ρ b l b = some l := by simp [upd]
theorem upd_ne {ρ : Ren} {b l x} (h : x ≠ b) : upd ρ b l x = ρ x := by simp [upd, h]

/-- The world with one block more. -/
structure Pushed (w w' : World) (o : Obj) : Prop where
  heap : w'.heap = w.heap.push o
  os : w'.os = w.os
  tape : w'.tape = w.tape
  output : w'.output = w.output
theorem Pushed.alloc (w : World) (o : Obj) : Pushed w (w.alloc o) o := ⟨rfl, rfl, rfl, rfl⟩
theorem Pushed.drew {w : World} {w' o} (h : Pushed w.drew w' o) : Pushed w w' o := ⟨h.heap, h.os, h.tape, h.output⟩
theorem Pushed.old {w w' o} (h : Pushed w w' o) {i : Nat} (hi : i < w.heap.size) : w'.heap[i]? = w.heap[i]? := by
  rw [h.heap, Array.getElem?_push, if_neg (by omega)]
theorem Pushed.new {w w' o} (h : Pushed w w' o) : w'.heap[w.heap.size]? = some o := by
  rw [h.heap, Array.getElem?_push, if_pos rfl]
theorem Pushed.cell {w w' o} (h : Pushed w w' o) {a : Addr} {v} (hc : w.cell? a = some v) : w'.cell? a = some v :=
  (World.cell?_of_block (w := w) (h.old (World.block_lt_of_cell? w a hc))).trans hc
theorem Pushed.below {B w0 w w' o} (h : Pushed w w' o) (k : Below B w0 w) (hB : B ≤ w.heap.size) : Below B w0 w' :=
  ⟨h.os.trans k.os, h.tape.trans k.tape, h.output.trans k.output, by rw [h.heap, Array.size_push]; have := k.size; omega, fun i hi => (h.old (by omega)).trans (k.block i hi)⟩

theorem Rel.loc_of {P B w0 ρ m w b k} (R : Rel P B w0 ρ m w) (hb : m.blk b = some k) (hd : k.st ≠ .dead) : ∃ l, ρ b = some l := by
  obtain ⟨l, _, h, _⟩ := R.rd b k hb hd; exact ⟨l, h⟩

theorem Rel.blk_lt {P B w0 ρ m w b k l} (R : Rel P B w0 ρ m w) (hb : m.blk b = some k) (hs : k.st = .own ∨ k.st = .old) (hl : ρ b = some l) (hp : 0 < l.phys) : l.blk < w.heap.size := by
  obtain ⟨_, _, h⟩ := R.own b k l hb hs hl
  obtain ⟨_, cur, fz, h, _⟩ := h hp
  exact (Array.getElem?_eq_some_iff.1 h).1

/-- A block more. -/
theorem Rel.alloc {P B w0 ρ m w w' b cells ety anc} {cur : Array Value} {fz : Nat × Nat} {vs : List Value} (R : Rel P B w0 ρ m w) (hb : m.blk b = none)
    (hw : Pushed w w' (.cells cur ety fz)) (hvs : VRs ρ cells vs) (hcur : ∀ (j : Nat) v, vs[j]? = some v → cur[j]? = some v) (hlen : cells.length ≤ cur.size)
    (hfz : ∀ o, o < cur.size → ¬ (fz.1 ≤ o ∧ o < fz.2)) : Rel P B w0 (upd ρ b ⟨w.heap.size, 0, cur.size, true⟩) (m.put b ⟨.own, cells, ety, anc⟩) w' := by
  have hρ := R.dom b hb
  have mono := upd_mono (l := ⟨w.heap.size, 0, cur.size, true⟩) hρ
  refine ⟨hw.below R.below R.size, by rw [hw.heap, Array.size_push]; have := R.size; omega, ?_, ?_, ?_, ?_, ?_, ?_, ?_⟩
  · exact R.gl.mono mono
  · intro x hx
    rw [Mem.blk_put] at hx
    split at hx
    · simp at hx
    · rw [upd_ne (by assumption)]; exact R.dom x hx
  · intro x k hx hd
    rw [Mem.blk_put] at hx
    split at hx
    · subst_vars
      simp at hx; subst hx
      refine ⟨_, vs, upd_self, hvs.mono mono, fun j v hv => ?_⟩
      rw [cell_of_row w' _ _ cur ety fz hw.new]
      simpa using hcur j v hv
    · obtain ⟨l, us, h1, h2, h3⟩ := R.rd x k hx hd
      exact ⟨l, us, mono.1 _ _ h1, h2.mono mono, fun j v hv => hw.cell (h3 j v hv)⟩
  · intro x k l hx hs hl
    rw [Mem.blk_put] at hx
    split at hx
    · simp at hx; subst hx; simp at hs
    · rw [upd_ne (by assumption)] at hl
      exact R.ro x k l hx hs hl
  · intro x k l hx hs hl
    rw [Mem.blk_put] at hx
    split at hx
    · subst_vars
      simp at hx; subst hx
      rw [upd_self] at hl
      simp at hl; subst hl
      exact ⟨rfl, by simpa using hlen, fun _ => ⟨R.size, cur, fz, hw.new, rfl, hfz⟩⟩
    · rw [upd_ne (by assumption)] at hl
      obtain ⟨h1, h3, h2⟩ := R.own x k l hx hs hl
      refine ⟨h1, h3, fun hp => ?_⟩
      obtain ⟨h2, c2, f2, h4, h5⟩ := h2 hp
      exact ⟨h2, c2, f2, (hw.old (R.blk_lt hx hs hl hp)).trans h4, h5⟩
  · intro x c kb kc lb lc hx hc hlx hlc hsc hsx hne hpb hpc hblk
    rw [Mem.blk_put] at hx hc
    by_cases hcb : c = b
    · rw [if_pos hcb] at hc
      subst hcb
      rw [if_neg hne] at hx
      rw [upd_ne hne] at hlx
      rw [upd_self] at hlc
      simp at hlc; subst hlc
      have := R.blk_lt hx hsx hlx hpb
      simp at hblk; omega
    · rw [if_neg hcb] at hc
      rw [upd_ne hcb] at hlc
      by_cases hxb : x = b
      · subst hxb
        rw [upd_self] at hlx
        simp at hlx; subst hlx
        have := R.blk_lt hc (.inl hsc) hlc hpc
        simp at hblk; omega
      · rw [if_neg hxb] at hx
        rw [upd_ne hxb] at hlx
        exact R.sep x c kb kc lb lc hx hc hlx hlc hsc hsx hne hpb hpc hblk
  · intro a o v hv
    obtain ⟨h1, h2⟩ := R.imm a o v hv
    refine ⟨hw.cell h1, fun x k l hx hs hl hp => ?_⟩
    rw [Mem.blk_put] at hx
    split at hx
    · subst_vars
      rw [upd_self] at hl
      simp at hl; subst hl
      have := cellsAt_lt h1
      simp; omega
    · rw [upd_ne (by assumption)] at hl
      exact h2 x k l hx hs hl hp

/-- A block of no cells, which lies nowhere. -/
theorem Rel.ghost {P B w0 ρ m w b ety} (R : Rel P B w0 ρ m w) (hb : m.blk b = none) : Rel P B w0 (upd ρ b ⟨0, 0, 0, true⟩) (m.put b ⟨.own, [], ety, []⟩) w := by
  have hρ := R.dom b hb
  have mono := upd_mono (l := ⟨0, 0, 0, true⟩) hρ
  refine ⟨R.below, R.size, R.gl.mono mono, ?_, ?_, ?_, ?_, ?_, ?_⟩
  · intro x hx
    rw [Mem.blk_put] at hx
    split at hx
    · simp at hx
    · rw [upd_ne (by assumption)]; exact R.dom x hx
  · intro x k hx hd
    rw [Mem.blk_put] at hx
    split at hx
    · subst_vars
      simp at hx; subst hx
      exact ⟨_, [], upd_self, VRs.nil, fun j v hv => by simp at hv⟩
    · obtain ⟨l, us, h1, h2, h3⟩ := R.rd x k hx hd
      exact ⟨l, us, mono.1 _ _ h1, h2.mono mono, h3⟩
  · intro x k l hx hs hl
    rw [Mem.blk_put] at hx
    split at hx
    · simp at hx; subst hx; simp at hs
    · rw [upd_ne (by assumption)] at hl
      exact R.ro x k l hx hs hl
  · intro x k l hx hs hl
    rw [Mem.blk_put] at hx
    split at hx
    · subst_vars
      simp at hx; subst hx
      rw [upd_self] at hl
      simp at hl; subst hl
      exact ⟨rfl, by simp, fun h => by simp at h⟩
    · rw [upd_ne (by assumption)] at hl
      exact R.own x k l hx hs hl
  · intro x c kb kc lb lc hx hc hlx hlc hsc hsx hne hpb hpc hblk
    rw [Mem.blk_put] at hx hc
    by_cases hcb : c = b
    · subst hcb
      rw [upd_self] at hlc
      simp at hlc; subst hlc; simp at hpc
    · rw [if_neg hcb] at hc
      rw [upd_ne hcb] at hlc
      by_cases hxb : x = b
      · subst hxb
        rw [upd_self] at hlx
        simp at hlx; subst hlx; simp at hpb
      · rw [if_neg hxb] at hx
        rw [upd_ne hxb] at hlx
        exact R.sep x c kb kc lb lc hx hc hlx hlc hsc hsx hne hpb hpc hblk
  · intro a o v hv
    obtain ⟨h1, h2⟩ := R.imm a o v hv
    refine ⟨h1, fun x k l hx hs hl hp => ?_⟩
    rw [Mem.blk_put] at hx
    split at hx
    · subst_vars
      rw [upd_self] at hl
      simp at hl; subst hl; simp at hp
    · rw [upd_ne (by assumption)] at hl
      exact h2 x k l hx hs hl hp

/-- A block is not written any more. -/
theorem Rel.oldify {P B w0 ρ m w b k} (R : Rel P B w0 ρ m w) (hb : m.blk b = some k) (hs : k.st = .own) : Rel P B w0 ρ (m.put b { k with st := .old }) w := by
  refine ⟨R.below, R.size, R.gl, ?_, ?_, ?_, ?_, ?_, ?_⟩
  · intro x hx
    rw [Mem.blk_put] at hx
    split at hx
    · simp at hx
    · exact R.dom x hx
  · intro x kx hx hd
    rw [Mem.blk_put] at hx
    split at hx
    · subst_vars; simp at hx; subst hx
      exact R.rd _ k hb (by rw [hs]; decide)
    · exact R.rd x kx hx hd
  · intro x kx l hx hsx hl
    rw [Mem.blk_put] at hx
    split at hx
    · simp at hx; subst hx; simp at hsx
    · exact R.ro x kx l hx hsx hl
  · intro x kx l hx hsx hl
    rw [Mem.blk_put] at hx
    split at hx
    · subst_vars; simp at hx; subst hx
      exact R.own _ k l hb (.inl hs) hl
    · exact R.own x kx l hx hsx hl
  · intro x c kb kc lb lc hx hc hlx hlc hsc hsx hne hpb hpc hblk
    rw [Mem.blk_put] at hx hc
    by_cases hcb : c = b
    · rw [if_pos hcb] at hc
      simp at hc; subst hc; simp at hsc
    · rw [if_neg hcb] at hc
      by_cases hxb : x = b
      · subst hxb
        have := R.sep x c k kc lb lc hb hc hlx hlc hsc (.inl hs) hne hpb hpc hblk
        rw [hs] at this
        simp at this
      · rw [if_neg hxb] at hx
        exact R.sep x c kb kc lb lc hx hc hlx hlc hsc hsx hne hpb hpc hblk
  · intro a o v hv
    obtain ⟨h1, h2⟩ := R.imm a o v hv
    refine ⟨h1, fun x kx l hx hsx hl hp => ?_⟩
    rw [Mem.blk_put] at hx
    split at hx
    · simp at hx; subst hx; simp at hsx
    · exact h2 x kx l hx hsx hl hp

/-! ### Cells written -/

/-- The world with the cells from p on of block b written. -/
structure Wrote (w w' : World) (b p : Nat) (vs : List Value) : Prop where
  size : w'.heap.size = w.heap.size
  os : w'.os = w.os
  tape : w'.tape = w.tape
  output : w'.output = w.output
  other : ∀ g, g ≠ b → w'.heap[g]? = w.heap[g]?
  row : ∀ cur t fz, w.heap[b]? = some (.cells cur t fz) → p + vs.length ≤ cur.size → ∃ cur', w'.heap[b]? = some (.cells cur' t fz) ∧ cur'.size = cur.size ∧
    ∀ x : Nat, cur'[x]? = if p ≤ x ∧ x < p + vs.length then vs[x - p]? else cur[x]?

theorem setCells_wrote (b : Nat) : ∀ (vs : List Value) (p : Nat) (w : World), Wrote w (w.setCells b p vs) b p vs
  | [], p, w => ⟨rfl, rfl, rfl, rfl, fun _ _ => rfl, fun cur t fz h _ => ⟨cur, h, rfl, fun x => by rw [if_neg (by simp)]⟩⟩
  | v :: vs, p, w => by
    have ih := setCells_wrote b vs (p + 1) (w.setCell ⟨b, p, none⟩ v)
    refine ⟨ih.size.trans (by simp [World.setCell]), ih.os.trans rfl, ih.tape.trans rfl, ih.output.trans rfl, fun g hg => (ih.other g hg).trans ?_, fun cur t fz h hle => ?_⟩
    · exact Go.RowKit.Below.heap_setCell w ⟨b, p, none⟩ v g hg
    · simp only [List.length_cons] at hle
      have h1 : (w.setCell ⟨b, p, none⟩ v).heap[b]? = some (.cells (cur.setIfInBounds p v) t fz) := by
        simp [World.setCell, Array.getElem?_modify, h]
      obtain ⟨cur', h2, h3, h4⟩ := ih.row _ t fz h1 (by simp; omega)
      refine ⟨cur', h2, by simpa using h3, fun x => ?_⟩
      rw [h4 x]
      by_cases hx : x = p
      · subst hx
        rw [if_neg (by omega), if_pos (by simp)]
        simp [Array.getElem?_setIfInBounds, show x < cur.size by omega]
      · by_cases hx2 : p + 1 ≤ x ∧ x < p + 1 + vs.length
        · rw [if_pos hx2, if_pos (by simp; omega)]
          rw [show x - p = (x - (p + 1)) + 1 by omega, List.getElem?_cons_succ]
        · rw [if_neg hx2, if_neg (by simp; omega)]
          rw [Array.getElem?_setIfInBounds, if_neg (by omega)]

theorem Wrote.below {B w0 w w' b p vs} (h : Wrote w w' b p vs) (k : Below B w0 w) (hb : B ≤ b) : Below B w0 w' :=
  ⟨h.os.trans k.os, h.tape.trans k.tape, h.output.trans k.output, by rw [h.size]; exact k.size, fun i hi => (h.other i (by omega)).trans (k.block i hi)⟩

theorem frozen_false {w : World} {b o : Nat} {cur t fz} (h : w.heap[b]? = some (.cells cur t fz)) (hf : ¬ (fz.1 ≤ o ∧ o < fz.2)) : w.frozen? ⟨b, o, none⟩ = false := by
  simp only [World.frozen?, h]
  cases hh : (decide (fz.1 ≤ o) && decide (o < fz.2)) with
  | false => rfl
  | true => simp at hh; exact absurd hh hf

theorem run_storeCells {P : Program} {w : World} {b o : Nat} {cur t fz} {vs : List Value} (h : w.heap[b]? = some (.cells cur t fz)) (hle : o + vs.length ≤ cur.size)
    (hf : ∀ x, x < cur.size → ¬ (fz.1 ≤ x ∧ x < fz.2)) (h1 : ∀ v ∈ vs, v.oneCell' = true) : (storeCells ⟨b, o, none⟩ vs).run P w = .ok () (w.setCells b o vs) := by
  have := run_storeCells_cells (P := P) b o vs 0 w (fun j hj => by
      rw [cell_of_row w _ _ cur t fz h]; simp; omega) (fun j hj => frozen_false h (hf _ (by omega))) h1
  simpa using this

theorem VRs.oneCells {ρ : Ren} {cs vs} (h : VRs ρ cs vs) (hl : cs.all AV.leaf = true) : ∀ v ∈ vs, v.oneCell' = true := by
  intro v hv
  obtain ⟨i, hi, rfl⟩ := List.getElem_of_mem hv
  have hlt : i < cs.length := by have := h.1; omega
  have hc := h.2 i cs[i] vs[i] (List.getElem?_eq_getElem hlt) (List.getElem?_eq_getElem hi)
  exact hc.oneCell (by rw [List.all_eq_true] at hl; exact hl _ (List.getElem_mem hlt))

theorem kill_blk (m : Mem) : ∀ (bs : List Nat) (x : Nat), (m.kill bs).blk x = match m.blk x with
    | none => none
    | some k => if k.st = .old ∧ x ∈ bs then some { k with st := .dead } else some k := by
  intro bs
  induction bs generalizing m with
  | nil => intro x; simp [Mem.kill]; cases m.blk x <;> rfl
  | cons b bs ih =>
    intro x
    simp only [Mem.kill]
    cases hb : m.blk b with
    | none =>
      simp only [ih]
      cases hx : m.blk x with
      | none => rfl
      | some k =>
        have hne : x ≠ b := by rintro rfl; simp [hb] at hx
        simp [hne]
    | some kb =>
      simp only
      split
      · rename_i hold
        rw [ih, Mem.blk_put]
        by_cases hx : x = b
        · subst hx
          simp [hb, hold]
        · simp only [if_neg hx]
          cases m.blk x <;> simp [hx]
      · rename_i hold
        rw [ih]
        cases hx : m.blk x with
        | none => rfl
        | some k =>
          by_cases hxb : x = b
          · subst hxb
            rw [hb] at hx; simp at hx; subst hx
            simp [hold]
          · simp [hxb]

/-- Cells of a block of the run's own written: what shared them is not read any more. -/
theorem Rel.store {P B w0 ρ m w w' b k l o cs vs} (R : Rel P B w0 ρ m w) (hb : m.blk b = some k) (hs : k.st = .own) (hl : ρ b = some l) (hvs : VRs ρ cs vs) (hcp : 0 < cs.length)
    (hle : o + cs.length ≤ k.cells.length) (hw : Wrote w w' l.blk (l.off + o) vs) : Rel P B w0 ρ (storeIn m b k o cs) w' := by
  obtain ⟨ho1, ho3, ho2⟩ := R.own b k l hb (.inl hs) hl
  have hpl : 0 < l.phys := by omega
  obtain ⟨ho2, cur, fz, ho4, ho5, ho6⟩ := ho2 hpl
  have hvl : vs.length = cs.length := hvs.1.symm
  obtain ⟨cur', hc1, hc2, hc3⟩ := hw.row cur k.ety fz ho4 (by omega)
  have hblk : ∀ x kx, (storeIn m b k o cs).blk x = some kx → kx.st ≠ .dead →
      (x = b ∧ kx = { k with cells := k.cells.take o ++ cs ++ k.cells.drop (o + cs.length), anc := [] }) ∨ (x ≠ b ∧ m.blk x = some kx ∧ ¬ (kx.st = .old ∧ x ∈ k.anc)) := by
    intro x kx hx hd
    unfold storeIn at hx
    rw [kill_blk, Mem.blk_put] at hx
    by_cases hxb : x = b
    · rw [if_pos hxb] at hx
      simp only at hx
      rw [if_neg (by rw [hs]; simp)] at hx
      simp only [Option.some.injEq] at hx
      exact .inl ⟨hxb, hx.symm⟩
    · rw [if_neg hxb] at hx
      cases hm : m.blk x with
      | none => simp [hm] at hx
      | some k2 =>
        simp only [hm] at hx
        split at hx
        · simp at hx; subst hx; simp at hd
        · simp at hx; subst hx
          exact .inr ⟨hxb, rfl, by assumption⟩
  -- another block that is still read shares no cell
  have apart : ∀ x kx lx, x ≠ b → m.blk x = some kx → ¬ (kx.st = .old ∧ x ∈ k.anc) → (kx.st = .own ∨ kx.st = .old) → ρ x = some lx → 0 < lx.phys → lx.blk ≠ l.blk := by
    intro x kx lx hne hx hnk hsx hlx hpx he
    obtain ⟨h1, h2, _⟩ := R.sep x b kx k lx l hx hb hlx hl hs hsx hne hpx hpl he
    exact hnk ⟨h1, h2⟩
  refine ⟨hw.below R.below ho2, by rw [hw.size]; exact R.size, R.gl, fun x hx => R.dom x ((storeIn_none hb).1 hx), ?_, ?_, ?_, ?_, ?_⟩
  · intro x kx hx hd
    rcases hblk x kx hx hd with ⟨rfl, rfl⟩ | ⟨hne, hx, hnk⟩
    · obtain ⟨l', us, h1, h2, h3⟩ := R.rd x k hb (by rw [hs]; decide)
      rw [hl] at h1; simp at h1; subst h1
      refine ⟨l, us.take o ++ vs ++ us.drop (o + cs.length), hl, (((h2.take o).append hvs).append (h2.drop _)), fun j v hv => ?_⟩
      rw [cell_of_row w' _ _ cur' k.ety fz hc1, hc3]
      have hul : us.length = k.cells.length := h2.1.symm
      have hold : ∀ v, us[j]? = some v → cur[l.off + j]? = some v := fun v hv => by
        have := h3 j v hv
        rwa [cell_of_row w _ _ cur k.ety fz ho4] at this
      by_cases hj1 : j < o
      · rw [if_neg (by omega)]
        rw [List.append_assoc, List.getElem?_append_left (by simp; omega), List.getElem?_take, if_pos hj1] at hv
        exact hold v hv
      · by_cases hj2 : j < o + cs.length
        · rw [if_pos (by omega)]
          rw [List.append_assoc, List.getElem?_append_right (by simp; omega), List.getElem?_append_left (by simp; omega)] at hv
          rw [show l.off + j - (l.off + o) = j - (us.take o).length by simp; omega]
          exact hv
        · rw [if_neg (by omega)]
          rw [List.append_assoc, List.getElem?_append_right (by simp; omega), List.getElem?_append_right (by simp; omega), List.getElem?_drop] at hv
          apply hold
          rw [← hv]
          congr 1
          simp; omega
    · obtain ⟨lx, us, h1, h2, h3⟩ := R.rd x kx hx hd
      refine ⟨lx, us, h1, h2, fun j v hv => ?_⟩
      have hcell := h3 j v hv
      have hjl : j < us.length := (List.getElem?_eq_some_iff.1 hv).1
      have hul := h2.1
      have hpx : (kx.st = .own ∨ kx.st = .old) → 0 < lx.phys := fun hsx => by have := (R.own x kx lx hx hsx h1).2.1; omega
      have hnb : lx.blk ≠ l.blk := by
        cases hst : kx.st with
        | ro => have := (R.ro x kx lx hx hst h1).2; omega
        | own => exact apart x kx lx hne hx hnk (.inl hst) h1 (hpx (.inl hst))
        | old => exact apart x kx lx hne hx hnk (.inr hst) h1 (hpx (.inr hst))
        | dead => exact absurd hst hd
      exact (World.cell?_of_block (w := w) (a := ⟨lx.blk, lx.off + j, none⟩) (hw.other _ hnb)).trans hcell
  · intro x kx lx hx hsx hlx
    rcases hblk x kx hx (by rw [hsx]; decide) with ⟨rfl, rfl⟩ | ⟨hne, hx, hnk⟩
    · simp [hs] at hsx
    · exact R.ro x kx lx hx hsx hlx
  · intro x kx lx hx hsx hlx
    rcases hblk x kx hx (by rcases hsx with h | h <;> rw [h] <;> decide) with ⟨rfl, rfl⟩ | ⟨hne, hx, hnk⟩
    · rw [hl] at hlx; simp at hlx; subst hlx
      refine ⟨ho1, ?_, fun _ => ⟨ho2, cur', fz, hc1, hc2.trans ho5, ho6⟩⟩
      simp only [List.length_append, List.length_take, List.length_drop]
      omega
    · obtain ⟨h1, h3, h2⟩ := R.own x kx lx hx hsx hlx
      refine ⟨h1, h3, fun hp => ?_⟩
      obtain ⟨h2, c2, f2, h4, h5⟩ := h2 hp
      exact ⟨h2, c2, f2, (hw.other _ (apart x kx lx hne hx hnk hsx hlx hp)).trans h4, h5⟩
  · intro x c kb kc lb lc hx hc hlx hlc hsc hsx hne hpb hpc hblk'
    rcases hblk x kb hx (by rcases hsx with h | h <;> rw [h] <;> decide) with ⟨hxb, hkx⟩ | ⟨hxb, hx', hnx⟩
    · rcases hblk c kc hc (by rw [hsc]; decide) with ⟨hcb, hkc⟩ | ⟨hcb, hc', hnc⟩
      · exact absurd (hxb.trans hcb.symm) hne
      · subst hxb
        rw [hl] at hlx; simp at hlx; subst hlx
        exact absurd hblk'.symm (apart c kc lc hcb hc' hnc (.inl hsc) hlc hpc)
    · rcases hblk c kc hc (by rw [hsc]; decide) with ⟨hcb, hkc⟩ | ⟨hcb, hc', hnc⟩
      · subst hcb
        rw [hl] at hlc; simp at hlc; subst hlc
        exact absurd hblk' (apart x kb lb hxb hx' hnx hsx hlx hpb)
      · exact R.sep x c kb kc lb lc hx' hc' hlx hlc hsc hsx hne hpb hpc hblk'
  · intro a o' v hv
    obtain ⟨h1, h2⟩ := R.imm a o' v hv
    have hne := h2 b k l hb hs hl hpl
    refine ⟨(World.cell?_of_block (w := w) (a := ⟨a, o', none⟩) (hw.other _ (Ne.symm hne))).trans h1, fun x kx lx hx hsx hlx hp => ?_⟩
    rcases hblk x kx hx (by rw [hsx]; decide) with ⟨rfl, rfl⟩ | ⟨hxb, hx', hnk⟩
    · rw [hl] at hlx; simp at hlx; subst hlx; exact hne
    · exact h2 x kx lx hx' hsx hlx hp

/-- An append in place. -/
theorem Rel.appendIn {P B w0 ρ m w w' b b' k l o news vs} (R : Rel P B w0 ρ m w) (hb : m.blk b = some k) (hs : k.st = .own) (hl : ρ b = some l) (hb' : m.blk b' = none) (hvs : VRs ρ news vs)
    (ho : o ≤ k.cells.length) (hroom : l.off + k.cells.length + news.length ≤ l.phys) (hnp : 0 < news.length) (hw : Wrote w w' l.blk (l.off + k.cells.length) vs) :
    Rel P B w0 (upd ρ b' ⟨l.blk, l.off + o, l.phys, true⟩) ((m.put b { k with st := .old }).put b' ⟨.own, k.cells.drop o ++ news, k.ety, b :: k.anc⟩) w' := by
  obtain ⟨ho1, ho3, ho2⟩ := R.own b k l hb (.inl hs) hl
  have hpl : 0 < l.phys := by omega
  obtain ⟨ho2, cur, fz, ho4, ho5, ho6⟩ := ho2 hpl
  have hvl : vs.length = news.length := hvs.1.symm
  obtain ⟨cur', hc1, hc2, hc3⟩ := hw.row cur k.ety fz ho4 (by omega)
  have hne : b ≠ b' := by rintro rfl; simp [hb'] at hb
  have hρ := R.dom b' hb'
  have mono := upd_mono (l := ⟨l.blk, l.off + o, l.phys, true⟩) hρ
  -- what is read stays as it was
  have keep : ∀ x kx lx (us : List Value), m.blk x = some kx → kx.st ≠ .dead → ρ x = some lx → us.length = kx.cells.length → (∀ (j : Nat) v, us[j]? = some v → w.cell? ⟨lx.blk, lx.off + j, none⟩ = some v) →
      ∀ (j : Nat) v, us[j]? = some v → w'.cell? ⟨lx.blk, lx.off + j, none⟩ = some v := by
    intro x kx lx us hx hd hlx hul h3 j v hv
    have hcell := h3 j v hv
    by_cases hblk : lx.blk = l.blk
    · have hj : j < us.length := by
        by_cases hh : j < us.length
        · exact hh
        · simp [List.getElem?_eq_none (by omega : us.length ≤ j)] at hv
      have hend : lx.off + kx.cells.length ≤ l.off + k.cells.length := by
        by_cases hxb : x = b
        · subst hxb; rw [hl] at hlx; rw [hb] at hx; simp at hlx hx; subst hlx; subst hx; omega
        · have hsx : kx.st = .own ∨ kx.st = .old := by
            cases hst : kx.st with
            | ro => have := (R.ro x kx lx hx hst hlx).2; omega
            | own => exact .inl rfl
            | old => exact .inr rfl
            | dead => exact absurd hst hd
          have hpx : 0 < lx.phys := by have := (R.own x kx lx hx hsx hlx).2.1; omega
          exact (R.sep x b kx k lx l hx hb hlx hl hs hsx hxb hpx hpl hblk).2.2
      rw [hblk] at hcell ⊢
      rw [cell_of_row w _ _ cur k.ety fz ho4] at hcell
      rw [cell_of_row w' _ _ cur' k.ety fz hc1, hc3, if_neg (by omega)]
      exact hcell
    · exact (World.cell?_of_block (w := w) (a := ⟨lx.blk, lx.off + j, none⟩) (hw.other _ hblk)).trans hcell
  have R2 := R.oldify hb hs
  refine ⟨hw.below R.below ho2, by rw [hw.size]; exact R.size, ?_, ?_, ?_, ?_, ?_, ?_, ?_⟩
  · exact R.gl.mono mono
  · intro x hx
    rw [Mem.blk_put] at hx
    split at hx
    · simp at hx
    · rw [upd_ne (by assumption)]; exact R2.dom x hx
  · intro x kx hx hd
    rw [Mem.blk_put] at hx
    split at hx
    · subst_vars
      simp at hx; subst hx
      obtain ⟨l', us, h1, h2, h3⟩ := R.rd b k hb (by rw [hs]; decide)
      rw [hl] at h1; simp at h1; subst h1
      have hul : us.length = k.cells.length := h2.1.symm
      refine ⟨_, us.drop o ++ vs, upd_self, ((h2.drop o).append hvs).mono mono, fun j v hv => ?_⟩
      simp only
      by_cases hj : j < k.cells.length - o
      · rw [List.getElem?_append_left (by simp; omega), List.getElem?_drop] at hv
        have := keep b k l us hb (by rw [hs]; decide) hl hul h3 (o + j) v hv
        rwa [show l.off + o + j = l.off + (o + j) by omega]
      · rw [List.getElem?_append_right (by simp; omega)] at hv
        rw [cell_of_row w' _ _ cur' k.ety fz hc1, hc3]
        simp only [List.length_drop] at hv
        have hjv : j - (us.length - o) < vs.length := by
          by_cases hh : j - (us.length - o) < vs.length
          · exact hh
          · simp [List.getElem?_eq_none (by omega : vs.length ≤ j - (us.length - o))] at hv
        rw [if_pos (by omega), ← hv]
        congr 1
        omega
    · rw [Mem.blk_put] at hx
      split at hx
      · subst_vars
        simp at hx; subst hx
        obtain ⟨l', us, h1, h2, h3⟩ := R.rd _ k hb (by rw [hs]; decide)
        exact ⟨l', us, mono.1 _ _ h1, h2.mono mono, keep _ k l' us hb (by rw [hs]; decide) h1 h2.1.symm h3⟩
      · obtain ⟨l', us, h1, h2, h3⟩ := R.rd x kx hx hd
        exact ⟨l', us, mono.1 _ _ h1, h2.mono mono, keep x kx l' us hx hd h1 h2.1.symm h3⟩
  · intro x kx lx hx hsx hlx
    rw [Mem.blk_put] at hx
    split at hx
    · simp at hx; subst hx; simp at hsx
    · rw [upd_ne (by assumption)] at hlx
      exact R2.ro x kx lx hx hsx hlx
  · intro x kx lx hx hsx hlx
    rw [Mem.blk_put] at hx
    split at hx
    · subst_vars
      simp at hx; subst hx
      rw [upd_self] at hlx
      simp at hlx; subst hlx
      refine ⟨rfl, ?_, fun _ => ⟨ho2, cur', fz, hc1, hc2.trans ho5, ho6⟩⟩
      simp; omega
    · rw [upd_ne (by assumption)] at hlx
      obtain ⟨h1, h3, h2⟩ := R2.own x kx lx hx hsx hlx
      refine ⟨h1, h3, fun hp => ?_⟩
      obtain ⟨h2, c2, f2, h4, h5, h6⟩ := h2 hp
      by_cases hblk : lx.blk = l.blk
      · rw [hblk] at h4 ⊢
        rw [ho4] at h4
        simp at h4
        obtain ⟨e1, e2, e3⟩ := h4
        refine ⟨by rw [hblk] at h2; exact h2, cur', fz, ?_, ?_, ?_⟩
        · rw [← e2]; exact hc1
        · rw [hc2, e1]; exact h5
        · rw [e3]; exact h6
      · exact ⟨h2, c2, f2, (hw.other _ hblk).trans h4, h5, h6⟩
  · intro x c kb kc lb lc hx hc hlx hlc hsc hsx hne' hpb hpc hblk'
    rw [Mem.blk_put] at hx hc
    by_cases hcb : c = b'
    · rw [if_pos hcb] at hc
      subst hcb
      rw [if_neg hne'] at hx
      rw [upd_ne hne'] at hlx
      rw [upd_self] at hlc
      simp at hlc hc; subst hlc; subst hc
      simp only at hblk' ⊢
      rw [Mem.blk_put] at hx
      by_cases hxb : x = b
      · rw [if_pos hxb] at hx
        subst hxb
        simp at hx; subst hx
        rw [hl] at hlx; simp at hlx; subst hlx
        refine ⟨rfl, by simp, ?_⟩
        simp; omega
      · rw [if_neg hxb] at hx
        obtain ⟨h1, h2, h3⟩ := R.sep x b kb k lb l hx hb hlx hl hs hsx hxb hpb hpl hblk'
        refine ⟨h1, by simp [h2], ?_⟩
        simp; omega
    · rw [if_neg hcb] at hc
      rw [upd_ne hcb] at hlc
      rw [Mem.blk_put] at hc
      by_cases hcb2 : c = b
      · rw [if_pos hcb2] at hc
        simp at hc; subst hc; simp at hsc
      · rw [if_neg hcb2] at hc
        -- c is own, not b: it shares no block with b
        have hnb : lc.blk ≠ l.blk := by
          intro he
          have := (R.sep b c k kc l lc hb hc hl hlc hsc (.inl hs) (Ne.symm hcb2) hpl hpc he.symm).1
          rw [hs] at this; simp at this
        by_cases hxb' : x = b'
        · subst hxb'
          rw [upd_self] at hlx
          simp at hlx; subst hlx
          exact absurd hblk'.symm hnb
        · rw [if_neg hxb'] at hx
          rw [upd_ne hxb'] at hlx
          exact R2.sep x c kb kc lb lc hx (by rw [Mem.blk_put, if_neg hcb2]; exact hc) hlx hlc hsc hsx hne' hpb hpc hblk'
  · intro a o' v hv
    obtain ⟨h1, h2⟩ := R.imm a o' v hv
    have hnel := h2 b k l hb hs hl hpl
    refine ⟨(World.cell?_of_block (w := w) (a := ⟨a, o', none⟩) (hw.other _ (Ne.symm hnel))).trans h1, fun x kx lx hx hsx hlx hp => ?_⟩
    rw [Mem.blk_put] at hx
    split at hx
    · subst_vars
      rw [upd_self] at hlx
      simp at hlx; subst hlx; exact hnel
    · rw [upd_ne (by assumption)] at hlx
      rw [Mem.blk_put] at hx
      split at hx
      · simp at hx; subst hx; simp at hsx
      · exact h2 x kx lx hx hsx hlx hp

end Go.Proofs.Ytdchdlabdokjnaa.Am
