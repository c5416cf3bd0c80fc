/- What came in, as tables, heads and words. -/
import Derived.Test.YtapijpaeflefoaaX10
import Derived.Test.YtapijpaeflefoaaAm13
namespace Go.Proofs.Ytapijpaeflefoaa.Am.X
set_option linter.unusedSectionVars false
open Go Go.Proofs Am
set_option linter.unusedVariables false
set_option linter.unusedSimpArgs false
set_option maxRecDepth 100000

theorem maps_of {α : Type} {f : α → List AV} {q : α → Prop} {es : List (List AV)} (h : ∀ c ∈ es, ∃ a, c = f a ∧ q a) : ∃ l : List α, es = l.map f ∧ ∀ a ∈ l, q a := by
  induction es with
  | nil => exact ⟨[], rfl, fun a h => by cases h⟩
  | cons c es ih =>
    obtain ⟨a, rfl, ha⟩ := h _ List.mem_cons_self
    obtain ⟨l, rfl, hl⟩ := ih fun c hc => h c (List.mem_cons_of_mem _ hc)
    exact ⟨a :: l, rfl, by simpa using ⟨ha, hl⟩⟩
section
variable {H : Type}
theorem rd_int1 {t : TypeId} {k : IntKind} {c : List AV} {d : DataW H} (ht : Try.prog.underlying t = some (.int k)) (hl : c.length = 1) (h : RdW Try.prog t c d) : ∃ n, c = [.int k n] ∧ (Lit.int k n).wf = true := by
  match c, hl with
  | [c], _ =>
    obtain ⟨n, rfl, hw⟩ := h.int ht
    exact ⟨n, rfl, hw⟩
theorem rd_group {c} {d : DataW H} (h : RdW Try.prog 29 c d) : ∃ g : Group, c = g.cells := by
  obtain ⟨ds, hr⟩ := h.flat [9, 3, 3, 3, 3] Try.underlying29 (by kernel_rfl) (by kernel_rfl)
  match c, ds, hr with
  | [v0, v1, v2, v3, v4], d0 :: d1 :: d2 :: d3 :: d4 :: _, ⟨r0, r1, r2, r3, r4, _⟩ =>
    obtain ⟨s, rfl, _⟩ := r0.str Try.underlying9
    obtain ⟨n1, rfl, _⟩ := r1.int Try.underlying3
    obtain ⟨n2, rfl, _⟩ := r2.int Try.underlying3
    obtain ⟨n3, rfl, _⟩ := r3.int Try.underlying3
    obtain ⟨n4, rfl, _⟩ := r4.int Try.underlying3
    exact ⟨⟨s, n1, n2, n3, n4⟩, rfl⟩
theorem rd_conf {c} {d : DataW H} (h : RdW Try.prog 48 c d) : ∃ g : Conf, c = g.cells := by
  obtain ⟨ds, hr⟩ := h.flat [3, 3, 3, 3] Try.underlying48 (by kernel_rfl) (by kernel_rfl)
  match c, ds, hr with
  | [v0, v1, v2, v3], d0 :: d1 :: d2 :: d3 :: _, ⟨r0, r1, r2, r3, _⟩ =>
    obtain ⟨n0, rfl, _⟩ := r0.int Try.underlying3
    obtain ⟨n1, rfl, _⟩ := r1.int Try.underlying3
    obtain ⟨n2, rfl, _⟩ := r2.int Try.underlying3
    obtain ⟨n3, rfl, _⟩ := r3.int Try.underlying3
    exact ⟨⟨n0, n1, n2, n3⟩, rfl⟩
theorem rd_tables {c} {d : DataW H} (h : RdW Try.prog 26 c d) : ∃ t : Tables, c = t.cells ∧ SmallT t := by
  obtain ⟨ds, hr⟩ := h.flat [23, 24] Try.underlying26 (by kernel_rfl) (by kernel_rfl)
  match c, ds, hr with
  | [v0, v1], d0 :: d1 :: _, ⟨r0, r1, _⟩ =>
    obtain ⟨es0, rfl, w0, h0⟩ := r0.slice Try.underlying23 (z := 5) (by kernel_rfl) (by omega)
    obtain ⟨es1, rfl, w1, h1⟩ := r1.slice Try.underlying24 (z := 4) (by kernel_rfl) (by omega)
    obtain ⟨gs, rfl, _⟩ := maps_of (f := Group.cells) (q := fun _ => True) fun c hc => by
      obtain ⟨_, _, hx⟩ := h0 c hc
      obtain ⟨g, rfl⟩ := rd_group hx
      exact ⟨g, rfl, trivial⟩
    obtain ⟨cs, rfl, _⟩ := maps_of (f := Conf.cells) (q := fun _ => True) fun c hc => by
      obtain ⟨_, _, hx⟩ := h1 c hc
      obtain ⟨g, rfl⟩ := rd_conf hx
      exact ⟨g, rfl, trivial⟩
    have b0 : Try.prog.bytesOf 29 = 48 := by kernel_rfl
    have b1 : Try.prog.bytesOf 48 = 32 := by kernel_rfl
    have hrb : reachBytes = 140737488351232 := rfl
    rw [b0, hrb, List.length_map] at w0
    rw [b1, hrb, List.length_map] at w1
    exact ⟨⟨gs, cs⟩, rfl, w0, w1⟩
theorem rd_ints {k : IntKind} {s t : TypeId} {z : Nat} {c} {d : DataW H} (hs : Try.prog.underlying s = some (.slice t)) (ht : Try.prog.underlying t = some (.int k)) (hz : Try.prog.cellsOf t = 1) (hb : Try.prog.bytesOf t = z) (h : RdW Try.prog s [c] d) :
    ∃ l : List Int, c = .rs 1 (l.map (c1 k)) ∧ l.length * z ≤ 140737488351232 ∧ ∀ n ∈ l, (Lit.int k n).wf = true := by
  obtain ⟨es0, rfl, w0, h0⟩ := h.slice hs (z := 1) hz (by omega)
  obtain ⟨gs, rfl, hw⟩ := maps_of (f := c1 k) (q := fun n => (Lit.int k n).wf = true) fun c hc => by
    obtain ⟨hl, _, hx⟩ := h0 c hc
    obtain ⟨g, rfl, hw⟩ := rd_int1 ht hl hx
    exact ⟨g, rfl, hw⟩
  have hrb : reachBytes = 140737488351232 := rfl
  rw [hb, hrb, List.length_map] at w0
  exact ⟨gs, rfl, w0, hw⟩
theorem rd_heads {c} {d : DataW H} (h : RdW Try.prog 41 c d) : ∃ t : Hd, c = t.cells ∧ SmallH t ∧ I32 t := by
  obtain ⟨ds, hr⟩ := h.flat [38, 39, 39] Try.underlying41 (by kernel_rfl) (by kernel_rfl)
  match c, ds, hr with
  | [v0, v1, v2], d0 :: d1 :: d2 :: _, ⟨r0, r1, r2, _⟩ =>
    obtain ⟨l0, rfl, w0, _⟩ := rd_ints (z := 8) Try.underlying38 Try.underlying3 (by kernel_rfl) (by kernel_rfl) r0
    obtain ⟨l1, rfl, w1, h1⟩ := rd_ints (z := 4) Try.underlying39 Try.underlying21 (by kernel_rfl) (by kernel_rfl) r1
    obtain ⟨l2, rfl, w2, h2⟩ := rd_ints (z := 4) Try.underlying39 Try.underlying21 (by kernel_rfl) (by kernel_rfl) r2
    exact ⟨⟨l0, l1, l2⟩, rfl, ⟨w0, w1, w2⟩, ⟨fun n hn => wf_i32 (h1 n hn), fun n hn => wf_i32 (h2 n hn)⟩⟩
def w1 (w : BitVec 64) : List AV := [.int .u64 w.toNat]
theorem rd_words {c} {d : DataW H} (h : RdW Try.prog 27 [c] d) : ∃ ws : List (BitVec 64), c = .rs 1 (ws.map w1) ∧ ws.length * 8 ≤ 140737488351232 := by
  obtain ⟨es0, rfl, w0, h0⟩ := h.slice Try.underlying27 (z := 1) (by kernel_rfl) (by omega)
  obtain ⟨gs, rfl, hw⟩ := maps_of (f := w1) (q := fun n => True) fun c hc => by
    obtain ⟨hl, _, hx⟩ := h0 c hc
    obtain ⟨g, rfl, hw⟩ := rd_int1 Try.underlying34 hl hx
    obtain ⟨w, rfl⟩ := wf64 hw
    exact ⟨w, rfl, trivial⟩
  have hrb : reachBytes = 140737488351232 := rfl
  have hb : Try.prog.bytesOf 34 = 8 := by kernel_rfl
  rw [hb, hrb, List.length_map] at w0
  exact ⟨gs, rfl, w0⟩

theorem tabs_none {W : World} : TabsOk W := fun g cs h => by cases h

end
end Go.Proofs.Ytapijpaeflefoaa.Am.X
