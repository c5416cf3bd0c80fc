/- What came in, as a frame, a place and bits; the table of sums as it is laid. -/
import Derived.Test.YtindglcpailjgaaDoorV2
import Derived.Test.YtindglcpailjgaaDoorAm22
import Derived.Test.YtindglcpailjgaaDoorRows
namespace Go.Proofs.YtindglcpailjgaaDoor.Am.W
set_option linter.unusedSectionVars false
open Go Go.Proofs Am
set_option linter.unusedVariables false
set_option linter.unusedSimpArgs false
set_option maxRecDepth 100000
theorem tabs_ok {W : World} (h : laidMet Tryd.prog [("junction/wire.table", YtindglcpailjgaaDoor.Rows.laid_junction_wire_table)] W) : TabsOk W := by
  obtain ⟨ps, h, _, _⟩ := h
  have := laid_ints (L := tabL) (k := .u16) (g := 0) (t := 86) (e := 27) h (by kernel_rfl) (by kernel_rfl) Tryd.underlying86 Tryd.underlying27 (by kernel_rfl)
  intro g cs hc
  by_cases hg : g = 0
  · subst hg
    have : tabC = cs := by simpa [Tab.cells] using hc
    subst this
    exact tab_vr this
  · simp [Tab.cells, hg] at hc
section
variable {H : Type}
theorem rd_frame {c} {d : DataW H} (h : RdW Tryd.prog 37 c d) : ∃ f : Fr, c = f.cells ∧ FrR f := by
  obtain ⟨ds, hr⟩ := h.flat [3, 3, 3, 22] Tryd.underlying37 (by kernel_rfl) (by kernel_rfl)
  match c, ds, hr with
  | [v0, v1, v2, v3], d0 :: d1 :: d2 :: d3 :: _, ⟨r0, r1, r2, r3, _⟩ =>
    obtain ⟨n0, rfl, h0⟩ := r0.int Tryd.underlying3
    obtain ⟨n1, rfl, h1⟩ := r1.int Tryd.underlying3
    obtain ⟨n2, rfl, h2⟩ := r2.int Tryd.underlying3
    obtain ⟨l, rfl, hl⟩ := r3.bytes Tryd.underlying22 Tryd.underlying5 (by kernel_rfl) (by kernel_rfl)
    exact ⟨⟨n0, n1, n2, l⟩, rfl, ⟨wf_i64 h0, wf_i64 h1, wf_i64 h2, hl⟩⟩
theorem wireBurst_core (avs : List AV) (ds : List (DataW H)) (h : RdL Tryd.prog Tryd.f5.params.toList avs ds) (hs : ∀ n ∈ DataW.weightsEach Tryd.prog Tryd.f5.params.toList ds, n ≤ reachBytes) :
    wpP Tryd.prog 5 avs (.bool true) := by
  have hp : Tryd.f5.params.toList = [37, 3, 27] := by rw [Tryd.params5]
  rw [hp] at h hs
  obtain ⟨v0, _, d0, _, rfl, rfl, _, q0, h, hs⟩ := h.consW hs
  obtain ⟨v1, _, d1, _, rfl, rfl, q1, _, h, hs⟩ := h.consW hs
  obtain ⟨v2, _, d2, _, rfl, rfl, q2, _, h, hs⟩ := h.consW hs
  obtain ⟨rfl, rfl⟩ := h.nil
  obtain ⟨cs, rfl, q3⟩ := q0 (by kernel_rfl)
  obtain ⟨f, rfl, hf⟩ := rd_frame q3
  obtain ⟨a, rfl, ha⟩ := (q1 (by kernel_rfl)).int Tryd.underlying3
  obtain ⟨n, rfl, hn⟩ := (q2 (by kernel_rfl)).int Tryd.underlying27
  obtain ⟨x, rfl⟩ := wf_u16 hn
  exact f5_burst f hf a (wf_i64 ha) x.toNat x.isLt
end
end Go.Proofs.YtindglcpailjgaaDoor.Am.W
