/- What came in, as words; the table of operands as it is laid. -/
import Derived.Test.YtchhknkflhikmaaDoorO4
import Derived.Test.YtchhknkflhikmaaDoorAm22
import Derived.Test.YtchhknkflhikmaaDoorRows
namespace Go.Proofs.YtchhknkflhikmaaDoor.Am.O
set_option linter.unusedSectionVars false
open Go Go.Proofs Am
set_option linter.unusedVariables false
set_option linter.unusedSimpArgs false
set_option maxRecDepth 100000
theorem tabs_ok {W : World} (h : laidMet Tryd.prog [("junction/arith.operands", YtchhknkflhikmaaDoor.Rows.laid_junction_arith_operands)] W) : TabsOk W := by
  obtain ⟨ps, h, _, _⟩ := h
  have := laid_ints (L := opdL) (k := .i64) (g := 0) (t := 42) (e := 3) h (by kernel_rfl) (by kernel_rfl) Tryd.underlying42 Tryd.underlying3 (by kernel_rfl)
  intro g cs hc
  by_cases hg : g = 0
  · subst hg
    have : opdC = cs := by simpa [Tab.cells] using hc
    subst this
    exact tab_vr this
  · simp [Tab.cells, hg] at hc
section
variable {H : Type}
theorem arithDivides_core (avs : List AV) (ds : List (DataW H)) (h : RdL Tryd.prog Tryd.f3.params.toList avs ds) (hs : ∀ n ∈ DataW.weightsEach Tryd.prog Tryd.f3.params.toList ds, n ≤ reachBytes) :
    wpP Tryd.prog 3 avs (.bool true) := by
  have hp : Tryd.f3.params.toList = [21, 21] := by rw [Tryd.params3]
  rw [hp] at h hs
  obtain ⟨v0, _, d0, _, rfl, rfl, q0, _, h, hs⟩ := h.consW hs
  obtain ⟨v1, _, d1, _, rfl, rfl, q1, _, h, hs⟩ := h.consW hs
  obtain ⟨rfl, rfl⟩ := h.nil
  obtain ⟨a, rfl, ha⟩ := (q0 (by kernel_rfl)).int Tryd.underlying21
  obtain ⟨b, rfl, hb⟩ := (q1 (by kernel_rfl)).int Tryd.underlying21
  exact f3_divides a b (wf_i32 ha) (wf_i32 hb)
theorem arithOrder_core (avs : List AV) (ds : List (DataW H)) (h : RdL Tryd.prog Tryd.f6.params.toList avs ds) (hs : ∀ n ∈ DataW.weightsEach Tryd.prog Tryd.f6.params.toList ds, n ≤ reachBytes) :
    wpP Tryd.prog 6 avs (.bool true) := by
  have hp : Tryd.f6.params.toList = [21, 21] := by rw [Tryd.params6]
  rw [hp] at h hs
  obtain ⟨v0, _, d0, _, rfl, rfl, q0, _, h, hs⟩ := h.consW hs
  obtain ⟨v1, _, d1, _, rfl, rfl, q1, _, h, hs⟩ := h.consW hs
  obtain ⟨rfl, rfl⟩ := h.nil
  obtain ⟨a, rfl, ha⟩ := (q0 (by kernel_rfl)).int Tryd.underlying21
  obtain ⟨b, rfl, hb⟩ := (q1 (by kernel_rfl)).int Tryd.underlying21
  exact f6_order a b (wf_i32 ha) (wf_i32 hb)
theorem arithRing_core (avs : List AV) (ds : List (DataW H)) (h : RdL Tryd.prog Tryd.f5.params.toList avs ds) (hs : ∀ n ∈ DataW.weightsEach Tryd.prog Tryd.f5.params.toList ds, n ≤ reachBytes) :
    wpP Tryd.prog 5 avs (.bool true) := by
  have hp : Tryd.f5.params.toList = [21, 21, 21] := by rw [Tryd.params5]
  rw [hp] at h hs
  obtain ⟨v0, _, d0, _, rfl, rfl, q0, _, h, hs⟩ := h.consW hs
  obtain ⟨v1, _, d1, _, rfl, rfl, q1, _, h, hs⟩ := h.consW hs
  obtain ⟨v2, _, d2, _, rfl, rfl, q2, _, h, hs⟩ := h.consW hs
  obtain ⟨rfl, rfl⟩ := h.nil
  obtain ⟨a, rfl, ha⟩ := (q0 (by kernel_rfl)).int Tryd.underlying21
  obtain ⟨b, rfl, hb⟩ := (q1 (by kernel_rfl)).int Tryd.underlying21
  obtain ⟨c, rfl, hc⟩ := (q2 (by kernel_rfl)).int Tryd.underlying21
  exact f5_ring a b c (wf_i32 ha) (wf_i32 hb) (wf_i32 hc)
end
end Go.Proofs.YtchhknkflhikmaaDoor.Am.O
