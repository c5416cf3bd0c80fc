/- What came in, as numbers and bits. -/
import Derived.Test.YtchhknkflhikmaaD2
namespace Go.Proofs.Ytchhknkflhikmaa.Am.D
set_option linter.unusedSectionVars false
open Go Go.Proofs Am
set_option linter.unusedVariables false
set_option linter.unusedSimpArgs false
set_option maxRecDepth 100000
section
variable {H : Type}
theorem tabs_none' {W : World} : TabsOk W := fun g cs h => by cases h
theorem arithDetector_core (avs : List AV) (ds : List (DataW H)) (h : RdL Try.prog Try.f4.params.toList avs ds) (hs : ∀ n ∈ DataW.weightsEach Try.prog Try.f4.params.toList ds, n ≤ reachBytes) :
    wpP Try.prog 4 avs (.bool true) := by
  have hp : Try.f4.params.toList = [3, 3, 4, 30, 30] := by rw [Try.params4]
  rw [hp] at h hs
  obtain ⟨v0, _, d0, _, rfl, rfl, q0, _, h, hs⟩ := h.consW hs
  obtain ⟨v1, _, d1, _, rfl, rfl, q1, _, h, hs⟩ := h.consW hs
  obtain ⟨v2, _, d2, _, rfl, rfl, q2, _, h, hs⟩ := h.consW hs
  obtain ⟨v3, _, d3, _, rfl, rfl, q3, _, h, hs⟩ := h.consW hs
  obtain ⟨v4, _, d4, _, rfl, rfl, q4, _, h, hs⟩ := h.consW hs
  obtain ⟨rfl, rfl⟩ := h.nil
  obtain ⟨a, rfl, ha⟩ := (q0 (by kernel_rfl)).int Try.underlying3
  obtain ⟨b, rfl, hb⟩ := (q1 (by kernel_rfl)).int Try.underlying3
  obtain ⟨c, rfl⟩ := (q2 (by kernel_rfl)).bool Try.underlying4
  obtain ⟨l, rfl, hl⟩ := (q3 (by kernel_rfl)).bools Try.underlying30 Try.underlying4 (by kernel_rfl) (by kernel_rfl)
  obtain ⟨m, rfl, hm⟩ := (q4 (by kernel_rfl)).bools Try.underlying30 Try.underlying4 (by kernel_rfl) (by kernel_rfl)
  exact f4_detector a b c l m (wf_i64 ha) (wf_i64 hb) hl hm
end
end Go.Proofs.Ytchhknkflhikmaa.Am.D
