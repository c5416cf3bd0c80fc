/- What came in, for ArithOps. -/
import Derived.Test.YtchhknkflhikmaaDoorO9
import Derived.Test.YtchhknkflhikmaaDoorO5
namespace Go.Proofs.YtchhknkflhikmaaDoor.Am.O
set_option linter.unusedSectionVars false
open Go Go.Proofs Am
set_option linter.unusedVariables false
set_option linter.unusedSimpArgs false
set_option maxRecDepth 100000
section
variable {H : Type}
theorem arithOps_core (avs : List AV) (ds : List (DataW H)) (h : RdL Tryd.prog Tryd.f4.params.toList avs ds) (hs : ∀ n ∈ DataW.weightsEach Tryd.prog Tryd.f4.params.toList ds, n ≤ reachBytes) :
    wpP Tryd.prog 4 avs (.bool true) := by
  have hp : Tryd.f4.params.toList = [3, 21, 21] := by rw [Tryd.params4]
  rw [hp] at h hs
  obtain ⟨v0, _, d0, _, rfl, rfl, q0, _, h, hs⟩ := h.consW hs
  obtain ⟨v1, _, d1, _, rfl, rfl, q1, _, h, hs⟩ := h.consW hs
  obtain ⟨v2, _, d2, _, rfl, rfl, q2, _, h, hs⟩ := h.consW hs
  obtain ⟨rfl, rfl⟩ := h.nil
  obtain ⟨o, rfl, ho⟩ := (q0 (by kernel_rfl)).int Tryd.underlying3
  obtain ⟨a, rfl, ha⟩ := (q1 (by kernel_rfl)).int Tryd.underlying21
  obtain ⟨b, rfl, hb⟩ := (q2 (by kernel_rfl)).int Tryd.underlying21
  exact f4_ops o a b (wf_i32 ha) (wf_i32 hb)
end
end Go.Proofs.YtchhknkflhikmaaDoor.Am.O
