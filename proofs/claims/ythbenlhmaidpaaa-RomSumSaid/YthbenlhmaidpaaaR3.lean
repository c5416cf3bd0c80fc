/- What came in, as bytes. -/
import Derived.Test.YthbenlhmaidpaaaR2
import Derived.Test.YthbenlhmaidpaaaAm21
namespace Go.Proofs.Ythbenlhmaidpaaa.Am.R
set_option linter.unusedSectionVars false
open Go Go.Proofs Am
set_option linter.unusedVariables false
set_option linter.unusedSimpArgs false
set_option maxRecDepth 100000
section
variable {H : Type}
theorem tabs_none' {W : World} : TabsOk W := fun g cs h => by cases h
theorem romSum_core (avs : List AV) (ds : List (DataW H)) (h : RdL Try.prog Try.f3.params.toList avs ds) (hs : ∀ n ∈ DataW.weightsEach Try.prog Try.f3.params.toList ds, n ≤ reachBytes) :
    wpP Try.prog 3 avs (.bool true) := by
  have hp : Try.f3.params.toList = [22, 22, 22] := by rw [Try.params3]
  rw [hp] at h hs
  obtain ⟨v0, _, d0, _, rfl, rfl, q0, _, h, hs⟩ := h.consW hs
  obtain ⟨v1, _, d1, _, rfl, rfl, q1, _, h, hs⟩ := h.consW hs
  obtain ⟨v2, _, d2, _, rfl, rfl, q2, _, h, hs⟩ := h.consW hs
  obtain ⟨rfl, rfl⟩ := h.nil
  obtain ⟨a, rfl, ha⟩ := (q0 (by kernel_rfl)).bytes Try.underlying22 Try.underlying5 (by kernel_rfl) (by kernel_rfl)
  obtain ⟨b, rfl, hb⟩ := (q1 (by kernel_rfl)).bytes Try.underlying22 Try.underlying5 (by kernel_rfl) (by kernel_rfl)
  obtain ⟨c, rfl, hc⟩ := (q2 (by kernel_rfl)).bytes Try.underlying22 Try.underlying5 (by kernel_rfl) (by kernel_rfl)
  exact f3_romSum a b c ha hb hc
end
end Go.Proofs.Ythbenlhmaidpaaa.Am.R
