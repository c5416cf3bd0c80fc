/- HeadsStep: what came in. -/
import Derived.Test.YtdchdlabdokjnaaH44
namespace Go.Proofs.Ytdchdlabdokjnaa.Am.H
set_option linter.unusedSectionVars false
open Go Go.Proofs Am
set_option linter.unusedVariables false
set_option linter.unusedSimpArgs false
set_option maxRecDepth 100000
section
variable {H : Type}
theorem tabs_none' {W : World} : TabsOk W := fun g cs h => by cases h
theorem headsStep_core (avs : List AV) (ds : List (DataW H)) (h : RdL Try.prog Try.f9.params.toList avs ds) (hs : ∀ n ∈ DataW.weightsEach Try.prog Try.f9.params.toList ds, n ≤ reachBytes) :
    wpP Try.prog 9 avs (.bool true) := by
  have hp : Try.f9.params.toList = [25, 29, 30] := by rw [Try.params9]
  rw [hp] at h hs
  obtain ⟨v0, _, d0, _, rfl, rfl, _, q0, h, hs⟩ := h.consW hs
  obtain ⟨v1, _, d1, _, rfl, rfl, _, q1, h, hs⟩ := h.consW hs
  obtain ⟨v2, _, d2, _, rfl, rfl, q2, _, h, hs⟩ := h.consW hs
  obtain ⟨rfl, rfl⟩ := h.nil
  obtain ⟨c0, rfl, h0⟩ := q0 (by kernel_rfl)
  obtain ⟨c1, rfl, h1⟩ := q1 (by kernel_rfl)
  obtain ⟨t, rfl, ht⟩ := rd_tables h0
  obtain ⟨g, rfl, hg, hi⟩ := rd_heads h1
  obtain ⟨n, rfl, w⟩ := (q2 (by kernel_rfl)).int Try.underlying30
  obtain ⟨u, rfl⟩ := wf64 w
  exact f9_step t g u ht hg hi
end
end Go.Proofs.Ytdchdlabdokjnaa.Am.H
