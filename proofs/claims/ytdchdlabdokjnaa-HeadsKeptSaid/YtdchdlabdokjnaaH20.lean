/- HeadsKept: what came in. -/
import Derived.Test.YtdchdlabdokjnaaH19
namespace Go.Proofs.Ytdchdlabdokjnaa.Am.H
set_option linter.unusedSectionVars false
open Go Go.Proofs Am
set_option linter.unusedVariables false
set_option linter.unusedSimpArgs false
set_option maxRecDepth 100000
section
variable {H : Type}
theorem tabs_none' {W : World} : TabsOk W := fun g cs h => by cases h
theorem headsKept_core (avs : List AV) (ds : List (DataW H)) (h : RdL Try.prog Try.f7.params.toList avs ds) (hs : ∀ n ∈ DataW.weightsEach Try.prog Try.f7.params.toList ds, n ≤ reachBytes) :
    wpP Try.prog 7 avs (.bool true) := by
  have hp : Try.f7.params.toList = [25, 29, 31] := by rw [Try.params7]
  rw [hp] at h hs
  obtain ⟨v0, _, d0, _, rfl, rfl, _, q0, h, hs⟩ := h.consW hs
  obtain ⟨v1, _, d1, _, rfl, rfl, _, q1, h, hs⟩ := h.consW hs
  obtain ⟨v2, _, d2, _, rfl, rfl, q2, _, h, hs⟩ := h.consW hs
  obtain ⟨rfl, rfl⟩ := h.nil
  obtain ⟨c0, rfl, r0⟩ := q0 (by kernel_rfl)
  obtain ⟨t, rfl, ht⟩ := rd_tables r0
  obtain ⟨c1, rfl, r1⟩ := q1 (by kernel_rfl)
  obtain ⟨hd, rfl, hh, hI⟩ := rd_heads r1
  obtain ⟨ws, rfl, hw⟩ := rd_words (q2 (by kernel_rfl))
  exact f7_kept t hd ws ht hh hI hw
end
end Go.Proofs.Ytdchdlabdokjnaa.Am.H
