/- What came in, as numbers; the months' lengths as they are laid. -/
import Derived.Test.YtfllibbkmpkaiaaDoorK3
import Derived.Test.YtfllibbkmpkaiaaDoorAm22
import Derived.Test.YtfllibbkmpkaiaaDoorRows
namespace Go.Proofs.YtfllibbkmpkaiaaDoor.Am.T
set_option linter.unusedSectionVars false
open Go Go.Proofs Am
set_option linter.unusedVariables false
set_option linter.unusedSimpArgs false
set_option maxRecDepth 100000
theorem tabs_ok {W : World} (h : laidMet Tryd.prog [("junction/timetable.months", YtfllibbkmpkaiaaDoor.Rows.laid_junction_timetable_months)] W) : TabsOk W := by
  obtain ⟨ps, h, _, _⟩ := h
  have := laid_ints (L := monL) (k := .i64) (g := 0) (t := 103) (e := 3) h (by kernel_rfl) (by kernel_rfl) Tryd.underlying103 Tryd.underlying3 (by kernel_rfl)
  intro g cs hc
  by_cases hg : g = 0
  · subst hg
    have : monC = cs := by simpa [Tab.cells] using hc
    subst this
    exact tab_vr this
  · simp [Tab.cells, hg] at hc
section
variable {H : Type}
theorem tableDates_core (avs : List AV) (ds : List (DataW H)) (h : RdL Tryd.prog Tryd.f3.params.toList avs ds) (hs : ∀ n ∈ DataW.weightsEach Tryd.prog Tryd.f3.params.toList ds, n ≤ reachBytes) :
    wpP Tryd.prog 3 avs (.bool true) := by
  have hp : Tryd.f3.params.toList = [3, 3, 3, 3] := by rw [Tryd.params3]
  rw [hp] at h hs
  obtain ⟨v0, _, d0, _, rfl, rfl, q0, _, h, hs⟩ := h.consW hs
  obtain ⟨v1, _, d1, _, rfl, rfl, q1, _, h, hs⟩ := h.consW hs
  obtain ⟨v2, _, d2, _, rfl, rfl, q2, _, h, hs⟩ := h.consW hs
  obtain ⟨v3, _, d3, _, rfl, rfl, q3, _, h, hs⟩ := h.consW hs
  obtain ⟨rfl, rfl⟩ := h.nil
  obtain ⟨a, rfl, ha⟩ := (q0 (by kernel_rfl)).int Tryd.underlying3
  obtain ⟨b, rfl, hb⟩ := (q1 (by kernel_rfl)).int Tryd.underlying3
  obtain ⟨c, rfl, hc⟩ := (q2 (by kernel_rfl)).int Tryd.underlying3
  obtain ⟨d, rfl, hd⟩ := (q3 (by kernel_rfl)).int Tryd.underlying3
  exact f3_dates a b c d (wf_i64 hc)
theorem tableCalendar_core (avs : List AV) (ds : List (DataW H)) (h : RdL Tryd.prog Tryd.f4.params.toList avs ds) (hs : ∀ n ∈ DataW.weightsEach Tryd.prog Tryd.f4.params.toList ds, n ≤ reachBytes) :
    wpP Tryd.prog 4 avs (.bool true) := by
  have hp : Tryd.f4.params.toList = [3] := by rw [Tryd.params4]
  rw [hp] at h hs
  obtain ⟨v0, _, d0, _, rfl, rfl, q0, _, h, hs⟩ := h.consW hs
  obtain ⟨rfl, rfl⟩ := h.nil
  obtain ⟨a, rfl, ha⟩ := (q0 (by kernel_rfl)).int Tryd.underlying3
  exact f4_calendar a (wf_i64 ha)
end
end Go.Proofs.YtfllibbkmpkaiaaDoor.Am.T
