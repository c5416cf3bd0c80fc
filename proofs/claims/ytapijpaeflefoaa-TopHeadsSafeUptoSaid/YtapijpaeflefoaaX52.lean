/- TopHeadsSafe: what came in. -/
import Derived.Test.YtapijpaeflefoaaX51
import Derived.Test.YtapijpaeflefoaaX11
import Derived.Test.YtapijpaeflefoaaRows
namespace Go.Proofs.Ytapijpaeflefoaa.Am.X
set_option linter.unusedSectionVars false
open Go Go.Proofs Am
set_option linter.unusedVariables false
set_option linter.unusedSimpArgs false
set_option maxRecDepth 100000
section
variable {H : Type}
theorem tabs_none2 {W : World} (h : laidMet Try.prog [] W) : TabsOk W := fun g cs h => by cases h
theorem bulk_len (l : List (DataW H)) : l.length ≤ Ytapijpaeflefoaa.Rows.uptoBulkAll l := by
  induction l with
  | nil => simp
  | cons x r ih =>
    have : 1 ≤ Ytapijpaeflefoaa.Rows.uptoBulk x := by
      cases x with
      | lit l => cases l <;> simp [Ytapijpaeflefoaa.Rows.uptoBulk]
      | _ => simp [Ytapijpaeflefoaa.Rows.uptoBulk]
    simp only [Ytapijpaeflefoaa.Rows.uptoBulkAll, List.length_cons]; omega
theorem bulk_rs {c : AV} {d : DataW H} {s t : TypeId} (hs : Try.prog.underlying s = some (.slice t)) (hz : Try.prog.cellsOf t = 1) (h : Rd Try.prog s [c] d) {z es} (hc : c = .rs z es) : es.length ≤ Ytapijpaeflefoaa.Rows.uptoBulk d := by
  obtain ⟨es', rfl, h1, _⟩ := h.slice1 hs hz (by omega)
  cases hc
  rcases h1 with ⟨rfl, rfl⟩ | ⟨ds, sp, rfl, hl⟩
  · simp
  · have := bulk_len ds
    simp only [Ytapijpaeflefoaa.Rows.uptoBulk]; omega
theorem topHeadsSafe_core (avs : List AV) (ds : List (DataW H)) (h : RdL Try.prog Try.f4.params.toList avs ds) (hs : ∀ n ∈ DataW.weightsEach Try.prog Try.f4.params.toList ds, n ≤ reachBytes) (hk : Ytapijpaeflefoaa.Rows.uptoSmall H ds = true) :
    wpP Try.prog 4 avs (.bool true) := by
  have hp : Try.f4.params.toList = [26, 27] := by rw [Try.params4]
  rw [hp] at h hs
  obtain ⟨v0, _, d0, _, rfl, rfl, _, q0, h, hs⟩ := h.consW hs
  obtain ⟨v1, _, d1, _, rfl, rfl, q1, _, h, hs⟩ := h.consW hs
  obtain ⟨rfl, rfl⟩ := h.nil
  obtain ⟨c0, rfl, r0⟩ := q0 (by kernel_rfl)
  obtain ⟨t, rfl, ht⟩ := rd_tables r0
  have q := q1 (by kernel_rfl)
  obtain ⟨ws, rfl, hw⟩ := rd_words q
  have hb := bulk_rs Try.underlying27 (by kernel_rfl) q.rd rfl
  have hk' := of_decide_eq_true hk
  simp only [Ytapijpaeflefoaa.Rows.uptoBulkAll] at hk'
  rw [List.length_map] at hb
  exact f4_top t ws ht (by omega)
end
end Go.Proofs.Ytapijpaeflefoaa.Am.X
