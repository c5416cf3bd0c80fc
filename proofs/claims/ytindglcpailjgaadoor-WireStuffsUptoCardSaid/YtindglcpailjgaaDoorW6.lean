/- What came in, as bytes; the table of sums as it is laid. -/
import Derived.Test.YtindglcpailjgaaDoorW5
import Derived.Test.YtindglcpailjgaaDoorAm22
import Derived.Test.YtindglcpailjgaaDoorRows
namespace Go.Proofs.YtindglcpailjgaaDoor.Am.W
set_option linter.unusedSectionVars false
open Go Go.Proofs Am
set_option linter.unusedVariables false
set_option linter.unusedSimpArgs false
set_option maxRecDepth 100000
theorem tabs_ok {W : World} (h : laidMet Tryd.prog [("junction/wire.table", YtindglcpailjgaaDoor.Rows.laid_junction_wire_table)] W) : TabsOk W := by
  obtain ⟨ps, h, _, _⟩ := h
  have := laid_ints (L := tabL) (k := .u16) (g := 0) (t := 86) (e := 27) h (by kernel_rfl) (by kernel_rfl) Tryd.underlying86 Tryd.underlying27 (by kernel_rfl)
  intro g cs hc
  by_cases hg : g = 0
  · subst hg
    have : tabC = cs := by simpa [Tab.cells] using hc
    subst this
    exact tab_vr this
  · simp [Tab.cells, hg] at hc
section
variable {H : Type}
theorem bulk_len (l : List (DataW H)) : l.length ≤ YtindglcpailjgaaDoor.Rows.uptoBulkAll l := by
  induction l with
  | nil => simp
  | cons x r ih =>
    have : 1 ≤ YtindglcpailjgaaDoor.Rows.uptoBulk x := by
      cases x with
      | lit l => cases l <;> simp [YtindglcpailjgaaDoor.Rows.uptoBulk]
      | _ => simp [YtindglcpailjgaaDoor.Rows.uptoBulk]
    simp only [YtindglcpailjgaaDoor.Rows.uptoBulkAll, List.length_cons]; omega
theorem bulk_rs {c : AV} {d : DataW H} {s t : TypeId} (hs : Tryd.prog.underlying s = some (.slice t)) (hz : Tryd.prog.cellsOf t = 1) (h : Rd Tryd.prog s [c] d) {z es} (hc : c = .rs z es) : es.length ≤ YtindglcpailjgaaDoor.Rows.uptoBulk d := by
  obtain ⟨es', rfl, h1, _⟩ := h.slice1 hs hz (by omega)
  cases hc
  rcases h1 with ⟨rfl, rfl⟩ | ⟨ds, sp, rfl, hl⟩
  · simp
  · have := bulk_len ds
    simp only [YtindglcpailjgaaDoor.Rows.uptoBulk]; omega
theorem wireStuffs_core (avs : List AV) (ds : List (DataW H)) (h : RdL Tryd.prog Tryd.f3.params.toList avs ds) (hs : ∀ n ∈ DataW.weightsEach Tryd.prog Tryd.f3.params.toList ds, n ≤ reachBytes) (hk : YtindglcpailjgaaDoor.Rows.uptoSmall H ds = true) :
    wpP Tryd.prog 3 avs (.bool true) := by
  have hp : Tryd.f3.params.toList = [22] := by rw [Tryd.params3]
  rw [hp] at h hs
  obtain ⟨v0, _, d0, _, rfl, rfl, q0, _, h, hs⟩ := h.consW hs
  obtain ⟨rfl, rfl⟩ := h.nil
  have q := q0 (by kernel_rfl)
  obtain ⟨l, rfl, hl⟩ := q.bytes Tryd.underlying22 Tryd.underlying5 (by kernel_rfl) (by kernel_rfl)
  have hb := bulk_rs Tryd.underlying22 (by kernel_rfl) q.rd rfl
  have hk' := of_decide_eq_true hk
  simp only [YtindglcpailjgaaDoor.Rows.uptoBulkAll] at hk'
  rw [List.length_map] at hb
  exact f3_stuffs l (by omega)
end
end Go.Proofs.YtindglcpailjgaaDoor.Am.W
