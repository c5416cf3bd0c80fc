/- HeadsApart: what came in. -/
import Derived.Test.YtdchdlabdokjnaaH38
import Derived.Test.YtdchdlabdokjnaaH11
import Derived.Test.YtdchdlabdokjnaaRows
namespace Go.Proofs.Ytdchdlabdokjnaa.Am.H
set_option linter.unusedSectionVars false
open Go Go.Proofs Am
set_option linter.unusedVariables false
set_option linter.unusedSimpArgs false
set_option maxRecDepth 100000
section
variable {H : Type}
theorem tabs_none2 {W : World} (h : laidMet Try.prog [] W) : TabsOk W := fun g cs h => by cases h
theorem bulk_len (l : List (DataW H)) : l.length ≤ Ytdchdlabdokjnaa.Rows.uptoBulkAll l := by
  induction l with
  | nil => simp
  | cons x r ih =>
    have : 1 ≤ Ytdchdlabdokjnaa.Rows.uptoBulk x := by
      cases x with
      | lit l => cases l <;> simp [Ytdchdlabdokjnaa.Rows.uptoBulk]
      | _ => simp [Ytdchdlabdokjnaa.Rows.uptoBulk]
    simp only [Ytdchdlabdokjnaa.Rows.uptoBulkAll, List.length_cons]; omega
theorem bulk_rs {c : AV} {d : DataW H} {s t : TypeId} (hs : Try.prog.underlying s = some (.slice t)) {y : Nat} (hz : Try.prog.cellsOf t = y) (hy : 0 < y) (h : Rd Try.prog s [c] d) {z es} (hc : c = .rs z es) : es.length ≤ Ytdchdlabdokjnaa.Rows.uptoBulk d := by
  obtain ⟨es', rfl, h1, _⟩ := h.slice1 hs hz hy
  cases hc
  rcases h1 with ⟨rfl, rfl⟩ | ⟨ds, sp, rfl, hl⟩
  · simp
  · have := bulk_len ds
    simp only [Ytdchdlabdokjnaa.Rows.uptoBulk]; omega
theorem bulk_confs {t : Tables} {d : DataW H} (h : RdW Try.prog 25 t.cells d) : t.confs.length ≤ Ytdchdlabdokjnaa.Rows.uptoBulk d := by
  obtain ⟨_, ds, rfl, hd, hf⟩ := h.rd.struct1 Try.underlying25 (by kernel_rfl)
  match ds, hd, hf with
  | [x0, x1], _, hf =>
    have r : Rd Try.prog 23 [.rs 4 (t.confs.map Conf.cells)] x1 := hf 1 _ x1 rfl rfl
    have := bulk_rs Try.underlying23 (y := 4) (by kernel_rfl) (by omega) r rfl
    rw [List.length_map] at this
    simp only [Ytdchdlabdokjnaa.Rows.uptoBulk, Ytdchdlabdokjnaa.Rows.uptoBulkAll]; omega
theorem headsApart_core (avs : List AV) (ds : List (DataW H)) (h : RdL Try.prog Try.f8.params.toList avs ds) (hs : ∀ n ∈ DataW.weightsEach Try.prog Try.f8.params.toList ds, n ≤ reachBytes) (hk : Ytdchdlabdokjnaa.Rows.uptoSmall H ds = true) :
    wpP Try.prog 8 avs (.bool true) := by
  have hp : Try.f8.params.toList = [25, 25, 31, 31] := by rw [Try.params8]
  rw [hp] at h hs
  obtain ⟨v0, _, d0, _, rfl, rfl, _, q0, h, hs⟩ := h.consW hs
  obtain ⟨v1, _, d1, _, rfl, rfl, _, q1, h, hs⟩ := h.consW hs
  obtain ⟨v2, _, d2, _, rfl, rfl, q2, _, h, hs⟩ := h.consW hs
  obtain ⟨v3, _, d3, _, rfl, rfl, q3, _, h, hs⟩ := h.consW hs
  obtain ⟨rfl, rfl⟩ := h.nil
  obtain ⟨c0, rfl, r0⟩ := q0 (by kernel_rfl)
  obtain ⟨c1, rfl, r1⟩ := q1 (by kernel_rfl)
  obtain ⟨s, rfl, hs'⟩ := rd_tables r0
  obtain ⟨t, rfl, ht⟩ := rd_tables r1
  have q := q2 (by kernel_rfl)
  have q' := q3 (by kernel_rfl)
  obtain ⟨us, rfl, hu⟩ := rd_words q
  obtain ⟨bs, rfl, hv⟩ := rd_words q'
  have hb := bulk_rs Try.underlying31 (y := 1) (by kernel_rfl) (by omega) q.rd rfl
  have hb' := bulk_rs Try.underlying31 (y := 1) (by kernel_rfl) (by omega) q'.rd rfl
  have z0 := bulk_confs r0
  have z1 := bulk_confs r1
  have hk' := of_decide_eq_true hk
  simp only [Ytdchdlabdokjnaa.Rows.uptoBulkAll] at hk'
  rw [List.length_map] at hb hb'
  exact f8_apart s t us bs hs' ht (by omega) (by omega) (by omega) (by omega)
end
end Go.Proofs.Ytdchdlabdokjnaa.Am.H
