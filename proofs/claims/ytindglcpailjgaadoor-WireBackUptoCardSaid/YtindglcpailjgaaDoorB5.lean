/- What came in, as bytes, a frame and a message; the table of sums as it is laid. -/
import Derived.Test.YtindglcpailjgaaDoorB4
import Derived.Test.YtindglcpailjgaaDoorAm22
import Derived.Test.YtindglcpailjgaaDoorRows
namespace Go.Proofs.YtindglcpailjgaaDoor.Am.W
set_option linter.unusedSectionVars false
open Go Go.Proofs Am
set_option linter.unusedVariables false
set_option linter.unusedSimpArgs false
set_option maxRecDepth 100000
theorem tabs_ok {W : World} (h : laidMet Tryd.prog [("junction/wire.table", YtindglcpailjgaaDoor.Rows.laid_junction_wire_table)] W) : TabsOk W := by
  obtain ⟨ps, h, _, _⟩ := h
  have := laid_ints (L := tabL) (k := .u16) (g := 0) (t := 86) (e := 27) h (by kernel_rfl) (by kernel_rfl) Tryd.underlying86 Tryd.underlying27 (by kernel_rfl)
  intro g cs hc
  by_cases hg : g = 0
  · subst hg
    have : tabC = cs := by simpa [Tab.cells] using hc
    subst this
    exact tab_vr this
  · simp [Tab.cells, hg] at hc
section
variable {H : Type}
theorem bulk_len (l : List (DataW H)) : l.length ≤ YtindglcpailjgaaDoor.Rows.uptoBulkAll l := by
  induction l with
  | nil => simp
  | cons x r ih =>
    have : 1 ≤ YtindglcpailjgaaDoor.Rows.uptoBulk x := by
      cases x with
      | lit l => cases l <;> simp [YtindglcpailjgaaDoor.Rows.uptoBulk]
      | _ => simp [YtindglcpailjgaaDoor.Rows.uptoBulk]
    simp only [YtindglcpailjgaaDoor.Rows.uptoBulkAll, List.length_cons]; omega
theorem bulk_rs {c : AV} {d : DataW H} {s t : TypeId} (hs : Tryd.prog.underlying s = some (.slice t)) (hz : Tryd.prog.cellsOf t = 1) (h : Rd Tryd.prog s [c] d) {z es} (hc : c = .rs z es) : es.length ≤ YtindglcpailjgaaDoor.Rows.uptoBulk d := by
  obtain ⟨es', rfl, h1, _⟩ := h.slice1 hs hz (by omega)
  cases hc
  rcases h1 with ⟨rfl, rfl⟩ | ⟨ds, sp, rfl, hl⟩
  · simp
  · have := bulk_len ds
    simp only [YtindglcpailjgaaDoor.Rows.uptoBulk]; omega
theorem rd_frame {c} {d : DataW H} (h : RdW Tryd.prog 37 c d) : ∃ f : Fr, c = f.cells ∧ FrR f := by
  obtain ⟨ds, hr⟩ := h.flat [3, 3, 3, 22] Tryd.underlying37 (by kernel_rfl) (by kernel_rfl)
  match c, ds, hr with
  | [v0, v1, v2, v3], d0 :: d1 :: d2 :: d3 :: _, ⟨r0, r1, r2, r3, _⟩ =>
    obtain ⟨n0, rfl, h0⟩ := r0.int Tryd.underlying3
    obtain ⟨n1, rfl, h1⟩ := r1.int Tryd.underlying3
    obtain ⟨n2, rfl, h2⟩ := r2.int Tryd.underlying3
    obtain ⟨l, rfl, hl⟩ := r3.bytes Tryd.underlying22 Tryd.underlying5 (by kernel_rfl) (by kernel_rfl)
    exact ⟨⟨n0, n1, n2, l⟩, rfl, ⟨wf_i64 h0, wf_i64 h1, wf_i64 h2, hl⟩⟩
theorem wf_u32' {n : Int} (h : (Lit.int .u32 n).wf = true) : 0 ≤ n ∧ n ≤ 4294967295 := by
  simp [Lit.wf, IntKind.min, IntKind.max, IntKind.signed, IntKind.bits] at h; omega
theorem rd_msg {c} {d : DataW H} (h : RdW Tryd.prog 47 c d) : ∃ f : Msg, c = f.cells ∧ MR f := by
  obtain ⟨ds, hr⟩ := h.flat [3, 3, 45, 45, 22] Tryd.underlying47 (by kernel_rfl) (by kernel_rfl)
  match c, ds, hr with
  | [v0, v1, v2, v3, v4], d0 :: d1 :: d2 :: d3 :: d4 :: _, ⟨r0, r1, r2, r3, r4, _⟩ =>
    obtain ⟨n0, rfl, h0⟩ := r0.int Tryd.underlying3
    obtain ⟨n1, rfl, h1⟩ := r1.int Tryd.underlying3
    obtain ⟨n2, rfl, h2⟩ := r2.int Tryd.underlying45
    obtain ⟨n3, rfl, h3⟩ := r3.int Tryd.underlying45
    obtain ⟨l, rfl, hl⟩ := r4.bytes Tryd.underlying22 Tryd.underlying5 (by kernel_rfl) (by kernel_rfl)
    have w2 := wf_u32' h2
    have w3 := wf_u32' h3
    obtain ⟨k2, rfl⟩ : ∃ k : Nat, n2 = k := ⟨n2.toNat, by omega⟩
    obtain ⟨k3, rfl⟩ : ∃ k : Nat, n3 = k := ⟨n3.toNat, by omega⟩
    exact ⟨⟨n0, n1, k2, k3, l⟩, rfl, ⟨wf_i64 h0, wf_i64 h1, (by omega : k2 < 4294967296), (by omega : k3 < 4294967296), hl⟩⟩
theorem wireBack_core (avs : List AV) (ds : List (DataW H)) (h : RdL Tryd.prog Tryd.f6.params.toList avs ds) (hs : ∀ n ∈ DataW.weightsEach Tryd.prog Tryd.f6.params.toList ds, n ≤ reachBytes) (hk : YtindglcpailjgaaDoor.Rows.uptoSmall H ds = true) :
    wpP Tryd.prog 6 avs (.bool true) := by
  have hp : Tryd.f6.params.toList = [22, 37, 47] := by rw [Tryd.params6]
  rw [hp] at h hs
  obtain ⟨v0, _, d0, _, rfl, rfl, q0, _, h, hs⟩ := h.consW hs
  obtain ⟨v1, _, d1, _, rfl, rfl, _, q1, h, hs⟩ := h.consW hs
  obtain ⟨v2, _, d2, _, rfl, rfl, _, q2, h, hs⟩ := h.consW hs
  obtain ⟨rfl, rfl⟩ := h.nil
  have q := q0 (by kernel_rfl)
  obtain ⟨l, rfl, hl⟩ := q.bytes Tryd.underlying22 Tryd.underlying5 (by kernel_rfl) (by kernel_rfl)
  have hb := bulk_rs Tryd.underlying22 (by kernel_rfl) q.rd rfl
  have hk' := of_decide_eq_true hk
  simp only [YtindglcpailjgaaDoor.Rows.uptoBulkAll] at hk'
  rw [List.length_map] at hb
  obtain ⟨cs1, rfl, r1⟩ := q1 (by kernel_rfl)
  obtain ⟨f, rfl, hf⟩ := rd_frame r1
  obtain ⟨cs2, rfl, r2⟩ := q2 (by kernel_rfl)
  obtain ⟨m, rfl, hm⟩ := rd_msg r2
  exact f6_back l f m (by omega) hf hm
end
end Go.Proofs.YtindglcpailjgaaDoor.Am.W
