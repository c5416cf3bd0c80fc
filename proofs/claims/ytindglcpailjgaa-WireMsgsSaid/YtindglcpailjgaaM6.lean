/- What came in, as a message and bytes. -/
import Derived.Test.YtindglcpailjgaaM5
import Derived.Test.YtindglcpailjgaaAm21
namespace Go.Proofs.Ytindglcpailjgaa.Am.M
set_option linter.unusedSectionVars false
open Go Go.Proofs Am
set_option linter.unusedVariables false
set_option linter.unusedSimpArgs false
set_option maxRecDepth 100000
section
variable {H : Type}
theorem tabs_none' {W : World} : TabsOk W := fun g cs h => by cases h
theorem wf_u32' {n : Int} (h : (Lit.int .u32 n).wf = true) : 0 ≤ n ∧ n ≤ 4294967295 := by
  simp [Lit.wf, IntKind.min, IntKind.max, IntKind.signed, IntKind.bits] at h; omega
theorem rd_msg {c} {d : DataW H} (h : RdW Try.prog 25 c d) : ∃ f : Msg, c = f.cells ∧ MR f := by
  obtain ⟨ds, hr⟩ := h.flat [3, 3, 22, 22, 23] Try.underlying25 (by kernel_rfl) (by kernel_rfl)
  match c, ds, hr with
  | [v0, v1, v2, v3, v4], d0 :: d1 :: d2 :: d3 :: d4 :: _, ⟨r0, r1, r2, r3, r4, _⟩ =>
    obtain ⟨n0, rfl, h0⟩ := r0.int Try.underlying3
    obtain ⟨n1, rfl, h1⟩ := r1.int Try.underlying3
    obtain ⟨n2, rfl, h2⟩ := r2.int Try.underlying22
    obtain ⟨n3, rfl, h3⟩ := r3.int Try.underlying22
    obtain ⟨l, rfl, hl⟩ := r4.bytes Try.underlying23 Try.underlying5 (by kernel_rfl) (by kernel_rfl)
    have w2 := wf_u32' h2
    have w3 := wf_u32' h3
    obtain ⟨k2, rfl⟩ : ∃ k : Nat, n2 = k := ⟨n2.toNat, by omega⟩
    obtain ⟨k3, rfl⟩ : ∃ k : Nat, n3 = k := ⟨n3.toNat, by omega⟩
    exact ⟨⟨n0, n1, k2, k3, l⟩, rfl, ⟨wf_i64 h0, wf_i64 h1, (by omega : k2 < 4294967296), (by omega : k3 < 4294967296), hl⟩⟩
theorem wireMsgs_core (avs : List AV) (ds : List (DataW H)) (h : RdL Try.prog Try.f3.params.toList avs ds) (hs : ∀ n ∈ DataW.weightsEach Try.prog Try.f3.params.toList ds, n ≤ reachBytes) :
    wpP Try.prog 3 avs (.bool true) := by
  have hp : Try.f3.params.toList = [25, 23] := by rw [Try.params3]
  rw [hp] at h hs
  obtain ⟨v0, _, d0, _, rfl, rfl, _, q0, h, hs⟩ := h.consW hs
  obtain ⟨v1, _, d1, _, rfl, rfl, q1, _, h, hs⟩ := h.consW hs
  obtain ⟨rfl, rfl⟩ := h.nil
  obtain ⟨cs, rfl, q2⟩ := q0 (by kernel_rfl)
  obtain ⟨f, rfl, hf⟩ := rd_msg q2
  obtain ⟨l, rfl, hl⟩ := (q1 (by kernel_rfl)).bytes Try.underlying23 Try.underlying5 (by kernel_rfl) (by kernel_rfl)
  exact f3_msgs f l hf hl
end
end Go.Proofs.Ytindglcpailjgaa.Am.M
