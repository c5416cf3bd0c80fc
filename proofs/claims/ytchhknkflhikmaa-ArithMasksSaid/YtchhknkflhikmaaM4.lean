/- 'ArithMasks' is proved: whatever two words and whatever list of whole numbers come in, the law answers true, and what came in reads as it did. -/
import Derived.Test.YtchhknkflhikmaaM3
import Derived.Test.YtchhknkflhikmaaRows
import Derived.WalkKit
import Derived.ProofKit
import Derived.OpenShut
import Derived.Below
import Derived.SizedLaws
import Derived.KernelRfl
namespace Go.Proofs.Ytchhknkflhikmaa
open Go.ChangeShapes Go.WideShapes Go.ChangeAt Go.RowKit
open Am (trodAll_len)
set_option linter.unusedVariables false
set_option linter.unusedSimpArgs false

theorem arithMasks_core {H : Type} (m : Am.Mem) (avs : List Am.AV) (ds : List (DataW H)) (h : Am.RdL Try.prog m Try.f3.params.toList avs ds) (hs : (DataW.weightsEach Try.prog Try.f3.params.toList ds).all (· ≤ reachBytes) = true) :
    Am.wpF Try.prog 3 avs m fun v _ => v = .bool true := by
  have hp : Try.f3.params.toList = [22, 22, 23] := by rw [Try.params3]
  rw [hp] at h hs
  obtain ⟨v0, _, d0, _, rfl, rfl, h0, h⟩ := h.cons
  obtain ⟨v1, _, d1, _, rfl, rfl, h1, h⟩ := h.cons
  obtain ⟨v2, _, d2, _, rfl, rfl, h2, h⟩ := h.cons
  obtain ⟨rfl, rfl⟩ := h.nil
  · obtain ⟨n0, rfl, rfl, w0⟩ := h0.int Try.underlying22
    obtain ⟨n1, rfl, rfl, w1⟩ := h1.int Try.underlying22
    obtain ⟨M0, rfl⟩ := Am.wf64 w0
    obtain ⟨M1, rfl⟩ := Am.wf64 w1
    obtain ⟨n, xs, hS, _, hd⟩ := h2.ints Try.underlying23 (by kernel_rfl) Try.underlying3
    refine Am.f3_core M0 M1 hS ?_
    rcases hd with ⟨_, rfl⟩ | ⟨ds, sp, rfl, rfl⟩
    · simp
    · have hb : Try.prog.bytesOf 3 = 8 := by kernel_rfl
      have z := sized_slice hs (j := 2) (t := 23) rfl rfl Try.underlying23
      rw [hb] at z
      have hrb : reachBytes = 140737488351232 := rfl
      omega
theorem arithMasks_lifted (os : Os) (started : os.Started) (H : Type) (enc : TypeId × Value → H) :
    ReturnsInHanded {} Try.checked os 3 .any (Rows.arithMasksSpec.pre6 enc Try.prog Try.f3 Rows.arithMasksRow.domain false) (Rows.arithMasksSpec.post enc Try.prog Try.f3 false true false false) := by
  refine returnsInHanded_of_change_sized (C := Try.checked) (by kernel_rfl) started (by kernel_rfl) Try.func3
    (ChangeSpec.witness6 (enc := enc) (C := Try.checked) false ⟨#[], #[.int .u64 0, .int .u64 0, .slice none 0 0], []⟩ 8 (by kernel_rfl) (by kernel_rfl) (by kernel_rfl) (by kernel_rfl)) ?_
  intro W base args ds gs before hval0 hW hcnd hsz0 _
  have hsz : (DataW.weightsEach Try.prog (Try.f3.params.toList ++ Rows.arithMasksSpec.plain.varTypes Try.prog) (ds ++ gs)).all (· ≤ reachBytes) = true := hsz0
  have hW' := hW
  obtain ⟨p, q, hA0, hV, rfl, hfz, hnd⟩ := hW
  have hA : DataW.TrodAll enc Try.prog W 0 (fun _ => true) true Try.f3.params.toList args.toList ds p := hA0
  obtain ⟨rfl, rfl⟩ := trodVars_none hV
  have hvt : Rows.arithMasksSpec.plain.varTypes Try.prog = [] := rfl
  rw [hvt, List.append_nil, List.append_nil] at hsz
  have hlt : ∀ x ∈ p, x.block < W.heap.size := fun x hx => by simpa using hW'.lt x (by simpa using hx)
  refine (Am.row_calls (by kernel_rfl) hA (fun j t v h1 h2 => hval0 j t v (by simpa using h1) (by simpa using h2)) (fun m avs hR => arithMasks_core m avs ds hR hsz)).mono fun e W' ⟨he, bel⟩ => ?_
  subst he
  have hB := Am.trodAll_below (by kernel_rfl) bel _ _ _ _ (by kernel_rfl) hA hlt
  have hD : ∃ d0 d1 d2, ds = [d0, d1, d2] := by
    have hl := trodAll_len hA
    have hl2 : ds.length = 3 := hl
    match ds, hl2 with
    | [d0, d1, d2], _ => exact ⟨d0, d1, d2, rfl⟩
  obtain ⟨d0, d1, d2, rfl⟩ := hD
  exact ⟨_, rfl, _, _, _, [], _, [], hW', trodAll_mk1 (shut_bool Try.underlying4 _), hB, rfl, bel.frame _, fun h => by cases h⟩
theorem arithMasks_holds : Rows.ArithMasksSaid :=
  OpenClaim.holds_of_wide 3 Try.f3 rfl rfl rfl rfl rfl rfl rfl ⟨rfl, rfl, rfl, rfl, rfl⟩ rfl rfl rfl rfl rfl (by kernel_rfl) Try.func3 (by kernel_rfl)
    (of_decide_eq_true (by kernel_rfl)) (by unfold Func.isWrapper; first | (rw [if_pos (by decide +kernel)]; kernel_rfl) | (rw [if_neg (by decide +kernel)]; exact ⟨rfl, rfl⟩))
    (fun os started H enc _ => arithMasks_lifted os started H enc)

#print axioms arithMasks_holds
end Go.Proofs.Ytchhknkflhikmaa
