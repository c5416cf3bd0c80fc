/- 'ArithDetector' is proved: whatever delay, hold, latch, bits and clears come in, the law answers true, and what came in reads as it did. No condition. -/
import Derived.Test.YtchhknkflhikmaaD3
import Derived.Test.YtchhknkflhikmaaRows
import Derived.WalkKit
import Derived.ProofKit
import Derived.OpenShut
import Derived.Below
import Derived.SizedLaws
import Derived.KernelRfl
namespace Go.Proofs.Ytchhknkflhikmaa
set_option linter.unusedSectionVars false
open Go.ChangeShapes Go.WideShapes Go.ChangeAt Go.RowKit
open Am (trodAll_len)
set_option linter.unusedVariables false
set_option linter.unusedSimpArgs false
theorem arithDetector_lifted (os : Os) (started : os.Started) (H : Type) (enc : TypeId × Value → H) :
    ReturnsInHanded {} Try.checked os 4 .any (Rows.arithDetectorSpec.pre6 enc Try.prog Try.f4 Rows.arithDetectorRow.domain false) (Rows.arithDetectorSpec.post enc Try.prog Try.f4 false true false false) := by
  refine returnsInHanded_of_change_sized (C := Try.checked) (by kernel_rfl) started (by kernel_rfl) Try.func4
    (ChangeSpec.witness6 (enc := enc) (C := Try.checked) false ⟨#[], #[.int .i64 0, .int .i64 0, .bool false, .slice none 0 0, .slice none 0 0], []⟩ 8 (by kernel_rfl) (by kernel_rfl) (by kernel_rfl) (by kernel_rfl)) ?_
  intro W base args ds gs before hval0 hW hcnd hsz0 _
  have hsz : (DataW.weightsEach Try.prog (Try.f4.params.toList ++ Rows.arithDetectorSpec.plain.varTypes Try.prog) (ds ++ gs)).all (· ≤ reachBytes) = true := hsz0
  have hW' := hW
  obtain ⟨p, q, hA0, hV, rfl, hfz, hnd⟩ := hW
  have hA : DataW.TrodAll enc Try.prog W 0 (fun _ => true) true Try.f4.params.toList args.toList ds p := hA0
  obtain ⟨rfl, rfl⟩ := trodVars_none hV
  have hvt : Rows.arithDetectorSpec.plain.varTypes Try.prog = [] := rfl
  rw [hvt, List.append_nil, List.append_nil] at hsz
  have hlt : ∀ x ∈ p, x.block < W.heap.size := fun x hx => by simpa using hW'.lt x (by simpa using hx)
  refine (Am.row_calls (by kernel_rfl) Am.D.tabs_none' hA (fun j t v h1 h2 => hval0 j t v (by simpa using h1) (by simpa using h2)) (fun avs hR => Am.D.arithDetector_core avs ds hR fun n hn => of_decide_eq_true (List.all_eq_true.1 hsz n hn))).mono fun e W' ⟨he, bel⟩ => ?_
  subst he
  have hB := Am.trodAll_below (by kernel_rfl) bel _ _ _ _ (by kernel_rfl) hA hlt
  have hD : ∃ d0 d1 d2 d3 d4, ds = [d0, d1, d2, d3, d4] := by
    have hl := trodAll_len hA
    have hl2 : ds.length = 5 := hl
    match ds, hl2 with
    | [d0, d1, d2, d3, d4], _ => exact ⟨d0, d1, d2, d3, d4, rfl⟩
  obtain ⟨d0, d1, d2, d3, d4, rfl⟩ := hD
  exact ⟨_, rfl, _, _, _, [], _, [], hW', trodAll_mk1 (shut_bool Try.underlying4 _), hB, rfl, bel.frame _, fun h => by cases h⟩
theorem arithDetector_holds : Rows.ArithDetectorSaid :=
  OpenClaim.holds_of_wide 4 Try.f4 rfl rfl rfl rfl rfl rfl rfl ⟨rfl, rfl, rfl, rfl, rfl⟩ rfl rfl rfl rfl rfl (by kernel_rfl) Try.func4 (by kernel_rfl)
    (of_decide_eq_true (by kernel_rfl)) (by unfold Func.isWrapper; first | (rw [if_pos (by decide +kernel)]; kernel_rfl) | (rw [if_neg (by decide +kernel)]; exact ⟨rfl, rfl⟩))
    (fun os started H enc _ => arithDetector_lifted os started H enc)
#print axioms arithDetector_holds
end Go.Proofs.Ytchhknkflhikmaa
