/- 'TopHeadsSafe' is proved where what it reads is of bulk at most 1048576: it answers true. -/
import Derived.Test.YtapijpaeflefoaaX52
import Derived.Test.YtapijpaeflefoaaRows
import Derived.WalkKit
import Derived.ProofKit
import Derived.OpenShut
import Derived.LaidMore
import Derived.Lay
import Derived.SevenTiedAt
import Derived.Below
import Derived.SizedLaws
import Derived.KernelRfl
import Derived.Deep.DeepHandedRow
namespace Go.Proofs.Ytapijpaeflefoaa
set_option linter.unusedSectionVars false
open Go.ChangeShapes Go.WideShapes Go.ChangeAt Go.RowKit
open Am (trodAll_len)
set_option linter.unusedVariables false
set_option linter.unusedSimpArgs false
set_option maxRecDepth 100000
abbrev topHeadsSafe_laid : List (String × DataW Unit) := []
theorem topHeadsSafe_lifted (os : Os) (started : os.Started) (H : Type) (enc : TypeId × Value → H) (F : Stop.Interp) :
    ReturnsInHanded {} Try.checked os 4 .any ((Rows.OpenSpec.upto Rows.topHeadsSafeSpec).preRow enc Try.prog Try.f4 Rows.topHeadsSafeUptoRow.domain false Rows.topHeadsSafeUptoRow.laid) (((Rows.OpenSpec.upto Rows.topHeadsSafeSpec).at F).post enc Try.prog Try.f4 false true false false) := by
  have hx : ∃ places, DataW.whole enc Try.prog ((World.laidAll Try.prog os topHeadsSafe_laid).forCall (fun _ _ => 0) ⟨#[], #[.agg #[.slice none 0 0, .slice none 0 0], .slice none 0 0], []⟩).memory Try.f4.params.toList Rows.topHeadsSafeSpec.vars false (#[.agg #[.slice none 0 0, .slice none 0 0], .slice none 0 0] : Array Value).toList 8 = some ([.agg [.nil, .nil], .nil], [], places) := ⟨[], by kernel_rfl⟩
  obtain ⟨places, hx⟩ := hx
  refine returnsInHanded_of_row (C := Try.checked) (s := Rows.OpenSpec.upto Rows.topHeadsSafeSpec) (by kernel_rfl) started (by kernel_rfl) Try.func4
    (witness_row_at (enc := enc) (C := Try.checked) false (World.laidAll Try.prog os topHeadsSafe_laid) #[.agg #[.slice none 0 0, .slice none 0 0], .slice none 0 0] (World.laidAll_os _ _ _) (by kernel_rfl) (by kernel_rfl) (by kernel_rfl)
      (OpenSpec.preRow_of_cond 8 hx (by kernel_rfl) (fun k hk => by cases hk; kernel_rfl) (by kernel_rfl) (laidMet_laidAll _ (by kernel_rfl) (by kernel_rfl)))) ?_
  intro W base args ds gs before hval0 hW hcnd hcond hsz0 hL _ _
  have hsz : (DataW.weightsEach Try.prog (Try.f4.params.toList ++ Rows.topHeadsSafeSpec.plain.varTypes Try.prog) (ds ++ gs)).all (· ≤ reachBytes) = true := hsz0
  have hW' := hW
  obtain ⟨p, q, hA0, hV, rfl, hfz, hnd⟩ := hW
  have hA : DataW.TrodAll enc Try.prog W 0 (fun _ => true) true Try.f4.params.toList args.toList ds p := hA0
  obtain ⟨rfl, rfl⟩ := trodVars_none hV
  have hk : Rows.uptoSmall H ds = true := by have h0 := hcond _ rfl; rw [List.append_nil] at h0; exact h0
  have hvt : Rows.topHeadsSafeSpec.plain.varTypes Try.prog = [] := rfl
  rw [hvt, List.append_nil, List.append_nil] at hsz
  have hlt : ∀ x ∈ p, x.block < W.heap.size := fun x hx => by simpa using hW'.lt x (by simpa using hx)
  refine (Am.row_calls (by kernel_rfl) (Am.X.tabs_none2 (by rw [← MakeChecks.laidMetH_plain _ _ _ (show _ by kernel_rfl)]; exact hL)) hA (fun j t v h1 h2 => hval0 j t v (by simpa using h1) (by simpa using h2)) (fun avs hR => Am.X.topHeadsSafe_core avs ds hR (fun n hn => of_decide_eq_true (List.all_eq_true.1 hsz n hn)) hk)).mono fun e W' ⟨he, bel⟩ => ?_
  subst he
  have hB := Am.trodAll_below (by kernel_rfl) bel _ _ _ _ (by kernel_rfl) hA hlt
  have hD : ∃ d0 d1, ds = [d0, d1] := by
    have hl := trodAll_len hA
    have hl2 : ds.length = 2 := hl
    match ds, hl2 with
    | [d0, d1], _ => exact ⟨d0, d1, rfl⟩
  obtain ⟨d0, d1, rfl⟩ := hD
  exact ⟨_, rfl, _, _, _, [], _, [], hW', trodAll_mk1 (shut_bool Try.underlying4 _), hB, rfl, bel.frame _, fun h => by cases h⟩
theorem topHeadsSafe_upto_holds : Rows.TopHeadsSafeUptoSaid :=
  OpenClaim.holds_of_cond 4 Try.f4 rfl rfl rfl rfl rfl rfl rfl ⟨rfl, rfl, rfl, rfl, rfl⟩ rfl rfl rfl rfl rfl (by kernel_rfl) Try.func4 (by kernel_rfl)
    (of_decide_eq_true (by kernel_rfl)) (by unfold Func.isWrapper; first | (rw [if_pos (by decide +kernel)]; kernel_rfl) | (rw [if_neg (by decide +kernel)]; exact ⟨rfl, rfl⟩))
    (fun os started H enc _ F => by rw [OpenClaim.pre_eq_preRow]; exact topHeadsSafe_lifted os started H enc F)
#print axioms topHeadsSafe_upto_holds
end Go.Proofs.Ytapijpaeflefoaa
