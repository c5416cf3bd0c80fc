/- 'ArithTexts' is proved: of any word and any text the law answers true. Its condition, tied to the program's text: the tables of strconv and of bits read as they are initialised. -/
import Derived.Test.YtchhknkflhikmaaDoorY6
import Derived.Test.YtchhknkflhikmaaDoorRows
import Derived.Test.YtchhknkflhikmaaDoorTie
import Derived.Test.YtchhknkflhikmaaDoorCards
import Derived.WalkKit
import Derived.ProofKit
import Derived.OpenShut
import Derived.LaidMore
import Derived.Lay
import Derived.SevenTiedAt
import Derived.Below
import Derived.SizedLaws
import Derived.KernelRfl
import Derived.Stop.Joined
namespace Go.Proofs.YtchhknkflhikmaaDoor
set_option linter.unusedSectionVars false
open Go.ChangeShapes Go.WideShapes Go.ChangeAt Go.RowKit
open Am (trodAll_len)
set_option linter.unusedVariables false
set_option linter.unusedSimpArgs false
set_option maxRecDepth 100000
abbrev arithTexts_laid : List (String × DataW Unit) := [("math/bits.deBruijn32tab", Rows.laid_math_bits_deBruijn32tab), ("math/bits.deBruijn64tab", Rows.laid_math_bits_deBruijn64tab), ("internal/strconv.uint64pow10", Rows.laid_internal_strconv_uint64pow10)]
theorem arithTexts_lifted (os : Os) (started : os.Started) (H : Type) (enc : TypeId × Value → H) :
    ReturnsInHanded {} Tryd.checked os 7 .any (fun w args => (Rows.arithTextsSpec.pre enc Tryd.prog Tryd.f7 Rows.arithTextsRow.domain false w args ∧ laidMetH Tryd.prog arithTexts_laid w) ∧ sizedMet enc Tryd.prog Tryd.f7 (OpenSpec.ofChange Rows.arithTextsSpec) false w args)
      (Rows.arithTextsSpec.post enc Tryd.prog Tryd.f7 false true false false) := by
  refine returnsInHanded_of_change_and (C := Tryd.checked) (X := fun w _ => laidMetH Tryd.prog arithTexts_laid w) (fun _ _ _ hh h => h.of_heap hh) (by kernel_rfl) started (by kernel_rfl) Tryd.func7
    (ChangeSpec.witness_shaped (enc := enc) (C := Tryd.checked) (os := os) (X := fun w _ => laidMetH Tryd.prog arithTexts_laid w) false (World.laidAll Tryd.prog os arithTexts_laid) #[.int .i32 0, .string ⟨#[]⟩] 8 (World.laidAll_os _ _ _)
      (World.shaped_of_ZipB (by kernel_rfl) (by kernel_rfl)) (by kernel_rfl) (by kernel_rfl) (by kernel_rfl)
      (by rw [MakeChecks.laidMetH_plain _ _ _ (by kernel_rfl)]; exact laidMet_laidAll _ (by kernel_rfl) (by kernel_rfl))) ?_
  intro W base args ds gs before hval0 hW hcnd hsz0 hL _
  have hsz : (DataW.weightsEach Tryd.prog (Tryd.f7.params.toList ++ Rows.arithTextsSpec.plain.varTypes Tryd.prog) (ds ++ gs)).all (· ≤ reachBytes) = true := hsz0
  have hW' := hW
  obtain ⟨p, q, hA0, hV, rfl, hfz, hnd⟩ := hW
  have hA : DataW.TrodAll enc Tryd.prog W 0 (fun _ => true) true Tryd.f7.params.toList args.toList ds p := hA0
  obtain ⟨rfl, rfl⟩ := trodVars_none hV
  have hvt : Rows.arithTextsSpec.plain.varTypes Tryd.prog = [] := rfl
  rw [hvt, List.append_nil, List.append_nil] at hsz
  have hlt : ∀ x ∈ p, x.block < W.heap.size := fun x hx => by simpa using hW'.lt x (by simpa using hx)
  refine (Am.row_calls (by kernel_rfl) (Am.Y.tabs_ok (by rw [← MakeChecks.laidMetH_plain _ _ _ (show _ by kernel_rfl)]; exact hL)) hA (fun j t v h1 h2 => hval0 j t v (by simpa using h1) (by simpa using h2)) (fun avs hR => Am.Y.arithTexts_core avs ds hR fun n hn => of_decide_eq_true (List.all_eq_true.1 hsz n hn))).mono fun e W' ⟨he, bel⟩ => ?_
  subst he
  have hB := Am.trodAll_below (by kernel_rfl) bel _ _ _ _ (by kernel_rfl) hA hlt
  have hD : ∃ d0 d1, ds = [d0, d1] := by
    have hl := trodAll_len hA
    have hl2 : ds.length = 2 := hl
    match ds, hl2 with
    | [d0, d1], _ => exact ⟨d0, d1, rfl⟩
  obtain ⟨d0, d1, rfl⟩ := hD
  exact ⟨_, rfl, _, _, _, [], _, [], hW', trodAll_mk1 (shut_bool Tryd.underlying4 _), hB, rfl, bel.frame _, fun h => by cases h⟩
theorem arithTexts_holds : Rows.ArithTextsSaid :=
  OpenClaim.holds_of_wide 7 Tryd.f7 rfl rfl rfl rfl rfl rfl rfl ⟨rfl, rfl, rfl, rfl, rfl⟩ rfl rfl rfl rfl rfl (by kernel_rfl) Tryd.func7 (by kernel_rfl)
    (of_decide_eq_true (by kernel_rfl)) (by unfold Func.isWrapper; first | (rw [if_pos (by decide +kernel)]; kernel_rfl) | (rw [if_neg (by decide +kernel)]; exact ⟨rfl, rfl⟩))
    (fun os started H enc _ => arithTexts_lifted os started H enc)
theorem arithTexts_card_holds : Rows.ArithTextsCardSaid :=
  Claim7.holds_tied_plain_at .later [] [.data, .data, .data] true (true, "f2d69021a3fd85c6f6351f73a5432a6f148c4739f01e8f76728a55f1817f8f8e") false arithTexts_holds (fun _ h => by cases h) (by kernel_rfl) (fun _ h => by cases h) arithTexts_row_tie rfl ⟨rfl, rfl⟩ (by kernel_rfl) rfl
    (fun f fn hf hfn => by
      obtain rfl : f = 7 := Option.some.inj ((show Tryd.prog.funcNamed "junction/junctionlaw1.ArithTexts" = some 7 by kernel_rfl).symm.trans hf) |>.symm
      obtain rfl : fn = Tryd.f7 := (Option.some.inj (Tryd.func7.symm.trans hfn)).symm
      exact ⟨by kernel_rfl, fun j t ht => by
        rw [Tryd.params7] at ht
        have hm : t ∈ [21, 9] := by simpa using Array.mem_of_getElem? ht
        have hall : ([21, 9].all fun u => !Tryd.prog.wantsStandIn u) = true := by kernel_rfl
        exact (show Tryd.prog.wantsStandIn t = false by simpa using List.all_eq_true.1 hall t hm)⟩)
    (by kernel_rfl)
#print axioms arithTexts_card_holds
end Go.Proofs.YtchhknkflhikmaaDoor
