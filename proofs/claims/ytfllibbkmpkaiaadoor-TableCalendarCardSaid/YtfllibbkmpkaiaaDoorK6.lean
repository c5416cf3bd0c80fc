/- 'TableCalendar' is proved: of any number the law answers true. Its condition, tied to the program's text: the months' lengths read as they are initialised. -/
import Derived.Test.YtfllibbkmpkaiaaDoorK4
import Derived.Test.YtfllibbkmpkaiaaDoorRows
import Derived.Test.YtfllibbkmpkaiaaDoorTie
import Derived.Test.YtfllibbkmpkaiaaDoorCards
import Derived.WalkKit
import Derived.ProofKit
import Derived.OpenShut
import Derived.LaidMore
import Derived.Lay
import Derived.SevenTiedAt
import Derived.Below
import Derived.SizedLaws
import Derived.KernelRfl
import Derived.Stop.Joined
namespace Go.Proofs.YtfllibbkmpkaiaaDoor
set_option linter.unusedSectionVars false
open Go.ChangeShapes Go.WideShapes Go.ChangeAt Go.RowKit
open Am (trodAll_len)
set_option linter.unusedVariables false
set_option linter.unusedSimpArgs false
set_option maxRecDepth 100000
abbrev tableCalendar_laid : List (String × DataW Unit) := [("junction/timetable.months", Rows.laid_junction_timetable_months)]
theorem tableCalendar_lifted (os : Os) (started : os.Started) (H : Type) (enc : TypeId × Value → H) :
    ReturnsInHanded {} Tryd.checked os 4 .any (fun w args => (Rows.tableCalendarSpec.pre enc Tryd.prog Tryd.f4 Rows.tableCalendarRow.domain false w args ∧ laidMetH Tryd.prog tableCalendar_laid w) ∧ sizedMet enc Tryd.prog Tryd.f4 (OpenSpec.ofChange Rows.tableCalendarSpec) false w args)
      (Rows.tableCalendarSpec.post enc Tryd.prog Tryd.f4 false true false false) := by
  refine returnsInHanded_of_change_and (C := Tryd.checked) (X := fun w _ => laidMetH Tryd.prog tableCalendar_laid w) (fun _ _ _ hh h => h.of_heap hh) (by kernel_rfl) started (by kernel_rfl) Tryd.func4
    (ChangeSpec.witness_shaped (enc := enc) (C := Tryd.checked) (os := os) (X := fun w _ => laidMetH Tryd.prog tableCalendar_laid w) false (World.laidAll Tryd.prog os tableCalendar_laid) #[.int .i64 0] 8 (World.laidAll_os _ _ _)
      (World.shaped_of_ZipB (by kernel_rfl) (by kernel_rfl)) (by kernel_rfl) (by kernel_rfl) (by kernel_rfl)
      (by rw [MakeChecks.laidMetH_plain _ _ _ (by kernel_rfl)]; exact laidMet_laidAll _ (by kernel_rfl) (by kernel_rfl))) ?_
  intro W base args ds gs before hval0 hW hcnd hsz0 hL _
  have hsz : (DataW.weightsEach Tryd.prog (Tryd.f4.params.toList ++ Rows.tableCalendarSpec.plain.varTypes Tryd.prog) (ds ++ gs)).all (· ≤ reachBytes) = true := hsz0
  have hW' := hW
  obtain ⟨p, q, hA0, hV, rfl, hfz, hnd⟩ := hW
  have hA : DataW.TrodAll enc Tryd.prog W 0 (fun _ => true) true Tryd.f4.params.toList args.toList ds p := hA0
  obtain ⟨rfl, rfl⟩ := trodVars_none hV
  have hvt : Rows.tableCalendarSpec.plain.varTypes Tryd.prog = [] := rfl
  rw [hvt, List.append_nil, List.append_nil] at hsz
  have hlt : ∀ x ∈ p, x.block < W.heap.size := fun x hx => by simpa using hW'.lt x (by simpa using hx)
  refine (Am.row_calls (by kernel_rfl) (Am.T.tabs_ok (by rw [← MakeChecks.laidMetH_plain _ _ _ (show _ by kernel_rfl)]; exact hL)) hA (fun j t v h1 h2 => hval0 j t v (by simpa using h1) (by simpa using h2)) (fun avs hR => Am.T.tableCalendar_core avs ds hR fun n hn => of_decide_eq_true (List.all_eq_true.1 hsz n hn))).mono fun e W' ⟨he, bel⟩ => ?_
  subst he
  have hB := Am.trodAll_below (by kernel_rfl) bel _ _ _ _ (by kernel_rfl) hA hlt
  have hD : ∃ d0, ds = [d0] := by
    have hl := trodAll_len hA
    have hl2 : ds.length = 1 := hl
    match ds, hl2 with
    | [d0], _ => exact ⟨d0, rfl⟩
  obtain ⟨d0, rfl⟩ := hD
  exact ⟨_, rfl, _, _, _, [], _, [], hW', trodAll_mk1 (shut_bool Tryd.underlying4 _), hB, rfl, bel.frame _, fun h => by cases h⟩
theorem tableCalendar_holds : Rows.TableCalendarSaid :=
  OpenClaim.holds_of_wide 4 Tryd.f4 rfl rfl rfl rfl rfl rfl rfl ⟨rfl, rfl, rfl, rfl, rfl⟩ rfl rfl rfl rfl rfl (by kernel_rfl) Tryd.func4 (by kernel_rfl)
    (of_decide_eq_true (by kernel_rfl)) (by unfold Func.isWrapper; first | (rw [if_pos (by decide +kernel)]; kernel_rfl) | (rw [if_neg (by decide +kernel)]; exact ⟨rfl, rfl⟩))
    (fun os started H enc _ => tableCalendar_lifted os started H enc)
theorem tableCalendar_card_holds : Rows.TableCalendarCardSaid :=
  Claim7.holds_tied_plain_at .later [] [.data] true (true, "951c152a004c770e956953e2c973e55ef74cbec542116c58c3445cf6f421ff98") true tableCalendar_holds (fun _ h => by cases h) (by kernel_rfl) (fun _ h => by cases h) tableCalendar_row_tie rfl ⟨rfl, rfl⟩ (by kernel_rfl) rfl
    (fun f fn hf hfn => by
      obtain rfl : f = 4 := Option.some.inj ((show Tryd.prog.funcNamed "junction/junctionlaw18.TableCalendar" = some 4 by kernel_rfl).symm.trans hf) |>.symm
      obtain rfl : fn = Tryd.f4 := (Option.some.inj (Tryd.func4.symm.trans hfn)).symm
      exact ⟨by kernel_rfl, fun j t ht => by
        rw [Tryd.params4] at ht
        have hm : t ∈ [3] := by simpa using Array.mem_of_getElem? ht
        have hall : ([3].all fun u => !Tryd.prog.wantsStandIn u) = true := by kernel_rfl
        exact (show Tryd.prog.wantsStandIn t = false by simpa using List.all_eq_true.1 hall t hm)⟩)
    (by kernel_rfl)
#print axioms tableCalendar_card_holds
end Go.Proofs.YtfllibbkmpkaiaaDoor
