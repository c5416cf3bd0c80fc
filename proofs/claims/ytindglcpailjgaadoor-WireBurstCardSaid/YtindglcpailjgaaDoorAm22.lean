/- AM: tables of numbers that a tied row lays. -/
import Derived.Test.YtindglcpailjgaaDoorAm21
import Derived.LaidMore
import Derived.Lay
import Derived.FnData
import Derived.ProofKit
import Derived.WalkKit
import Derived.OpenShut
namespace Go.Proofs.YtindglcpailjgaaDoor.Am
set_option linter.unusedSectionVars false
open Go
set_option linter.unusedVariables false
set_option linter.unusedSimpArgs false
variable [Tab]

/-- A listed table of numbers, cell by cell. -/
theorem laid_ints {P : Program} {W : World} {n : String} {L : List Int} {k : IntKind} {rest : List (String × DataW Unit)} {ps : List MemPlace} {g : Nat} {t e : TypeId}
    (h : DataW.LaidVars P W ((n, .agg (L.map fun x => .lit (.int k x))) :: rest) ps) (hg : P.globalNamed n = some g) (ht : (P.globals[g]?).map (·.type) = some t) (ha : P.underlying t = some (.array L.length e))
    (he : P.underlying e = some (.int k)) (hz : P.cellsOf e = 1) : ∀ j : Nat, j < L.length → W.cell? ⟨g, j, none⟩ = some (.int k (L.getD j 0)) := by
  obtain ⟨g', t', cs, fuel, p, q, hg', ht', hv, hd, _, _⟩ := h
  rw [hg] at hg'; cases hg'
  rw [ht] at ht'; cases ht'
  intro r hr
  obtain ⟨xs, m, _, ex, _, hl, hel⟩ := DataW.trod_array ha hd
  have hE := hel r hr
  rw [hz, Nat.mul_one, List.getElem?_eq_getElem (by omega)] at hE
  obtain ⟨z, e1, e2, _⟩ := DataW.trod_int he hE
  have e3 : (xs.map (·.1)) = L.map fun n => .lit (.int k n) := (DataW.agg.inj (Prod.mk.inj ex).1).symm
  have e4 : (xs.map (·.1))[r]? = (L.map fun n => (DataW.lit (.int k n) : DataW Unit))[r]? := by rw [e3]
  rw [List.getElem?_map, List.getElem?_map, List.getElem?_eq_getElem (by omega : r < xs.length), List.getElem?_eq_getElem hr, e2] at e4
  have hz' : z = L.getD r 0 := by
    simp only [Option.map_some, Option.some.injEq, DataW.lit.injEq, Lit.int.injEq, true_and] at e4
    rw [e4, List.getD, List.getElem?_eq_getElem hr]; rfl
  rw [World.var?_cell hg hv r, ← hz']
  have : cs.toList[r]? = some (.int k z) := by
    have h0 : ((cs.toList.drop r).take 1)[0]? = some (.int k z) := by rw [e1]; rfl
    simpa using h0
  simpa using this

/-- What a table's cells tell. -/
theorem tab_vr {W : World} {g : Nat} {L : List Int} {k : IntKind} (h : ∀ j : Nat, j < L.length → W.cell? ⟨g, j, none⟩ = some (.int k (L.getD j 0))) :
    ∃ vs : Nat → Value, (∀ (j : Nat) (c : AV), (L.map fun n => AV.int k n)[j]? = some c → ∀ ρ, VR ρ c (vs j)) ∧ ∀ j : Nat, j < (L.map fun n => AV.int k n).length → W.cell? ⟨g, j, none⟩ = some (vs j) := by
  refine ⟨fun j => .int k (L.getD j 0), fun j c hc ρ => ?_, fun j hj => h j (by simpa using hj)⟩
  rw [List.getElem?_map] at hc
  cases hx : L[j]? with
  | none => simp [hx] at hc
  | some x =>
    simp [hx] at hc; subst hc
    simp [List.getD, hx]
    exact .int _ _
end Go.Proofs.YtindglcpailjgaaDoor.Am
