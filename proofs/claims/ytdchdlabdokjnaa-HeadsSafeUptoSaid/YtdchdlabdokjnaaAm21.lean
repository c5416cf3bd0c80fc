/- AM: lists of bytes, numbers, truths that came in. -/
import Derived.Test.YtdchdlabdokjnaaAm20
import Derived.Test.YtdchdlabdokjnaaAm17
namespace Go.Proofs.Ytdchdlabdokjnaa.Am
set_option linter.unusedSectionVars false
open Go
set_option linter.unusedVariables false
set_option linter.unusedSimpArgs false
variable [Tab]

theorem maps_of {α : Type} {f : α → List AV} {q : α → Prop} {es : List (List AV)} (h : ∀ c ∈ es, ∃ a, c = f a ∧ q a) : ∃ l : List α, es = l.map f ∧ ∀ a ∈ l, q a := by
  induction es with
  | nil => exact ⟨[], rfl, fun a h => by cases h⟩
  | cons c es ih =>
    obtain ⟨a, rfl, ha⟩ := h _ List.mem_cons_self
    obtain ⟨l, rfl, hl⟩ := ih fun c hc => h c (List.mem_cons_of_mem _ hc)
    exact ⟨a :: l, rfl, by simpa using ⟨ha, hl⟩⟩
section
variable {H : Type} {P : Program}
theorem RdW.one {t : TypeId} {c : List AV} {d : DataW H} (hl : c.length = 1) (h : RdW P t c d) : ∃ v, c = [v] ∧ RdW P t [v] d := by
  match c, hl with
  | [c], _ => exact ⟨c, rfl, h⟩
theorem RdW.int1 {t : TypeId} {k : IntKind} {c : List AV} {d : DataW H} (ht : P.underlying t = some (.int k)) (hl : c.length = 1) (h : RdW P t c d) : ∃ n, c = [.int k n] ∧ (Lit.int k n).wf = true := by
  obtain ⟨v, rfl, h⟩ := h.one hl
  obtain ⟨n, rfl, hw⟩ := h.int ht
  exact ⟨n, rfl, hw⟩
abbrev i1 (k : IntKind) (n : Int) : List AV := [.int k n]
def bo1 (b : Bool) : List AV := [.bool b]
theorem RdW.ints {k : IntKind} {s t : TypeId} {z : Nat} {c} {d : DataW H} (hs : P.underlying s = some (.slice t)) (ht : P.underlying t = some (.int k)) (hz : P.cellsOf t = 1) (hb : P.bytesOf t = z) (h : RdW P s [c] d) :
    ∃ l : List Int, c = .rs 1 (l.map (i1 k)) ∧ l.length * z ≤ 140737488351232 ∧ ∀ n ∈ l, (Lit.int k n).wf = true := by
  obtain ⟨es0, rfl, w0, h0⟩ := h.slice hs (z := 1) hz (by omega)
  obtain ⟨gs, rfl, hw⟩ := maps_of (f := i1 k) (q := fun n => (Lit.int k n).wf = true) fun c hc => by
    obtain ⟨hl, _, hx⟩ := h0 c hc
    obtain ⟨g, rfl, hw⟩ := hx.int1 ht hl
    exact ⟨g, rfl, hw⟩
  have hrb : reachBytes = 140737488351232 := rfl
  rw [hb, hrb, List.length_map] at w0
  exact ⟨gs, rfl, w0, hw⟩
theorem RdW.bytes {s t : TypeId} {c} {d : DataW H} (hs : P.underlying s = some (.slice t)) (ht : P.underlying t = some (.int .u8)) (hz : P.cellsOf t = 1) (hb : P.bytesOf t = 1) (h : RdW P s [c] d) :
    ∃ l : List UInt8, c = .rs 1 (l.map by1) ∧ l.length ≤ 140737488351232 := by
  obtain ⟨es0, rfl, w0, h0⟩ := h.slice hs (z := 1) hz (by omega)
  obtain ⟨gs, rfl, hw⟩ := maps_of (f := by1) (q := fun n => True) fun c hc => by
    obtain ⟨hl, _, hx⟩ := h0 c hc
    obtain ⟨g, rfl, hw⟩ := hx.int1 ht hl
    obtain ⟨x, rfl⟩ := wf_u8 hw
    exact ⟨x, rfl, trivial⟩
  have hrb : reachBytes = 140737488351232 := rfl
  rw [hb, hrb, List.length_map] at w0
  exact ⟨gs, rfl, by omega⟩
theorem RdW.bools {s t : TypeId} {c} {d : DataW H} (hs : P.underlying s = some (.slice t)) (ht : P.underlying t = some .bool) (hz : P.cellsOf t = 1) (hb : P.bytesOf t = 1) (h : RdW P s [c] d) :
    ∃ l : List Bool, c = .rs 1 (l.map bo1) ∧ l.length ≤ 140737488351232 := by
  obtain ⟨es0, rfl, w0, h0⟩ := h.slice hs (z := 1) hz (by omega)
  obtain ⟨gs, rfl, hw⟩ := maps_of (f := bo1) (q := fun n => True) fun c hc => by
    obtain ⟨hl, _, hx⟩ := h0 c hc
    obtain ⟨v, rfl, hx⟩ := hx.one hl
    obtain ⟨b, rfl⟩ := hx.bool ht
    exact ⟨b, rfl, trivial⟩
  have hrb : reachBytes = 140737488351232 := rfl
  rw [hb, hrb, List.length_map] at w0
  exact ⟨gs, rfl, by omega⟩
theorem tabs_none {W : World} (h : ∀ g, Tab.cells g = none) : TabsOk W := fun g cs h' => by rw [h g] at h'; cases h'
end
end Go.Proofs.Ytdchdlabdokjnaa.Am
