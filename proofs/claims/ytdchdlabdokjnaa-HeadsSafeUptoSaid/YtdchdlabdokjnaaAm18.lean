/- AM: an answer said more weakly: nil slices read as empty ones. -/
import Derived.Test.YtdchdlabdokjnaaAm17
namespace Go.Proofs.Ytdchdlabdokjnaa.Am
set_option linter.unusedSectionVars false
open Go
set_option linter.unusedVariables false
set_option linter.unusedSimpArgs false
variable [Tab]

theorem Weak.val {v v1 : AV} {m : Mem} (h : Wk (fun _ => none) (fun _ => False) v v1) : Weak (lk [(0, v)]) m (lk [(0, v1)]) m :=
  ⟨⟨fun _ => none, fun _ => False, fun b cs h => (nomatch h), fun b h => h.elim, fun i => by
      by_cases hi : i = 0
      · subst hi; simp only [lk]; exact h
      · simp only [lk, if_neg hi]; exact .refl _,
    fun b k' hk hd => .inr ⟨k', hk, rfl, rfl, fun a ha => .inl ha, rfl, fun i c d h1 h2 => by rw [h1] at h2; cases h2; exact .refl _⟩⟩, fun _ h => h⟩
theorem wpH.wk {P : Program} {f args h} {K : AV → Heap → Prop} (hw : wpH P f args h fun v h' => ∃ v1, Wk (fun _ => none) (fun _ => False) v v1 ∧ K v1 h') : wpH P f args h K := fun m Pr R => by
  obtain ⟨v, m', h', k1, k2, k3, v1, w, k4⟩ := hw m Pr R
  exact ⟨v1, m', h', k1.weak (Weak.val w), k2, k3, k4⟩
/-- A function that answers what it has made, its blocks written no more, and nil where an empty slice is said. -/
theorem wpP_frzW {P : Program} {f args} {v1 : AV} (hw : wpH P f args Heap.emp fun v h' => ∃ B, FrzOk h' B ∧ Wk (fun _ => none) (fun _ => False) (frzAll B v) v1) : wpP P f args v1 :=
  wpP_intro (wpH.wk (wpH.frz (wpH.mono hw fun v h' ⟨B, h1, h2⟩ => by obtain ⟨hh, hf⟩ := h1.frz (v := v); exact ⟨_, hh, hf, v1, h2, rfl⟩)))
theorem Wk.of_eq {fz nw} {v v1 : AV} (h : v = v1) : Wk fz nw v v1 := h ▸ .refl _
end Go.Proofs.Ytdchdlabdokjnaa.Am
