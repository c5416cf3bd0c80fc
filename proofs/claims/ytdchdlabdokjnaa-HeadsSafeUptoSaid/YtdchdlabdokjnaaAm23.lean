/- AM: an append that keeps what was grown; a block as it is. -/
import Derived.Test.YtdchdlabdokjnaaAm21
namespace Go.Proofs.Ytdchdlabdokjnaa.Am
set_option linter.unusedSectionVars false
open Go
set_option linter.unusedVariables false
set_option linter.unusedSimpArgs false
variable [Tab]

theorem upd_id {h : Heap} {b k} (hb : h b = some k) : h.upd b k = h := by
  funext x; simp only [Heap.upd]; split
  · subst_vars; exact hb.symm
  · rfl
section
variable {P : Program} {all : Array Oper} {d : Option Nat} {fl : Bool} {its : List (Oper × Bool)} {e : Env} {h : Heap} {k : Env → Heap → Prop}
/-- Appended to a slice of the run's own, which is read again. -/
theorem gN_appK {t b n s x m et ti ei cells news A} (ht : tiOf P t = some ti) (hd : ti.d = .slice et) (he : tiOf P et = some ei) (hs : ei.size = s) (hp : 0 < s) (hx : SrcV h s x m news) (h0 : 0 < m) (hb : h b = some ⟨.own, cells, et, A⟩)
    (hc : cells.length = n * s) (hbd : (n + m) * ei.bytes ≤ 140737488355328) (hm : n + m ≤ maxInt)
    (hk : ∀ b', NewIn h b' → gO P all its (putd e d (.sl b' 0 (n + m) s)) ((h.upd b ⟨.old, cells, et, A⟩).put b' ⟨.own, cells ++ news, et, b :: A⟩) k) : gN P all d fl its e h k (.app t (.sl b 0 n s) x) := by
  subst hs
  refine AppRun'.keep (et := et) (ei := ei) (news := news) (b := b) (o := 0) (len := n) (k := ⟨.own, cells, et, A⟩) ⟨⟨ti, ht, hd⟩, he, hp, hx.len⟩ h0 ⟨hx.src, hx.cells, hx.leaf⟩ rfl hb rfl rfl (by simpa using hc.symm) hbd hm fun b' hb' => ?_
  simpa using hk b' hb'
/-- A call that may touch all blocks. -/
theorem gN_callH {g args} {K : AV → Heap → Prop} (hw : wpH P g args h K) (hk : ∀ v h', K v h' → gO P all its (putd e d v) h' k) : gN P all d false its e h k (.call g args) := gN_call (hw.mono hk)
end
end Go.Proofs.Ytdchdlabdokjnaa.Am
