/- Tables, heads and wants with room behind them. -/
import Derived.Test.YtapijpaeflefoaaX6
namespace Go.Proofs.Ytapijpaeflefoaa.Am.X
set_option linter.unusedSectionVars false
open Go Go.Proofs Am
set_option linter.unusedVariables false
set_option linter.unusedSimpArgs false
set_option maxRecDepth 100000
attribute [local irreducible] gO gN gW gdO

def c64 (w : BitVec 64) : List AV := [.int .u64 w.toNat]
theorem c64_len (w) : (c64 w).length = 1 := rfl
theorem c64_leaf (w) : (c64 w).all AV.leaf = true := rfl
def wantsAV (ws : List (BitVec 64)) : AV := .rs 1 (ws.map c64)
def markG : Group := ⟨[114, 111, 111, 109], 0, -7, 0, 0⟩
def markC : Conf := ⟨-7, 0, 0, 0⟩
def roomL (t : Tables) (h : Hd) (ws : List (BitVec 64)) : List AV :=
  [.rs 5 ((t.groups ++ [markG]).map Group.cells), .rs 4 ((t.confs ++ [markC]).map Conf.cells), .rs 1 ((h.aspect ++ [-7]).map (c1 .i64)), .rs 1 ((h.ins ++ [-7]).map (c1 .i32)), .rs 1 ((h.away ++ [-7]).map (c1 .i32)), .rs 1 ((ws ++ [777#64]).map c64)]

theorem take_app {α β : Type} {f : α → β} {l m : List α} : ((l ++ m).map f).take l.length = l.map f := by simp

section
variable {P : Program} {all : Array Oper} {d : Option Nat} {fl : Bool} {its : List (Oper × Bool)} {e : Env} {h : Heap} {k : Env → Heap → Prop} {g : FuncId} {args : List AV}
theorem gN_own2 {n1 s1 c1 t1 n2 s2 c2 t2} (hw : wpH P g args Heap.emp (Own2 n1 s1 c1 t1 n2 s2 c2 t2))
    (hk : ∀ b1 b2, NewIn h b1 → NewIn (h.put b1 ⟨.own, c1, t1, []⟩) b2 → gO P all its (putd e d (.agg [.sl b1 0 n1 s1, .sl b2 0 n2 s2])) ((h.put b1 ⟨.own, c1, t1, []⟩).put b2 ⟨.own, c2, t2, []⟩) k) :
    gN P all d fl its e h k (.call g args) := by
  refine gN_callE (hw.mono ?_)
  rintro v h1 ⟨b1, b2, rfl, hn2, rfl⟩ hh
  simp only [newIn_put, newIn_emp, and_true] at hn2
  have n1 : NewIn h b1 := NewIn.cat hh (b := b1) (k := ⟨.own, c1, t1, []⟩) (by simp only [put_at, hn2, if_true, if_false])
  have n2 : NewIn h b2 := NewIn.cat hh (b := b2) (k := ⟨.own, c2, t2, []⟩) (by simp only [put_at, if_true])
  simp only [cat_put, cat_emp]
  exact hk b1 b2 n1 (by simp only [newIn_put, hn2, n2, and_self])
theorem gN_own3 {n1 s1 c1 t1 n2 s2 c2 t2 n3 s3 c3 t3} (hw : wpH P g args Heap.emp (Own3 n1 s1 c1 t1 n2 s2 c2 t2 n3 s3 c3 t3))
    (hk : ∀ b1 b2 b3, NewIn h b1 → NewIn (h.put b1 ⟨.own, c1, t1, []⟩) b2 → NewIn ((h.put b1 ⟨.own, c1, t1, []⟩).put b2 ⟨.own, c2, t2, []⟩) b3 →
      gO P all its (putd e d (.agg [.sl b1 0 n1 s1, .sl b2 0 n2 s2, .sl b3 0 n3 s3])) (((h.put b1 ⟨.own, c1, t1, []⟩).put b2 ⟨.own, c2, t2, []⟩).put b3 ⟨.own, c3, t3, []⟩) k) :
    gN P all d fl its e h k (.call g args) := by
  refine gN_callE (hw.mono ?_)
  rintro v h1 ⟨b1, b2, b3, rfl, hn3, hn2, rfl⟩ hh
  simp only [newIn_put, newIn_emp, and_true] at hn2 hn3
  have n1 : NewIn h b1 := NewIn.cat hh (b := b1) (k := ⟨.own, c1, t1, []⟩) (by simp only [put_at, hn2, hn3, if_true, if_false])
  have n2 : NewIn h b2 := NewIn.cat hh (b := b2) (k := ⟨.own, c2, t2, []⟩) (by simp only [put_at, hn2, hn3, if_true, if_false])
  have n3 : NewIn h b3 := NewIn.cat hh (b := b3) (k := ⟨.own, c3, t3, []⟩) (by simp only [put_at, if_true])
  simp only [cat_put, cat_emp]
  exact hk b1 b2 b3 n1 (by simp only [newIn_put, hn2, n2, and_self]) (by simp only [newIn_put, hn2, hn3, n3, and_self])
end

end Go.Proofs.Ytapijpaeflefoaa.Am.X
