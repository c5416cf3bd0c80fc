/- Copies, and room behind lists. -/
import Derived.Test.YtapijpaeflefoaaX5
namespace Go.Proofs.Ytapijpaeflefoaa.Am.X
set_option linter.unusedSectionVars false
open Go Go.Proofs Am
set_option linter.unusedVariables false
set_option linter.unusedSimpArgs false
set_option maxRecDepth 100000
attribute [local irreducible] gO gN gW gdO

theorem Group.len (g : Group) : g.cells.length = 5 := rfl
theorem Conf.len (c : Conf) : c.cells.length = 4 := rfl
theorem c1_len (k : IntKind) (a : Int) : (c1 k a).length = 1 := rfl
theorem flat_leaf {α : Type} {f : α → List AV} (hf : ∀ a, (f a).all AV.leaf = true) : ∀ l : List α, (l.map f).flatten.all AV.leaf = true
  | [] => rfl
  | a :: l => by simp only [List.map_cons, List.flatten_cons, List.all_append, hf a, flat_leaf hf l]; rfl
theorem Group.leaf (g : Group) : g.cells.all AV.leaf = true := rfl
theorem Conf.leaf (c : Conf) : c.cells.all AV.leaf = true := rfl
theorem c1_leaf (k : IntKind) (a : Int) : (c1 k a).all AV.leaf = true := rfl
theorem src_map {α : Type} {f : α → List AV} {s : Nat} (hf : ∀ a, (f a).length = s) (hl : ∀ a, (f a).all AV.leaf = true) (h : Heap) (l : List α) : SrcV h s (.rs s (l.map f)) l.length (l.map f).flatten := by
  have := SrcV.rs (h := h) (s := s) (es := l.map f) (fun e he => by obtain ⟨a, _, rfl⟩ := List.mem_map.1 he; exact hf a) (flat_leaf hl l)
  simpa using this

/-- What is made of its own: two lists. -/
def Own2 (n1 s1 : Nat) (c1 : List AV) (t1 : TypeId) (n2 s2 : Nat) (c2 : List AV) (t2 : TypeId) (v : AV) (h : Heap) : Prop :=
  ∃ b1 b2, v = .agg [.sl b1 0 n1 s1, .sl b2 0 n2 s2] ∧ NewIn (Heap.emp.put b1 ⟨.own, c1, t1, []⟩) b2 ∧ h = (Heap.emp.put b1 ⟨.own, c1, t1, []⟩).put b2 ⟨.own, c2, t2, []⟩

structure SmallT (t : Tables) : Prop where
  g : t.groups.length * 48 ≤ 140737488351232
  c : t.confs.length * 32 ≤ 140737488351232

def Own3 (n1 s1 : Nat) (c1 : List AV) (t1 : TypeId) (n2 s2 : Nat) (c2 : List AV) (t2 : TypeId) (n3 s3 : Nat) (c3 : List AV) (t3 : TypeId) (v : AV) (h : Heap) : Prop :=
  ∃ b1 b2 b3, v = .agg [.sl b1 0 n1 s1, .sl b2 0 n2 s2, .sl b3 0 n3 s3] ∧ NewIn ((Heap.emp.put b1 ⟨.own, c1, t1, []⟩).put b2 ⟨.own, c2, t2, []⟩) b3 ∧ NewIn (Heap.emp.put b1 ⟨.own, c1, t1, []⟩) b2 ∧
    h = ((Heap.emp.put b1 ⟨.own, c1, t1, []⟩).put b2 ⟨.own, c2, t2, []⟩).put b3 ⟨.own, c3, t3, []⟩
structure SmallH (h : Hd) : Prop where
  a : h.aspect.length * 8 ≤ 140737488351232
  i : h.ins.length * 4 ≤ 140737488351232
  w : h.away.length * 4 ≤ 140737488351232
abbrev flat1 (k : IntKind) (l : List Int) : List AV := (l.map (c1 k)).flatten

end Go.Proofs.Ytapijpaeflefoaa.Am.X
