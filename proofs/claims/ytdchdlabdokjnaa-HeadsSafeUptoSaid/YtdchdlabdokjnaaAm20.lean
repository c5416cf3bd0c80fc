/- AM: what is borrowed, and what a call answers of its own, at a call. -/
import Derived.Test.YtdchdlabdokjnaaAm19
namespace Go.Proofs.Ytdchdlabdokjnaa.Am
set_option linter.unusedSectionVars false
open Go
set_option linter.unusedVariables false
set_option linter.unusedSimpArgs false
variable [Tab]

theorem WkArgs.nil {fz} : WkArgs fz [] [] := ⟨rfl, fun i c d h => by simp at h⟩
theorem WkArgs.cons {fz c d cs ds} (h : Wk fz (fun _ => False) c d) (hs : WkArgs fz cs ds) : WkArgs fz (c :: cs) (d :: ds) := by
  refine ⟨by simp [hs.len], fun i x y h1 h2 => ?_⟩
  cases i with
  | zero => simp at h1 h2; subst h1; subst h2; exact h
  | succ i => exact hs.get i x y (by simpa using h1) (by simpa using h2)
theorem WkArgs.keep {fz c cs ds} (hs : WkArgs fz cs ds) : WkArgs fz (c :: cs) (c :: ds) := .cons (.refl _) hs

theorem flat_cut {α : Type} {f : α → List AV} {s : Nat} (hf : ∀ a, (f a).length = s) : ∀ (l : List α) (pre post : List AV) (i : Nat) (e : List AV), (l.map f)[i]? = some e →
    e = ((pre ++ (l.map f).flatten ++ post).drop (pre.length + i * s)).take s
  | [], _, _, i, e, h => by simp at h
  | a :: l, pre, post, 0, e, h => by
    simp at h; subst h
    rw [Nat.zero_mul, Nat.add_zero, List.append_assoc, List.drop_left]
    simp only [List.map_cons, List.flatten_cons, List.append_assoc]
    rw [List.take_append_of_le_length (by rw [hf]; omega), List.take_of_length_le (by rw [hf]; omega)]
  | a :: l, pre, post, i + 1, e, h => by
    have := flat_cut hf l (pre ++ f a) post i e (by simpa using h)
    rw [this]
    simp only [List.map_cons, List.flatten_cons, List.append_assoc, List.length_append, hf]
    rw [show pre.length + s + i * s = pre.length + (i + 1) * s by rw [Nat.succ_mul]; omega]

/-- A stretch of a block, as what is written no more. -/
theorem Wk.cut {α : Type} {f : α → List AV} {h : Heap} {b o n s : Nat} {k : Blk} {nw} (l : List α) (pre post : List AV) (hb : h b = some k) (hc : k.cells = pre ++ (l.map f).flatten ++ post) (ho : pre.length = o) (hn : l.length = n)
    (hf : ∀ a, (f a).length = s) : Wk h.view nw (.sl b o n s) (.rs s (l.map f)) := by
  refine .sl (cs := k.cells) (by simp [Heap.view, hb]) (by simpa using hn) (fun i e he => ?_) (fun e he => ?_)
  · rw [hc, ← ho]; exact flat_cut hf l pre post i e he
  · obtain ⟨a, _, rfl⟩ := List.mem_map.1 he; exact hf a
theorem Wk.all {α : Type} {f : α → List AV} {h : Heap} {b n s : Nat} {k : Blk} {nw} (l : List α) (hb : h b = some k) (hc : k.cells = (l.map f).flatten) (hn : l.length = n)
    (hf : ∀ a, (f a).length = s) : Wk h.view nw (.sl b 0 n s) (.rs s (l.map f)) := Wk.cut l [] [] hb (by simp [hc]) rfl hn hf

theorem noIs_app : ∀ {l m : List AV}, noIs (l ++ m) = (noIs l && noIs m)
  | [], m => by simp [noIs]
  | a :: l, m => by simp [noIs, noIs_app (l := l), Bool.and_assoc]
theorem noIs_flat {α : Type} {f : α → List AV} (hf : ∀ a, noIs (f a) = true) : ∀ l : List α, noIs (l.map f).flatten = true
  | [] => rfl
  | a :: l => by simp [noIs_app, hf a, noIs_flat hf l]
theorem noIs_map {α : Type} {f : α → AV} (hf : ∀ a, (f a).noI = true) : ∀ l : List α, noIs (l.map f) = true
  | [] => rfl
  | a :: l => by simp [noIs, hf a, noIs_map hf l]

/-- What is answered is f of a block of its own. -/
def OwnF (f : Nat → AV) (c : List AV) (t : TypeId) (v : AV) (h : Heap) : Prop := ∃ b, v = f b ∧ h = Heap.emp.put b ⟨.own, c, t, []⟩

section
variable {P : Program} {all : Array Oper} {d : Option Nat} {fl : Bool} {its : List (Oper × Bool)} {e : Env} {h : Heap} {k : Env → Heap → Prop} {g : FuncId} {args args1 : List AV}
theorem gN_ownF {f c t} (hw : wpH P g args Heap.emp (OwnF f c t)) (hk : ∀ b, NewIn h b → gO P all its (putd e d (f b)) (h.put b ⟨.own, c, t, []⟩) k) : gN P all d fl its e h k (.call g args) := by
  refine gN_callE (hw.mono ?_)
  rintro v h1 ⟨b, rfl, rfl⟩ hh
  have n1 : NewIn h b := NewIn.cat hh (b := b) (k := ⟨.own, c, t, []⟩) (by simp only [put_at, if_true])
  simp only [cat_put, cat_emp]
  exact hk b n1
/-- A call of a function that touches nothing, told of what stands here as of what is written no more. -/
theorem gN_brw {v} (hb : WkArgs h.view args args1) (hw : wpP P g args1 v) (hv : v.noI = true) (hk : gO P all its (putd e d v) h k) : gN P all d fl its e h k (.call g args) :=
  gN_callX (wpE_borrow hb (wpH.mono hw fun v' h1 ⟨e1, e2⟩ => by
    subst e1; subst e2
    exact ⟨hv, (fun b k hb => nomatch hb), fun _ => hk⟩))
theorem gN_brwF {f c t} (hb : WkArgs h.view args args1) (hw : wpH P g args1 Heap.emp (OwnF f c t)) (hv : ∀ b, (f b).noI = true) (hc : noIs c = true) (hk : ∀ b, NewIn h b → gO P all its (putd e d (f b)) (h.put b ⟨.own, c, t, []⟩) k) :
    gN P all d fl its e h k (.call g args) :=
  gN_callX (wpE_borrow hb (wpH.mono hw fun v' h1 ⟨b, e1, e2⟩ => by
    subst e1; subst e2
    refine ⟨hv b, fun c' k' hb' => ?_, fun hh => ?_⟩
    · rw [put_at] at hb'
      split at hb'
      · cases hb'; exact ⟨rfl, hc⟩
      · cases hb'
    · have n1 : NewIn h b := NewIn.cat hh (b := b) (k := ⟨.own, c, t, []⟩) (by simp only [put_at, if_true])
      simp only [cat_put, cat_emp]
      exact hk b n1))
end

/-! ### Bytes -/

def by1 (c : UInt8) : List AV := [.int .u8 c.toNat]
abbrev byc (c : UInt8) : AV := .int .u8 c.toNat
theorem by1_len (c) : (by1 c).length = 1 := rfl
theorem by1_leaf (c) : (by1 c).all AV.leaf = true := rfl
theorem by1_noI (c) : noIs (by1 c) = true := rfl
theorem by1_flat (l : List UInt8) : (l.map by1).flatten = l.map byc := by
  induction l with
  | nil => rfl
  | cons x l ih => rw [List.map_cons, List.flatten_cons, ih]; rfl
theorem byc_noIs (l : List UInt8) : noIs (l.map byc) = true := noIs_map (fun _ => rfl) l
theorem byc_leaf (l : List UInt8) : (l.map byc).all AV.leaf = true := by simp [AV.leaf]
theorem xorU8 (x y : UInt8) : bitsA .xor .u8 (x.toNat : Int) (y.toNat : Int) = ((x ^^^ y).toNat : Int) := xor8 x.toBitVec y.toBitVec
theorem Wk.bytes {h : Heap} {b o n : Nat} {k : Blk} {nw} (l : List UInt8) (pre post : List AV) (hb : h b = some k) (hc : k.cells = pre ++ l.map byc ++ post) (ho : pre.length = o) (hn : l.length = n) :
    Wk h.view nw (.sl b o n 1) (.rs 1 (l.map by1)) := Wk.cut l pre post hb (by rw [hc, by1_flat]) ho hn by1_len
theorem Els.bytes (l : List UInt8) (n : Nat) (hn : l.length = n) : Els 1 (l.map by1) n (l.map byc) := Els.of by1_len l (by1_flat l).symm hn
end Go.Proofs.Ytdchdlabdokjnaa.Am
