/- The small abstract machine AM over the model's own code: its values, memory and operations, each operation as a function that can be reckoned out. -/
import Derived.Orders
import Derived.Below
import Derived.Laws.AppendOwn
import Derived.Laws.IdiomCopy
import Derived.Laws.StructEq
namespace Go.Proofs.Ytdchdlabdokjnaa.Am
set_option linter.unusedSectionVars false
open Go
set_option linter.unusedVariables false
set_option linter.unusedSimpArgs false

/-! ### Values -/

inductive AV where
  | any
  | int (k : IntKind) (n : Int)
  | bool (b : Bool)
  | str (s : List UInt8)
  | ptr (b o : Nat)
  | nilptr
  | snil
  | sl (b o n s : Nat)
  | agg (cs : List AV)
  | tup (vs : List AV)
  | fn (f : FuncId) (first cap : List AV)
  | nilfn
  | iface (t : TypeId) (v : AV)
  | nilif
  | mp (b : Nat)
  | nilmp
  | rs (s : Nat) (es : List (List AV))
  | rp (cs : List AV) (o : Nat)
  deriving Inhabited

abbrev AV.undef : AV := .tup []

def AV.cells : AV → List AV
  | .agg cs => cs
  | v => [v]

def AV.leaf : AV → Bool
  | .any | .agg _ | .tup _ => false
  | _ => true

/-- Where an abstract block lies: the machine's block, the first cell; of a block of the run's own: the cells that it has. -/
structure Loc where
  blk : Nat
  off : Nat
  phys : Nat
  own : Bool

/-- Where the abstract blocks lie; which cells of the machine's memory stand as they are for good, and what they hold. -/
structure Ren where
  loc : Nat → Option Loc
  imm : Nat → Nat → Option Value

instance : CoeFun Ren (fun _ => Nat → Option Loc) := ⟨Ren.loc⟩

def Sub (ρ ρ' : Ren) : Prop := (∀ b l, ρ b = some l → ρ' b = some l) ∧ ∀ a o v, ρ.imm a o = some v → ρ'.imm a o = some v
theorem Sub.refl (ρ : Ren) : Sub ρ ρ := ⟨fun _ _ h => h, fun _ _ _ h => h⟩
theorem Sub.trans {a b c : Ren} (h : Sub a b) (k : Sub b c) : Sub a c := ⟨fun x l hx => k.1 x l (h.1 x l hx), fun x o v hx => k.2 x o v (h.2 x o v hx)⟩

inductive VR (ρ : Ren) : AV → Value → Prop
  | any (v) : VR ρ .any v
  | int (k n) : VR ρ (.int k n) (.int k n)
  | bool (b) : VR ρ (.bool b) (.bool b)
  | str (s) : VR ρ (.str s) (.string ⟨s.toArray⟩)
  | ptr {b o l} (h : ρ b = some l) : VR ρ (.ptr b o) (.pointer (some ⟨l.blk, l.off + o, none⟩))
  | nilptr : VR ρ .nilptr (.pointer none)
  | snil : VR ρ .snil (.slice none 0 0)
  | sl {b o n s l cap} (h : ρ b = some l) (hn : n ≤ cap) (hc : l.own = true → l.off + o + cap * s ≤ l.phys) :
      VR ρ (.sl b o n s) (.slice (some ⟨l.blk, l.off + o, none⟩) n cap)
  | sl0 {b o s l} (h : ρ b = some l) (a) : VR ρ (.sl b o 0 s) (.slice a 0 0)
  | agg {cs : List AV} {vs : List Value} (hl : cs.length = vs.length) (h : ∀ (i : Nat) (c : AV) (v : Value), cs[i]? = some c → vs[i]? = some v → VR ρ c v) : VR ρ (.agg cs) (.agg vs.toArray)
  | tup {cs : List AV} {vs : List Value} (hl : cs.length = vs.length) (h : ∀ (i : Nat) (c : AV) (v : Value), cs[i]? = some c → vs[i]? = some v → VR ρ c v) : VR ρ (.tup cs) (.tuple vs.toArray)
  | fn {f : FuncId} {xs ys : List AV} {us vs : List Value} (hx : xs.length = us.length) (h : ∀ (i : Nat) (c : AV) (v : Value), xs[i]? = some c → us[i]? = some v → VR ρ c v)
      (hy : ys.length = vs.length) (h' : ∀ (i : Nat) (c : AV) (v : Value), ys[i]? = some c → vs[i]? = some v → VR ρ c v) : VR ρ (.fn f xs ys) (.func (.func f) us.toArray vs.toArray)
  | nilfn : VR ρ .nilfn .nilFunc
  | iface {t c v} (h : VR ρ c v) : VR ρ (.iface t c) (.iface t v)
  | nilif : VR ρ .nilif .nilIface
  | mp {b l} (h : ρ b = some l) : VR ρ (.mp b) (.map (some l.blk))
  | nilmp : VR ρ .nilmp (.map none)
  | rs {s : Nat} {es : List (List AV)} {blk off n cap : Nat} (vs : Nat → Nat → Value) (hn : es.length = n) (hc : n ≤ cap) (hl : ∀ e ∈ es, e.length = s)
      (h : ∀ (i j : Nat) (e : List AV) (c : AV), es[i]? = some e → e[j]? = some c → VR ρ c (vs i j))
      (hi : ∀ i j : Nat, i < n → j < s → ρ.imm blk (off + (i * s + j)) = some (vs i j)) : VR ρ (.rs s es) (.slice (some ⟨blk, off, none⟩) n cap)
  | rs0 (s a cap) : VR ρ (.rs s []) (.slice a 0 cap)
  | rp {cs : List AV} {o blk off : Nat} (vs : Nat → Value) (h : ∀ (j : Nat) (c : AV), cs[j]? = some c → VR ρ c (vs j))
      (hi : ∀ j : Nat, j < cs.length → ρ.imm blk (off + j) = some (vs j)) : VR ρ (.rp cs o) (.pointer (some ⟨blk, off + o, none⟩))

/-- Lists of values, cell by cell. -/
def VRs (ρ : Ren) (cs : List AV) (vs : List Value) : Prop := cs.length = vs.length ∧ ∀ (i : Nat) (c : AV) (v : Value), cs[i]? = some c → vs[i]? = some v → VR ρ c v

theorem VRs.nil {ρ : Ren} : VRs ρ [] [] := ⟨rfl, fun i c v h => by simp at h⟩
theorem VRs.cons {ρ : Ren} {c v cs vs} (h : VR ρ c v) (hs : VRs ρ cs vs) : VRs ρ (c :: cs) (v :: vs) := by
  refine ⟨by simp [hs.1], fun i c' v' h1 h2 => ?_⟩
  cases i with
  | zero => simp at h1 h2; subst h1; subst h2; exact h
  | succ i => simp at h1 h2; exact hs.2 i _ _ h1 h2
theorem VRs.cons_inv {ρ : Ren} {c cs vs} (h : VRs ρ (c :: cs) vs) : ∃ v vs', vs = v :: vs' ∧ VR ρ c v ∧ VRs ρ cs vs' := by
  cases vs with
  | nil => simp [VRs] at h
  | cons v vs' =>
    refine ⟨v, vs', rfl, h.2 0 _ _ rfl rfl, by have := h.1; simpa using this, fun i c' v' h1 h2 => h.2 (i + 1) _ _ (by simpa using h1) (by simpa using h2)⟩
theorem VRs.append {ρ : Ren} {cs ds vs us} (h : VRs ρ cs vs) (k : VRs ρ ds us) : VRs ρ (cs ++ ds) (vs ++ us) := by
  refine ⟨by simp [h.1, k.1], fun i c v h1 h2 => ?_⟩
  by_cases hi : i < cs.length
  · rw [List.getElem?_append_left hi] at h1
    rw [List.getElem?_append_left (by have := h.1; omega)] at h2
    exact h.2 i _ _ h1 h2
  · rw [List.getElem?_append_right (by omega)] at h1
    rw [List.getElem?_append_right (by have := h.1; omega)] at h2
    exact k.2 (i - cs.length) _ _ h1 (by rw [h.1]; exact h2)
theorem VRs.take {ρ : Ren} {cs vs} (h : VRs ρ cs vs) (n) : VRs ρ (cs.take n) (vs.take n) := by
  refine ⟨by simp [h.1], fun i c v h1 h2 => ?_⟩
  rw [List.getElem?_take] at h1 h2
  split at h1
  · simp_all; exact h.2 i _ _ h1 h2
  · simp at h1
theorem VRs.drop {ρ : Ren} {cs vs} (h : VRs ρ cs vs) (n) : VRs ρ (cs.drop n) (vs.drop n) := by
  refine ⟨by simp [h.1], fun i c v h1 h2 => ?_⟩
  rw [List.getElem?_drop] at h1 h2
  exact h.2 _ _ _ h1 h2
theorem VRs.get {ρ : Ren} {cs : List AV} {vs : List Value} {i : Nat} {c : AV} (h : VRs ρ cs vs) (hc : cs[i]? = some c) : ∃ v, vs[i]? = some v ∧ VR ρ c v := by
  have hi : i < cs.length := by
    by_cases hi : i < cs.length
    · exact hi
    · simp [List.getElem?_eq_none (by omega : cs.length ≤ i)] at hc
  have hv : i < vs.length := by have := h.1; omega
  exact ⟨vs[i], List.getElem?_eq_getElem hv, h.2 i _ _ hc (List.getElem?_eq_getElem hv)⟩
theorem VRs.replicate {ρ : Ren} {c v} (h : VR ρ c v) (n) : VRs ρ (List.replicate n c) (List.replicate n v) := by
  induction n with
  | zero => exact VRs.nil
  | succ n ih => simpa [List.replicate_succ] using VRs.cons h ih
theorem VRs.mk_agg {ρ : Ren} {cs vs} (h : VRs ρ cs vs) : VR ρ (.agg cs) (.agg vs.toArray) := .agg h.1 h.2
theorem VRs.mk_tup {ρ : Ren} {cs vs} (h : VRs ρ cs vs) : VR ρ (.tup cs) (.tuple vs.toArray) := .tup h.1 h.2

theorem VR.agg_inv {ρ : Ren} {cs v} (h : VR ρ (.agg cs) v) : ∃ vs, v = .agg vs.toArray ∧ VRs ρ cs vs := by
  cases h with | agg hl h => exact ⟨_, rfl, hl, h⟩
theorem VR.tup_inv {ρ : Ren} {cs v} (h : VR ρ (.tup cs) v) : ∃ vs, v = .tuple vs.toArray ∧ VRs ρ cs vs := by
  cases h with | tup hl h => exact ⟨_, rfl, hl, h⟩

theorem VR.mono {ρ ρ' : Ren} (hρ : Sub ρ ρ') {c v} (h : VR ρ c v) : VR ρ' c v := by
  induction h with
  | any v => exact .any v
  | int k n => exact .int k n
  | bool b => exact .bool b
  | str s => exact .str s
  | ptr h => exact .ptr (hρ.1 _ _ h)
  | nilptr => exact .nilptr
  | snil => exact .snil
  | sl h hn hc => exact .sl (hρ.1 _ _ h) hn hc
  | sl0 h a => exact .sl0 (hρ.1 _ _ h) a
  | agg hl _ ih => exact .agg hl ih
  | tup hl _ ih => exact .tup hl ih
  | fn hx _ hy _ ih ih' => exact .fn hx ih hy ih'
  | nilfn => exact .nilfn
  | iface _ ih => exact .iface ih
  | nilif => exact .nilif
  | mp h => exact .mp (hρ.1 _ _ h)
  | nilmp => exact .nilmp
  | rs vs hn hc hl _ hi ih => exact .rs vs hn hc hl ih fun i j h1 h2 => hρ.2 _ _ _ (hi i j h1 h2)
  | rs0 s a cap => exact .rs0 s a cap
  | rp vs _ hi ih => exact .rp vs ih fun j hj => hρ.2 _ _ _ (hi j hj)
theorem VRs.mono {ρ ρ' : Ren} (hρ : Sub ρ ρ') {cs vs} (h : VRs ρ cs vs) : VRs ρ' cs vs :=
  ⟨h.1, fun i c v h1 h2 => (h.2 i c v h1 h2).mono hρ⟩

/-- A cell's value is one cell. -/
theorem VR.oneCell {ρ : Ren} {c v} (h : VR ρ c v) (hl : c.leaf = true) : v.oneCell' = true := by
  cases h <;> first | rfl | (simp [AV.leaf] at hl)
theorem VR.cells_leaf {ρ : Ren} {c v} (h : VR ρ c v) (hl : c.leaf = true) : v.cells = #[v] := by
  cases h <;> first | rfl | (simp [AV.leaf] at hl)
theorem VR.cells {ρ : Ren} {c v} (h : VR ρ c v) (hl : c.cells.all AV.leaf = true) : VRs ρ c.cells v.cells.toList := by
  cases h with
  | agg hl' h => exact ⟨hl', h⟩
  | tup hl' h => simp [AV.cells, AV.leaf] at hl
  | any v => simp [AV.cells, AV.leaf] at hl
  | _ => exact VRs.cons (by constructor <;> assumption) VRs.nil

/-! ### Memory -/

inductive St where
  | ro | own | old | dead
  deriving DecidableEq

structure Blk where
  st : St
  cells : List AV
  ety : TypeId
  anc : List Nat

structure Mem where
  blk : Nat → Option Blk
  next : Nat
  fin : ∀ b, next ≤ b → blk b = none

def Mem.put (m : Mem) (b : Nat) (k : Blk) : Mem where
  blk x := if x = b then some k else m.blk x
  next := max m.next (b + 1)
  fin x hx := by
    have h1 : x ≠ b := by omega
    simp only [h1, if_false]
    exact m.fin x (by omega)

theorem Mem.ext' {m n : Mem} (h : ∀ b, m.blk b = n.blk b) (hn : m.next = n.next) : m = n := by
  cases m; cases n; simp at h hn; subst hn; congr; funext b; exact h b
@[simp] theorem Mem.blk_put (m : Mem) (b k x) : (m.put b k).blk x = if x = b then some k else m.blk x := rfl
@[simp] theorem Mem.next_put (m : Mem) (b k) : (m.put b k).next = max m.next (b + 1) := rfl
theorem Mem.put_comm (m : Mem) {b c : Nat} (h : b ≠ c) (k l) : (m.put b k).put c l = (m.put c l).put b k := by
  refine Mem.ext' (fun x => ?_) (by simp; omega)
  simp only [Mem.blk_put]
  by_cases h1 : x = c <;> by_cases h2 : x = b <;> simp_all
theorem Mem.fresh (m : Mem) : m.blk m.next = none := m.fin _ (Nat.le_refl _)

def Mem.kill (m : Mem) : List Nat → Mem
  | [] => m
  | b :: bs => match m.blk b with
    | some k => if k.st = .old then (m.put b { k with st := .dead }).kill bs else m.kill bs
    | none => m.kill bs

/-- What can be read in m can be read in m', and reads the same. -/
def Ext (m m' : Mem) : Prop := ∀ b k, m.blk b = some k → k.st ≠ .dead → ∃ k', m'.blk b = some k' ∧ k'.st ≠ .dead ∧ k'.cells = k.cells ∧ k'.ety = k.ety
theorem Ext.refl (m : Mem) : Ext m m := fun _ k h hd => ⟨k, h, hd, rfl, rfl⟩
theorem Ext.trans {a b c : Mem} (h : Ext a b) (k : Ext b c) : Ext a c := fun x y hx hd => by
  obtain ⟨y1, h1, h2, h3, h4⟩ := h x y hx hd
  obtain ⟨y2, k1, k2, k3, k4⟩ := k x y1 h1 h2
  exact ⟨y2, k1, k2, k3.trans h3, k4.trans h4⟩
theorem Ext.put {m : Mem} {b k} (h : m.blk b = none) : Ext m (m.put b k) := fun x y hx hd => by
  refine ⟨y, ?_, hd, rfl, rfl⟩
  rw [Mem.blk_put, if_neg (by rintro rfl; simp [h] at hx)]
  exact hx

/-! ### Constants, types -/

def ofLeaf : Value → Option AV
  | .int k n => some (.int k n)
  | .bool b => some (.bool b)
  | .string s => some (.str s.data.toList)
  | .pointer none => some .nilptr
  | .slice none 0 0 => some .snil
  | .nilFunc => some .nilfn
  | .nilIface => some .nilif
  | .map none => some .nilmp
  | _ => none

def ofLeafs : List Value → Option (List AV)
  | [] => some []
  | v :: vs => match ofLeaf v, ofLeafs vs with
    | some c, some cs => some (c :: cs)
    | _, _ => none

def ofConst : Value → Option AV
  | .agg cs => (ofLeafs cs.toList).map .agg
  | .tuple _ => none
  | v => ofLeaf v

theorem ofLeaf_VR {ρ : Ren} {v c} (h : ofLeaf v = some c) : VR ρ c v := by
  unfold ofLeaf at h
  split at h <;> simp at h <;> subst h
  · exact .int _ _
  · exact .bool _
  · exact .str _
  · exact .nilptr
  · exact .snil
  · exact .nilfn
  · exact .nilif
  · exact .nilmp
theorem ofLeaf_leaf {v c} (h : ofLeaf v = some c) : c.leaf = true := by
  unfold ofLeaf at h
  split at h <;> simp at h <;> subst h <;> rfl
theorem ofLeafs_VR {ρ : Ren} : ∀ {vs cs}, ofLeafs vs = some cs → VRs ρ cs vs
  | [], cs, h => by simp [ofLeafs] at h; subst h; exact VRs.nil
  | v :: vs, cs, h => by
    simp only [ofLeafs] at h
    split at h
    · rename_i c cs' hc hcs
      simp at h; subst h
      exact VRs.cons (ofLeaf_VR hc) (ofLeafs_VR hcs)
    · simp at h
theorem ofLeafs_leaf : ∀ {vs cs}, ofLeafs vs = some cs → cs.all AV.leaf = true
  | [], cs, h => by simp [ofLeafs] at h; subst h; rfl
  | v :: vs, cs, h => by
    simp only [ofLeafs] at h
    split at h
    · rename_i c cs' hc hcs
      simp at h; subst h
      simp only [List.all_cons, ofLeaf_leaf hc, Bool.true_and]
      exact ofLeafs_leaf hcs
    · simp at h
theorem ofConst_VR {ρ : Ren} {v c} (h : ofConst v = some c) : VR ρ c v := by
  unfold ofConst at h
  split at h
  · rename_i cs
    cases hc : ofLeafs cs.toList with
    | none => simp [hc] at h
    | some cs' => simp [hc] at h; subst h; have := (ofLeafs_VR (ρ := ρ) hc).mk_agg; simpa using this
  · simp at h
  · exact ofLeaf_VR h

inductive TD where
  | int (k : IntKind)
  | bool
  | str
  | slice (e : TypeId)
  | arr (n : Nat) (e : TypeId)
  | struct (fs : List (Nat × TypeId)) (plain : Bool)
  | ptr (e : TypeId)
  | func
  | iface
  | map (k e : TypeId)
  | other

def tdOf (P : Program) (t : TypeId) : TypeDesc → TD
  | .int k => .int k
  | .bool => .bool
  | .string => .str
  | .slice e => .slice e
  | .array n e => .arr n e
  | .struct fs => .struct (fs.toList.map fun f => (f.offset, f.type)) (fs.toList.all (fun f => f.name != "_") && !P.stoodInHeld t && !P.eqGuardType P.depth t)
  | .pointer e => .ptr e
  | .func _ _ _ => .func
  | .interface _ => .iface
  | .map k e => .map k e
  | _ => .other

structure TI where
  d : TD
  size : Nat
  bytes : Nat
  zero : List AV

def TD.isAgg : TD → Bool
  | .struct _ _ | .arr _ _ => true
  | _ => false

def tiOf (P : Program) (t : TypeId) : Option TI :=
  match P.info? t with
  | none => none
  | some i => match P.underlying t, i.zero with
    | some d, some z => match ofLeafs z.cells.toList with
      | some zs => if zs.length = i.size then some { d := tdOf P t d, size := i.size, bytes := i.bytes, zero := zs } else none
      | none => none
    | _, _ => none

theorem tiOf_spec {P : Program} {t ti} (h : tiOf P t = some ti) : ∃ i d z, P.info? t = some i ∧ P.underlying t = some d ∧ i.zero = some z ∧
    ti.d = tdOf P t d ∧ ti.size = i.size ∧ ti.bytes = i.bytes ∧ ofLeafs z.cells.toList = some ti.zero ∧ ti.zero.length = ti.size := by
  unfold tiOf at h
  split at h
  · simp at h
  · rename_i i hi
    split at h
    · rename_i d z hd hz
      split at h
      · rename_i zs hzs
        split at h
        · rename_i hlen
          simp at h; subst h
          exact ⟨i, d, z, hi, hd, hz, rfl, rfl, rfl, hzs, hlen⟩
        · simp at h
      · simp at h
    · simp at h

/-! ### Reckoning -/

def guardO (c : Prop) [Decidable c] {α : Type} (x : Option α) : Option α := if c then x else none
theorem guardO_some {c : Prop} [Decidable c] {α : Type} {x : Option α} {y : α} (h : guardO c x = some y) : c ∧ x = some y := by
  unfold guardO at h; split at h
  · exact ⟨‹_›, h⟩
  · simp at h

/-- A choice's outcome, and what is to hold of it. -/
def wpo {α : Type} (x : Option α) (K : α → Prop) : Prop := ∃ y, x = some y ∧ K y
@[simp] theorem wpo_some {α : Type} (y : α) (K) : wpo (some y) K = K y := by simp [wpo]
@[simp] theorem wpo_none {α : Type} (K : α → Prop) : wpo none K = False := by simp [wpo]
@[simp] theorem wpo_guard {α : Type} (c : Prop) [Decidable c] (x : Option α) (K) : wpo (guardO c x) K = (c ∧ wpo x K) := by
  unfold guardO; split <;> simp_all
@[simp] theorem wpo_bind {α β : Type} (x : Option α) (f : α → Option β) (K) : wpo (x.bind f) K = wpo x fun y => wpo (f y) K := by
  cases x <;> simp
@[simp] theorem wpo_map {α β : Type} (x : Option α) (f : α → β) (K) : wpo (x.map f) K = wpo x fun y => K (f y) := by
  cases x <;> simp
theorem wpo.mono {α : Type} {x : Option α} {K K' : α → Prop} (h : wpo x K) (hk : ∀ y, K y → K' y) : wpo x K' := let ⟨y, e, k⟩ := h; ⟨y, e, hk y k⟩

abbrev Env := Nat → AV

def lk : List (Nat × AV) → Env
  | [], _ => .any
  | (d, v) :: l, i => if i = d then v else lk l i

def put (e : Env) (d : Nat) (v : AV) : Env := fun i => if i = d then v else e i
def putd (e : Env) (d : Option Nat) (v : AV) : Env := match d with
  | some d => put e d v
  | none => e

/-- What the package variables hold that are never written. -/
class Tab where
  cells : Nat → Option (List AV)

variable [Tab]

def ev (P : Program) (e : Env) : Operand → AV
  | .tmp t => e t
  | .const v => (ofConst v).getD .any
  | .global g => match Tab.cells g with
    | some cs => if g < P.globals.size then .rp cs 0 else .any
    | none => if g < P.globals.size then .ptr g 0 else .any
  | .func f => .fn f [] []

def selA : Bool → AV → AV → AV
  | true, x, _ => x
  | false, _, y => y

def bitsA (op : BinOp) (k : IntKind) (a c : Int) : Int :=
  match op with
  | .and => k.wrap (BitVec.ofInt k.bits a &&& BitVec.ofInt k.bits c).toNat
  | .or => k.wrap (BitVec.ofInt k.bits a ||| BitVec.ofInt k.bits c).toNat
  | .xor => k.wrap (BitVec.ofInt k.bits a ^^^ BitVec.ofInt k.bits c).toNat
  | _ => k.wrap (BitVec.ofInt k.bits a &&& ~~~ BitVec.ofInt k.bits c).toNat

def binInt (op : BinOp) (k : IntKind) (a c : Int) : Option AV :=
  match op with
  | .add => some (.int k (k.wrap (a + c)))
  | .sub => some (.int k (k.wrap (a - c)))
  | .mul => some (.int k (k.wrap (a * c)))
  | .quo => guardO (c ≠ 0) (some (.int k (k.wrap (a.tdiv c))))
  | .rem => guardO (c ≠ 0) (some (.int k (a.tmod c)))
  | .and => some (.int k (bitsA .and k a c))
  | .or => some (.int k (bitsA .or k a c))
  | .xor => some (.int k (bitsA .xor k a c))
  | .andNot => some (.int k (bitsA .andNot k a c))
  | .eql => some (.bool (decide (a = c)))
  | .neq => some (.bool (!decide (a = c)))
  | .lss => some (.bool (decide (a < c)))
  | .leq => some (.bool (decide (a ≤ c)))
  | .gtr => some (.bool (decide (a > c)))
  | .geq => some (.bool (decide (a ≥ c)))
  | _ => none

def shlA (k : IntKind) (a c : Int) : Int := k.wrap (a * 2 ^ min c.toNat k.bits)
def shrA (k : IntKind) (a c : Int) : Int := a.fdiv (2 ^ min c.toNat k.bits)

/-- A part of an aggregate. -/
def partA (ti : TI) (cs : List AV) (off : Nat) : Option AV :=
  match ti.d.isAgg with
  | true => guardO (off + ti.size ≤ cs.length) (some (.agg ((cs.drop off).take ti.size)))
  | false => cs[off]?

def eqV (P : Program) : Nat → TypeId → AV → AV → Option Bool
  | 0, _, _, _ => none
  | d + 1, t, x, y => (tiOf P t).bind fun ti => match ti.d, x, y with
    | .int _, .int k a, .int k' c => guardO (k = k') (some (decide (a = c)))
    | .bool, .bool p, .bool q => some (p == q)
    | .str, .str s, .str u => some (decide (s = u))
    | .struct fs true, .agg xs, .agg ys => eqFs d fs xs ys
    | _, _, _ => none
where eqFs (d : Nat) : List (Nat × TypeId) → List AV → List AV → Option Bool
  | [], _, _ => some true
  | (off, ft) :: fs, xs, ys => (tiOf P ft).bind fun fi => (partA fi xs off).bind fun a => (partA fi ys off).bind fun c =>
      (eqV P d ft a c).bind fun r => (eqFs d fs xs ys).bind fun s => some (r && s)

def TD.isBool : TD → Bool
  | .bool => true
  | _ => false
def TD.isPtr : TD → Bool
  | .ptr _ => true
  | _ => false
def TD.isFunc : TD → Bool
  | .func => true
  | _ => false

def eqA (P : Program) (t : TypeId) (x y : AV) : Option Bool :=
  match x, y with
  | .bool p, .bool q => (tiOf P t).bind fun ti => guardO (ti.d.isBool = true) (some (p == q))
  | .ptr _ _, .nilptr => (tiOf P t).bind fun ti => guardO (ti.d.isPtr = true) (some false)
  | .nilptr, .ptr _ _ => (tiOf P t).bind fun ti => guardO (ti.d.isPtr = true) (some false)
  | .nilptr, .nilptr => (tiOf P t).bind fun ti => guardO (ti.d.isPtr = true) (some true)
  | .fn _ _ _, .nilfn => (tiOf P t).bind fun ti => guardO (ti.d.isFunc = true) (some false)
  | .nilfn, .nilfn => (tiOf P t).bind fun ti => guardO (ti.d.isFunc = true) (some true)
  | .agg xs, .agg ys => eqV P 6 t (.agg xs) (.agg ys)
  | _, _ => none

def maxInt : Nat := 9223372036854775807

def binA (P : Program) (op : BinOp) (xt : TypeId) (x y : AV) : Option AV :=
  match x, y with
  | .int k a, .int k' c => match op with
    | .shl => guardO (0 ≤ c) (some (.int k (shlA k a c)))
    | .shr => guardO (0 ≤ c) (some (.int k (shrA k a c)))
    | _ => guardO (k = k') (binInt op k a c)
  | .str s, .str u => match op with
    | .add => guardO (s.length + u.length ≤ maxInt) (some (.str (s ++ u)))
    | .eql => some (.bool (decide (s = u)))
    | .neq => some (.bool (!decide (s = u)))
    | _ => none
  | x, y => match op with
    | .eql => (eqA P xt x y).map .bool
    | .neq => (eqA P xt x y).map fun b => .bool (!b)
    | _ => none

def unA (op : UnOp) (x : AV) : Option AV :=
  match op, x with
  | .not, .bool b => some (.bool (!b))
  | .neg, .int k n => some (.int k (k.wrap (0 - n)))
  | .xor, .int k n => some (.int k (bitsA .xor k (if k.signed then -1 else k.max) n))
  | _, _ => none

/-- Parts laid into cells. -/
def fillA (place : Nat → Option (Nat × Nat)) (cells : List AV) : List (Nat × AV) → Option (List AV)
  | [] => some cells
  | (i, v) :: rest => (place i).bind fun p =>
      guardO (v.cells.all AV.leaf = true) (guardO (v.cells.length = p.2) (guardO (p.1 + v.cells.length ≤ cells.length)
        (fillA place (cells.take p.1 ++ v.cells ++ cells.drop (p.1 + v.cells.length)) rest)))

def placesA (P : Program) : List (Nat × TypeId) → Option (List (Nat × Nat))
  | [] => some []
  | (o, t) :: fs => (tiOf P t).bind fun ti => (placesA P fs).bind fun ps => some ((o, ti.size) :: ps)

def buildA (P : Program) (t : TypeId) (parts : List (Nat × AV)) : Option AV :=
  (tiOf P t).bind fun ti => match ti.d with
    | .struct fs _ => (placesA P fs).bind fun ps => (fillA (fun i => ps[i]?) ti.zero parts).map .agg
    | .arr _ e => (tiOf P e).bind fun ei => (fillA (fun i => some (i * ei.size, ei.size)) ti.zero parts).map .agg
    | _ => none

def fieldOf (P : Program) (t : TypeId) (f : Nat) : Option (Nat × TypeId) :=
  (tiOf P t).bind fun ti => match ti.d with
    | .struct fs _ => fs[f]?
    | _ => none

/-- A bound of a cut. -/
def bndA (o : Option AV) (d : Int) : Option Int := match o with
  | none => some d
  | some (.int _ n) => some n
  | some _ => none

/-- A slice cut out of a slice, or of a string. -/
def sliceA (P : Program) (t : TypeId) (x : AV) (lo hi : Option AV) : Option AV :=
  (tiOf P t).bind fun ti => match ti.d, x with
    | .str, .str s => (bndA lo 0).bind fun l => (bndA hi s.length).bind fun h =>
        guardO (0 ≤ l ∧ l ≤ h ∧ h ≤ (s.length : Int)) (some (.str ((s.drop l.toNat).take (h.toNat - l.toNat))))
    | .slice e, .sl b o n s => (bndA lo 0).bind fun l => (bndA hi n).bind fun h => (tiOf P e).bind fun ei =>
        guardO (s = ei.size) (guardO (0 ≤ l ∧ l ≤ h ∧ h ≤ (n : Int)) (some (.sl b (o + l.toNat * ei.size) (h.toNat - l.toNat) s)))
    | .slice e, .snil => (bndA lo 0).bind fun l => (bndA hi 0).bind fun h => (tiOf P e).bind fun _ => guardO (l = 0 ∧ h = 0) (some .snil)
    | .slice e, .rs s es => (bndA lo 0).bind fun l => (bndA hi es.length).bind fun h => (tiOf P e).bind fun ei =>
        guardO (s = ei.size) (guardO (0 ≤ l ∧ l ≤ h ∧ h ≤ (es.length : Int)) (some (.rs s ((es.drop l.toNat).take (h.toNat - l.toNat)))))
    | _, _ => none

def indexAddrA (P : Program) (t : TypeId) (x i : AV) : Option AV :=
  match i with
  | .int _ n => (tiOf P t).bind fun ti => match ti.d, x with
    | .slice e, .sl b o len _ => (tiOf P e).bind fun ei => guardO (0 ≤ n ∧ n < (len : Int)) (some (.ptr b (o + n.toNat * ei.size)))
    | .arr len e, .ptr b o => (tiOf P e).bind fun ei => guardO (0 ≤ n ∧ n < (len : Int)) (some (.ptr b (o + n.toNat * ei.size)))
    | .slice e, .rs s es => (tiOf P e).bind fun ei => guardO (s = ei.size) (guardO (0 ≤ n) ((es[n.toNat]?).map fun c => .rp c 0))
    | .arr len e, .rp cs o => (tiOf P e).bind fun ei => guardO (0 ≤ n ∧ n < (len : Int)) (some (.rp cs (o + n.toNat * ei.size)))
    | _, _ => none
  | _ => none

def indexA (P : Program) (t : TypeId) (x i : AV) : Option AV :=
  match i with
  | .int _ n => (tiOf P t).bind fun ti => match ti.d, x with
    | .str, .str s => guardO (0 ≤ n) ((s[n.toNat]?).map fun c => .int .u8 c.toNat)
    | .arr len e, .agg cs => (tiOf P e).bind fun ei => guardO (0 ≤ n ∧ n < (len : Int)) (partA ei cs (n.toNat * ei.size))
    | _, _ => none
  | _ => none

def lenA (P : Program) (t : TypeId) (x : AV) : Option AV :=
  (tiOf P t).bind fun ti => match ti.d, x with
    | .str, .str s => some (.int .i64 s.length)
    | .slice _, .sl _ _ n _ => some (.int .i64 n)
    | .slice _, .snil => some (.int .i64 0)
    | .slice _, .rs _ es => some (.int .i64 es.length)
    | .arr n _, _ => some (.int .i64 n)
    | _, _ => none

def max2A : AV → AV → Option AV
  | .int k x, .int k' y => guardO (k = k') (some (.int k (if y > x then y else x)))
  | _, _ => none
def min2A : AV → AV → Option AV
  | .int k x, .int k' y => guardO (k = k') (some (.int k (if y < x then y else x)))
  | _, _ => none
def foldA (f : AV → AV → Option AV) : AV → List AV → Option AV
  | x, [] => some x
  | x, y :: ys => (f x y).bind fun z => foldA f z ys

def convA (P : Program) (src dst : TypeId) (x : AV) : Option AV :=
  match x with
  | .int _ n => (tiOf P src).bind fun _ => (tiOf P dst).bind fun ti => match ti.d with
    | .int k => some (.int k (k.wrap n))
    | _ => none
  | .str s => (tiOf P src).bind fun si => (tiOf P dst).bind fun ti => match si.d, ti.d with
    | .str, .str => some (.str s)
    | _, _ => none
  | _ => none

/-- What touches no memory. -/
def pureA (P : Program) (e : Env) : Op → Option AV
  | .move x => some (ev P e x)
  | .assign x => some (ev P e x)
  | .pick c x y => match ev P e c with
    | .bool t => some (selA t (ev P e x) (ev P e y))
    | _ => none
  | .nilCheck x => match ev P e x with
    | .ptr b o => some (.ptr b o)
    | .rp cs o => some (.rp cs o)
    | .fn f a c => some (.fn f a c)
    | _ => none
  | .binOp op xt x y _ => binA P op xt (ev P e x) (ev P e y)
  | .unOp op _ x => unA op (ev P e x)
  | .convert s d x => convA P s d (ev P e x)
  | .build t parts => buildA P t (parts.toList.map fun (i, x) => (i, ev P e x))
  | .field t x f => match ev P e x with
    | .agg cs => (fieldOf P t f).bind fun (off, ft) => (tiOf P ft).bind fun fi => partA fi cs off
    | _ => none
  | .fieldAddr t x f => match ev P e x with
    | .ptr b o => (fieldOf P t f).bind fun (off, ft) => (tiOf P ft).bind fun fi => guardO (0 < fi.size) (some (.ptr b (o + off)))
    | .rp cs o => (fieldOf P t f).bind fun (off, ft) => (tiOf P ft).bind fun fi => guardO (0 < fi.size) (some (.rp cs (o + off)))
    | _ => none
  | .indexAddr t x i => indexAddrA P t (ev P e x) (ev P e i)
  | .index t x i => indexA P t (ev P e x) (ev P e i)
  | .extract x i => match ev P e x with
    | .tup vs => vs[i]?
    | _ => none
  | .slice t x lo hi none => sliceA P t (ev P e x) (lo.map (ev P e)) (hi.map (ev P e))
  | .makeFunc (.func f) first cap => some (.fn f (first.toList.map (ev P e)) (cap.toList.map (ev P e)))
  | .call { callee := .builtin b, args, argTypes } => match b, args.toList.map (ev P e), argTypes.toList with
    | .len, x :: _, t :: _ => lenA P t x
    | .max, x :: xs, _ => foldA max2A x xs
    | .min, x :: xs, _ => foldA min2A x xs
    | _, _, _ => none
  | _ => none

/-- Cells as bytes. -/
def bytesA : List AV → Option (List UInt8)
  | [] => some []
  | .int .u8 n :: cs => (bytesA cs).map fun bs => UInt8.ofNat n.toNat :: bs
  | _ => none

/-- What only reads memory. -/
def loadA (P : Program) (e : Env) (m : Mem) : Op → Option AV
  | .load t a => match ev P e a with
    | .ptr b o => (m.blk b).bind fun k => guardO (k.st ≠ .dead) ((tiOf P t).bind fun ti => partA ti k.cells o)
    | .rp cs o => (tiOf P t).bind fun ti => partA ti cs o
    | _ => none
  | .convert src dst x => match ev P e x with
    | .sl b o n _ => (tiOf P src).bind fun si => (tiOf P dst).bind fun di => match si.d, di.d with
      | .slice et, .str => (tiOf P et).bind fun ei => match ei.d with
        | .int .u8 => (m.blk b).bind fun k => guardO (k.st ≠ .dead) (guardO (o + n ≤ k.cells.length) ((bytesA ((k.cells.drop o).take n)).map .str))
        | _ => none
      | _, _ => none
    | .snil => (tiOf P src).bind fun si => (tiOf P dst).bind fun di => match si.d, di.d with
      | .slice et, .str => (tiOf P et).bind fun ei => match ei.d with
        | .int .u8 => some (.str [])
        | _ => none
      | _, _ => none
    | .rs s es => (tiOf P src).bind fun si => (tiOf P dst).bind fun di => match si.d, di.d with
      | .slice et, .str => (tiOf P et).bind fun ei => match ei.d with
        | .int .u8 => guardO (s = 1) ((bytesA es.flatten).map .str)
        | _ => none
      | _, _ => none
    | _ => none
  | _ => none

def repl (n : Nat) (z : List AV) : List AV := (List.replicate n z).flatten

/-- What makes a new block and touches no other. -/
def allocA (P : Program) (e : Env) (b : Nat) : Op → Option (AV × Blk)
  | .alloc t => (tiOf P t).bind fun ti => some (.ptr b 0, ⟨.own, ti.zero, t, []⟩)
  | .box t x => (tiOf P t).bind fun ti => guardO ((ev P e x).cells.all AV.leaf = true) (guardO ((ev P e x).cells.length = ti.size) (some (.ptr b 0, ⟨.own, (ev P e x).cells, t, []⟩)))
  | .buildSlice t len parts => (tiOf P t).bind fun ti => match ti.d with
    | .slice et => (tiOf P et).bind fun ei => guardO (0 < ei.size) (guardO (len * ei.size ≤ 16777216)
        ((fillA (fun i => some (i * ei.size, ei.size)) (repl len ei.zero) (parts.toList.map fun (i, x) => (i, ev P e x))).map fun cs => (.sl b 0 len ei.size, ⟨.own, cs, et, []⟩)))
    | _ => none
  | .makeSlice t l c => match ev P e l, ev P e c with
    | .int _ l, .int _ c => (tiOf P t).bind fun ti => match ti.d with
      | .slice et => (tiOf P et).bind fun ei => guardO (0 < ei.size) (guardO (0 ≤ l ∧ l ≤ c) (guardO (ei.bytes * c.toNat ≤ 281474976710656 ∧ c.toNat ≤ maxInt)
          (some (.sl b 0 l.toNat ei.size, ⟨.own, repl l.toNat ei.zero, et, []⟩))))
      | _ => none
    | _, _ => none
  | .convert src dst x => match ev P e x with
    | .str s => (tiOf P src).bind fun si => (tiOf P dst).bind fun di => match si.d, di.d with
      | .str, .slice et => (tiOf P et).bind fun ei => match ei.d with
        | .int .u8 => guardO (ei.size = 1) (guardO (s.length ≤ maxInt) (some (.sl b 0 s.length 1, ⟨.own, s.map fun c => .int .u8 c.toNat, et, []⟩)))
        | _ => none
      | _, _ => none
    | _ => none
  | _ => none

def lenOfA : AV → Option Nat
  | .snil => some 0
  | .sl _ _ n _ => some n
  | .rs _ es => some es.length
  | .str s => some s.length
  | _ => none

/-- The cells of what is appended or copied. -/
def srcA (m : Mem) (esz : Nat) : AV → Option (List AV)
  | .snil => some []
  | .sl b o n _ => if n = 0 then some [] else (m.blk b).bind fun k => guardO (k.st ≠ .dead) (guardO (o + n * esz ≤ k.cells.length) (some ((k.cells.drop o).take (n * esz))))
  | .rs s es => guardO (s = esz) (some es.flatten)
  | .str s => some (s.map fun c => .int .u8 c.toNat)
  | _ => none

def appendA (P : Program) (m : Mem) (b' : Nat) (t : TypeId) (s x : AV) : Option (AV × Mem) :=
  (tiOf P t).bind fun ti => match ti.d with
    | .slice et => (tiOf P et).bind fun ei => guardO (0 < ei.size) ((lenOfA x).bind fun n =>
        if n = 0 then (match s with | .snil => some (s, m) | .sl _ _ _ _ => some (s, m) | _ => none) else
        (srcA m ei.size x).bind fun news => guardO (news.length = n * ei.size) (guardO (news.all AV.leaf = true) (match s with
          | .snil => guardO (n * ei.bytes ≤ 140737488355328 ∧ n ≤ maxInt) (some (.sl b' 0 n ei.size, m.put b' ⟨.own, news, et, []⟩))
          | .sl b o len sz => guardO (sz = ei.size) ((m.blk b).bind fun k => guardO (k.st = .own) (guardO (k.ety = et) (guardO (o + len * ei.size = k.cells.length) (guardO ((len + n) * ei.bytes ≤ 140737488355328 ∧ len + n ≤ maxInt)
              (some (.sl b' 0 (len + n) ei.size, (m.put b { k with st := .old }).put b' ⟨.own, k.cells.drop o ++ news, et, b :: k.anc⟩))))))
          | _ => none)))
    | _ => none

/-- A block's cells, some of them written. -/
def storeIn (m : Mem) (b : Nat) (k : Blk) (o : Nat) (cs : List AV) : Mem :=
  (m.put b { k with cells := k.cells.take o ++ cs ++ k.cells.drop (o + cs.length), anc := [] }).kill k.anc

/-- What writes memory. -/
def serA (P : Program) (e : Env) (m : Mem) (b' : Nat) : Op → Option (AV × Mem)
  | .store t a x => match ev P e a with
    | .ptr b o => (m.blk b).bind fun k => guardO (k.st = .own) ((tiOf P t).bind fun ti =>
        guardO (0 < ti.size) (guardO ((ev P e x).cells.all AV.leaf = true) (guardO ((ev P e x).cells.length = ti.size) (guardO (o + (ev P e x).cells.length ≤ k.cells.length)
          (some (.undef, storeIn m b k o (ev P e x).cells))))))
    | _ => none
  | .call { callee := .builtin .append, args, argTypes } => match args.toList.map (ev P e), argTypes.toList with
    | [s, x], [t, u] => (tiOf P u).bind fun ui => match ui.d with
      | .slice _ => appendA P m b' t s x
      | .str => appendA P m b' t s x
      | _ => none
    | _, _ => none
  | _ => none

inductive Cls where
  | pur | lod | alc | ser
  deriving DecidableEq

end Go.Proofs.Ytdchdlabdokjnaa.Am
