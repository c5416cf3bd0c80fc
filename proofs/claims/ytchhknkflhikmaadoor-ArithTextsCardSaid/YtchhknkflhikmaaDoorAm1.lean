/- The small abstract machine AM over the model's own code: its values, memory and operations, each operation as a function that can be reckoned out. -/
import Derived.Orders
import Derived.Below
import Derived.Laws.AppendOwn
import Derived.Laws.IdiomCopy
import Derived.Laws.StructEq
namespace Go.Proofs.YtchhknkflhikmaaDoor.Am
set_option linter.unusedSectionVars false
open Go
set_option linter.unusedVariables false
set_option linter.unusedSimpArgs false

/-! ### Values -/

inductive AV where
  | any
  | int (k : IntKind) (n : Int)
  | bool (b : Bool)
  | str (s : List UInt8)
  | ptr (b o : Nat)
  | nilptr
  | snil
  | sl (b o n s : Nat)
  | agg (cs : List AV)
  | tup (vs : List AV)
  | fn (f : FuncId) (first cap : List AV)
  | nilfn
  | iface (t : TypeId) (v : AV)
  | nilif
  | mp (b : Nat)
  | nilmp
  | rs (s : Nat) (es : List (List AV))
  | rp (cs : List AV) (o : Nat)
  deriving Inhabited

abbrev AV.undef : AV := .tup []

def AV.cells : AV → List AV
  | .agg cs => cs
  | v => [v]

def AV.leaf : AV → Bool
  | .any | .agg _ | .tup _ => false
  | _ => true

/-- Where an abstract block lies: the machine's block, the first cell; of a block of the run's own: the cells that it has. -/
structure Loc where
  blk : Nat
  off : Nat
  phys : Nat
  own : Bool

/-- Where the abstract blocks lie; which cells of the machine's memory stand as they are for good, and what they hold. -/
structure Ren where
  loc : Nat → Option Loc
  imm : Nat → Nat → Option Value

instance : CoeFun Ren (fun _ => Nat → Option Loc) := ⟨Ren.loc⟩

def Sub (ρ ρ' : Ren) : Prop := (∀ b l, ρ b = some l → ρ' b = some l) ∧ ∀ a o v, ρ.imm a o = some v → ρ'.imm a o = some v
theorem Sub.refl (ρ : Ren) : Sub ρ ρ := ⟨fun _ _ h => h, fun _ _ _ h => h⟩
theorem Sub.trans {a b c : Ren} (h : Sub a b) (k : Sub b c) : Sub a c := ⟨fun x l hx => k.1 x l (h.1 x l hx), fun x o v hx => k.2 x o v (h.2 x o v hx)⟩

inductive VR (ρ : Ren) : AV → Value → Prop
  | any (v) : VR ρ .any v
  | int (k n) : VR ρ (.int k n) (.int k n)
  | bool (b) : VR ρ (.bool b) (.bool b)
  | str (s) : VR ρ (.str s) (.string ⟨s.toArray⟩)
  | ptr {b o l} (h : ρ b = some l) : VR ρ (.ptr b o) (.pointer (some ⟨l.blk, l.off + o, none⟩))
  | nilptr : VR ρ .nilptr (.pointer none)
  | snil : VR ρ .snil (.slice none 0 0)
  | sl {b o n s l cap} (h : ρ b = some l) (hn : n ≤ cap) (hc : l.own = true → l.off + o + cap * s ≤ l.phys) :
      VR ρ (.sl b o n s) (.slice (some ⟨l.blk, l.off + o, none⟩) n cap)
  | sl0 {b o s l} (h : ρ b = some l) (a) : VR ρ (.sl b o 0 s) (.slice a 0 0)
  | agg {cs : List AV} {vs : List Value} (hl : cs.length = vs.length) (h : ∀ (i : Nat) (c : AV) (v : Value), cs[i]? = some c → vs[i]? = some v → VR ρ c v) : VR ρ (.agg cs) (.agg vs.toArray)
  | tup {cs : List AV} {vs : List Value} (hl : cs.length = vs.length) (h : ∀ (i : Nat) (c : AV) (v : Value), cs[i]? = some c → vs[i]? = some v → VR ρ c v) : VR ρ (.tup cs) (.tuple vs.toArray)
  | fn {f : FuncId} {xs ys : List AV} {us vs : List Value} (hx : xs.length = us.length) (h : ∀ (i : Nat) (c : AV) (v : Value), xs[i]? = some c → us[i]? = some v → VR ρ c v)
      (hy : ys.length = vs.length) (h' : ∀ (i : Nat) (c : AV) (v : Value), ys[i]? = some c → vs[i]? = some v → VR ρ c v) : VR ρ (.fn f xs ys) (.func (.func f) us.toArray vs.toArray)
  | nilfn : VR ρ .nilfn .nilFunc
  | iface {t c v} (h : VR ρ c v) : VR ρ (.iface t c) (.iface t v)
  | nilif : VR ρ .nilif .nilIface
  | mp {b l} (h : ρ b = some l) : VR ρ (.mp b) (.map (some l.blk))
  | nilmp : VR ρ .nilmp (.map none)
  | rs {s : Nat} {es : List (List AV)} {blk off n cap : Nat} (vs : Nat → Nat → Value) (hn : es.length = n) (hc : n ≤ cap) (hl : ∀ e ∈ es, e.length = s)
      (h : ∀ (i j : Nat) (e : List AV) (c : AV), es[i]? = some e → e[j]? = some c → VR ρ c (vs i j))
      (hi : ∀ i j : Nat, i < n → j < s → ρ.imm blk (off + (i * s + j)) = some (vs i j)) : VR ρ (.rs s es) (.slice (some ⟨blk, off, none⟩) n cap)
  | rs0 (s a cap) : VR ρ (.rs s []) (.slice a 0 cap)
  | rp {cs : List AV} {o blk off : Nat} (vs : Nat → Value) (h : ∀ (j : Nat) (c : AV), cs[j]? = some c → VR ρ c (vs j))
      (hi : ∀ j : Nat, j < cs.length → ρ.imm blk (off + j) = some (vs j)) : VR ρ (.rp cs o) (.pointer (some ⟨blk, off + o, none⟩))

/-- Lists of values, cell by cell. -/
def VRs (ρ : Ren) (cs : List AV) (vs : List Value) : Prop := cs.length = vs.length ∧ ∀ (i : Nat) (c : AV) (v : Value), cs[i]? = some c → vs[i]? = some v → VR ρ c v

theorem VRs.nil {ρ : Ren} : VRs ρ [] [] := ⟨rfl, fun i c v h => by simp at h⟩
theorem VRs.cons {ρ : Ren} {c v cs vs} (h : VR ρ c v) (hs : VRs ρ cs vs) : VRs ρ (c :: cs) (v :: vs) := by
  refine ⟨by simp [hs.1], fun i c' v' h1 h2 => ?_⟩
  cases i with
  | zero => simp at h1 h2; subst h1; subst h2; exact h
  | succ i => simp at h1 h2; exact hs.2 i _ _ h1 h2
theorem VRs.cons_inv {ρ : Ren} {c cs vs} (h : VRs ρ (c :: cs) vs) : ∃ v vs', vs = v :: vs' ∧ VR ρ c v ∧ VRs ρ cs vs' := by
  cases vs with
  | nil => simp [VRs] at h
  | cons v vs' =>
    refine ⟨v, vs', rfl, h.2 0 _ _ rfl rfl, by have := h.1; simpa using this, fun i c' v' h1 h2 => h.2 (i + 1) _ _ (by simpa using h1) (by simpa using h2)⟩
theorem VRs.append {ρ : Ren} {cs ds vs us} (h : VRs ρ cs vs) (k : VRs ρ ds us) : VRs ρ (cs ++ ds) (vs ++ us) := by
  refine ⟨by simp [h.1, k.1], fun i c v h1 h2 => ?_⟩
  by_cases hi : i < cs.length
  · rw [List.getElem?_append_left hi] at h1
    rw [List.getElem?_append_left (by have := h.1; omega)] at h2
    exact h.2 i _ _ h1 h2
  · rw [List.getElem?_append_right (by omega)] at h1
    rw [List.getElem?_append_right (by have := h.1; omega)] at h2
    exact k.2 (i - cs.length) _ _ h1 (by rw [h.1]; exact h2)
theorem VRs.take {ρ : Ren} {cs vs} (h : VRs ρ cs vs) (n) : VRs ρ (cs.take n) (vs.take n) := by
  refine ⟨by simp [h.1], fun i c v h1 h2 => ?_⟩
  rw [List.getElem?_take] at h1 h2
  split at h1
  · simp_all; exact h.2 i _ _ h1 h2
  · simp at h1
theorem VRs.drop {ρ : Ren} {cs vs} (h : VRs ρ cs vs) (n) : VRs ρ (cs.drop n) (vs.drop n) := by
  refine ⟨by simp [h.1], fun i c v h1 h2 => ?_⟩
  rw [List.getElem?_drop] at h1 h2
  exact h.2 _ _ _ h1 h2
theorem VRs.get {ρ : Ren} {cs : List AV} {vs : List Value} {i : Nat} {c : AV} (h : VRs ρ cs vs) (hc : cs[i]? = some c) : ∃ v, vs[i]? = some v ∧ VR ρ c v := by
  have hi : i < cs.length := by
    by_cases hi : i < cs.length
    · exact hi
    · simp [List.getElem?_eq_none (by omega : cs.length ≤ i)] at hc
  have hv : i < vs.length := by have := h.1; omega
  exact ⟨vs[i], List.getElem?_eq_getElem hv, h.2 i _ _ hc (List.getElem?_eq_getElem hv)⟩
theorem VRs.replicate {ρ : Ren} {c v} (h : VR ρ c v) (n) : VRs ρ (List.replicate n c) (List.replicate n v) := by
  induction n with
  | zero => exact VRs.nil
  | succ n ih => simpa [List.replicate_succ] using VRs.cons h ih
theorem VRs.mk_agg {ρ : Ren} {cs vs} (h : VRs ρ cs vs) : VR ρ (.agg cs) (.agg vs.toArray) := .agg h.1 h.2
theorem VRs.mk_tup {ρ : Ren} {cs vs} (h : VRs ρ cs vs) : VR ρ (.tup cs) (.tuple vs.toArray) := .tup h.1 h.2

theorem VR.agg_inv {ρ : Ren} {cs v} (h : VR ρ (.agg cs) v) : ∃ vs, v = .agg vs.toArray ∧ VRs ρ cs vs := by
  cases h with | agg hl h => exact ⟨_, rfl, hl, h⟩
theorem VR.tup_inv {ρ : Ren} {cs v} (h : VR ρ (.tup cs) v) : ∃ vs, v = .tuple vs.toArray ∧ VRs ρ cs vs := by
  cases h with | tup hl h => exact ⟨_, rfl, hl, h⟩

theorem VR.mono {ρ ρ' : Ren} (hρ : Sub ρ ρ') {c v} (h : VR ρ c v) : VR ρ' c v := by
  induction h with
  | any v => exact .any v
  | int k n => exact .int k n
  | bool b => exact .bool b
  | str s => exact .str s
  | ptr h => exact .ptr (hρ.1 _ _ h)
  | nilptr => exact .nilptr
  | snil => exact .snil
  | sl h hn hc => exact .sl (hρ.1 _ _ h) hn hc
  | sl0 h a => exact .sl0 (hρ.1 _ _ h) a
  | agg hl _ ih => exact .agg hl ih
  | tup hl _ ih => exact .tup hl ih
  | fn hx _ hy _ ih ih' => exact .fn hx ih hy ih'
  | nilfn => exact .nilfn
  | iface _ ih => exact .iface ih
  | nilif => exact .nilif
  | mp h => exact .mp (hρ.1 _ _ h)
  | nilmp => exact .nilmp
  | rs vs hn hc hl _ hi ih => exact .rs vs hn hc hl ih fun i j h1 h2 => hρ.2 _ _ _ (hi i j h1 h2)
  | rs0 s a cap => exact .rs0 s a cap
  | rp vs _ hi ih => exact .rp vs ih fun j hj => hρ.2 _ _ _ (hi j hj)
theorem VRs.mono {ρ ρ' : Ren} (hρ : Sub ρ ρ') {cs vs} (h : VRs ρ cs vs) : VRs ρ' cs vs :=
  ⟨h.1, fun i c v h1 h2 => (h.2 i c v h1 h2).mono hρ⟩

/-- A cell's value is one cell. -/
theorem VR.oneCell {ρ : Ren} {c v} (h : VR ρ c v) (hl : c.leaf = true) : v.oneCell' = true := by
  cases h <;> first | rfl | (simp [AV.leaf] at hl)
theorem VR.cells_leaf {ρ : Ren} {c v} (h : VR ρ c v) (hl : c.leaf = true) : v.cells = #[v] := by
  cases h <;> first | rfl | (simp [AV.leaf] at hl)
theorem VR.cells {ρ : Ren} {c v} (h : VR ρ c v) (hl : c.cells.all AV.leaf = true) : VRs ρ c.cells v.cells.toList := by
  cases h with
  | agg hl' h => exact ⟨hl', h⟩
  | tup hl' h => simp [AV.cells, AV.leaf] at hl
  | any v => simp [AV.cells, AV.leaf] at hl
  | _ => exact VRs.cons (by constructor <;> assumption) VRs.nil

/-! ### Memory -/

inductive St where
  | ro | own | old | dead
  deriving DecidableEq

structure Blk where
  st : St
  cells : List AV
  ety : TypeId
  anc : List Nat

structure Mem where
  blk : Nat → Option Blk
  next : Nat
  fin : ∀ b, next ≤ b → blk b = none

def Mem.put (m : Mem) (b : Nat) (k : Blk) : Mem where
  blk x := if x = b then some k else m.blk x
  next := max m.next (b + 1)
  fin x hx := by
    have h1 : x ≠ b := by omega
    simp only [h1, if_false]
    exact m.fin x (by omega)

theorem Mem.ext' {m n : Mem} (h : ∀ b, m.blk b = n.blk b) (hn : m.next = n.next) : m = n := by
  cases m; cases n; simp at h hn; subst hn; congr; funext b; exact h b
@[simp] theorem Mem.blk_put (m : Mem) (b k x) : (m.put b k).blk x = if x = b then some k else m.blk x := rfl
@[simp] theorem Mem.next_put (m : Mem) (b k) : (m.put b k).next = max m.next (b + 1) := rfl
theorem Mem.put_comm (m : Mem) {b c : Nat} (h : b ≠ c) (k l) : (m.put b k).put c l = (m.put c l).put b k := by
  refine Mem.ext' (fun x => ?_) (by simp; omega)
  simp only [Mem.blk_put]
  by_cases h1 : x = c <;> by_cases h2 : x = b <;> simp_all
theorem Mem.fresh (m : Mem) : m.blk m.next = none := m.fin _ (Nat.le_refl _)

def Mem.kill (m : Mem) : List Nat → Mem
  | [] => m
  | b :: bs => match m.blk b with
    | some k => if k.st = .old then (m.put b { k with st := .dead }).kill bs else m.kill bs
    | none => m.kill bs

/-- What can be read in m can be read in m', and reads the same. -/
def Ext (m m' : Mem) : Prop := ∀ b k, m.blk b = some k → k.st ≠ .dead → ∃ k', m'.blk b = some k' ∧ k'.st ≠ .dead ∧ k'.cells = k.cells ∧ k'.ety = k.ety
theorem Ext.refl (m : Mem) : Ext m m := fun _ k h hd => ⟨k, h, hd, rfl, rfl⟩
theorem Ext.trans {a b c : Mem} (h : Ext a b) (k : Ext b c) : Ext a c := fun x y hx hd => by
  obtain ⟨y1, h1, h2, h3, h4⟩ := h x y hx hd
  obtain ⟨y2, k1, k2, k3, k4⟩ := k x y1 h1 h2
  exact ⟨y2, k1, k2, k3.trans h3, k4.trans h4⟩
theorem Ext.put {m : Mem} {b k} (h : m.blk b = none) : Ext m (m.put b k) := fun x y hx hd => by
  refine ⟨y, ?_, hd, rfl, rfl⟩
  rw [Mem.blk_put, if_neg (by rintro rfl; simp [h] at hx)]
  exact hx

/-! ### Constants, types -/

def ofLeaf : Value → Option AV
  | .int k n => some (.int k n)
  | .bool b => some (.bool b)
  | .string s => some (.str s.data.toList)
  | .pointer none => some .nilptr
  | .slice none 0 0 => some .snil
  | .nilFunc => some .nilfn
  | .nilIface => some .nilif
  | .map none => some .nilmp
  | _ => none

def ofLeafs : List Value → Option (List AV)
  | [] => some []
  | v :: vs => match ofLeaf v, ofLeafs vs with
    | some c, some cs => some (c :: cs)
    | _, _ => none

def ofConst : Value → Option AV
  | .agg cs => (ofLeafs cs.toList).map .agg
  | .tuple _ => none
  | v => ofLeaf v

theorem ofLeaf_VR {ρ : Ren} {v c} (h : ofLeaf v = some c) : VR ρ c v := by
  unfold ofLeaf at h
  split at h <;> simp at h <;> subst h
  · exact .int _ _
  · exact .bool _
  · exact .str _
  · exact .nilptr
  · exact .snil
  · exact .nilfn
  · exact .nilif
  · exact .nilmp
theorem ofLeaf_leaf {v c} (h : ofLeaf v = some c) : c.leaf = true := by
  unfold ofLeaf at h
  split at h <;> simp at h <;> subst h <;> rfl
theorem ofLeafs_VR {ρ : Ren} : ∀ {vs cs}, ofLeafs vs = some cs → VRs ρ cs vs
  | [], cs, h => by simp [ofLeafs] at h; subst h; exact VRs.nil
  | v :: vs, cs, h => by
    simp only [ofLeafs] at h
    split at h
    · rename_i c cs' hc hcs
      simp at h; subst h
      exact VRs.cons (ofLeaf_VR hc) (ofLeafs_VR hcs)
    · simp at h
theorem ofLeafs_leaf : ∀ {vs cs}, ofLeafs vs = some cs → cs.all AV.leaf = true
  | [], cs, h => by simp [ofLeafs] at h; subst h; rfl
  | v :: vs, cs, h => by
    simp only [ofLeafs] at h
    split at h
    · rename_i c cs' hc hcs
      simp at h; subst h
      simp only [List.all_cons, ofLeaf_leaf hc, Bool.true_and]
      exact ofLeafs_leaf hcs
    · simp at h
theorem ofConst_VR {ρ : Ren} {v c} (h : ofConst v = some c) : VR ρ c v := by
  unfold ofConst at h
  split at h
  · rename_i cs
    cases hc : ofLeafs cs.toList with
    | none => simp [hc] at h
    | some cs' => simp [hc] at h; subst h; have := (ofLeafs_VR (ρ := ρ) hc).mk_agg; simpa using this
  · simp at h
  · exact ofLeaf_VR h

inductive TD where
  | int (k : IntKind)
  | bool
  | str
  | slice (e : TypeId)
  | arr (n : Nat) (e : TypeId)
  | struct (fs : List (Nat × TypeId)) (plain : Bool)
  | ptr (e : TypeId)
  | func
  | iface
  | map (k e : TypeId)
  | other

def tdOf (P : Program) (t : TypeId) : TypeDesc → TD
  | .int k => .int k
  | .bool => .bool
  | .string => .str
  | .slice e => .slice e
  | .array n e => .arr n e
  | .struct fs => .struct (fs.toList.map fun f => (f.offset, f.type)) (fs.toList.all (fun f => f.name != "_") && !P.stoodInHeld t && !P.eqGuardType P.depth t)
  | .pointer e => .ptr e
  | .func _ _ _ => .func
  | .interface _ => .iface
  | .map k e => .map k e
  | _ => .other

structure TI where
  d : TD
  size : Nat
  bytes : Nat
  zero : List AV

def TD.isAgg : TD → Bool
  | .struct _ _ | .arr _ _ => true
  | _ => false

def tiOf (P : Program) (t : TypeId) : Option TI :=
  match P.info? t with
  | none => none
  | some i => match P.underlying t, i.zero with
    | some d, some z => match ofLeafs z.cells.toList with
      | some zs => if zs.length = i.size then some { d := tdOf P t d, size := i.size, bytes := i.bytes, zero := zs } else none
      | none => none
    | _, _ => none

theorem tiOf_spec {P : Program} {t ti} (h : tiOf P t = some ti) : ∃ i d z, P.info? t = some i ∧ P.underlying t = some d ∧ i.zero = some z ∧
    ti.d = tdOf P t d ∧ ti.size = i.size ∧ ti.bytes = i.bytes ∧ ofLeafs z.cells.toList = some ti.zero ∧ ti.zero.length = ti.size := by
  unfold tiOf at h
  split at h
  · simp at h
  · rename_i i hi
    split at h
    · rename_i d z hd hz
      split at h
      · rename_i zs hzs
        split at h
        · rename_i hlen
          simp at h; subst h
          exact ⟨i, d, z, hi, hd, hz, rfl, rfl, rfl, hzs, hlen⟩
        · simp at h
      · simp at h
    · simp at h

/-! ### Reckoning -/

def guardO (c : Prop) [Decidable c] {α : Type} (x : Option α) : Option α := if c then x else none
theorem guardO_some {c : Prop} [Decidable c] {α : Type} {x : Option α} {y : α} (h : guardO c x = some y) : c ∧ x = some y := by
  unfold guardO at h; split at h
  · exact ⟨‹_›, h⟩
  · simp at h

/-- A choice's outcome, and what is to hold of it. -/
def wpo {α : Type} (x : Option α) (K : α → Prop) : Prop := ∃ y, x = some y ∧ K y
@[simp] theorem wpo_some {α : Type} (y : α) (K) : wpo (some y) K = K y := by simp [wpo]
@[simp] theorem wpo_none {α : Type} (K : α → Prop) : wpo none K = False := by simp [wpo]
@[simp] theorem wpo_guard {α : Type} (c : Prop) [Decidable c] (x : Option α) (K) : wpo (guardO c x) K = (c ∧ wpo x K) := by
  unfold guardO; split <;> simp_all
@[simp] theorem wpo_bind {α β : Type} (x : Option α) (f : α → Option β) (K) : wpo (x.bind f) K = wpo x fun y => wpo (f y) K := by
  cases x <;> simp
@[simp] theorem wpo_map {α β : Type} (x : Option α) (f : α → β) (K) : wpo (x.map f) K = wpo x fun y => K (f y) := by
  cases x <;> simp
theorem wpo.mono {α : Type} {x : Option α} {K K' : α → Prop} (h : wpo x K) (hk : ∀ y, K y → K' y) : wpo x K' := let ⟨y, e, k⟩ := h; ⟨y, e, hk y k⟩

abbrev Env := Nat → AV

def lk : List (Nat × AV) → Env
  | [], _ => .any
  | (d, v) :: l, i => if i = d then v else lk l i

def put (e : Env) (d : Nat) (v : AV) : Env := fun i => if i = d then v else e i
def putd (e : Env) (d : Option Nat) (v : AV) : Env := match d with
  | some d => put e d v
  | none => e

/-- What the package variables hold that are never written. -/
class Tab where
  cells : Nat → Option (List AV)

variable [Tab]

def ev (P : Program) (e : Env) : Operand → AV
  | .tmp t => e t
  | .const v => (ofConst v).getD .any
  | .global g => match Tab.cells g with
    | some cs => if g < P.globals.size then .rp cs 0 else .any
    | none => if g < P.globals.size then .ptr g 0 else .any
  | .func f => .fn f [] []

def selA : Bool → AV → AV → AV
  | true, x, _ => x
  | false, _, y => y

def bitsA (op : BinOp) (k : IntKind) (a c : Int) : Int :=
  match op with
  | .and => k.wrap (BitVec.ofInt k.bits a &&& BitVec.ofInt k.bits c).toNat
  | .or => k.wrap (BitVec.ofInt k.bits a ||| BitVec.ofInt k.bits c).toNat
  | .xor => k.wrap (BitVec.ofInt k.bits a ^^^ BitVec.ofInt k.bits c).toNat
  | _ => k.wrap (BitVec.ofInt k.bits a &&& ~~~ BitVec.ofInt k.bits c).toNat

def binInt (op : BinOp) (k : IntKind) (a c : Int) : Option AV :=
  match op with
  | .add => some (.int k (k.wrap (a + c)))
  | .sub => some (.int k (k.wrap (a - c)))
  | .mul => some (.int k (k.wrap (a * c)))
  | .quo => guardO (c ≠ 0) (some (.int k (k.wrap (a.tdiv c))))
  | .rem => guardO (c ≠ 0) (some (.int k (a.tmod c)))
  | .and => some (.int k (bitsA .and k a c))
  | .or => some (.int k (bitsA .or k a c))
  | .xor => some (.int k (bitsA .xor k a c))
  | .andNot => some (.int k (bitsA .andNot k a c))
  | .eql => some (.bool (decide (a = c)))
  | .neq => some (.bool (!decide (a = c)))
  | .lss => some (.bool (decide (a < c)))
  | .leq => some (.bool (decide (a ≤ c)))
  | .gtr => some (.bool (decide (a > c)))
  | .geq => some (.bool (decide (a ≥ c)))
  | _ => none

def shlA (k : IntKind) (a c : Int) : Int := k.wrap (a * 2 ^ min c.toNat k.bits)
def shrA (k : IntKind) (a c : Int) : Int := a.fdiv (2 ^ min c.toNat k.bits)

/-- A part of an aggregate. -/
def partA (ti : TI) (cs : List AV) (off : Nat) : Option AV :=
  match ti.d.isAgg with
  | true => guardO (off + ti.size ≤ cs.length) (some (.agg ((cs.drop off).take ti.size)))
  | false => cs[off]?

def eqV (P : Program) : Nat → TypeId → AV → AV → Option Bool
  | 0, _, _, _ => none
  | d + 1, t, x, y => (tiOf P t).bind fun ti => match ti.d, x, y with
    | .int _, .int k a, .int k' c => guardO (k = k') (some (decide (a = c)))
    | .bool, .bool p, .bool q => some (p == q)
    | .str, .str s, .str u => some (decide (s = u))
    | .struct fs true, .agg xs, .agg ys => eqFs d fs xs ys
    | _, _, _ => none
where eqFs (d : Nat) : List (Nat × TypeId) → List AV → List AV → Option Bool
  | [], _, _ => some true
  | (off, ft) :: fs, xs, ys => (tiOf P ft).bind fun fi => (partA fi xs off).bind fun a => (partA fi ys off).bind fun c =>
      (eqV P d ft a c).bind fun r => (eqFs d fs xs ys).bind fun s => some (r && s)

def TD.isBool : TD → Bool
  | .bool => true
  | _ => false
def TD.isPtr : TD → Bool
  | .ptr _ => true
  | _ => false
def TD.isFunc : TD → Bool
  | .func => true
  | _ => false

def eqA (P : Program) (t : TypeId) (x y : AV) : Option Bool :=
  match x, y with
  | .bool p, .bool q => (tiOf P t).bind fun ti => guardO (ti.d.isBool = true) (some (p == q))
  | .ptr _ _, .nilptr => (tiOf P t).bind fun ti => guardO (ti.d.isPtr = true) (some false)
  | .nilptr, .ptr _ _ => (tiOf P t).bind fun ti => guardO (ti.d.isPtr = true) (some false)
  | .nilptr, .nilptr => (tiOf P t).bind fun ti => guardO (ti.d.isPtr = true) (some true)
  | .fn _ _ _, .nilfn => (tiOf P t).bind fun ti => guardO (ti.d.isFunc = true) (some false)
  | .nilfn, .nilfn => (tiOf P t).bind fun ti => guardO (ti.d.isFunc = true) (some true)
  | .agg xs, .agg ys => eqV P 6 t (.agg xs) (.agg ys)
  | _, _ => none

def maxInt : Nat := 9223372036854775807

def binA (P : Program) (op : BinOp) (xt : TypeId) (x y : AV) : Option AV :=
  match x, y with
  | .int k a, .int k' c => match op with
    | .shl => guardO (0 ≤ c) (some (.int k (shlA k a c)))
    | .shr => guardO (0 ≤ c) (some (.int k (shrA k a c)))
    | _ => guardO (k = k') (binInt op k a c)
  | .str s, .str u => match op with
    | .add => guardO (s.length + u.length ≤ maxInt) (some (.str (s ++ u)))
    | .eql => some (.bool (decide (s = u)))
    | .neq => some (.bool (!decide (s = u)))
    | _ => none
  | x, y => match op with
    | .eql => (eqA P xt x y).map .bool
    | .neq => (eqA P xt x y).map fun b => .bool (!b)
    | _ => none

def unA (op : UnOp) (x : AV) : Option AV :=
  match op, x with
  | .not, .bool b => some (.bool (!b))
  | .neg, .int k n => some (.int k (k.wrap (0 - n)))
  | .xor, .int k n => some (.int k (bitsA .xor k (if k.signed then -1 else k.max) n))
  | _, _ => none

/-- Parts laid into cells. -/
def fillA (place : Nat → Option (Nat × Nat)) (cells : List AV) : List (Nat × AV) → Option (List AV)
  | [] => some cells
  | (i, v) :: rest => (place i).bind fun p =>
      guardO (v.cells.all AV.leaf = true) (guardO (v.cells.length = p.2) (guardO (p.1 + v.cells.length ≤ cells.length)
        (fillA place (cells.take p.1 ++ v.cells ++ cells.drop (p.1 + v.cells.length)) rest)))

def placesA (P : Program) : List (Nat × TypeId) → Option (List (Nat × Nat))
  | [] => some []
  | (o, t) :: fs => (tiOf P t).bind fun ti => (placesA P fs).bind fun ps => some ((o, ti.size) :: ps)

def buildA (P : Program) (t : TypeId) (parts : List (Nat × AV)) : Option AV :=
  (tiOf P t).bind fun ti => match ti.d with
    | .struct fs _ => (placesA P fs).bind fun ps => (fillA (fun i => ps[i]?) ti.zero parts).map .agg
    | .arr _ e => (tiOf P e).bind fun ei => (fillA (fun i => some (i * ei.size, ei.size)) ti.zero parts).map .agg
    | _ => none

def fieldOf (P : Program) (t : TypeId) (f : Nat) : Option (Nat × TypeId) :=
  (tiOf P t).bind fun ti => match ti.d with
    | .struct fs _ => fs[f]?
    | _ => none

/-- A bound of a cut. -/
def bndA (o : Option AV) (d : Int) : Option Int := match o with
  | none => some d
  | some (.int _ n) => some n
  | some _ => none

/-- A slice cut out of a slice, or of a string. -/
def sliceA (P : Program) (t : TypeId) (x : AV) (lo hi : Option AV) : Option AV :=
  (tiOf P t).bind fun ti => match ti.d, x with
    | .str, .str s => (bndA lo 0).bind fun l => (bndA hi s.length).bind fun h =>
        guardO (0 ≤ l ∧ l ≤ h ∧ h ≤ (s.length : Int)) (some (.str ((s.drop l.toNat).take (h.toNat - l.toNat))))
    | .slice e, .sl b o n s => (bndA lo 0).bind fun l => (bndA hi n).bind fun h => (tiOf P e).bind fun ei =>
        guardO (s = ei.size) (guardO (0 ≤ l ∧ l ≤ h ∧ h ≤ (n : Int)) (some (.sl b (o + l.toNat * ei.size) (h.toNat - l.toNat) s)))
    | .slice e, .snil => (bndA lo 0).bind fun l => (bndA hi 0).bind fun h => (tiOf P e).bind fun _ => guardO (l = 0 ∧ h = 0) (some .snil)
    | .slice e, .rs s es => (bndA lo 0).bind fun l => (bndA hi es.length).bind fun h => (tiOf P e).bind fun ei =>
        guardO (s = ei.size) (guardO (0 ≤ l ∧ l ≤ h ∧ h ≤ (es.length : Int)) (some (.rs s ((es.drop l.toNat).take (h.toNat - l.toNat)))))
    | _, _ => none

def indexAddrA (P : Program) (t : TypeId) (x i : AV) : Option AV :=
  match i with
  | .int _ n => (tiOf P t).bind fun ti => match ti.d, x with
    | .slice e, .sl b o len _ => (tiOf P e).bind fun ei => guardO (0 ≤ n ∧ n < (len : Int)) (some (.ptr b (o + n.toNat * ei.size)))
    | .arr len e, .ptr b o => (tiOf P e).bind fun ei => guardO (0 ≤ n ∧ n < (len : Int)) (some (.ptr b (o + n.toNat * ei.size)))
    | .slice e, .rs s es => (tiOf P e).bind fun ei => guardO (s = ei.size) (guardO (0 ≤ n) ((es[n.toNat]?).map fun c => .rp c 0))
    | .arr len e, .rp cs o => (tiOf P e).bind fun ei => guardO (0 ≤ n ∧ n < (len : Int)) (some (.rp cs (o + n.toNat * ei.size)))
    | _, _ => none
  | _ => none

def indexA (P : Program) (t : TypeId) (x i : AV) : Option AV :=
  match i with
  | .int _ n => (tiOf P t).bind fun ti => match ti.d, x with
    | .str, .str s => guardO (0 ≤ n) ((s[n.toNat]?).map fun c => .int .u8 c.toNat)
    | .arr len e, .agg cs => (tiOf P e).bind fun ei => guardO (0 ≤ n ∧ n < (len : Int)) (partA ei cs (n.toNat * ei.size))
    | _, _ => none
  | _ => none

def lenA (P : Program) (t : TypeId) (x : AV) : Option AV :=
  (tiOf P t).bind fun ti => match ti.d, x with
    | .str, .str s => some (.int .i64 s.length)
    | .slice _, .sl _ _ n _ => some (.int .i64 n)
    | .slice _, .snil => some (.int .i64 0)
    | .slice _, .rs _ es => some (.int .i64 es.length)
    | .arr n _, _ => some (.int .i64 n)
    | _, _ => none

def max2A : AV → AV → Option AV
  | .int k x, .int k' y => guardO (k = k') (some (.int k (if y > x then y else x)))
  | _, _ => none
def min2A : AV → AV → Option AV
  | .int k x, .int k' y => guardO (k = k') (some (.int k (if y < x then y else x)))
  | _, _ => none
def foldA (f : AV → AV → Option AV) : AV → List AV → Option AV
  | x, [] => some x
  | x, y :: ys => (f x y).bind fun z => foldA f z ys

def convA (P : Program) (src dst : TypeId) (x : AV) : Option AV :=
  match x with
  | .int _ n => (tiOf P src).bind fun _ => (tiOf P dst).bind fun ti => match ti.d with
    | .int k => some (.int k (k.wrap n))
    | _ => none
  | .str s => (tiOf P src).bind fun si => (tiOf P dst).bind fun ti => match si.d, ti.d with
    | .str, .str => some (.str s)
    | _, _ => none
  | _ => none

/-- What touches no memory. -/
def pureA (P : Program) (e : Env) : Op → Option AV
  | .move x => some (ev P e x)
  | .assign x => some (ev P e x)
  | .pick c x y => match ev P e c with
    | .bool t => some (selA t (ev P e x) (ev P e y))
    | _ => none
  | .nilCheck x => match ev P e x with
    | .ptr b o => some (.ptr b o)
    | .rp cs o => some (.rp cs o)
    | .fn f a c => some (.fn f a c)
    | _ => none
  | .binOp op xt x y _ => binA P op xt (ev P e x) (ev P e y)
  | .unOp op _ x => unA op (ev P e x)
  | .convert s d x => convA P s d (ev P e x)
  | .build t parts => buildA P t (parts.toList.map fun (i, x) => (i, ev P e x))
  | .field t x f => match ev P e x with
    | .agg cs => (fieldOf P t f).bind fun (off, ft) => (tiOf P ft).bind fun fi => partA fi cs off
    | _ => none
  | .fieldAddr t x f => match ev P e x with
    | .ptr b o => (fieldOf P t f).bind fun (off, ft) => (tiOf P ft).bind fun fi => guardO (0 < fi.size) (some (.ptr b (o + off)))
    | .rp cs o => (fieldOf P t f).bind fun (off, ft) => (tiOf P ft).bind fun fi => guardO (0 < fi.size) (some (.rp cs (o + off)))
    | _ => none
  | .indexAddr t x i => indexAddrA P t (ev P e x) (ev P e i)
  | .index t x i => indexA P t (ev P e x) (ev P e i)
  | .extract x i => match ev P e x with
    | .tup vs => vs[i]?
    | _ => none
  | .slice t x lo hi none => sliceA P t (ev P e x) (lo.map (ev P e)) (hi.map (ev P e))
  | .makeFunc (.func f) first cap => some (.fn f (first.toList.map (ev P e)) (cap.toList.map (ev P e)))
  | .call { callee := .builtin b, args, argTypes } => match b, args.toList.map (ev P e), argTypes.toList with
    | .len, x :: _, t :: _ => lenA P t x
    | .max, x :: xs, _ => foldA max2A x xs
    | .min, x :: xs, _ => foldA min2A x xs
    | _, _, _ => none
  | _ => none

/-- Cells as bytes. -/
def bytesA : List AV → Option (List UInt8)
  | [] => some []
  | .int .u8 n :: cs => (bytesA cs).map fun bs => UInt8.ofNat n.toNat :: bs
  | _ => none

/-- A slice cut out of an array that a block of n cells holds from o on. -/
def arrCutA (P : Program) (t : TypeId) (b o n : Nat) (lo hi : Option AV) : Option AV :=
  (tiOf P t).bind fun ti => match ti.d with
    | .arr len et => (tiOf P et).bind fun ei => guardO (o + len * ei.size ≤ n) ((bndA lo 0).bind fun l => (bndA hi len).bind fun h =>
        guardO (0 ≤ l ∧ l ≤ h ∧ h ≤ (len : Int)) (some (.sl b (o + l.toNat * ei.size) (h.toNat - l.toNat) ei.size)))
    | _ => none

/-- What only reads memory. -/
def loadA (P : Program) (e : Env) (m : Mem) : Op → Option AV
  | .slice t x lo hi none => match ev P e x with
    | .ptr b o => (m.blk b).bind fun k => guardO (k.st ≠ .dead) (arrCutA P t b o k.cells.length (lo.map (ev P e)) (hi.map (ev P e)))
    | _ => none
  | .load t a => match ev P e a with
    | .ptr b o => (m.blk b).bind fun k => guardO (k.st ≠ .dead) ((tiOf P t).bind fun ti => partA ti k.cells o)
    | .rp cs o => (tiOf P t).bind fun ti => partA ti cs o
    | _ => none
  | .convert src dst x => match ev P e x with
    | .sl b o n _ => (tiOf P src).bind fun si => (tiOf P dst).bind fun di => match si.d, di.d with
      | .slice et, .str => (tiOf P et).bind fun ei => match ei.d with
        | .int .u8 => (m.blk b).bind fun k => guardO (k.st ≠ .dead) (guardO (o + n ≤ k.cells.length) ((bytesA ((k.cells.drop o).take n)).map .str))
        | _ => none
      | _, _ => none
    | .snil => (tiOf P src).bind fun si => (tiOf P dst).bind fun di => match si.d, di.d with
      | .slice et, .str => (tiOf P et).bind fun ei => match ei.d with
        | .int .u8 => some (.str [])
        | _ => none
      | _, _ => none
    | .rs s es => (tiOf P src).bind fun si => (tiOf P dst).bind fun di => match si.d, di.d with
      | .slice et, .str => (tiOf P et).bind fun ei => match ei.d with
        | .int .u8 => guardO (s = 1) ((bytesA es.flatten).map .str)
        | _ => none
      | _, _ => none
    | _ => none
  | _ => none

def repl (n : Nat) (z : List AV) : List AV := (List.replicate n z).flatten

/-- What makes a new block and touches no other. -/
def allocA (P : Program) (e : Env) (b : Nat) : Op → Option (AV × Blk)
  | .alloc t => (tiOf P t).bind fun ti => some (.ptr b 0, ⟨.own, ti.zero, t, []⟩)
  | .box t x => (tiOf P t).bind fun ti => guardO ((ev P e x).cells.all AV.leaf = true) (guardO ((ev P e x).cells.length = ti.size) (some (.ptr b 0, ⟨.own, (ev P e x).cells, t, []⟩)))
  | .buildSlice t len parts => (tiOf P t).bind fun ti => match ti.d with
    | .slice et => (tiOf P et).bind fun ei => guardO (0 < ei.size) (guardO (len * ei.size ≤ 16777216)
        ((fillA (fun i => some (i * ei.size, ei.size)) (repl len ei.zero) (parts.toList.map fun (i, x) => (i, ev P e x))).map fun cs => (.sl b 0 len ei.size, ⟨.own, cs, et, []⟩)))
    | _ => none
  | .makeSlice t l c => match ev P e l, ev P e c with
    | .int _ l, .int _ c => (tiOf P t).bind fun ti => match ti.d with
      | .slice et => (tiOf P et).bind fun ei => guardO (0 < ei.size) (guardO (0 ≤ l ∧ l ≤ c) (guardO (ei.bytes * c.toNat ≤ 281474976710656 ∧ c.toNat ≤ maxInt)
          (some (.sl b 0 l.toNat ei.size, ⟨.own, repl l.toNat ei.zero, et, []⟩))))
      | _ => none
    | _, _ => none
  | .convert src dst x => match ev P e x with
    | .str s => (tiOf P src).bind fun si => (tiOf P dst).bind fun di => match si.d, di.d with
      | .str, .slice et => (tiOf P et).bind fun ei => match ei.d with
        | .int .u8 => guardO (ei.size = 1) (guardO (s.length ≤ maxInt) (some (.sl b 0 s.length 1, ⟨.own, s.map fun c => .int .u8 c.toNat, et, []⟩)))
        | _ => none
      | _, _ => none
    | _ => none
  | _ => none

def lenOfA : AV → Option Nat
  | .snil => some 0
  | .sl _ _ n _ => some n
  | .rs _ es => some es.length
  | .str s => some s.length
  | _ => none

/-- The cells of what is appended or copied. -/
def srcA (m : Mem) (esz : Nat) : AV → Option (List AV)
  | .snil => some []
  | .sl b o n _ => if n = 0 then some [] else (m.blk b).bind fun k => guardO (k.st ≠ .dead) (guardO (o + n * esz ≤ k.cells.length) (some ((k.cells.drop o).take (n * esz))))
  | .rs s es => guardO (s = esz) (some es.flatten)
  | .str s => some (s.map fun c => .int .u8 c.toNat)
  | _ => none

def appendA (P : Program) (m : Mem) (b' : Nat) (t : TypeId) (s x : AV) : Option (AV × Mem) :=
  (tiOf P t).bind fun ti => match ti.d with
    | .slice et => (tiOf P et).bind fun ei => guardO (0 < ei.size) ((lenOfA x).bind fun n =>
        if n = 0 then (match s with | .snil => some (s, m) | .sl _ _ _ _ => some (s, m) | _ => none) else
        (srcA m ei.size x).bind fun news => guardO (news.length = n * ei.size) (guardO (news.all AV.leaf = true) (match s with
          | .snil => guardO (n * ei.bytes ≤ 140737488355328 ∧ n ≤ maxInt) (some (.sl b' 0 n ei.size, m.put b' ⟨.own, news, et, []⟩))
          | .sl b o len sz => guardO (sz = ei.size) ((m.blk b).bind fun k => guardO (k.st = .own) (guardO (k.ety = et) (guardO (o + len * ei.size = k.cells.length) (guardO ((len + n) * ei.bytes ≤ 140737488355328 ∧ len + n ≤ maxInt)
              (some (.sl b' 0 (len + n) ei.size, (m.put b { k with st := .old }).put b' ⟨.own, k.cells.drop o ++ news, et, b :: k.anc⟩))))))
          | _ => none)))
    | _ => none

/-- A block's cells, some of them written. -/
def storeIn (m : Mem) (b : Nat) (k : Blk) (o : Nat) (cs : List AV) : Mem :=
  (m.put b { k with cells := k.cells.take o ++ cs ++ k.cells.drop (o + cs.length), anc := [] }).kill k.anc

/-- What writes memory. -/
def serA (P : Program) (e : Env) (m : Mem) (b' : Nat) : Op → Option (AV × Mem)
  | .store t a x => match ev P e a with
    | .ptr b o => (m.blk b).bind fun k => guardO (k.st = .own) ((tiOf P t).bind fun ti =>
        guardO (0 < ti.size) (guardO ((ev P e x).cells.all AV.leaf = true) (guardO ((ev P e x).cells.length = ti.size) (guardO (o + (ev P e x).cells.length ≤ k.cells.length)
          (some (.undef, storeIn m b k o (ev P e x).cells))))))
    | _ => none
  | .call { callee := .builtin .append, args, argTypes } => match args.toList.map (ev P e), argTypes.toList with
    | [s, x], [t, u] => (tiOf P u).bind fun ui => match ui.d with
      | .slice _ => appendA P m b' t s x
      | .str => appendA P m b' t s x
      | _ => none
    | _, _ => none
  | _ => none

inductive Cls where
  | pur | lod | alc | ser
  deriving DecidableEq

end Go.Proofs.YtchhknkflhikmaaDoor.Am

/- AM: what a piece of code does, as derivations; that a block beside changes nothing; that operations which do not look at each other change places. -/
namespace Go.Proofs.YtchhknkflhikmaaDoor.Am
set_option linter.unusedSectionVars false
open Go
set_option linter.unusedVariables false
set_option linter.unusedSimpArgs false
variable [Tab]

inductive Ex where
  | normal
  | exit (id : Nat)
  | ret
  deriving DecidableEq

/-- Is an operation to be carried out? -/
def guardA (all : Array Oper) (e : Env) : Option (Nat × Bool) → Option Bool
  | none => some true
  | some (j, want) => match (all[j]?).bind (·.dst) with
    | none => some false
    | some d => match e d with
      | .bool b => some (b == want)
      | .tup [] => some false
      | _ => none

abbrev FnRel := FuncId → List AV → Mem → AV → Mem → Prop

/-- An append's operands: into s, of elements of type et, what x holds: n elements. -/
structure AppCtx (P : Program) (e : Env) (c : Call) (s x : AV) (et : TypeId) (ei : TI) (n : Nat) : Prop where
  callee : c.callee = .builtin .append
  args : c.args.toList.map (ev P e) = [s, x]
  tys : ∃ t u ti ui, c.argTypes.toList = [t, u] ∧ tiOf P t = some ti ∧ ti.d = .slice et ∧ tiOf P u = some ui ∧ ((∃ w, ui.d = .slice w) ∨ ui.d = .str)
  hei : tiOf P et = some ei
  pos : 0 < ei.size
  len : lenOfA x = some n

/-- A block that is written no more; what it was made of is no more. -/
def sameIn (m : Mem) (b : Nat) (k : Blk) : Mem := (storeIn m b k 0 k.cells).put b { k with st := .dead, anc := [] }

/-- A constant's value. -/
def concV : AV → Option Value
  | .int k n => some (.int k n)
  | .bool b => some (.bool b)
  | .str s => some (.string ⟨s.toArray⟩)
  | _ => none
def concs : List AV → Option (List Value)
  | [] => some []
  | c :: cs => (concV c).bind fun v => (concs cs).map fun vs => v :: vs
/-- A function without a body, of constants: what the machine's own table answers. -/
def ExtR (P : Program) (g : FuncId) (args : List AV) (v : AV) : Prop := ∃ fn ent vals val, P.funcs[g]? = some fn ∧ (fn.name == "runtime.NumGoroutine") = false ∧ fn.body.isNone = true ∧ Extern.findNext fn = none ∧ Extern.find fn = some ent ∧
  concs args = some vals ∧ (∀ w, (ent vals.toArray).run P w = .ok val w) ∧ ofLeaf val = some v

/-- What writes memory, as a relation. -/
inductive SerR (P : Program) (e : Env) (m : Mem) (b' : Nat) : Op → AV → Mem → Prop
  | store {t a x b o k ti} (ha : ev P e a = .ptr b o) (hk : m.blk b = some k) (hst : k.st = .own) (ht : tiOf P t = some ti) (hp : 0 < ti.size) (hl : (ev P e x).cells.all AV.leaf = true)
      (hn : (ev P e x).cells.length = ti.size) (hi : o + (ev P e x).cells.length ≤ k.cells.length) : SerR P e m b' (.store t a x) .undef (storeIn m b k o (ev P e x).cells)
  | app0 {c s x et ei} (h : AppCtx P e c s x et ei 0) (hs : s = .snil ∨ ∃ b o len sz, s = .sl b o len sz) : SerR P e m b' (.call c) s m
  | app00 {c x et ei} (h : AppCtx P e c .snil x et ei 0) : SerR P e m b' (.call c) (.sl b' 0 0 ei.size) (m.put b' ⟨.own, [], et, []⟩)
  | appNil {c x et ei n news} (h : AppCtx P e c .snil x et ei n) (hn : 0 < n) (hs : srcA m ei.size x = some news) (hl : news.length = n * ei.size) (hlf : news.all AV.leaf = true)
      (hb : n * ei.bytes ≤ 140737488355328) (hm : n ≤ maxInt) : SerR P e m b' (.call c) (.sl b' 0 n ei.size) (m.put b' ⟨.own, news, et, []⟩)
  | appOwn {c x et ei n news b o len k} (h : AppCtx P e c (.sl b o len ei.size) x et ei n) (hn : 0 < n) (hs : srcA m ei.size x = some news) (hl : news.length = n * ei.size) (hlf : news.all AV.leaf = true)
      (hk : m.blk b = some k) (hst : k.st = .own) (hty : k.ety = et) (hend : o + len * ei.size = k.cells.length) (hb : (len + n) * ei.bytes ≤ 140737488355328) (hm : len + n ≤ maxInt) :
      SerR P e m b' (.call c) (.sl b' 0 (len + n) ei.size) ((m.put b { k with st := .old }).put b' ⟨.own, k.cells.drop o ++ news, et, b :: k.anc⟩)

  | same {t x b n k es ti et ei} (hx : ev P e x = .sl b 0 n 1) (hk : m.blk b = some k) (hst : k.st = .own) (ht : tiOf P t = some ti) (hd : ti.d = .slice et) (hei : tiOf P et = some ei) (hu : ei.d = .int .u8)
      (hn : 0 < n) (hc : k.cells = es.flatten) (hl : es.length = n) (hel : ∀ e ∈ es, e.length = 1) : SerR P e m b' (.convert t t x) (.rs 1 es) (sameIn m b k)
  | ext {c f g first cap v} (hcal : c.callee = .value f) (hfn : ev P e f = .fn g first cap) (hx : ExtR P g (first ++ c.args.toList.map (ev P e) ++ cap) v) : SerR P e m b' (.call c) v m

theorem appendA_SerR {P e m b' c s x t u v m1 ui} (hc : c.callee = .builtin .append) (ha : c.args.toList.map (ev P e) = [s, x]) (ht : c.argTypes.toList = [t, u])
    (hu : tiOf P u = some ui) (hus : (∃ w, ui.d = .slice w) ∨ ui.d = .str) (h : appendA P m b' t s x = some (v, m1)) : SerR P e m b' (.call c) v m1 := by
  unfold appendA at h
  cases hti : tiOf P t with
  | none => simp [hti] at h
  | some ti =>
    simp only [hti, Option.bind_some] at h
    split at h
    · rename_i et het
      cases hei : tiOf P et with
      | none => simp [hei] at h
      | some ei =>
        simp only [hei, Option.bind_some] at h
        obtain ⟨h0, h⟩ := guardO_some h
        cases hn : lenOfA x with
        | none => simp [hn] at h
        | some n =>
          have ctx : AppCtx P e c s x et ei n := ⟨hc, ha, ⟨t, u, ti, ui, ht, hti, het, hu, hus⟩, hei, h0, hn⟩
          simp only [hn, Option.bind_some] at h
          split at h
          · rename_i hz
            subst hz
            split at h <;> simp at h
            · obtain ⟨rfl, rfl⟩ := h; exact .app0 ctx (.inl rfl)
            · obtain ⟨rfl, rfl⟩ := h; exact .app0 ctx (.inr ⟨_, _, _, _, rfl⟩)
          · rename_i hz
            cases hs : srcA m ei.size x with
            | none => simp [hs] at h
            | some news =>
              simp only [hs, Option.bind_some] at h
              obtain ⟨h1, h⟩ := guardO_some h
              obtain ⟨h2, h⟩ := guardO_some h
              cases s with
              | snil =>
                simp only at h
                obtain ⟨h3, h⟩ := guardO_some h
                simp at h
                obtain ⟨rfl, rfl⟩ := h
                exact .appNil ctx (by omega) hs h1 h2 h3.1 h3.2
              | sl bb oo len sz =>
                simp only at h
                obtain ⟨hsz, h⟩ := guardO_some h
                have ctx' : AppCtx P e c (.sl bb oo len ei.size) x et ei n := hsz ▸ ctx
                cases hk : m.blk bb with
                | none => simp [hk] at h
                | some k =>
                  simp only [hk, Option.bind_some] at h
                  obtain ⟨h3, h⟩ := guardO_some h
                  obtain ⟨h4, h⟩ := guardO_some h
                  obtain ⟨h5, h⟩ := guardO_some h
                  obtain ⟨h6, h⟩ := guardO_some h
                  simp at h
                  obtain ⟨rfl, rfl⟩ := h
                  exact .appOwn ctx' (by omega) hs h1 h2 hk h3 h4 h5 h6.1 h6.2
              | _ => simp at h
    · simp at h

theorem serA_SerR {P e m b' op v m1} (h : serA P e m b' op = some (v, m1)) : SerR P e m b' op v m1 := by
  unfold serA at h
  split at h
  · rename_i t a x
    split at h
    · rename_i b o ha
      cases hk : m.blk b with
      | none => simp [hk] at h
      | some k =>
        simp only [hk, Option.bind_some] at h
        obtain ⟨h1, h⟩ := guardO_some h
        cases ht : tiOf P t with
        | none => simp [ht] at h
        | some ti =>
          simp only [ht, Option.bind_some] at h
          obtain ⟨h0, h⟩ := guardO_some h
          obtain ⟨h2, h⟩ := guardO_some h
          obtain ⟨h3, h⟩ := guardO_some h
          obtain ⟨h4, h⟩ := guardO_some h
          simp at h
          obtain ⟨rfl, rfl⟩ := h
          exact .store ha hk h1 ht h0 h2 h3 h4
    · simp at h
  · rename_i args tys
    split at h
    · rename_i s x t u ha ht
      cases hu : tiOf P u with
      | none => simp [hu] at h
      | some ui =>
        simp only [hu, Option.bind_some] at h
        split at h
        · rename_i w hw; exact appendA_SerR rfl ha ht hu (.inl ⟨w, hw⟩) h
        · rename_i hw; exact appendA_SerR rfl ha ht hu (.inr hw) h
        · simp at h
    · simp at h
  · simp at h

/-- What an operation that is carried out answers and leaves. -/
inductive Step (P : Program) (F : FnRel) (flag : Bool) (e : Env) (m : Mem) : Op → AV → Mem → Prop
  | pur {o v} (hv : pureA P e o = some v) : Step P F flag e m o v m
  | lod {o v} (hv : loadA P e m o = some v) (hf : flag = true → ∀ m2, loadA P e m2 o = some v) : Step P F flag e m o v m
  | alc {o v b k} (hb : m.blk b = none) (hv : allocA P e b o = some (v, k)) : Step P F flag e m o v (m.put b k)
  | ser {o v b m1} (hb : m.blk b = none) (hv : SerR P e m b o v m1) (hf : flag = true → Ext m m1) : Step P F flag e m o v m1
  | call {o c f g first cap v m1} (ho : o = .call c) (hcal : c.callee = .value f) (hfn : ev P e f = .fn g first cap) (hcall : F g (first ++ c.args.toList.map (ev P e) ++ cap) m v m1)
      (hf : flag = true → Ext m m1) : Step P F flag e m o v m1

/-- An operation in its region: carried out, or passed over. -/
inductive Act1 (P : Program) (F : FnRel) (all : Array Oper) (flag : Bool) (o : Oper) (e : Env) (m : Mem) : AV → Mem → Prop
  | skip (hg : guardA all e o.guard = some false) : Act1 P F all flag o e m .undef m
  | step {v m1} (hg : guardA all e o.guard = some true) (h : Step P F flag e m o.op v m1) : Act1 P F all flag o e m v m1

inductive EvO (P : Program) (F : FnRel) (all : Array Oper) (fl : Nat → Bool) : List Nat → Env → Mem → Env → Mem → Prop
  | nil {e m} : EvO P F all fl [] e m e m
  | cons {i l o e m v m1 e' m'} (ho : all[i]? = some o) (h : Act1 P F all (fl i) o e m v m1) (k : EvO P F all fl l (putd e o.dst v) m1 e' m') : EvO P F all fl (i :: l) e m e' m'

def clsOf (P : Program) : Op → Cls
  | .load _ _ => .lod
  | .alloc _ | .box _ _ | .buildSlice _ _ _ | .makeSlice _ _ _ => .alc
  | .convert s d _ => match (tiOf P d).map TI.d with
    | some (.int _) => .pur
    | some .str => (match (tiOf P s).map TI.d with
      | some .str => .pur
      | some (.slice _) => .lod
      | _ => .ser)
    | some (.slice _) => (match (tiOf P s).map TI.d with
      | some (.slice _) => .ser
      | _ => .alc)
    | _ => .ser
  | .move _ | .assign _ | .pick _ _ _ | .nilCheck _ | .binOp _ _ _ _ _ | .unOp _ _ _ | .build _ _ | .field _ _ _ | .fieldAddr _ _ _ | .indexAddr _ _ _ | .index _ _ _
  | .extract _ _ | .makeFunc _ _ _ => .pur
  | .slice t _ _ _ _ => match (tiOf P t).map TI.d with
    | some (.arr _ _) => .lod
    | _ => .pur
  | .call { callee := .builtin .len, .. } | .call { callee := .builtin .max, .. } | .call { callee := .builtin .min, .. } => .pur
  | _ => .ser

/-! What must come ahead of an operation. -/

def edges (o : Oper) : List Nat := (o.after.toList.filter (Region.binds .any ·)).map (·.on)
def edgesAt (all : Array Oper) (i : Nat) : List Nat := ((all[i]?).map edges).getD []

def lkN : List (Nat × Nat) → Nat → Nat
  | [], _ => 0
  | (d, v) :: l, i => if i = d then v else lkN l i

def maskOf (T : List (Nat × Nat)) : List Nat → Nat
  | [] => 0
  | x :: xs => 2 ^ x ||| lkN T x ||| maskOf T xs

def tabOf (all : Array Oper) : List (Nat × Nat) → List Nat → List (Nat × Nat)
  | T, [] => T
  | T, i :: l => tabOf all ((i, maskOf T (edgesAt all i)) :: T) l

def compat : Cls → Cls → Bool
  | .pur, _ | _, .pur => true
  | .lod, .lod | .lod, .alc | .lod, .ser | .alc, .alc | .ser, .alc => true
  | _, _ => false

def clsAt (P : Program) (all : Array Oper) (i : Nat) : Cls := ((all[i]?).map fun o => clsOf P o.op).getD .ser
def apartAt (all : Array Oper) (x i : Nat) : Bool := match all[x]?, all[i]? with
  | some a, some b => Oper.apart all a b
  | _, _ => false

/-- May i change places with x, which stands ahead of it? -/
def swapOk (P : Program) (all : Array Oper) (x i : Nat) : Bool := apartAt all x i && compat (clsAt P all x) (clsAt P all i)

def pairsOk (P : Program) (all : Array Oper) (T : List (Nat × Nat)) : List Nat → Bool
  | [] => true
  | x :: l => l.all (fun i => (lkN T i).testBit x || swapOk P all x i) && pairsOk P all T l

/-- Which writers stand behind a reader that may come behind them too (but for the readers of R: those read what is written no more). -/
def flOf (P : Program) (all : Array Oper) (T : List (Nat × Nat)) (R : List Nat) : List Nat → Nat → Bool
  | [], i => R.contains i
  | x :: l, i => (clsAt P all x == .lod && clsAt P all i == .ser && !R.contains x && l.contains i && !(lkN T i).testBit x) || flOf P all T R l i

def respects (all : Array Oper) : List Nat → List Nat → Bool
  | _, [] => true
  | done, i :: l => (edgesAt all i).all (done.contains ·) && respects all (i :: done) l

def nodupB : List Nat → Bool
  | [] => true
  | x :: l => !l.contains x && nodupB l

def drawOk (P : Program) (all : Array Oper) (π : List Nat) : Bool :=
  nodupB π && π.length == all.size && (List.range all.size).all (π.contains ·) && π.all (· < all.size) && respects all [] π && pairsOk P all (tabOf all [] π) π

def fl0 : Nat → Bool := fun _ => false

def dstOk (n : Nat) : Code → Bool
  | .region _ ops _ => ops.toList.all fun o => match o.dst with
    | some d => decide (d < n)
    | none => true
  | .seq a b => dstOk n a && dstOk n b
  | .cond _ a b => dstOk n a && dstOk n b
  | .block _ c => dstOk n c
  | .scope c => dstOk n c
  | .loop c => dstOk n c
  | .skip | .label _ | .exit _ | .ret => true
  | _ => false

/-- What is known of a value, said more weakly: blocks that are written no more read as what they hold. -/
inductive Wk (fz : Nat → Option (List AV)) (nw : Nat → Prop) : AV → AV → Prop
  | refl (v) : Wk fz nw v v
  | any (v) : Wk fz nw v .any
  | snil (s) : Wk fz nw .snil (.rs s [])
  | nil0 {b s : Nat} (h : nw b) : Wk fz nw .snil (.sl b 0 0 s)
  | sl {b o n s : Nat} {cs : List AV} {es : List (List AV)} (h : fz b = some cs) (hl : es.length = n) (hes : ∀ (i : Nat) (e : List AV), es[i]? = some e → e = (cs.drop (o + i * s)).take s)
      (hel : ∀ e ∈ es, e.length = s) : Wk fz nw (.sl b o n s) (.rs s es)
  | ptr {b o : Nat} {cs : List AV} (h : fz b = some cs) : Wk fz nw (.ptr b o) (.rp cs o)
  | agg {cs ds : List AV} (hl : cs.length = ds.length) (h : ∀ (i : Nat) (c d : AV), cs[i]? = some c → ds[i]? = some d → Wk fz nw c d) : Wk fz nw (.agg cs) (.agg ds)
  | tup {cs ds : List AV} (hl : cs.length = ds.length) (h : ∀ (i : Nat) (c d : AV), cs[i]? = some c → ds[i]? = some d → Wk fz nw c d) : Wk fz nw (.tup cs) (.tup ds)
  | fn {f : FuncId} {xs ys xs' ys' : List AV} (hl : xs.length = xs'.length) (h : ∀ (i : Nat) (c d : AV), xs[i]? = some c → xs'[i]? = some d → Wk fz nw c d)
      (hl' : ys.length = ys'.length) (h' : ∀ (i : Nat) (c d : AV), ys[i]? = some c → ys'[i]? = some d → Wk fz nw c d) : Wk fz nw (.fn f xs ys) (.fn f xs' ys')
  | iface {t : TypeId} {c d : AV} (h : Wk fz nw c d) : Wk fz nw (.iface t c) (.iface t d)
  | rs {s : Nat} {es es' : List (List AV)} (hl : es.length = es'.length) (hel : ∀ (i : Nat) (e e' : List AV), es[i]? = some e → es'[i]? = some e' → e.length = e'.length)
      (h : ∀ (i j : Nat) (e e' : List AV) (c d : AV), es[i]? = some e → es'[i]? = some e' → e[j]? = some c → e'[j]? = some d → Wk fz nw c d) : Wk fz nw (.rs s es) (.rs s es')
  | rp {cs ds : List AV} {o : Nat} (hl : cs.length = ds.length) (h : ∀ (i : Nat) (c d : AV), cs[i]? = some c → ds[i]? = some d → Wk fz nw c d) : Wk fz nw (.rp cs o) (.rp ds o)

/-- What is known of a state, said more weakly. -/
structure Weak (e : Env) (m : Mem) (e' : Env) (m' : Mem) : Prop where
  ex : ∃ (fz : Nat → Option (List AV)) (nw : Nat → Prop),
    (∀ b cs, fz b = some cs → ∃ k, m.blk b = some k ∧ k.cells = cs ∧ (k.st = .own ∨ k.st = .ro) ∧ (k.st = .own → ∀ k', m'.blk b = some k' → k'.st = .dead)) ∧
    (∀ b, nw b → m.blk b = none ∧ ∃ ty, m'.blk b = some ⟨.own, [], ty, []⟩) ∧
    (∀ i, Wk fz nw (e i) (e' i)) ∧
    (∀ b k', m'.blk b = some k' → k'.st ≠ .dead → nw b ∨ ∃ k, m.blk b = some k ∧ k'.st = k.st ∧ k'.ety = k.ety ∧ (∀ a ∈ k.anc, a ∈ k'.anc ∨ ∃ ka, m'.blk a = some ka ∧ ka.st = .dead) ∧
      k.cells.length = k'.cells.length ∧ ∀ (i : Nat) (c d : AV), k.cells[i]? = some c → k'.cells[i]? = some d → Wk fz nw c d)
  dom : ∀ b, m'.blk b = none → m.blk b = none

/-- Said more weakly, step by step. -/
inductive Weaks : Env → Mem → Env → Mem → Prop
  | refl {e m} : Weaks e m e m
  | step {e m e1 m1 e2 m2} (h : Weak e m e1 m1) (k : Weaks e1 m1 e2 m2) : Weaks e m e2 m2
theorem Weaks.trans {e m e1 m1 e2 m2} (h : Weaks e m e1 m1) (k : Weaks e1 m1 e2 m2) : Weaks e m e2 m2 := by
  induction h with
  | refl => exact k
  | step h _ ih => exact .step h (ih k)
theorem Weaks.dom {e m e' m'} (h : Weaks e m e' m') : ∀ b, m'.blk b = none → m.blk b = none := by
  induction h with
  | refl => exact fun _ h => h
  | step h _ ih => exact fun b hb => h.dom b (ih b hb)

inductive EvC (P : Program) (F : FnRel) : Code → Env → Mem → Ex → Env → Mem → Prop
  | skip {e m} : EvC P F .skip e m .normal e m
  | label {l e m} : EvC P F (.label l) e m .normal e m
  | exit {id e m} : EvC P F (.exit id) e m (.exit id) e m
  | ret {e m} : EvC P F .ret e m .ret e m
  | seq_n {a b e m e1 m1 x e' m'} (h : EvC P F a e m .normal e1 m1) (k : EvC P F b e1 m1 x e' m') : EvC P F (.seq a b) e m x e' m'
  | seq_x {a b e m x e' m'} (h : EvC P F a e m x e' m') (hx : x ≠ .normal) : EvC P F (.seq a b) e m x e' m'
  | cond {c a b e m t x e' m'} (hc : ev P e c = .bool t) (h : EvC P F (if t then a else b) e m x e' m') : EvC P F (.cond c a b) e m x e' m'
  | block {id c e m x e' m'} (h : EvC P F c e m x e' m') : EvC P F (.block id c) e m (if x = .exit id then .normal else x) e' m'
  | scope {c e m x e' m'} (h : EvC P F c e m x e' m') : EvC P F (.scope c) e m x e' m'
  | loop_n {c e m e1 m1 x e' m'} (h : EvC P F c e m .normal e1 m1) (k : EvC P F (.loop c) e1 m1 x e' m') : EvC P F (.loop c) e m x e' m'
  | loop_x {c e m x e' m'} (h : EvC P F c e m x e' m') (hx : x ≠ .normal) : EvC P F (.loop c) e m x e' m'
  | region {id ops e m e' m'} (h : EvO P F ops fl0 (List.range ops.size) e m e' m') : EvC P F (.region id ops false) e m .normal e' m'
  | draw {id ops e m e' m'} (π R : List Nat) (hok : drawOk P ops π = true) (h : EvO P F ops (flOf P ops (tabOf ops [] π) R π) π e m e' m') : EvC P F (.region id ops true) e m .normal e' m'
  | weak {c e m x e1 m1 e' m'} (h : EvC P F c e m x e1 m1) (hw : Weak e1 m1 e' m') : EvC P F c e m x e' m'
  | weakL {c e m x e1 m1 e' m'} (hw : Weak e m e1 m1) (h : EvC P F c e1 m1 x e' m') : EvC P F c e m x e' m'

def argL : Nat → List AV → List (Nat × AV)
  | _, [] => []
  | n, a :: as => (n, a) :: argL (n + 1) as

def resOne (P : Program) (e : Env) (m : Mem) : ResultVar → Option AV
  | .tmp t => some (e t)
  | .cell a t => match e a with
    | .ptr b o => (m.blk b).bind fun k => guardO (k.st ≠ .dead) ((tiOf P t).bind fun ti => partA ti k.cells o)
    | _ => none
def resList (P : Program) (e : Env) (m : Mem) : List ResultVar → Option (List AV)
  | [] => some []
  | r :: rs => (resOne P e m r).bind fun v => (resList P e m rs).bind fun vs => some (v :: vs)
def resA (P : Program) (rs : List ResultVar) (e : Env) (m : Mem) : Option AV :=
  (resList P e m rs).bind fun vs => match vs with
    | [v] => some v
    | vs => some (.tup vs)

/-! ### Borrowing: a function that writes none of what stood before is called with what stands there as what is written no more -/

mutual
/-- Nothing in it stands for cells that are written no more. -/
def AV.noI : AV → Bool
  | .rs _ es => es.isEmpty
  | .rp _ _ => false
  | .agg cs => noIs cs
  | .tup cs => noIs cs
  | .fn _ xs ys => noIs xs && noIs ys
  | .iface _ v => v.noI
  | _ => true
def noIs : List AV → Bool
  | [] => true
  | c :: cs => c.noI && noIs cs
end
theorem noIs_get : ∀ {cs : List AV} {i : Nat} {c : AV}, noIs cs = true → cs[i]? = some c → c.noI = true
  | [], _, _, _, hc => by simp at hc
  | x :: xs, 0, c, h, hc => by
    simp only [noIs, Bool.and_eq_true] at h
    simp at hc; subst hc; exact h.1
  | x :: xs, i + 1, c, h, hc => by
    simp only [noIs, Bool.and_eq_true] at h
    exact noIs_get h.2 (by simpa using hc)

def Mem.shut (m : Mem) : Mem where
  blk b := (m.blk b).map fun k => { k with st := .dead }
  next := m.next
  fin b h := by rw [m.fin b h]; rfl
def Blk.back (k : Blk) : Blk := if (k.st = .own ∨ k.st = .old) ∧ noIs k.cells = true then k else { k with st := .dead }
def Mem.back (m m1 : Mem) : Mem where
  blk b := match m.blk b with
    | some k => some k
    | none => (m1.blk b).map Blk.back
  next := max m.next m1.next
  fin b h := by rw [m.fin b (by omega), m1.fin b (by omega)]; rfl
def Mem.view (m : Mem) : Nat → Option (List AV) := fun b => (m.blk b).bind fun k => if k.st = .dead then none else some k.cells

structure WkArgs (fz : Nat → Option (List AV)) (args args1 : List AV) : Prop where
  len : args.length = args1.length
  get : ∀ (i : Nat) (c d : AV), args[i]? = some c → args1[i]? = some d → Wk fz (fun _ => False) c d

def Brw (F : FnRel) : FnRel := fun f args m v m' => ∃ args1 m1, WkArgs m.view args args1 ∧ F f args1 m.shut v m1 ∧ v.noI = true ∧ m' = m.back m1

theorem Wk.mono {fz fz' : Nat → Option (List AV)} {nw : Nat → Prop} (hf : ∀ b cs, fz b = some cs → fz' b = some cs) {c d : AV} (h : Wk fz nw c d) : Wk fz' nw c d := by
  induction h with
  | refl v => exact .refl v
  | any v => exact .any v
  | snil s => exact .snil s
  | nil0 h => exact .nil0 h
  | sl h hl hes hel => exact .sl (hf _ _ h) hl hes hel
  | ptr h => exact .ptr (hf _ _ h)
  | agg hl _ ih => exact .agg hl ih
  | tup hl _ ih => exact .tup hl ih
  | fn hl _ hl' _ ih ih' => exact .fn hl ih hl' ih'
  | iface _ ih => exact .iface ih
  | rs hl hel _ ih => exact .rs hl hel ih
  | rp hl _ ih => exact .rp hl ih
theorem view_put {m : Mem} {b k} (hb : m.blk b = none) : ∀ c cs, m.view c = some cs → (m.put b k).view c = some cs := fun c cs h => by
  unfold Mem.view at *
  rw [Mem.blk_put, if_neg (by rintro rfl; simp [hb] at h)]
  exact h
theorem shut_put {m : Mem} {b k} : (m.put b k).shut = m.shut.put b { k with st := .dead } := Mem.ext' (fun c => by
  simp only [Mem.shut, Mem.blk_put]
  split <;> rfl) rfl
theorem back_put {m m1 : Mem} {b k k1} : (m.put b k).back (m1.put b k1) = (m.back m1).put b k := Mem.ext' (fun c => by
  simp only [Mem.back, Mem.blk_put]
  by_cases hc : c = b
  · simp only [if_pos hc]
  · simp only [if_neg hc]) (by simp only [Mem.back, Mem.next_put]; omega)
theorem back_none {m m1 : Mem} {b} : (m.back m1).blk b = none ↔ m.blk b = none ∧ m1.blk b = none := by
  simp only [Mem.back]
  cases m.blk b <;> simp
theorem Brw.dom {F : FnRel} {f args m v m' b} (h : Brw F f args m v m') (hb : m'.blk b = none) : m.blk b = none := by
  obtain ⟨args1, m1, _, _, _, rfl⟩ := h
  exact (back_none.1 hb).1
theorem Brw.lift {F : FnRel} (N : ∀ {f args m v m' b k}, F f args m v m' → k.st ≠ .old → m'.blk b = none → F f args (m.put b k) v (m'.put b k)) {f args m v m' b k} (h : Brw F f args m v m') (hb : m'.blk b = none) :
    Brw F f args (m.put b k) v (m'.put b k) := by
  obtain ⟨args1, m1, h1, h2, h3, rfl⟩ := h
  obtain ⟨hb1, hb2⟩ := back_none.1 hb
  refine ⟨args1, m1.put b { k with st := .dead }, ⟨h1.len, fun i c d hc hd => (h1.get i c d hc hd).mono (view_put hb1)⟩, ?_, h3, back_put.symm⟩
  rw [shut_put]
  exact N h2 (fun h => nomatch h) hb2

/-- What a function's body does. -/
def Body (P : Program) (F : FnRel) : FnRel := fun f args m v m1 => ∃ fn c x e', P.funcs[f]? = some fn ∧ fn.body = some c ∧ fn.name ≠ "runtime.NumGoroutine" ∧ dstOk fn.ntmps c = true ∧
  EvC P F c (lk (argL 0 args)) m x e' m1 ∧ (x = .normal ∨ x = .ret) ∧ resA P fn.results.toList e' m1 = some v

def EvF (P : Program) : Nat → FnRel
  | 0 => fun _ _ _ _ _ => False
  | d + 1 => fun f args m v m' => ∃ m1 v1, (Body P (EvF P d) f args m v1 m1 ∨ Brw (EvF P d) f args m v1 m1) ∧ Weaks (lk [(0, v1)]) m1 (lk [(0, v)]) m'

/-! ### Blocks never go; a block beside -/

theorem Weak.refl (e : Env) (m : Mem) : Weak e m e m :=
  ⟨⟨fun _ => none, fun _ => False, fun b cs h => (nomatch h), fun b h => h.elim, fun i => .refl _,
    fun b k' hk hd => .inr ⟨k', hk, rfl, rfl, fun a ha => .inl ha, rfl, fun i c d h1 h2 => by rw [h1] at h2; cases h2; exact .refl _⟩⟩, fun _ h => h⟩
theorem Weak.lift {e m e' m' b k} (h : Weak e m e' m') (hb : m'.blk b = none) : Weak e (m.put b k) e' (m'.put b k) := by
  have hbm := h.dom b hb
  obtain ⟨fz, nw, h1, h0, h2, h3⟩ := h.ex
  refine ⟨⟨fz, nw, fun c cs hc => ?_, fun c hc => ?_, h2, fun c k' hc hd => ?_⟩, fun c => ?_⟩
  · obtain ⟨kc, e1, e2, e3, e4⟩ := h1 c cs hc
    have hne : c ≠ b := by rintro rfl; simp [hbm] at e1
    exact ⟨kc, by rw [Mem.blk_put, if_neg hne]; exact e1, e2, e3, fun ho k' hk' => e4 ho k' (by rw [Mem.blk_put, if_neg hne] at hk'; exact hk')⟩
  · obtain ⟨e1, ty, e2⟩ := h0 c hc
    have hne : c ≠ b := by rintro rfl; simp [hb] at e2
    exact ⟨by rw [Mem.blk_put, if_neg hne]; exact e1, ty, by rw [Mem.blk_put, if_neg hne]; exact e2⟩
  · rw [Mem.blk_put] at hc
    by_cases hne : c = b
    · rw [if_pos hne] at hc; cases hc
      exact .inr ⟨k, by rw [Mem.blk_put, if_pos hne], rfl, rfl, fun a ha => .inl ha, rfl, fun i c d h1 h2 => by rw [h1] at h2; cases h2; exact .refl _⟩
    · rw [if_neg hne] at hc
      rcases h3 c k' hc hd with h | ⟨kc, e1, e2, e3, e4, e5⟩
      · exact .inl h
      · refine .inr ⟨kc, by rw [Mem.blk_put, if_neg hne]; exact e1, e2, e3, fun a ha => ?_, e5⟩
        rcases e4 a ha with h | h
        · exact .inl h
        · obtain ⟨ka, h1, h2⟩ := h
          exact .inr ⟨ka, by rw [Mem.blk_put, if_neg (by rintro rfl; simp [hb] at h1)]; exact h1, h2⟩
  · simp only [Mem.blk_put]
    split
    · simp
    · exact h.dom c

structure Nice (F : FnRel) : Prop where
  dom : ∀ {f args m v m' b}, F f args m v m' → m'.blk b = none → m.blk b = none
  lift : ∀ {f args m v m' b k}, F f args m v m' → k.st ≠ .old → m'.blk b = none → F f args (m.put b k) v (m'.put b k)

theorem Weaks.lift {e m e' m' b k} (h : Weaks e m e' m') (hb : m'.blk b = none) : Weaks e (m.put b k) e' (m'.put b k) := by
  induction h with
  | refl => exact .refl
  | step h k ih => exact .step (h.lift (k.dom _ hb)) (ih hb)

theorem kill_none (m : Mem) : ∀ (bs : List Nat) (b : Nat), (m.kill bs).blk b = none ↔ m.blk b = none := by
  intro bs
  induction bs generalizing m with
  | nil => intro b; rfl
  | cons x bs ih =>
    intro b
    simp only [Mem.kill]
    split
    · rename_i k hk
      split
      · rw [ih]
        simp only [Mem.blk_put]
        split
        · subst_vars; simp [hk]
        · rfl
      · exact ih _ _
    · exact ih _ _
theorem kill_put (m : Mem) : ∀ (bs : List Nat) {b : Nat} {k : Blk}, k.st ≠ .old → m.blk b = none → (m.put b k).kill bs = (m.kill bs).put b k := by
  intro bs
  induction bs generalizing m with
  | nil => intro b k _ _; rfl
  | cons x bs ih =>
    intro b k hk hb
    by_cases hx : x = b
    · subst hx
      simp only [Mem.kill, Mem.blk_put, if_true, hb]
      rw [if_neg hk]
      exact ih _ hk hb
    · simp only [Mem.kill, Mem.blk_put, if_neg hx]
      split
      · rename_i kx hkx
        split
        · rw [Mem.put_comm _ (Ne.symm hx), ih _ hk (by rw [Mem.blk_put, if_neg (Ne.symm hx)]; exact hb)]
        · exact ih _ hk hb
      · exact ih _ hk hb

theorem putd_ne {e : Env} {d : Option Nat} {v : AV} {i : Nat} (h : d ≠ some i) : putd e d v i = e i := by
  cases d with
  | none => rfl
  | some d => simp only [putd, put]; rw [if_neg]; rintro rfl; exact h rfl

theorem storeIn_none {m b k o cs x} (hb : m.blk b = some k) : (storeIn m b k o cs).blk x = none ↔ m.blk x = none := by
  unfold storeIn
  rw [kill_none, Mem.blk_put]
  split
  · subst_vars; simp [hb]
  · rfl

theorem sameIn_none {m b k x} (hb : m.blk b = some k) : (sameIn m b k).blk x = none ↔ m.blk x = none := by
  unfold sameIn
  rw [Mem.blk_put]
  split
  · subst_vars; simp [hb]
  · exact storeIn_none hb

theorem SerR.dom {P e m b' op v m1 b} (h : SerR P e m b' op v m1) (hb : m1.blk b = none) : m.blk b = none := by
  cases h with
  | store ha hk => exact (storeIn_none hk).1 hb
  | same ha hk => exact (sameIn_none hk).1 hb
  | ext => exact hb
  | app0 => exact hb
  | app00 =>
    rw [Mem.blk_put] at hb
    split at hb
    · simp at hb
    · exact hb
  | appNil =>
    rw [Mem.blk_put] at hb
    split at hb
    · simp at hb
    · exact hb
  | appOwn =>
    rw [Mem.blk_put] at hb
    split at hb
    · simp at hb
    · rw [Mem.blk_put] at hb
      split at hb
      · simp at hb
      · exact hb

theorem srcA_put {m esz x cs b k} (h : srcA m esz x = some cs) (hb : m.blk b = none) : srcA (m.put b k) esz x = some cs := by
  unfold srcA at *
  split at h <;> try exact h
  rename_i bb o n sz
  split at h
  · rename_i hn; simp [hn, h]
  · rename_i hn
    simp only [hn, if_false]
    cases hk : m.blk bb with
    | none => simp [hk] at h
    | some kk =>
      have hne : bb ≠ b := by rintro rfl; simp [hb] at hk
      simp only [hk, Option.bind_some] at h
      simp only [Mem.blk_put, if_neg hne, hk, Option.bind_some, h]

theorem storeIn_put {m b k o cs c kc} (hb : m.blk b = some k) (hc : m.blk c = none) (hs : kc.st ≠ .old) : storeIn (m.put c kc) b k o cs = (storeIn m b k o cs).put c kc := by
  have hne : b ≠ c := by rintro rfl; simp [hc] at hb
  unfold storeIn
  rw [Mem.put_comm _ (Ne.symm hne), kill_put _ _ hs (by rw [Mem.blk_put, if_neg (Ne.symm hne)]; exact hc)]

theorem Mem.exists_fresh (m : Mem) : ∃ b, m.blk b = none := ⟨_, m.fresh⟩

theorem SerR.lift {P e m b' op v m1 c kc} (h : SerR P e m b' op v m1) (hb' : m.blk b' = none) (hs : kc.st ≠ .old) (hc : m1.blk c = none) :
    ∃ b'', (m.put c kc).blk b'' = none ∧ SerR P e (m.put c kc) b'' op v (m1.put c kc) := by
  have hcm : m.blk c = none := h.dom hc
  have hk' : ∀ {b k}, m.blk b = some k → (m.put c kc).blk b = some k := fun {b k} hk => by
    rw [Mem.blk_put, if_neg (by rintro rfl; simp [hcm] at hk)]; exact hk
  cases h with
  | store ha hk hst ht hp hl hn hi =>
    obtain ⟨b'', hb''⟩ := (m.put c kc).exists_fresh
    refine ⟨b'', hb'', ?_⟩
    rw [← storeIn_put hk hcm hs]
    exact .store ha (hk' hk) hst ht hp hl hn hi
  | same ha hk hst ht hd hei hu hn hcc hl hel =>
    rename_i bb n k es ti et ei
    obtain ⟨b'', hb''⟩ := (m.put c kc).exists_fresh
    refine ⟨b'', hb'', ?_⟩
    have hne : bb ≠ c := fun h => by rw [h, hcm] at hk; cases hk
    have : (sameIn m bb k).put c kc = sameIn (m.put c kc) bb k := by
      unfold sameIn
      rw [storeIn_put hk hcm hs, Mem.put_comm _ hne]
    rw [this]
    exact .same ha (hk' hk) hst ht hd hei hu hn hcc hl hel
  | app0 h1 h2 =>
    obtain ⟨b'', hb''⟩ := (m.put c kc).exists_fresh
    exact ⟨b'', hb'', .app0 h1 h2⟩
  | ext h1 h2 h3 =>
    obtain ⟨b'', hb''⟩ := (m.put c kc).exists_fresh
    exact ⟨b'', hb'', .ext h1 h2 h3⟩
  | app00 h1 =>
    have hne : b' ≠ c := by rintro rfl; simp at hc
    refine ⟨b', by rw [Mem.blk_put, if_neg hne]; exact hb', ?_⟩
    rw [Mem.put_comm _ hne]
    exact .app00 h1
  | appNil h1 h2 h3 h4 h5 h6 h7 =>
    have hne : b' ≠ c := by rintro rfl; simp at hc
    refine ⟨b', by rw [Mem.blk_put, if_neg hne]; exact hb', ?_⟩
    rw [Mem.put_comm _ hne]
    exact .appNil h1 h2 (srcA_put h3 hcm) h4 h5 h6 h7
  | appOwn h1 h2 h3 h4 h5 hk hst hty hend hbb hm =>
    rename_i n news b o len k
    have hne : b' ≠ c := by rintro rfl; simp at hc
    have hne2 : b ≠ c := by rintro rfl; simp [hcm] at hk
    refine ⟨b', by rw [Mem.blk_put, if_neg hne]; exact hb', ?_⟩
    rw [Mem.put_comm _ hne, Mem.put_comm m hne2]
    exact .appOwn h1 h2 (srcA_put h3 hcm) h4 h5 (hk' hk) hst hty hend hbb hm

theorem Ext.lift {m m1 : Mem} (h : Ext m m1) {c kc} : Ext (m.put c kc) (m1.put c kc) := fun b k hk hd => by
  rw [Mem.blk_put] at hk
  by_cases hb : b = c
  · rw [if_pos hb] at hk
    exact ⟨k, by rw [Mem.blk_put, if_pos hb]; exact hk, hd, rfl, rfl⟩
  · rw [if_neg hb] at hk
    obtain ⟨k', h1, h2, h3, h4⟩ := h b k hk hd
    exact ⟨k', by rw [Mem.blk_put, if_neg hb]; exact h1, h2, h3, h4⟩

theorem loadA_ext {P e m m1 op v} (h : loadA P e m op = some v) (hx : Ext m m1) : loadA P e m1 op = some v := by
  unfold loadA at *
  split at h
  · split at h
    · rename_i b o ha
      cases hk : m.blk b with
      | none => simp [hk] at h
      | some k =>
        simp only [hk, Option.bind_some] at h
        obtain ⟨h1, h⟩ := guardO_some h
        obtain ⟨k', e1, e2, e3, _⟩ := hx b k hk h1
        simp only [e1, Option.bind_some, e3, guardO, if_pos e2]
        exact h
    · simp at h
  · split at h
    · rename_i b o ha
      cases hk : m.blk b with
      | none => simp [hk] at h
      | some k =>
        simp only [hk, Option.bind_some] at h
        obtain ⟨h1, h⟩ := guardO_some h
        obtain ⟨k', e1, e2, e3, _⟩ := hx b k hk h1
        simp only [e1, Option.bind_some, e3, guardO, if_pos e2]
        exact h
    · exact h
    · simp at h
  · split at h
    · rename_i b o n sz ha
      cases hsi : tiOf P _ with
      | none => simp [hsi] at h
      | some si =>
        simp only [hsi, Option.bind_some] at h ⊢
        cases hdi : tiOf P _ with
        | none => simp [hdi] at h
        | some di =>
          simp only [hdi, Option.bind_some] at h ⊢
          split at h
          · rename_i et h1 h2
            cases hei : tiOf P et with
            | none => simp [hei] at h
            | some ei =>
              simp only [hei, Option.bind_some] at h ⊢
              split at h
              · cases hk : m.blk b with
                | none => simp [hk] at h
                | some k =>
                  simp only [hk, Option.bind_some] at h
                  obtain ⟨h1, h⟩ := guardO_some h
                  obtain ⟨k', e1, e2, e3, _⟩ := hx b k hk h1
                  simp only [e1, Option.bind_some, e3, guardO, if_pos e2]
                  exact h
              · simp at h
          · simp at h
    · exact h
    · exact h
    · simp at h
  · simp at h

theorem allocA_own {P e b op v k} (h : allocA P e b op = some (v, k)) : k.st = .own := by
  unfold allocA at h
  split at h
  · simp [Option.bind_eq_some_iff] at h
    obtain ⟨ti, _, _, rfl⟩ := h; rfl
  · simp only [Option.bind_eq_some_iff] at h
    obtain ⟨ti, _, h⟩ := h
    obtain ⟨_, h⟩ := guardO_some h
    obtain ⟨_, h⟩ := guardO_some h
    simp at h; obtain ⟨_, rfl⟩ := h; rfl
  · simp only [Option.bind_eq_some_iff] at h
    obtain ⟨ti, _, h⟩ := h
    split at h
    · simp only [Option.bind_eq_some_iff] at h
      obtain ⟨ei, _, h⟩ := h
      obtain ⟨_, h⟩ := guardO_some h
      obtain ⟨_, h⟩ := guardO_some h
      simp at h; obtain ⟨_, _, _, rfl⟩ := h; rfl
    · simp at h
  · split at h
    · simp only [Option.bind_eq_some_iff] at h
      obtain ⟨ti, _, h⟩ := h
      split at h
      · simp only [Option.bind_eq_some_iff] at h
        obtain ⟨ei, _, h⟩ := h
        obtain ⟨_, h⟩ := guardO_some h
        obtain ⟨_, h⟩ := guardO_some h
        obtain ⟨_, h⟩ := guardO_some h
        simp at h; obtain ⟨_, rfl⟩ := h; rfl
      · simp at h
    · simp at h
  · split at h
    · simp only [Option.bind_eq_some_iff] at h
      obtain ⟨ti, _, di, _, h⟩ := h
      split at h
      · simp only [Option.bind_eq_some_iff] at h
        obtain ⟨ei, _, h⟩ := h
        split at h
        · obtain ⟨_, h⟩ := guardO_some h
          obtain ⟨_, h⟩ := guardO_some h
          simp at h; obtain ⟨_, rfl⟩ := h; rfl
        · simp at h
      · simp at h
    · simp at h
  · simp at h

section
variable {P : Program} {F : FnRel}

theorem Step.dom (N : Nice F) {flag e m o v m1 b} (h : Step P F flag e m o v m1) (hb : m1.blk b = none) : m.blk b = none := by
  cases h with
  | pur => exact hb
  | lod => exact hb
  | alc hb' hv =>
    rw [Mem.blk_put] at hb
    split at hb
    · simp at hb
    · exact hb
  | ser hb' hv hf => exact hv.dom hb
  | call _ _ _ hc _ => exact N.dom hc hb
theorem Act1.dom (N : Nice F) {all flag o e m v m1 b} (h : Act1 P F all flag o e m v m1) (hb : m1.blk b = none) : m.blk b = none := by
  cases h with
  | skip => exact hb
  | step _ h => exact h.dom N hb
theorem EvO.dom (N : Nice F) {all fl l e m e' m' b} (h : EvO P F all fl l e m e' m') (hb : m'.blk b = none) : m.blk b = none := by
  induction h with
  | nil => exact hb
  | cons _ h _ ih => exact h.dom N (ih hb)

theorem Step.lift (N : Nice F) {flag e m o v m1 b k} (h : Step P F flag e m o v m1) (hk : k.st ≠ .old) (hb : m1.blk b = none) : Step P F flag e (m.put b k) o v (m1.put b k) := by
  have hbm := h.dom N hb
  cases h with
  | pur hv => exact .pur hv
  | lod hv hf => exact .lod (loadA_ext hv (Ext.put hbm)) hf
  | alc hb' hv =>
    rename_i bb kk
    have hne : bb ≠ b := by rintro rfl; simp at hb
    rw [Mem.put_comm _ hne]
    exact .alc (by rw [Mem.blk_put, if_neg hne]; exact hb') hv
  | ser hb' hv hf =>
    obtain ⟨b'', h1, h2⟩ := hv.lift hb' hk hb
    exact .ser h1 h2 fun h => (hf h).lift
  | call h0 h1 h2 h3 hf => exact .call h0 h1 h2 (N.lift h3 hk hb) fun h => (hf h).lift
theorem Act1.lift (N : Nice F) {all flag o e m v m1 b k} (h : Act1 P F all flag o e m v m1) (hk : k.st ≠ .old) (hb : m1.blk b = none) :
    Act1 P F all flag o e (m.put b k) v (m1.put b k) := by
  cases h with
  | skip hg => exact .skip hg
  | step hg h => exact .step hg (h.lift N hk hb)
theorem EvO.lift (N : Nice F) {all fl l e m e' m' b k} (h : EvO P F all fl l e m e' m') (hk : k.st ≠ .old) (hb : m'.blk b = none) : EvO P F all fl l e (m.put b k) e' (m'.put b k) := by
  induction h with
  | nil => exact .nil
  | cons ho h hr ih => exact .cons ho (h.lift N hk (hr.dom N hb)) (ih hb)

theorem EvC.dom (N : Nice F) {c e m x e' m' b} (h : EvC P F c e m x e' m') (hb : m'.blk b = none) : m.blk b = none := by
  induction h with
  | seq_n _ _ ih1 ih2 => exact ih1 (ih2 hb)
  | loop_n _ _ ih1 ih2 => exact ih1 (ih2 hb)
  | region h => exact h.dom N hb
  | draw _ _ _ h => exact h.dom N hb
  | seq_x _ _ ih => exact ih hb
  | cond _ _ ih => exact ih hb
  | block _ ih => exact ih hb
  | scope _ ih => exact ih hb
  | loop_x _ _ ih => exact ih hb
  | weak _ hw ih => exact ih (hw.dom _ hb)
  | weakL hw _ ih => exact hw.dom _ (ih hb)
  | _ => exact hb
theorem EvC.lift (N : Nice F) {c e m x e' m' b k} (h : EvC P F c e m x e' m') (hk : k.st ≠ .old) (hb : m'.blk b = none) : EvC P F c e (m.put b k) x e' (m'.put b k) := by
  induction h with
  | skip => exact .skip
  | label => exact .label
  | exit => exact .exit
  | ret => exact .ret
  | seq_n _ h2 ih1 ih2 => exact .seq_n (ih1 (h2.dom N hb)) (ih2 hb)
  | seq_x _ hx ih => exact .seq_x (ih hb) hx
  | cond hc _ ih => exact .cond hc (ih hb)
  | block _ ih => exact .block (ih hb)
  | scope _ ih => exact .scope (ih hb)
  | loop_n _ h2 ih1 ih2 => exact .loop_n (ih1 (h2.dom N hb)) (ih2 hb)
  | loop_x _ hx ih => exact .loop_x (ih hb) hx
  | region h => exact .region (h.lift N hk hb)
  | draw π Ri hok h => exact .draw π Ri hok (h.lift N hk hb)
  | weak _ hw ih => exact .weak (ih (hw.dom _ hb)) (hw.lift hb)
  | weakL hw h ih => exact .weakL (hw.lift (h.dom N hb)) (ih hb)

theorem resOne_ext {e m m1 r v} (h : resOne P e m r = some v) (hx : Ext m m1) : resOne P e m1 r = some v := by
  unfold resOne at *
  split at h
  · exact h
  · split at h
    · rename_i b o ha
      cases hk : m.blk b with
      | none => simp [hk] at h
      | some k =>
        simp only [hk, Option.bind_some] at h
        obtain ⟨h1, h⟩ := guardO_some h
        obtain ⟨k', e1, e2, e3, _⟩ := hx b k hk h1
        simp only [e1, Option.bind_some, e3, guardO, if_pos e2]
        exact h
    · simp at h
theorem resList_ext {e m m1} (hx : Ext m m1) : ∀ {rs vs}, resList P e m rs = some vs → resList P e m1 rs = some vs
  | [], vs, h => h
  | r :: rs, vs, h => by
    simp only [resList, Option.bind_eq_some_iff] at h ⊢
    obtain ⟨v, h1, us, h2, h3⟩ := h
    exact ⟨v, resOne_ext h1 hx, us, resList_ext hx h2, h3⟩
theorem resA_ext {e m m1 rs v} (h : resA P rs e m = some v) (hx : Ext m m1) : resA P rs e m1 = some v := by
  simp only [resA, Option.bind_eq_some_iff] at h ⊢
  obtain ⟨vs, h1, h2⟩ := h
  exact ⟨vs, resList_ext hx h1, h2⟩

theorem EvF_nice (P : Program) : ∀ d, Nice (EvF P d)
  | 0 => ⟨fun h => h.elim, fun h => h.elim⟩
  | d + 1 => by
    have N := EvF_nice P d
    refine ⟨fun h hb => ?_, fun h hk hb => ?_⟩
    · obtain ⟨m1, v1, h | h, hw⟩ := h
      · obtain ⟨fn, c, x, e', _, _, _, _, h, _, _⟩ := h
        exact h.dom N (hw.dom _ hb)
      · exact h.dom (hw.dom _ hb)
    · obtain ⟨m1, v1, h | h, h8⟩ := h
      · obtain ⟨fn, c, x, e', h1, h2, h3, h4, h5, h6, h7⟩ := h
        have hb1 := h8.dom _ hb
        exact ⟨_, v1, .inl ⟨fn, c, x, e', h1, h2, h3, h4, h5.lift N hk hb1, h6, resA_ext h7 (Ext.put hb1)⟩, h8.lift hb⟩
      · have hb1 := h8.dom _ hb
        exact ⟨_, v1, .inr (h.lift N.lift hb1), h8.lift hb⟩
end

end Go.Proofs.YtchhknkflhikmaaDoor.Am

/- AM: what a pure operation answers is what the machine answers. -/
namespace Go.Proofs.YtchhknkflhikmaaDoor.Am
set_option linter.unusedSectionVars false
open Go
set_option linter.unusedVariables false
set_option linter.unusedSimpArgs false
variable [Tab]

theorem run_und {P : Program} {t d} (h : P.underlying t = some d) (w : World) : (underlying t).run P w = .ok d w := run_underlying h w
theorem run_ti {P : Program} {t i} (h : P.info? t = some i) (w : World) : (typeInfo t).run P w = .ok i w := by
  simp [typeInfo, h]
theorem run_size {P : Program} {t i} (h : P.info? t = some i) (w : World) : (Go.sizeOf t).run P w = .ok i.size w := by
  simp [Go.sizeOf, run_ti h]
theorem run_zero {P : Program} {t i z} (h : P.info? t = some i) (hz : i.zero = some z) (w : World) : (zeroValue t).run P w = .ok z w := by
  simp [zeroValue, run_ti h, hz]

theorem isAgg_tdOf {P : Program} {t d} (h : P.underlying t = some d) (w : World) : (isAgg t).run P w = .ok (tdOf P t d).isAgg w := by
  simp only [isAgg, Sem.run_bind, run_und h, Result.andThen_ok]
  cases d <;> rfl

theorem array_extract_toList {vs : List Value} {o n : Nat} : vs.toArray.extract o (o + n) = ((vs.drop o).take n).toArray := by
  apply Array.ext'
  simp [List.extract_eq_take_drop]

theorem partA_sound {P : Program} {ρ : Ren} {ti t cs vs off v} (w : World) (ht : tiOf P t = some ti) (h : partA ti cs off = some v) (hs : VRs ρ cs vs) :
    ∃ v', (part t vs.toArray off).run P w = .ok v' w ∧ VR ρ v v' := by
  obtain ⟨i, d, z, hi, hd, hz, e1, e2, e3, e4, e5⟩ := tiOf_spec ht
  have ha := isAgg_tdOf hd w
  unfold partA at h
  rw [e1] at h
  split at h
  · rename_i hagg
    obtain ⟨hle, h⟩ := guardO_some h
    simp at h; subst h
    refine ⟨_, ?_, ((hs.drop off).take ti.size).mk_agg⟩
    rw [hagg] at ha
    simp only [part, Sem.run_bind, ha, Result.andThen_ok, if_true, run_size hi, Sem.run_pure]
    rw [← e2, array_extract_toList]
  · rename_i hagg
    rw [hagg] at ha
    obtain ⟨v', h1, h2⟩ := hs.get h
    refine ⟨v', ?_, h2⟩
    simp only [part, Sem.run_bind, ha, Result.andThen_ok]
    simp [h1]

theorem ofLeaf_int {ρ : Ren} {k n v} (h : VR ρ (.int k n) v) : v = .int k n := by cases h; rfl

theorem bool_decide_eq (a c : Int) : (a == c) = decide (a = c) := by
  by_cases h : a = c <;> simp [h]

theorem str_beq (s u : List UInt8) : ((⟨s.toArray⟩ : ByteArray).toList == (⟨u.toArray⟩ : ByteArray).toList) = decide (s = u) := by
  rw [ByteArray.toList_eq, ByteArray.toList_eq]
  simp
  by_cases h : s = u <;> simp [h]

theorem eqV_sound {P : Program} {ρ : Ren} (w : World) : ∀ (d : Nat) {t x y r x' y'}, eqV P d t x y = some r → VR ρ x x' → VR ρ y y' → ∀ d', d ≤ d' → (Op.equalIn d' t x' y').run P w = .ok r w := by
  intro d
  induction d with
  | zero => intro t x y r x' y' h; simp [eqV] at h
  | succ d ih =>
    have key : ∀ (fs : List Field) {xs ys : List AV} {us vs : List Value} {r}, (fs.all (fun f => f.name != "_")) = true → eqV.eqFs P d (fs.map fun f => (f.offset, f.type)) xs ys = some r →
        VRs ρ xs us → VRs ρ ys vs → ∀ d', d ≤ d' → (Op.eqFields d' us.toArray vs.toArray fs).run P w = .ok r w := by
      intro fs
      induction fs with
      | nil => intro xs ys us vs r _ h _ _ d' _; simp [eqV.eqFs] at h; subst h; simp [Op.eqFields]
      | cons f fs ihf =>
        intro xs ys us vs r hn h hx hy d' hd
        simp only [List.all_cons, Bool.and_eq_true] at hn
        simp only [List.map_cons, eqV.eqFs, Option.bind_eq_some_iff] at h
        obtain ⟨fi, hfi, a, ha, c, hc, r1, hr1, s, hs, hr⟩ := h
        simp at hr; subst hr
        obtain ⟨a', ra, va⟩ := partA_sound w hfi ha hx
        obtain ⟨c', rc, vc⟩ := partA_sound w hfi hc hy
        have h1 := ih hr1 va vc d' hd
        have h2 := ihf hn.2 hs hx hy d' hd
        have hne : f.name ≠ "_" := by simpa using hn.1
        simp only [Op.eqFields, if_pos hne, Sem.run_bind, ra, rc, h1, Result.andThen_ok]
        cases r1
        · simp
        · simpa using h2
    intro t x y r x' y' h hx hy d' hd
    obtain ⟨d', rfl⟩ : ∃ n, d' = n + 1 := ⟨d' - 1, by omega⟩
    simp only [eqV, Option.bind_eq_some_iff] at h
    obtain ⟨ti, hti, h⟩ := h
    obtain ⟨i, dd, z, hi, hdd, hz, e1, e2, e3, e4, e5⟩ := tiOf_spec hti
    rw [e1] at h
    split at h
    · rename_i k0 k a k' c hk
      obtain ⟨hkk, h⟩ := guardO_some h
      simp at h; subst h; subst hkk
      cases hx; cases hy
      cases dd <;> simp [tdOf] at hk
      subst hk
      rw [run_equalIn_int w d' t k _ a c hdd, bool_decide_eq]
    · rename_i p q hk
      simp at h; subst h
      cases hx; cases hy
      cases dd <;> simp [tdOf] at hk
      exact run_equalIn_bool' w d' t p q hdd
    · rename_i s u hk
      simp at h; subst h
      cases hx; cases hy
      cases dd <;> simp [tdOf] at hk
      rw [run_equalIn_string w d' t _ _ hdd, str_beq]
    · rename_i fs xs ys hk
      cases dd <;> simp [tdOf] at hk
      rename_i fields
      obtain ⟨hk1, hk2⟩ := hk
      obtain ⟨us, rfl, hu⟩ := hx.agg_inv
      obtain ⟨vs, rfl, hv⟩ := hy.agg_inv
      have hf : P.fieldsOf t = fields := by simp [Program.fieldsOf, hdd]
      rw [run_equalIn_struct w d' t _ _ (by rw [hf]; exact hdd) hk2.1.2, hf]
      rw [← hk1] at h
      exact key fields.toList (by simpa using hk2.1.1) h hu hv d' (by omega)
    · simp at h

theorem isBool_und {P : Program} {t d} (h : (tdOf P t d).isBool = true) : d = .bool := by cases d <;> simp [tdOf, TD.isBool] at h; rfl
theorem isPtr_und {P : Program} {t d} (h : (tdOf P t d).isPtr = true) : ∃ e, d = .pointer e := by cases d <;> simp [tdOf, TD.isPtr] at h; exact ⟨_, rfl⟩
theorem isFunc_und {P : Program} {t d} (h : (tdOf P t d).isFunc = true) : ∃ a b c, d = .func a b c := by cases d <;> simp [tdOf, TD.isFunc] at h; exact ⟨_, _, _, rfl⟩

theorem eqV_plain {P : Program} {d t xs ys r} (h : eqV P d t (.agg xs) (.agg ys) = some r) : P.eqGuardType P.depth t = false := by
  cases d with
  | zero => simp [eqV] at h
  | succ d =>
    simp only [eqV, Option.bind_eq_some_iff] at h
    obtain ⟨ti, hti, h⟩ := h
    obtain ⟨i, dd, z, hi, hdd, hz, e1, e2, e3, e4, e5⟩ := tiOf_spec hti
    rw [e1] at h
    split at h
    · simp_all
    · simp_all
    · simp_all
    · have hk : ∃ fs, tdOf P t dd = TD.struct fs true := ⟨_, by assumption⟩
      obtain ⟨fs, hk⟩ := hk
      cases dd <;> simp [tdOf] at hk
      exact hk.2.2
    · simp at h

theorem eqIn_ptr_nil {P : Program} {t e} (w : World) (d : Nat) (h : P.underlying t = some (.pointer e)) (a : Addr) : (Op.equalIn (d + 1) t (.pointer (some a)) (.pointer none)).run P w = .ok false w := by
  simp [Op.equalIn, run_und h]
theorem eqIn_nil_ptr {P : Program} {t e} (w : World) (d : Nat) (h : P.underlying t = some (.pointer e)) (a : Option Addr) : (Op.equalIn (d + 1) t (.pointer none) (.pointer a)).run P w = .ok a.isNone w := by
  simp [Op.equalIn, run_und h]
theorem eqIn_fn_nil {P : Program} {t a b c} (w : World) (d : Nat) (h : P.underlying t = some (.func a b c)) (f x y) : (Op.equalIn (d + 1) t (.func f x y) .nilFunc).run P w = .ok false w := by
  simp [Op.equalIn, run_und h]
theorem eqIn_nilfn {P : Program} {t a b c} (w : World) (d : Nat) (h : P.underlying t = some (.func a b c)) : (Op.equalIn (d + 1) t .nilFunc .nilFunc).run P w = .ok true w := by
  simp [Op.equalIn, run_und h]

theorem eqA_sound {P : Program} {ρ : Ren} {t x y r x' y'} (w : World) (h : eqA P t x y = some r) (hx : VR ρ x x') (hy : VR ρ y y') :
    (Op.equal t x' y').run P w = .ok r w ∧ ∀ op ox oy, (eqGuard op t ox oy x' y').run P w = .ok () w := by
  unfold eqA at h
  unfold Op.equal Op.maxDepth
  split at h
  all_goals try (simp only [Option.bind_eq_some_iff] at h; obtain ⟨ti, hti, h⟩ := h; obtain ⟨i, dd, z, hi, hdd, hz, e1, e2, e3, e4, e5⟩ := tiOf_spec hti; obtain ⟨hk, h⟩ := guardO_some h; rw [e1] at hk; simp at h; subst h)
  · cases hx; cases hy
    have := isBool_und hk; subst this
    exact ⟨run_equalIn_bool' w _ t _ _ hdd, fun op ox oy => by cases op <;> simp [eqGuard]⟩
  · cases hx; cases hy
    obtain ⟨e, rfl⟩ := isPtr_und hk
    exact ⟨eqIn_ptr_nil w 9999 hdd _, fun op ox oy => by cases op <;> simp [eqGuard]⟩
  · cases hx; cases hy
    obtain ⟨e, rfl⟩ := isPtr_und hk
    exact ⟨eqIn_nil_ptr w 9999 hdd _, fun op ox oy => by cases op <;> simp [eqGuard]⟩
  · cases hx; cases hy
    obtain ⟨e, rfl⟩ := isPtr_und hk
    exact ⟨eqIn_nil_ptr w 9999 hdd _, fun op ox oy => by cases op <;> simp [eqGuard]⟩
  · cases hx; cases hy
    obtain ⟨_, _, _, rfl⟩ := isFunc_und hk
    exact ⟨eqIn_fn_nil w 9999 hdd _ _ _, fun op ox oy => by cases op <;> simp [eqGuard]⟩
  · cases hx; cases hy
    obtain ⟨_, _, _, rfl⟩ := isFunc_und hk
    exact ⟨eqIn_nilfn w 9999 hdd, fun op ox oy => by cases op <;> simp [eqGuard]⟩
  · have hg := eqV_plain h
    have h1 := eqV_sound w _ h hx hy 10000 (by omega)
    obtain ⟨us, rfl, hu⟩ := hx.agg_inv
    obtain ⟨vs, rfl, hv⟩ := hy.agg_inv
    exact ⟨h1, fun op ox oy => run_eqGuard_agg w op t ox oy _ _ hg⟩
  · simp at h

theorem binInt_sound {P : Program} {ρ : Ren} {op k a c v} (w : World) (xt : TypeId) (hns : op ≠ .shl) (hns' : op ≠ .shr) (h : binInt op k a c = some v) :
    ∃ v', (binOp op xt (.int k a) (.int k c)).run P w = .ok v' w ∧ VR ρ v v' := by
  cases op <;> simp [binInt] at h
  all_goals first
    | (obtain ⟨hc, h⟩ := guardO_some h; simp at h; subst h; refine ⟨_, ?_, .int _ _⟩; simp [binOp, Op.intDiv, hc])
    | (subst h; refine ⟨_, ?_, .int _ _⟩; simp [binOp, Op.intArith, Op.intBits, bitsA])
    | (subst h; refine ⟨_, ?_, .bool _⟩; simp [binOp, Op.intCmp, bool_decide_eq, bne])
    | (exact absurd rfl hns)
    | (exact absurd rfl hns')

theorem binA_sound {P : Program} {ρ : Ren} {op xt x y v x' y'} (w : World) (ox oy : Operand) (h : binA P op xt x y = some v) (hx : VR ρ x x') (hy : VR ρ y y') :
    ∃ v', (do eqGuard op xt ox oy x' y'; binOp op xt x' y' : Sem Value).run P w = .ok v' w ∧ VR ρ v v' := by
  unfold binA at h
  split at h
  · rename_i k a k' c
    cases hx; cases hy
    have hg : (eqGuard op xt ox oy (.int k a) (.int k' c)).run P w = .ok () w := by cases op <;> simp [eqGuard]
    simp only [Sem.run_bind, hg, Result.andThen_ok]
    split at h
    · obtain ⟨hc, h⟩ := guardO_some h
      simp at h; subst h
      refine ⟨_, ?_, .int _ _⟩
      simp [binOp, Op.shift, shlA, Int.not_lt.mpr hc]
    · obtain ⟨hc, h⟩ := guardO_some h
      simp at h; subst h
      refine ⟨_, ?_, .int _ _⟩
      simp [binOp, Op.shift, shrA, Int.not_lt.mpr hc]
    · obtain ⟨hkk, h2⟩ := guardO_some h
      subst hkk
      exact binInt_sound w xt (by assumption) (by assumption) h2
  · rename_i s u
    cases hx; cases hy
    have hg : (eqGuard op xt ox oy (.string ⟨s.toArray⟩) (.string ⟨u.toArray⟩)).run P w = .ok () w := by cases op <;> simp [eqGuard]
    simp only [Sem.run_bind, hg, Result.andThen_ok]
    split at h
    · obtain ⟨hc, h⟩ := guardO_some h
      simp at h; subst h
      refine ⟨_, ?_, .str _⟩
      have hs : ¬ (((ByteArray.size ⟨s.toArray⟩ + ByteArray.size ⟨u.toArray⟩ : Nat) : Int) > IntKind.i64.max) := by
        simp only [maxInt] at hc
        show ¬ (((s.toArray.size + u.toArray.size : Nat) : Int) > 9223372036854775807)
        simp; omega
      simp only [binOp, Op.stringOp]
      rw [if_neg hs]
      simp only [Sem.run_pure]
      congr 2
    · simp at h; subst h
      refine ⟨_, ?_, .bool _⟩
      simp only [binOp, Op.stringOp, Sem.run_pure, str_beq]
    · simp at h; subst h
      refine ⟨_, ?_, .bool _⟩
      simp only [binOp, Op.stringOp, Sem.run_pure, str_beq]
    · simp at h
  · rename_i hni hns
    have he : ∀ r, eqA P xt x y = some r → (Op.equal xt x' y').run P w = .ok r w ∧ (eqGuard op xt ox oy x' y').run P w = .ok () w := fun r hr =>
      ⟨(eqA_sound w hr hx hy).1, (eqA_sound w hr hx hy).2 op ox oy⟩
    have hb : ∀ r, eqA P xt x y = some r → binOp .eql xt x' y' = (do pure (.bool (← Op.equal xt x' y'))) ∧ binOp .neq xt x' y' = (do pure (.bool (!(← Op.equal xt x' y')))) := by
      intro r hr
      unfold eqA at hr
      split at hr <;> first | (simp at hr; done) | (cases hx; cases hy; exact ⟨rfl, rfl⟩)
    split at h
    · simp only [Option.map_eq_some_iff] at h
      obtain ⟨r, hr, rfl⟩ := h
      refine ⟨_, ?_, .bool _⟩
      simp only [Sem.run_bind, (he r hr).2, Result.andThen_ok, (hb r hr).1, (he r hr).1, Sem.run_pure]
    · simp only [Option.map_eq_some_iff] at h
      obtain ⟨r, hr, rfl⟩ := h
      refine ⟨_, ?_, .bool _⟩
      simp only [Sem.run_bind, (he r hr).2, Result.andThen_ok, (hb r hr).2, (he r hr).1, Sem.run_pure]
    · simp at h

theorem unA_sound {P : Program} {ρ : Ren} {op x v x'} (w : World) (h : unA op x = some v) (hx : VR ρ x x') : ∃ v', (Op.unary op x').run P w = .ok v' w ∧ VR ρ v v' := by
  unfold unA at h
  split at h <;> simp only [Option.some.injEq, reduceCtorEq] at h <;> subst h <;> cases hx
  · exact ⟨_, rfl, .bool _⟩
  · exact ⟨_, rfl, .int _ _⟩
  · refine ⟨_, ?_, .int _ _⟩
    simp only [Op.unary, Op.intBits, bitsA, Sem.run_pure]

end Go.Proofs.YtchhknkflhikmaaDoor.Am

/- AM: the pure operations, the rest of them: building, cutting, indexing, lengths; all of them together. -/
namespace Go.Proofs.YtchhknkflhikmaaDoor.Am
set_option linter.unusedSectionVars false
open Go
set_option linter.unusedVariables false
set_option linter.unusedSimpArgs false
variable [Tab]

theorem fold_set (off : Nat) : ∀ (vs : List Value) (k : Nat) (cur : Array Value), off + k + vs.length ≤ cur.size →
    ((vs.zipIdx k).foldl (fun (cs : Array Value) (x : Value × Nat) => cs.setIfInBounds (off + x.2) x.1) cur).toList = cur.toList.take (off + k) ++ vs ++ cur.toList.drop (off + k + vs.length)
  | [], k, cur, h => by simp
  | v :: vs, k, cur, h => by
    simp only [List.zipIdx_cons, List.foldl_cons]
    simp only [List.length_cons] at h
    rw [fold_set off vs (k + 1) _ (by simp; omega)]
    have hlt : off + k < cur.toList.length := by simp; omega
    simp only [Array.toList_setIfInBounds, List.length_cons]
    rw [show off + (k + 1) = off + k + 1 by omega, List.take_succ_eq_append_getElem (by simpa using hlt)]
    rw [List.take_set_of_le (by omega), List.getElem_set_self, List.drop_set_of_lt (by omega)]
    simp only [List.append_assoc, List.singleton_append, List.cons_append, List.nil_append]
    rw [show off + k + 1 + vs.length = off + k + (vs.length + 1) by omega]

theorem fill_sound {ρ : Ren} {place : Nat → Option (Nat × Nat)} : ∀ {parts : List (Nat × AV)} {parts' : List (Nat × Value)} {cs cs' : List AV} {vs : List Value},
    fillA place cs parts = some cs' → VRs ρ cs vs → parts.length = parts'.length → (∀ (i : Nat) p p', parts[i]? = some p → parts'[i]? = some p' → p.1 = p'.1 ∧ VR ρ p.2 p'.2) →
    ∃ vs', Instr.fill place vs.toArray parts' = some vs'.toArray ∧ VRs ρ cs' vs' ∧ vs'.length = vs.length
  | [], parts', cs, cs', vs, h, hs, hl, hp => by
    simp [fillA] at h; subst h
    have : parts' = [] := List.eq_nil_of_length_eq_zero (by simpa using hl.symm)
    subst this
    exact ⟨vs, rfl, hs, rfl⟩
  | (i, v) :: rest, [], cs, cs', vs, h, hs, hl, hp => by simp at hl
  | (i, v) :: rest, (i', v') :: rest', cs, cs', vs, h, hs, hl, hp => by
    obtain ⟨e1, hv⟩ := hp 0 _ _ rfl rfl
    simp only at e1 hv; subst e1
    simp only [fillA, Option.bind_eq_some_iff] at h
    obtain ⟨⟨off, size⟩, hpl, h⟩ := h
    obtain ⟨h1, h⟩ := guardO_some h
    obtain ⟨h2, h⟩ := guardO_some h
    obtain ⟨h3, h⟩ := guardO_some h
    simp only at h2 h3 h
    have hvc := hv.cells h1
    have hn : v'.cells.size = v.cells.length := by have := hvc.1; simpa using this.symm
    have hcur : cs.length = vs.length := hs.1
    obtain ⟨vs', r1, r2, r3⟩ := fill_sound (vs := vs.take off ++ v'.cells.toList ++ vs.drop (off + v.cells.length)) h
      (by rw [← h2] at *; exact ((hs.take off).append hvc).append (hs.drop _)) (by simpa using hl)
      (fun j p p' hj hj' => hp (j + 1) p p' (by simpa using hj) (by simpa using hj'))
    refine ⟨vs', ?_, r2, ?_⟩
    · rw [← r1]
      simp only [Instr.fill, hpl]
      rw [if_neg (by simp [hn, h2]; omega)]
      congr 1
      apply Array.ext'
      rw [← Array.foldl_toList, Array.toList_zipIdx]
      have := fold_set off v'.cells.toList 0 vs.toArray (by simp; omega)
      simp only [Nat.add_zero] at this
      rw [this]
      have hvl : v'.cells.toList.length = v.cells.length := by simpa using hn
      simp [hvl]
    · rw [r3]
      have hvl : v'.cells.toList.length = v.cells.length := by simpa using hn
      simp only [List.length_append, List.length_take, List.length_drop, hvl]
      omega

theorem placesA_sound {P : Program} (w : World) : ∀ {fs : List Field} {ps}, placesA P (fs.map fun f => (f.offset, f.type)) = some ps →
    (fs.mapM (m := Sem) fun f => do pure (f.offset, ← Go.sizeOf f.type)).run P w = .ok ps w
  | [], ps, h => by simp [placesA] at h; subst h; rfl
  | f :: fs, ps, h => by
    simp only [List.map_cons, placesA, Option.bind_eq_some_iff] at h
    obtain ⟨ti, hti, ps', hps, h⟩ := h
    simp at h; subst h
    obtain ⟨i, d, z, hi, hd, hz, e1, e2, e3, e4, e5⟩ := tiOf_spec hti
    have ih := placesA_sound w hps
    simp only [List.mapM_cons, Sem.run_bind, run_size hi, Result.andThen_ok, Sem.run_pure, ih, e2]

theorem buildA_sound {P : Program} {ρ : Ren} (w : World) {t : TypeId} {parts : List (Nat × AV)} {parts' : List (Nat × Value)} {v}
    (h : buildA P t parts = some v) (hl : parts.length = parts'.length) (hp : ∀ (i : Nat) p p', parts[i]? = some p → parts'[i]? = some p' → p.1 = p'.1 ∧ VR ρ p.2 p'.2) :
    ∃ v', (Instr.build t parts'.toArray).run P w = .ok v' w ∧ VR ρ v v' := by
  simp only [buildA, Option.bind_eq_some_iff] at h
  obtain ⟨ti, hti, h⟩ := h
  obtain ⟨i, d, z, hi, hd, hz, e1, e2, e3, e4, e5⟩ := tiOf_spec hti
  rw [e1] at h
  have hzs : VRs ρ ti.zero z.cells.toList := ofLeafs_VR e4
  split at h
  · rename_i fs pl hk
    cases d <;> simp [tdOf] at hk
    rename_i fields
    obtain ⟨hk, _⟩ := hk
    simp only [Option.bind_eq_some_iff, Option.map_eq_some_iff] at h
    obtain ⟨ps, hps, cs, hcs, rfl⟩ := h
    rw [← hk] at hps
    have hpl := placesA_sound w hps
    obtain ⟨vs, r1, r2, _⟩ := fill_sound hcs hzs hl hp
    refine ⟨_, ?_, r2.mk_agg⟩
    have hm : (fields.mapM (m := Sem) fun f => do pure (f.offset, ← Go.sizeOf f.type)).run P w = .ok ps.toArray w := by
      rw [Array.mapM_eq_mapM_toList]
      simp only [Sem.run_map, hpl, Result.andThen_ok]
    simp only [Instr.build, Sem.run_bind, run_zero hi hz, Result.andThen_ok, run_und hd, hm]
    have hf : Instr.fill (ps.toArray[·]?) z.cells parts'.toArray.toList = some vs.toArray := by simpa using r1
    simp only [hf, Sem.run_pure]
  · rename_i n e hk
    cases d <;> simp [tdOf] at hk
    rename_i n' e'
    obtain ⟨rfl, rfl⟩ := hk
    simp only [Option.bind_eq_some_iff, Option.map_eq_some_iff] at h
    obtain ⟨ei, hei, cs, hcs, rfl⟩ := h
    obtain ⟨i2, d2, z2, hi2, _, _, _, f2, _⟩ := tiOf_spec hei
    obtain ⟨vs, r1, r2, _⟩ := fill_sound hcs hzs hl hp
    refine ⟨_, ?_, r2.mk_agg⟩
    simp only [Instr.build, Sem.run_bind, run_zero hi hz, Result.andThen_ok, run_und hd, run_size hi2]
    have hf : Instr.fill (fun i => some (i * i2.size, i2.size)) z.cells parts'.toArray.toList = some vs.toArray := by
      rw [← f2]; simpa using r1
    simp only [hf, Sem.run_pure]
  · simp at h

theorem fieldOf_sound {P : Program} {t f off ft} (h : fieldOf P t f = some (off, ft)) : ∃ fields : Array Field, ∃ fl : Field, P.underlying t = some (.struct fields) ∧ fields[f]? = some fl ∧ fl.offset = off ∧ fl.type = ft := by
  simp only [fieldOf, Option.bind_eq_some_iff] at h
  obtain ⟨ti, hti, h⟩ := h
  obtain ⟨i, d, z, hi, hd, hz, e1, e2, e3, e4, e5⟩ := tiOf_spec hti
  rw [e1] at h
  split at h
  · rename_i fs pl hk
    cases d <;> simp [tdOf] at hk
    rename_i fields
    obtain ⟨hk, _⟩ := hk
    rw [← hk] at h
    simp only [List.getElem?_map, Option.map_eq_some_iff] at h
    obtain ⟨fl, h1, h2⟩ := h
    simp at h2
    exact ⟨fields, fl, hd, by simpa using h1, h2.1, h2.2⟩
  · simp at h

theorem bnd_sound {P : Program} {ρ : Ren} (w : World) {n : Int} {y : Nat} {v : Value} {k : IntKind} {code : BoundsCode} (hv : VR ρ (.int k n) v) (h0 : 0 ≤ n) (h1 : n ≤ (y : Int)) :
    (Instr.sliceBound v y code).run P w = .ok n.toNat w := by
  cases hv
  simp [Instr.sliceBound, asIntOf, h0, h1]

/-- Options of values. -/
inductive OR (ρ : Ren) : Option AV → Option Value → Prop
  | none : OR ρ none none
  | some {x x'} (h : VR ρ x x') : OR ρ (some x) (some x')

theorem bounds_sound {P : Program} {ρ : Ren} (w : World) {isSlice : Bool} {lo hi : Option AV} {lo' hi' : Option Value} {len cap : Nat} {l h : Int}
    (hlo : OR ρ lo lo') (hhi : OR ρ hi hi') (el : bndA lo 0 = some l) (eh : bndA hi (len : Int) = some h) (h0 : 0 ≤ l) (h1 : l ≤ h) (h2 : h ≤ (cap : Int)) :
    (Instr.sliceBounds isSlice len cap lo' hi' none).run P w = .ok (l.toNat, h.toNat, cap) w := by
  have key : ∀ {x : AV} {x' : Value} {n : Int} {d : Int} {y : Nat} {code : BoundsCode}, VR ρ x x' → bndA (some x) d = some n → 0 ≤ n → n ≤ (y : Int) → (Instr.sliceBound x' y code).run P w = .ok n.toNat w := by
    intro x x' n d y code hv hb hn0 hny
    cases x <;> simp [bndA] at hb
    subst hb
    exact bnd_sound w hv hn0 hny
  cases hhi with
  | none =>
    simp [bndA] at eh; subst eh
    cases hlo with
    | none => simp [bndA] at el; subst el; simp [Instr.sliceBounds]
    | some hv => simp [Instr.sliceBounds, key hv el h0 h1]
  | some hv' =>
    have hh := fun code => key (code := code) hv' eh (by omega) h2
    cases hlo with
    | none => simp [bndA] at el; subst el; simp [Instr.sliceBounds, hh]
    | some hv => simp [Instr.sliceBounds, hh, key hv el h0 (y := h.toNat) (by omega)]

theorem addr_add (b o n : Nat) : (⟨b, o, none⟩ : Addr).add n = ⟨b, o + n, none⟩ := by
  unfold Addr.add; split <;> simp_all

theorem extract_str (s : List UInt8) (l h : Nat) : (ByteArray.extract ⟨s.toArray⟩ l h) = ⟨((s.drop l).take (h - l)).toArray⟩ := by
  apply ByteArray.ext
  rw [ByteArray.data_extract]
  apply Array.ext'
  simp [List.extract_eq_take_drop]

theorem arrCutA_sound {P : Program} {ρ : Ren} (w : World) {t b o n v x'} {l0 : Loc} {lo hi : Option AV} {lo' hi' : Option Value} (h : arrCutA P t b o n lo hi = some v) (hl0 : ρ b = some l0) (hx : x' = .pointer (some ⟨l0.blk, l0.off + o, none⟩))
    (hc : l0.own = true → l0.off + n ≤ l0.phys) (hlo : OR ρ lo lo') (hhi : OR ρ hi hi') : ∃ v', (Instr.sliceAt t x' lo' hi' none).run P w = .ok v' w ∧ VR ρ v v' := by
  simp only [arrCutA, Option.bind_eq_some_iff] at h
  obtain ⟨ti, hti, h⟩ := h
  obtain ⟨i, d, z, hi0, hd, hz, e1, e2, e3, e4, e5⟩ := tiOf_spec hti
  rw [e1] at h
  split at h
  · rename_i len et hk
    cases d <;> simp [tdOf] at hk
    obtain ⟨rfl, rfl⟩ := hk
    rename_i len et
    simp only [Option.bind_eq_some_iff] at h
    obtain ⟨ei, hei, h⟩ := h
    obtain ⟨hin, h⟩ := guardO_some h
    simp only [Option.bind_eq_some_iff] at h
    obtain ⟨l, el, hh, eh, h⟩ := h
    obtain ⟨⟨c1, c2, c3⟩, h⟩ := guardO_some h
    simp at h; subst h; subst hx
    obtain ⟨i2, d2, z2, hi2, _, _, _, f2, _⟩ := tiOf_spec hei
    have hb := bounds_sound (P := P) (isSlice := false) (len := len) (cap := len) w hlo hhi el eh c1 c2 c3
    have run : (Instr.sliceAt t (.pointer (some ⟨l0.blk, l0.off + o, none⟩)) lo' hi' none).run P w =
        .ok (.slice (some (if len = l.toNat then ⟨l0.blk, l0.off + o, none⟩ else (⟨l0.blk, l0.off + o, none⟩ : Addr).add (l.toNat * i2.size))) (hh.toNat - l.toNat) (len - l.toNat)) w := by
      simp only [Instr.sliceAt, Instr.sureAddr, Sem.run_bind, run_und hd, Result.andThen_ok, hb, run_size hi2, Sem.run_pure]
    refine ⟨_, run, ?_⟩
    by_cases hz : len = l.toNat
    · rw [if_pos hz, show hh.toNat - l.toNat = 0 by omega, show len - l.toNat = 0 by omega]
      exact .sl0 hl0 _
    · rw [if_neg hz, addr_add, f2]
      have e : l0.off + o + l.toNat * i2.size = l0.off + (o + l.toNat * i2.size) := by omega
      rw [e]
      refine .sl hl0 (by omega) fun ho => ?_
      have h1 := hc ho
      rw [f2] at hin
      have h2 : l.toNat * i2.size + (len - l.toNat) * i2.size = len * i2.size := by rw [← Nat.add_mul]; congr 1; omega
      omega
  · simp at h

theorem sliceA_sound {P : Program} {ρ : Ren} (w : World) {t x v x'} {lo hi : Option AV} {lo' hi' : Option Value} (h : sliceA P t x lo hi = some v) (hx : VR ρ x x')
    (hlo : OR ρ lo lo') (hhi : OR ρ hi hi') : ∃ v', (Instr.sliceAt t x' lo' hi' none).run P w = .ok v' w ∧ VR ρ v v' := by
  simp only [sliceA, Option.bind_eq_some_iff] at h
  obtain ⟨ti, hti, h⟩ := h
  obtain ⟨i, d, z, hi0, hd, hz, e1, e2, e3, e4, e5⟩ := tiOf_spec hti
  rw [e1] at h
  split at h
  · rename_i s hk
    cases d <;> simp [tdOf] at hk
    simp only [Option.bind_eq_some_iff] at h
    obtain ⟨l, el, hh, eh, h⟩ := h
    obtain ⟨⟨c1, c2, c3⟩, h⟩ := guardO_some h
    simp at h; subst h
    cases hx
    have hb := bounds_sound (P := P) (isSlice := false) (len := s.length) (cap := s.length) w hlo hhi el eh c1 c2 c3
    refine ⟨_, ?_, .str _⟩
    have hsz : ByteArray.size ⟨s.toArray⟩ = s.length := by show s.toArray.size = _; simp
    simp only [Instr.sliceAt, Instr.slice, Sem.run_bind, run_und hd, Result.andThen_ok, hsz, hb, Option.isSome_none, Bool.false_eq_true, if_false, Sem.run_pure, extract_str]
  · rename_i e b o n s hk
    cases d <;> simp [tdOf] at hk
    subst hk
    simp only [Option.bind_eq_some_iff] at h
    obtain ⟨l, el, hh, eh, ei, hei, h⟩ := h
    obtain ⟨hs, h⟩ := guardO_some h
    obtain ⟨⟨c1, c2, c3⟩, h⟩ := guardO_some h
    simp at h; subst h; subst hs
    obtain ⟨i2, d2, z2, hi2, _, _, _, f2, _⟩ := tiOf_spec hei
    have run : ∀ (a : Option Addr) (cap : Nat), n ≤ cap → (Instr.sliceAt t (.slice a n cap) lo' hi' none).run P w =
        .ok (.slice (if cap = l.toNat then a else a.map (·.add (l.toNat * i2.size))) (hh.toNat - l.toNat) (cap - l.toNat)) w := by
      intro a cap hcap
      have hb := bounds_sound (P := P) (isSlice := true) (len := n) (cap := cap) w hlo hhi el eh c1 c2 (by omega)
      simp only [Instr.sliceAt, Instr.slice, Sem.run_bind, run_und hd, Result.andThen_ok, hb, run_size hi2, Sem.run_pure]
    cases hx with
    | sl h1 h2 h3 =>
      rename_i lc cap
      refine ⟨_, run _ _ h2, ?_⟩
      by_cases hc : cap = l.toNat
      · rw [if_pos hc]
        have e1 : hh.toNat - l.toNat = 0 := by omega
        rw [e1, show cap - l.toNat = 0 by omega]
        exact .sl0 h1 _
      · rw [if_neg hc]
        simp only [Option.map_some, addr_add]
        rw [show lc.off + o + l.toNat * i2.size = lc.off + (o + l.toNat * ei.size) by rw [f2]; omega]
        refine .sl h1 (by omega) fun ho => ?_
        have := h3 ho
        have hm : l.toNat * ei.size + (cap - l.toNat) * ei.size = cap * ei.size := by rw [← Nat.add_mul]; congr 1; omega
        omega
    | sl0 h1 a =>
      refine ⟨_, run _ _ (Nat.le_refl _), ?_⟩
      have e0 : l.toNat = 0 := by omega
      have e1 : hh.toNat = 0 := by omega
      simp only [e0, e1, if_true]
      exact .sl0 h1 _
  · rename_i e hk
    cases d <;> simp [tdOf] at hk
    simp only [Option.bind_eq_some_iff] at h
    obtain ⟨l, el, hh, eh, ei, hei, h⟩ := h
    obtain ⟨i2, d2, z2, hi2, _, _, _, f2, _⟩ := tiOf_spec hei
    have hg := guardO_some h
    clear h
    obtain ⟨⟨rfl, rfl⟩, h⟩ := hg
    simp at h; subst h
    cases hx
    have hb := bounds_sound (P := P) (isSlice := true) (len := 0) (cap := 0) w hlo hhi el eh (by omega) (by omega) (by omega)
    refine ⟨_, ?_, .snil⟩
    subst hk
    simp only [Instr.sliceAt, Instr.slice, Sem.run_bind, run_und hd, Result.andThen_ok, hb, run_size hi2, Sem.run_pure]
    simp
  · rename_i e s es hk
    cases d <;> simp [tdOf] at hk
    subst hk
    simp only [Option.bind_eq_some_iff] at h
    obtain ⟨l, el, hh, eh, ei, hei, h⟩ := h
    obtain ⟨hs, h⟩ := guardO_some h
    obtain ⟨⟨c1, c2, c3⟩, h⟩ := guardO_some h
    simp at h; subst h; subst hs
    obtain ⟨i2, d2, z2, hi2, _, _, _, f2, _⟩ := tiOf_spec hei
    have run : ∀ (a : Option Addr) (cap : Nat), es.length ≤ cap → (Instr.sliceAt t (.slice a es.length cap) lo' hi' none).run P w =
        .ok (.slice (if cap = l.toNat then a else a.map (·.add (l.toNat * i2.size))) (hh.toNat - l.toNat) (cap - l.toNat)) w := by
      intro a cap hcap
      have hb := bounds_sound (P := P) (isSlice := true) (len := es.length) (cap := cap) w hlo hhi el eh c1 c2 (by omega)
      simp only [Instr.sliceAt, Instr.slice, Sem.run_bind, run_und hd, Result.andThen_ok, hb, run_size hi2, Sem.run_pure]
    cases hx with
    | rs vs hn hc hl hv hi =>
      rename_i blk off n cap
      subst hn
      refine ⟨_, run _ _ hc, ?_⟩
      by_cases hcl : cap = l.toNat
      · have e1 : hh.toNat - l.toNat = 0 := by omega
        rw [if_pos hcl, e1, List.take_zero]
        exact .rs0 _ _ _
      · rw [if_neg hcl]
        simp only [Option.map_some, addr_add]
        refine .rs (fun i j => vs (l.toNat + i) j) (by simp; omega) (by omega) (fun e he => hl e (List.mem_of_mem_drop (List.mem_of_mem_take he))) (fun i j e c h1 h2 => ?_) (fun i j h1 h2 => ?_)
        · rw [List.getElem?_take] at h1
          split at h1
          · rw [List.getElem?_drop] at h1
            exact hv _ _ _ _ h1 h2
          · cases h1
        · rw [← hi (l.toNat + i) j (by omega) h2, f2, Nat.add_mul]
          congr 1; omega
    | rs0 s a cap =>
      refine ⟨_, run _ _ (Nat.zero_le _), ?_⟩
      have e0 : hh.toNat - l.toNat = 0 := by simp at c3; omega
      rw [e0, List.take_zero]
      exact .rs0 _ _ _
  · simp at h

end Go.Proofs.YtchhknkflhikmaaDoor.Am

/- AM: every pure operation answers what the machine answers. -/
namespace Go.Proofs.YtchhknkflhikmaaDoor.Am
set_option linter.unusedSectionVars false
open Go
set_option linter.unusedVariables false
set_option linter.unusedSimpArgs false
variable [Tab]

theorem indexAddrA_sound {P : Program} {ρ : Ren} (w : World) {t x i v x' i'} (h : indexAddrA P t x i = some v) (hx : VR ρ x x') (hi : VR ρ i i') :
    ∃ v', (Instr.indexAt t x' i').run P w = .ok v' w ∧ VR ρ v v' := by
  unfold indexAddrA at h
  split at h
  · rename_i k n
    cases hi
    simp only [Option.bind_eq_some_iff] at h
    obtain ⟨ti, hti, h⟩ := h
    obtain ⟨inf, d, z, hi0, hd, hz, e1, e2, e3, e4, e5⟩ := tiOf_spec hti
    rw [e1] at h
    split at h
    · rename_i e b o len s hk
      cases d <;> simp [tdOf] at hk
      subst hk
      simp only [Option.bind_eq_some_iff] at h
      obtain ⟨ei, hei, h⟩ := h
      obtain ⟨i2, d2, z2, hi2, _, _, _, f2, _⟩ := tiOf_spec hei
      obtain ⟨⟨c1, c2⟩, h⟩ := guardO_some h
      simp at h; subst h
      cases hx with
      | sl h1 h2 h3 =>
        rename_i lc cap
        refine ⟨_, ?_, .ptr h1⟩
        have hc : 0 ≤ n ∧ n < (len : Int) := ⟨c1, c2⟩
        simp [Instr.indexAt, asIntOf, run_und hd, hc, run_size hi2, addr_add, f2, Nat.add_assoc]
      | sl0 h1 a => omega
    · rename_i len e b o hk
      cases d <;> simp [tdOf] at hk
      obtain ⟨rfl, rfl⟩ := hk
      simp only [Option.bind_eq_some_iff] at h
      obtain ⟨ei, hei, h⟩ := h
      obtain ⟨i2, d2, z2, hi2, _, _, _, f2, _⟩ := tiOf_spec hei
      obtain ⟨⟨c1, c2⟩, h⟩ := guardO_some h
      simp at h; subst h
      cases hx with
      | ptr h1 =>
        refine ⟨_, ?_, .ptr h1⟩
        have hc : 0 ≤ n ∧ n < _ := ⟨c1, c2⟩
        simp [Instr.indexAt, asIntOf, Instr.sureAddr, run_und hd, hc, run_size hi2, addr_add, f2, Nat.add_assoc]
    · rename_i e s es hk
      cases d <;> simp [tdOf] at hk
      subst hk
      simp only [Option.bind_eq_some_iff] at h
      obtain ⟨ei, hei, h⟩ := h
      obtain ⟨i2, d2, z2, hi2, _, _, _, f2, _⟩ := tiOf_spec hei
      have hg := guardO_some h
      clear h
      obtain ⟨hs, hg⟩ := hg
      have hg := guardO_some hg
      obtain ⟨c1, h⟩ := hg
      subst hs
      simp only [Option.map_eq_some_iff] at h
      obtain ⟨c, hc, rfl⟩ := h
      obtain ⟨hlt, hcc⟩ := List.getElem?_eq_some_iff.1 hc
      cases hx with
      | rs vs hn hcap hl hv hi =>
        rename_i blk off len cap
        subst hn
        have hcl : c.length = ei.size := hl c (hcc ▸ List.getElem_mem hlt)
        have hv2 : VR ρ (.rp c 0) (.pointer (some ⟨blk, (off + n.toNat * ei.size) + 0, none⟩)) := by
          refine .rp (vs n.toNat) (fun j d hj => hv _ _ _ _ hc hj) (fun j hj => ?_)
          rw [← hi n.toNat j hlt (by omega), Nat.add_assoc]
        refine ⟨_, ?_, hv2⟩
        have hc' : 0 ≤ n ∧ n < (es.length : Int) := ⟨c1, by omega⟩
        simp [Instr.indexAt, asIntOf, run_und hd, hc', run_size hi2, addr_add, f2, Nat.add_assoc]
      | rs0 s a cap => simp at hlt
    · rename_i len e cs o hk
      cases d <;> simp [tdOf] at hk
      obtain ⟨rfl, rfl⟩ := hk
      simp only [Option.bind_eq_some_iff] at h
      obtain ⟨ei, hei, h⟩ := h
      obtain ⟨i2, d2, z2, hi2, _, _, _, f2, _⟩ := tiOf_spec hei
      obtain ⟨⟨c1, c2⟩, h⟩ := guardO_some h
      simp at h; subst h
      cases hx with
      | rp vs h1 h2 =>
        refine ⟨_, ?_, .rp vs h1 h2⟩
        have hc : 0 ≤ n ∧ n < _ := ⟨c1, c2⟩
        simp [Instr.indexAt, asIntOf, Instr.sureAddr, run_und hd, hc, run_size hi2, addr_add, f2, Nat.add_assoc]
    · simp at h
  · simp at h

theorem indexA_sound {P : Program} {ρ : Ren} (w : World) {t x i v x' i'} (h : indexA P t x i = some v) (hx : VR ρ x x') (hi : VR ρ i i') :
    ∃ v', (Instr.index t x' i').run P w = .ok v' w ∧ VR ρ v v' := by
  unfold indexA at h
  split at h
  · rename_i k n
    cases hi
    simp only [Option.bind_eq_some_iff] at h
    obtain ⟨ti, hti, h⟩ := h
    obtain ⟨inf, d, z, hi0, hd, hz, e1, e2, e3, e4, e5⟩ := tiOf_spec hti
    rw [e1] at h
    split at h
    · rename_i s hk
      cases d <;> simp [tdOf] at hk
      obtain ⟨c1, h⟩ := guardO_some h
      simp only [Option.map_eq_some_iff] at h
      obtain ⟨c, hc, rfl⟩ := h
      cases hx
      refine ⟨_, ?_, .int _ _⟩
      have hg : (⟨s.toArray⟩ : ByteArray)[n.toNat]? = some c := by
        have hlt : n.toNat < s.length := by
          by_cases hh : n.toNat < s.length
          · exact hh
          · simp [List.getElem?_eq_none (by omega : s.length ≤ n.toNat)] at hc
        rw [List.getElem?_eq_getElem hlt] at hc
        have hsz : n.toNat < ByteArray.size ⟨s.toArray⟩ := by show n.toNat < s.toArray.size; simpa using hlt
        rw [getElem?_pos (⟨s.toArray⟩ : ByteArray) n.toNat hsz]
        have : (⟨s.toArray⟩ : ByteArray)[n.toNat] = s[n.toNat] := rfl
        rw [this]; exact hc
      simp [Instr.index, asIntOf, run_und hd, c1, hg]
    · rename_i len e cs hk
      cases d <;> simp [tdOf] at hk
      obtain ⟨rfl, rfl⟩ := hk
      simp only [Option.bind_eq_some_iff] at h
      obtain ⟨ei, hei, h⟩ := h
      obtain ⟨i2, d2, z2, hi2, _, _, _, f2, _⟩ := tiOf_spec hei
      obtain ⟨⟨c1, c2⟩, h⟩ := guardO_some h
      obtain ⟨vs, rfl, hv⟩ := hx.agg_inv
      obtain ⟨v', r1, r2⟩ := partA_sound w hei h hv
      refine ⟨v', ?_, r2⟩
      have hc : 0 ≤ n ∧ n < _ := ⟨c1, c2⟩
      rw [f2] at r1
      simp [Instr.index, asIntOf, run_und hd, hc, run_size hi2, r1]
    · simp at h
  · simp at h

theorem lenA_sound {P : Program} {ρ : Ren} (w : World) {t x v x'} (tys : Array TypeId) (args : Array Value) (ty : TypeId) (ht : tys[0]? = some t) (ha : args[0]? = some x') (h : lenA P t x = some v) (hx : VR ρ x x') :
    ∃ v', (Builtin.len_ tys ty args).run P w = .ok v' w ∧ VR ρ v v' := by
  simp only [lenA, Option.bind_eq_some_iff] at h
  obtain ⟨ti, hti, h⟩ := h
  obtain ⟨inf, d, z, hi0, hd, hz, e1, e2, e3, e4, e5⟩ := tiOf_spec hti
  rw [e1] at h
  split at h
  · rename_i s hk
    cases d <;> simp [tdOf] at hk
    simp at h; subst h
    cases hx
    refine ⟨_, ?_, .int _ _⟩
    have hsz : ByteArray.size ⟨s.toArray⟩ = s.length := by show s.toArray.size = _; simp
    simp [Builtin.len_, ht, ha, run_und hd, goInt, hsz]
  · rename_i e b o n sz hk
    cases d <;> simp [tdOf] at hk
    simp at h; subst h
    cases hx with
    | sl h1 h2 h3 => exact ⟨_, by simp [Builtin.len_, ht, ha, run_und hd, goInt], .int _ _⟩
    | sl0 h1 a => exact ⟨_, by simp [Builtin.len_, ht, ha, run_und hd, goInt], .int _ _⟩
  · rename_i e hk
    cases d <;> simp [tdOf] at hk
    simp at h; subst h
    cases hx
    exact ⟨_, by simp [Builtin.len_, ht, ha, run_und hd, goInt], .int _ _⟩
  · rename_i e s es hk
    cases d <;> simp [tdOf] at hk
    simp at h; subst h
    cases hx with
    | rs vs hn hc hl hv hi => subst hn; exact ⟨_, by simp [Builtin.len_, ht, ha, run_und hd, goInt], .int _ _⟩
    | rs0 s a cap => exact ⟨_, by simp [Builtin.len_, ht, ha, run_und hd, goInt], .int _ _⟩
  · rename_i n e hk
    cases d <;> simp [tdOf] at hk
    simp at h; subst h
    obtain ⟨rfl, rfl⟩ := hk
    refine ⟨_, ?_, .int _ _⟩
    simp only [Builtin.len_, ht, ha, Sem.run_bind, run_und hd, Result.andThen_ok]
    cases x' <;> rfl
  · simp at h

theorem fold2_sound {P : Program} {ρ : Ren} (w : World) {f : AV → AV → Option AV} {g : Value → Value → Sem Value}
    (hfg : ∀ {x y z x' y'}, f x y = some z → VR ρ x x' → VR ρ y y' → ∃ z', (g x' y').run P w = .ok z' w ∧ VR ρ z z') :
    ∀ {ys : List AV} {ys' : List Value} {x v : AV} {x' : Value}, foldA f x ys = some v → VR ρ x x' → VRs ρ ys ys' → ∃ v', (ys'.foldlM g x').run P w = .ok v' w ∧ VR ρ v v'
  | [], ys', x, v, x', h, hx, hs => by
    have : ys' = [] := List.eq_nil_of_length_eq_zero (by have := hs.1; simpa using this.symm)
    subst this
    simp [foldA] at h; subst h
    exact ⟨x', rfl, hx⟩
  | y :: ys, ys', x, v, x', h, hx, hs => by
    obtain ⟨y', us, rfl, hy, hus⟩ := hs.cons_inv
    simp only [foldA, Option.bind_eq_some_iff] at h
    obtain ⟨z, hz, h⟩ := h
    obtain ⟨z', r1, r2⟩ := hfg hz hx hy
    obtain ⟨v', r3, r4⟩ := fold2_sound w hfg h r2 hus
    exact ⟨v', by simp only [List.foldlM_cons, Sem.run_bind, r1, Result.andThen_ok, r3], r4⟩

theorem max2_sound {P : Program} {ρ : Ren} (w : World) {x y z x' y'} (h : max2A x y = some z) (hx : VR ρ x x') (hy : VR ρ y y') : ∃ z', (Builtin.max2 x' y').run P w = .ok z' w ∧ VR ρ z z' := by
  unfold max2A at h
  split at h
  · obtain ⟨hk, h⟩ := guardO_some h
    simp at h; subst h
    cases hx; cases hy
    exact ⟨_, rfl, .int _ _⟩
  · simp at h
theorem min2_sound {P : Program} {ρ : Ren} (w : World) {x y z x' y'} (h : min2A x y = some z) (hx : VR ρ x x') (hy : VR ρ y y') : ∃ z', (Builtin.min2 x' y').run P w = .ok z' w ∧ VR ρ z z' := by
  unfold min2A at h
  split at h
  · obtain ⟨hk, h⟩ := guardO_some h
    simp at h; subst h
    cases hx; cases hy
    exact ⟨_, rfl, .int _ _⟩
  · simp at h

theorem convA_sound {P : Program} {ρ : Ren} (w : World) {s d x v x'} (h : convA P s d x = some v) (hx : VR ρ x x') : ∃ v', (convert s d x').run P w = .ok v' w ∧ VR ρ v v' := by
  unfold convA at h
  split at h
  · rename_i k n
    cases hx
    simp only [Option.bind_eq_some_iff] at h
    obtain ⟨si, hsi, ti, hti, h⟩ := h
    obtain ⟨inf1, d1, z1, hi1, hd1, hz1, g1, _⟩ := tiOf_spec hsi
    obtain ⟨inf, dd, z, hi0, hd, hz, e1, e2, e3, e4, e5⟩ := tiOf_spec hti
    rw [e1] at h
    split at h
    · rename_i k' hk
      cases dd <;> simp [tdOf] at hk
      simp at h; subst h
      subst hk
      refine ⟨_, ?_, .int _ _⟩
      simp only [convert, Sem.run_bind, run_und hd1, run_und hd, Result.andThen_ok]
      cases d1 <;> simp [Conv.intToInt]
    · simp at h
  · rename_i s'
    cases hx
    simp only [Option.bind_eq_some_iff] at h
    obtain ⟨si, hsi, ti, hti, h⟩ := h
    obtain ⟨inf1, d1, z1, hi1, hd1, hz1, g1, _⟩ := tiOf_spec hsi
    obtain ⟨inf, dd, z, hi0, hd, hz, e1, e2, e3, e4, e5⟩ := tiOf_spec hti
    rw [e1, g1] at h
    split at h
    · rename_i hk1 hk2
      cases dd <;> simp [tdOf] at hk2
      cases d1 <;> simp [tdOf] at hk1
      simp at h; subst h
      refine ⟨_, ?_, .str _⟩
      simp [convert, run_und hd1, run_und hd]
    · simp at h
  · simp at h

def EnvR (ρ : Ren) (e : Env) (a : Act) : Prop := ∀ i, VR ρ (e i) (a.tmps.getD i undef)
def GlOk (P : Program) (ρ : Ren) : Prop := ∀ g, g < P.globals.size → ∃ l, ρ g = some l ∧ l.blk = g ∧ l.off = 0 ∧
  ∀ cs, Tab.cells g = some cs → ∃ vs : Nat → Value, (∀ (j : Nat) (c : AV), cs[j]? = some c → VR ρ c (vs j)) ∧ ∀ j : Nat, j < cs.length → ρ.imm g j = some (vs j)
theorem GlOk.mono {P : Program} {ρ ρ' : Ren} (h : GlOk P ρ) (hs : Sub ρ ρ') : GlOk P ρ' := fun g hg => by
  obtain ⟨l, h1, h2, h3, h4⟩ := h g hg
  refine ⟨l, hs.1 _ _ h1, h2, h3, fun cs hc => ?_⟩
  obtain ⟨vs, k1, k2⟩ := h4 cs hc
  exact ⟨vs, fun j c hj => (k1 j c hj).mono hs, fun j hj => hs.2 _ _ _ (k2 j hj)⟩

theorem ev_sound {P : Program} {ρ : Ren} {e : Env} {a : Act} (hg : GlOk P ρ) (he : EnvR ρ e a) (x : Operand) : VR ρ (ev P e x) (a.eval x) := by
  cases x with
  | tmp t => exact he t
  | const v =>
    simp only [ev, Act.eval]
    cases h : ofConst v with
    | none => exact .any _
    | some c => exact ofConst_VR h
  | global g =>
    simp only [ev, Act.eval]
    split
    · rename_i cs hc
      split
      · rename_i hlt
        obtain ⟨l, h1, h2, h3, h4⟩ := hg g hlt
        obtain ⟨vs, k1, k2⟩ := h4 cs hc
        have := VR.rp (ρ := ρ) (o := 0) (blk := g) (off := 0) vs k1 (fun j hj => by rw [Nat.zero_add]; exact k2 j hj)
        exact this
      · exact .any _
    · split
      · rename_i hlt
        obtain ⟨l, h1, h2, h3, _⟩ := hg g hlt
        have := VR.ptr (ρ := ρ) (o := 0) h1
        rw [h2, h3] at this
        exact this
      · exact .any _
  | func f => exact VR.fn (us := []) (vs := []) rfl (fun i c v h => by simp at h) rfl (fun i c v h => by simp at h)

theorem evs_sound {P : Program} {ρ : Ren} {e : Env} {a : Act} (hg : GlOk P ρ) (he : EnvR ρ e a) : ∀ (xs : List Operand), VRs ρ (xs.map (ev P e)) (xs.map a.eval)
  | [] => VRs.nil
  | x :: xs => VRs.cons (ev_sound hg he x) (evs_sound hg he xs)

theorem evo_sound {P : Program} {ρ : Ren} {e : Env} {a : Act} (hg : GlOk P ρ) (he : EnvR ρ e a) (x : Option Operand) : OR ρ (x.map (ev P e)) (x.map a.eval) := by
  cases x with
  | none => exact .none
  | some x => exact .some (ev_sound hg he x)

theorem parts_sound {P : Program} {ρ : Ren} {e : Env} {a : Act} (hg : GlOk P ρ) (he : EnvR ρ e a) (parts : List (Nat × Operand)) :
    (parts.map fun (i, x) => (i, ev P e x)).length = (parts.map fun (i, x) => (i, a.eval x)).length ∧
    ∀ (i : Nat) p p', (parts.map fun (i, x) => (i, ev P e x))[i]? = some p → (parts.map fun (i, x) => (i, a.eval x))[i]? = some p' → p.1 = p'.1 ∧ VR ρ p.2 p'.2 := by
  refine ⟨by simp, fun i p p' h1 h2 => ?_⟩
  simp only [List.getElem?_map, Option.map_eq_some_iff] at h1 h2
  obtain ⟨q, hq, rfl⟩ := h1
  obtain ⟨q', hq', rfl⟩ := h2
  rw [hq] at hq'
  simp at hq'; subst hq'
  exact ⟨rfl, ev_sound hg he _⟩

theorem pureA_sound {P : Program} {ρ : Ren} (w : World) {e : Env} {a : Act} {o : Oper} {v} (hg : GlOk P ρ) (he : EnvR ρ e a) (h : pureA P e o.op = some v) :
    ∃ v', (execOp a.eval o).run P w = .ok (.value v') w ∧ VR ρ v v' := by
  obtain ⟨dst, op, type, pos, after, guard⟩ := o
  have E := ev_sound hg he
  have wrap : ∀ {s : Sem Value} {v'}, s.run P w = .ok v' w → (do pure (.value (← s)) : Sem Next).run P w = .ok (.value v') w := fun hs => by
    simp only [Sem.run_bind, hs, Result.andThen_ok, Sem.run_pure]
  simp only at h
  cases op <;> simp only [pureA, reduceCtorEq] at h
  case move x => simp at h; subst h; exact ⟨_, rfl, E x⟩
  case assign x => simp at h; subst h; exact ⟨_, rfl, E x⟩
  case pick c x y =>
    split at h
    · rename_i t hc
      simp at h; subst h
      have hv := E c
      rw [hc] at hv
      have hb : a.eval c = .bool t := by generalize a.eval c = z at hv; cases hv; rfl
      refine ⟨if t then a.eval x else a.eval y, ?_, ?_⟩
      · simp [execOp, hb, asBool]
      · cases t
        · exact E y
        · exact E x
    · simp at h
  case nilCheck x =>
    split at h
    · rename_i b o hx
      simp at h; subst h
      have hv := E x
      rw [hx] at hv
      refine ⟨a.eval x, ?_, hv⟩
      generalize hz : a.eval x = z at hv
      cases hv
      simp [execOp, hz]
    · rename_i cs o hx
      simp at h; subst h
      have hv := E x
      rw [hx] at hv
      refine ⟨a.eval x, ?_, hv⟩
      generalize hz : a.eval x = z at hv
      cases hv
      simp [execOp, hz]
    · rename_i f xs ys hx
      simp at h; subst h
      have hv := E x
      rw [hx] at hv
      refine ⟨a.eval x, ?_, hv⟩
      generalize hz : a.eval x = z at hv
      cases hv
      simp [execOp, hz]
    · simp at h
  case binOp op xt x y yt =>
    obtain ⟨v', r1, r2⟩ := binA_sound w x y h (E x) (E y)
    exact ⟨v', wrap r1, r2⟩
  case unOp op xt x =>
    obtain ⟨v', r1, r2⟩ := unA_sound w h (E x)
    exact ⟨v', wrap r1, r2⟩
  case convert s d x =>
    obtain ⟨v', r1, r2⟩ := convA_sound w h (E x)
    exact ⟨v', wrap r1, r2⟩
  case build t parts =>
    obtain ⟨h1, h2⟩ := parts_sound hg he parts.toList
    obtain ⟨v', r1, r2⟩ := buildA_sound w h h1 h2
    refine ⟨v', wrap ?_, r2⟩
    rw [← r1]
    congr 2
    apply Array.ext'
    simp
  case field t x f =>
    split at h
    · rename_i cs hx
      simp only [Option.bind_eq_some_iff] at h
      obtain ⟨⟨off, ft⟩, hf, fi, hfi, h⟩ := h
      obtain ⟨fields, fl, hu, hfl, rfl, rfl⟩ := fieldOf_sound hf
      have hv := E x
      rw [hx] at hv
      obtain ⟨vs, hvs, hv⟩ := hv.agg_inv
      obtain ⟨v', r1, r2⟩ := partA_sound w hfi h hv
      refine ⟨v', wrap ?_, r2⟩
      simp only [Instr.field, Sem.run_bind, run_und hu, Result.andThen_ok, hfl, hvs, asAgg, Sem.run_pure, r1]
    · simp at h
  case fieldAddr t x f =>
    split at h
    · rename_i b o hx
      simp only [Option.bind_eq_some_iff] at h
      obtain ⟨⟨off, ft⟩, hf, fi, hfi, h⟩ := h
      obtain ⟨fields, fl, hu, hfl, rfl, rfl⟩ := fieldOf_sound hf
      obtain ⟨i2, d2, z2, hi2, _, _, _, f2, _⟩ := tiOf_spec hfi
      obtain ⟨hpos, h⟩ := guardO_some h
      simp at h; subst h
      have hv := E x
      rw [hx] at hv
      generalize hz : a.eval x = z at hv
      cases hv with
      | ptr h1 =>
        rename_i l
        refine ⟨_, wrap ?_, .ptr h1⟩
        have hne : ¬ i2.size = 0 := by omega
        simp only [Instr.fieldAt, Sem.run_bind, run_und hu, Result.andThen_ok, hfl, Instr.sureAddr, hz, Sem.run_pure, fieldPlace, run_size hi2, hne, if_false, addr_add, Sem.run_ite, Nat.add_assoc]
    · rename_i cs o hx
      simp only [Option.bind_eq_some_iff] at h
      obtain ⟨⟨off, ft⟩, hf, fi, hfi, h⟩ := h
      obtain ⟨fields, fl, hu, hfl, rfl, rfl⟩ := fieldOf_sound hf
      obtain ⟨i2, d2, z2, hi2, _, _, _, f2, _⟩ := tiOf_spec hfi
      obtain ⟨hpos, h⟩ := guardO_some h
      simp at h; subst h
      have hv := E x
      rw [hx] at hv
      generalize hz : a.eval x = z at hv
      cases hv with
      | rp vs h1 h2 =>
        refine ⟨_, wrap ?_, .rp vs h1 h2⟩
        have hne : ¬ i2.size = 0 := by omega
        simp only [Instr.fieldAt, Sem.run_bind, run_und hu, Result.andThen_ok, hfl, Instr.sureAddr, hz, Sem.run_pure, fieldPlace, run_size hi2, hne, if_false, addr_add, Sem.run_ite, Nat.add_assoc]
    · simp at h
  case indexAddr t x i =>
    obtain ⟨v', r1, r2⟩ := indexAddrA_sound w h (E x) (E i)
    exact ⟨v', wrap r1, r2⟩
  case index t x i =>
    obtain ⟨v', r1, r2⟩ := indexA_sound w h (E x) (E i)
    exact ⟨v', wrap r1, r2⟩
  case extract x i =>
    split at h
    · rename_i vs hx
      have hv := E x
      rw [hx] at hv
      obtain ⟨us, hus, hv⟩ := hv.tup_inv
      obtain ⟨v', r1, r2⟩ := hv.get h
      refine ⟨v', wrap ?_, r2⟩
      simp [Instr.extract, hus, r1]
    · simp at h
  case slice t x lo hi mx =>
    cases mx with
    | some _ => simp [pureA] at h
    | none =>
      simp only [pureA] at h
      obtain ⟨v', r1, r2⟩ := sliceA_sound w h (E x) (evo_sound hg he lo) (evo_sound hg he hi)
      exact ⟨v', wrap r1, r2⟩
  case makeFunc fn first cap =>
    cases fn <;> simp only [pureA, reduceCtorEq] at h
    rename_i f
    simp at h; subst h
    refine ⟨.func (.func f) (first.toList.map a.eval).toArray (cap.toList.map a.eval).toArray, ?_, ?_⟩
    · simp [execOp, Instr.makeFunc]
      constructor <;> (apply Array.ext'; simp)
    · exact .fn (evs_sound hg he _).1 (evs_sound hg he _).2 (evs_sound hg he _).1 (evs_sound hg he _).2
  case call c =>
    obtain ⟨callee, args, tys⟩ := c
    cases callee <;> simp only [pureA, reduceCtorEq] at h
    rename_i b
    have hvs := evs_sound hg he args.toList
    generalize hz : args.toList.map (ev P e) = as at h hvs
    split at h
    · rename_i x xs t ts ht
      obtain ⟨x', vs', hv', hx', _⟩ := hvs.cons_inv
      have ha : (args.map a.eval)[0]? = some x' := by
        have : (args.map a.eval).toList = x' :: vs' := by simpa using hv'
        rw [← Array.getElem?_toList, this]; rfl
      obtain ⟨v', r1, r2⟩ := lenA_sound w tys (args.map a.eval) type (by rw [← Array.getElem?_toList, ht]; rfl) ha h hx'
      refine ⟨v', ?_, r2⟩
      simp only [execOp, resolve, invoke, builtin, Sem.run_bind, Sem.run_pure, Result.andThen_ok, r1]
    · rename_i x xs
      obtain ⟨x', vs', hv', hx', hvs'⟩ := hvs.cons_inv
      obtain ⟨v', r1, r2⟩ := fold2_sound (P := P) w (max2_sound w) h hx' hvs'
      refine ⟨v', ?_, r2⟩
      have ha : (args.map a.eval).toList = x' :: vs' := by simpa using hv'
      simp only [execOp, resolve, invoke, builtin, Sem.run_bind, Sem.run_pure, Result.andThen_ok, Builtin.max_, ha, r1]
    · rename_i x xs
      obtain ⟨x', vs', hv', hx', hvs'⟩ := hvs.cons_inv
      obtain ⟨v', r1, r2⟩ := fold2_sound (P := P) w (min2_sound w) h hx' hvs'
      refine ⟨v', ?_, r2⟩
      have ha : (args.map a.eval).toList = x' :: vs' := by simpa using hv'
      simp only [execOp, resolve, invoke, builtin, Sem.run_bind, Sem.run_pure, Result.andThen_ok, Builtin.min_, ha, r1]
    · simp at h

end Go.Proofs.YtchhknkflhikmaaDoor.Am

/- AM: the memory that an abstract memory stands for; loads, new blocks, stores, appends. -/
namespace Go.Proofs.YtchhknkflhikmaaDoor.Am
set_option linter.unusedSectionVars false
open Go
open Go.RowKit (Below)
set_option linter.unusedVariables false
set_option linter.unusedSimpArgs false
variable [Tab]

structure Rel (P : Program) (B : Nat) (w0 : World) (ρ : Ren) (m : Mem) (w : World) : Prop where
  below : Below B w0 w
  size : B ≤ w.heap.size
  gl : GlOk P ρ
  dom : ∀ b, m.blk b = none → ρ b = none
  rd : ∀ b k, m.blk b = some k → k.st ≠ .dead → ∃ l vs, ρ b = some l ∧ VRs ρ k.cells vs ∧ ∀ (j : Nat) v, vs[j]? = some v → w.cell? ⟨l.blk, l.off + j, none⟩ = some v
  ro : ∀ b k l, m.blk b = some k → k.st = .ro → ρ b = some l → l.own = false ∧ l.blk < B
  own : ∀ b k l, m.blk b = some k → (k.st = .own ∨ k.st = .old) → ρ b = some l → l.own = true ∧ l.off + k.cells.length ≤ l.phys ∧ (0 < l.phys → B ≤ l.blk ∧
    ∃ cur fz, w.heap[l.blk]? = some (.cells cur k.ety fz) ∧ cur.size = l.phys ∧ ∀ o, o < l.phys → ¬ (fz.1 ≤ o ∧ o < fz.2))
  sep : ∀ b c kb kc lb lc, m.blk b = some kb → m.blk c = some kc → ρ b = some lb → ρ c = some lc → kc.st = .own → (kb.st = .own ∨ kb.st = .old) → b ≠ c → 0 < lb.phys → 0 < lc.phys → lb.blk = lc.blk →
    kb.st = .old ∧ b ∈ kc.anc ∧ lb.off + kb.cells.length ≤ lc.off + kc.cells.length
  imm : ∀ a o v, ρ.imm a o = some v → w.cell? ⟨a, o, none⟩ = some v ∧ ∀ b k l, m.blk b = some k → k.st = .own → ρ b = some l → 0 < l.phys → l.blk ≠ a

theorem cellsAt_lt {w : World} {b j : Nat} {v} (h : w.cell? ⟨b, j, none⟩ = some v) : b < w.heap.size := World.block_lt_of_cell? (w := w) (a := ⟨b, j, none⟩) h

/-- A world of the same memory. -/
structure Same (w w' : World) : Prop where
  heap : w'.heap = w.heap
  os : w'.os = w.os
  tape : w'.tape = w.tape
  output : w'.output = w.output
theorem Same.refl (w : World) : Same w w := ⟨rfl, rfl, rfl, rfl⟩
theorem Same.cell {w w' : World} (h : Same w w') (a : Addr) : w'.cell? a = w.cell? a := by simp [World.cell?, h.heap]
theorem Same.below {B w0 w w'} (h : Same w w') (k : Below B w0 w) : Below B w0 w' :=
  ⟨h.os.trans k.os, h.tape.trans k.tape, h.output.trans k.output, by rw [h.heap]; exact k.size, fun i hi => by rw [h.heap]; exact k.block i hi⟩
theorem Rel.same {P B w0 ρ m w w'} (R : Rel P B w0 ρ m w) (h : Same w w') : Rel P B w0 ρ m w' := by
  refine ⟨h.below R.below, by rw [h.heap]; exact R.size, R.gl, R.dom, fun b k hb hd => ?_, R.ro, fun b k l hb hs hl => ?_, R.sep, fun a o v hv => ⟨by rw [h.cell]; exact (R.imm a o v hv).1, (R.imm a o v hv).2⟩⟩
  · obtain ⟨l, vs, h1, h2, h3⟩ := R.rd b k hb hd
    exact ⟨l, vs, h1, h2, fun j v hv => by rw [h.cell]; exact h3 j v hv⟩
  · obtain ⟨h1, h2, h3⟩ := R.own b k l hb hs hl
    refine ⟨h1, h2, fun hp => ?_⟩
    obtain ⟨h3, cur, fz, h4, h5⟩ := h3 hp
    exact ⟨h3, cur, fz, by rw [h.heap]; exact h4, h5⟩

def upd (ρ : Ren) (b : Nat) (l : Loc) : Ren := ⟨fun x => if x = b then some l else ρ x, ρ.imm⟩
theorem upd_mono {ρ : Ren} {b l} (h : ρ b = none) : Sub ρ (upd ρ b l) := ⟨fun x l' hx => by
  simp only [upd]; rw [if_neg (by rintro rfl; simp [h] at hx)]; exact hx, fun _ _ _ h => h⟩
@[simp] theorem upd_self {ρ : Ren} {b l} : upd ρ b l b = some l := by simp [upd]
theorem upd_ne {ρ : Ren} {b l x} (h : x ≠ b) : upd ρ b l x = ρ x := by simp [upd, h]

/-- The world with one block more. -/
structure Pushed (w w' : World) (o : Obj) : Prop where
  heap : w'.heap = w.heap.push o
  os : w'.os = w.os
  tape : w'.tape = w.tape
  output : w'.output = w.output
theorem Pushed.alloc (w : World) (o : Obj) : Pushed w (w.alloc o) o := ⟨rfl, rfl, rfl, rfl⟩
theorem Pushed.drew {w : World} {w' o} (h : Pushed w.drew w' o) : Pushed w w' o := ⟨h.heap, h.os, h.tape, h.output⟩
theorem Pushed.old {w w' o} (h : Pushed w w' o) {i : Nat} (hi : i < w.heap.size) : w'.heap[i]? = w.heap[i]? := by
  rw [h.heap, Array.getElem?_push, if_neg (by omega)]
theorem Pushed.new {w w' o} (h : Pushed w w' o) : w'.heap[w.heap.size]? = some o := by
  rw [h.heap, Array.getElem?_push, if_pos rfl]
theorem Pushed.cell {w w' o} (h : Pushed w w' o) {a : Addr} {v} (hc : w.cell? a = some v) : w'.cell? a = some v :=
  (World.cell?_of_block (w := w) (h.old (World.block_lt_of_cell? w a hc))).trans hc
theorem Pushed.below {B w0 w w' o} (h : Pushed w w' o) (k : Below B w0 w) (hB : B ≤ w.heap.size) : Below B w0 w' :=
  ⟨h.os.trans k.os, h.tape.trans k.tape, h.output.trans k.output, by rw [h.heap, Array.size_push]; have := k.size; omega, fun i hi => (h.old (by omega)).trans (k.block i hi)⟩

theorem Rel.loc_of {P B w0 ρ m w b k} (R : Rel P B w0 ρ m w) (hb : m.blk b = some k) (hd : k.st ≠ .dead) : ∃ l, ρ b = some l := by
  obtain ⟨l, _, h, _⟩ := R.rd b k hb hd; exact ⟨l, h⟩

theorem Rel.blk_lt {P B w0 ρ m w b k l} (R : Rel P B w0 ρ m w) (hb : m.blk b = some k) (hs : k.st = .own ∨ k.st = .old) (hl : ρ b = some l) (hp : 0 < l.phys) : l.blk < w.heap.size := by
  obtain ⟨_, _, h⟩ := R.own b k l hb hs hl
  obtain ⟨_, cur, fz, h, _⟩ := h hp
  exact (Array.getElem?_eq_some_iff.1 h).1

/-- A block more. -/
theorem Rel.alloc {P B w0 ρ m w w' b cells ety anc} {cur : Array Value} {fz : Nat × Nat} {vs : List Value} (R : Rel P B w0 ρ m w) (hb : m.blk b = none)
    (hw : Pushed w w' (.cells cur ety fz)) (hvs : VRs ρ cells vs) (hcur : ∀ (j : Nat) v, vs[j]? = some v → cur[j]? = some v) (hlen : cells.length ≤ cur.size)
    (hfz : ∀ o, o < cur.size → ¬ (fz.1 ≤ o ∧ o < fz.2)) : Rel P B w0 (upd ρ b ⟨w.heap.size, 0, cur.size, true⟩) (m.put b ⟨.own, cells, ety, anc⟩) w' := by
  have hρ := R.dom b hb
  have mono := upd_mono (l := ⟨w.heap.size, 0, cur.size, true⟩) hρ
  refine ⟨hw.below R.below R.size, by rw [hw.heap, Array.size_push]; have := R.size; omega, ?_, ?_, ?_, ?_, ?_, ?_, ?_⟩
  · exact R.gl.mono mono
  · intro x hx
    rw [Mem.blk_put] at hx
    split at hx
    · simp at hx
    · rw [upd_ne (by assumption)]; exact R.dom x hx
  · intro x k hx hd
    rw [Mem.blk_put] at hx
    split at hx
    · subst_vars
      simp at hx; subst hx
      refine ⟨_, vs, upd_self, hvs.mono mono, fun j v hv => ?_⟩
      rw [cell_of_row w' _ _ cur ety fz hw.new]
      simpa using hcur j v hv
    · obtain ⟨l, us, h1, h2, h3⟩ := R.rd x k hx hd
      exact ⟨l, us, mono.1 _ _ h1, h2.mono mono, fun j v hv => hw.cell (h3 j v hv)⟩
  · intro x k l hx hs hl
    rw [Mem.blk_put] at hx
    split at hx
    · simp at hx; subst hx; simp at hs
    · rw [upd_ne (by assumption)] at hl
      exact R.ro x k l hx hs hl
  · intro x k l hx hs hl
    rw [Mem.blk_put] at hx
    split at hx
    · subst_vars
      simp at hx; subst hx
      rw [upd_self] at hl
      simp at hl; subst hl
      exact ⟨rfl, by simpa using hlen, fun _ => ⟨R.size, cur, fz, hw.new, rfl, hfz⟩⟩
    · rw [upd_ne (by assumption)] at hl
      obtain ⟨h1, h3, h2⟩ := R.own x k l hx hs hl
      refine ⟨h1, h3, fun hp => ?_⟩
      obtain ⟨h2, c2, f2, h4, h5⟩ := h2 hp
      exact ⟨h2, c2, f2, (hw.old (R.blk_lt hx hs hl hp)).trans h4, h5⟩
  · intro x c kb kc lb lc hx hc hlx hlc hsc hsx hne hpb hpc hblk
    rw [Mem.blk_put] at hx hc
    by_cases hcb : c = b
    · rw [if_pos hcb] at hc
      subst hcb
      rw [if_neg hne] at hx
      rw [upd_ne hne] at hlx
      rw [upd_self] at hlc
      simp at hlc; subst hlc
      have := R.blk_lt hx hsx hlx hpb
      simp at hblk; omega
    · rw [if_neg hcb] at hc
      rw [upd_ne hcb] at hlc
      by_cases hxb : x = b
      · subst hxb
        rw [upd_self] at hlx
        simp at hlx; subst hlx
        have := R.blk_lt hc (.inl hsc) hlc hpc
        simp at hblk; omega
      · rw [if_neg hxb] at hx
        rw [upd_ne hxb] at hlx
        exact R.sep x c kb kc lb lc hx hc hlx hlc hsc hsx hne hpb hpc hblk
  · intro a o v hv
    obtain ⟨h1, h2⟩ := R.imm a o v hv
    refine ⟨hw.cell h1, fun x k l hx hs hl hp => ?_⟩
    rw [Mem.blk_put] at hx
    split at hx
    · subst_vars
      rw [upd_self] at hl
      simp at hl; subst hl
      have := cellsAt_lt h1
      simp; omega
    · rw [upd_ne (by assumption)] at hl
      exact h2 x k l hx hs hl hp

/-- A block of no cells, which lies nowhere. -/
theorem Rel.ghost {P B w0 ρ m w b ety} (R : Rel P B w0 ρ m w) (hb : m.blk b = none) : Rel P B w0 (upd ρ b ⟨0, 0, 0, true⟩) (m.put b ⟨.own, [], ety, []⟩) w := by
  have hρ := R.dom b hb
  have mono := upd_mono (l := ⟨0, 0, 0, true⟩) hρ
  refine ⟨R.below, R.size, R.gl.mono mono, ?_, ?_, ?_, ?_, ?_, ?_⟩
  · intro x hx
    rw [Mem.blk_put] at hx
    split at hx
    · simp at hx
    · rw [upd_ne (by assumption)]; exact R.dom x hx
  · intro x k hx hd
    rw [Mem.blk_put] at hx
    split at hx
    · subst_vars
      simp at hx; subst hx
      exact ⟨_, [], upd_self, VRs.nil, fun j v hv => by simp at hv⟩
    · obtain ⟨l, us, h1, h2, h3⟩ := R.rd x k hx hd
      exact ⟨l, us, mono.1 _ _ h1, h2.mono mono, h3⟩
  · intro x k l hx hs hl
    rw [Mem.blk_put] at hx
    split at hx
    · simp at hx; subst hx; simp at hs
    · rw [upd_ne (by assumption)] at hl
      exact R.ro x k l hx hs hl
  · intro x k l hx hs hl
    rw [Mem.blk_put] at hx
    split at hx
    · subst_vars
      simp at hx; subst hx
      rw [upd_self] at hl
      simp at hl; subst hl
      exact ⟨rfl, by simp, fun h => by simp at h⟩
    · rw [upd_ne (by assumption)] at hl
      exact R.own x k l hx hs hl
  · intro x c kb kc lb lc hx hc hlx hlc hsc hsx hne hpb hpc hblk
    rw [Mem.blk_put] at hx hc
    by_cases hcb : c = b
    · subst hcb
      rw [upd_self] at hlc
      simp at hlc; subst hlc; simp at hpc
    · rw [if_neg hcb] at hc
      rw [upd_ne hcb] at hlc
      by_cases hxb : x = b
      · subst hxb
        rw [upd_self] at hlx
        simp at hlx; subst hlx; simp at hpb
      · rw [if_neg hxb] at hx
        rw [upd_ne hxb] at hlx
        exact R.sep x c kb kc lb lc hx hc hlx hlc hsc hsx hne hpb hpc hblk
  · intro a o v hv
    obtain ⟨h1, h2⟩ := R.imm a o v hv
    refine ⟨h1, fun x k l hx hs hl hp => ?_⟩
    rw [Mem.blk_put] at hx
    split at hx
    · subst_vars
      rw [upd_self] at hl
      simp at hl; subst hl; simp at hp
    · rw [upd_ne (by assumption)] at hl
      exact h2 x k l hx hs hl hp

/-- A block is not written any more. -/
theorem Rel.oldify {P B w0 ρ m w b k} (R : Rel P B w0 ρ m w) (hb : m.blk b = some k) (hs : k.st = .own) : Rel P B w0 ρ (m.put b { k with st := .old }) w := by
  refine ⟨R.below, R.size, R.gl, ?_, ?_, ?_, ?_, ?_, ?_⟩
  · intro x hx
    rw [Mem.blk_put] at hx
    split at hx
    · simp at hx
    · exact R.dom x hx
  · intro x kx hx hd
    rw [Mem.blk_put] at hx
    split at hx
    · subst_vars; simp at hx; subst hx
      exact R.rd _ k hb (by rw [hs]; decide)
    · exact R.rd x kx hx hd
  · intro x kx l hx hsx hl
    rw [Mem.blk_put] at hx
    split at hx
    · simp at hx; subst hx; simp at hsx
    · exact R.ro x kx l hx hsx hl
  · intro x kx l hx hsx hl
    rw [Mem.blk_put] at hx
    split at hx
    · subst_vars; simp at hx; subst hx
      exact R.own _ k l hb (.inl hs) hl
    · exact R.own x kx l hx hsx hl
  · intro x c kb kc lb lc hx hc hlx hlc hsc hsx hne hpb hpc hblk
    rw [Mem.blk_put] at hx hc
    by_cases hcb : c = b
    · rw [if_pos hcb] at hc
      simp at hc; subst hc; simp at hsc
    · rw [if_neg hcb] at hc
      by_cases hxb : x = b
      · subst hxb
        have := R.sep x c k kc lb lc hb hc hlx hlc hsc (.inl hs) hne hpb hpc hblk
        rw [hs] at this
        simp at this
      · rw [if_neg hxb] at hx
        exact R.sep x c kb kc lb lc hx hc hlx hlc hsc hsx hne hpb hpc hblk
  · intro a o v hv
    obtain ⟨h1, h2⟩ := R.imm a o v hv
    refine ⟨h1, fun x kx l hx hsx hl hp => ?_⟩
    rw [Mem.blk_put] at hx
    split at hx
    · simp at hx; subst hx; simp at hsx
    · exact h2 x kx l hx hsx hl hp

/-! ### Cells written -/

/-- The world with the cells from p on of block b written. -/
structure Wrote (w w' : World) (b p : Nat) (vs : List Value) : Prop where
  size : w'.heap.size = w.heap.size
  os : w'.os = w.os
  tape : w'.tape = w.tape
  output : w'.output = w.output
  other : ∀ g, g ≠ b → w'.heap[g]? = w.heap[g]?
  row : ∀ cur t fz, w.heap[b]? = some (.cells cur t fz) → p + vs.length ≤ cur.size → ∃ cur', w'.heap[b]? = some (.cells cur' t fz) ∧ cur'.size = cur.size ∧
    ∀ x : Nat, cur'[x]? = if p ≤ x ∧ x < p + vs.length then vs[x - p]? else cur[x]?

theorem setCells_wrote (b : Nat) : ∀ (vs : List Value) (p : Nat) (w : World), Wrote w (w.setCells b p vs) b p vs
  | [], p, w => ⟨rfl, rfl, rfl, rfl, fun _ _ => rfl, fun cur t fz h _ => ⟨cur, h, rfl, fun x => by rw [if_neg (by simp)]⟩⟩
  | v :: vs, p, w => by
    have ih := setCells_wrote b vs (p + 1) (w.setCell ⟨b, p, none⟩ v)
    refine ⟨ih.size.trans (by simp [World.setCell]), ih.os.trans rfl, ih.tape.trans rfl, ih.output.trans rfl, fun g hg => (ih.other g hg).trans ?_, fun cur t fz h hle => ?_⟩
    · exact Go.RowKit.Below.heap_setCell w ⟨b, p, none⟩ v g hg
    · simp only [List.length_cons] at hle
      have h1 : (w.setCell ⟨b, p, none⟩ v).heap[b]? = some (.cells (cur.setIfInBounds p v) t fz) := by
        simp [World.setCell, Array.getElem?_modify, h]
      obtain ⟨cur', h2, h3, h4⟩ := ih.row _ t fz h1 (by simp; omega)
      refine ⟨cur', h2, by simpa using h3, fun x => ?_⟩
      rw [h4 x]
      by_cases hx : x = p
      · subst hx
        rw [if_neg (by omega), if_pos (by simp)]
        simp [Array.getElem?_setIfInBounds, show x < cur.size by omega]
      · by_cases hx2 : p + 1 ≤ x ∧ x < p + 1 + vs.length
        · rw [if_pos hx2, if_pos (by simp; omega)]
          rw [show x - p = (x - (p + 1)) + 1 by omega, List.getElem?_cons_succ]
        · rw [if_neg hx2, if_neg (by simp; omega)]
          rw [Array.getElem?_setIfInBounds, if_neg (by omega)]

theorem Wrote.below {B w0 w w' b p vs} (h : Wrote w w' b p vs) (k : Below B w0 w) (hb : B ≤ b) : Below B w0 w' :=
  ⟨h.os.trans k.os, h.tape.trans k.tape, h.output.trans k.output, by rw [h.size]; exact k.size, fun i hi => (h.other i (by omega)).trans (k.block i hi)⟩

theorem frozen_false {w : World} {b o : Nat} {cur t fz} (h : w.heap[b]? = some (.cells cur t fz)) (hf : ¬ (fz.1 ≤ o ∧ o < fz.2)) : w.frozen? ⟨b, o, none⟩ = false := by
  simp only [World.frozen?, h]
  cases hh : (decide (fz.1 ≤ o) && decide (o < fz.2)) with
  | false => rfl
  | true => simp at hh; exact absurd hh hf

theorem run_storeCells {P : Program} {w : World} {b o : Nat} {cur t fz} {vs : List Value} (h : w.heap[b]? = some (.cells cur t fz)) (hle : o + vs.length ≤ cur.size)
    (hf : ∀ x, x < cur.size → ¬ (fz.1 ≤ x ∧ x < fz.2)) (h1 : ∀ v ∈ vs, v.oneCell' = true) : (storeCells ⟨b, o, none⟩ vs).run P w = .ok () (w.setCells b o vs) := by
  have := run_storeCells_cells (P := P) b o vs 0 w (fun j hj => by
      rw [cell_of_row w _ _ cur t fz h]; simp; omega) (fun j hj => frozen_false h (hf _ (by omega))) h1
  simpa using this

theorem VRs.oneCells {ρ : Ren} {cs vs} (h : VRs ρ cs vs) (hl : cs.all AV.leaf = true) : ∀ v ∈ vs, v.oneCell' = true := by
  intro v hv
  obtain ⟨i, hi, rfl⟩ := List.getElem_of_mem hv
  have hlt : i < cs.length := by have := h.1; omega
  have hc := h.2 i cs[i] vs[i] (List.getElem?_eq_getElem hlt) (List.getElem?_eq_getElem hi)
  exact hc.oneCell (by rw [List.all_eq_true] at hl; exact hl _ (List.getElem_mem hlt))

theorem kill_blk (m : Mem) : ∀ (bs : List Nat) (x : Nat), (m.kill bs).blk x = match m.blk x with
    | none => none
    | some k => if k.st = .old ∧ x ∈ bs then some { k with st := .dead } else some k := by
  intro bs
  induction bs generalizing m with
  | nil => intro x; simp [Mem.kill]; cases m.blk x <;> rfl
  | cons b bs ih =>
    intro x
    simp only [Mem.kill]
    cases hb : m.blk b with
    | none =>
      simp only [ih]
      cases hx : m.blk x with
      | none => rfl
      | some k =>
        have hne : x ≠ b := by rintro rfl; simp [hb] at hx
        simp [hne]
    | some kb =>
      simp only
      split
      · rename_i hold
        rw [ih, Mem.blk_put]
        by_cases hx : x = b
        · subst hx
          simp [hb, hold]
        · simp only [if_neg hx]
          cases m.blk x <;> simp [hx]
      · rename_i hold
        rw [ih]
        cases hx : m.blk x with
        | none => rfl
        | some k =>
          by_cases hxb : x = b
          · subst hxb
            rw [hb] at hx; simp at hx; subst hx
            simp [hold]
          · simp [hxb]

/-- Cells of a block of the run's own written: what shared them is not read any more. -/
theorem Rel.store {P B w0 ρ m w w' b k l o cs vs} (R : Rel P B w0 ρ m w) (hb : m.blk b = some k) (hs : k.st = .own) (hl : ρ b = some l) (hvs : VRs ρ cs vs) (hcp : 0 < cs.length)
    (hle : o + cs.length ≤ k.cells.length) (hw : Wrote w w' l.blk (l.off + o) vs) : Rel P B w0 ρ (storeIn m b k o cs) w' := by
  obtain ⟨ho1, ho3, ho2⟩ := R.own b k l hb (.inl hs) hl
  have hpl : 0 < l.phys := by omega
  obtain ⟨ho2, cur, fz, ho4, ho5, ho6⟩ := ho2 hpl
  have hvl : vs.length = cs.length := hvs.1.symm
  obtain ⟨cur', hc1, hc2, hc3⟩ := hw.row cur k.ety fz ho4 (by omega)
  have hblk : ∀ x kx, (storeIn m b k o cs).blk x = some kx → kx.st ≠ .dead →
      (x = b ∧ kx = { k with cells := k.cells.take o ++ cs ++ k.cells.drop (o + cs.length), anc := [] }) ∨ (x ≠ b ∧ m.blk x = some kx ∧ ¬ (kx.st = .old ∧ x ∈ k.anc)) := by
    intro x kx hx hd
    unfold storeIn at hx
    rw [kill_blk, Mem.blk_put] at hx
    by_cases hxb : x = b
    · rw [if_pos hxb] at hx
      simp only at hx
      rw [if_neg (by rw [hs]; simp)] at hx
      simp only [Option.some.injEq] at hx
      exact .inl ⟨hxb, hx.symm⟩
    · rw [if_neg hxb] at hx
      cases hm : m.blk x with
      | none => simp [hm] at hx
      | some k2 =>
        simp only [hm] at hx
        split at hx
        · simp at hx; subst hx; simp at hd
        · simp at hx; subst hx
          exact .inr ⟨hxb, rfl, by assumption⟩
  -- another block that is still read shares no cell
  have apart : ∀ x kx lx, x ≠ b → m.blk x = some kx → ¬ (kx.st = .old ∧ x ∈ k.anc) → (kx.st = .own ∨ kx.st = .old) → ρ x = some lx → 0 < lx.phys → lx.blk ≠ l.blk := by
    intro x kx lx hne hx hnk hsx hlx hpx he
    obtain ⟨h1, h2, _⟩ := R.sep x b kx k lx l hx hb hlx hl hs hsx hne hpx hpl he
    exact hnk ⟨h1, h2⟩
  refine ⟨hw.below R.below ho2, by rw [hw.size]; exact R.size, R.gl, fun x hx => R.dom x ((storeIn_none hb).1 hx), ?_, ?_, ?_, ?_, ?_⟩
  · intro x kx hx hd
    rcases hblk x kx hx hd with ⟨rfl, rfl⟩ | ⟨hne, hx, hnk⟩
    · obtain ⟨l', us, h1, h2, h3⟩ := R.rd x k hb (by rw [hs]; decide)
      rw [hl] at h1; simp at h1; subst h1
      refine ⟨l, us.take o ++ vs ++ us.drop (o + cs.length), hl, (((h2.take o).append hvs).append (h2.drop _)), fun j v hv => ?_⟩
      rw [cell_of_row w' _ _ cur' k.ety fz hc1, hc3]
      have hul : us.length = k.cells.length := h2.1.symm
      have hold : ∀ v, us[j]? = some v → cur[l.off + j]? = some v := fun v hv => by
        have := h3 j v hv
        rwa [cell_of_row w _ _ cur k.ety fz ho4] at this
      by_cases hj1 : j < o
      · rw [if_neg (by omega)]
        rw [List.append_assoc, List.getElem?_append_left (by simp; omega), List.getElem?_take, if_pos hj1] at hv
        exact hold v hv
      · by_cases hj2 : j < o + cs.length
        · rw [if_pos (by omega)]
          rw [List.append_assoc, List.getElem?_append_right (by simp; omega), List.getElem?_append_left (by simp; omega)] at hv
          rw [show l.off + j - (l.off + o) = j - (us.take o).length by simp; omega]
          exact hv
        · rw [if_neg (by omega)]
          rw [List.append_assoc, List.getElem?_append_right (by simp; omega), List.getElem?_append_right (by simp; omega), List.getElem?_drop] at hv
          apply hold
          rw [← hv]
          congr 1
          simp; omega
    · obtain ⟨lx, us, h1, h2, h3⟩ := R.rd x kx hx hd
      refine ⟨lx, us, h1, h2, fun j v hv => ?_⟩
      have hcell := h3 j v hv
      have hjl : j < us.length := (List.getElem?_eq_some_iff.1 hv).1
      have hul := h2.1
      have hpx : (kx.st = .own ∨ kx.st = .old) → 0 < lx.phys := fun hsx => by have := (R.own x kx lx hx hsx h1).2.1; omega
      have hnb : lx.blk ≠ l.blk := by
        cases hst : kx.st with
        | ro => have := (R.ro x kx lx hx hst h1).2; omega
        | own => exact apart x kx lx hne hx hnk (.inl hst) h1 (hpx (.inl hst))
        | old => exact apart x kx lx hne hx hnk (.inr hst) h1 (hpx (.inr hst))
        | dead => exact absurd hst hd
      exact (World.cell?_of_block (w := w) (a := ⟨lx.blk, lx.off + j, none⟩) (hw.other _ hnb)).trans hcell
  · intro x kx lx hx hsx hlx
    rcases hblk x kx hx (by rw [hsx]; decide) with ⟨rfl, rfl⟩ | ⟨hne, hx, hnk⟩
    · simp [hs] at hsx
    · exact R.ro x kx lx hx hsx hlx
  · intro x kx lx hx hsx hlx
    rcases hblk x kx hx (by rcases hsx with h | h <;> rw [h] <;> decide) with ⟨rfl, rfl⟩ | ⟨hne, hx, hnk⟩
    · rw [hl] at hlx; simp at hlx; subst hlx
      refine ⟨ho1, ?_, fun _ => ⟨ho2, cur', fz, hc1, hc2.trans ho5, ho6⟩⟩
      simp only [List.length_append, List.length_take, List.length_drop]
      omega
    · obtain ⟨h1, h3, h2⟩ := R.own x kx lx hx hsx hlx
      refine ⟨h1, h3, fun hp => ?_⟩
      obtain ⟨h2, c2, f2, h4, h5⟩ := h2 hp
      exact ⟨h2, c2, f2, (hw.other _ (apart x kx lx hne hx hnk hsx hlx hp)).trans h4, h5⟩
  · intro x c kb kc lb lc hx hc hlx hlc hsc hsx hne hpb hpc hblk'
    rcases hblk x kb hx (by rcases hsx with h | h <;> rw [h] <;> decide) with ⟨hxb, hkx⟩ | ⟨hxb, hx', hnx⟩
    · rcases hblk c kc hc (by rw [hsc]; decide) with ⟨hcb, hkc⟩ | ⟨hcb, hc', hnc⟩
      · exact absurd (hxb.trans hcb.symm) hne
      · subst hxb
        rw [hl] at hlx; simp at hlx; subst hlx
        exact absurd hblk'.symm (apart c kc lc hcb hc' hnc (.inl hsc) hlc hpc)
    · rcases hblk c kc hc (by rw [hsc]; decide) with ⟨hcb, hkc⟩ | ⟨hcb, hc', hnc⟩
      · subst hcb
        rw [hl] at hlc; simp at hlc; subst hlc
        exact absurd hblk' (apart x kb lb hxb hx' hnx hsx hlx hpb)
      · exact R.sep x c kb kc lb lc hx' hc' hlx hlc hsc hsx hne hpb hpc hblk'
  · intro a o' v hv
    obtain ⟨h1, h2⟩ := R.imm a o' v hv
    have hne := h2 b k l hb hs hl hpl
    refine ⟨(World.cell?_of_block (w := w) (a := ⟨a, o', none⟩) (hw.other _ (Ne.symm hne))).trans h1, fun x kx lx hx hsx hlx hp => ?_⟩
    rcases hblk x kx hx (by rw [hsx]; decide) with ⟨rfl, rfl⟩ | ⟨hxb, hx', hnk⟩
    · rw [hl] at hlx; simp at hlx; subst hlx; exact hne
    · exact h2 x kx lx hx' hsx hlx hp

/-- An append in place. -/
theorem Rel.appendIn {P B w0 ρ m w w' b b' k l o news vs} (R : Rel P B w0 ρ m w) (hb : m.blk b = some k) (hs : k.st = .own) (hl : ρ b = some l) (hb' : m.blk b' = none) (hvs : VRs ρ news vs)
    (ho : o ≤ k.cells.length) (hroom : l.off + k.cells.length + news.length ≤ l.phys) (hnp : 0 < news.length) (hw : Wrote w w' l.blk (l.off + k.cells.length) vs) :
    Rel P B w0 (upd ρ b' ⟨l.blk, l.off + o, l.phys, true⟩) ((m.put b { k with st := .old }).put b' ⟨.own, k.cells.drop o ++ news, k.ety, b :: k.anc⟩) w' := by
  obtain ⟨ho1, ho3, ho2⟩ := R.own b k l hb (.inl hs) hl
  have hpl : 0 < l.phys := by omega
  obtain ⟨ho2, cur, fz, ho4, ho5, ho6⟩ := ho2 hpl
  have hvl : vs.length = news.length := hvs.1.symm
  obtain ⟨cur', hc1, hc2, hc3⟩ := hw.row cur k.ety fz ho4 (by omega)
  have hne : b ≠ b' := by rintro rfl; simp [hb'] at hb
  have hρ := R.dom b' hb'
  have mono := upd_mono (l := ⟨l.blk, l.off + o, l.phys, true⟩) hρ
  -- what is read stays as it was
  have keep : ∀ x kx lx (us : List Value), m.blk x = some kx → kx.st ≠ .dead → ρ x = some lx → us.length = kx.cells.length → (∀ (j : Nat) v, us[j]? = some v → w.cell? ⟨lx.blk, lx.off + j, none⟩ = some v) →
      ∀ (j : Nat) v, us[j]? = some v → w'.cell? ⟨lx.blk, lx.off + j, none⟩ = some v := by
    intro x kx lx us hx hd hlx hul h3 j v hv
    have hcell := h3 j v hv
    by_cases hblk : lx.blk = l.blk
    · have hj : j < us.length := by
        by_cases hh : j < us.length
        · exact hh
        · simp [List.getElem?_eq_none (by omega : us.length ≤ j)] at hv
      have hend : lx.off + kx.cells.length ≤ l.off + k.cells.length := by
        by_cases hxb : x = b
        · subst hxb; rw [hl] at hlx; rw [hb] at hx; simp at hlx hx; subst hlx; subst hx; omega
        · have hsx : kx.st = .own ∨ kx.st = .old := by
            cases hst : kx.st with
            | ro => have := (R.ro x kx lx hx hst hlx).2; omega
            | own => exact .inl rfl
            | old => exact .inr rfl
            | dead => exact absurd hst hd
          have hpx : 0 < lx.phys := by have := (R.own x kx lx hx hsx hlx).2.1; omega
          exact (R.sep x b kx k lx l hx hb hlx hl hs hsx hxb hpx hpl hblk).2.2
      rw [hblk] at hcell ⊢
      rw [cell_of_row w _ _ cur k.ety fz ho4] at hcell
      rw [cell_of_row w' _ _ cur' k.ety fz hc1, hc3, if_neg (by omega)]
      exact hcell
    · exact (World.cell?_of_block (w := w) (a := ⟨lx.blk, lx.off + j, none⟩) (hw.other _ hblk)).trans hcell
  have R2 := R.oldify hb hs
  refine ⟨hw.below R.below ho2, by rw [hw.size]; exact R.size, ?_, ?_, ?_, ?_, ?_, ?_, ?_⟩
  · exact R.gl.mono mono
  · intro x hx
    rw [Mem.blk_put] at hx
    split at hx
    · simp at hx
    · rw [upd_ne (by assumption)]; exact R2.dom x hx
  · intro x kx hx hd
    rw [Mem.blk_put] at hx
    split at hx
    · subst_vars
      simp at hx; subst hx
      obtain ⟨l', us, h1, h2, h3⟩ := R.rd b k hb (by rw [hs]; decide)
      rw [hl] at h1; simp at h1; subst h1
      have hul : us.length = k.cells.length := h2.1.symm
      refine ⟨_, us.drop o ++ vs, upd_self, ((h2.drop o).append hvs).mono mono, fun j v hv => ?_⟩
      simp only
      by_cases hj : j < k.cells.length - o
      · rw [List.getElem?_append_left (by simp; omega), List.getElem?_drop] at hv
        have := keep b k l us hb (by rw [hs]; decide) hl hul h3 (o + j) v hv
        rwa [show l.off + o + j = l.off + (o + j) by omega]
      · rw [List.getElem?_append_right (by simp; omega)] at hv
        rw [cell_of_row w' _ _ cur' k.ety fz hc1, hc3]
        simp only [List.length_drop] at hv
        have hjv : j - (us.length - o) < vs.length := by
          by_cases hh : j - (us.length - o) < vs.length
          · exact hh
          · simp [List.getElem?_eq_none (by omega : vs.length ≤ j - (us.length - o))] at hv
        rw [if_pos (by omega), ← hv]
        congr 1
        omega
    · rw [Mem.blk_put] at hx
      split at hx
      · subst_vars
        simp at hx; subst hx
        obtain ⟨l', us, h1, h2, h3⟩ := R.rd _ k hb (by rw [hs]; decide)
        exact ⟨l', us, mono.1 _ _ h1, h2.mono mono, keep _ k l' us hb (by rw [hs]; decide) h1 h2.1.symm h3⟩
      · obtain ⟨l', us, h1, h2, h3⟩ := R.rd x kx hx hd
        exact ⟨l', us, mono.1 _ _ h1, h2.mono mono, keep x kx l' us hx hd h1 h2.1.symm h3⟩
  · intro x kx lx hx hsx hlx
    rw [Mem.blk_put] at hx
    split at hx
    · simp at hx; subst hx; simp at hsx
    · rw [upd_ne (by assumption)] at hlx
      exact R2.ro x kx lx hx hsx hlx
  · intro x kx lx hx hsx hlx
    rw [Mem.blk_put] at hx
    split at hx
    · subst_vars
      simp at hx; subst hx
      rw [upd_self] at hlx
      simp at hlx; subst hlx
      refine ⟨rfl, ?_, fun _ => ⟨ho2, cur', fz, hc1, hc2.trans ho5, ho6⟩⟩
      simp; omega
    · rw [upd_ne (by assumption)] at hlx
      obtain ⟨h1, h3, h2⟩ := R2.own x kx lx hx hsx hlx
      refine ⟨h1, h3, fun hp => ?_⟩
      obtain ⟨h2, c2, f2, h4, h5, h6⟩ := h2 hp
      by_cases hblk : lx.blk = l.blk
      · rw [hblk] at h4 ⊢
        rw [ho4] at h4
        simp at h4
        obtain ⟨e1, e2, e3⟩ := h4
        refine ⟨by rw [hblk] at h2; exact h2, cur', fz, ?_, ?_, ?_⟩
        · rw [← e2]; exact hc1
        · rw [hc2, e1]; exact h5
        · rw [e3]; exact h6
      · exact ⟨h2, c2, f2, (hw.other _ hblk).trans h4, h5, h6⟩
  · intro x c kb kc lb lc hx hc hlx hlc hsc hsx hne' hpb hpc hblk'
    rw [Mem.blk_put] at hx hc
    by_cases hcb : c = b'
    · rw [if_pos hcb] at hc
      subst hcb
      rw [if_neg hne'] at hx
      rw [upd_ne hne'] at hlx
      rw [upd_self] at hlc
      simp at hlc hc; subst hlc; subst hc
      simp only at hblk' ⊢
      rw [Mem.blk_put] at hx
      by_cases hxb : x = b
      · rw [if_pos hxb] at hx
        subst hxb
        simp at hx; subst hx
        rw [hl] at hlx; simp at hlx; subst hlx
        refine ⟨rfl, by simp, ?_⟩
        simp; omega
      · rw [if_neg hxb] at hx
        obtain ⟨h1, h2, h3⟩ := R.sep x b kb k lb l hx hb hlx hl hs hsx hxb hpb hpl hblk'
        refine ⟨h1, by simp [h2], ?_⟩
        simp; omega
    · rw [if_neg hcb] at hc
      rw [upd_ne hcb] at hlc
      rw [Mem.blk_put] at hc
      by_cases hcb2 : c = b
      · rw [if_pos hcb2] at hc
        simp at hc; subst hc; simp at hsc
      · rw [if_neg hcb2] at hc
        -- c is own, not b: it shares no block with b
        have hnb : lc.blk ≠ l.blk := by
          intro he
          have := (R.sep b c k kc l lc hb hc hl hlc hsc (.inl hs) (Ne.symm hcb2) hpl hpc he.symm).1
          rw [hs] at this; simp at this
        by_cases hxb' : x = b'
        · subst hxb'
          rw [upd_self] at hlx
          simp at hlx; subst hlx
          exact absurd hblk'.symm hnb
        · rw [if_neg hxb'] at hx
          rw [upd_ne hxb'] at hlx
          exact R2.sep x c kb kc lb lc hx (by rw [Mem.blk_put, if_neg hcb2]; exact hc) hlx hlc hsc hsx hne' hpb hpc hblk'
  · intro a o' v hv
    obtain ⟨h1, h2⟩ := R.imm a o' v hv
    have hnel := h2 b k l hb hs hl hpl
    refine ⟨(World.cell?_of_block (w := w) (a := ⟨a, o', none⟩) (hw.other _ (Ne.symm hnel))).trans h1, fun x kx lx hx hsx hlx hp => ?_⟩
    rw [Mem.blk_put] at hx
    split at hx
    · subst_vars
      rw [upd_self] at hlx
      simp at hlx; subst hlx; exact hnel
    · rw [upd_ne (by assumption)] at hlx
      rw [Mem.blk_put] at hx
      split at hx
      · simp at hx; subst hx; simp at hsx
      · exact h2 x kx lx hx hsx hlx hp

end Go.Proofs.YtchhknkflhikmaaDoor.Am
