/- AM: reckoning a derivation over the blocks that it may touch: what is to be shown of a piece of code, step by step, and when it holds. -/
import Derived.Test.YtchhknkflhikmaaDoorAm7
namespace Go.Proofs.YtchhknkflhikmaaDoor.Am
set_option linter.unusedSectionVars false
open Go
set_option linter.unusedVariables false
set_option linter.unusedSimpArgs false
variable [Tab]

/-! ### More functions known, more derivations -/

def FSub (F G : FnRel) : Prop := ∀ f a m v m', F f a m v m' → G f a m v m'

theorem Step.monoF {P F G fl e m o v m1} (h : Step P F fl e m o v m1) (s : FSub F G) : Step P G fl e m o v m1 := by
  cases h with
  | pur h => exact .pur h
  | lod h hf => exact .lod h hf
  | alc h1 h2 => exact .alc h1 h2
  | ser h1 h2 h3 => exact .ser h1 h2 h3
  | call h1 h2 h3 h4 h5 => exact .call h1 h2 h3 (s _ _ _ _ _ h4) h5
theorem Act1.monoF {P F G all fl o e m v m1} (h : Act1 P F all fl o e m v m1) (s : FSub F G) : Act1 P G all fl o e m v m1 := by
  cases h with
  | skip h => exact .skip h
  | step h1 h2 => exact .step h1 (h2.monoF s)
theorem EvO.monoF {P F G all fl l e m e' m'} (h : EvO P F all fl l e m e' m') (s : FSub F G) : EvO P G all fl l e m e' m' := by
  induction h with
  | nil => exact .nil
  | cons h1 h2 _ ih => exact .cons h1 (h2.monoF s) ih
theorem EvC.monoF {P F G c e m x e' m'} (h : EvC P F c e m x e' m') (s : FSub F G) : EvC P G c e m x e' m' := by
  induction h with
  | skip => exact .skip
  | label => exact .label
  | exit => exact .exit
  | ret => exact .ret
  | seq_n _ _ h1 h2 => exact .seq_n h1 h2
  | seq_x _ hx h => exact .seq_x h hx
  | cond hc _ h => exact .cond hc h
  | block _ h => exact .block h
  | scope _ h => exact .scope h
  | loop_n _ _ h1 h2 => exact .loop_n h1 h2
  | loop_x _ hx h => exact .loop_x h hx
  | region h => exact .region (h.monoF s)
  | draw π Ri hok h => exact .draw π Ri hok (h.monoF s)
  | weak _ hw h => exact .weak h hw
  | weakL hw _ h => exact .weakL hw h

theorem EvF_step (P : Program) : ∀ d, FSub (EvF P d) (EvF P (d + 1))
  | 0 => fun _ _ _ _ _ h => h.elim
  | d + 1 => fun f a m v m' h => by
    obtain ⟨m1, v1, h, h8⟩ := h
    refine ⟨m1, v1, ?_, h8⟩
    rcases h with ⟨fn, c, x, e', h1, h2, h3, h4, h5, h6, h7⟩ | ⟨args1, m2, h1, h2, h3⟩
    · exact .inl ⟨fn, c, x, e', h1, h2, h3, h4, h5.monoF (EvF_step P d), h6, h7⟩
    · exact .inr ⟨args1, m2, h1, EvF_step P d _ _ _ _ _ h2, h3⟩
theorem EvF_le (P : Program) {d d' : Nat} (h : d ≤ d') : FSub (EvF P d) (EvF P d') := by
  induction h with
  | refl => exact fun _ _ _ _ _ h => h
  | step _ ih => exact fun _ _ _ _ _ h => EvF_step P _ _ _ _ _ _ (ih _ _ _ _ _ h)

def FInf (P : Program) : FnRel := fun f a m v m' => ∃ d, EvF P d f a m v m'

theorem Act1.fin {P all fl o e m v m1} (h : Act1 P (FInf P) all fl o e m v m1) : ∃ d, Act1 P (EvF P d) all fl o e m v m1 := by
  cases h with
  | skip h => exact ⟨0, .skip h⟩
  | step h1 h2 =>
    cases h2 with
    | pur h => exact ⟨0, .step h1 (.pur h)⟩
    | lod h hf => exact ⟨0, .step h1 (.lod h hf)⟩
    | alc k1 k2 => exact ⟨0, .step h1 (.alc k1 k2)⟩
    | ser k1 k2 k3 => exact ⟨0, .step h1 (.ser k1 k2 k3)⟩
    | call k1 k2 k3 k4 k5 => obtain ⟨d, k4⟩ := k4; exact ⟨d, .step h1 (.call k1 k2 k3 k4 k5)⟩
theorem EvO.fin {P all fl l e m e' m'} (h : EvO P (FInf P) all fl l e m e' m') : ∃ d, EvO P (EvF P d) all fl l e m e' m' := by
  induction h with
  | nil => exact ⟨0, .nil⟩
  | cons h1 h2 _ ih =>
    obtain ⟨a, h2⟩ := h2.fin
    obtain ⟨b, ih⟩ := ih
    exact ⟨max a b, .cons h1 (h2.monoF (EvF_le P (by omega))) (ih.monoF (EvF_le P (by omega)))⟩
theorem EvC.fin {P c e m x e' m'} (h : EvC P (FInf P) c e m x e' m') : ∃ d, EvC P (EvF P d) c e m x e' m' := by
  induction h with
  | skip => exact ⟨0, .skip⟩
  | label => exact ⟨0, .label⟩
  | exit => exact ⟨0, .exit⟩
  | ret => exact ⟨0, .ret⟩
  | seq_n _ _ h1 h2 =>
    obtain ⟨a, h1⟩ := h1; obtain ⟨b, h2⟩ := h2
    exact ⟨max a b, .seq_n (h1.monoF (EvF_le P (by omega))) (h2.monoF (EvF_le P (by omega)))⟩
  | seq_x _ hx h => obtain ⟨a, h⟩ := h; exact ⟨a, .seq_x h hx⟩
  | cond hc _ h => obtain ⟨a, h⟩ := h; exact ⟨a, .cond hc h⟩
  | block _ h => obtain ⟨a, h⟩ := h; exact ⟨a, .block h⟩
  | scope _ h => obtain ⟨a, h⟩ := h; exact ⟨a, .scope h⟩
  | loop_n _ _ h1 h2 =>
    obtain ⟨a, h1⟩ := h1; obtain ⟨b, h2⟩ := h2
    exact ⟨max a b, .loop_n (h1.monoF (EvF_le P (by omega))) (h2.monoF (EvF_le P (by omega)))⟩
  | loop_x _ hx h => obtain ⟨a, h⟩ := h; exact ⟨a, .loop_x h hx⟩
  | region h => obtain ⟨a, h⟩ := h.fin; exact ⟨a, .region h⟩
  | draw π Ri hok h => obtain ⟨a, h⟩ := h.fin; exact ⟨a, .draw π Ri hok h⟩
  | weak _ hw h => obtain ⟨a, h⟩ := h; exact ⟨a, .weak h hw⟩
  | weakL hw _ h => obtain ⟨a, h⟩ := h; exact ⟨a, .weakL hw h⟩

/-! ### The blocks that a piece of code may touch -/

abbrev Heap := Nat → Option Blk
def Heap.emp : Heap := fun _ => none
def Heap.put (h : Heap) (b : Nat) (k : Blk) : Heap := fun x => if x = b then some k else h x
def Heap.upd (h : Heap) (b : Nat) (k : Blk) : Heap := fun x => if x = b then some k else h x
def Heap.del (h : Heap) (b : Nat) : Heap := fun x => if x = b then none else h x
def Heap.kill (h : Heap) : List Nat → Heap
  | [] => h
  | a :: l => Heap.kill (fun x => if x = a then (match h x with | some k => if k.st = .old then none else some k | none => none) else h x) l
/-- The blocks of g, and beside them those of h. -/
def Heap.cat (h g : Heap) : Heap := fun x => match g x with
  | some k => some k
  | none => h x

structure HR (Pr : Nat → Prop) (m : Mem) (h : Heap) : Prop where
  pr : ∀ b, Pr b → h b = none ∧ m.blk b ≠ none
  rd : ∀ b k, h b = some k → k.st ≠ .dead ∧ ∃ k', m.blk b = some k' ∧ k'.st = k.st ∧ k'.cells = k.cells ∧ k'.ety = k.ety ∧
    ∀ a ∈ k'.anc, (a ∈ k.anc ∧ h a ≠ none) ∨ (h a = none ∧ ¬ Pr a ∧ m.blk a ≠ none)

/-- Function f, called with args where h are the blocks that it may touch, ends; K holds of what it answers and of the blocks behind the call. -/
def wpH (P : Program) (f : FuncId) (args : List AV) (h : Heap) (K : AV → Heap → Prop) : Prop :=
  ∀ m Pr, HR Pr m h → ∃ v m' h', FInf P f args m v m' ∧ HR Pr m' h' ∧ (∀ b, Pr b → m'.blk b = m.blk b) ∧ K v h'

/-- As wpH; and whatever stood there can be read as it was. -/
def wpE (P : Program) (f : FuncId) (args : List AV) (h : Heap) (K : AV → Heap → Prop) : Prop :=
  ∀ m Pr, HR Pr m h → ∃ v m' h', FInf P f args m v m' ∧ HR Pr m' h' ∧ (∀ b, Pr b → m'.blk b = m.blk b) ∧ Ext m m' ∧ K v h'

/-- Function f answers v and touches nothing. -/
def wpP (P : Program) (f : FuncId) (args : List AV) (v : AV) : Prop := wpH P f args Heap.emp fun v' h' => v' = v ∧ h' = Heap.emp

theorem wpH.mono {P f args h K K'} (hw : wpH P f args h K) (hk : ∀ v h', K v h' → K' v h') : wpH P f args h K' := fun m Pr hr =>
  let ⟨v, m', h', h1, h2, h3, h4⟩ := hw m Pr hr; ⟨v, m', h', h1, h2, h3, hk _ _ h4⟩

/-- The codes one behind the other. -/
inductive EvL (P : Program) (F : FnRel) : List Code → Env → Mem → Ex → Env → Mem → Prop
  | nil {e m} : EvL P F [] e m .normal e m
  | cons_n {c cs e m e1 m1 x e' m'} (h : EvC P F c e m .normal e1 m1) (k : EvL P F cs e1 m1 x e' m') : EvL P F (c :: cs) e m x e' m'
  | cons_x {c cs e m x e' m'} (h : EvC P F c e m x e' m') (hx : x ≠ .normal) : EvL P F (c :: cs) e m x e' m'
  | weak {cs e m e1 m1 x e' m'} (hw : Weak e m e1 m1) (k : EvL P F cs e1 m1 x e' m') : EvL P F cs e m x e' m'

theorem EvL.cons {P F c cs e m e1 m1 x e' m'} (h : EvC P F c e m .normal e1 m1) (k : EvL P F cs e1 m1 x e' m') : EvL P F (c :: cs) e m x e' m' := .cons_n h k

/-- One code: as a code. -/
theorem EvL.one {P F c e m x e' m'} (h : EvL P F [c] e m x e' m') : EvC P F c e m x e' m' := by
  generalize hcs : [c] = cs at h
  have tail : ∀ {cs e m x e' m'}, EvL P F cs e m x e' m' → cs = [] → x = .normal ∧ ∀ c e0 m0, EvC P F c e0 m0 .normal e m → EvC P F c e0 m0 .normal e' m' := by
    intro cs e m x e' m' h
    induction h with
    | nil => exact fun _ => ⟨rfl, fun _ _ _ h => h⟩
    | cons_n => intro h; cases h
    | cons_x => intro h; cases h
    | weak hw _ ih => exact fun h => ⟨(ih h).1, fun c e0 m0 k => (ih h).2 c e0 m0 (.weak k hw)⟩
  induction h with
  | nil => cases hcs
  | cons_n h k =>
    cases hcs
    obtain ⟨rfl, t⟩ := tail k rfl
    exact t _ _ _ h
  | cons_x h hx => cases hcs; exact h
  | weak hw _ ih => exact .weakL hw (ih hcs)

theorem EvL.seq {P F a b cs e m x e' m'} (h : EvL P F (a :: b :: cs) e m x e' m') : EvL P F (.seq a b :: cs) e m x e' m' := by
  have snd : ∀ {l e m x e' m'}, EvL P F l e m x e' m' → l = b :: cs → ∀ {e0 m0}, EvC P F a e0 m0 .normal e m → EvL P F (.seq a b :: cs) e0 m0 x e' m' := by
    intro l e m x e' m' h
    induction h with
    | nil => intro h; cases h
    | cons_n h k => intro hl; cases hl; exact fun ha => .cons_n (.seq_n ha h) k
    | cons_x h hx => intro hl; cases hl; exact fun ha => .cons_x (.seq_n ha h) hx
    | weak hw _ ih => exact fun hl _ _ ha => ih hl (.weak ha hw)
  generalize hl : a :: b :: cs = l at h
  induction h with
  | nil => cases hl
  | cons_n h k => cases hl; exact snd k rfl h
  | cons_x h hx => cases hl; exact .cons_x (.seq_x h hx) hx
  | weak hw _ ih => exact .weak hw (ih hl)

theorem EvL.scope {P F c cs e m x e' m'} (h : EvL P F (c :: cs) e m x e' m') : EvL P F (.scope c :: cs) e m x e' m' := by
  generalize hl : c :: cs = l at h
  induction h with
  | nil => cases hl
  | cons_n h k => cases hl; exact .cons_n (.scope h) k
  | cons_x h hx => cases hl; exact .cons_x (.scope h) hx
  | weak hw _ ih => exact .weak hw (ih hl)

def wpL (P : Program) (cs : List Code) (e : Env) (h : Heap) (K : Ex → Env → Heap → Prop) : Prop :=
  ∀ m Pr, HR Pr m h → ∃ x e' m' h', EvL P (FInf P) cs e m x e' m' ∧ HR Pr m' h' ∧ (∀ b, Pr b → m'.blk b = m.blk b) ∧ K x e' h'

/-! ### What one operation comes to -/

inductive Out where
  | bad
  | cond (c : Prop) (x : Out)
  | val (v : AV)
  | alloc (f : Nat → Option (AV × Blk))
  | store (b : Nat) (k : Blk) (o : Nat) (cs : List AV)
  | app (t : TypeId) (s x : AV)
  | call (g : FuncId) (args : List AV)
  | same (t : TypeId) (b n : Nat)

def outV : Option AV → Out
  | some v => .val v
  | none => .bad

/-- What only reads. -/
def loadH (P : Program) (e : Env) (h : Heap) : Op → Option AV
  | .slice t x lo hi none => match ev P e x with
    | .ptr b o => (h b).bind fun k => arrCutA P t b o k.cells.length (lo.map (ev P e)) (hi.map (ev P e))
    | _ => none
  | .load t a => match ev P e a with
    | .ptr b o => (h b).bind fun k => (tiOf P t).bind fun ti => partA ti k.cells o
    | .rp cs o => (tiOf P t).bind fun ti => partA ti cs o
    | _ => none
  | .convert src dst x => match ev P e x with
    | .sl b o n _ => (tiOf P src).bind fun si => (tiOf P dst).bind fun di => match si.d, di.d with
      | .slice et, .str => (tiOf P et).bind fun ei => match ei.d with
        | .int .u8 => (h b).bind fun k => guardO (o + n ≤ k.cells.length) ((bytesA ((k.cells.drop o).take n)).map .str)
        | _ => none
      | _, _ => none
    | .snil => (tiOf P src).bind fun si => (tiOf P dst).bind fun di => match si.d, di.d with
      | .slice et, .str => (tiOf P et).bind fun ei => match ei.d with
        | .int .u8 => some (.str [])
        | _ => none
      | _, _ => none
    | .rs s es => (tiOf P src).bind fun si => (tiOf P dst).bind fun di => match si.d, di.d with
      | .slice et, .str => (tiOf P et).bind fun ei => match ei.d with
        | .int .u8 => guardO (s = 1) ((bytesA es.flatten).map .str)
        | _ => none
      | _, _ => none
    | _ => none
  | _ => none

def srcH (h : Heap) (esz : Nat) : AV → Option (List AV)
  | .snil => some []
  | .sl b o n _ => if n = 0 then some [] else (h b).bind fun k => guardO (o + n * esz ≤ k.cells.length) (some ((k.cells.drop o).take (n * esz)))
  | .rs s es => guardO (s = esz) (some es.flatten)
  | .str s => some (s.map fun c => .int .u8 c.toNat)
  | _ => none

def storeO (P : Program) (h : Heap) (t : TypeId) (a x : AV) : Out :=
  match a with
  | .ptr b o => match h b with
    | some k => match tiOf P t with
      | some ti => .cond (k.st = .own ∧ 0 < ti.size ∧ x.cells.all AV.leaf = true ∧ x.cells.length = ti.size ∧ o + x.cells.length ≤ k.cells.length) (.store b k o x.cells)
      | none => .bad
    | none => .bad
  | _ => .bad

def convO (P : Program) (e : Env) (h : Heap) (s d : TypeId) (x : Operand) : AV → Out
  | .str _ => match (tiOf P d).map TI.d with
    | some (.slice _) => .alloc fun b => allocA P e b (.convert s d x)
    | _ => outV (pureA P e (.convert s d x))
  | .int _ _ => outV (pureA P e (.convert s d x))
  | .sl b o n z => match (tiOf P d).map TI.d with
    | some (.slice _) => if s = d ∧ o = 0 ∧ z = 1 then .same s b n else .bad
    | _ => outV (loadH P e h (.convert s d x))
  | _ => outV (loadH P e h (.convert s d x))

def callO (P : Program) (e : Env) (c : Call) : AV → Out
  | .fn g first cap => .call g (first ++ c.args.toList.map (ev P e) ++ cap)
  | _ => .bad

def appO (P : Program) : List AV → List TypeId → Out
  | [s, x], [t, u] => match (tiOf P u).map TI.d with
    | some (.slice _) => .app t s x
    | some .str => .app t s x
    | _ => .bad
  | _, _ => .bad

def callB (P : Program) (e : Env) (h : Heap) (c : Call) : Callee → Out
  | .value f => callO P e c (ev P e f)
  | .builtin .append => appO P (c.args.toList.map (ev P e)) c.argTypes.toList
  | _ => outV (pureA P e (.call c))

def sliceO (P : Program) (e : Env) (h : Heap) (t : TypeId) (x : Operand) (lo hi mx : Option Operand) : AV → Out
  | .ptr _ _ => outV (loadH P e h (.slice t x lo hi mx))
  | _ => outV (pureA P e (.slice t x lo hi mx))

def stepO (P : Program) (e : Env) (h : Heap) : Op → Out
  | .slice t x lo hi mx => sliceO P e h t x lo hi mx (ev P e x)
  | .load t a => outV (loadH P e h (.load t a))
  | .alloc t => .alloc fun b => allocA P e b (.alloc t)
  | .box t x => .alloc fun b => allocA P e b (.box t x)
  | .buildSlice t n ps => .alloc fun b => allocA P e b (.buildSlice t n ps)
  | .makeSlice t n c => .alloc fun b => allocA P e b (.makeSlice t n c)
  | .convert s d x => convO P e h s d x (ev P e x)
  | .store t a x => storeO P h t (ev P e a) (ev P e x)
  | .call c => callB P e h c c.callee
  | o => outV (pureA P e o)

/-- An operation under a guard, of which slot d holds the value. -/
def gdO (P : Program) (o : Op) (e : Env) (h : Heap) (want : Bool) : AV → Out
  | .bool b => if b = want then stepO P e h o else .val .undef
  | .tup [] => .val .undef
  | _ => .bad

def operO (P : Program) (all : Array Oper) (o : Oper) (e : Env) (h : Heap) : Out :=
  match o.guard with
  | none => stepO P e h o.op
  | some (j, want) => match (all.toList[j]?).bind (·.dst) with
    | none => .val .undef
    | some d => gdO P o.op e h want (e d)

def newRun (h : Heap) (K : AV → Heap → Prop) (b : Nat) : Option (AV × Blk) → Prop
  | some (v, k) => K v (h.put b k)
  | none => False

/-- What is appended: n elements of type et. -/
structure AppC (P : Program) (t : TypeId) (x : AV) (et : TypeId) (ei : TI) (n : Nat) : Prop where
  ht : ∃ ti, tiOf P t = some ti ∧ ti.d = .slice et
  hei : tiOf P et = some ei
  pos : 0 < ei.size
  len : lenOfA x = some n

structure NewsC (h : Heap) (ei : TI) (x : AV) (n : Nat) (news : List AV) : Prop where
  src : srcH h ei.size x = some news
  len : news.length = n * ei.size
  leaf : news.all AV.leaf = true

inductive AppRun' (P : Program) (h : Heap) (K : AV → Heap → Prop) (t : TypeId) (s x : AV) : Prop
  | zero {et ei} (hc : AppC P t x et ei 0) (hs : s = .snil ∨ ∃ b o l z, s = .sl b o l z) (hk : K s h)
  | nil0 {et ei} (hc : AppC P t x et ei 0) (hs : s = .snil) (hk : ∀ b', h b' = none → K (.sl b' 0 0 ei.size) (h.put b' ⟨.own, [], et, []⟩))
  | nil {et ei n news} (hc : AppC P t x et ei n) (hn : 0 < n) (hw : NewsC h ei x n news) (hs : s = .snil) (hb : n * ei.bytes ≤ 140737488355328) (hm : n ≤ maxInt)
      (hk : ∀ b', h b' = none → K (.sl b' 0 n ei.size) (h.put b' ⟨.own, news, et, []⟩))
  | own {et ei n news b o len k} (hc : AppC P t x et ei n) (hn : 0 < n) (hw : NewsC h ei x n news) (hs : s = .sl b o len ei.size) (hbk : h b = some k) (hst : k.st = .own) (hty : k.ety = et) (hanc : k.anc = [])
      (hend : o + len * ei.size = k.cells.length) (hb : (len + n) * ei.bytes ≤ 140737488355328) (hm : len + n ≤ maxInt)
      (hk : ∀ b', h b' = none → K (.sl b' 0 (len + n) ei.size) ((h.del b).put b' ⟨.own, k.cells.drop o ++ news, et, []⟩))
  | keep {et ei n news b o len k} (hc : AppC P t x et ei n) (hn : 0 < n) (hw : NewsC h ei x n news) (hs : s = .sl b o len ei.size) (hbk : h b = some k) (hst : k.st = .own) (hty : k.ety = et)
      (hend : o + len * ei.size = k.cells.length) (hb : (len + n) * ei.bytes ≤ 140737488355328) (hm : len + n ≤ maxInt)
      (hk : ∀ b', h b' = none → K (.sl b' 0 (len + n) ei.size) ((h.upd b { k with st := .old }).put b' ⟨.own, k.cells.drop o ++ news, et, b :: k.anc⟩))

/-- What is to hold once an operation has come to x. -/
def Out.run (P : Program) (fl : Bool) (h : Heap) (K : AV → Heap → Prop) : Out → Prop
  | .bad => False
  | .cond c x => c ∧ x.run P fl h K
  | .val v => K v h
  | .alloc f => ∀ b, h b = none → newRun h K b (f b)
  | .store b k o cs => fl = false ∧ h b = some k ∧ K .undef ((h.upd b { k with cells := k.cells.take o ++ cs ++ k.cells.drop (o + cs.length), anc := [] }).kill k.anc)
  | .app t s x => AppRun' P h K t s x
  | .same t b n => fl = false ∧ ∃ ti et ei k es, tiOf P t = some ti ∧ ti.d = .slice et ∧ tiOf P et = some ei ∧ ei.d = .int .u8 ∧ 0 < n ∧ h b = some k ∧ k.st = .own ∧ k.anc = [] ∧ k.cells = es.flatten ∧ es.length = n ∧ (∀ e ∈ es, e.length = 1) ∧ K (.rs 1 es) (h.del b)
  | .call g args => (fl = false ∧ wpH P g args h K) ∨ wpE P g args h K ∨ (wpH P g args Heap.emp fun v h1 => (∀ b, h b ≠ none → h1 b = none) → K v (h.cat h1)) ∨ ∃ v, ExtR P g args v ∧ K v h

/-- A reader that is marked looks at nothing that is written. -/
def hOf (fl : Bool) : Op → Heap → Heap
  | .load _ _, h => if fl then Heap.emp else h
  | .convert _ _ _, h => if fl then Heap.emp else h
  | .slice _ _ _ _ _, h => if fl then Heap.emp else h
  | _, h => h
theorem hOf_f {o h} : hOf false o h = h := by cases o <;> rfl

def gO (P : Program) (all : Array Oper) : List (Oper × Bool) → Env → Heap → (Env → Heap → Prop) → Prop
  | [], e, h, k => k e h
  | (o, fl) :: its, e, h, k => (operO P all o e (hOf fl o.op h)).run P fl h fun v h' => gO P all its (putd e o.dst v) h' k

/-- An operation has come to x; what follows. -/
def gN (P : Program) (all : Array Oper) (d : Option Nat) (fl : Bool) (its : List (Oper × Bool)) (e : Env) (h : Heap) (k : Env → Heap → Prop) (x : Out) : Prop :=
  x.run P fl h fun v h' => gO P all its (putd e d v) h' k
/-- A block has been made. -/
def gW (P : Program) (all : Array Oper) (d : Option Nat) (its : List (Oper × Bool)) (e : Env) (h : Heap) (k : Env → Heap → Prop) (b : Nat) (x : Option (AV × Blk)) : Prop :=
  newRun h (fun v h' => gO P all its (putd e d v) h' k) b x

section
variable {P : Program} {all : Array Oper} {d : Option Nat} {fl : Bool} {its : List (Oper × Bool)} {e : Env} {h : Heap} {k : Env → Heap → Prop}

theorem gO_nil : gO P all [] e h k = k e h := rfl
theorem gO_cons {o} : gO P all ((o, false) :: its) e h k = gN P all o.dst false its e h k (operO P all o e h) := by simp only [gO, hOf_f]; rfl
theorem gO_consT {o} : gO P all ((o, true) :: its) e h k = gN P all o.dst true its e h k (operO P all o e (hOf true o.op h)) := rfl
theorem hOf_load {t a} : hOf true (.load t a) h = Heap.emp := rfl
theorem hOf_conv {s t a} : hOf true (.convert s t a) h = Heap.emp := rfl
theorem hOf_slice {t x lo hi mx} : hOf true (.slice t x lo hi mx) h = Heap.emp := rfl
theorem hOf_store {t a x} : hOf true (.store t a x) h = h := rfl
theorem hOf_call {c} : hOf true (.call c) h = h := rfl
theorem gN_cond {c x} : gN P all d fl its e h k (.cond c x) = (c ∧ gN P all d fl its e h k x) := rfl
theorem gN_val {v} : gN P all d fl its e h k (.val v) = gO P all its (putd e d v) h k := rfl
theorem gN_bad : gN P all d fl its e h k .bad = False := rfl
theorem gN_alloc {f} (hk : ∀ b, h b = none → gW P all d its e h k b (f b)) : gN P all d fl its e h k (.alloc f) := hk
theorem gW_some {b v kk} : gW P all d its e h k b (some (v, kk)) = gO P all its (putd e d v) (h.put b kk) k := rfl
theorem gW_none {b} : gW P all d its e h k b none = False := rfl
theorem gW_guard {c : Prop} [Decidable c] {b} {x : Option (AV × Blk)} : gW P all d its e h k b (guardO c x) = (c ∧ gW P all d its e h k b x) := by
  unfold guardO; split
  · simp_all
  · simp_all [gW, newRun]
theorem outV_some {v} : outV (some v) = .val v := rfl
theorem outV_none : outV none = .bad := rfl
theorem outV_guard {c : Prop} [Decidable c] {x : Option AV} : gN P all d fl its e h k (outV (guardO c x)) = (c ∧ gN P all d fl its e h k (outV x)) := by
  unfold guardO; split
  · simp_all
  · simp_all [outV, gN, Out.run]
theorem gN_storeT {b k' o cs} : gN P all d true its e h k (.store b k' o cs) = False := by simp [gN, Out.run]
theorem gN_store {b k' o cs} : gN P all d false its e h k (.store b k' o cs) = (h b = some k' ∧
    gO P all its (putd e d .undef) ((h.upd b { k' with cells := k'.cells.take o ++ cs ++ k'.cells.drop (o + cs.length), anc := [] }).kill k'.anc) k) := by simp [gN, Out.run]
theorem gN_call {g args} (hw : wpH P g args h fun v h' => gO P all its (putd e d v) h' k) : gN P all d false its e h k (.call g args) := .inl ⟨rfl, hw⟩
theorem gN_callE {g args} (hw : wpH P g args Heap.emp fun v h1 => (∀ b, h b ≠ none → h1 b = none) → gO P all its (putd e d v) (h.cat h1) k) : gN P all d fl its e h k (.call g args) := .inr (.inr (.inl hw))
theorem gN_same {t b n et ei ti kk} (es : List (List AV)) (h1 : tiOf P t = some ti) (h2 : ti.d = .slice et) (h3 : tiOf P et = some ei) (h4 : ei.d = .int .u8) (h5 : 0 < n) (h6 : h b = some kk) (h7 : kk.st = .own) (h8 : kk.anc = []) (h9 : kk.cells = es.flatten)
    (h10 : es.length = n) (h11 : ∀ e ∈ es, e.length = 1) (hk : gO P all its (putd e d (.rs 1 es)) (h.del b) k) : gN P all d false its e h k (.same t b n) := ⟨rfl, ti, et, ei, kk, es, h1, h2, h3, h4, h5, h6, h7, h8, h9, h10, h11, hk⟩
theorem gN_callX {g args} (hw : wpE P g args h fun v h1 => gO P all its (putd e d v) h1 k) : gN P all d fl its e h k (.call g args) := .inr (.inl hw)
theorem gN_callP {g args v} (hw : wpP P g args v) (hk : gO P all its (putd e d v) h k) : gN P all d fl its e h k (.call g args) :=
  .inr (.inr (.inl (wpH.mono hw fun v' h' ⟨e1, e2⟩ _ => by subst e1; subst e2; exact hk)))
theorem gN_callExt {g args v} (hw : ExtR P g args v) (hk : gO P all its (putd e d v) h k) : gN P all d fl its e h k (.call g args) := .inr (.inr (.inr ⟨v, hw, hk⟩))

theorem putd_lk {L d v} : putd (lk L) (some d) v = lk ((d, v) :: L) := rfl
theorem putd_lk0 {L v} : putd (lk L) none v = lk L := rfl
theorem lk_cons {a v L i} : lk ((a, v) :: L) i = if i = a then v else lk L i := rfl
theorem lk_nil {i} : lk [] i = .any := rfl
theorem ev_tmp {t} : ev P e (.tmp t) = e t := rfl
theorem gdO_tt {o} : gdO P o e h true (.bool true) = stepO P e h o := rfl
theorem gdO_ff {o} : gdO P o e h false (.bool false) = stepO P e h o := rfl
theorem gdO_tf {o} : gdO P o e h true (.bool false) = .val .undef := rfl
theorem gdO_ft {o} : gdO P o e h false (.bool true) = .val .undef := rfl
theorem gdO_u {o w} : gdO P o e h w .undef = .val .undef := rfl

theorem gN_split {o : Op} {want b : Bool} {L : List (Nat × AV)} (i : Nat) (hi : lk L i = .bool b)
    (h1 : b = true → gN P all d fl its (lk ((i, .bool true) :: L)) h k (gdO P o (lk ((i, .bool true) :: L)) h want (.bool true)))
    (h2 : b = false → gN P all d fl its (lk ((i, .bool false) :: L)) h k (gdO P o (lk ((i, .bool false) :: L)) h want (.bool false))) :
    gN P all d fl its (lk L) h k (gdO P o (lk L) h want (.bool b)) := by
  have hL : lk ((i, .bool b) :: L) = lk L := by
    funext j
    simp only [lk]
    split
    · subst_vars; exact hi.symm
    · rfl
  cases b with
  | true => have := h1 rfl; rw [hL] at this; exact this
  | false => have := h2 rfl; rw [hL] at this; exact this

theorem gN_app_zero {t s x et ei} (hc : AppC P t x et ei 0) (hs : s = .snil ∨ ∃ b o l z, s = .sl b o l z) (hk : gO P all its (putd e d s) h k) : gN P all d fl its e h k (.app t s x) := .zero hc hs hk
theorem gN_app_nil0 {t x et ei} (hc : AppC P t x et ei 0) (hk : ∀ b', h b' = none → gO P all its (putd e d (.sl b' 0 0 ei.size)) (h.put b' ⟨.own, [], et, []⟩) k) : gN P all d fl its e h k (.app t .snil x) := .nil0 hc rfl hk
theorem gN_app_nil {t x et ei n news} (hc : AppC P t x et ei n) (hn : 0 < n) (hw : NewsC h ei x n news) (hb : n * ei.bytes ≤ 140737488355328) (hm : n ≤ maxInt)
    (hk : ∀ b', h b' = none → gO P all its (putd e d (.sl b' 0 n ei.size)) (h.put b' ⟨.own, news, et, []⟩) k) : gN P all d fl its e h k (.app t .snil x) := .nil hc hn hw rfl hb hm hk
theorem gN_app_own {t x et ei n news b len cells} (hc : AppC P t x et ei n) (hn : 0 < n) (hw : NewsC h ei x n news) (hbk : h b = some ⟨.own, cells, et, []⟩)
    (hend : len * ei.size = cells.length) (hb : (len + n) * ei.bytes ≤ 140737488355328) (hm : len + n ≤ maxInt)
    (hk : ∀ b', h b' = none → gO P all its (putd e d (.sl b' 0 (len + n) ei.size)) ((h.del b).put b' ⟨.own, cells ++ news, et, []⟩) k) : gN P all d fl its e h k (.app t (.sl b 0 len ei.size) x) :=
  .own hc hn hw rfl hbk rfl rfl rfl (by simpa using hend) hb hm (by simpa using hk)
end

/-! ### Sound -/

section
variable {P : Program} {Pr : Nat → Prop} {m : Mem} {h : Heap}

theorem HR.blk {b k} (R : HR Pr m h) (hb : h b = some k) : ∃ k', m.blk b = some k' ∧ k'.st = k.st ∧ k'.cells = k.cells ∧ k'.ety = k.ety ∧ k'.st ≠ .dead := by
  obtain ⟨h1, k', h2, h3, h4, h5, _⟩ := R.rd b k hb
  exact ⟨k', h2, h3, h4, h5, by rw [h3]; exact h1⟩

theorem loadH_sound {e : Env} {op v} (R : HR Pr m h) (hl : loadH P e h op = some v) : loadA P e m op = some v := by
  cases op <;> simp only [loadH, loadA, reduceCtorEq] at hl ⊢
  case load t a =>
    generalize ev P e a = z at hl ⊢
    cases z <;> simp only [reduceCtorEq] at hl ⊢
    · rename_i b o
      cases hk : h b with
      | none => simp [hk] at hl
      | some k =>
        obtain ⟨k', h1, h2, h3, h4, h5⟩ := R.blk hk
        simp only [hk, Option.bind_some] at hl
        simp only [h1, Option.bind_some, h3]
        rw [guardO, if_pos h5]; exact hl
    · exact hl
  case slice t x lo hi mx =>
    cases mx with
    | some _ => simp [loadH] at hl
    | none =>
      simp only [loadH, loadA] at hl ⊢
      generalize ev P e x = z at hl ⊢
      cases z <;> simp only [reduceCtorEq] at hl ⊢
      rename_i b o
      cases hk : h b with
      | none => simp [hk] at hl
      | some k =>
        obtain ⟨k', h1, h2, h3, h4, h5⟩ := R.blk hk
        simp only [hk, Option.bind_some] at hl
        simp only [h1, Option.bind_some, h3]
        rw [guardO, if_pos h5]; exact hl
  case convert src dst x =>
    generalize ev P e x = z at hl ⊢
    cases z <;> simp only [reduceCtorEq] at hl ⊢
    · exact hl
    · rename_i b o n s
      cases hsi : tiOf P src with
      | none => simp [hsi] at hl
      | some si =>
        simp only [hsi, Option.bind_some] at hl ⊢
        cases hdi : tiOf P dst with
        | none => simp [hdi] at hl
        | some di =>
          simp only [hdi, Option.bind_some] at hl ⊢
          split at hl
          · rename_i et k1 k2
            cases hei : tiOf P et with
            | none => simp [hei] at hl
            | some ei =>
              simp only [k1, k2, hei, Option.bind_some] at hl ⊢
              split at hl
              · rename_i k3
                simp only [k3]
                cases hk : h b with
                | none => simp [hk] at hl
                | some k =>
                  obtain ⟨k', h1, h2, h3, h4, h5⟩ := R.blk hk
                  simp only [hk, Option.bind_some] at hl
                  simp only [h1, Option.bind_some, h3]
                  rw [guardO, if_pos h5]; exact hl
              · simp at hl
          · simp at hl
    · exact hl

theorem srcH_sound {esz x news} (R : HR Pr m h) (hs : srcH h esz x = some news) : srcA m esz x = some news := by
  cases x <;> simp only [srcH, srcA, reduceCtorEq] at hs ⊢
  case sl b o n s =>
    split at hs
    · rename_i hn; rw [if_pos hn]; exact hs
    · rename_i hn
      rw [if_neg hn]
      cases hk : h b with
      | none => simp [hk] at hs
      | some k =>
        obtain ⟨k', h1, h2, h3, h4, h5⟩ := R.blk hk
        simp only [hk, Option.bind_some] at hs
        simp only [h1, Option.bind_some, h3]
        rw [guardO, if_pos h5]; exact hs
  all_goals exact hs

theorem HR.put {b k} (R : HR Pr m h) (hb : m.blk b = none) (ho : k.st = .own) (ha : k.anc = []) : HR Pr (m.put b k) (h.put b k) := by
  refine ⟨fun c hc => ?_, fun c kc hc => ?_⟩
  · obtain ⟨h1, h2⟩ := R.pr c hc
    have hne : c ≠ b := by rintro rfl; exact h2 hb
    simp only [Heap.put, Mem.blk_put, if_neg hne]
    exact ⟨h1, h2⟩
  · by_cases hne : c = b
    · subst hne
      simp only [Heap.put, if_true] at hc
      cases hc
      refine ⟨by rw [ho]; decide, k, by simp, rfl, rfl, rfl, fun a h => by simp [ha] at h⟩
    · simp only [Heap.put, if_neg hne] at hc
      obtain ⟨h1, k', h2, h3, h4, h5, h6⟩ := R.rd c kc hc
      refine ⟨h1, k', by simp [hne, h2], h3, h4, h5, fun a ha' => ?_⟩
      have key : ∀ a, m.blk a ≠ none → a ≠ b := fun a h => by rintro rfl; exact h hb
      rcases h6 a ha' with ⟨q1, q2⟩ | ⟨q1, q2, q3⟩
      · refine .inl ⟨q1, ?_⟩
        simp only [Heap.put]; split
        · simp
        · exact q2
      · exact .inr ⟨by simp only [Heap.put, if_neg (key a q3)]; exact q1, q2, by rw [Mem.blk_put, if_neg (key a q3)]; exact q3⟩

theorem frame_put {b k} (R : HR Pr m h) (hb : m.blk b = none) : ∀ c, Pr c → (m.put b k).blk c = m.blk c := fun c hc => by
  rw [Mem.blk_put, if_neg (by rintro rfl; exact (R.pr _ hc).2 hb)]

theorem HR.fresh (R : HR Pr m h) {b} (hb : m.blk b = none) : h b = none := by
  cases hh : h b with
  | none => rfl
  | some k => obtain ⟨k', h1, _⟩ := R.blk hh; rw [hb] at h1; cases h1

theorem Heap.kill_at (h : Heap) : ∀ (l : List Nat) (x : Nat), h.kill l x = match h x with
    | none => none
    | some k => if k.st = .old ∧ x ∈ l then none else some k := by
  intro l
  induction l generalizing h with
  | nil => intro x; simp only [Heap.kill]; cases h x <;> simp
  | cons a l ih =>
    intro x
    simp only [Heap.kill]
    rw [ih]
    by_cases hx : x = a
    · subst hx
      simp only [if_true]
      cases hh : h x with
      | none => simp
      | some k =>
        by_cases ho : k.st = .old <;> simp [ho]
    · simp only [if_neg hx]
      cases hh : h x with
      | none => rfl
      | some k => simp [hx]

theorem HR.store {b k o cs} (R : HR Pr m h) (hb : h b = some k) (ho : k.st = .own) {k'} (hk' : m.blk b = some k') (hst : k'.st = k.st) (hce : k'.cells = k.cells) (hty : k'.ety = k.ety) :
    HR Pr (storeIn m b k' o cs) ((h.upd b { k with cells := k.cells.take o ++ cs ++ k.cells.drop (o + cs.length), anc := [] }).kill k.anc) ∧ ∀ c, Pr c → (storeIn m b k' o cs).blk c = m.blk c := by
  obtain ⟨_, k2, h2, _, _, _, h6⟩ := R.rd b k hb
  rw [hk'] at h2; cases h2
  have sb : ∀ x, (storeIn m b k' o cs).blk x = match (if x = b then some { k' with cells := k'.cells.take o ++ cs ++ k'.cells.drop (o + cs.length), anc := [] } else m.blk x) with
      | none => none
      | some kx => if kx.st = .old ∧ x ∈ k'.anc then some { kx with st := .dead } else some kx := by
    intro x; unfold storeIn; rw [kill_blk, Mem.blk_put]
    split <;> split <;> simp_all
  have sn : ∀ x, m.blk x ≠ none → (storeIn m b k' o cs).blk x ≠ none := fun x hx => by
    rw [sb]; split
    · rename_i he; split at he
      · simp at he
      · exact absurd he hx
    · split <;> simp
  have hn : ∀ x, h x = none → ((h.upd b { k with cells := k.cells.take o ++ cs ++ k.cells.drop (o + cs.length), anc := [] }).kill k.anc) x = none := fun x hx => by
    rw [Heap.kill_at]
    simp only [Heap.upd]
    rw [if_neg (by rintro rfl; rw [hb] at hx; cases hx), hx]
  refine ⟨⟨fun c hc => ?_, fun c kc hc => ?_⟩, fun c hc => ?_⟩
  · obtain ⟨q1, q2⟩ := R.pr c hc
    exact ⟨hn c q1, sn c q2⟩
  · rw [Heap.kill_at] at hc
    simp only [Heap.upd] at hc
    by_cases hcb : c = b
    · subst hcb
      simp only [if_true] at hc
      rw [if_neg (by simp [ho])] at hc
      cases hc
      refine ⟨by simp [ho], { k' with cells := k'.cells.take o ++ cs ++ k'.cells.drop (o + cs.length), anc := [] }, by rw [sb, if_pos rfl]; simp only; rw [if_neg (by rw [hst, ho]; simp)], hst, by simp only [hce], hty, fun a ha => by simp at ha⟩
    · rw [if_neg hcb] at hc
      cases hh : h c with
      | none => simp [hh] at hc
      | some kc0 =>
        simp only [hh] at hc
        split at hc
        · cases hc
        · rename_i hno
          cases hc
          obtain ⟨r1, kc', r2, r3, r4, r5, r6⟩ := R.rd c kc hh
          refine ⟨r1, kc', ?_, r3, r4, r5, fun a ha => ?_⟩
          · rw [sb, if_neg hcb, r2]
            simp only
            rw [if_neg]
            rintro ⟨z1, z2⟩
            rcases h6 c z2 with ⟨y1, _⟩ | ⟨y1, _⟩
            · exact hno ⟨by rw [← r3]; exact z1, y1⟩
            · rw [hh] at y1; cases y1
          · rcases r6 a ha with ⟨y1, y2⟩ | ⟨y1, y2, y3⟩
            · by_cases hk : ((h.upd b { k with cells := k.cells.take o ++ cs ++ k.cells.drop (o + cs.length), anc := [] }).kill k.anc) a = none
              · exact .inr ⟨hk, fun hp => y2 (R.pr a hp).1, sn a (fun hm => y2 (R.fresh hm))⟩
              · exact .inl ⟨y1, hk⟩
            · exact .inr ⟨hn a y1, y2, sn a y3⟩
  · obtain ⟨q1, q2⟩ := R.pr c hc
    have hcb : c ≠ b := by rintro rfl; rw [hb] at q1; cases q1
    rw [sb, if_neg hcb]
    cases hm : m.blk c with
    | none => rfl
    | some kc =>
      simp only
      rw [if_neg]
      rintro ⟨z1, z2⟩
      rcases h6 c z2 with ⟨_, y2⟩ | ⟨_, y2, _⟩
      · exact y2 q1
      · exact y2 hc

theorem HR.app {b k b' o news} (R : HR Pr m h) (hb : h b = some k) (ho : k.st = .own) (hb' : m.blk b' = none) {k'} (hk' : m.blk b = some k') (hst : k'.st = k.st) (hce : k'.cells = k.cells) (hty : k'.ety = k.ety) (keep : Bool) (hanc : keep = false → k.anc = []) :
    HR Pr ((m.put b { k' with st := .old }).put b' ⟨.own, k'.cells.drop o ++ news, k.ety, b :: k'.anc⟩)
      (if keep then (h.upd b { k with st := .old }).put b' ⟨.own, k.cells.drop o ++ news, k.ety, b :: k.anc⟩ else (h.del b).put b' ⟨.own, k.cells.drop o ++ news, k.ety, []⟩) ∧
    ∀ c, Pr c → ((m.put b { k' with st := .old }).put b' ⟨.own, k'.cells.drop o ++ news, k.ety, b :: k'.anc⟩).blk c = m.blk c := by
  obtain ⟨_, k2, h2, _, _, _, h6⟩ := R.rd b k hb
  rw [hk'] at h2; cases h2
  have hne : b ≠ b' := by rintro rfl; rw [hb'] at hk'; cases hk'
  have hhb' := R.fresh hb'
  have hpb : ¬ Pr b := fun hp => by have := (R.pr b hp).1; rw [hb] at this; cases this
  have hpb' : ¬ Pr b' := fun hp => (R.pr b' hp).2 hb'
  have mb : ∀ x, ((m.put b { k' with st := .old }).put b' ⟨.own, k'.cells.drop o ++ news, k.ety, b :: k'.anc⟩).blk x =
      if x = b' then some ⟨.own, k'.cells.drop o ++ news, k.ety, b :: k'.anc⟩ else if x = b then some { k' with st := .old } else m.blk x := fun x => by simp
  have mn : ∀ x, m.blk x ≠ none → ((m.put b { k' with st := .old }).put b' ⟨.own, k'.cells.drop o ++ news, k.ety, b :: k'.anc⟩).blk x ≠ none := fun x hx => by
    rw [mb]; split
    · simp
    · split
      · simp
      · exact hx
  refine ⟨?_, fun c hc => ?_⟩
  · cases keep with
    | true =>
      simp only [if_true]
      refine ⟨fun c hc => ?_, fun c kc hc => ?_⟩
      · obtain ⟨q1, q2⟩ := R.pr c hc
        have n1 : c ≠ b := by rintro rfl; exact hpb hc
        have n2 : c ≠ b' := by rintro rfl; exact hpb' hc
        exact ⟨by simp only [Heap.put, Heap.upd, if_neg n1, if_neg n2]; exact q1, mn c q2⟩
      · by_cases n2 : c = b'
        · subst n2
          simp only [Heap.put, if_true] at hc
          cases hc
          refine ⟨by simp, ⟨.own, k'.cells.drop o ++ news, k.ety, b :: k'.anc⟩, by rw [mb, if_pos rfl], rfl, by simp only [hce], rfl, fun a ha => ?_⟩
          simp only [List.mem_cons] at ha ⊢
          rcases ha with rfl | ha
          · exact .inl ⟨.inl rfl, by simp [Heap.put, Heap.upd, hne]⟩
          · rcases h6 a ha with ⟨y1, y2⟩ | ⟨y1, y2, y3⟩
            · refine .inl ⟨.inr y1, ?_⟩
              simp only [Heap.put, Heap.upd]; split
              · simp
              · split
                · simp
                · exact y2
            · have n1 : a ≠ b := by rintro rfl; rw [hb] at y1; cases y1
              have n3 : a ≠ c := by rintro rfl; exact y3 hb'
              exact .inr ⟨by simp only [Heap.put, Heap.upd, if_neg n1, if_neg n3]; exact y1, y2, mn a y3⟩
        · simp only [Heap.put, if_neg n2, Heap.upd] at hc
          by_cases n1 : c = b
          · subst n1
            simp only [if_true] at hc
            cases hc
            refine ⟨by simp, { k' with st := .old }, by rw [mb, if_neg n2, if_pos rfl], rfl, hce, hty, fun a ha => ?_⟩
            rcases h6 a ha with ⟨y1, y2⟩ | ⟨y1, y2, y3⟩
            · refine .inl ⟨y1, ?_⟩
              simp only [Heap.put, Heap.upd]; split
              · simp
              · split
                · simp
                · exact y2
            · have n1 : a ≠ c := by rintro rfl; rw [hb] at y1; cases y1
              have n3 : a ≠ b' := by rintro rfl; exact y3 hb'
              exact .inr ⟨by simp only [Heap.put, Heap.upd, if_neg n1, if_neg n3]; exact y1, y2, mn a y3⟩
          · simp only [if_neg n1] at hc
            obtain ⟨r1, kc', r2, r3, r4, r5, r6⟩ := R.rd c kc hc
            refine ⟨r1, kc', by rw [mb, if_neg n2, if_neg n1]; exact r2, r3, r4, r5, fun a ha => ?_⟩
            rcases r6 a ha with ⟨y1, y2⟩ | ⟨y1, y2, y3⟩
            · refine .inl ⟨y1, ?_⟩
              simp only [Heap.put, Heap.upd]; split
              · simp
              · split
                · simp
                · exact y2
            · have n1 : a ≠ b := by rintro rfl; rw [hb] at y1; cases y1
              have n3 : a ≠ b' := by rintro rfl; exact y3 hb'
              exact .inr ⟨by simp only [Heap.put, Heap.upd, if_neg n1, if_neg n3]; exact y1, y2, mn a y3⟩
    | false =>
      simp only [Bool.false_eq_true, if_false]
      have hanc := hanc rfl
      have gone : ∀ a, (h a ≠ none ∨ ¬ Pr a ∧ m.blk a ≠ none) → ((h.del b).put b' ⟨.own, k.cells.drop o ++ news, k.ety, []⟩) a = none → ¬ Pr a ∧ ((m.put b { k' with st := .old }).put b' ⟨.own, k'.cells.drop o ++ news, k.ety, b :: k'.anc⟩).blk a ≠ none := by
        rintro a (ha | ⟨ha, hm⟩) _
        · exact ⟨fun hp => ha (R.pr a hp).1, mn a fun hm => ha (R.fresh hm)⟩
        · exact ⟨ha, mn a hm⟩
      refine ⟨fun c hc => ?_, fun c kc hc => ?_⟩
      · obtain ⟨q1, q2⟩ := R.pr c hc
        have n1 : c ≠ b := by rintro rfl; exact hpb hc
        have n2 : c ≠ b' := by rintro rfl; exact hpb' hc
        exact ⟨by simp only [Heap.put, Heap.del, if_neg n1, if_neg n2]; exact q1, mn c q2⟩
      · by_cases n2 : c = b'
        · subst n2
          simp only [Heap.put, if_true] at hc
          cases hc
          refine ⟨by simp, ⟨.own, k'.cells.drop o ++ news, k.ety, b :: k'.anc⟩, by rw [mb, if_pos rfl], rfl, by simp only [hce], rfl, fun a ha => ?_⟩
          simp only [List.mem_cons] at ha
          have hz : ((h.del b).put c ⟨.own, k.cells.drop o ++ news, k.ety, []⟩) a = none := by
            rcases ha with rfl | ha
            · simp [Heap.put, Heap.del, hne]
            · rcases h6 a ha with ⟨y1, y2⟩ | ⟨y1, y2, y3⟩
              · rw [hanc] at y1; cases y1
              · have n3 : a ≠ c := by rintro rfl; exact y3 hb'
                simp only [Heap.put, Heap.del, if_neg n3]
                split
                · rfl
                · exact y1
          refine .inr ⟨hz, gone a ?_ hz⟩
          rcases ha with rfl | ha
          · exact .inl (by rw [hb]; simp)
          · rcases h6 a ha with ⟨y1, y2⟩ | ⟨y1, y2, y3⟩
            · exact .inl y2
            · exact .inr ⟨y2, y3⟩
        · simp only [Heap.put, if_neg n2, Heap.del] at hc
          by_cases n1 : c = b
          · subst n1; simp at hc
          · simp only [if_neg n1] at hc
            obtain ⟨r1, kc', r2, r3, r4, r5, r6⟩ := R.rd c kc hc
            refine ⟨r1, kc', by rw [mb, if_neg n2, if_neg n1]; exact r2, r3, r4, r5, fun a ha => ?_⟩
            by_cases hz : ((h.del b).put b' ⟨.own, k.cells.drop o ++ news, k.ety, []⟩) a = none
            · refine .inr ⟨hz, gone a ?_ hz⟩
              rcases r6 a ha with ⟨y1, y2⟩ | ⟨y1, y2, y3⟩
              · exact .inl y2
              · exact .inr ⟨y2, y3⟩
            · rcases r6 a ha with ⟨y1, y2⟩ | ⟨y1, y2, y3⟩
              · exact .inl ⟨y1, hz⟩
              · exfalso
                apply hz
                have n3 : a ≠ b' := by rintro rfl; exact y3 hb'
                simp only [Heap.put, Heap.del, if_neg n3]
                split
                · rfl
                · exact y1
  · have n1 : c ≠ b := by rintro rfl; exact hpb hc
    have n2 : c ≠ b' := by rintro rfl; exact hpb' hc
    rw [mb, if_neg n2, if_neg n1]
end

theorem allocA_anc {P e b op v k} (h : allocA P e b op = some (v, k)) : k.anc = [] := by
  unfold allocA at h
  split at h
  · simp [Option.bind_eq_some_iff] at h
    obtain ⟨ti, _, _, rfl⟩ := h; rfl
  · simp only [Option.bind_eq_some_iff] at h
    obtain ⟨ti, _, h⟩ := h
    obtain ⟨_, h⟩ := guardO_some h
    obtain ⟨_, h⟩ := guardO_some h
    simp at h; obtain ⟨_, rfl⟩ := h; rfl
  · simp only [Option.bind_eq_some_iff] at h
    obtain ⟨ti, _, h⟩ := h
    split at h
    · simp only [Option.bind_eq_some_iff] at h
      obtain ⟨ei, _, h⟩ := h
      obtain ⟨_, h⟩ := guardO_some h
      obtain ⟨_, h⟩ := guardO_some h
      simp at h; obtain ⟨_, _, _, rfl⟩ := h; rfl
    · simp at h
  · split at h
    · simp only [Option.bind_eq_some_iff] at h
      obtain ⟨ti, _, h⟩ := h
      split at h
      · simp only [Option.bind_eq_some_iff] at h
        obtain ⟨ei, _, h⟩ := h
        obtain ⟨_, h⟩ := guardO_some h
        obtain ⟨_, h⟩ := guardO_some h
        obtain ⟨_, h⟩ := guardO_some h
        simp at h; obtain ⟨_, rfl⟩ := h; rfl
      · simp at h
    · simp at h
  · split at h
    · simp only [Option.bind_eq_some_iff] at h
      obtain ⟨ti, _, di, _, h⟩ := h
      split at h
      · simp only [Option.bind_eq_some_iff] at h
        obtain ⟨ei, _, h⟩ := h
        split at h
        · obtain ⟨_, h⟩ := guardO_some h
          obtain ⟨_, h⟩ := guardO_some h
          simp at h; obtain ⟨_, rfl⟩ := h; rfl
        · simp at h
      · simp at h
    · simp at h
  · simp at h

theorem SerR_ext {P e m b' c v m1} (hb : m.blk b' = none) (h : SerR P e m b' (.call c) v m1) : Ext m m1 := by
  cases h with
  | ext => exact Ext.refl _
  | app0 => exact Ext.refl _
  | app00 => exact Ext.put hb
  | appNil => exact Ext.put hb
  | appOwn h1 h2 h3 h4 h5 hk hst hty hend hbb hm =>
    rename_i n news b o len k
    have hne : b ≠ b' := by rintro rfl; simp [hb] at hk
    intro x kx hx hd
    by_cases hxb : x = b
    · subst hxb
      rw [hk] at hx; cases hx
      exact ⟨{ k with st := .old }, by rw [Mem.blk_put, if_neg hne, Mem.blk_put, if_pos rfl], by simp, rfl, rfl⟩
    · exact ⟨kx, by rw [Mem.blk_put, if_neg (by rintro rfl; simp [hb] at hx), Mem.blk_put, if_neg hxb]; exact hx, hd, rfl, rfl⟩

section
variable {P : Program} {Pr : Nat → Prop} {fl : Bool} {e : Env} {m : Mem} {h : Heap} {K : AV → Heap → Prop}

/-- One operation, done. -/
def Done (P : Program) (Pr : Nat → Prop) (fl : Bool) (e : Env) (m : Mem) (op : Op) (K : AV → Heap → Prop) : Prop :=
  ∃ v m1 h1, Step P (FInf P) fl e m op v m1 ∧ HR Pr m1 h1 ∧ (∀ b, Pr b → m1.blk b = m.blk b) ∧ K v h1

theorem done_V {op x} (R : HR Pr m h) (hx : ∀ v, x = some v → pureA P e op = some v ∨ (loadA P e m op = some v ∧ (fl = true → ∀ m2, loadA P e m2 op = some v))) (hr : (outV x).run P fl h K) : Done P Pr fl e m op K := by
  cases x with
  | none => exact hr.elim
  | some v => rcases hx v rfl with h1 | h1; exact ⟨v, m, h, .pur h1, R, fun _ _ => rfl, hr⟩; exact ⟨v, m, h, .lod h1.1 h1.2, R, fun _ _ => rfl, hr⟩
theorem done_A {op} (R : HR Pr m h) (hr : (Out.alloc fun b => allocA P e b op).run P fl h K) : Done P Pr fl e m op K := by
  have : newRun h K m.next (allocA P e m.next op) := hr m.next (R.fresh m.fresh)
  cases hx : allocA P e m.next op with
  | none => rw [hx] at this; exact this.elim
  | some vk =>
    obtain ⟨v, k⟩ := vk
    rw [hx] at this
    exact ⟨v, _, _, .alc m.fresh hx, R.put m.fresh (allocA_own hx) (allocA_anc hx), frame_put R m.fresh, this⟩

theorem done_app {c : Call} {s x : AV} {t u : TypeId} {ui : TI} (R : HR Pr m h) (hc : c.callee = .builtin .append) (ha : c.args.toList.map (ev P e) = [s, x]) (ht : c.argTypes.toList = [t, u])
    (hu : tiOf P u = some ui) (hus : (∃ w, ui.d = .slice w) ∨ ui.d = .str) (hr : AppRun' P h K t s x) : Done P Pr fl e m (.call c) K := by
  have ctx : ∀ {et ei n}, AppC P t x et ei n → AppCtx P e c s x et ei n := fun ⟨⟨ti, h1, h2⟩, h3, h4, h5⟩ => ⟨hc, ha, ⟨t, u, ti, ui, ht, h1, h2, hu, hus⟩, h3, h4, h5⟩
  have fin : ∀ {v m1 h1}, SerR P e m m.next (.call c) v m1 → HR Pr m1 h1 → (∀ b, Pr b → m1.blk b = m.blk b) → K v h1 → Done P Pr fl e m (.call c) K :=
    fun hs h2 h3 h4 => ⟨_, _, _, .ser m.fresh hs fun _ => SerR_ext m.fresh hs, h2, h3, h4⟩
  cases hr with
  | zero hc hs hk => exact fin (.app0 (ctx hc) hs) R (fun _ _ => rfl) hk
  | nil0 hc hs hk =>
    subst hs
    exact fin (.app00 (ctx hc)) (R.put m.fresh rfl rfl) (frame_put R m.fresh) (hk _ (R.fresh m.fresh))
  | nil hc hn hw hs hb hm hk =>
    subst hs
    exact fin (.appNil (ctx hc) hn (srcH_sound R hw.src) hw.len hw.leaf hb hm) (R.put m.fresh rfl rfl) (frame_put R m.fresh) (hk _ (R.fresh m.fresh))
  | own hc hn hw hs hbk hst hty hanc hend hb hm hk =>
    subst hs; subst hty
    obtain ⟨k', k1, k2, k3, k4, _⟩ := R.blk hbk
    have r := fun o news => R.app (o := o) (news := news) hbk hst m.fresh k1 k2 k3 k4 false (fun _ => hanc)
    exact fin (.appOwn (ctx hc) hn (srcH_sound R hw.src) hw.len hw.leaf k1 (k2.trans hst) k4 (by rw [k3]; exact hend) hb hm) (r _ _).1 (r _ _).2 (hk _ (R.fresh m.fresh))
  | keep hc hn hw hs hbk hst hty hend hb hm hk =>
    subst hs; subst hty
    obtain ⟨k', k1, k2, k3, k4, _⟩ := R.blk hbk
    have r := fun o news => R.app (o := o) (news := news) hbk hst m.fresh k1 k2 k3 k4 true (fun h => nomatch h)
    exact fin (.appOwn (ctx hc) hn (srcH_sound R hw.src) hw.len hw.leaf k1 (k2.trans hst) k4 (by rw [k3]; exact hend) hb hm) (r _ _).1 (r _ _).2 (hk _ (R.fresh m.fresh))

theorem done_call {c : Call} {f : Operand} {g first cap} (R : HR Pr m h) (hf : c.callee = .value f) (hg : ev P e f = .fn g first cap)
    (hr : (Out.call g (first ++ c.args.toList.map (ev P e) ++ cap)).run P fl h K) : Done P Pr fl e m (.call c) K := by
  rcases hr with ⟨hfl, hw⟩ | hw | hw | ⟨v, hx, hk⟩
  · obtain ⟨v, m', h', h1, h2, h3, h4⟩ := hw m Pr R
    exact ⟨v, m', h', .call rfl hf hg h1 (fun h => by rw [hfl] at h; cases h), h2, h3, h4⟩
  · obtain ⟨v, m', h', h1, h2, h3, h5, h4⟩ := hw m Pr R
    exact ⟨v, m', h', .call rfl hf hg h1 (fun _ => h5), h2, h3, h4⟩
  · obtain ⟨v, m', h', h1, h2, h3, h4⟩ := hw m (fun b => m.blk b ≠ none) ⟨fun b hb => ⟨rfl, hb⟩, fun b k hb => by cases hb⟩
    have keep : ∀ b k, m.blk b = some k → m'.blk b = some k := fun b k hb => by rw [h3 b (by simp [hb])]; exact hb
    have apart : ∀ b, m.blk b ≠ none → h' b = none := fun b hb => (h2.pr b hb).1
    have dom : ∀ b, h b ≠ none → m.blk b ≠ none := fun b hb hm => hb (R.fresh hm)
    refine ⟨v, m', h.cat h', .call rfl hf hg h1 (fun _ b k hb hd => ⟨k, keep b k hb, hd, rfl, rfl⟩), ⟨fun b hb => ?_, fun b k hb => ?_⟩, fun b hb => h3 b (R.pr b hb).2, h4 fun b hb => apart b (dom b hb)⟩
    · obtain ⟨q1, q2⟩ := R.pr b hb
      refine ⟨by simp only [Heap.cat, apart b q2, q1], by rw [h3 b q2]; exact q2⟩
    · simp only [Heap.cat] at hb
      cases hh : h' b with
      | some kb =>
        rw [hh] at hb; simp at hb; subst hb
        obtain ⟨r1, k', r2, r3, r4, r5, r6⟩ := h2.rd b kb hh
        refine ⟨r1, k', r2, r3, r4, r5, fun a ha => ?_⟩
        rcases r6 a ha with ⟨y1, y2⟩ | ⟨y1, y2, y3⟩
        · refine .inl ⟨y1, ?_⟩
          simp only [Heap.cat]
          cases ha' : h' a with
          | some _ => simp
          | none => exact absurd ha' y2
        · refine .inr ⟨?_, fun hp => y2 (R.pr a hp).2, y3⟩
          have hma : m.blk a = none := by simpa using y2
          simp only [Heap.cat, y1]
          exact R.fresh hma
      | none =>
        rw [hh] at hb; simp at hb
        obtain ⟨r1, k', r2, r3, r4, r5, r6⟩ := R.rd b k hb
        refine ⟨r1, k', keep b k' r2, r3, r4, r5, fun a ha => ?_⟩
        rcases r6 a ha with ⟨y1, y2⟩ | ⟨y1, y2, y3⟩
        · refine .inl ⟨y1, ?_⟩
          simp only [Heap.cat, apart a (dom a y2)]
          exact y2
        · refine .inr ⟨by simp only [Heap.cat, apart a y3]; exact y1, y2, by rw [h3 a y3]; exact y3⟩
  · exact ⟨v, m, h, .ser m.fresh (.ext hf hg hx) fun _ => Ext.refl _, R, fun _ _ => rfl, hk⟩

theorem HR.same {b k} (R : HR Pr m h) (hb : h b = some k) (ho : k.st = .own) (ha : k.anc = []) {k'} (hk' : m.blk b = some k') (hst : k'.st = k.st) (hce : k'.cells = k.cells) (hty : k'.ety = k.ety) :
    HR Pr (sameIn m b k') (h.del b) ∧ ∀ c, Pr c → (sameIn m b k').blk c = m.blk c := by
  obtain ⟨R1, F1⟩ := R.store (o := 0) (cs := k'.cells) hb ho hk' hst hce hty
  rw [ha] at R1
  simp only [Heap.kill] at R1
  have nb : ¬ Pr b := fun hp => by have := (R.pr b hp).1; rw [hb] at this; cases this
  have at1 : ∀ c, c ≠ b → (sameIn m b k').blk c = (storeIn m b k' 0 k'.cells).blk c := fun c hc => by unfold sameIn; rw [Mem.blk_put, if_neg hc]
  have atb : (sameIn m b k').blk b ≠ none := by unfold sameIn; rw [Mem.blk_put, if_pos rfl]; simp
  have nn : ∀ a, (storeIn m b k' 0 k'.cells).blk a ≠ none → (sameIn m b k').blk a ≠ none := fun a hm => by
    by_cases hab : a = b
    · rw [hab]; exact atb
    · rw [at1 a hab]; exact hm
  refine ⟨⟨fun c hc => ?_, fun c kc hc => ?_⟩, fun c hc => ?_⟩
  · obtain ⟨q1, q2⟩ := R1.pr c hc
    have hcb : c ≠ b := by rintro rfl; exact nb hc
    simp only [Heap.upd, if_neg hcb] at q1
    exact ⟨by simp only [Heap.del, if_neg hcb]; exact q1, nn c q2⟩
  · simp only [Heap.del] at hc
    split at hc
    · cases hc
    · rename_i hcb
      obtain ⟨r1, k'', r2, r3, r4, r5, r6⟩ := R1.rd c kc (by simp only [Heap.upd, if_neg hcb]; exact hc)
      refine ⟨r1, k'', by rw [at1 c hcb]; exact r2, r3, r4, r5, fun a ha => ?_⟩
      by_cases hab : a = b
      · subst hab
        exact .inr ⟨by simp [Heap.del], nb, atb⟩
      · rcases r6 a ha with ⟨y1, y2⟩ | ⟨y1, y2, y3⟩
        · simp only [Heap.upd, if_neg hab] at y2
          exact .inl ⟨y1, by simp only [Heap.del, if_neg hab]; exact y2⟩
        · simp only [Heap.upd, if_neg hab] at y1
          exact .inr ⟨by simp only [Heap.del, if_neg hab]; exact y1, y2, nn a y3⟩
  · rw [at1 c (by rintro rfl; exact nb hc)]; exact F1 c hc

theorem loadF_sound {op v} (R : HR Pr m h) (hl : loadH P e (if fl then Heap.emp else h) op = some v) : loadA P e m op = some v ∧ (fl = true → ∀ m2, loadA P e m2 op = some v) := by
  have R0 : ∀ m2, HR (fun _ => False) m2 Heap.emp := fun m2 => ⟨fun b hb => hb.elim, fun b k hb => by cases hb⟩
  cases fl with
  | true => exact ⟨loadH_sound (R0 m) hl, fun _ m2 => loadH_sound (R0 m2) hl⟩
  | false => exact ⟨loadH_sound R hl, fun h => by cases h⟩
theorem stepO_sound {op} (R : HR Pr m h) (hr : (stepO P e (hOf fl op h) op).run P fl h K) : Done P Pr fl e m op K := by
  unfold stepO at hr
  split at hr
  · unfold sliceO at hr
    split at hr
    · exact done_V R (fun v hv => .inr (loadF_sound R hv)) hr
    · exact done_V R (fun v hv => .inl hv) hr
  · exact done_V R (fun v hv => .inr (loadF_sound R hv)) hr
  · exact done_A R hr
  · exact done_A R hr
  · exact done_A R hr
  · exact done_A R hr
  · unfold convO at hr
    split at hr
    · split at hr
      · exact done_A R hr
      · exact done_V R (fun v hv => .inl hv) hr
    · exact done_V R (fun v hv => .inl hv) hr
    · rename_i b o n z hx
      split at hr
      · split at hr
        · rename_i he
          obtain ⟨rfl, rfl, rfl⟩ := he
          obtain ⟨hfl, ti, et, ei, k, es, g1, g2, g3, g4, g5, g6, g7, g8, g9, g10, g11, g12⟩ := hr
          obtain ⟨k', k1, k2, k3, k4, _⟩ := R.blk g6
          obtain ⟨r1, r2⟩ := R.same g6 g7 g8 k1 k2 k3 k4
          exact ⟨_, _, _, .ser m.fresh (.same hx k1 (k2.trans g7) g1 g2 g3 g4 g5 (by rw [k3]; exact g9) g10 g11) (by simp [hfl]), r1, r2, g12⟩
        · exact hr.elim
      · exact done_V R (fun v hv => .inr (loadF_sound R hv)) hr
    · exact done_V R (fun v hv => .inr (loadF_sound R hv)) hr
  · unfold storeO at hr
    simp only [hOf] at hr
    split at hr
    · rename_i b o ha
      split at hr
      · rename_i k hk
        split at hr
        · rename_i ti hti
          obtain ⟨⟨h1, h0, h2, h3, h4⟩, h5, h6, h7⟩ := hr
          obtain ⟨k', k1, k2, k3, k4, _⟩ := R.blk hk
          obtain ⟨r1, r2⟩ := R.store (o := o) hk h1 k1 k2 k3 k4
          exact ⟨_, _, _, .ser m.fresh (.store ha k1 (k2.trans h1) hti h0 h2 h3 (by rw [k3]; exact h4)) (by simp [h5]), r1, r2, h7⟩
        · exact hr.elim
      · exact hr.elim
    · exact hr.elim
  · rename_i c
    unfold callB at hr
    split at hr
    · rename_i f hf
      unfold callO at hr
      split at hr
      · rename_i g first cap hg
        exact done_call R hf hg hr
      · exact hr.elim
    · rename_i hf
      unfold appO at hr
      split at hr
      · rename_i s x t u ha ht
        cases hu : tiOf P u with
        | none => simp [hu, Out.run] at hr
        | some ui =>
          simp only [hu, Option.map_some] at hr
          split at hr
          · rename_i w hw; simp at hw; exact done_app R hf ha ht hu (.inl ⟨w, hw⟩) hr
          · rename_i hw; simp at hw; exact done_app R hf ha ht hu (.inr hw) hr
          · exact hr.elim
      · exact hr.elim
    · exact done_V R (fun v hv => .inl hv) hr
  · exact done_V R (fun v hv => .inl hv) hr

theorem operO_sound {all o} (R : HR Pr m h) (hr : (operO P all o e (hOf fl o.op h)).run P fl h K) :
    ∃ v m1 h1, Act1 P (FInf P) all fl o e m v m1 ∧ HR Pr m1 h1 ∧ (∀ b, Pr b → m1.blk b = m.blk b) ∧ K v h1 := by
  unfold operO at hr
  split at hr
  · rename_i hg
    obtain ⟨v, m1, h1, k1, k2, k3, k4⟩ := stepO_sound R hr
    exact ⟨v, m1, h1, .step (by rw [hg]; rfl) k1, k2, k3, k4⟩
  · rename_i j want hg
    split at hr
    · rename_i hd
      refine ⟨.undef, m, h, .skip ?_, R, fun _ _ => rfl, hr⟩
      rw [hg]; simp only [guardA]
      rw [← Array.getElem?_toList, hd]
    · rename_i d hd
      have hga : guardA all e o.guard = match e d with
          | .bool b => some (b == want)
          | .tup [] => some false
          | _ => none := by
        rw [hg]; simp only [guardA]
        rw [← Array.getElem?_toList, hd]
        rfl
      unfold gdO at hr
      split at hr
      · rename_i b hb
        rw [hb] at hga
        split at hr
        · rename_i hw
          subst hw
          obtain ⟨v, m1, h1, k1, k2, k3, k4⟩ := stepO_sound R hr
          exact ⟨v, m1, h1, .step (by rw [hga]; simp) k1, k2, k3, k4⟩
        · rename_i hw
          exact ⟨.undef, m, h, .skip (by rw [hga]; simp [hw]), R, fun _ _ => rfl, hr⟩
      · rename_i hb
        rw [hb] at hga
        exact ⟨.undef, m, h, .skip hga, R, fun _ _ => rfl, hr⟩
      · exact hr.elim
end

theorem clsOf_app {P} {c : Call} (h : c.callee = .builtin .append) : clsOf P (.call c) = .ser := by
  obtain ⟨callee, args, tys⟩ := c; simp only at h; subst h; rfl
theorem Step.flag {P F b b' e m o v m1} (h : Step P F b e m o v m1) (hc : clsOf P o ≠ .ser) (hd : clsOf P o ≠ .lod) : Step P F b' e m o v m1 := by
  cases h with
  | pur h => exact .pur h
  | lod h => exact absurd (loadA_cls h) hd
  | alc h1 h2 => exact .alc h1 h2
  | ser h1 h2 h3 =>
    exfalso
    cases h2 with
    | store => exact hc rfl
    | same hx hk hst ht hds hei hu hn hcc hl hel => exact hc (SerR_cls (SerR.same (b' := m.next) hx hk hst ht hds hei hu hn hcc hl hel))
    | ext hcal hfn hx => exact hc (SerR_cls (SerR.ext (m := m) (b' := m.next) hcal hfn hx))
    | app0 hx => exact hc (clsOf_app hx.callee)
    | app00 hx => exact hc (clsOf_app hx.callee)
    | appNil hx => exact hc (clsOf_app hx.callee)
    | appOwn hx => exact hc (clsOf_app hx.callee)
  | call h1 h2 h3 h4 h5 =>
    exfalso
    subst h1
    rename_i c _ _ _ _
    obtain ⟨callee, args, tys⟩ := c
    cases h2
    exact hc rfl

/-- The operations that stand at the places of l, with their marks. -/
inductive Match (P : Program) (all : Array Oper) (fl : Nat → Bool) : List Nat → List (Oper × Bool) → Prop
  | nil : Match P all fl [] []
  | cons {i o l its b} (h : all[i]? = some o) (hb : fl i = b ∨ (clsOf P o.op ≠ .ser ∧ clsOf P o.op ≠ .lod)) (k : Match P all fl l its) : Match P all fl (i :: l) ((o, b) :: its)


theorem gO_sound {P all fl Pr} : ∀ {l its e h k m}, Match P all fl l its → HR Pr m h → gO P all its e h k →
    ∃ e' m' h', EvO P (FInf P) all fl l e m e' m' ∧ HR Pr m' h' ∧ (∀ b, Pr b → m'.blk b = m.blk b) ∧ k e' h'
  | _, _, e, h, k, m, .nil, R, hg => ⟨e, m, h, .nil, R, fun _ _ => rfl, hg⟩
  | _, _, e, h, k, m, .cons ho hb hm, R, hg => by
    simp only [gO] at hg
    obtain ⟨v, m1, h1, k1, k2, k3, k4⟩ := operO_sound R hg
    obtain ⟨e', m', h', r1, r2, r3, r4⟩ := gO_sound hm k2 k4
    refine ⟨e', m', h', .cons ho ?_ r1, r2, fun b hp => (r3 b hp).trans (k3 b hp), r4⟩
    rcases hb with hb | hb
    · exact hb ▸ k1
    · cases k1 with
      | skip h => exact .skip h
      | step h h2 => exact .step h (h2.flag hb.1 hb.2)

def itemsOf : List Oper → List (Oper × Bool)
  | [] => []
  | o :: os => (o, false) :: itemsOf os

theorem Match_items (P : Program) (all : Array Oper) (fl : Nat → Bool) : ∀ (n : Nat) (os : List Oper), (∀ i, all[n + i]? = os[i]?) → (∀ i, i < os.length → fl (n + i) = false) →
    Match P all fl (List.range' n os.length) (itemsOf os)
  | n, [], h, hf => .nil
  | n, o :: os, h, hf => by
    refine .cons (by simpa using h 0) (.inl (by simpa using hf 0 (by simp))) (Match_items P all fl (n + 1) os (fun i => ?_) fun i hi => ?_)
    · have := h (i + 1); rw [show n + 1 + i = n + (i + 1) by omega, this]; simp
    · have := hf (i + 1) (by simpa using hi); rw [show n + 1 + i = n + (i + 1) by omega]; exact this

theorem Match_all (P : Program) (all : Array Oper) (fl : Nat → Bool) (hf : ∀ i, i < all.size → fl i = false) : Match P all fl (List.range all.size) (itemsOf all.toList) := by
  rw [List.range_eq_range']
  have := Match_items P all fl 0 all.toList (fun i => by simp) (fun i hi => by simpa using hf i (by simpa using hi))
  simpa using this

/-- The operations of a region in the order π, with their marks as bs has them. -/
def itemsAt (os : List Oper) : List Nat → List Bool → List (Oper × Bool)
  | [], _ => []
  | i :: l, bs => match os[i]? with
    | some o => (o, bs.headD false) :: itemsAt os l bs.tail
    | none => []

def flagsOk (P : Program) (os : List Oper) (f : Nat → Bool) : List Nat → List Bool → Bool
  | [], _ => true
  | i :: l, bs => (f i == bs.headD false || (match os[i]? with
    | some o => clsOf P o.op != .ser && clsOf P o.op != .lod
    | none => false)) && flagsOk P os f l bs.tail

def inB (n : Nat) : List Nat → Bool
  | [] => true
  | i :: l => decide (i < n) && inB n l

theorem Match_at (P : Program) (all : Array Oper) (fl : Nat → Bool) : ∀ (l : List Nat) (bs : List Bool), inB all.size l = true → flagsOk P all.toList fl l bs = true → Match P all fl l (itemsAt all.toList l bs)
  | [], bs, _, _ => .nil
  | i :: l, bs, h1, h2 => by
    simp only [inB, Bool.and_eq_true, decide_eq_true_eq] at h1
    have hi : all.toList[i]? = some all[i] := by simp [h1.1]
    simp only [flagsOk, Bool.and_eq_true, Bool.or_eq_true, beq_iff_eq, hi, bne_iff_ne] at h2
    simp only [itemsAt, hi]
    exact .cons (by simp [h1.1]) h2.1 (Match_at P all fl l bs.tail h1.2 h2.2)


def pickL (ds : List Nat) (e : Env) : List (Nat × AV) := match ds with
  | [] => []
  | d :: ds => (d, e d) :: pickL ds e

theorem pickL_weak (e : Env) : ∀ (ds : List Nat) (i : Nat), lk (pickL ds e) i = e i ∨ lk (pickL ds e) i = .any
  | [], i => .inr rfl
  | d :: ds, i => by
    simp only [pickL, lk]
    split
    · subst_vars; exact .inl rfl
    · exact pickL_weak e ds i

theorem Weak.env {e m e'} (h : ∀ i, e' i = e i ∨ e' i = .any) : Weak e m e' m :=
  ⟨⟨fun _ => none, fun _ => False, fun b cs h => (nomatch h), fun b h => h.elim, fun i => by rcases h i with h | h <;> rw [h]; exact .refl _; exact .any _,
    fun b k' hk hd => .inr ⟨k', hk, rfl, rfl, fun a ha => .inl ha, rfl, fun i c d h1 h2 => by rw [h1] at h2; cases h2; exact .refl _⟩⟩, fun _ h => h⟩

section
variable {P : Program} {cs : List Code} {L : List (Nat × AV)} {e : Env} {h : Heap} {K : Ex → Env → Heap → Prop}

theorem wpL_nil (hk : K .normal e h) : wpL P [] e h K := fun m Pr R => ⟨_, _, _, h, .nil, R, fun _ _ => rfl, hk⟩
theorem wpL_seq {a b} (hw : wpL P (a :: b :: cs) e h K) : wpL P (.seq a b :: cs) e h K := fun m Pr R =>
  let ⟨x, e', m', h', k1, k2⟩ := hw m Pr R; ⟨x, e', m', h', k1.seq, k2⟩
theorem wpL_code0 {c} (hw : wpL P cs e h K) (hc : ∀ m, EvC P (FInf P) c e m .normal e m) : wpL P (c :: cs) e h K := fun m Pr R =>
  let ⟨x, e', m', h', k1, k2⟩ := hw m Pr R; ⟨x, e', m', h', .cons_n (hc m) k1, k2⟩
theorem wpL_skip (hw : wpL P cs e h K) : wpL P (.skip :: cs) e h K := wpL_code0 hw fun _ => .skip
theorem wpL_label {l} (hw : wpL P cs e h K) : wpL P (.label l :: cs) e h K := wpL_code0 hw fun _ => .label
theorem wpL_scope {c} (hw : wpL P (c :: cs) e h K) : wpL P (.scope c :: cs) e h K := fun m Pr R =>
  let ⟨x, e', m', h', k1, k2⟩ := hw m Pr R; ⟨x, e', m', h', k1.scope, k2⟩
theorem wpL_ret (hk : K .ret e h) : wpL P (.ret :: cs) e h K := fun m Pr R => ⟨_, _, _, h, .cons_x .ret (by simp), R, fun _ _ => rfl, hk⟩
theorem wpL_exit {id} (hk : K (.exit id) e h) : wpL P (.exit id :: cs) e h K := fun m Pr R => ⟨_, _, _, h, .cons_x .exit (by simp), R, fun _ _ => rfl, hk⟩

theorem EvL.cond {P F c a b cs e m x e' m'} {t : Bool} (hc : ev P e c = .bool t) (h : EvL P F ((if t then a else b) :: cs) e m x e' m') : EvL P F (.cond c a b :: cs) e m x e' m' ∨
    ∃ e1 m1, Weak e m e1 m1 := by
  cases h with
  | cons_n h k => exact .inl (.cons_n (.cond hc h) k)
  | cons_x h hx => exact .inl (.cons_x (.cond hc h) hx)
  | weak hw k => exact .inr ⟨_, _, hw⟩

/-- A list's first code: with what stands for it. -/
theorem EvL.head {P F c c' cs e m x e' m'} (hc : ∀ x e' m', EvC P F c' e m x e' m' → EvC P F c e m x e' m') (h : EvL P F (c' :: cs) e m x e' m') : EvL P F (c :: cs) e m x e' m' := by
  have key : ∀ {l e m x e' m'}, EvL P F l e m x e' m' → l = c' :: cs → ∀ {e0 m0}, (∀ x e' m', EvC P F c' e m x e' m' → EvC P F c e0 m0 x e' m') → EvL P F (c :: cs) e0 m0 x e' m' := by
    intro l e m x e' m' h
    induction h with
    | nil => intro h; cases h
    | cons_n h k => intro hl; cases hl; exact fun hh => .cons_n (hh _ _ _ h) k
    | cons_x h hx => intro hl; cases hl; exact fun hh => .cons_x (hh _ _ _ h) hx
    | weak hw _ ih => exact fun hl _ _ hh => ih hl fun x e' m' hk => hh x e' m' (.weakL hw hk)
  exact key h rfl hc

theorem wpL_cond {c a b t} (hc : ev P e c = .bool t) (h1 : t = true → wpL P (a :: cs) e h K) (h2 : t = false → wpL P (b :: cs) e h K) : wpL P (.cond c a b :: cs) e h K := fun m Pr R => by
  cases t with
  | true =>
    obtain ⟨x, e', m', h', k1, k2⟩ := h1 rfl m Pr R
    exact ⟨x, e', m', h', k1.head fun x e' m' h => .cond hc h, k2⟩
  | false =>
    obtain ⟨x, e', m', h', k1, k2⟩ := h2 rfl m Pr R
    exact ⟨x, e', m', h', k1.head fun x e' m' h => .cond hc h, k2⟩

theorem wpL_block {id c} (hw : ∀ k : Ex → Env → Heap → Prop, (∀ e h, wpL P cs e h K → k .normal e h) → (∀ e h, wpL P cs e h K → k (.exit id) e h) →
    (∀ x e h, x ≠ .normal → x ≠ .exit id → K x e h → k x e h) → wpL P [c] e h k) : wpL P (.block id c :: cs) e h K := fun m Pr R => by
  obtain ⟨x, e', m', h', k1, k2, k3, hk⟩ := hw (fun x e h => ((x = .normal ∨ x = .exit id) ∧ wpL P cs e h K) ∨ (x ≠ .normal ∧ x ≠ .exit id ∧ K x e h)) (fun e h hk => .inl ⟨.inl rfl, hk⟩)
    (fun e h hk => .inl ⟨.inr rfl, hk⟩) (fun x e h h1 h2 hk => .inr ⟨h1, h2, hk⟩) m Pr R
  have hc := k1.one
  rcases hk with ⟨hx, hk⟩ | ⟨h1, h2, hk⟩
  · obtain ⟨x2, e2, m2, h2, r1, r2, r3, r4⟩ := hk m' Pr k2
    refine ⟨x2, e2, m2, h2, .cons_n (e1 := e') (m1 := m') ?_ r1, r2, fun b hp => (r3 b hp).trans (k3 b hp), r4⟩
    have := EvC.block (id := id) hc
    rcases hx with rfl | rfl
    · rw [if_neg (by simp)] at this; exact this
    · rw [if_pos rfl] at this; exact this
  · refine ⟨x, e', m', h', .cons_x ?_ h1, k2, k3, hk⟩
    have := EvC.block (id := id) hc
    rw [if_neg h2] at this; exact this

theorem wpL_loop {c} (I : Nat → Env → Heap → Prop) (n : Nat) (h0 : I n e h)
    (hs : ∀ j e h, I j e h → ∀ k : Ex → Env → Heap → Prop, (∀ j' e' h', j' < j → I j' e' h' → k .normal e' h') → (∀ x e h, x ≠ .normal → K x e h → k x e h) → wpL P [c] e h k) :
    wpL P (.loop c :: cs) e h K := fun m Pr R => by
  have : ∀ n e h m, I n e h → HR Pr m h → ∃ x e' m' h', EvC P (FInf P) (.loop c) e m x e' m' ∧ HR Pr m' h' ∧ (∀ b, Pr b → m'.blk b = m.blk b) ∧ x ≠ .normal ∧ K x e' h' := by
    intro n
    induction n using Nat.strongRecOn with
    | _ n ih =>
      intro e h m hI R
      obtain ⟨x, e', m', h', k1, k2, k3, hk⟩ := hs n e h hI (fun x e' h' => (x = .normal ∧ ∃ j < n, I j e' h') ∨ (x ≠ .normal ∧ K x e' h'))
        (fun j e h hj hk => .inl ⟨rfl, j, hj, hk⟩) (fun x e h hx hk => .inr ⟨hx, hk⟩) m Pr R
      have hc := k1.one
      rcases hk with ⟨rfl, j, hj, hI'⟩ | ⟨hx, hk⟩
      · obtain ⟨x2, e2, m2, h2, r1, r2, r3, r4, r5⟩ := ih j hj e' h' m' hI' k2
        exact ⟨x2, e2, m2, h2, .loop_n hc r1, r2, fun b hp => (r3 b hp).trans (k3 b hp), r4, r5⟩
      · exact ⟨x, e', m', h', .loop_x hc hx, k2, k3, hx, hk⟩
  obtain ⟨x, e', m', h', r1, r2, r3, r4, r5⟩ := this n e h m h0 R
  exact ⟨x, e', m', h', .cons_x r1 r4, r2, r3, r5⟩

theorem wpL_region {id ops} (ds : List Nat) (hk : ∀ k : Env → Heap → Prop, (∀ e h, wpL P cs (lk (pickL ds e)) h K → k e h) → gO P ops (itemsOf ops.toList) e h k) :
    wpL P (.region id ops false :: cs) e h K := fun m Pr R => by
  obtain ⟨e', m', h', k1, k2, k3, k4⟩ := gO_sound (Match_all P ops fl0 fun _ _ => rfl) R (hk (fun e h => wpL P cs (lk (pickL ds e)) h K) fun e h hk => hk)
  obtain ⟨x2, e2, m2, h2, r1, r2, r3, r4⟩ := k4 m' Pr k2
  exact ⟨x2, e2, m2, h2, .cons_n (.weak (.region k1) (Weak.env (pickL_weak e' ds))) r1, r2, fun b hp => (r3 b hp).trans (k3 b hp), r4⟩

/-- A region that draws its order: the order π will do, the marks being bs. -/
theorem wpL_draw {id ops} (ds : List Nat) (π R : List Nat) (bs : List Bool) (hok : drawOk P ops π = true) (hin : inB ops.size π = true) (hfl : flagsOk P ops.toList (flOf P ops (tabOf ops [] π) R π) π bs = true)
    (hk : ∀ k : Env → Heap → Prop, (∀ e h, wpL P cs (lk (pickL ds e)) h K → k e h) → gO P ops (itemsAt ops.toList π bs) e h k) : wpL P (.region id ops true :: cs) e h K := fun m Pr RH => by
  obtain ⟨e', m', h', k1, k2, k3, k4⟩ := gO_sound (Match_at P ops _ π bs hin hfl) RH (hk (fun e h => wpL P cs (lk (pickL ds e)) h K) fun e h hk => hk)
  obtain ⟨x2, e2, m2, h2, r1, r2, r3, r4⟩ := k4 m' Pr k2
  exact ⟨x2, e2, m2, h2, .cons_n (.weak (.draw π R hok k1) (Weak.env (pickL_weak e' ds))) r1, r2, fun b hp => (r3 b hp).trans (k3 b hp), r4⟩

/-- Said more weakly. -/
theorem wpL_pick (ds : List Nat) (hk : wpL P cs (lk (pickL ds e)) h K) : wpL P cs e h K := fun m Pr R =>
  let ⟨x, e', m', h', k1, k2⟩ := hk m Pr R; ⟨x, e', m', h', .weak (Weak.env (pickL_weak e ds)) k1, k2⟩
theorem wpL_env {e1 : Env} (hw : ∀ i, Wk (fun _ => none) (fun _ => False) (e i) (e1 i)) (hk : wpL P cs e1 h K) : wpL P cs e h K := fun m Pr R =>
  let ⟨x, e', m', h', k1, k2⟩ := hk m Pr R
  have W : Weak e m e1 m := ⟨⟨fun _ => none, fun _ => False, fun b cs h => (nomatch h), fun b h => h.elim, hw,
    fun b k' hk hd => .inr ⟨k', hk, rfl, rfl, fun a ha => .inl ha, rfl, fun i c d h1 h2 => by rw [h1] at h2; cases h2; exact .refl _⟩⟩, fun _ h => h⟩
  ⟨x, e', m', h', .weak W k1, k2⟩

/-- Blocks left. -/
theorem HR.sub {Pr m h h'} (R : HR Pr m h) (hs : ∀ b k, h' b = some k → h b = some k) : HR Pr m h' := by
  refine ⟨fun b hb => ⟨?_, (R.pr b hb).2⟩, fun b k hb => ?_⟩
  · cases hh : h' b with
    | none => rfl
    | some k => have := hs b k hh; rw [(R.pr b hb).1] at this; cases this
  · obtain ⟨r1, k', r2, r3, r4, r5, r6⟩ := R.rd b k (hs b k hb)
    refine ⟨r1, k', r2, r3, r4, r5, fun a ha => ?_⟩
    by_cases hz : h' a = none
    · rcases r6 a ha with ⟨y1, y2⟩ | ⟨y1, y2, y3⟩
      · exact .inr ⟨hz, fun hp => y2 (R.pr a hp).1, fun hm => y2 (R.fresh hm)⟩
      · exact .inr ⟨hz, y2, y3⟩
    · rcases r6 a ha with ⟨y1, y2⟩ | ⟨y1, y2, y3⟩
      · exact .inl ⟨y1, hz⟩
      · exfalso
        cases hh : h' a with
        | none => exact hz hh
        | some ka => have := hs a ka hh; rw [y1] at this; cases this
theorem wpL_sub {h' : Heap} (hs : ∀ b k, h' b = some k → h b = some k) (hk : wpL P cs e h' K) : wpL P cs e h K := fun m Pr R => hk m Pr (R.sub hs)
theorem wpL_del (b : Nat) (hk : wpL P cs e (h.del b) K) : wpL P cs e h K := wpL_sub (fun c k hc => by
  simp only [Heap.del] at hc
  split at hc
  · cases hc
  · exact hc) hk

/-- A block that is written no more. -/
theorem HR.freeze {e1 : Env} {h1 : Heap} {b : Nat} {k : Blk} {m Pr} (R : HR Pr m h) (hb : h b = some k) (ho : k.st = .own)
    (hw : ∀ i, Wk (fun x => if x = b then some k.cells else none) (fun _ => False) (e i) (e1 i)) (hb1 : h1 b = none)
    (hh : ∀ c kc', h1 c = some kc' → ∃ kc, h c = some kc ∧ kc'.st = kc.st ∧ kc'.ety = kc.ety ∧ kc'.anc = kc.anc ∧ kc.cells.length = kc'.cells.length ∧
      ∀ (i : Nat) (x y : AV), kc.cells[i]? = some x → kc'.cells[i]? = some y → Wk (fun x => if x = b then some k.cells else none) (fun _ => False) x y) :
    ∃ m1, Weak e m e1 m1 ∧ HR Pr m1 h1 ∧ ∀ c, Pr c → m1.blk c = m.blk c := by
  obtain ⟨kb, b1, b2, b3, b4, b5⟩ := R.blk hb
  have pb : ¬ Pr b := fun hp => by have := (R.pr b hp).1; rw [hb] at this; cases this
  -- the memory: the blocks of h1 with their cells, b dead
  let f : Nat → Option Blk := fun x => if x = b then some { kb with st := .dead } else match h1 x, m.blk x with
    | some k1, some kx => some { kx with cells := k1.cells }
    | _, z => z
  have ffin : ∀ x, m.next ≤ x → f x = none := by
    intro x hx
    have hm := m.fin x hx
    simp only [f]
    rw [if_neg (by rintro rfl; rw [hm] at b1; cases b1), hm]
    cases h1 x <;> rfl
  let m1 : Mem := ⟨f, m.next, ffin⟩
  have fb : m1.blk b = some { kb with st := .dead } := by show f b = _; simp [f]
  have fn : ∀ x, x ≠ b → h1 x = none → m1.blk x = m.blk x := fun x hx h1x => by show f x = _; simp only [f, if_neg hx, h1x]
  have fs : ∀ x k1 kx, x ≠ b → h1 x = some k1 → m.blk x = some kx → m1.blk x = some { kx with cells := k1.cells } := fun x k1 kx hx h1x hm => by show f x = _; simp only [f, if_neg hx, h1x, hm]
  have fnn : ∀ x, m.blk x ≠ none → m1.blk x ≠ none := fun x hx => by
    by_cases h : x = b
    · subst h; rw [fb]; simp
    · cases h1x : h1 x with
      | none => rw [fn x h h1x]; exact hx
      | some k1 =>
        cases hm : m.blk x with
        | none => exact absurd hm hx
        | some kx => rw [fs x k1 kx h h1x hm]; simp
  have R1 : HR Pr m1 h1 := by
    refine ⟨fun c hc => ⟨?_, fnn c (R.pr c hc).2⟩, fun c kc' hc => ?_⟩
    · cases hz : h1 c with
      | none => rfl
      | some k1 => obtain ⟨kc, hkc, _⟩ := hh c k1 hz; rw [(R.pr c hc).1] at hkc; cases hkc
    · obtain ⟨kc, e1, e2, e3, e4, e5, e6⟩ := hh c kc' hc
      obtain ⟨r1, k', r2, r3, r4, r5, r6⟩ := R.rd c kc e1
      have hcb : c ≠ b := by rintro rfl; rw [hb1] at hc; cases hc
      refine ⟨by rw [e2]; exact r1, _, fs c kc' k' hcb hc r2, by rw [e2]; exact r3, rfl, by rw [e3]; exact r5, fun a ha => ?_⟩
      by_cases hz : h1 a = none
      · rcases r6 a ha with ⟨y1, y2⟩ | ⟨y1, y2, y3⟩
        · exact .inr ⟨hz, fun hp => y2 (R.pr a hp).1, fnn a fun hm => y2 (R.fresh hm)⟩
        · exact .inr ⟨hz, y2, fnn a y3⟩
      · rcases r6 a ha with ⟨y1, y2⟩ | ⟨y1, y2, y3⟩
        · exact .inl ⟨by rw [e4]; exact y1, hz⟩
        · exfalso
          cases hq : h1 a with
          | none => exact hz hq
          | some ka => obtain ⟨_, q, _⟩ := hh a ka hq; rw [y1] at q; cases q
  have W : Weak e m e1 m1 := by
    refine ⟨⟨_, _, fun c cs' hc => ?_, fun c h => h.elim, hw, fun c kc' hc hd => .inr ?_⟩, fun c hc => ?_⟩
    · by_cases hcb : c = b
      · subst hcb
        simp only [if_true] at hc
        cases hc
        exact ⟨kb, b1, b3, .inl (b2.trans ho), fun _ k' hk' => by rw [fb] at hk'; cases hk'; rfl⟩
      · simp only [if_neg hcb] at hc; cases hc
    · by_cases hcb : c = b
      · subst hcb; rw [fb] at hc; cases hc; exact absurd rfl hd
      · cases h1c : h1 c with
        | none =>
          rw [fn c hcb h1c] at hc
          exact ⟨kc', hc, rfl, rfl, fun a ha => .inl ha, rfl, fun i x y h1 h2 => by rw [h1] at h2; cases h2; exact .refl _⟩
        | some k1 =>
          obtain ⟨kc, e1, e2, e3, e4, e5, e6⟩ := hh c k1 h1c
          obtain ⟨k', r2, r3, r4, r5, _⟩ := R.blk e1
          rw [fs c k1 k' hcb h1c r2] at hc
          cases hc
          exact ⟨k', r2, rfl, rfl, fun a ha => .inl ha, by rw [r4]; exact e5, fun i x y h1 h2 => e6 i x y (by rw [← r4]; exact h1) h2⟩
    · cases hm : m.blk c with
      | none => rfl
      | some kc => exact absurd hc (fnn c (by rw [hm]; simp))
  refine ⟨m1, W, R1, fun c hc => ?_⟩
  have h1c : h1 c = none := by
    cases hz : h1 c with
    | none => rfl
    | some kz => obtain ⟨kc, hkc, _⟩ := hh c kz hz; rw [(R.pr c hc).1] at hkc; cases hkc
  exact fn c (by rintro rfl; exact pb hc) h1c
theorem wpL_freeze {e1 : Env} {h1 : Heap} {b : Nat} {k : Blk} (hb : h b = some k) (ho : k.st = .own)
    (hw : ∀ i, Wk (fun x => if x = b then some k.cells else none) (fun _ => False) (e i) (e1 i)) (hb1 : h1 b = none)
    (hh : ∀ c kc', h1 c = some kc' → ∃ kc, h c = some kc ∧ kc'.st = kc.st ∧ kc'.ety = kc.ety ∧ kc'.anc = kc.anc ∧ kc.cells.length = kc'.cells.length ∧
      ∀ (i : Nat) (x y : AV), kc.cells[i]? = some x → kc'.cells[i]? = some y → Wk (fun x => if x = b then some k.cells else none) (fun _ => False) x y)
    (hk : wpL P cs e1 h1 K) : wpL P cs e h K := fun m Pr R => by
  obtain ⟨m1, W, R1, F1⟩ := R.freeze hb ho hw hb1 hh
  obtain ⟨x, e', m', h', k1, k2, k3, k4⟩ := hk m1 Pr R1
  exact ⟨x, e', m', h', .weak W k1, k2, fun c hc => (k3 c hc).trans (F1 c hc), k4⟩

/-- A nil slice in a slot, taken as a slice of no elements that can grow. -/
theorem wpL_vec (t : Nat) (s : Nat) (ty : TypeId) (ht : e t = .snil) (hk : ∀ b, h b = none → wpL P cs (Am.put e t (.sl b 0 0 s)) (h.put b ⟨.own, [], ty, []⟩) K) : wpL P cs e h K := fun m Pr R => by
  have hb := m.fresh
  obtain ⟨x, e', m', h', k1, k2, k3, k4⟩ := hk m.next (R.fresh hb) (m.put m.next ⟨.own, [], ty, []⟩) Pr (R.put hb rfl rfl)
  refine ⟨x, e', m', h', .weak ⟨⟨fun _ => none, fun c => c = m.next, fun b cs h => (nomatch h), fun c hc => ?_, fun i => ?_, fun c kc hc hd => ?_⟩, fun c hc => ?_⟩ k1, k2, fun c hc => (k3 c hc).trans (frame_put R hb c hc), k4⟩
  · subst hc; exact ⟨hb, ty, by simp⟩
  · simp only [Am.put]
    split
    · rename_i hi; subst hi; rw [ht]; exact .nil0 rfl
    · exact .refl _
  · rw [Mem.blk_put] at hc
    split at hc
    · exact .inl (by assumption)
    · exact .inr ⟨kc, hc, rfl, rfl, fun a ha => .inl ha, rfl, fun i c d h1 h2 => by rw [h1] at h2; cases h2; exact .refl _⟩
  · rw [Mem.blk_put] at hc
    split at hc
    · cases hc
    · exact hc

theorem wpL_condK {c a b t} (hc : ev P e c = .bool t) (hw : ∀ k : Ex → Env → Heap → Prop, (∀ e h, wpL P cs e h K → k .normal e h) → (∀ x e h, x ≠ .normal → K x e h → k x e h) →
    (t = true → wpL P [a] e h k) ∧ (t = false → wpL P [b] e h k)) : wpL P (.cond c a b :: cs) e h K := fun m Pr R => by
  obtain ⟨h1, h2⟩ := hw (fun x e h => (x = .normal ∧ wpL P cs e h K) ∨ (x ≠ .normal ∧ K x e h)) (fun e h hk => .inl ⟨rfl, hk⟩) (fun x e h hx hk => .inr ⟨hx, hk⟩)
  have : wpL P [.cond c a b] e h (fun x e h => (x = .normal ∧ wpL P cs e h K) ∨ (x ≠ .normal ∧ K x e h)) := wpL_cond hc h1 h2
  obtain ⟨x, e', m', h', k1, k2, k3, k4⟩ := this m Pr R
  rcases k4 with ⟨rfl, k4⟩ | ⟨hx, k4⟩
  · obtain ⟨x2, e2, m2, h2', r1, r2, r3, r4⟩ := k4 m' Pr k2
    exact ⟨x2, e2, m2, h2', .cons_n k1.one r1, r2, fun b hp => (r3 b hp).trans (k3 b hp), r4⟩
  · exact ⟨x, e', m', h', .cons_x k1.one hx, k2, k3, k4⟩

theorem resH {e : Env} {m Pr h'} (R : HR Pr m h') {rs v} (hr : resA P rs e m = some v) : resA P rs e m = some v := hr

/-- What a function answers, read out of slots and blocks. -/
def resOneH (P : Program) (e : Env) (h : Heap) : ResultVar → Option AV
  | .tmp t => some (e t)
  | .cell a t => match e a with
    | .ptr b o => (h b).bind fun k => (tiOf P t).bind fun ti => partA ti k.cells o
    | _ => none
def resListH (P : Program) (e : Env) (h : Heap) : List ResultVar → Option (List AV)
  | [] => some []
  | r :: rs => (resOneH P e h r).bind fun v => (resListH P e h rs).bind fun vs => some (v :: vs)
def resAH (P : Program) (rs : List ResultVar) (e : Env) (h : Heap) : Option AV :=
  (resListH P e h rs).bind fun vs => match vs with
    | [v] => some v
    | vs => some (.tup vs)

theorem resOneH_sound {e : Env} {m Pr h r v} (R : HR Pr m h) (hr : resOneH P e h r = some v) : resOne P e m r = some v := by
  cases r with
  | tmp t => exact hr
  | cell a t =>
    simp only [resOneH, resOne] at hr ⊢
    generalize e a = z at hr ⊢
    cases z <;> simp only [reduceCtorEq] at hr ⊢
    rename_i b o
    cases hk : h b with
    | none => simp [hk] at hr
    | some k =>
      obtain ⟨k', h1, h2, h3, h4, h5⟩ := R.blk hk
      simp only [hk, Option.bind_some] at hr
      simp only [h1, Option.bind_some, h3]
      rw [guardO, if_pos h5]; exact hr
theorem resListH_sound {e : Env} {m Pr h} (R : HR Pr m h) : ∀ {rs vs}, resListH P e h rs = some vs → resList P e m rs = some vs
  | [], vs, hr => hr
  | r :: rs, vs, hr => by
    simp only [resListH, resList, Option.bind_eq_some_iff] at hr ⊢
    obtain ⟨v, h1, us, h2, h3⟩ := hr
    exact ⟨v, resOneH_sound R h1, us, resListH_sound R h2, h3⟩
theorem resAH_sound {e : Env} {m Pr h rs v} (R : HR Pr m h) (hr : resAH P rs e h = some v) : resA P rs e m = some v := by
  simp only [resAH, resA, Option.bind_eq_some_iff] at hr ⊢
  obtain ⟨vs, h1, h2⟩ := hr
  exact ⟨vs, resListH_sound R h1, h2⟩

theorem EvL.fin {P cs e m x e' m'} (h : EvL P (FInf P) cs e m x e' m') : ∀ c, cs = [c] → ∃ d, EvC P (EvF P d) c e m x e' m' := by
  intro c hc; subst hc; exact h.one.fin

theorem wpH_intro {f fn c args} {K : AV → Heap → Prop} (hf : P.funcs[f]? = some fn) (hb : fn.body = some c) (hn : fn.name ≠ "runtime.NumGoroutine") (hd : dstOk fn.ntmps c = true)
    (hw : ∀ k : Ex → Env → Heap → Prop, (∀ x e h' v, (x = .normal ∨ x = .ret) → resAH P fn.results.toList e h' = some v → K v h' → k x e h') → wpL P [c] (lk (argL 0 args)) h k) :
    wpH P f args h K := fun m Pr R => by
  obtain ⟨x, e', m', h', k1, k2, k3, hx, v, k4, k5⟩ := hw (fun x e h' => (x = .normal ∨ x = .ret) ∧ ∃ v, resAH P fn.results.toList e h' = some v ∧ K v h') (fun x e h' v h1 h2 h3 => ⟨h1, v, h2, h3⟩) m Pr R
  obtain ⟨d, hc⟩ := k1.fin c rfl
  exact ⟨v, m', h', ⟨d + 1, m', v, .inl ⟨fn, c, x, e', hf, hb, hn, hd, hc, hx, resAH_sound k2 k4⟩, .refl⟩, k2, k3, k5⟩
end

theorem FInf.weak {P f args m v m' v1 m1} (h : FInf P f args m v m') (hw : Weak (lk [(0, v)]) m' (lk [(0, v1)]) m1) : FInf P f args m v1 m1 := by
  obtain ⟨d, h⟩ := h
  cases d with
  | zero => exact h.elim
  | succ d =>
    obtain ⟨m2, v2, h1, h8⟩ := h
    exact ⟨d + 1, m2, v2, h1, h8.trans (.step hw .refl)⟩

/-! ### Borrowing -/

theorem FInf.borrow {P f args args1 m v m1} (hw : WkArgs m.view args args1) (h : FInf P f args1 m.shut v m1) (hv : v.noI = true) : FInf P f args m v (m.back m1) := by
  obtain ⟨d, h⟩ := h
  exact ⟨d + 1, _, v, .inr ⟨args1, m1, hw, h, hv, rfl⟩, .refl⟩

/-- What stands in the blocks of h. -/
def Heap.view (h : Heap) : Nat → Option (List AV) := fun b => (h b).map Blk.cells
theorem HR.view {Pr m h} (R : HR Pr m h) : ∀ b cs, h.view b = some cs → m.view b = some cs := fun b cs hb => by
  simp only [Heap.view, Option.map_eq_some_iff] at hb
  obtain ⟨k, hk, rfl⟩ := hb
  obtain ⟨r1, k', r2, r3, r4, _⟩ := R.rd b k hk
  simp only [Mem.view, r2, Option.bind_some, r3, if_neg r1, r4]

/-- A function that is told of what stands in h as of what is written no more; what it answers stands apart. -/
theorem wpE_borrow {P f args args1 h} {K : AV → Heap → Prop} (hb : WkArgs h.view args args1)
    (hw : wpH P f args1 Heap.emp fun v h1 => v.noI = true ∧ (∀ b k, h1 b = some k → k.st = .own ∧ noIs k.cells = true) ∧ ((∀ b, h b ≠ none → h1 b = none) → K v (h.cat h1))) : wpE P f args h K := fun m Pr R => by
  obtain ⟨v, m1, h1, k1, k2, k3, k4, k5, k6⟩ := hw m.shut (fun b => m.blk b ≠ none) ⟨fun b hb => ⟨rfl, by simpa [Mem.shut] using hb⟩, fun b k hb => by cases hb⟩
  have keep : ∀ b k, m.blk b = some k → (m.back m1).blk b = some k := fun b k hb => by simp only [Mem.back, hb]
  have apart : ∀ b, m.blk b ≠ none → h1 b = none := fun b hb => (k2.pr b hb).1
  have dom : ∀ b, h b ≠ none → m.blk b ≠ none := fun b hb hm => hb (R.fresh hm)
  have eqb : ∀ b, m.blk b ≠ none → (m.back m1).blk b = m.blk b := fun b hb => by
    cases hm : m.blk b with
    | none => exact absurd hm hb
    | some k => exact keep b k hm
  refine ⟨v, m.back m1, h.cat h1, k1.borrow ⟨hb.len, fun i c d hc hd => (hb.get i c d hc hd).mono R.view⟩ k4, ⟨fun b hb => ?_, fun b k hb => ?_⟩, fun b hb => eqb b (R.pr b hb).2,
    fun b k hb hd => ⟨k, keep b k hb, hd, rfl, rfl⟩, k6 fun b hb => apart b (dom b hb)⟩
  · obtain ⟨q1, q2⟩ := R.pr b hb
    exact ⟨by simp only [Heap.cat, apart b q2, q1], by rw [eqb b q2]; exact q2⟩
  · simp only [Heap.cat] at hb
    cases hh : h1 b with
    | some kb =>
      rw [hh] at hb; simp at hb; subst hb
      obtain ⟨r1, k', r2, r3, r4, r5, r6⟩ := k2.rd b kb hh
      obtain ⟨s1, s2⟩ := k5 b kb hh
      have hm : m.blk b = none := by
        cases hm : m.blk b with
        | none => rfl
        | some _ => rw [apart b (by simp [hm])] at hh; cases hh
      have hk : (m.back m1).blk b = some k' := by
        simp only [Mem.back, hm, r2, Option.map_some, Blk.back]
        rw [if_pos ⟨.inl (r3.trans s1), by rw [r4]; exact s2⟩]
      refine ⟨r1, k', hk, r3, r4, r5, fun a ha => ?_⟩
      rcases r6 a ha with ⟨y1, y2⟩ | ⟨y1, y2, y3⟩
      · refine .inl ⟨y1, ?_⟩
        simp only [Heap.cat]
        cases ha' : h1 a with
        | some _ => simp
        | none => exact absurd ha' y2
      · refine .inr ⟨?_, fun hp => y2 (R.pr a hp).2, fun hn => y3 (back_none.1 hn).2⟩
        have hma : m.blk a = none := by simpa using y2
        simp only [Heap.cat, y1]
        exact R.fresh hma
    | none =>
      rw [hh] at hb; simp at hb
      obtain ⟨r1, k', r2, r3, r4, r5, r6⟩ := R.rd b k hb
      refine ⟨r1, k', keep b k' r2, r3, r4, r5, fun a ha => ?_⟩
      rcases r6 a ha with ⟨y1, y2⟩ | ⟨y1, y2, y3⟩
      · refine .inl ⟨y1, ?_⟩
        simp only [Heap.cat, apart a (dom a y2)]
        exact y2
      · refine .inr ⟨by simp only [Heap.cat, apart a y3]; exact y1, y2, by rw [eqb a y3]; exact y3⟩

/-- What is answered, a block of it written no more. -/
theorem wpH.freeze {P f args h} {K : AV → Heap → Prop} (hw : wpH P f args h fun v h' => ∃ b k v1 h1, h' b = some k ∧ k.st = .own ∧ Wk (fun x => if x = b then some k.cells else none) (fun _ => False) v v1 ∧ h1 b = none ∧
      (∀ c kc', h1 c = some kc' → h' c = some kc') ∧ K v1 h1) : wpH P f args h K := fun m Pr R => by
  obtain ⟨v, m', h', k1, k2, k3, b, k, v1, h1, q1, q2, q3, q4, q5, q6⟩ := hw m Pr R
  obtain ⟨m1, W, R1, F1⟩ := k2.freeze (e := lk [(0, v)]) (e1 := lk [(0, v1)]) q1 q2 (fun i => by
    by_cases hi : i = 0
    · subst hi; simp only [lk]; exact q3
    · simp only [lk, if_neg hi]; exact .refl _) q4 (fun c kc' hc => ⟨kc', q5 c kc' hc, rfl, rfl, rfl, rfl, fun i x y h1 h2 => by rw [h1] at h2; cases h2; exact .refl _⟩)
  exact ⟨v1, m1, h1, k1.weak W, R1, fun b hb => (F1 b hb).trans (k3 b hb), q6⟩

/-- What is answered, said more weakly. -/
theorem wpH.weaken {P f args h} {K : AV → Heap → Prop} (hw : wpH P f args h fun v h' => ∃ v1, Wk (fun _ => none) (fun _ => False) v v1 ∧ K v1 h') : wpH P f args h K := fun m Pr R => by
  obtain ⟨v, m', h', k1, k2, k3, v1, q1, q2⟩ := hw m Pr R
  have W : Weak (lk [(0, v)]) m' (lk [(0, v1)]) m' := ⟨⟨fun _ => none, fun _ => False, fun b cs h => (nomatch h), fun b h => h.elim, fun i => by
    by_cases hi : i = 0
    · subst hi; simp only [lk]; exact q1
    · simp only [lk, if_neg hi]; exact .refl _,
    fun b k' hk hd => .inr ⟨k', hk, rfl, rfl, fun a ha => .inl ha, rfl, fun i c d h1 h2 => by rw [h1] at h2; cases h2; exact .refl _⟩⟩, fun _ h => h⟩
  exact ⟨v1, m', h', k1.weak W, k2, k3, q2⟩

/-- Blocks may be left behind. -/
theorem wpH.sub {P f args h} {K : AV → Heap → Prop} (hw : wpH P f args h fun v h1 => ∃ h2, (∀ b k, h2 b = some k → h1 b = some k) ∧ K v h2) : wpH P f args h K := fun m Pr R => by
  obtain ⟨v, m', h', k1, k2, k3, h2, hs, k4⟩ := hw m Pr R
  exact ⟨v, m', h2, k1, k2.sub hs, k3, k4⟩

/-- A function that touches nothing: what else lies there stays. -/
theorem wpP_intro {P : Program} {f : FuncId} {args : List AV} {v : AV} (hw : wpH P f args Heap.emp fun v' _ => v' = v) : wpP P f args v :=
  wpH.sub (wpH.mono hw fun v' h' hv => ⟨Heap.emp, fun b k hb => (nomatch hb), hv, rfl⟩)

theorem guardO_true {α : Type} {x : Option α} {i : Decidable True} : @guardO True i α x = x := by simp [guardO]

end Go.Proofs.YtchhknkflhikmaaDoor.Am
