/- AM: what a piece of code does, as derivations; that a block beside changes nothing; that operations which do not look at each other change places. -/
import Derived.Test.YtdchdlabdokjnaaAm1
namespace Go.Proofs.Ytdchdlabdokjnaa.Am
set_option linter.unusedSectionVars false
open Go
set_option linter.unusedVariables false
set_option linter.unusedSimpArgs false
variable [Tab]

inductive Ex where
  | normal
  | exit (id : Nat)
  | ret
  deriving DecidableEq

/-- Is an operation to be carried out? -/
def guardA (all : Array Oper) (e : Env) : Option (Nat × Bool) → Option Bool
  | none => some true
  | some (j, want) => match (all[j]?).bind (·.dst) with
    | none => some false
    | some d => match e d with
      | .bool b => some (b == want)
      | .tup [] => some false
      | _ => none

abbrev FnRel := FuncId → List AV → Mem → AV → Mem → Prop

/-- An append's operands: into s, of elements of type et, what x holds: n elements. -/
structure AppCtx (P : Program) (e : Env) (c : Call) (s x : AV) (et : TypeId) (ei : TI) (n : Nat) : Prop where
  callee : c.callee = .builtin .append
  args : c.args.toList.map (ev P e) = [s, x]
  tys : ∃ t u ti ui, c.argTypes.toList = [t, u] ∧ tiOf P t = some ti ∧ ti.d = .slice et ∧ tiOf P u = some ui ∧ ((∃ w, ui.d = .slice w) ∨ ui.d = .str)
  hei : tiOf P et = some ei
  pos : 0 < ei.size
  len : lenOfA x = some n

/-- A block that is written no more; what it was made of is no more. -/
def sameIn (m : Mem) (b : Nat) (k : Blk) : Mem := (storeIn m b k 0 k.cells).put b { k with st := .dead, anc := [] }

/-- What writes memory, as a relation. -/
inductive SerR (P : Program) (e : Env) (m : Mem) (b' : Nat) : Op → AV → Mem → Prop
  | store {t a x b o k ti} (ha : ev P e a = .ptr b o) (hk : m.blk b = some k) (hst : k.st = .own) (ht : tiOf P t = some ti) (hp : 0 < ti.size) (hl : (ev P e x).cells.all AV.leaf = true)
      (hn : (ev P e x).cells.length = ti.size) (hi : o + (ev P e x).cells.length ≤ k.cells.length) : SerR P e m b' (.store t a x) .undef (storeIn m b k o (ev P e x).cells)
  | app0 {c s x et ei} (h : AppCtx P e c s x et ei 0) (hs : s = .snil ∨ ∃ b o len sz, s = .sl b o len sz) : SerR P e m b' (.call c) s m
  | app00 {c x et ei} (h : AppCtx P e c .snil x et ei 0) : SerR P e m b' (.call c) (.sl b' 0 0 ei.size) (m.put b' ⟨.own, [], et, []⟩)
  | appNil {c x et ei n news} (h : AppCtx P e c .snil x et ei n) (hn : 0 < n) (hs : srcA m ei.size x = some news) (hl : news.length = n * ei.size) (hlf : news.all AV.leaf = true)
      (hb : n * ei.bytes ≤ 140737488355328) (hm : n ≤ maxInt) : SerR P e m b' (.call c) (.sl b' 0 n ei.size) (m.put b' ⟨.own, news, et, []⟩)
  | appOwn {c x et ei n news b o len k} (h : AppCtx P e c (.sl b o len ei.size) x et ei n) (hn : 0 < n) (hs : srcA m ei.size x = some news) (hl : news.length = n * ei.size) (hlf : news.all AV.leaf = true)
      (hk : m.blk b = some k) (hst : k.st = .own) (hty : k.ety = et) (hend : o + len * ei.size = k.cells.length) (hb : (len + n) * ei.bytes ≤ 140737488355328) (hm : len + n ≤ maxInt) :
      SerR P e m b' (.call c) (.sl b' 0 (len + n) ei.size) ((m.put b { k with st := .old }).put b' ⟨.own, k.cells.drop o ++ news, et, b :: k.anc⟩)

  | same {t x b n k es ti et ei} (hx : ev P e x = .sl b 0 n 1) (hk : m.blk b = some k) (hst : k.st = .own) (ht : tiOf P t = some ti) (hd : ti.d = .slice et) (hei : tiOf P et = some ei) (hu : ei.d = .int .u8)
      (hn : 0 < n) (hc : k.cells = es.flatten) (hl : es.length = n) (hel : ∀ e ∈ es, e.length = 1) : SerR P e m b' (.convert t t x) (.rs 1 es) (sameIn m b k)

theorem appendA_SerR {P e m b' c s x t u v m1 ui} (hc : c.callee = .builtin .append) (ha : c.args.toList.map (ev P e) = [s, x]) (ht : c.argTypes.toList = [t, u])
    (hu : tiOf P u = some ui) (hus : (∃ w, ui.d = .slice w) ∨ ui.d = .str) (h : appendA P m b' t s x = some (v, m1)) : SerR P e m b' (.call c) v m1 := by
  unfold appendA at h
  cases hti : tiOf P t with
  | none => simp [hti] at h
  | some ti =>
    simp only [hti, Option.bind_some] at h
    split at h
    · rename_i et het
      cases hei : tiOf P et with
      | none => simp [hei] at h
      | some ei =>
        simp only [hei, Option.bind_some] at h
        obtain ⟨h0, h⟩ := guardO_some h
        cases hn : lenOfA x with
        | none => simp [hn] at h
        | some n =>
          have ctx : AppCtx P e c s x et ei n := ⟨hc, ha, ⟨t, u, ti, ui, ht, hti, het, hu, hus⟩, hei, h0, hn⟩
          simp only [hn, Option.bind_some] at h
          split at h
          · rename_i hz
            subst hz
            split at h <;> simp at h
            · obtain ⟨rfl, rfl⟩ := h; exact .app0 ctx (.inl rfl)
            · obtain ⟨rfl, rfl⟩ := h; exact .app0 ctx (.inr ⟨_, _, _, _, rfl⟩)
          · rename_i hz
            cases hs : srcA m ei.size x with
            | none => simp [hs] at h
            | some news =>
              simp only [hs, Option.bind_some] at h
              obtain ⟨h1, h⟩ := guardO_some h
              obtain ⟨h2, h⟩ := guardO_some h
              cases s with
              | snil =>
                simp only at h
                obtain ⟨h3, h⟩ := guardO_some h
                simp at h
                obtain ⟨rfl, rfl⟩ := h
                exact .appNil ctx (by omega) hs h1 h2 h3.1 h3.2
              | sl bb oo len sz =>
                simp only at h
                obtain ⟨hsz, h⟩ := guardO_some h
                have ctx' : AppCtx P e c (.sl bb oo len ei.size) x et ei n := hsz ▸ ctx
                cases hk : m.blk bb with
                | none => simp [hk] at h
                | some k =>
                  simp only [hk, Option.bind_some] at h
                  obtain ⟨h3, h⟩ := guardO_some h
                  obtain ⟨h4, h⟩ := guardO_some h
                  obtain ⟨h5, h⟩ := guardO_some h
                  obtain ⟨h6, h⟩ := guardO_some h
                  simp at h
                  obtain ⟨rfl, rfl⟩ := h
                  exact .appOwn ctx' (by omega) hs h1 h2 hk h3 h4 h5 h6.1 h6.2
              | _ => simp at h
    · simp at h

theorem serA_SerR {P e m b' op v m1} (h : serA P e m b' op = some (v, m1)) : SerR P e m b' op v m1 := by
  unfold serA at h
  split at h
  · rename_i t a x
    split at h
    · rename_i b o ha
      cases hk : m.blk b with
      | none => simp [hk] at h
      | some k =>
        simp only [hk, Option.bind_some] at h
        obtain ⟨h1, h⟩ := guardO_some h
        cases ht : tiOf P t with
        | none => simp [ht] at h
        | some ti =>
          simp only [ht, Option.bind_some] at h
          obtain ⟨h0, h⟩ := guardO_some h
          obtain ⟨h2, h⟩ := guardO_some h
          obtain ⟨h3, h⟩ := guardO_some h
          obtain ⟨h4, h⟩ := guardO_some h
          simp at h
          obtain ⟨rfl, rfl⟩ := h
          exact .store ha hk h1 ht h0 h2 h3 h4
    · simp at h
  · rename_i args tys
    split at h
    · rename_i s x t u ha ht
      cases hu : tiOf P u with
      | none => simp [hu] at h
      | some ui =>
        simp only [hu, Option.bind_some] at h
        split at h
        · rename_i w hw; exact appendA_SerR rfl ha ht hu (.inl ⟨w, hw⟩) h
        · rename_i hw; exact appendA_SerR rfl ha ht hu (.inr hw) h
        · simp at h
    · simp at h
  · simp at h

/-- What an operation that is carried out answers and leaves. -/
inductive Step (P : Program) (F : FnRel) (flag : Bool) (e : Env) (m : Mem) : Op → AV → Mem → Prop
  | pur {o v} (hv : pureA P e o = some v) : Step P F flag e m o v m
  | lod {o v} (hv : loadA P e m o = some v) (hf : flag = true → ∀ m2, loadA P e m2 o = some v) : Step P F flag e m o v m
  | alc {o v b k} (hb : m.blk b = none) (hv : allocA P e b o = some (v, k)) : Step P F flag e m o v (m.put b k)
  | ser {o v b m1} (hb : m.blk b = none) (hv : SerR P e m b o v m1) (hf : flag = true → Ext m m1) : Step P F flag e m o v m1
  | call {o c f g first cap v m1} (ho : o = .call c) (hcal : c.callee = .value f) (hfn : ev P e f = .fn g first cap) (hcall : F g (first ++ c.args.toList.map (ev P e) ++ cap) m v m1)
      (hf : flag = true → Ext m m1) : Step P F flag e m o v m1

/-- An operation in its region: carried out, or passed over. -/
inductive Act1 (P : Program) (F : FnRel) (all : Array Oper) (flag : Bool) (o : Oper) (e : Env) (m : Mem) : AV → Mem → Prop
  | skip (hg : guardA all e o.guard = some false) : Act1 P F all flag o e m .undef m
  | step {v m1} (hg : guardA all e o.guard = some true) (h : Step P F flag e m o.op v m1) : Act1 P F all flag o e m v m1

inductive EvO (P : Program) (F : FnRel) (all : Array Oper) (fl : Nat → Bool) : List Nat → Env → Mem → Env → Mem → Prop
  | nil {e m} : EvO P F all fl [] e m e m
  | cons {i l o e m v m1 e' m'} (ho : all[i]? = some o) (h : Act1 P F all (fl i) o e m v m1) (k : EvO P F all fl l (putd e o.dst v) m1 e' m') : EvO P F all fl (i :: l) e m e' m'

def clsOf (P : Program) : Op → Cls
  | .load _ _ => .lod
  | .alloc _ | .box _ _ | .buildSlice _ _ _ | .makeSlice _ _ _ => .alc
  | .convert s d _ => match (tiOf P d).map TI.d with
    | some (.int _) => .pur
    | some .str => (match (tiOf P s).map TI.d with
      | some .str => .pur
      | some (.slice _) => .lod
      | _ => .ser)
    | some (.slice _) => (match (tiOf P s).map TI.d with
      | some (.slice _) => .ser
      | _ => .alc)
    | _ => .ser
  | .move _ | .assign _ | .pick _ _ _ | .nilCheck _ | .binOp _ _ _ _ _ | .unOp _ _ _ | .build _ _ | .field _ _ _ | .fieldAddr _ _ _ | .indexAddr _ _ _ | .index _ _ _
  | .extract _ _ | .slice _ _ _ _ _ | .makeFunc _ _ _ => .pur
  | .call { callee := .builtin .len, .. } | .call { callee := .builtin .max, .. } | .call { callee := .builtin .min, .. } => .pur
  | _ => .ser

/-! What must come ahead of an operation. -/

def edges (o : Oper) : List Nat := (o.after.toList.filter (Region.binds .any ·)).map (·.on)
def edgesAt (all : Array Oper) (i : Nat) : List Nat := ((all[i]?).map edges).getD []

def lkN : List (Nat × Nat) → Nat → Nat
  | [], _ => 0
  | (d, v) :: l, i => if i = d then v else lkN l i

def maskOf (T : List (Nat × Nat)) : List Nat → Nat
  | [] => 0
  | x :: xs => 2 ^ x ||| lkN T x ||| maskOf T xs

def tabOf (all : Array Oper) : List (Nat × Nat) → List Nat → List (Nat × Nat)
  | T, [] => T
  | T, i :: l => tabOf all ((i, maskOf T (edgesAt all i)) :: T) l

def compat : Cls → Cls → Bool
  | .pur, _ | _, .pur => true
  | .lod, .lod | .lod, .alc | .lod, .ser | .alc, .alc | .ser, .alc => true
  | _, _ => false

def clsAt (P : Program) (all : Array Oper) (i : Nat) : Cls := ((all[i]?).map fun o => clsOf P o.op).getD .ser
def apartAt (all : Array Oper) (x i : Nat) : Bool := match all[x]?, all[i]? with
  | some a, some b => Oper.apart all a b
  | _, _ => false

/-- May i change places with x, which stands ahead of it? -/
def swapOk (P : Program) (all : Array Oper) (x i : Nat) : Bool := apartAt all x i && compat (clsAt P all x) (clsAt P all i)

def pairsOk (P : Program) (all : Array Oper) (T : List (Nat × Nat)) : List Nat → Bool
  | [] => true
  | x :: l => l.all (fun i => (lkN T i).testBit x || swapOk P all x i) && pairsOk P all T l

/-- Which writers stand behind a reader that may come behind them too (but for the readers of R: those read what is written no more). -/
def flOf (P : Program) (all : Array Oper) (T : List (Nat × Nat)) (R : List Nat) : List Nat → Nat → Bool
  | [], i => R.contains i
  | x :: l, i => (clsAt P all x == .lod && clsAt P all i == .ser && !R.contains x && l.contains i && !(lkN T i).testBit x) || flOf P all T R l i

def respects (all : Array Oper) : List Nat → List Nat → Bool
  | _, [] => true
  | done, i :: l => (edgesAt all i).all (done.contains ·) && respects all (i :: done) l

def nodupB : List Nat → Bool
  | [] => true
  | x :: l => !l.contains x && nodupB l

def drawOk (P : Program) (all : Array Oper) (π : List Nat) : Bool :=
  nodupB π && π.length == all.size && (List.range all.size).all (π.contains ·) && π.all (· < all.size) && respects all [] π && pairsOk P all (tabOf all [] π) π

def fl0 : Nat → Bool := fun _ => false

def dstOk (n : Nat) : Code → Bool
  | .region _ ops _ => ops.toList.all fun o => match o.dst with
    | some d => decide (d < n)
    | none => true
  | .seq a b => dstOk n a && dstOk n b
  | .cond _ a b => dstOk n a && dstOk n b
  | .block _ c => dstOk n c
  | .scope c => dstOk n c
  | .loop c => dstOk n c
  | .skip | .label _ | .exit _ | .ret => true
  | _ => false

/-- What is known of a value, said more weakly: blocks that are written no more read as what they hold. -/
inductive Wk (fz : Nat → Option (List AV)) (nw : Nat → Prop) : AV → AV → Prop
  | refl (v) : Wk fz nw v v
  | any (v) : Wk fz nw v .any
  | snil (s) : Wk fz nw .snil (.rs s [])
  | nil0 {b s : Nat} (h : nw b) : Wk fz nw .snil (.sl b 0 0 s)
  | sl {b o n s : Nat} {cs : List AV} {es : List (List AV)} (h : fz b = some cs) (hl : es.length = n) (hes : ∀ (i : Nat) (e : List AV), es[i]? = some e → e = (cs.drop (o + i * s)).take s)
      (hel : ∀ e ∈ es, e.length = s) : Wk fz nw (.sl b o n s) (.rs s es)
  | ptr {b o : Nat} {cs : List AV} (h : fz b = some cs) : Wk fz nw (.ptr b o) (.rp cs o)
  | agg {cs ds : List AV} (hl : cs.length = ds.length) (h : ∀ (i : Nat) (c d : AV), cs[i]? = some c → ds[i]? = some d → Wk fz nw c d) : Wk fz nw (.agg cs) (.agg ds)
  | tup {cs ds : List AV} (hl : cs.length = ds.length) (h : ∀ (i : Nat) (c d : AV), cs[i]? = some c → ds[i]? = some d → Wk fz nw c d) : Wk fz nw (.tup cs) (.tup ds)
  | fn {f : FuncId} {xs ys xs' ys' : List AV} (hl : xs.length = xs'.length) (h : ∀ (i : Nat) (c d : AV), xs[i]? = some c → xs'[i]? = some d → Wk fz nw c d)
      (hl' : ys.length = ys'.length) (h' : ∀ (i : Nat) (c d : AV), ys[i]? = some c → ys'[i]? = some d → Wk fz nw c d) : Wk fz nw (.fn f xs ys) (.fn f xs' ys')
  | iface {t : TypeId} {c d : AV} (h : Wk fz nw c d) : Wk fz nw (.iface t c) (.iface t d)
  | rs {s : Nat} {es es' : List (List AV)} (hl : es.length = es'.length) (hel : ∀ (i : Nat) (e e' : List AV), es[i]? = some e → es'[i]? = some e' → e.length = e'.length)
      (h : ∀ (i j : Nat) (e e' : List AV) (c d : AV), es[i]? = some e → es'[i]? = some e' → e[j]? = some c → e'[j]? = some d → Wk fz nw c d) : Wk fz nw (.rs s es) (.rs s es')
  | rp {cs ds : List AV} {o : Nat} (hl : cs.length = ds.length) (h : ∀ (i : Nat) (c d : AV), cs[i]? = some c → ds[i]? = some d → Wk fz nw c d) : Wk fz nw (.rp cs o) (.rp ds o)

/-- What is known of a state, said more weakly. -/
structure Weak (e : Env) (m : Mem) (e' : Env) (m' : Mem) : Prop where
  ex : ∃ (fz : Nat → Option (List AV)) (nw : Nat → Prop),
    (∀ b cs, fz b = some cs → ∃ k, m.blk b = some k ∧ k.cells = cs ∧ (k.st = .own ∨ k.st = .ro) ∧ (k.st = .own → ∀ k', m'.blk b = some k' → k'.st = .dead)) ∧
    (∀ b, nw b → m.blk b = none ∧ ∃ ty, m'.blk b = some ⟨.own, [], ty, []⟩) ∧
    (∀ i, Wk fz nw (e i) (e' i)) ∧
    (∀ b k', m'.blk b = some k' → k'.st ≠ .dead → nw b ∨ ∃ k, m.blk b = some k ∧ k'.st = k.st ∧ k'.ety = k.ety ∧ (∀ a ∈ k.anc, a ∈ k'.anc ∨ ∃ ka, m'.blk a = some ka ∧ ka.st = .dead) ∧
      k.cells.length = k'.cells.length ∧ ∀ (i : Nat) (c d : AV), k.cells[i]? = some c → k'.cells[i]? = some d → Wk fz nw c d)
  dom : ∀ b, m'.blk b = none → m.blk b = none

/-- Said more weakly, step by step. -/
inductive Weaks : Env → Mem → Env → Mem → Prop
  | refl {e m} : Weaks e m e m
  | step {e m e1 m1 e2 m2} (h : Weak e m e1 m1) (k : Weaks e1 m1 e2 m2) : Weaks e m e2 m2
theorem Weaks.trans {e m e1 m1 e2 m2} (h : Weaks e m e1 m1) (k : Weaks e1 m1 e2 m2) : Weaks e m e2 m2 := by
  induction h with
  | refl => exact k
  | step h _ ih => exact .step h (ih k)
theorem Weaks.dom {e m e' m'} (h : Weaks e m e' m') : ∀ b, m'.blk b = none → m.blk b = none := by
  induction h with
  | refl => exact fun _ h => h
  | step h _ ih => exact fun b hb => h.dom b (ih b hb)

inductive EvC (P : Program) (F : FnRel) : Code → Env → Mem → Ex → Env → Mem → Prop
  | skip {e m} : EvC P F .skip e m .normal e m
  | label {l e m} : EvC P F (.label l) e m .normal e m
  | exit {id e m} : EvC P F (.exit id) e m (.exit id) e m
  | ret {e m} : EvC P F .ret e m .ret e m
  | seq_n {a b e m e1 m1 x e' m'} (h : EvC P F a e m .normal e1 m1) (k : EvC P F b e1 m1 x e' m') : EvC P F (.seq a b) e m x e' m'
  | seq_x {a b e m x e' m'} (h : EvC P F a e m x e' m') (hx : x ≠ .normal) : EvC P F (.seq a b) e m x e' m'
  | cond {c a b e m t x e' m'} (hc : ev P e c = .bool t) (h : EvC P F (if t then a else b) e m x e' m') : EvC P F (.cond c a b) e m x e' m'
  | block {id c e m x e' m'} (h : EvC P F c e m x e' m') : EvC P F (.block id c) e m (if x = .exit id then .normal else x) e' m'
  | scope {c e m x e' m'} (h : EvC P F c e m x e' m') : EvC P F (.scope c) e m x e' m'
  | loop_n {c e m e1 m1 x e' m'} (h : EvC P F c e m .normal e1 m1) (k : EvC P F (.loop c) e1 m1 x e' m') : EvC P F (.loop c) e m x e' m'
  | loop_x {c e m x e' m'} (h : EvC P F c e m x e' m') (hx : x ≠ .normal) : EvC P F (.loop c) e m x e' m'
  | region {id ops e m e' m'} (h : EvO P F ops fl0 (List.range ops.size) e m e' m') : EvC P F (.region id ops false) e m .normal e' m'
  | draw {id ops e m e' m'} (π R : List Nat) (hok : drawOk P ops π = true) (h : EvO P F ops (flOf P ops (tabOf ops [] π) R π) π e m e' m') : EvC P F (.region id ops true) e m .normal e' m'
  | weak {c e m x e1 m1 e' m'} (h : EvC P F c e m x e1 m1) (hw : Weak e1 m1 e' m') : EvC P F c e m x e' m'
  | weakL {c e m x e1 m1 e' m'} (hw : Weak e m e1 m1) (h : EvC P F c e1 m1 x e' m') : EvC P F c e m x e' m'

def argL : Nat → List AV → List (Nat × AV)
  | _, [] => []
  | n, a :: as => (n, a) :: argL (n + 1) as

def resOne (P : Program) (e : Env) (m : Mem) : ResultVar → Option AV
  | .tmp t => some (e t)
  | .cell a t => match e a with
    | .ptr b o => (m.blk b).bind fun k => guardO (k.st ≠ .dead) ((tiOf P t).bind fun ti => partA ti k.cells o)
    | _ => none
def resList (P : Program) (e : Env) (m : Mem) : List ResultVar → Option (List AV)
  | [] => some []
  | r :: rs => (resOne P e m r).bind fun v => (resList P e m rs).bind fun vs => some (v :: vs)
def resA (P : Program) (rs : List ResultVar) (e : Env) (m : Mem) : Option AV :=
  (resList P e m rs).bind fun vs => match vs with
    | [v] => some v
    | vs => some (.tup vs)

/-! ### Borrowing: a function that writes none of what stood before is called with what stands there as what is written no more -/

mutual
/-- Nothing in it stands for cells that are written no more. -/
def AV.noI : AV → Bool
  | .rs _ es => es.isEmpty
  | .rp _ _ => false
  | .agg cs => noIs cs
  | .tup cs => noIs cs
  | .fn _ xs ys => noIs xs && noIs ys
  | .iface _ v => v.noI
  | _ => true
def noIs : List AV → Bool
  | [] => true
  | c :: cs => c.noI && noIs cs
end
theorem noIs_get : ∀ {cs : List AV} {i : Nat} {c : AV}, noIs cs = true → cs[i]? = some c → c.noI = true
  | [], _, _, _, hc => by simp at hc
  | x :: xs, 0, c, h, hc => by
    simp only [noIs, Bool.and_eq_true] at h
    simp at hc; subst hc; exact h.1
  | x :: xs, i + 1, c, h, hc => by
    simp only [noIs, Bool.and_eq_true] at h
    exact noIs_get h.2 (by simpa using hc)

def Mem.shut (m : Mem) : Mem where
  blk b := (m.blk b).map fun k => { k with st := .dead }
  next := m.next
  fin b h := by rw [m.fin b h]; rfl
def Blk.back (k : Blk) : Blk := if (k.st = .own ∨ k.st = .old) ∧ noIs k.cells = true then k else { k with st := .dead }
def Mem.back (m m1 : Mem) : Mem where
  blk b := match m.blk b with
    | some k => some k
    | none => (m1.blk b).map Blk.back
  next := max m.next m1.next
  fin b h := by rw [m.fin b (by omega), m1.fin b (by omega)]; rfl
def Mem.view (m : Mem) : Nat → Option (List AV) := fun b => (m.blk b).bind fun k => if k.st = .dead then none else some k.cells

structure WkArgs (fz : Nat → Option (List AV)) (args args1 : List AV) : Prop where
  len : args.length = args1.length
  get : ∀ (i : Nat) (c d : AV), args[i]? = some c → args1[i]? = some d → Wk fz (fun _ => False) c d

def Brw (F : FnRel) : FnRel := fun f args m v m' => ∃ args1 m1, WkArgs m.view args args1 ∧ F f args1 m.shut v m1 ∧ v.noI = true ∧ m' = m.back m1

theorem Wk.mono {fz fz' : Nat → Option (List AV)} {nw : Nat → Prop} (hf : ∀ b cs, fz b = some cs → fz' b = some cs) {c d : AV} (h : Wk fz nw c d) : Wk fz' nw c d := by
  induction h with
  | refl v => exact .refl v
  | any v => exact .any v
  | snil s => exact .snil s
  | nil0 h => exact .nil0 h
  | sl h hl hes hel => exact .sl (hf _ _ h) hl hes hel
  | ptr h => exact .ptr (hf _ _ h)
  | agg hl _ ih => exact .agg hl ih
  | tup hl _ ih => exact .tup hl ih
  | fn hl _ hl' _ ih ih' => exact .fn hl ih hl' ih'
  | iface _ ih => exact .iface ih
  | rs hl hel _ ih => exact .rs hl hel ih
  | rp hl _ ih => exact .rp hl ih
theorem view_put {m : Mem} {b k} (hb : m.blk b = none) : ∀ c cs, m.view c = some cs → (m.put b k).view c = some cs := fun c cs h => by
  unfold Mem.view at *
  rw [Mem.blk_put, if_neg (by rintro rfl; simp [hb] at h)]
  exact h
theorem shut_put {m : Mem} {b k} : (m.put b k).shut = m.shut.put b { k with st := .dead } := Mem.ext' (fun c => by
  simp only [Mem.shut, Mem.blk_put]
  split <;> rfl) rfl
theorem back_put {m m1 : Mem} {b k k1} : (m.put b k).back (m1.put b k1) = (m.back m1).put b k := Mem.ext' (fun c => by
  simp only [Mem.back, Mem.blk_put]
  by_cases hc : c = b
  · simp only [if_pos hc]
  · simp only [if_neg hc]) (by simp only [Mem.back, Mem.next_put]; omega)
theorem back_none {m m1 : Mem} {b} : (m.back m1).blk b = none ↔ m.blk b = none ∧ m1.blk b = none := by
  simp only [Mem.back]
  cases m.blk b <;> simp
theorem Brw.dom {F : FnRel} {f args m v m' b} (h : Brw F f args m v m') (hb : m'.blk b = none) : m.blk b = none := by
  obtain ⟨args1, m1, _, _, _, rfl⟩ := h
  exact (back_none.1 hb).1
theorem Brw.lift {F : FnRel} (N : ∀ {f args m v m' b k}, F f args m v m' → k.st ≠ .old → m'.blk b = none → F f args (m.put b k) v (m'.put b k)) {f args m v m' b k} (h : Brw F f args m v m') (hb : m'.blk b = none) :
    Brw F f args (m.put b k) v (m'.put b k) := by
  obtain ⟨args1, m1, h1, h2, h3, rfl⟩ := h
  obtain ⟨hb1, hb2⟩ := back_none.1 hb
  refine ⟨args1, m1.put b { k with st := .dead }, ⟨h1.len, fun i c d hc hd => (h1.get i c d hc hd).mono (view_put hb1)⟩, ?_, h3, back_put.symm⟩
  rw [shut_put]
  exact N h2 (fun h => nomatch h) hb2

/-- What a function's body does. -/
def Body (P : Program) (F : FnRel) : FnRel := fun f args m v m1 => ∃ fn c x e', P.funcs[f]? = some fn ∧ fn.body = some c ∧ fn.name ≠ "runtime.NumGoroutine" ∧ dstOk fn.ntmps c = true ∧
  EvC P F c (lk (argL 0 args)) m x e' m1 ∧ (x = .normal ∨ x = .ret) ∧ resA P fn.results.toList e' m1 = some v

def EvF (P : Program) : Nat → FnRel
  | 0 => fun _ _ _ _ _ => False
  | d + 1 => fun f args m v m' => ∃ m1 v1, (Body P (EvF P d) f args m v1 m1 ∨ Brw (EvF P d) f args m v1 m1) ∧ Weaks (lk [(0, v1)]) m1 (lk [(0, v)]) m'

/-! ### Blocks never go; a block beside -/

theorem Weak.refl (e : Env) (m : Mem) : Weak e m e m :=
  ⟨⟨fun _ => none, fun _ => False, fun b cs h => (nomatch h), fun b h => h.elim, fun i => .refl _,
    fun b k' hk hd => .inr ⟨k', hk, rfl, rfl, fun a ha => .inl ha, rfl, fun i c d h1 h2 => by rw [h1] at h2; cases h2; exact .refl _⟩⟩, fun _ h => h⟩
theorem Weak.lift {e m e' m' b k} (h : Weak e m e' m') (hb : m'.blk b = none) : Weak e (m.put b k) e' (m'.put b k) := by
  have hbm := h.dom b hb
  obtain ⟨fz, nw, h1, h0, h2, h3⟩ := h.ex
  refine ⟨⟨fz, nw, fun c cs hc => ?_, fun c hc => ?_, h2, fun c k' hc hd => ?_⟩, fun c => ?_⟩
  · obtain ⟨kc, e1, e2, e3, e4⟩ := h1 c cs hc
    have hne : c ≠ b := by rintro rfl; simp [hbm] at e1
    exact ⟨kc, by rw [Mem.blk_put, if_neg hne]; exact e1, e2, e3, fun ho k' hk' => e4 ho k' (by rw [Mem.blk_put, if_neg hne] at hk'; exact hk')⟩
  · obtain ⟨e1, ty, e2⟩ := h0 c hc
    have hne : c ≠ b := by rintro rfl; simp [hb] at e2
    exact ⟨by rw [Mem.blk_put, if_neg hne]; exact e1, ty, by rw [Mem.blk_put, if_neg hne]; exact e2⟩
  · rw [Mem.blk_put] at hc
    by_cases hne : c = b
    · rw [if_pos hne] at hc; cases hc
      exact .inr ⟨k, by rw [Mem.blk_put, if_pos hne], rfl, rfl, fun a ha => .inl ha, rfl, fun i c d h1 h2 => by rw [h1] at h2; cases h2; exact .refl _⟩
    · rw [if_neg hne] at hc
      rcases h3 c k' hc hd with h | ⟨kc, e1, e2, e3, e4, e5⟩
      · exact .inl h
      · refine .inr ⟨kc, by rw [Mem.blk_put, if_neg hne]; exact e1, e2, e3, fun a ha => ?_, e5⟩
        rcases e4 a ha with h | h
        · exact .inl h
        · obtain ⟨ka, h1, h2⟩ := h
          exact .inr ⟨ka, by rw [Mem.blk_put, if_neg (by rintro rfl; simp [hb] at h1)]; exact h1, h2⟩
  · simp only [Mem.blk_put]
    split
    · simp
    · exact h.dom c

structure Nice (F : FnRel) : Prop where
  dom : ∀ {f args m v m' b}, F f args m v m' → m'.blk b = none → m.blk b = none
  lift : ∀ {f args m v m' b k}, F f args m v m' → k.st ≠ .old → m'.blk b = none → F f args (m.put b k) v (m'.put b k)

theorem Weaks.lift {e m e' m' b k} (h : Weaks e m e' m') (hb : m'.blk b = none) : Weaks e (m.put b k) e' (m'.put b k) := by
  induction h with
  | refl => exact .refl
  | step h k ih => exact .step (h.lift (k.dom _ hb)) (ih hb)

theorem kill_none (m : Mem) : ∀ (bs : List Nat) (b : Nat), (m.kill bs).blk b = none ↔ m.blk b = none := by
  intro bs
  induction bs generalizing m with
  | nil => intro b; rfl
  | cons x bs ih =>
    intro b
    simp only [Mem.kill]
    split
    · rename_i k hk
      split
      · rw [ih]
        simp only [Mem.blk_put]
        split
        · subst_vars; simp [hk]
        · rfl
      · exact ih _ _
    · exact ih _ _
theorem kill_put (m : Mem) : ∀ (bs : List Nat) {b : Nat} {k : Blk}, k.st ≠ .old → m.blk b = none → (m.put b k).kill bs = (m.kill bs).put b k := by
  intro bs
  induction bs generalizing m with
  | nil => intro b k _ _; rfl
  | cons x bs ih =>
    intro b k hk hb
    by_cases hx : x = b
    · subst hx
      simp only [Mem.kill, Mem.blk_put, if_true, hb]
      rw [if_neg hk]
      exact ih _ hk hb
    · simp only [Mem.kill, Mem.blk_put, if_neg hx]
      split
      · rename_i kx hkx
        split
        · rw [Mem.put_comm _ (Ne.symm hx), ih _ hk (by rw [Mem.blk_put, if_neg (Ne.symm hx)]; exact hb)]
        · exact ih _ hk hb
      · exact ih _ hk hb

theorem putd_ne {e : Env} {d : Option Nat} {v : AV} {i : Nat} (h : d ≠ some i) : putd e d v i = e i := by
  cases d with
  | none => rfl
  | some d => simp only [putd, put]; rw [if_neg]; rintro rfl; exact h rfl

theorem storeIn_none {m b k o cs x} (hb : m.blk b = some k) : (storeIn m b k o cs).blk x = none ↔ m.blk x = none := by
  unfold storeIn
  rw [kill_none, Mem.blk_put]
  split
  · subst_vars; simp [hb]
  · rfl

theorem sameIn_none {m b k x} (hb : m.blk b = some k) : (sameIn m b k).blk x = none ↔ m.blk x = none := by
  unfold sameIn
  rw [Mem.blk_put]
  split
  · subst_vars; simp [hb]
  · exact storeIn_none hb

theorem SerR.dom {P e m b' op v m1 b} (h : SerR P e m b' op v m1) (hb : m1.blk b = none) : m.blk b = none := by
  cases h with
  | store ha hk => exact (storeIn_none hk).1 hb
  | same ha hk => exact (sameIn_none hk).1 hb
  | app0 => exact hb
  | app00 =>
    rw [Mem.blk_put] at hb
    split at hb
    · simp at hb
    · exact hb
  | appNil =>
    rw [Mem.blk_put] at hb
    split at hb
    · simp at hb
    · exact hb
  | appOwn =>
    rw [Mem.blk_put] at hb
    split at hb
    · simp at hb
    · rw [Mem.blk_put] at hb
      split at hb
      · simp at hb
      · exact hb

theorem srcA_put {m esz x cs b k} (h : srcA m esz x = some cs) (hb : m.blk b = none) : srcA (m.put b k) esz x = some cs := by
  unfold srcA at *
  split at h <;> try exact h
  rename_i bb o n sz
  split at h
  · rename_i hn; simp [hn, h]
  · rename_i hn
    simp only [hn, if_false]
    cases hk : m.blk bb with
    | none => simp [hk] at h
    | some kk =>
      have hne : bb ≠ b := by rintro rfl; simp [hb] at hk
      simp only [hk, Option.bind_some] at h
      simp only [Mem.blk_put, if_neg hne, hk, Option.bind_some, h]

theorem storeIn_put {m b k o cs c kc} (hb : m.blk b = some k) (hc : m.blk c = none) (hs : kc.st ≠ .old) : storeIn (m.put c kc) b k o cs = (storeIn m b k o cs).put c kc := by
  have hne : b ≠ c := by rintro rfl; simp [hc] at hb
  unfold storeIn
  rw [Mem.put_comm _ (Ne.symm hne), kill_put _ _ hs (by rw [Mem.blk_put, if_neg (Ne.symm hne)]; exact hc)]

theorem Mem.exists_fresh (m : Mem) : ∃ b, m.blk b = none := ⟨_, m.fresh⟩

theorem SerR.lift {P e m b' op v m1 c kc} (h : SerR P e m b' op v m1) (hb' : m.blk b' = none) (hs : kc.st ≠ .old) (hc : m1.blk c = none) :
    ∃ b'', (m.put c kc).blk b'' = none ∧ SerR P e (m.put c kc) b'' op v (m1.put c kc) := by
  have hcm : m.blk c = none := h.dom hc
  have hk' : ∀ {b k}, m.blk b = some k → (m.put c kc).blk b = some k := fun {b k} hk => by
    rw [Mem.blk_put, if_neg (by rintro rfl; simp [hcm] at hk)]; exact hk
  cases h with
  | store ha hk hst ht hp hl hn hi =>
    obtain ⟨b'', hb''⟩ := (m.put c kc).exists_fresh
    refine ⟨b'', hb'', ?_⟩
    rw [← storeIn_put hk hcm hs]
    exact .store ha (hk' hk) hst ht hp hl hn hi
  | same ha hk hst ht hd hei hu hn hcc hl hel =>
    rename_i bb n k es ti et ei
    obtain ⟨b'', hb''⟩ := (m.put c kc).exists_fresh
    refine ⟨b'', hb'', ?_⟩
    have hne : bb ≠ c := fun h => by rw [h, hcm] at hk; cases hk
    have : (sameIn m bb k).put c kc = sameIn (m.put c kc) bb k := by
      unfold sameIn
      rw [storeIn_put hk hcm hs, Mem.put_comm _ hne]
    rw [this]
    exact .same ha (hk' hk) hst ht hd hei hu hn hcc hl hel
  | app0 h1 h2 =>
    obtain ⟨b'', hb''⟩ := (m.put c kc).exists_fresh
    exact ⟨b'', hb'', .app0 h1 h2⟩
  | app00 h1 =>
    have hne : b' ≠ c := by rintro rfl; simp at hc
    refine ⟨b', by rw [Mem.blk_put, if_neg hne]; exact hb', ?_⟩
    rw [Mem.put_comm _ hne]
    exact .app00 h1
  | appNil h1 h2 h3 h4 h5 h6 h7 =>
    have hne : b' ≠ c := by rintro rfl; simp at hc
    refine ⟨b', by rw [Mem.blk_put, if_neg hne]; exact hb', ?_⟩
    rw [Mem.put_comm _ hne]
    exact .appNil h1 h2 (srcA_put h3 hcm) h4 h5 h6 h7
  | appOwn h1 h2 h3 h4 h5 hk hst hty hend hbb hm =>
    rename_i n news b o len k
    have hne : b' ≠ c := by rintro rfl; simp at hc
    have hne2 : b ≠ c := by rintro rfl; simp [hcm] at hk
    refine ⟨b', by rw [Mem.blk_put, if_neg hne]; exact hb', ?_⟩
    rw [Mem.put_comm _ hne, Mem.put_comm m hne2]
    exact .appOwn h1 h2 (srcA_put h3 hcm) h4 h5 (hk' hk) hst hty hend hbb hm

theorem Ext.lift {m m1 : Mem} (h : Ext m m1) {c kc} : Ext (m.put c kc) (m1.put c kc) := fun b k hk hd => by
  rw [Mem.blk_put] at hk
  by_cases hb : b = c
  · rw [if_pos hb] at hk
    exact ⟨k, by rw [Mem.blk_put, if_pos hb]; exact hk, hd, rfl, rfl⟩
  · rw [if_neg hb] at hk
    obtain ⟨k', h1, h2, h3, h4⟩ := h b k hk hd
    exact ⟨k', by rw [Mem.blk_put, if_neg hb]; exact h1, h2, h3, h4⟩

theorem loadA_ext {P e m m1 op v} (h : loadA P e m op = some v) (hx : Ext m m1) : loadA P e m1 op = some v := by
  unfold loadA at *
  split at h
  · split at h
    · rename_i b o ha
      cases hk : m.blk b with
      | none => simp [hk] at h
      | some k =>
        simp only [hk, Option.bind_some] at h
        obtain ⟨h1, h⟩ := guardO_some h
        obtain ⟨k', e1, e2, e3, _⟩ := hx b k hk h1
        simp only [e1, Option.bind_some, e3, guardO, if_pos e2]
        exact h
    · exact h
    · simp at h
  · split at h
    · rename_i b o n sz ha
      cases hsi : tiOf P _ with
      | none => simp [hsi] at h
      | some si =>
        simp only [hsi, Option.bind_some] at h ⊢
        cases hdi : tiOf P _ with
        | none => simp [hdi] at h
        | some di =>
          simp only [hdi, Option.bind_some] at h ⊢
          split at h
          · rename_i et h1 h2
            cases hei : tiOf P et with
            | none => simp [hei] at h
            | some ei =>
              simp only [hei, Option.bind_some] at h ⊢
              split at h
              · cases hk : m.blk b with
                | none => simp [hk] at h
                | some k =>
                  simp only [hk, Option.bind_some] at h
                  obtain ⟨h1, h⟩ := guardO_some h
                  obtain ⟨k', e1, e2, e3, _⟩ := hx b k hk h1
                  simp only [e1, Option.bind_some, e3, guardO, if_pos e2]
                  exact h
              · simp at h
          · simp at h
    · exact h
    · exact h
    · simp at h
  · simp at h

theorem allocA_own {P e b op v k} (h : allocA P e b op = some (v, k)) : k.st = .own := by
  unfold allocA at h
  split at h
  · simp [Option.bind_eq_some_iff] at h
    obtain ⟨ti, _, _, rfl⟩ := h; rfl
  · simp only [Option.bind_eq_some_iff] at h
    obtain ⟨ti, _, h⟩ := h
    obtain ⟨_, h⟩ := guardO_some h
    obtain ⟨_, h⟩ := guardO_some h
    simp at h; obtain ⟨_, rfl⟩ := h; rfl
  · simp only [Option.bind_eq_some_iff] at h
    obtain ⟨ti, _, h⟩ := h
    split at h
    · simp only [Option.bind_eq_some_iff] at h
      obtain ⟨ei, _, h⟩ := h
      obtain ⟨_, h⟩ := guardO_some h
      obtain ⟨_, h⟩ := guardO_some h
      simp at h; obtain ⟨_, _, _, rfl⟩ := h; rfl
    · simp at h
  · split at h
    · simp only [Option.bind_eq_some_iff] at h
      obtain ⟨ti, _, h⟩ := h
      split at h
      · simp only [Option.bind_eq_some_iff] at h
        obtain ⟨ei, _, h⟩ := h
        obtain ⟨_, h⟩ := guardO_some h
        obtain ⟨_, h⟩ := guardO_some h
        obtain ⟨_, h⟩ := guardO_some h
        simp at h; obtain ⟨_, rfl⟩ := h; rfl
      · simp at h
    · simp at h
  · split at h
    · simp only [Option.bind_eq_some_iff] at h
      obtain ⟨ti, _, di, _, h⟩ := h
      split at h
      · simp only [Option.bind_eq_some_iff] at h
        obtain ⟨ei, _, h⟩ := h
        split at h
        · obtain ⟨_, h⟩ := guardO_some h
          obtain ⟨_, h⟩ := guardO_some h
          simp at h; obtain ⟨_, rfl⟩ := h; rfl
        · simp at h
      · simp at h
    · simp at h
  · simp at h

section
variable {P : Program} {F : FnRel}

theorem Step.dom (N : Nice F) {flag e m o v m1 b} (h : Step P F flag e m o v m1) (hb : m1.blk b = none) : m.blk b = none := by
  cases h with
  | pur => exact hb
  | lod => exact hb
  | alc hb' hv =>
    rw [Mem.blk_put] at hb
    split at hb
    · simp at hb
    · exact hb
  | ser hb' hv hf => exact hv.dom hb
  | call _ _ _ hc _ => exact N.dom hc hb
theorem Act1.dom (N : Nice F) {all flag o e m v m1 b} (h : Act1 P F all flag o e m v m1) (hb : m1.blk b = none) : m.blk b = none := by
  cases h with
  | skip => exact hb
  | step _ h => exact h.dom N hb
theorem EvO.dom (N : Nice F) {all fl l e m e' m' b} (h : EvO P F all fl l e m e' m') (hb : m'.blk b = none) : m.blk b = none := by
  induction h with
  | nil => exact hb
  | cons _ h _ ih => exact h.dom N (ih hb)

theorem Step.lift (N : Nice F) {flag e m o v m1 b k} (h : Step P F flag e m o v m1) (hk : k.st ≠ .old) (hb : m1.blk b = none) : Step P F flag e (m.put b k) o v (m1.put b k) := by
  have hbm := h.dom N hb
  cases h with
  | pur hv => exact .pur hv
  | lod hv hf => exact .lod (loadA_ext hv (Ext.put hbm)) hf
  | alc hb' hv =>
    rename_i bb kk
    have hne : bb ≠ b := by rintro rfl; simp at hb
    rw [Mem.put_comm _ hne]
    exact .alc (by rw [Mem.blk_put, if_neg hne]; exact hb') hv
  | ser hb' hv hf =>
    obtain ⟨b'', h1, h2⟩ := hv.lift hb' hk hb
    exact .ser h1 h2 fun h => (hf h).lift
  | call h0 h1 h2 h3 hf => exact .call h0 h1 h2 (N.lift h3 hk hb) fun h => (hf h).lift
theorem Act1.lift (N : Nice F) {all flag o e m v m1 b k} (h : Act1 P F all flag o e m v m1) (hk : k.st ≠ .old) (hb : m1.blk b = none) :
    Act1 P F all flag o e (m.put b k) v (m1.put b k) := by
  cases h with
  | skip hg => exact .skip hg
  | step hg h => exact .step hg (h.lift N hk hb)
theorem EvO.lift (N : Nice F) {all fl l e m e' m' b k} (h : EvO P F all fl l e m e' m') (hk : k.st ≠ .old) (hb : m'.blk b = none) : EvO P F all fl l e (m.put b k) e' (m'.put b k) := by
  induction h with
  | nil => exact .nil
  | cons ho h hr ih => exact .cons ho (h.lift N hk (hr.dom N hb)) (ih hb)

theorem EvC.dom (N : Nice F) {c e m x e' m' b} (h : EvC P F c e m x e' m') (hb : m'.blk b = none) : m.blk b = none := by
  induction h with
  | seq_n _ _ ih1 ih2 => exact ih1 (ih2 hb)
  | loop_n _ _ ih1 ih2 => exact ih1 (ih2 hb)
  | region h => exact h.dom N hb
  | draw _ _ _ h => exact h.dom N hb
  | seq_x _ _ ih => exact ih hb
  | cond _ _ ih => exact ih hb
  | block _ ih => exact ih hb
  | scope _ ih => exact ih hb
  | loop_x _ _ ih => exact ih hb
  | weak _ hw ih => exact ih (hw.dom _ hb)
  | weakL hw _ ih => exact hw.dom _ (ih hb)
  | _ => exact hb
theorem EvC.lift (N : Nice F) {c e m x e' m' b k} (h : EvC P F c e m x e' m') (hk : k.st ≠ .old) (hb : m'.blk b = none) : EvC P F c e (m.put b k) x e' (m'.put b k) := by
  induction h with
  | skip => exact .skip
  | label => exact .label
  | exit => exact .exit
  | ret => exact .ret
  | seq_n _ h2 ih1 ih2 => exact .seq_n (ih1 (h2.dom N hb)) (ih2 hb)
  | seq_x _ hx ih => exact .seq_x (ih hb) hx
  | cond hc _ ih => exact .cond hc (ih hb)
  | block _ ih => exact .block (ih hb)
  | scope _ ih => exact .scope (ih hb)
  | loop_n _ h2 ih1 ih2 => exact .loop_n (ih1 (h2.dom N hb)) (ih2 hb)
  | loop_x _ hx ih => exact .loop_x (ih hb) hx
  | region h => exact .region (h.lift N hk hb)
  | draw π Ri hok h => exact .draw π Ri hok (h.lift N hk hb)
  | weak _ hw ih => exact .weak (ih (hw.dom _ hb)) (hw.lift hb)
  | weakL hw h ih => exact .weakL (hw.lift (h.dom N hb)) (ih hb)

theorem resOne_ext {e m m1 r v} (h : resOne P e m r = some v) (hx : Ext m m1) : resOne P e m1 r = some v := by
  unfold resOne at *
  split at h
  · exact h
  · split at h
    · rename_i b o ha
      cases hk : m.blk b with
      | none => simp [hk] at h
      | some k =>
        simp only [hk, Option.bind_some] at h
        obtain ⟨h1, h⟩ := guardO_some h
        obtain ⟨k', e1, e2, e3, _⟩ := hx b k hk h1
        simp only [e1, Option.bind_some, e3, guardO, if_pos e2]
        exact h
    · simp at h
theorem resList_ext {e m m1} (hx : Ext m m1) : ∀ {rs vs}, resList P e m rs = some vs → resList P e m1 rs = some vs
  | [], vs, h => h
  | r :: rs, vs, h => by
    simp only [resList, Option.bind_eq_some_iff] at h ⊢
    obtain ⟨v, h1, us, h2, h3⟩ := h
    exact ⟨v, resOne_ext h1 hx, us, resList_ext hx h2, h3⟩
theorem resA_ext {e m m1 rs v} (h : resA P rs e m = some v) (hx : Ext m m1) : resA P rs e m1 = some v := by
  simp only [resA, Option.bind_eq_some_iff] at h ⊢
  obtain ⟨vs, h1, h2⟩ := h
  exact ⟨vs, resList_ext hx h1, h2⟩

theorem EvF_nice (P : Program) : ∀ d, Nice (EvF P d)
  | 0 => ⟨fun h => h.elim, fun h => h.elim⟩
  | d + 1 => by
    have N := EvF_nice P d
    refine ⟨fun h hb => ?_, fun h hk hb => ?_⟩
    · obtain ⟨m1, v1, h | h, hw⟩ := h
      · obtain ⟨fn, c, x, e', _, _, _, _, h, _, _⟩ := h
        exact h.dom N (hw.dom _ hb)
      · exact h.dom (hw.dom _ hb)
    · obtain ⟨m1, v1, h | h, h8⟩ := h
      · obtain ⟨fn, c, x, e', h1, h2, h3, h4, h5, h6, h7⟩ := h
        have hb1 := h8.dom _ hb
        exact ⟨_, v1, .inl ⟨fn, c, x, e', h1, h2, h3, h4, h5.lift N hk hb1, h6, resA_ext h7 (Ext.put hb1)⟩, h8.lift hb⟩
      · have hb1 := h8.dom _ hb
        exact ⟨_, v1, .inr (h.lift N.lift hb1), h8.lift hb⟩
end

end Go.Proofs.Ytdchdlabdokjnaa.Am
