/- AM: reckoning a derivation: what is to be shown of a piece of code, step by step, and when it holds. -/
import Derived.Test.YtchhknkflhikmaaAm11
namespace Go.Proofs.Ytchhknkflhikmaa.Am
open Go
set_option linter.unusedVariables false
set_option linter.unusedSimpArgs false

/-! ### More functions known, more derivations -/

def FSub (F G : FnRel) : Prop := ∀ f a m v m', F f a m v m' → G f a m v m'

theorem Step.monoF {P F G fl e m o v m1} (h : Step P F fl e m o v m1) (s : FSub F G) : Step P G fl e m o v m1 := by
  cases h with
  | pur h => exact .pur h
  | lod h => exact .lod h
  | alc h1 h2 => exact .alc h1 h2
  | ser h1 h2 h3 => exact .ser h1 h2 h3
  | call h1 h2 h3 h4 h5 => exact .call h1 h2 h3 (s _ _ _ _ _ h4) h5
theorem Act1.monoF {P F G all fl o e m v m1} (h : Act1 P F all fl o e m v m1) (s : FSub F G) : Act1 P G all fl o e m v m1 := by
  cases h with
  | skip h => exact .skip h
  | step h1 h2 => exact .step h1 (h2.monoF s)
theorem EvO.monoF {P F G all fl l e m e' m'} (h : EvO P F all fl l e m e' m') (s : FSub F G) : EvO P G all fl l e m e' m' := by
  induction h with
  | nil => exact .nil
  | cons h1 h2 _ ih => exact .cons h1 (h2.monoF s) ih
theorem EvC.monoF {P F G c e m x e' m'} (h : EvC P F c e m x e' m') (s : FSub F G) : EvC P G c e m x e' m' := by
  induction h with
  | skip => exact .skip
  | label => exact .label
  | exit => exact .exit
  | ret => exact .ret
  | seq_n _ _ h1 h2 => exact .seq_n h1 h2
  | seq_x _ hx h => exact .seq_x h hx
  | cond hc _ h => exact .cond hc h
  | block _ h => exact .block h
  | loop_n _ _ h1 h2 => exact .loop_n h1 h2
  | loop_x _ hx h => exact .loop_x h hx
  | region h => exact .region (h.monoF s)
  | draw π hok h => exact .draw π hok (h.monoF s)
  | weak _ hw h => exact .weak h hw

theorem EvF_step (P : Program) : ∀ d, FSub (EvF P d) (EvF P (d + 1))
  | 0 => fun _ _ _ _ _ h => h.elim
  | d + 1 => fun f a m v m' h => by
    obtain ⟨fn, c, x, e', h1, h2, h3, h4, h5, h6, h7⟩ := h
    exact ⟨fn, c, x, e', h1, h2, h3, h4, h5.monoF (EvF_step P d), h6, h7⟩
theorem EvF_le (P : Program) {d d' : Nat} (h : d ≤ d') : FSub (EvF P d) (EvF P d') := by
  induction h with
  | refl => exact fun _ _ _ _ _ h => h
  | step _ ih => exact fun _ _ _ _ _ h => EvF_step P _ _ _ _ _ _ (ih _ _ _ _ _ h)

def FInf (P : Program) : FnRel := fun f a m v m' => ∃ d, EvF P d f a m v m'

theorem Act1.fin {P all fl o e m v m1} (h : Act1 P (FInf P) all fl o e m v m1) : ∃ d, Act1 P (EvF P d) all fl o e m v m1 := by
  cases h with
  | skip h => exact ⟨0, .skip h⟩
  | step h1 h2 =>
    cases h2 with
    | pur h => exact ⟨0, .step h1 (.pur h)⟩
    | lod h => exact ⟨0, .step h1 (.lod h)⟩
    | alc k1 k2 => exact ⟨0, .step h1 (.alc k1 k2)⟩
    | ser k1 k2 k3 => exact ⟨0, .step h1 (.ser k1 k2 k3)⟩
    | call k1 k2 k3 k4 k5 => obtain ⟨d, k4⟩ := k4; exact ⟨d, .step h1 (.call k1 k2 k3 k4 k5)⟩
theorem EvO.fin {P all fl l e m e' m'} (h : EvO P (FInf P) all fl l e m e' m') : ∃ d, EvO P (EvF P d) all fl l e m e' m' := by
  induction h with
  | nil => exact ⟨0, .nil⟩
  | cons h1 h2 _ ih =>
    obtain ⟨a, h2⟩ := h2.fin
    obtain ⟨b, ih⟩ := ih
    exact ⟨max a b, .cons h1 (h2.monoF (EvF_le P (by omega))) (ih.monoF (EvF_le P (by omega)))⟩
theorem EvC.fin {P c e m x e' m'} (h : EvC P (FInf P) c e m x e' m') : ∃ d, EvC P (EvF P d) c e m x e' m' := by
  induction h with
  | skip => exact ⟨0, .skip⟩
  | label => exact ⟨0, .label⟩
  | exit => exact ⟨0, .exit⟩
  | ret => exact ⟨0, .ret⟩
  | seq_n _ _ h1 h2 =>
    obtain ⟨a, h1⟩ := h1; obtain ⟨b, h2⟩ := h2
    exact ⟨max a b, .seq_n (h1.monoF (EvF_le P (by omega))) (h2.monoF (EvF_le P (by omega)))⟩
  | seq_x _ hx h => obtain ⟨a, h⟩ := h; exact ⟨a, .seq_x h hx⟩
  | cond hc _ h => obtain ⟨a, h⟩ := h; exact ⟨a, .cond hc h⟩
  | block _ h => obtain ⟨a, h⟩ := h; exact ⟨a, .block h⟩
  | loop_n _ _ h1 h2 =>
    obtain ⟨a, h1⟩ := h1; obtain ⟨b, h2⟩ := h2
    exact ⟨max a b, .loop_n (h1.monoF (EvF_le P (by omega))) (h2.monoF (EvF_le P (by omega)))⟩
  | loop_x _ hx h => obtain ⟨a, h⟩ := h; exact ⟨a, .loop_x h hx⟩
  | region h => obtain ⟨a, h⟩ := h.fin; exact ⟨a, .region h⟩
  | draw π hok h => obtain ⟨a, h⟩ := h.fin; exact ⟨a, .draw π hok h⟩
  | weak _ hw h => obtain ⟨a, h⟩ := h; exact ⟨a, .weak h hw⟩

/-! ### What is to be shown -/

def wpF (P : Program) (f : FuncId) (args : List AV) (m : Mem) (K : AV → Mem → Prop) : Prop := ∃ v m', FInf P f args m v m' ∧ K v m'

theorem wpF.mono {P f args m K K'} (h : wpF P f args m K) (hk : ∀ v m', K v m' → K' v m') : wpF P f args m K' := let ⟨v, m', h1, h2⟩ := h; ⟨v, m', h1, hk _ _ h2⟩

/-- The codes one behind the other. -/
inductive EvL (P : Program) (F : FnRel) : List Code → Env → Mem → Ex → Env → Mem → Prop
  | nil {e m} : EvL P F [] e m .normal e m
  | cons_n {c cs e m e1 m1 x e' m'} (h : EvC P F c e m .normal e1 m1) (k : EvL P F cs e1 m1 x e' m') : EvL P F (c :: cs) e m x e' m'
  | cons_x {c cs e m x e' m'} (h : EvC P F c e m x e' m') (hx : x ≠ .normal) : EvL P F (c :: cs) e m x e' m'

def wpL (P : Program) (cs : List Code) (e : Env) (m : Mem) (K : Ex → Env → Mem → Prop) : Prop := ∃ x e' m', EvL P (FInf P) cs e m x e' m' ∧ K x e' m'

/-- What one operation comes to. -/
inductive Out where
  | bad
  | cond (c : Prop) (x : Out)
  | val (v : AV)
  | alloc (v : AV) (k : Blk)
  | store (b : Nat) (k : Blk) (o : Nat) (cs : List AV)
  | app (v : AV) (m : Mem)
  | call (g : FuncId) (args : List AV)

def outV : Option AV → Out
  | some v => .val v
  | none => .bad
def outA : Option (AV × Blk) → Out
  | some (v, k) => .alloc v k
  | none => .bad
def outP : Option (AV × Mem) → Out
  | some (v, k) => .app v k
  | none => .bad

def storeO (P : Program) (m : Mem) (t : TypeId) (a x : AV) : Out :=
  match a with
  | .ptr b o => match m.blk b with
    | some k => match tiOf P t with
      | some ti => .cond (k.st = .own ∧ x.cells.all AV.leaf = true ∧ x.cells.length = ti.size ∧ o + x.cells.length ≤ k.cells.length) (.store b k o x.cells)
      | none => .bad
    | none => .bad
  | _ => .bad


def convO (P : Program) (e : Env) (m : Mem) (s d : TypeId) (x : Operand) : AV → Out
  | .str _ => match (tiOf P d).map TI.d with
    | some (.slice _) => outA (allocA P e m.next (.convert s d x))
    | _ => outV (pureA P e (.convert s d x))
  | .int _ _ => outV (pureA P e (.convert s d x))
  | _ => outV (loadA P e m (.convert s d x))

def callO (P : Program) (e : Env) (c : Call) : AV → Out
  | .fn g first cap => .call g (first ++ c.args.toList.map (ev P e) ++ cap)
  | _ => .bad

def isAppend : Callee → Bool
  | .builtin .append => true
  | _ => false

def callB (P : Program) (e : Env) (m : Mem) (c : Call) : Callee → Out
  | .value f => callO P e c (ev P e f)
  | .builtin .append => outP (serA P e m m.next (.call c))
  | _ => outV (pureA P e (.call c))

def stepO (P : Program) (e : Env) (m : Mem) : Op → Out
  | .load t a => outV (loadA P e m (.load t a))
  | .alloc t => outA (allocA P e m.next (.alloc t))
  | .box t x => outA (allocA P e m.next (.box t x))
  | .buildSlice t n ps => outA (allocA P e m.next (.buildSlice t n ps))
  | .makeSlice t n c => outA (allocA P e m.next (.makeSlice t n c))
  | .convert s d x => convO P e m s d x (ev P e x)
  | .store t a x => storeO P m t (ev P e a) (ev P e x)
  | .call c => callB P e m c c.callee
  | o => outV (pureA P e o)

/-- An operation under a guard, of which slot d holds the value. -/
def gdO (P : Program) (o : Op) (e : Env) (m : Mem) (want : Bool) : AV → Out
  | .bool b => if b = want then stepO P e m o else .val .undef
  | .tup [] => .val .undef
  | _ => .bad

def operO (P : Program) (all : Array Oper) (o : Oper) (e : Env) (m : Mem) : Out :=
  match o.guard with
  | none => stepO P e m o.op
  | some (j, want) => match (all.toList[j]?).bind (·.dst) with
    | none => .val .undef
    | some d => gdO P o.op e m want (e d)

/-- What is to hold once an operation has come to x. -/
def Out.run (P : Program) (fl : Bool) (m : Mem) (K : AV → Mem → Prop) : Out → Prop
  | .bad => False
  | .cond c x => c ∧ x.run P fl m K
  | .val v => K v m
  | .alloc v k => K v (m.put m.next k)
  | .store b k o cs => fl = false ∧ K .undef (storeIn m b k o cs)
  | .app v m1 => K v m1
  | .call g args => wpF P g args m fun v m1 => (fl = true → Ext m m1) ∧ K v m1

def gO (P : Program) (all : Array Oper) : List (Oper × Bool) → Env → Mem → (Env → Mem → Prop) → Prop
  | [], e, m, k => k e m
  | (o, fl) :: its, e, m, k => (operO P all o e m).run P fl m fun v m' => gO P all its (putd e o.dst v) m' k

/-- An operation has come to x; what follows. -/
def gN (P : Program) (all : Array Oper) (d : Option Nat) (fl : Bool) (its : List (Oper × Bool)) (e : Env) (m : Mem) (k : Env → Mem → Prop) (x : Out) : Prop :=
  x.run P fl m fun v m' => gO P all its (putd e d v) m' k

section
variable {P : Program} {all : Array Oper} {d : Option Nat} {fl : Bool} {its : List (Oper × Bool)} {e : Env} {m : Mem} {k : Env → Mem → Prop}

theorem gO_nil : gO P all [] e m k = k e m := rfl
theorem gO_cons {o} : gO P all ((o, fl) :: its) e m k = gN P all o.dst fl its e m k (operO P all o e m) := rfl
theorem gN_cond {c x} : gN P all d fl its e m k (.cond c x) = (c ∧ gN P all d fl its e m k x) := rfl
theorem gN_val {v} : gN P all d fl its e m k (.val v) = gO P all its (putd e d v) m k := rfl
theorem gN_bad : gN P all d fl its e m k .bad = False := rfl
theorem outV_some {v} : outV (some v) = .val v := rfl
theorem outV_none : outV none = .bad := rfl
theorem outV_guard {c : Prop} [Decidable c] {x : Option AV} : gN P all d fl its e m k (outV (guardO c x)) = (c ∧ gN P all d fl its e m k (outV x)) := by
  unfold guardO; split
  · simp_all
  · simp_all [outV, gN, Out.run]
theorem outA_guard {c : Prop} [Decidable c] {x : Option (AV × Blk)} : gN P all d fl its e m k (outA (guardO c x)) = (c ∧ gN P all d fl its e m k (outA x)) := by
  unfold guardO; split
  · simp_all
  · simp_all [outA, gN, Out.run]
theorem outP_guard {c : Prop} [Decidable c] {x : Option (AV × Mem)} : gN P all d fl its e m k (outP (guardO c x)) = (c ∧ gN P all d fl its e m k (outP x)) := by
  unfold guardO; split
  · simp_all
  · simp_all [outP, gN, Out.run]
theorem gN_store {b k' o cs} : gN P all d true its e m k (.store b k' o cs) = False := by simp [gN, Out.run]

theorem putd_lk {L d v} : putd (lk L) (some d) v = lk ((d, v) :: L) := rfl
theorem putd_lk0 {L v} : putd (lk L) none v = lk L := rfl
theorem lk_cons {a v L i} : lk ((a, v) :: L) i = if i = a then v else lk L i := rfl
theorem lk_nil {i} : lk [] i = .any := rfl
theorem ev_tmp {t} : ev P e (.tmp t) = e t := rfl
theorem gdO_tt {o} : gdO P o e m true (.bool true) = stepO P e m o := rfl
theorem gdO_ff {o} : gdO P o e m false (.bool false) = stepO P e m o := rfl
theorem gdO_tf {o} : gdO P o e m true (.bool false) = .val .undef := rfl
theorem gdO_ft {o} : gdO P o e m false (.bool true) = .val .undef := rfl
theorem gdO_u {o w} : gdO P o e m w .undef = .val .undef := rfl

/-! ### What is left over -/

theorem gN_split {o : Op} {want b : Bool} {L : List (Nat × AV)} (i : Nat) (hi : lk L i = .bool b)
    (h1 : b = true → gN P all d fl its (lk ((i, .bool true) :: L)) m k (gdO P o (lk ((i, .bool true) :: L)) m want (.bool true)))
    (h2 : b = false → gN P all d fl its (lk ((i, .bool false) :: L)) m k (gdO P o (lk ((i, .bool false) :: L)) m want (.bool false))) :
    gN P all d fl its (lk L) m k (gdO P o (lk L) m want (.bool b)) := by
  have hL : lk ((i, .bool b) :: L) = lk L := by
    funext j
    simp only [lk]
    split
    · subst_vars; exact hi.symm
    · rfl
  cases b with
  | true => have := h1 rfl; rw [hL] at this; exact this
  | false => have := h2 rfl; rw [hL] at this; exact this

theorem gN_call {g args} (Q : AV → Mem → Prop) (h : wpF P g args m Q) (hk : ∀ v m', Q v m' → (fl = true → Ext m m') ∧ gO P all its (putd e d v) m' k) :
    gN P all d fl its e m k (.call g args) := wpF.mono h hk

theorem gN_call_of {g args} (h : wpF P g args m fun v m' => (fl = true → Ext m m') ∧ gO P all its (putd e d v) m' k) : gN P all d fl its e m k (.call g args) := h

/-- What lies outside the blocks xs stays as it was. -/
def Keep (xs : List Nat) (m m' : Mem) : Prop := ∀ b, b ∉ xs → ∀ k, m.blk b = some k → m'.blk b = some k

theorem gN_alloc_ptr {bk} (h : ∀ b m', m.blk b = none → m'.blk b = some bk → Keep [] m m' → gO P all its (putd e d (.ptr b 0)) m' k) :
    gN P all d fl its e m k (.alloc (.ptr m.next 0) bk) := by
  refine h _ _ m.fresh (by simp) fun b _ kb hb => ?_
  rw [Mem.blk_put, if_neg (by rintro rfl; simp [m.fresh] at hb)]; exact hb
theorem gN_alloc_sl {bk n s} (h : ∀ b m', m.blk b = none → m'.blk b = some bk → Keep [] m m' → gO P all its (putd e d (.sl b 0 n s)) m' k) :
    gN P all d fl its e m k (.alloc (.sl m.next 0 n s) bk) := by
  refine h _ _ m.fresh (by simp) fun b _ kb hb => ?_
  rw [Mem.blk_put, if_neg (by rintro rfl; simp [m.fresh] at hb)]; exact hb

theorem kill_keep : ∀ (bs : List Nat) (m : Mem), Keep bs m (m.kill bs)
  | [], m => fun b _ k hk => hk
  | x :: bs, m => fun b hb k hk => by
    simp only [List.mem_cons, not_or] at hb
    simp only [Mem.kill]
    split
    · split
      · exact kill_keep bs _ b hb.2 k (by rw [Mem.blk_put, if_neg hb.1]; exact hk)
      · exact kill_keep bs _ b hb.2 k hk
    · exact kill_keep bs _ b hb.2 k hk
theorem kill_self : ∀ (bs : List Nat) (m : Mem) (b : Nat) (k : Blk), m.blk b = some k → k.st = .own → (m.kill bs).blk b = some k
  | [], m, b, k, h, hs => h
  | x :: bs, m, b, k, h, hs => by
    simp only [Mem.kill]
    split
    · rename_i kx hkx
      split
      · rename_i ho
        refine kill_self bs _ b k ?_ hs
        rw [Mem.blk_put, if_neg]
        · exact h
        · rintro rfl; rw [h] at hkx; cases hkx; rw [hs] at ho; cases ho
      · exact kill_self bs _ b k h hs
    · exact kill_self bs _ b k h hs

theorem gN_store_of {b o cs bk} (hb : bk.st = .own) (hf : fl = false)
    (h : ∀ m', m'.blk b = some { bk with cells := bk.cells.take o ++ cs ++ bk.cells.drop (o + cs.length), anc := [] } → Keep (b :: bk.anc) m m' → gO P all its (putd e d .undef) m' k) :
    gN P all d fl its e m k (.store b bk o cs) := by
  refine ⟨hf, h _ ?_ ?_⟩
  · exact kill_self _ _ _ _ (by rw [Mem.blk_put, if_pos rfl]) hb
  · intro x hx kx hkx
    simp only [List.mem_cons, not_or] at hx
    exact kill_keep _ _ _ hx.2 _ (by rw [Mem.blk_put, if_neg hx.1]; exact hkx)

theorem gN_app_id {v} (h : gO P all its (putd e d v) m k) : gN P all d fl its e m k (.app v m) := h
theorem gN_app_new {n s bk} (h : ∀ b m', m.blk b = none → m'.blk b = some bk → Keep [] m m' → gO P all its (putd e d (.sl b 0 n s)) m' k) :
    gN P all d fl its e m k (.app (.sl m.next 0 n s) (m.put m.next bk)) := by
  refine h _ _ m.fresh (by simp) fun b _ kb hb => ?_
  rw [Mem.blk_put, if_neg (by rintro rfl; simp [m.fresh] at hb)]; exact hb
theorem gN_app_own {n s c kc bk} (hc : m.blk c ≠ none)
    (h : ∀ b m', m.blk b = none → m'.blk b = some bk → m'.blk c = some kc → Keep [c] m m' → gO P all its (putd e d (.sl b 0 n s)) m' k) :
    gN P all d fl its e m k (.app (.sl m.next 0 n s) ((m.put c kc).put m.next bk)) := by
  have hne : c ≠ m.next := by rintro rfl; exact hc m.fresh
  refine h _ _ m.fresh (by simp) ?_ fun b hb kb hkb => ?_
  · rw [Mem.blk_put, if_neg hne, Mem.blk_put, if_pos rfl]
  · rw [Mem.blk_put, if_neg (by rintro rfl; simp [m.fresh] at hkb), Mem.blk_put, if_neg (by simpa using hb)]; exact hkb

theorem Keep.trans {xs ys m m' m''} (h : Keep xs m m') (k : Keep ys m' m'') : Keep (xs ++ ys) m m'' := fun b hb kb hkb => by
  simp only [List.mem_append, not_or] at hb
  exact k b hb.2 kb (h b hb.1 kb hkb)
theorem Keep.mono {xs ys m m'} (h : Keep xs m m') (hx : ∀ b ∈ xs, b ∈ ys) : Keep ys m m' := fun b hb => h b fun hc => hb (hx b hc)
theorem Keep.refl (xs m) : Keep xs m m := fun _ _ _ h => h
theorem Keep.ext {m m'} (h : Keep [] m m') : Ext m m' := fun b k hb hd => ⟨k, h b (by simp) k hb, hd, rfl, rfl⟩
end

/-! ### Sound -/

theorem SerR_ext {P e m b' c v m1} (hb : m.blk b' = none) (h : SerR P e m b' (.call c) v m1) : Ext m m1 := by
  cases h with
  | app0 => exact Ext.refl _
  | appNil => exact Ext.put hb
  | appOwn h1 h2 h3 h4 h5 hk hst hty hend hbb hm =>
    rename_i n news b o len k
    have hne : b ≠ b' := by rintro rfl; simp [hb] at hk
    intro x kx hx hd
    by_cases hxb : x = b
    · subst hxb
      rw [hk] at hx; cases hx
      exact ⟨{ k with st := .old }, by rw [Mem.blk_put, if_neg hne, Mem.blk_put, if_pos rfl], by simp, rfl, rfl⟩
    · exact ⟨kx, by rw [Mem.blk_put, if_neg (by rintro rfl; simp [hb] at hx), Mem.blk_put, if_neg hxb]; exact hx, hd, rfl, rfl⟩

section
variable {P : Program} {fl : Bool} {e : Env} {m : Mem} {K : AV → Mem → Prop}

theorem runV {op x} (hx : ∀ v, x = some v → pureA P e op = some v ∨ loadA P e m op = some v) (h : (outV x).run P fl m K) : ∃ v m1, Step P (FInf P) fl e m op v m1 ∧ K v m1 := by
  cases x with
  | none => exact h.elim
  | some v => rcases hx v rfl with h1 | h1; exact ⟨v, m, .pur h1, h⟩; exact ⟨v, m, .lod h1, h⟩
theorem runA {op} (h : (outA (allocA P e m.next op)).run P fl m K) : ∃ v m1, Step P (FInf P) fl e m op v m1 ∧ K v m1 := by
  cases hx : allocA P e m.next op with
  | none => rw [hx] at h; exact h.elim
  | some vk => obtain ⟨v, k⟩ := vk; rw [hx] at h; exact ⟨v, _, .alc m.fresh hx, h⟩

theorem stepO_sound {op} (h : (stepO P e m op).run P fl m K) : ∃ v m1, Step P (FInf P) fl e m op v m1 ∧ K v m1 := by
  unfold stepO at h
  split at h
  · exact runV (fun v hv => .inr hv) h
  · exact runA h
  · exact runA h
  · exact runA h
  · exact runA h
  · unfold convO at h
    split at h
    · split at h
      · exact runA h
      · exact runV (fun v hv => .inl hv) h
    · exact runV (fun v hv => .inl hv) h
    · exact runV (fun v hv => .inr hv) h
  · unfold storeO at h
    split at h
    · rename_i b o ha
      split at h
      · rename_i k hk
        split at h
        · rename_i ti hti
          obtain ⟨⟨h1, h2, h3, h4⟩, h5, h6⟩ := h
          exact ⟨_, _, .ser m.fresh (.store ha hk h1 hti h2 h3 h4) (by simp [h5]), h6⟩
        · exact h.elim
      · exact h.elim
    · exact h.elim
  · rename_i c
    unfold callB at h
    split at h
    · rename_i f hf
      unfold callO at h
      split at h
      · rename_i g first cap hg
        obtain ⟨v, m1, h1, h2, h3⟩ := h
        exact ⟨v, m1, .call rfl hf hg h1 h2, h3⟩
      · exact h.elim
    · cases hx : serA P e m m.next (.call c) with
      | none => rw [hx] at h; exact h.elim
      | some vk =>
        obtain ⟨v, m1⟩ := vk
        rw [hx] at h
        have hs := serA_SerR hx
        exact ⟨v, m1, .ser m.fresh hs (fun _ => SerR_ext m.fresh hs), h⟩
    · exact runV (fun v hv => .inl hv) h
  · exact runV (fun v hv => .inl hv) h

theorem operO_sound {all o} (h : (operO P all o e m).run P fl m K) : ∃ v m1, Act1 P (FInf P) all fl o e m v m1 ∧ K v m1 := by
  unfold operO at h
  split at h
  · rename_i hg
    obtain ⟨v, m1, h1, h2⟩ := stepO_sound h
    exact ⟨v, m1, .step (by rw [hg]; rfl) h1, h2⟩
  · rename_i j want hg
    split at h
    · rename_i hd
      refine ⟨.undef, m, .skip ?_, h⟩
      rw [hg]; simp only [guardA]
      rw [← Array.getElem?_toList, hd]
    · rename_i d hd
      have hga : guardA all e o.guard = match e d with
          | .bool b => some (b == want)
          | .tup [] => some false
          | _ => none := by
        rw [hg]; simp only [guardA]
        rw [← Array.getElem?_toList, hd]
        rfl
      unfold gdO at h
      split at h
      · rename_i b hb
        rw [hb] at hga
        split at h
        · rename_i hw
          subst hw
          obtain ⟨v, m1, h1, h2⟩ := stepO_sound h
          exact ⟨v, m1, .step (by rw [hga]; simp) h1, h2⟩
        · rename_i hw
          exact ⟨.undef, m, .skip (by rw [hga]; simp [hw]), h⟩
      · rename_i hb
        rw [hb] at hga
        exact ⟨.undef, m, .skip hga, h⟩
      · exact h.elim
end

theorem clsOf_app {P} {c : Call} (h : c.callee = .builtin .append) : clsOf P (.call c) = .ser := by
  obtain ⟨callee, args, tys⟩ := c; simp only at h; subst h; rfl
theorem Step.flag {P F b b' e m o v m1} (h : Step P F b e m o v m1) (hc : clsOf P o ≠ .ser) : Step P F b' e m o v m1 := by
  cases h with
  | pur h => exact .pur h
  | lod h => exact .lod h
  | alc h1 h2 => exact .alc h1 h2
  | ser h1 h2 h3 =>
    exfalso
    cases h2 with
    | store => exact hc rfl
    | app0 hx => exact hc (clsOf_app hx.callee)
    | appNil hx => exact hc (clsOf_app hx.callee)
    | appOwn hx => exact hc (clsOf_app hx.callee)
  | call h1 h2 h3 h4 h5 =>
    exfalso
    subst h1
    rename_i c _ _ _ _
    obtain ⟨callee, args, tys⟩ := c
    cases h2
    exact hc rfl

/-- The operations that stand at the places of l, with their marks. -/
inductive Match (P : Program) (all : Array Oper) (fl : Nat → Bool) : List Nat → List (Oper × Bool) → Prop
  | nil : Match P all fl [] []
  | cons {i o l its b} (h : all[i]? = some o) (hb : fl i = b ∨ clsOf P o.op ≠ .ser) (k : Match P all fl l its) : Match P all fl (i :: l) ((o, b) :: its)

theorem gO_sound {P all fl} : ∀ {l its e m k}, Match P all fl l its → gO P all its e m k → ∃ e' m', EvO P (FInf P) all fl l e m e' m' ∧ k e' m'
  | _, _, e, m, k, .nil, h => ⟨e, m, .nil, h⟩
  | _, _, e, m, k, .cons ho hb hm, h => by
    simp only [gO] at h
    obtain ⟨v, m1, h1, h2⟩ := operO_sound h
    obtain ⟨e', m', h3, h4⟩ := gO_sound hm h2
    refine ⟨e', m', .cons ho ?_ h3, h4⟩
    rcases hb with hb | hb
    · exact hb ▸ h1
    · cases h1 with
      | skip h => exact .skip h
      | step h h2 => exact .step h (h2.flag hb)

def itemsOf : List Oper → List (Oper × Bool)
  | [] => []
  | o :: os => (o, false) :: itemsOf os

theorem Match_items (P : Program) (all : Array Oper) (fl : Nat → Bool) : ∀ (n : Nat) (os : List Oper), (∀ i, all[n + i]? = os[i]?) → (∀ i, i < os.length → fl (n + i) = false) →
    Match P all fl (List.range' n os.length) (itemsOf os)
  | n, [], h, hf => .nil
  | n, o :: os, h, hf => by
    refine .cons (by simpa using h 0) (.inl (by simpa using hf 0 (by simp))) (Match_items P all fl (n + 1) os (fun i => ?_) fun i hi => ?_)
    · have := h (i + 1); rw [show n + 1 + i = n + (i + 1) by omega, this]; simp
    · have := hf (i + 1) (by simpa using hi); rw [show n + 1 + i = n + (i + 1) by omega]; exact this

theorem Match_all (P : Program) (all : Array Oper) (fl : Nat → Bool) (hf : ∀ i, i < all.size → fl i = false) : Match P all fl (List.range all.size) (itemsOf all.toList) := by
  rw [List.range_eq_range']
  have := Match_items P all fl 0 all.toList (fun i => by simp) (fun i hi => by simpa using hf i (by simpa using hi))
  simpa using this

/-- The operations of a region in the order π, with their marks as bs has them. -/
def itemsAt (os : List Oper) : List Nat → List Bool → List (Oper × Bool)
  | [], _ => []
  | i :: l, bs => match os[i]? with
    | some o => (o, bs.headD false) :: itemsAt os l bs.tail
    | none => []

def flagsOk (P : Program) (os : List Oper) (f : Nat → Bool) : List Nat → List Bool → Bool
  | [], _ => true
  | i :: l, bs => (f i == bs.headD false || (match os[i]? with
    | some o => clsOf P o.op != .ser
    | none => false)) && flagsOk P os f l bs.tail

def inB (n : Nat) : List Nat → Bool
  | [] => true
  | i :: l => decide (i < n) && inB n l

theorem Match_at (P : Program) (all : Array Oper) (fl : Nat → Bool) : ∀ (l : List Nat) (bs : List Bool), inB all.size l = true → flagsOk P all.toList fl l bs = true → Match P all fl l (itemsAt all.toList l bs)
  | [], bs, _, _ => .nil
  | i :: l, bs, h1, h2 => by
    simp only [inB, Bool.and_eq_true, decide_eq_true_eq] at h1
    have hi : all.toList[i]? = some all[i] := by simp [h1.1]
    simp only [flagsOk, Bool.and_eq_true, Bool.or_eq_true, beq_iff_eq, hi, bne_iff_ne] at h2
    simp only [itemsAt, hi]
    exact .cons (by simp [h1.1]) h2.1 (Match_at P all fl l bs.tail h1.2 h2.2)

def pickL (ds : List Nat) (e : Env) : List (Nat × AV) := match ds with
  | [] => []
  | d :: ds => (d, e d) :: pickL ds e

theorem pickL_weak (e : Env) : ∀ (ds : List Nat) (i : Nat), lk (pickL ds e) i = e i ∨ lk (pickL ds e) i = .any
  | [], i => .inr rfl
  | d :: ds, i => by
    simp only [pickL, lk]
    split
    · subst_vars; exact .inl rfl
    · exact pickL_weak e ds i

section
variable {P : Program} {cs : List Code} {L : List (Nat × AV)} {e : Env} {m : Mem} {K : Ex → Env → Mem → Prop}

theorem wpL_nil (h : K .normal e m) : wpL P [] e m K := ⟨_, _, _, .nil, h⟩
theorem wpL_seq {a b} (h : wpL P (a :: b :: cs) e m K) : wpL P (.seq a b :: cs) e m K := by
  obtain ⟨x, e', m', h, hk⟩ := h
  refine ⟨x, e', m', ?_, hk⟩
  cases h with
  | cons_x h hx => exact .cons_x (.seq_x h hx) hx
  | cons_n h k =>
    cases k with
    | cons_x k hx => exact .cons_x (.seq_n h k) hx
    | cons_n k1 k2 => exact .cons_n (.seq_n h k1) k2
theorem wpL_skip (h : wpL P cs e m K) : wpL P (.skip :: cs) e m K := let ⟨x, e', m', h, hk⟩ := h; ⟨x, e', m', .cons_n .skip h, hk⟩
theorem wpL_label {l} (h : wpL P cs e m K) : wpL P (.label l :: cs) e m K := let ⟨x, e', m', h, hk⟩ := h; ⟨x, e', m', .cons_n .label h, hk⟩
theorem wpL_ret (h : K .ret e m) : wpL P (.ret :: cs) e m K := ⟨_, _, _, .cons_x .ret (by simp), h⟩
theorem wpL_exit {id} (h : K (.exit id) e m) : wpL P (.exit id :: cs) e m K := ⟨_, _, _, .cons_x .exit (by simp), h⟩
theorem wpL_cond {c a b t} (hc : ev P e c = .bool t) (h1 : t = true → wpL P (a :: cs) e m K) (h2 : t = false → wpL P (b :: cs) e m K) : wpL P (.cond c a b :: cs) e m K := by
  have : ∀ c', (if t then a else b) = c' → wpL P (c' :: cs) e m K → wpL P (.cond c a b :: cs) e m K := by
    rintro c' hc' ⟨x, e', m', h, hk⟩
    refine ⟨x, e', m', ?_, hk⟩
    cases h with
    | cons_x h hx => exact .cons_x (.cond hc (hc' ▸ h)) hx
    | cons_n h k => exact .cons_n (.cond hc (hc' ▸ h)) k
  cases t with
  | true => exact this a rfl (h1 rfl)
  | false => exact this b rfl (h2 rfl)
theorem wpL_block {id c} (h : ∀ k : Ex → Env → Mem → Prop, (∀ e m, wpL P cs e m K → k .normal e m) → (∀ e m, wpL P cs e m K → k (.exit id) e m) →
    (∀ x e m, x ≠ .normal → x ≠ .exit id → K x e m → k x e m) → wpL P [c] e m k) : wpL P (.block id c :: cs) e m K := by
  obtain ⟨x, e', m', h, hk⟩ := h (fun x e m => ((x = .normal ∨ x = .exit id) ∧ wpL P cs e m K) ∨ (x ≠ .normal ∧ x ≠ .exit id ∧ K x e m)) (fun e m h => .inl ⟨.inl rfl, h⟩)
    (fun e m h => .inl ⟨.inr rfl, h⟩) (fun x e m h1 h2 h => .inr ⟨h1, h2, h⟩)
  have hc : EvC P (FInf P) c e m x e' m' := by
    cases h with
    | cons_x h hx => exact h
    | cons_n h k => cases k; exact h
  rcases hk with ⟨hx, x2, e2, m2, k, hk⟩ | ⟨h1, h2, hk⟩
  · refine ⟨x2, e2, m2, .cons_n (e1 := e') (m1 := m') ?_ k, hk⟩
    have := EvC.block (id := id) hc
    rcases hx with rfl | rfl
    · rw [if_neg (by simp)] at this; exact this
    · rw [if_pos rfl] at this; exact this
  · refine ⟨x, e', m', .cons_x ?_ h1, hk⟩
    have := EvC.block (id := id) hc
    rw [if_neg h2] at this; exact this
theorem wpL_loop {c} (I : Nat → Env → Mem → Prop) (n : Nat) (h0 : I n e m)
    (hs : ∀ j e m, I j e m → ∀ k : Ex → Env → Mem → Prop, (∀ j' e' m', j' < j → I j' e' m' → k .normal e' m') → (∀ x e m, x ≠ .normal → K x e m → k x e m) → wpL P [c] e m k) :
    wpL P (.loop c :: cs) e m K := by
  have : ∀ n e m, I n e m → ∃ x e' m', EvC P (FInf P) (.loop c) e m x e' m' ∧ x ≠ .normal ∧ K x e' m' := by
    intro n
    induction n using Nat.strongRecOn with
    | _ n ih =>
      intro e m hI
      obtain ⟨x, e', m', h, hk⟩ := hs n e m hI (fun x e' m' => (x = .normal ∧ ∃ j < n, I j e' m') ∨ (x ≠ .normal ∧ K x e' m'))
        (fun j e m hj h => .inl ⟨rfl, j, hj, h⟩) (fun x e m hx h => .inr ⟨hx, h⟩)
      have hc : EvC P (FInf P) c e m x e' m' := by
        cases h with
        | cons_x h hx => exact h
        | cons_n h k => cases k; exact h
      rcases hk with ⟨rfl, j, hj, hI'⟩ | ⟨hx, hk⟩
      · obtain ⟨x2, e2, m2, h2, h3, h4⟩ := ih j hj e' m' hI'
        exact ⟨x2, e2, m2, .loop_n hc h2, h3, h4⟩
      · exact ⟨x, e', m', .loop_x hc hx, hx, hk⟩
  obtain ⟨x, e', m', h1, h2, h3⟩ := this n e m h0
  exact ⟨x, e', m', .cons_x h1 h2, h3⟩

theorem wpL_code {c e' m'} (h1 : EvC P (FInf P) c e m .normal e' m') (h : wpL P cs e' m' K) : wpL P (c :: cs) e m K :=
  let ⟨x, e2, m2, h, hk⟩ := h; ⟨x, e2, m2, .cons_n h1 h, hk⟩

theorem wpL_region {id ops} (ds : List Nat) (h : ∀ k : Env → Mem → Prop, (∀ e m, wpL P cs (lk (pickL ds e)) m K → k e m) → gO P ops (itemsOf ops.toList) e m k) :
    wpL P (.region id ops false :: cs) e m K := by
  obtain ⟨e', m', h1, h2⟩ := gO_sound (Match_all P ops fl0 fun _ _ => rfl) (h _ fun e m h => h)
  exact wpL_code (.weak (.region h1) (pickL_weak e' ds)) h2

/-- A region that draws its order: the order π will do, the marks being bs. -/
theorem wpL_draw {id ops} (ds : List Nat) (π : List Nat) (bs : List Bool) (hok : drawOk P ops π = true) (hin : inB ops.size π = true) (hfl : flagsOk P ops.toList (flOf P ops (tabOf ops [] π) π) π bs = true)
    (h : ∀ k : Env → Mem → Prop, (∀ e m, wpL P cs (lk (pickL ds e)) m K → k e m) → gO P ops (itemsAt ops.toList π bs) e m k) : wpL P (.region id ops true :: cs) e m K := by
  obtain ⟨e', m', h1, h2⟩ := gO_sound (Match_at P ops _ π bs hin hfl) (h _ fun e m h => h)
  exact wpL_code (.weak (.draw π hok h1) (pickL_weak e' ds)) h2

theorem wpL_skipP (ds : List Nat) (h : wpL P cs (lk (pickL ds e)) m K) : wpL P (.skip :: cs) e m K := wpL_code (.weak .skip (pickL_weak e ds)) h

theorem wpF_intro {f fn c args} {K : AV → Mem → Prop} (hf : P.funcs[f]? = some fn) (hb : fn.body = some c) (hn : fn.name ≠ "runtime.NumGoroutine") (hd : dstOk fn.ntmps c = true)
    (h : ∀ k : Ex → Env → Mem → Prop, (∀ x e m' v, (x = .normal ∨ x = .ret) → resA P fn.results.toList e m' = some v → K v m' → k x e m') → wpL P [c] (lk (argL 0 args)) m k) :
    wpF P f args m K := by
  obtain ⟨x, e', m', h, hx, v, h1, h2⟩ := h (fun x e m' => (x = .normal ∨ x = .ret) ∧ ∃ v, resA P fn.results.toList e m' = some v ∧ K v m') (fun x e m' v h1 h2 h3 => ⟨h1, v, h2, h3⟩)
  have hc : EvC P (FInf P) c (lk (argL 0 args)) m x e' m' := by
    cases h with
    | cons_x h hx => exact h
    | cons_n h k => cases k; exact h
  obtain ⟨d, hc⟩ := hc.fin
  exact ⟨v, m', ⟨d + 1, fn, c, x, e', hf, hb, hn, hd, hc, hx, h1⟩, h2⟩
end

end Go.Proofs.Ytchhknkflhikmaa.Am
