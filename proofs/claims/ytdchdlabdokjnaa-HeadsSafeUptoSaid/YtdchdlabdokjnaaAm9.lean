/- AM: operations that do not look at each other change places; what a piece of code does is what the machine does. -/
import Derived.Test.YtdchdlabdokjnaaAm8
import Derived.LoopN
namespace Go.Proofs.Ytdchdlabdokjnaa.Am
set_option linter.unusedSectionVars false
open Go
open Go.RowKit (Below)
set_option linter.unusedVariables false
set_option linter.unusedSimpArgs false
variable [Tab]

/-! ### What an operation looks at -/

theorem map_ev_congr {P : Program} {e e2 : Env} {xs : List Operand} (h : ∀ x ∈ xs, ev P e x = ev P e2 x) : xs.map (ev P e) = xs.map (ev P e2) := List.map_congr_left h

theorem parts_congr {P : Program} {e e2 : Env} {ps : List (Nat × Operand)} (h : ∀ x ∈ ps.map (·.2), ev P e x = ev P e2 x) :
    (ps.map fun (i, x) => (i, ev P e x)) = (ps.map fun (i, x) => (i, ev P e2 x)) := by
  apply List.map_congr_left
  intro p hp
  obtain ⟨i, x⟩ := p
  simp only [h x (List.mem_map.2 ⟨(i, x), hp, rfl⟩)]

theorem pureA_congr {P : Program} {e e2 : Env} {o : Op} (h : ∀ x ∈ o.operands, ev P e x = ev P e2 x) : pureA P e o = pureA P e2 o := by
  cases o <;> simp only [Op.operands, pureA] at h ⊢
  case move x => rw [h x (by simp)]
  case assign x => rw [h x (by simp)]
  case pick c x y => rw [h c (by simp), h x (by simp), h y (by simp)]
  case nilCheck x => rw [h x (by simp)]
  case binOp op t x y u => rw [h x (by simp), h y (by simp)]
  case unOp op t x => rw [h x (by simp)]
  case convert s d x => rw [h x (by simp)]
  case build t ps => rw [parts_congr fun x hx => h x (by simpa using hx)]
  case field t x f => rw [h x (by simp)]
  case fieldAddr t x f => rw [h x (by simp)]
  case indexAddr t x i => rw [h x (by simp), h i (by simp)]
  case index t x i => rw [h x (by simp), h i (by simp)]
  case extract x i => rw [h x (by simp)]
  case slice t x lo hi mx =>
    cases mx with
    | some _ => rfl
    | none =>
      simp only [pureA]
      rw [h x (by simp)]
      have h1 : lo.map (ev P e) = lo.map (ev P e2) := by
        cases lo with
        | none => rfl
        | some y => simp only [Option.map_some]; rw [h y (by simp)]
      have h2 : hi.map (ev P e) = hi.map (ev P e2) := by
        cases hi with
        | none => rfl
        | some y => simp only [Option.map_some]; rw [h y (by simp)]
      rw [h1, h2]
  case makeFunc fn first cap =>
    cases fn <;> try rfl
    simp only [pureA]
    rw [map_ev_congr fun x hx => h x (by simp at hx ⊢; exact .inl hx), map_ev_congr fun x hx => h x (by simp at hx ⊢; exact .inr hx)]
  case call c =>
    obtain ⟨callee, args, tys⟩ := c
    cases callee <;> try rfl
    simp only [pureA]
    rw [map_ev_congr fun x hx => h x (by simp [Call.operands] at hx ⊢; exact hx)]

theorem loadA_congr {P : Program} {e e2 : Env} {m : Mem} {o : Op} (h : ∀ x ∈ o.operands, ev P e x = ev P e2 x) : loadA P e m o = loadA P e2 m o := by
  cases o <;> simp only [Op.operands, loadA] at h ⊢
  case load t x => rw [h x (by simp)]
  case convert s d x => rw [h x (by simp)]

theorem allocA_congr {P : Program} {e e2 : Env} {b : Nat} {o : Op} (h : ∀ x ∈ o.operands, ev P e x = ev P e2 x) : allocA P e b o = allocA P e2 b o := by
  cases o <;> simp only [Op.operands, allocA] at h ⊢
  case box t x => rw [h x (by simp)]
  case buildSlice t n ps => rw [parts_congr fun x hx => h x (by simpa using hx)]
  case makeSlice t l c => rw [h l (by simp), h c (by simp)]
  case convert s d x => rw [h x (by simp)]

theorem AppCtx.congr {P e e2 c s x et ei n} (h : AppCtx P e c s x et ei n) (hc : ∀ x ∈ c.operands, ev P e x = ev P e2 x) : AppCtx P e2 c s x et ei n :=
  ⟨h.callee, by rw [← map_ev_congr fun x hx => hc x (by simp [Call.operands]; right; exact Array.mem_toList_iff.1 hx)]; exact h.args, h.tys, h.hei, h.pos, h.len⟩

theorem SerR.congr {P : Program} {e e2 : Env} {m : Mem} {b' : Nat} {o : Op} {v m1} (hs : SerR P e m b' o v m1) (h : ∀ x ∈ o.operands, ev P e x = ev P e2 x) : SerR P e2 m b' o v m1 := by
  cases hs with
  | store ha hk hst ht hp hl hn hi =>
    rename_i t ad x b o k ti
    have h1 := h ad (by simp [Op.operands])
    have h2 := h x (by simp [Op.operands])
    rw [h1] at ha
    rw [h2] at hl hn hi ⊢
    exact .store ha hk hst ht hp hl hn hi
  | same hx hk hst ht hd hei hu hn hc hl hel => exact .same (by rw [← h _ (by simp [Op.operands])]; exact hx) hk hst ht hd hei hu hn hc hl hel
  | app0 ctx hs => exact .app0 (ctx.congr h) hs
  | app00 ctx => exact .app00 (ctx.congr h)
  | appNil ctx hn hs hl hlf hb hm => exact .appNil (ctx.congr h) hn hs hl hlf hb hm
  | appOwn ctx hn hs hl hlf hk hst hty hend hb hm => exact .appOwn (ctx.congr h) hn hs hl hlf hk hst hty hend hb hm

section
variable {P : Program} {F : FnRel}

theorem Step.congr {flag} {e e2 : Env} {m : Mem} {o : Op} {v m1} (hs : Step P F flag e m o v m1) (h : ∀ x ∈ o.operands, ev P e x = ev P e2 x) : Step P F flag e2 m o v m1 := by
  cases hs with
  | pur hv => exact .pur (by rw [← pureA_congr h]; exact hv)
  | lod hv hf => exact .lod (by rw [← loadA_congr h]; exact hv) fun h2 m2 => by rw [← loadA_congr h]; exact hf h2 m2
  | alc hb hv => exact .alc hb (by rw [← allocA_congr h]; exact hv)
  | ser hb hv hf => exact .ser hb (hv.congr h) hf
  | call ho hcal hfn hcall hf =>
    rename_i c f g first cap
    subst ho
    have h1 : ev P e f = ev P e2 f := h f (by simp [Op.operands, Call.operands, hcal])
    refine .call rfl hcal (by rw [← h1]; exact hfn) ?_ hf
    rw [← map_ev_congr fun x hx => h x (by simp [Op.operands, Call.operands]; right; exact Array.mem_toList_iff.1 hx)]
    exact hcall

def agreeOn (e e2 : Env) (l : List Nat) : Prop := ∀ t ∈ l, e t = e2 t

theorem ev_agree {e e2 : Env} {all : Array Oper} {o : Oper} (h : agreeOn e e2 (o.looksAt all)) : ∀ x ∈ o.op.operands, ev P e x = ev P e2 x := by
  intro x hx
  cases x with
  | tmp t =>
    simp only [ev]
    apply h
    simp only [Oper.looksAt, List.mem_append, List.mem_filterMap]
    exact .inl ⟨.tmp t, Array.mem_toList_iff.2 hx, rfl⟩
  | _ => rfl

theorem guard_agree {e e2 : Env} {all : Array Oper} {o : Oper} (h : agreeOn e e2 (o.looksAt all)) : guardA all e o.guard = guardA all e2 o.guard := by
  unfold guardA
  cases hg : o.guard with
  | none => rfl
  | some p =>
    obtain ⟨j, want⟩ := p
    simp only
    cases hd : (all[j]?).bind (·.dst) with
    | none => rfl
    | some d =>
      have : e d = e2 d := h d (by simp only [Oper.looksAt, hg, hd, List.mem_append]; right; simp)
      simp only [this]

theorem Act1.congr {all flag} {e e2 : Env} {m : Mem} {o : Oper} {v m1} (hs : Act1 P F all flag o e m v m1) (h : agreeOn e e2 (o.looksAt all)) : Act1 P F all flag o e2 m v m1 := by
  cases hs with
  | skip hg => exact .skip (by rw [← guard_agree h]; exact hg)
  | step hg hs => exact .step (by rw [← guard_agree h]; exact hg) (hs.congr (ev_agree h))

theorem agree_put {e : Env} {d : Option Nat} {v : AV} {l : List Nat} (h : ∀ t, d = some t → t ∉ l) : agreeOn e (putd e d v) l := by
  intro t ht
  rw [putd_ne]
  rintro rfl
  exact h t rfl ht
theorem agree_symm {e e2 : Env} {l} (h : agreeOn e e2 l) : agreeOn e2 e l := fun t ht => (h t ht).symm

theorem put_comm {e : Env} {d d2 : Option Nat} {v v2 : AV} (h : ∀ t, d = some t → d2 ≠ some t) : putd (putd e d v) d2 v2 = putd (putd e d2 v2) d v := by
  cases d with
  | none => rfl
  | some t =>
    cases d2 with
    | none => rfl
    | some t2 =>
      have hne : t2 ≠ t := fun e => h t rfl (by rw [e])
      funext i
      simp only [putd, put]
      by_cases h1 : i = t2 <;> by_cases h2 : i = t <;> simp_all

/-! ### The classes -/

theorem pureA_cls {e : Env} {o : Op} {v} (h : pureA P e o = some v) : clsOf P o = .pur := by
  cases o <;> simp only [pureA, reduceCtorEq] at h <;> try rfl
  case convert s d x =>
    unfold convA at h
    split at h
    · simp only [Option.bind_eq_some_iff] at h
      obtain ⟨si, hsi, ti, hti, h⟩ := h
      split at h
      · rename_i k hk
        simp only [clsOf, hti, Option.map_some, hk]
      · simp at h
    · simp only [Option.bind_eq_some_iff] at h
      obtain ⟨si, hsi, ti, hti, h⟩ := h
      split at h
      · rename_i h1 h2
        simp only [clsOf, hti, hsi, Option.map_some, h1, h2]
      · simp at h
    · simp at h
  case call c =>
    obtain ⟨callee, args, tys⟩ := c
    cases callee <;> simp only [pureA, reduceCtorEq] at h
    split at h
    · rfl
    · rfl
    · rfl
    · simp at h
theorem loadA_cls {e : Env} {m} {o : Op} {v} (h : loadA P e m o = some v) : clsOf P o = .lod := by
  cases o <;> simp only [loadA, reduceCtorEq] at h <;> try rfl
  case convert s d x =>
    split at h
    all_goals try (simp only [Option.bind_eq_some_iff] at h; obtain ⟨si, hsi, di, hdi, h⟩ := h; split at h)
    · rename_i h1 h2
      simp only [clsOf, hdi, hsi, Option.map_some, h1, h2]
    · simp at h
    · rename_i h1 h2
      simp only [clsOf, hdi, hsi, Option.map_some, h1, h2]
    · simp at h
    · rename_i h1 h2
      simp only [clsOf, hdi, hsi, Option.map_some, h1, h2]
    · simp at h
    · simp at h
theorem allocA_cls {e : Env} {b} {o : Op} {v} (h : allocA P e b o = some v) : clsOf P o = .alc := by
  cases o <;> simp only [allocA, reduceCtorEq] at h <;> try rfl
  case convert s d x =>
    split at h
    · simp only [Option.bind_eq_some_iff] at h
      obtain ⟨si, hsi, di, hdi, h⟩ := h
      split at h
      · rename_i h1 h2
        simp only [clsOf, hdi, hsi, Option.map_some, h1, h2]
      · simp at h
    · simp at h
theorem SerR_cls {e : Env} {m b} {o : Op} {v m1} (h : SerR P e m b o v m1) : clsOf P o = .ser := by
  have key : ∀ {c : Call}, c.callee = .builtin .append → clsOf P (.call c) = .ser := by
    intro c hc
    obtain ⟨callee, args, tys⟩ := c
    simp only at hc; subst hc; rfl
  cases h with
  | store => rfl
  | same hx hk hst ht hd => simp only [clsOf, ht, Option.map_some, hd]
  | app0 ctx => exact key ctx.callee
  | app00 ctx => exact key ctx.callee
  | appNil ctx => exact key ctx.callee
  | appOwn ctx => exact key ctx.callee
theorem call_cls {c : Call} {f} (h : c.callee = .value f) : clsOf P (.call c) = .ser := by
  obtain ⟨callee, args, tys⟩ := c
  simp only at h; subst h; rfl

theorem Act1.swap (N : Nice F) {all : Array Oper} {f1 f2 : Bool} {ox oi : Oper} {e : Env} {m m1 m2 : Mem} {v1 v2 : AV}
    (hx : Act1 P F all f1 ox e m v1 m1) (hi : Act1 P F all f2 oi e m1 v2 m2) (hc : compat (clsOf P ox.op) (clsOf P oi.op) = true)
    (hf : clsOf P ox.op = .lod → clsOf P oi.op = .ser → f2 = true ∨ f1 = true) : ∃ m1', Act1 P F all f2 oi e m v2 m1' ∧ Act1 P F all f1 ox e m1' v1 m2 := by
  cases hx with
  | skip hg => exact ⟨m2, hi, .skip hg⟩
  | step hgx hx =>
    cases hi with
    | skip hg => exact ⟨m, .skip hg, .step hgx hx⟩
    | step hgi hi =>
      cases hx with
      | pur hv => exact ⟨m2, .step hgi hi, .step hgx (.pur hv)⟩
      | lod hv hfx =>
        have hcx := loadA_cls hv
        cases hi with
        | pur hv' => exact ⟨_, .step hgi (.pur hv'), .step hgx (.lod hv hfx)⟩
        | lod hv' hf' => exact ⟨_, .step hgi (.lod hv' hf'), .step hgx (.lod hv hfx)⟩
        | alc hb hv' => exact ⟨_, .step hgi (.alc hb hv'), .step hgx (.lod (loadA_ext hv (Ext.put hb)) hfx)⟩
        | ser hb hv' hff =>
          rcases hf hcx (SerR_cls hv') with h | h
          · exact ⟨_, .step hgi (.ser hb hv' hff), .step hgx (.lod (loadA_ext hv (hff h)) hfx)⟩
          · exact ⟨_, .step hgi (.ser hb hv' hff), .step hgx (.lod (hfx h _) hfx)⟩
        | call h0 h1 h2 h3 hff =>
          have hcl : clsOf P oi.op = .ser := by rw [h0]; exact call_cls h1
          rcases hf hcx hcl with h | h
          · exact ⟨_, .step hgi (.call h0 h1 h2 h3 hff), .step hgx (.lod (loadA_ext hv (hff h)) hfx)⟩
          · exact ⟨_, .step hgi (.call h0 h1 h2 h3 hff), .step hgx (.lod (hfx h _) hfx)⟩
      | alc hb hv =>
        have hcx := allocA_cls hv
        cases hi with
        | pur hv' => exact ⟨_, .step hgi (.pur hv'), .step hgx (.alc hb hv)⟩
        | lod hv' => rw [hcx, loadA_cls hv'] at hc; simp [compat] at hc
        | alc hb' hv' =>
          rename_i b k b2 k2
          rw [Mem.blk_put] at hb'
          split at hb'
          · simp at hb'
          · rename_i hne
            refine ⟨m.put b2 k2, .step hgi (.alc hb' hv'), ?_⟩
            rw [Mem.put_comm _ (Ne.symm hne)]
            exact .step hgx (.alc (by rw [Mem.blk_put, if_neg (Ne.symm hne)]; exact hb) hv)
        | ser hb' hv' hff => rw [hcx, SerR_cls hv'] at hc; simp [compat] at hc
        | call h0 h1 h2 h3 hff => rw [hcx, h0, call_cls h1] at hc; simp [compat] at hc
      | ser hb hv hff =>
        have hcx := SerR_cls hv
        cases hi with
        | pur hv' => exact ⟨_, .step hgi (.pur hv'), .step hgx (.ser hb hv hff)⟩
        | lod hv' => rw [hcx, loadA_cls hv'] at hc; simp [compat] at hc
        | alc hb' hv' =>
          rename_i b2 k2
          have hbm := hv.dom hb'
          refine ⟨_, .step hgi (.alc hbm hv'), .step hgx ?_⟩
          exact (Step.ser (F := F) hb hv hff).lift N (by rw [allocA_own hv']; decide) hb'
        | ser hb' hv' hff' => rw [hcx, SerR_cls hv'] at hc; simp [compat] at hc
        | call h0 h1 h2 h3 hff' => rw [hcx, h0, call_cls h1] at hc; simp [compat] at hc
      | call h0 h1 h2 h3 hff =>
        have hcx : clsOf P ox.op = .ser := by rw [h0]; exact call_cls h1
        have hst : Step P F f1 e m ox.op v1 m1 := .call h0 h1 h2 h3 hff
        cases hi with
        | pur hv' => exact ⟨_, .step hgi (.pur hv'), .step hgx hst⟩
        | lod hv' => rw [hcx, loadA_cls hv'] at hc; simp [compat] at hc
        | alc hb' hv' => exact ⟨_, .step hgi (.alc (hst.dom N hb') hv'), .step hgx (hst.lift N (by rw [allocA_own hv']; decide) hb')⟩
        | ser hb' hv' hff' => rw [hcx, SerR_cls hv'] at hc; simp [compat] at hc
        | call h0' h1' h2' h3' hff' => rw [hcx, h0', call_cls h1'] at hc; simp [compat] at hc

/-- Neighbours change places. -/
theorem EvO.swap (N : Nice F) {all : Array Oper} {fl : Nat → Bool} {x i : Nat} {l e m e' m'} (h : EvO P F all fl (x :: i :: l) e m e' m') (hs : swapOk P all x i = true)
    (hf : clsAt P all x = .lod → clsAt P all i = .ser → fl i = true ∨ fl x = true) : EvO P F all fl (i :: x :: l) e m e' m' := by
  cases h with
  | cons hox hx h =>
    rename_i ox v1 m1
    cases h with
    | cons hoi hi h =>
      rename_i oi v2 m2
      simp only [swapOk, apartAt, clsAt, hox, hoi, Option.map_some, Option.getD_some, Bool.and_eq_true] at hs hf
      obtain ⟨hap, hc⟩ := hs
      obtain ⟨a1, a2, a3⟩ := Oper.apart_spec hap
      have hi' := hi.congr (agree_symm (agree_put a1))
      obtain ⟨m1', k1, k2⟩ := hx.swap N hi' hc (fun h1 h2 => hf h1 h2)
      refine .cons hoi k1 (.cons hox (k2.congr (agree_put a3)) ?_)
      rw [← put_comm fun t ht => fun h => a2 t ht h]
      exact h

theorem EvO.bubble (N : Nice F) {all : Array Oper} {fl : Nat → Bool} {i : Nat} {q : List Nat} : ∀ {p : List Nat} {e m e' m'}, EvO P F all fl (p ++ i :: q) e m e' m' →
    (∀ x ∈ p, swapOk P all x i = true ∧ (clsAt P all x = .lod → clsAt P all i = .ser → fl i = true ∨ fl x = true)) → EvO P F all fl (i :: (p ++ q)) e m e' m'
  | [], e, m, e', m', h, _ => h
  | x :: p, e, m, e', m', h, hp => by
    cases h with
    | cons ho ha h =>
      have ih := EvO.bubble N h (fun y hy => hp y (by simp [hy]))
      exact (EvO.cons ho ha ih).swap N (hp x (by simp)).1 (hp x (by simp)).2

end
end Go.Proofs.Ytdchdlabdokjnaa.Am
