/- AM: every pure operation answers what the machine answers. -/
import Derived.Test.YtdchdlabdokjnaaAm4
namespace Go.Proofs.Ytdchdlabdokjnaa.Am
set_option linter.unusedSectionVars false
open Go
set_option linter.unusedVariables false
set_option linter.unusedSimpArgs false
variable [Tab]

theorem indexAddrA_sound {P : Program} {ρ : Ren} (w : World) {t x i v x' i'} (h : indexAddrA P t x i = some v) (hx : VR ρ x x') (hi : VR ρ i i') :
    ∃ v', (Instr.indexAt t x' i').run P w = .ok v' w ∧ VR ρ v v' := by
  unfold indexAddrA at h
  split at h
  · rename_i k n
    cases hi
    simp only [Option.bind_eq_some_iff] at h
    obtain ⟨ti, hti, h⟩ := h
    obtain ⟨inf, d, z, hi0, hd, hz, e1, e2, e3, e4, e5⟩ := tiOf_spec hti
    rw [e1] at h
    split at h
    · rename_i e b o len s hk
      cases d <;> simp [tdOf] at hk
      subst hk
      simp only [Option.bind_eq_some_iff] at h
      obtain ⟨ei, hei, h⟩ := h
      obtain ⟨i2, d2, z2, hi2, _, _, _, f2, _⟩ := tiOf_spec hei
      obtain ⟨⟨c1, c2⟩, h⟩ := guardO_some h
      simp at h; subst h
      cases hx with
      | sl h1 h2 h3 =>
        rename_i lc cap
        refine ⟨_, ?_, .ptr h1⟩
        have hc : 0 ≤ n ∧ n < (len : Int) := ⟨c1, c2⟩
        simp [Instr.indexAt, asIntOf, run_und hd, hc, run_size hi2, addr_add, f2, Nat.add_assoc]
      | sl0 h1 a => omega
    · rename_i len e b o hk
      cases d <;> simp [tdOf] at hk
      obtain ⟨rfl, rfl⟩ := hk
      simp only [Option.bind_eq_some_iff] at h
      obtain ⟨ei, hei, h⟩ := h
      obtain ⟨i2, d2, z2, hi2, _, _, _, f2, _⟩ := tiOf_spec hei
      obtain ⟨⟨c1, c2⟩, h⟩ := guardO_some h
      simp at h; subst h
      cases hx with
      | ptr h1 =>
        refine ⟨_, ?_, .ptr h1⟩
        have hc : 0 ≤ n ∧ n < _ := ⟨c1, c2⟩
        simp [Instr.indexAt, asIntOf, Instr.sureAddr, run_und hd, hc, run_size hi2, addr_add, f2, Nat.add_assoc]
    · rename_i e s es hk
      cases d <;> simp [tdOf] at hk
      subst hk
      simp only [Option.bind_eq_some_iff] at h
      obtain ⟨ei, hei, h⟩ := h
      obtain ⟨i2, d2, z2, hi2, _, _, _, f2, _⟩ := tiOf_spec hei
      have hg := guardO_some h
      clear h
      obtain ⟨hs, hg⟩ := hg
      have hg := guardO_some hg
      obtain ⟨c1, h⟩ := hg
      subst hs
      simp only [Option.map_eq_some_iff] at h
      obtain ⟨c, hc, rfl⟩ := h
      obtain ⟨hlt, hcc⟩ := List.getElem?_eq_some_iff.1 hc
      cases hx with
      | rs vs hn hcap hl hv hi =>
        rename_i blk off len cap
        subst hn
        have hcl : c.length = ei.size := hl c (hcc ▸ List.getElem_mem hlt)
        have hv2 : VR ρ (.rp c 0) (.pointer (some ⟨blk, (off + n.toNat * ei.size) + 0, none⟩)) := by
          refine .rp (vs n.toNat) (fun j d hj => hv _ _ _ _ hc hj) (fun j hj => ?_)
          rw [← hi n.toNat j hlt (by omega), Nat.add_assoc]
        refine ⟨_, ?_, hv2⟩
        have hc' : 0 ≤ n ∧ n < (es.length : Int) := ⟨c1, by omega⟩
        simp [Instr.indexAt, asIntOf, run_und hd, hc', run_size hi2, addr_add, f2, Nat.add_assoc]
      | rs0 s a cap => simp at hlt
    · rename_i len e cs o hk
      cases d <;> simp [tdOf] at hk
      obtain ⟨rfl, rfl⟩ := hk
      simp only [Option.bind_eq_some_iff] at h
      obtain ⟨ei, hei, h⟩ := h
      obtain ⟨i2, d2, z2, hi2, _, _, _, f2, _⟩ := tiOf_spec hei
      obtain ⟨⟨c1, c2⟩, h⟩ := guardO_some h
      simp at h; subst h
      cases hx with
      | rp vs h1 h2 =>
        refine ⟨_, ?_, .rp vs h1 h2⟩
        have hc : 0 ≤ n ∧ n < _ := ⟨c1, c2⟩
        simp [Instr.indexAt, asIntOf, Instr.sureAddr, run_und hd, hc, run_size hi2, addr_add, f2, Nat.add_assoc]
    · simp at h
  · simp at h

theorem indexA_sound {P : Program} {ρ : Ren} (w : World) {t x i v x' i'} (h : indexA P t x i = some v) (hx : VR ρ x x') (hi : VR ρ i i') :
    ∃ v', (Instr.index t x' i').run P w = .ok v' w ∧ VR ρ v v' := by
  unfold indexA at h
  split at h
  · rename_i k n
    cases hi
    simp only [Option.bind_eq_some_iff] at h
    obtain ⟨ti, hti, h⟩ := h
    obtain ⟨inf, d, z, hi0, hd, hz, e1, e2, e3, e4, e5⟩ := tiOf_spec hti
    rw [e1] at h
    split at h
    · rename_i s hk
      cases d <;> simp [tdOf] at hk
      obtain ⟨c1, h⟩ := guardO_some h
      simp only [Option.map_eq_some_iff] at h
      obtain ⟨c, hc, rfl⟩ := h
      cases hx
      refine ⟨_, ?_, .int _ _⟩
      have hg : (⟨s.toArray⟩ : ByteArray)[n.toNat]? = some c := by
        have hlt : n.toNat < s.length := by
          by_cases hh : n.toNat < s.length
          · exact hh
          · simp [List.getElem?_eq_none (by omega : s.length ≤ n.toNat)] at hc
        rw [List.getElem?_eq_getElem hlt] at hc
        have hsz : n.toNat < ByteArray.size ⟨s.toArray⟩ := by show n.toNat < s.toArray.size; simpa using hlt
        rw [getElem?_pos (⟨s.toArray⟩ : ByteArray) n.toNat hsz]
        have : (⟨s.toArray⟩ : ByteArray)[n.toNat] = s[n.toNat] := rfl
        rw [this]; exact hc
      simp [Instr.index, asIntOf, run_und hd, c1, hg]
    · rename_i len e cs hk
      cases d <;> simp [tdOf] at hk
      obtain ⟨rfl, rfl⟩ := hk
      simp only [Option.bind_eq_some_iff] at h
      obtain ⟨ei, hei, h⟩ := h
      obtain ⟨i2, d2, z2, hi2, _, _, _, f2, _⟩ := tiOf_spec hei
      obtain ⟨⟨c1, c2⟩, h⟩ := guardO_some h
      obtain ⟨vs, rfl, hv⟩ := hx.agg_inv
      obtain ⟨v', r1, r2⟩ := partA_sound w hei h hv
      refine ⟨v', ?_, r2⟩
      have hc : 0 ≤ n ∧ n < _ := ⟨c1, c2⟩
      rw [f2] at r1
      simp [Instr.index, asIntOf, run_und hd, hc, run_size hi2, r1]
    · simp at h
  · simp at h

theorem lenA_sound {P : Program} {ρ : Ren} (w : World) {t x v x'} (tys : Array TypeId) (args : Array Value) (ty : TypeId) (ht : tys[0]? = some t) (ha : args[0]? = some x') (h : lenA P t x = some v) (hx : VR ρ x x') :
    ∃ v', (Builtin.len_ tys ty args).run P w = .ok v' w ∧ VR ρ v v' := by
  simp only [lenA, Option.bind_eq_some_iff] at h
  obtain ⟨ti, hti, h⟩ := h
  obtain ⟨inf, d, z, hi0, hd, hz, e1, e2, e3, e4, e5⟩ := tiOf_spec hti
  rw [e1] at h
  split at h
  · rename_i s hk
    cases d <;> simp [tdOf] at hk
    simp at h; subst h
    cases hx
    refine ⟨_, ?_, .int _ _⟩
    have hsz : ByteArray.size ⟨s.toArray⟩ = s.length := by show s.toArray.size = _; simp
    simp [Builtin.len_, ht, ha, run_und hd, goInt, hsz]
  · rename_i e b o n sz hk
    cases d <;> simp [tdOf] at hk
    simp at h; subst h
    cases hx with
    | sl h1 h2 h3 => exact ⟨_, by simp [Builtin.len_, ht, ha, run_und hd, goInt], .int _ _⟩
    | sl0 h1 a => exact ⟨_, by simp [Builtin.len_, ht, ha, run_und hd, goInt], .int _ _⟩
  · rename_i e hk
    cases d <;> simp [tdOf] at hk
    simp at h; subst h
    cases hx
    exact ⟨_, by simp [Builtin.len_, ht, ha, run_und hd, goInt], .int _ _⟩
  · rename_i e s es hk
    cases d <;> simp [tdOf] at hk
    simp at h; subst h
    cases hx with
    | rs vs hn hc hl hv hi => subst hn; exact ⟨_, by simp [Builtin.len_, ht, ha, run_und hd, goInt], .int _ _⟩
    | rs0 s a cap => exact ⟨_, by simp [Builtin.len_, ht, ha, run_und hd, goInt], .int _ _⟩
  · rename_i n e hk
    cases d <;> simp [tdOf] at hk
    simp at h; subst h
    obtain ⟨rfl, rfl⟩ := hk
    refine ⟨_, ?_, .int _ _⟩
    simp only [Builtin.len_, ht, ha, Sem.run_bind, run_und hd, Result.andThen_ok]
    cases x' <;> rfl
  · simp at h

theorem fold2_sound {P : Program} {ρ : Ren} (w : World) {f : AV → AV → Option AV} {g : Value → Value → Sem Value}
    (hfg : ∀ {x y z x' y'}, f x y = some z → VR ρ x x' → VR ρ y y' → ∃ z', (g x' y').run P w = .ok z' w ∧ VR ρ z z') :
    ∀ {ys : List AV} {ys' : List Value} {x v : AV} {x' : Value}, foldA f x ys = some v → VR ρ x x' → VRs ρ ys ys' → ∃ v', (ys'.foldlM g x').run P w = .ok v' w ∧ VR ρ v v'
  | [], ys', x, v, x', h, hx, hs => by
    have : ys' = [] := List.eq_nil_of_length_eq_zero (by have := hs.1; simpa using this.symm)
    subst this
    simp [foldA] at h; subst h
    exact ⟨x', rfl, hx⟩
  | y :: ys, ys', x, v, x', h, hx, hs => by
    obtain ⟨y', us, rfl, hy, hus⟩ := hs.cons_inv
    simp only [foldA, Option.bind_eq_some_iff] at h
    obtain ⟨z, hz, h⟩ := h
    obtain ⟨z', r1, r2⟩ := hfg hz hx hy
    obtain ⟨v', r3, r4⟩ := fold2_sound w hfg h r2 hus
    exact ⟨v', by simp only [List.foldlM_cons, Sem.run_bind, r1, Result.andThen_ok, r3], r4⟩

theorem max2_sound {P : Program} {ρ : Ren} (w : World) {x y z x' y'} (h : max2A x y = some z) (hx : VR ρ x x') (hy : VR ρ y y') : ∃ z', (Builtin.max2 x' y').run P w = .ok z' w ∧ VR ρ z z' := by
  unfold max2A at h
  split at h
  · obtain ⟨hk, h⟩ := guardO_some h
    simp at h; subst h
    cases hx; cases hy
    exact ⟨_, rfl, .int _ _⟩
  · simp at h
theorem min2_sound {P : Program} {ρ : Ren} (w : World) {x y z x' y'} (h : min2A x y = some z) (hx : VR ρ x x') (hy : VR ρ y y') : ∃ z', (Builtin.min2 x' y').run P w = .ok z' w ∧ VR ρ z z' := by
  unfold min2A at h
  split at h
  · obtain ⟨hk, h⟩ := guardO_some h
    simp at h; subst h
    cases hx; cases hy
    exact ⟨_, rfl, .int _ _⟩
  · simp at h

theorem convA_sound {P : Program} {ρ : Ren} (w : World) {s d x v x'} (h : convA P s d x = some v) (hx : VR ρ x x') : ∃ v', (convert s d x').run P w = .ok v' w ∧ VR ρ v v' := by
  unfold convA at h
  split at h
  · rename_i k n
    cases hx
    simp only [Option.bind_eq_some_iff] at h
    obtain ⟨si, hsi, ti, hti, h⟩ := h
    obtain ⟨inf1, d1, z1, hi1, hd1, hz1, g1, _⟩ := tiOf_spec hsi
    obtain ⟨inf, dd, z, hi0, hd, hz, e1, e2, e3, e4, e5⟩ := tiOf_spec hti
    rw [e1] at h
    split at h
    · rename_i k' hk
      cases dd <;> simp [tdOf] at hk
      simp at h; subst h
      subst hk
      refine ⟨_, ?_, .int _ _⟩
      simp only [convert, Sem.run_bind, run_und hd1, run_und hd, Result.andThen_ok]
      cases d1 <;> simp [Conv.intToInt]
    · simp at h
  · rename_i s'
    cases hx
    simp only [Option.bind_eq_some_iff] at h
    obtain ⟨si, hsi, ti, hti, h⟩ := h
    obtain ⟨inf1, d1, z1, hi1, hd1, hz1, g1, _⟩ := tiOf_spec hsi
    obtain ⟨inf, dd, z, hi0, hd, hz, e1, e2, e3, e4, e5⟩ := tiOf_spec hti
    rw [e1, g1] at h
    split at h
    · rename_i hk1 hk2
      cases dd <;> simp [tdOf] at hk2
      cases d1 <;> simp [tdOf] at hk1
      simp at h; subst h
      refine ⟨_, ?_, .str _⟩
      simp [convert, run_und hd1, run_und hd]
    · simp at h
  · simp at h

def EnvR (ρ : Ren) (e : Env) (a : Act) : Prop := ∀ i, VR ρ (e i) (a.tmps.getD i undef)
def GlOk (P : Program) (ρ : Ren) : Prop := ∀ g, g < P.globals.size → ∃ l, ρ g = some l ∧ l.blk = g ∧ l.off = 0 ∧
  ∀ cs, Tab.cells g = some cs → ∃ vs : Nat → Value, (∀ (j : Nat) (c : AV), cs[j]? = some c → VR ρ c (vs j)) ∧ ∀ j : Nat, j < cs.length → ρ.imm g j = some (vs j)
theorem GlOk.mono {P : Program} {ρ ρ' : Ren} (h : GlOk P ρ) (hs : Sub ρ ρ') : GlOk P ρ' := fun g hg => by
  obtain ⟨l, h1, h2, h3, h4⟩ := h g hg
  refine ⟨l, hs.1 _ _ h1, h2, h3, fun cs hc => ?_⟩
  obtain ⟨vs, k1, k2⟩ := h4 cs hc
  exact ⟨vs, fun j c hj => (k1 j c hj).mono hs, fun j hj => hs.2 _ _ _ (k2 j hj)⟩

theorem ev_sound {P : Program} {ρ : Ren} {e : Env} {a : Act} (hg : GlOk P ρ) (he : EnvR ρ e a) (x : Operand) : VR ρ (ev P e x) (a.eval x) := by
  cases x with
  | tmp t => exact he t
  | const v =>
    simp only [ev, Act.eval]
    cases h : ofConst v with
    | none => exact .any _
    | some c => exact ofConst_VR h
  | global g =>
    simp only [ev, Act.eval]
    split
    · rename_i cs hc
      split
      · rename_i hlt
        obtain ⟨l, h1, h2, h3, h4⟩ := hg g hlt
        obtain ⟨vs, k1, k2⟩ := h4 cs hc
        have := VR.rp (ρ := ρ) (o := 0) (blk := g) (off := 0) vs k1 (fun j hj => by rw [Nat.zero_add]; exact k2 j hj)
        exact this
      · exact .any _
    · split
      · rename_i hlt
        obtain ⟨l, h1, h2, h3, _⟩ := hg g hlt
        have := VR.ptr (ρ := ρ) (o := 0) h1
        rw [h2, h3] at this
        exact this
      · exact .any _
  | func f => exact VR.fn (us := []) (vs := []) rfl (fun i c v h => by simp at h) rfl (fun i c v h => by simp at h)

theorem evs_sound {P : Program} {ρ : Ren} {e : Env} {a : Act} (hg : GlOk P ρ) (he : EnvR ρ e a) : ∀ (xs : List Operand), VRs ρ (xs.map (ev P e)) (xs.map a.eval)
  | [] => VRs.nil
  | x :: xs => VRs.cons (ev_sound hg he x) (evs_sound hg he xs)

theorem evo_sound {P : Program} {ρ : Ren} {e : Env} {a : Act} (hg : GlOk P ρ) (he : EnvR ρ e a) (x : Option Operand) : OR ρ (x.map (ev P e)) (x.map a.eval) := by
  cases x with
  | none => exact .none
  | some x => exact .some (ev_sound hg he x)

theorem parts_sound {P : Program} {ρ : Ren} {e : Env} {a : Act} (hg : GlOk P ρ) (he : EnvR ρ e a) (parts : List (Nat × Operand)) :
    (parts.map fun (i, x) => (i, ev P e x)).length = (parts.map fun (i, x) => (i, a.eval x)).length ∧
    ∀ (i : Nat) p p', (parts.map fun (i, x) => (i, ev P e x))[i]? = some p → (parts.map fun (i, x) => (i, a.eval x))[i]? = some p' → p.1 = p'.1 ∧ VR ρ p.2 p'.2 := by
  refine ⟨by simp, fun i p p' h1 h2 => ?_⟩
  simp only [List.getElem?_map, Option.map_eq_some_iff] at h1 h2
  obtain ⟨q, hq, rfl⟩ := h1
  obtain ⟨q', hq', rfl⟩ := h2
  rw [hq] at hq'
  simp at hq'; subst hq'
  exact ⟨rfl, ev_sound hg he _⟩

theorem pureA_sound {P : Program} {ρ : Ren} (w : World) {e : Env} {a : Act} {o : Oper} {v} (hg : GlOk P ρ) (he : EnvR ρ e a) (h : pureA P e o.op = some v) :
    ∃ v', (execOp a.eval o).run P w = .ok (.value v') w ∧ VR ρ v v' := by
  obtain ⟨dst, op, type, pos, after, guard⟩ := o
  have E := ev_sound hg he
  have wrap : ∀ {s : Sem Value} {v'}, s.run P w = .ok v' w → (do pure (.value (← s)) : Sem Next).run P w = .ok (.value v') w := fun hs => by
    simp only [Sem.run_bind, hs, Result.andThen_ok, Sem.run_pure]
  simp only at h
  cases op <;> simp only [pureA, reduceCtorEq] at h
  case move x => simp at h; subst h; exact ⟨_, rfl, E x⟩
  case assign x => simp at h; subst h; exact ⟨_, rfl, E x⟩
  case pick c x y =>
    split at h
    · rename_i t hc
      simp at h; subst h
      have hv := E c
      rw [hc] at hv
      have hb : a.eval c = .bool t := by generalize a.eval c = z at hv; cases hv; rfl
      refine ⟨if t then a.eval x else a.eval y, ?_, ?_⟩
      · simp [execOp, hb, asBool]
      · cases t
        · exact E y
        · exact E x
    · simp at h
  case nilCheck x =>
    split at h
    · rename_i b o hx
      simp at h; subst h
      have hv := E x
      rw [hx] at hv
      refine ⟨a.eval x, ?_, hv⟩
      generalize hz : a.eval x = z at hv
      cases hv
      simp [execOp, hz]
    · rename_i cs o hx
      simp at h; subst h
      have hv := E x
      rw [hx] at hv
      refine ⟨a.eval x, ?_, hv⟩
      generalize hz : a.eval x = z at hv
      cases hv
      simp [execOp, hz]
    · rename_i f xs ys hx
      simp at h; subst h
      have hv := E x
      rw [hx] at hv
      refine ⟨a.eval x, ?_, hv⟩
      generalize hz : a.eval x = z at hv
      cases hv
      simp [execOp, hz]
    · simp at h
  case binOp op xt x y yt =>
    obtain ⟨v', r1, r2⟩ := binA_sound w x y h (E x) (E y)
    exact ⟨v', wrap r1, r2⟩
  case unOp op xt x =>
    obtain ⟨v', r1, r2⟩ := unA_sound w h (E x)
    exact ⟨v', wrap r1, r2⟩
  case convert s d x =>
    obtain ⟨v', r1, r2⟩ := convA_sound w h (E x)
    exact ⟨v', wrap r1, r2⟩
  case build t parts =>
    obtain ⟨h1, h2⟩ := parts_sound hg he parts.toList
    obtain ⟨v', r1, r2⟩ := buildA_sound w h h1 h2
    refine ⟨v', wrap ?_, r2⟩
    rw [← r1]
    congr 2
    apply Array.ext'
    simp
  case field t x f =>
    split at h
    · rename_i cs hx
      simp only [Option.bind_eq_some_iff] at h
      obtain ⟨⟨off, ft⟩, hf, fi, hfi, h⟩ := h
      obtain ⟨fields, fl, hu, hfl, rfl, rfl⟩ := fieldOf_sound hf
      have hv := E x
      rw [hx] at hv
      obtain ⟨vs, hvs, hv⟩ := hv.agg_inv
      obtain ⟨v', r1, r2⟩ := partA_sound w hfi h hv
      refine ⟨v', wrap ?_, r2⟩
      simp only [Instr.field, Sem.run_bind, run_und hu, Result.andThen_ok, hfl, hvs, asAgg, Sem.run_pure, r1]
    · simp at h
  case fieldAddr t x f =>
    split at h
    · rename_i b o hx
      simp only [Option.bind_eq_some_iff] at h
      obtain ⟨⟨off, ft⟩, hf, fi, hfi, h⟩ := h
      obtain ⟨fields, fl, hu, hfl, rfl, rfl⟩ := fieldOf_sound hf
      obtain ⟨i2, d2, z2, hi2, _, _, _, f2, _⟩ := tiOf_spec hfi
      obtain ⟨hpos, h⟩ := guardO_some h
      simp at h; subst h
      have hv := E x
      rw [hx] at hv
      generalize hz : a.eval x = z at hv
      cases hv with
      | ptr h1 =>
        rename_i l
        refine ⟨_, wrap ?_, .ptr h1⟩
        have hne : ¬ i2.size = 0 := by omega
        simp only [Instr.fieldAt, Sem.run_bind, run_und hu, Result.andThen_ok, hfl, Instr.sureAddr, hz, Sem.run_pure, fieldPlace, run_size hi2, hne, if_false, addr_add, Sem.run_ite, Nat.add_assoc]
    · rename_i cs o hx
      simp only [Option.bind_eq_some_iff] at h
      obtain ⟨⟨off, ft⟩, hf, fi, hfi, h⟩ := h
      obtain ⟨fields, fl, hu, hfl, rfl, rfl⟩ := fieldOf_sound hf
      obtain ⟨i2, d2, z2, hi2, _, _, _, f2, _⟩ := tiOf_spec hfi
      obtain ⟨hpos, h⟩ := guardO_some h
      simp at h; subst h
      have hv := E x
      rw [hx] at hv
      generalize hz : a.eval x = z at hv
      cases hv with
      | rp vs h1 h2 =>
        refine ⟨_, wrap ?_, .rp vs h1 h2⟩
        have hne : ¬ i2.size = 0 := by omega
        simp only [Instr.fieldAt, Sem.run_bind, run_und hu, Result.andThen_ok, hfl, Instr.sureAddr, hz, Sem.run_pure, fieldPlace, run_size hi2, hne, if_false, addr_add, Sem.run_ite, Nat.add_assoc]
    · simp at h
  case indexAddr t x i =>
    obtain ⟨v', r1, r2⟩ := indexAddrA_sound w h (E x) (E i)
    exact ⟨v', wrap r1, r2⟩
  case index t x i =>
    obtain ⟨v', r1, r2⟩ := indexA_sound w h (E x) (E i)
    exact ⟨v', wrap r1, r2⟩
  case extract x i =>
    split at h
    · rename_i vs hx
      have hv := E x
      rw [hx] at hv
      obtain ⟨us, hus, hv⟩ := hv.tup_inv
      obtain ⟨v', r1, r2⟩ := hv.get h
      refine ⟨v', wrap ?_, r2⟩
      simp [Instr.extract, hus, r1]
    · simp at h
  case slice t x lo hi mx =>
    cases mx with
    | some _ => simp [pureA] at h
    | none =>
      simp only [pureA] at h
      obtain ⟨v', r1, r2⟩ := sliceA_sound w h (E x) (evo_sound hg he lo) (evo_sound hg he hi)
      exact ⟨v', wrap r1, r2⟩
  case makeFunc fn first cap =>
    cases fn <;> simp only [pureA, reduceCtorEq] at h
    rename_i f
    simp at h; subst h
    refine ⟨.func (.func f) (first.toList.map a.eval).toArray (cap.toList.map a.eval).toArray, ?_, ?_⟩
    · simp [execOp, Instr.makeFunc]
      constructor <;> (apply Array.ext'; simp)
    · exact .fn (evs_sound hg he _).1 (evs_sound hg he _).2 (evs_sound hg he _).1 (evs_sound hg he _).2
  case call c =>
    obtain ⟨callee, args, tys⟩ := c
    cases callee <;> simp only [pureA, reduceCtorEq] at h
    rename_i b
    have hvs := evs_sound hg he args.toList
    generalize hz : args.toList.map (ev P e) = as at h hvs
    split at h
    · rename_i x xs t ts ht
      obtain ⟨x', vs', hv', hx', _⟩ := hvs.cons_inv
      have ha : (args.map a.eval)[0]? = some x' := by
        have : (args.map a.eval).toList = x' :: vs' := by simpa using hv'
        rw [← Array.getElem?_toList, this]; rfl
      obtain ⟨v', r1, r2⟩ := lenA_sound w tys (args.map a.eval) type (by rw [← Array.getElem?_toList, ht]; rfl) ha h hx'
      refine ⟨v', ?_, r2⟩
      simp only [execOp, resolve, invoke, builtin, Sem.run_bind, Sem.run_pure, Result.andThen_ok, r1]
    · rename_i x xs
      obtain ⟨x', vs', hv', hx', hvs'⟩ := hvs.cons_inv
      obtain ⟨v', r1, r2⟩ := fold2_sound (P := P) w (max2_sound w) h hx' hvs'
      refine ⟨v', ?_, r2⟩
      have ha : (args.map a.eval).toList = x' :: vs' := by simpa using hv'
      simp only [execOp, resolve, invoke, builtin, Sem.run_bind, Sem.run_pure, Result.andThen_ok, Builtin.max_, ha, r1]
    · rename_i x xs
      obtain ⟨x', vs', hv', hx', hvs'⟩ := hvs.cons_inv
      obtain ⟨v', r1, r2⟩ := fold2_sound (P := P) w (min2_sound w) h hx' hvs'
      refine ⟨v', ?_, r2⟩
      have ha : (args.map a.eval).toList = x' :: vs' := by simpa using hv'
      simp only [execOp, resolve, invoke, builtin, Sem.run_bind, Sem.run_pure, Result.andThen_ok, Builtin.min_, ha, r1]
    · simp at h

end Go.Proofs.Ytdchdlabdokjnaa.Am
