/- AM: loads, new blocks, stores and appends do what the machine does. -/
import Derived.Test.YtchhknkflhikmaaDoorAm1
import Derived.Laws.MakeOwn
import Derived.Laws.BytesString
import Derived.Laws.IdiomStrings
import Derived.Laws.Externs
import Derived.LoopN
import Derived.Scope
namespace Go.Proofs.YtchhknkflhikmaaDoor.Am
set_option linter.unusedSectionVars false
open Go
open Go.RowKit (Below)
set_option linter.unusedVariables false
set_option linter.unusedSimpArgs false
variable [Tab]

theorem leb_decide {a c : Nat} : (decide (a ≤ c) = true) ↔ a ≤ c := decide_eq_true_iff

/-- A part of a row that lies in memory is loaded. -/
theorem run_loadVar {P : Program} {ρ : Ren} {w : World} {ti t cs o v} {vs : List Value} {l : Loc} (ht : tiOf P t = some ti) (h : partA ti cs o = some v) (hs : VRs ρ cs vs)
    (hc : ∀ (j : Nat) v, vs[j]? = some v → w.cell? ⟨l.blk, l.off + j, none⟩ = some v) : ∃ v', (loadVar t ⟨l.blk, l.off + o, none⟩).run P w = .ok v' w ∧ VR ρ v v' := by
  obtain ⟨i, d, z, hi, hd, hz, e1, e2, e3, e4, e5⟩ := tiOf_spec ht
  have ha := isAgg_tdOf hd w
  unfold partA at h
  rw [e1] at h
  split at h
  · rename_i hagg
    obtain ⟨hle, h⟩ := guardO_some h
    simp at h; subst h
    have hvl : vs.length = cs.length := hs.1.symm
    have hl : ((vs.drop o).take ti.size).length = ti.size := by simp; omega
    refine ⟨_, ?_, ((hs.drop o).take ti.size).mk_agg⟩
    rw [hagg] at ha
    have hr := run_loadCells_list (P := P) w ⟨l.blk, l.off + o, none⟩ ((vs.drop o).take ti.size) (fun j v hv => by
      rw [addr_add]
      rw [List.getElem?_take] at hv
      split at hv
      · rw [List.getElem?_drop] at hv
        rw [Nat.add_assoc]
        exact hc _ _ hv
      · simp at hv)
    rw [hl, e2] at hr
    simp only [loadVar, Sem.run_bind, ha, Result.andThen_ok, if_true, run_size hi, hr, Sem.run_pure]
    rw [e2]
  · rename_i hagg
    rw [hagg] at ha
    obtain ⟨v', h1, h2⟩ := hs.get h
    refine ⟨v', ?_, h2⟩
    have hcell := hc o v' h1
    simp only [loadVar, Sem.run_bind, ha, Result.andThen_ok]
    simp [hcell]

/-- The cells of a slice that stands as it is, one behind the other. -/
theorem rs_flat {ρ : Ren} {s : Nat} : ∀ {es : List (List AV)} {vs : Nat → Nat → Value}, (∀ e ∈ es, e.length = s) → (∀ (i j : Nat) (e : List AV) (c : AV), es[i]? = some e → e[j]? = some c → VR ρ c (vs i j)) →
    ∃ us : List Value, VRs ρ es.flatten us ∧ us.length = es.length * s ∧ ∀ k v, us[k]? = some v → ∃ i j, i < es.length ∧ j < s ∧ k = i * s + j ∧ v = vs i j
  | [], vs, _, _ => ⟨[], VRs.nil, by simp, fun k v h => by simp at h⟩
  | e :: es, vs, hl, h => by
    obtain ⟨us, h1, h2, h3⟩ := rs_flat (es := es) (vs := fun i j => vs (i + 1) j) (fun e he => hl e (by simp [he])) (fun i j e c k1 k2 => h (i + 1) j e c (by simpa using k1) k2)
    have he := hl e (by simp)
    refine ⟨(List.range s).map (vs 0) ++ us, ?_, by simp [h2, Nat.add_mul]; omega, fun k v hv => ?_⟩
    · simp only [List.flatten_cons]
      refine VRs.append ⟨by simp [he], fun j c v k1 k2 => ?_⟩ h1
      rw [List.getElem?_map] at k2
      have hj : j < s := by
        have := (List.getElem?_eq_some_iff.1 k1).1; omega
      rw [List.getElem?_range hj] at k2
      simp at k2; subst k2
      exact h 0 j e c rfl k1
    · by_cases hk : k < s
      · rw [List.getElem?_append_left (by simpa using hk), List.getElem?_map, List.getElem?_range hk] at hv
        simp at hv; subst hv
        exact ⟨0, k, by simp, hk, by simp, rfl⟩
      · rw [List.getElem?_append_right (by simpa using hk)] at hv
        obtain ⟨i, j, k1, k2, k3, k4⟩ := h3 _ _ hv
        simp at k3
        exact ⟨i + 1, j, by simpa using k1, k2, by rw [Nat.add_mul]; omega, k4⟩

theorem bytes_fold : ∀ (ns : List Int) (bs : List UInt8), (ns.foldl (fun (r : ByteArray) n => r.push (UInt8.ofNat n.toNat)) ⟨bs.toArray⟩) = ⟨(bs ++ ns.map fun n => UInt8.ofNat n.toNat).toArray⟩
  | [], bs => by simp
  | n :: ns, bs => by
    have : (⟨bs.toArray⟩ : ByteArray).push (UInt8.ofNat n.toNat) = ⟨(bs ++ [UInt8.ofNat n.toNat]).toArray⟩ := by
      apply ByteArray.ext
      simp [ByteArray.push]
    simp only [List.foldl_cons, this, bytes_fold ns, List.map_cons, List.append_assoc, List.singleton_append]

theorem bytesA_spec {ρ : Ren} : ∀ {cs : List AV} {bs} {vs : List Value}, bytesA cs = some bs → VRs ρ cs vs → ∃ ns : List Int, vs = ns.map (Value.int .u8) ∧ bs = ns.map fun n => UInt8.ofNat n.toNat
  | [], bs, vs, h, hs => by
    simp [bytesA] at h; subst h
    have : vs = [] := List.eq_nil_of_length_eq_zero (by have := hs.1; simpa using this.symm)
    exact ⟨[], by simp [this], rfl⟩
  | c :: cs, bs, vs, h, hs => by
    obtain ⟨v, vs', rfl, hv, hvs⟩ := hs.cons_inv
    unfold bytesA at h
    split at h
    · simp_all
    · rename_i n cs' he
      simp at he
      obtain ⟨rfl, rfl⟩ := he
      simp only [Option.map_eq_some_iff] at h
      obtain ⟨bs', hb, rfl⟩ := h
      obtain ⟨ns, rfl, rfl⟩ := bytesA_spec hb hvs
      cases hv
      exact ⟨n :: ns, rfl, rfl⟩
    · simp at h

theorem loadA_sound {P B w0} {ρ : Ren} {m} {w : World} {e : Env} {a : Act} {o : Oper} {v} (R : Rel P B w0 ρ m w) (he : EnvR ρ e a) (h : loadA P e m o.op = some v) :
    ∃ v', (execOp a.eval o).run P w = .ok (.value v') w ∧ VR ρ v v' := by
  obtain ⟨dst, op, type, pos, after, guard⟩ := o
  have E := ev_sound R.gl he
  have wrap : ∀ {s : Sem Value} {v'}, s.run P w = .ok v' w → (do pure (.value (← s)) : Sem Next).run P w = .ok (.value v') w := fun hs => by
    simp only [Sem.run_bind, hs, Result.andThen_ok, Sem.run_pure]
  simp only at h
  cases op <;> simp only [loadA, reduceCtorEq] at h
  case load t x =>
    split at h
    · rename_i b o hx
      simp only [Option.bind_eq_some_iff] at h
      obtain ⟨k, hk, h⟩ := h
      obtain ⟨hd, h⟩ := guardO_some h
      simp only [Option.bind_eq_some_iff] at h
      obtain ⟨ti, hti, h⟩ := h
      obtain ⟨l, vs, h1, h2, h3⟩ := R.rd b k hk hd
      have hv := E x
      rw [hx] at hv
      generalize hz : a.eval x = z at hv
      cases hv with
      | ptr hl =>
        rw [h1] at hl; simp at hl; subst hl
        obtain ⟨v', r1, r2⟩ := run_loadVar (l := l) hti h h2 h3
        refine ⟨v', wrap ?_, r2⟩
        simp only [hz, Instr.loadAt, Instr.sureAddr, Sem.run_bind, Sem.run_pure, Result.andThen_ok, r1]
    · rename_i cs o hx
      simp only [Option.bind_eq_some_iff] at h
      obtain ⟨ti, hti, h⟩ := h
      have hv := E x
      rw [hx] at hv
      generalize hz : a.eval x = z at hv
      cases hv with
      | rp vs h1 h2 =>
        rename_i blk off
        have hvs : VRs ρ cs ((List.range cs.length).map vs) := ⟨by simp, fun j c v k1 k2 => by
          have hj := (List.getElem?_eq_some_iff.1 k1).1
          rw [List.getElem?_map, List.getElem?_range hj] at k2
          simp at k2; subst k2
          exact h1 j c k1⟩
        obtain ⟨v', r1, r2⟩ := run_loadVar (l := ⟨blk, off, 0, false⟩) (w := w) hti h hvs (fun j v hj => by
          rw [List.getElem?_map] at hj
          have hjl : j < cs.length := by
            by_cases hh : j < cs.length
            · exact hh
            · rw [List.getElem?_eq_none (by simpa using hh)] at hj; simp at hj
          rw [List.getElem?_range hjl] at hj
          simp at hj; subst hj
          exact (R.imm _ _ _ (h2 j hjl)).1)
        refine ⟨v', wrap ?_, r2⟩
        simp only [hz, Instr.loadAt, Instr.sureAddr, Sem.run_bind, Sem.run_pure, Result.andThen_ok, r1]
    · simp at h
  case slice t x lo hi mx =>
    cases mx with
    | some _ => simp [loadA] at h
    | none =>
      simp only [loadA] at h
      split at h
      · rename_i b o hx
        simp only [Option.bind_eq_some_iff] at h
        obtain ⟨k, hk, h⟩ := h
        obtain ⟨hd, h⟩ := guardO_some h
        have hv := E x
        rw [hx] at hv
        generalize hz : a.eval x = z at hv
        cases hv with
        | ptr hl =>
          rename_i l0
          have hc : l0.own = true → l0.off + k.cells.length ≤ l0.phys := fun ho => by
            cases hs : k.st with
            | ro => have := (R.ro b k l0 hk hs hl).1; rw [this] at ho; cases ho
            | dead => exact absurd hs hd
            | own => exact (R.own b k l0 hk (.inl hs) hl).2.1
            | old => exact (R.own b k l0 hk (.inr hs) hl).2.1
          obtain ⟨v', r1, r2⟩ := arrCutA_sound w h hl hz hc (evo_sound R.gl he lo) (evo_sound R.gl he hi)
          exact ⟨v', wrap r1, r2⟩
      · simp at h
  case convert src dst' x =>
    split at h
    · rename_i b o n sz hx
      simp only [Option.bind_eq_some_iff] at h
      obtain ⟨si, hsi, di, hdi, h⟩ := h
      obtain ⟨i1, d1, z1, hi1, hd1, hz1, g1, _⟩ := tiOf_spec hsi
      obtain ⟨i2, d2, z2, hi2, hd2, hz2, g2, _⟩ := tiOf_spec hdi
      rw [g1, g2] at h
      split at h
      · rename_i et k1 k2
        simp only [Option.bind_eq_some_iff] at h
        obtain ⟨ei, hei, h⟩ := h
        obtain ⟨i3, d3, z3, hi3, hd3, hz3, g3, _⟩ := tiOf_spec hei
        rw [g3] at h
        split at h
        · rename_i k3
          simp only [Option.bind_eq_some_iff] at h
          obtain ⟨k, hk, h⟩ := h
          obtain ⟨hd, h⟩ := guardO_some h
          obtain ⟨hle, h⟩ := guardO_some h
          simp only [Option.map_eq_some_iff] at h
          obtain ⟨bs, hbs, rfl⟩ := h
          cases d1 <;> simp [tdOf] at k1
          subst k1
          cases d2 <;> simp [tdOf] at k2
          cases d3 <;> simp [tdOf] at k3
          subst k3
          obtain ⟨l, vs, h1, h2, h3⟩ := R.rd b k hk hd
          obtain ⟨ns, hns, rfl⟩ := bytesA_spec hbs ((h2.drop o).take n)
          have hvl : vs.length = k.cells.length := h2.1.symm
          have hnl : ns.length = n := by
            have := congrArg List.length hns
            simp at this; omega
          have hv := E x
          rw [hx] at hv
          generalize hz : a.eval x = z at hv
          have fin : ∀ ad cap, (loadCells ad n).run P w = .ok (ns.map (Value.int .u8)).toArray w → ∃ v', (convert src dst' (.slice (some ad) n cap)).run P w = .ok v' w ∧ VR ρ (.str (ns.map fun n => UInt8.ofNat n.toNat)) v' := by
            intro ad cap hl
            refine ⟨_, ?_, .str _⟩
            rw [run_convert_bytes_string w src dst' _ _ _ _ hd1 hd3 hd2, run_bytesToString w ad n cap ns hl]
            have := bytes_fold ns []
            simp only [List.nil_append] at this
            rw [← this]
            rfl
          cases hv with
          | sl hl hn hc =>
            rename_i lc cap
            rw [h1] at hl; simp at hl; subst hl
            have hr := run_loadCells_list (P := P) w ⟨l.blk, l.off + o, none⟩ ((vs.drop o).take n) (fun j v hv => by
              rw [addr_add]
              rw [List.getElem?_take] at hv
              split at hv
              · rw [List.getElem?_drop] at hv
                rw [Nat.add_assoc]
                exact h3 _ _ hv
              · simp at hv)
            rw [hns] at hr
            simp only [List.length_map, hnl] at hr
            obtain ⟨v', r1, r2⟩ := fin _ cap hr
            exact ⟨v', wrap (by rw [hz]; exact r1), r2⟩
          | sl0 hl ad =>
            have : ns = [] := List.eq_nil_of_length_eq_zero hnl
            subst this
            cases ad with
            | none =>
              refine ⟨_, wrap ?_, .str _⟩
              rw [hz, run_convert_bytes_string w src dst' _ _ _ _ hd1 hd3 hd2]
              rfl
            | some ad =>
              obtain ⟨v', r1, r2⟩ := fin ad 0 (by simp [loadCells, loadCellsFrom])
              exact ⟨v', wrap (by rw [hz]; exact r1), r2⟩
        · simp at h
      · simp at h
    · rename_i hx
      simp only [Option.bind_eq_some_iff] at h
      obtain ⟨si, hsi, di, hdi, h⟩ := h
      obtain ⟨i1, d1, z1, hi1, hd1, hz1, g1, _⟩ := tiOf_spec hsi
      obtain ⟨i2, d2, z2, hi2, hd2, hz2, g2, _⟩ := tiOf_spec hdi
      rw [g1, g2] at h
      split at h
      · rename_i et k1 k2
        simp only [Option.bind_eq_some_iff] at h
        obtain ⟨ei, hei, h⟩ := h
        obtain ⟨i3, d3, z3, hi3, hd3, hz3, g3, _⟩ := tiOf_spec hei
        rw [g3] at h
        split at h
        · rename_i k3
          simp at h; subst h
          cases d1 <;> simp [tdOf] at k1
          subst k1
          cases d2 <;> simp [tdOf] at k2
          cases d3 <;> simp [tdOf] at k3
          subst k3
          have hv := E x
          rw [hx] at hv
          generalize hz : a.eval x = z at hv
          cases hv
          refine ⟨_, wrap ?_, .str _⟩
          rw [hz, run_convert_bytes_string w src dst' _ _ _ _ hd1 hd3 hd2]
          rfl
        · simp at h
      · simp at h
    · rename_i sz es hx
      simp only [Option.bind_eq_some_iff] at h
      obtain ⟨si, hsi, di, hdi, h⟩ := h
      obtain ⟨i1, d1, z1, hi1, hd1, hz1, g1, _⟩ := tiOf_spec hsi
      obtain ⟨i2, d2, z2, hi2, hd2, hz2, g2, _⟩ := tiOf_spec hdi
      rw [g1, g2] at h
      split at h
      · rename_i et k1 k2
        simp only [Option.bind_eq_some_iff] at h
        obtain ⟨ei, hei, h⟩ := h
        obtain ⟨i3, d3, z3, hi3, hd3, hz3, g3, _⟩ := tiOf_spec hei
        rw [g3] at h
        split at h
        · rename_i k3
          have hsz := (guardO_some h).1
          replace h := (guardO_some h).2
          subst hsz
          simp only [Option.map_eq_some_iff] at h
          obtain ⟨bs, hbs, rfl⟩ := h
          cases d1 <;> simp [tdOf] at k1
          subst k1
          cases d2 <;> simp [tdOf] at k2
          cases d3 <;> simp [tdOf] at k3
          subst k3
          have hv := E x
          rw [hx] at hv
          generalize hz : a.eval x = z at hv
          have fin : ∀ ad n cap (ns : List Int), (loadCells ad n).run P w = .ok (ns.map (Value.int .u8)).toArray w → ∃ v', (convert src dst' (.slice (some ad) n cap)).run P w = .ok v' w ∧ VR ρ (.str (ns.map fun n => UInt8.ofNat n.toNat)) v' := by
            intro ad n cap ns hl
            refine ⟨_, ?_, .str _⟩
            rw [run_convert_bytes_string w src dst' _ _ _ _ hd1 hd3 hd2, run_bytesToString w ad n cap ns hl]
            have := bytes_fold ns []
            simp only [List.nil_append] at this
            rw [← this]
            rfl
          cases hv with
          | rs vs hn hc hl hv hi =>
            rename_i blk off n cap
            obtain ⟨us, q1, q2, q3⟩ := rs_flat hl hv
            obtain ⟨ns, hns, rfl⟩ := bytesA_spec hbs q1
            have hr := run_loadCells_list (P := P) w ⟨blk, off, none⟩ us (fun j v hv => by
              rw [addr_add]
              obtain ⟨i, j', k1, k2, k3, k4⟩ := q3 j v hv
              rw [k3, k4]
              exact (R.imm _ _ _ (hi i j' (by omega) k2)).1)
            rw [show us.length = n by omega, hns] at hr
            obtain ⟨v', r1, r2⟩ := fin _ n cap ns hr
            exact ⟨v', wrap (by rw [hz]; exact r1), r2⟩
          | rs0 s ad cap =>
            simp [bytesA] at hbs; subst hbs
            cases ad with
            | none =>
              refine ⟨_, wrap ?_, .str _⟩
              rw [hz, run_convert_bytes_string w src dst' _ _ _ _ hd1 hd3 hd2]
              rfl
            | some ad =>
              obtain ⟨v', r1, r2⟩ := fin ad 0 cap [] (by simp [loadCells, loadCellsFrom])
              exact ⟨v', wrap (by rw [hz]; exact r1), r2⟩
        · simp at h
      · simp at h
    · simp at h

/-! ### New blocks -/

theorem range_rep (z : List Value) (hz : 0 < z.length) : ∀ n, ((List.range (n * z.length)).map fun i => z[i % z.length]!) = (List.replicate n z).flatten
  | 0 => by simp
  | n + 1 => by
    rw [Nat.succ_mul, Nat.add_comm, List.range_add, List.map_append, List.map_map, List.replicate_succ, List.flatten_cons, ← range_rep z hz n]
    congr 1
    · apply List.ext_getElem
      · simp
      · intro i h1 h2
        simp at h1 ⊢
        rw [Nat.mod_eq_of_lt h1]
        simp [h1]
    · apply List.map_congr_left
      intro i _
      simp [Nat.add_mod_left]

theorem repl_VRs {ρ : Ren} {z : List AV} {zs : List Value} (h : VRs ρ z zs) : ∀ n, VRs ρ (repl n z) (List.replicate n zs).flatten
  | 0 => by simp [repl]; exact VRs.nil
  | n + 1 => by
    have := h.append (repl_VRs h n)
    simpa [repl, List.replicate_succ] using this

theorem rep_array (z : Array Value) (hz : 0 < z.size) (n : Nat) : ((Array.range (n * z.size)).map fun i => z[i % z.size]!) = (List.replicate n z.toList).flatten.toArray := by
  apply Array.ext'
  have := range_rep z.toList (by simpa using hz) n
  simp only [Array.length_toList] at this
  rw [← this]
  simp only [Array.toList_map, Array.toList_range]
  apply List.map_congr_left
  intro i _
  have : i % z.size < z.size := Nat.mod_lt _ hz
  simp [this]

/-- What a new block's making answers. -/
def Alloc1 (P : Program) (B : Nat) (w0 : World) (ρ : Ren) (m : Mem) (b : Nat) (v : AV) (k : Blk) (r : Result Next) : Prop :=
  ∃ v' w' l, r = .ok (.value v') w' ∧ VR (upd ρ b l) v v' ∧ Rel P B w0 (upd ρ b l) (m.put b k) w'

theorem allocA_sound {P B w0} {ρ : Ren} {m} {w : World} {e : Env} {a : Act} {o : Oper} {v b k} (R : Rel P B w0 ρ m w) (he : EnvR ρ e a) (hb : m.blk b = none)
    (h : allocA P e b o.op = some (v, k)) : Alloc1 P B w0 ρ m b v k ((execOp a.eval o).run P w) := by
  obtain ⟨dst, op, type, pos, after, guard⟩ := o
  have E := ev_sound R.gl he
  have wrap : ∀ {s : Sem Value} {v' w'}, s.run P w = .ok v' w' → (do pure (.value (← s)) : Sem Next).run P w = .ok (.value v') w' := fun hs => by
    simp only [Sem.run_bind, hs, Result.andThen_ok, Sem.run_pure]
  have nofz : ∀ (n : Nat), ∀ o, o < n → ¬ ((0, 0).1 ≤ o ∧ o < (0, 0).2) := fun n o _ h => by simp at h
  simp only at h
  cases op <;> simp only [allocA, reduceCtorEq] at h
  case alloc t =>
    simp only [Option.bind_eq_some_iff, Option.some.injEq, Prod.mk.injEq] at h
    obtain ⟨ti, hti, rfl, rfl⟩ := h
    obtain ⟨i, d, z, hi, hd, hz, e1, e2, e3, e4, e5⟩ := tiOf_spec hti
    have hzs : VRs ρ ti.zero z.cells.toList := ofLeafs_VR e4
    have hlen : ti.zero.length = z.cells.size := by simpa using hzs.1
    have R' := R.alloc (cells := ti.zero) (ety := t) (anc := []) (cur := z.cells) (fz := (0, 0)) (w' := w.alloc (.cells z.cells t)) hb (Pushed.alloc w _) hzs (fun j v hv => by simpa using hv) (by omega) (nofz _)
    refine ⟨_, _, _, ?_, .ptr upd_self, R'⟩
    refine wrap ?_
    · simp [Instr.alloc, run_zero hi hz, newVar, newRow]
  case box t x =>
    simp only [Option.bind_eq_some_iff] at h
    obtain ⟨ti, hti, h⟩ := h
    obtain ⟨h1, h⟩ := guardO_some h
    obtain ⟨h2, h⟩ := guardO_some h
    simp only [Option.some.injEq, Prod.mk.injEq] at h
    obtain ⟨rfl, rfl⟩ := h
    have hc := (E x).cells h1
    have hlen : (ev P e x).cells.length = (a.eval x).cells.size := by simpa using hc.1
    have R' := R.alloc (cells := (ev P e x).cells) (ety := t) (anc := []) (cur := (a.eval x).cells) (fz := (0, 0)) (w' := w.alloc (.cells (a.eval x).cells t)) hb (Pushed.alloc w _) hc (fun j v hv => by simpa using hv) (by omega) (nofz _)
    refine ⟨_, _, _, ?_, .ptr upd_self, R'⟩
    refine wrap ?_
    · simp [Instr.box, newVar, newRow]
  case buildSlice t len parts =>
    simp only [Option.bind_eq_some_iff] at h
    obtain ⟨ti, hti, h⟩ := h
    obtain ⟨i, d, z, hi, hd, hz, e1, e2, e3, e4, e5⟩ := tiOf_spec hti
    rw [e1] at h
    split at h
    · rename_i et hk
      cases d <;> simp [tdOf] at hk
      rename_i el
      subst hk
      simp only [Option.bind_eq_some_iff] at h
      obtain ⟨ei, hei, h⟩ := h
      obtain ⟨hpos, h⟩ := guardO_some h
      obtain ⟨hsm, h⟩ := guardO_some h
      simp only [Option.map_eq_some_iff, Prod.mk.injEq] at h
      obtain ⟨cs, hcs, rfl, rfl⟩ := h
      obtain ⟨i2, d2, z2, hi2, hd2, hz2, f1, f2, f3, f4, f5⟩ := tiOf_spec hei
      have hzs : VRs ρ ei.zero z2.cells.toList := ofLeafs_VR f4
      have hzl : z2.cells.size = ei.size := by have := hzs.1; simp at this; omega
      obtain ⟨hp1, hp2⟩ := parts_sound R.gl he parts.toList
      obtain ⟨vs, r1, r2, r3⟩ := fill_sound hcs (repl_VRs hzs len) hp1 hp2
      have hvl : vs.length = len * ei.size := by rw [r3]; simp [hzl]
      have hcl : cs.length = len * ei.size := by rw [r2.1, hvl]
      have R' := R.alloc (cells := cs) (ety := el) (anc := []) (cur := vs.toArray) (fz := (0, 0)) (w' := w.alloc (.cells vs.toArray el)) hb (Pushed.alloc w _) r2 (fun j v hv => by simpa using hv) (by simp; omega) (nofz _)
      refine ⟨_, _, _, ?_, .sl upd_self (Nat.le_refl len) (fun _ => by simp; omega), R'⟩
      refine wrap ?_
      · have hsz : ¬ (len * i2.size > 2 ^ 24) := by rw [← f2]; simp; omega
        have hfill : Instr.fill (fun i => some (i * i2.size, i2.size)) ((Array.range (len * i2.size)).map (z2.cells[· % z2.cells.size]!)) (parts.map fun (i, x) => (i, a.eval x)).toList = some vs.toArray := by
          have := rep_array z2.cells (by omega) len
          rw [hzl, f2] at this
          rw [hzl, f2, this, ← f2]
          rw [f2]
          rw [f2] at r1
          simpa using r1
        simp only [Instr.buildSlice, Sem.run_bind, run_und hd, Result.andThen_ok, run_size hi2, if_neg hsz, Sem.run_ite, Sem.run_pure]
        by_cases hz0 : len * i2.size = 0
        · rw [if_pos hz0]
          have hr : (Array.range (len * i2.size)).map ((#[] : Array Value)[· % (#[] : Array Value).size]!) = (Array.range (len * i2.size)).map (z2.cells[· % z2.cells.size]!) := by
            rw [hz0]; simp
          rw [hr, hfill]
          simp [newRow]
        · rw [if_neg hz0]
          simp only [Sem.run_bind, run_zero hi2 hz2, Result.andThen_ok, Sem.run_pure, hfill]
          simp [newRow]
    · simp at h
  case makeSlice t lx cx =>
    split at h
    · rename_i kl l kc c hl hc
      simp only [Option.bind_eq_some_iff] at h
      obtain ⟨ti, hti, h⟩ := h
      obtain ⟨i, d, z, hi, hd, hz, e1, e2, e3, e4, e5⟩ := tiOf_spec hti
      rw [e1] at h
      split at h
      · rename_i et hk
        cases d <;> simp [tdOf] at hk
        rename_i el
        subst hk
        simp only [Option.bind_eq_some_iff] at h
        obtain ⟨ei, hei, h⟩ := h
        obtain ⟨hpos, h⟩ := guardO_some h
        obtain ⟨⟨hl0, hlc⟩, h⟩ := guardO_some h
        obtain ⟨⟨hby, hmx⟩, h⟩ := guardO_some h
        simp only [Option.some.injEq, Prod.mk.injEq] at h
        obtain ⟨rfl, rfl⟩ := h
        obtain ⟨i2, d2, z2, hi2, hd2, hz2, f1, f2, f3, f4, f5⟩ := tiOf_spec hei
        have hzs : VRs ρ ei.zero z2.cells.toList := ofLeafs_VR f4
        have hzl : z2.cells.size = ei.size := by have := hzs.1; simp at this; omega
        have hel : a.eval lx = .int kl l := by have := E lx; rw [hl] at this; exact ofLeaf_int this
        have hec : a.eval cx = .int kc c := by have := E cx; rw [hc] at this; exact ofLeaf_int this
        simp only [maxInt] at hmx
        have hcc : ((c.toNat : Nat) : Int) = c := Int.toNat_of_nonneg (by omega)
        have hby' : ((ei.bytes * c.toNat : Nat) : Int) ≤ 281474976710656 := by omega
        rw [Int.natCast_mul, hcc] at hby'
        have hr := run_make (P := P) w t _ i2 z2 hd hi2 hz2 kl kc l c hl0 hlc (by rw [← f3]; exact hby') (by omega)
        have hmade : madeCells z2.cells (c.toNat * i2.size) = (List.replicate c.toNat z2.cells.toList).flatten.toArray := by
          have := rep_array z2.cells (by omega) c.toNat
          rw [← this, madeCells, hzl, ← f2]
        rw [hmade] at hr
        have hcurl : ((List.replicate c.toNat z2.cells.toList).flatten.toArray).size = c.toNat * ei.size := by simp [hzl]
        have R' := R.alloc (cells := repl l.toNat ei.zero) (ety := el) (anc := []) (cur := (List.replicate c.toNat z2.cells.toList).flatten.toArray) (fz := (0, 0))
          (w' := w.alloc (.cells (List.replicate c.toNat z2.cells.toList).flatten.toArray el)) hb (Pushed.alloc w _) (repl_VRs hzs l.toNat)
          (fun j v hv => by
            have hsplit : (List.replicate c.toNat z2.cells.toList).flatten = (List.replicate l.toNat z2.cells.toList).flatten ++ (List.replicate (c.toNat - l.toNat) z2.cells.toList).flatten := by
              rw [← List.flatten_append, List.replicate_append_replicate]; congr 2; omega
            have hj : j < (List.replicate l.toNat z2.cells.toList).flatten.length := by
              by_cases hh : j < (List.replicate l.toNat z2.cells.toList).flatten.length
              · exact hh
              · rw [List.getElem?_eq_none (by omega)] at hv; simp at hv
            rw [List.getElem?_toArray, hsplit, List.getElem?_append_left hj]
            exact hv)
          (by
            rw [hcurl]
            have : (repl l.toNat ei.zero).length = l.toNat * ei.size := by simp [repl, f5]
            rw [this]
            exact Nat.mul_le_mul_right _ (by omega)) (nofz _)
        refine ⟨_, _, _, ?_, .sl upd_self (show l.toNat ≤ c.toNat by omega) (fun _ => by show 0 + 0 + c.toNat * ei.size ≤ Array.size _; rw [hcurl]; omega), R'⟩
        refine wrap ?_
        · rw [hel, hec]
          simpa using hr
      · simp at h
    · simp at h
  case convert src dst' x =>
    split at h
    · rename_i s hx
      simp only [Option.bind_eq_some_iff] at h
      obtain ⟨si, hsi, di, hdi, h⟩ := h
      obtain ⟨i1, d1, z1, hi1, hd1, hz1, g1, _⟩ := tiOf_spec hsi
      obtain ⟨i2, d2, z2, hi2, hd2, hz2, g2, _⟩ := tiOf_spec hdi
      rw [g1, g2] at h
      split at h
      · rename_i et k1 k2
        simp only [Option.bind_eq_some_iff] at h
        obtain ⟨ei, hei, h⟩ := h
        obtain ⟨i3, d3, z3, hi3, hd3, hz3, g3, _⟩ := tiOf_spec hei
        rw [g3] at h
        split at h
        · rename_i k3
          obtain ⟨hes, h⟩ := guardO_some h
          obtain ⟨hmx, h⟩ := guardO_some h
          simp only [Option.some.injEq, Prod.mk.injEq] at h
          obtain ⟨rfl, rfl⟩ := h
          cases d1 <;> simp [tdOf] at k1
          cases d2 <;> simp [tdOf] at k2
          rename_i et'
          subst k2
          cases d3 <;> simp [tdOf] at k3
          subst k3
          have hev : a.eval x = .string ⟨s.toArray⟩ := by
            have hv := E x
            rw [hx] at hv
            generalize a.eval x = z at hv
            cases hv; rfl
          have hr := run_bytes_of_string (P := P) w src dst' _ ⟨s.toArray⟩ hd1 hd2 hd3
          have hsz : ByteArray.size ⟨s.toArray⟩ = s.length := by show s.toArray.size = _; simp
          have hge := grownCap_ge w (ByteArray.size ⟨s.toArray⟩) 0 et'
          rw [hsz] at hr hge
          generalize hcap : grownCap w s.length 0 et' = cap at hr hge
          have hrow : (bytesRow ⟨s.toArray⟩ cap).size = cap := by simp [bytesRow, hsz]; omega
          rw [hrow] at hr
          have R' := R.alloc (cells := s.map fun c => AV.int .u8 c.toNat) (ety := et') (anc := []) (cur := bytesRow ⟨s.toArray⟩ cap) (fz := (cap, cap + 1)) (vs := s.map fun c => Value.int .u8 c.toNat)
            (w' := w.drew.alloc (.cells (bytesRow ⟨s.toArray⟩ cap) et' (cap, cap + 1))) hb (Pushed.drew (Pushed.alloc w.drew _))
            ⟨by simp, fun i c v h1 h2 => by
              simp only [List.getElem?_map, Option.map_eq_some_iff] at h1 h2
              obtain ⟨x1, hx1, rfl⟩ := h1
              obtain ⟨x2, hx2, rfl⟩ := h2
              rw [hx1] at hx2; simp at hx2; subst hx2
              exact .int _ _⟩
            (fun j v hv => by
              have hj : j < s.length := by
                by_cases hh : j < s.length
                · exact hh
                · rw [List.getElem?_eq_none (by simp; omega)] at hv; simp at hv
              simp only [bytesRow]
              rw [Array.getElem?_append_left (by simp; exact hj)]
              simpa using hv)
            (by simp [hrow]; exact hge) (fun o ho h => by rw [hrow] at ho; simp at h; omega)
          refine ⟨_, _, _, ?_, .sl upd_self hge (fun _ => by simp [hrow]), R'⟩
          refine wrap ?_
          rw [hev]
          simpa using hr
        · simp at h
      · simp at h
    · simp at h

end Go.Proofs.YtchhknkflhikmaaDoor.Am

/- AM: stores and appends do what the machine does. -/
namespace Go.Proofs.YtchhknkflhikmaaDoor.Am
set_option linter.unusedSectionVars false
open Go
open Go.RowKit (Below)
set_option linter.unusedVariables false
set_option linter.unusedSimpArgs false
variable [Tab]

/-- What a writer answers and leaves. -/
def Ser1 (P : Program) (B : Nat) (w0 : World) (ρ : Ren) (v : AV) (m1 : Mem) (r : Result Next) : Prop :=
  ∃ v' w' ρ', (r = .ok (.value v') w' ∨ (r = .ok .skip w' ∧ v' = undef)) ∧ VR ρ' v v' ∧ Rel P B w0 ρ' m1 w' ∧ Sub ρ ρ'

theorem VR_undef {ρ : Ren} : VR ρ .undef undef := VR.tup (vs := []) rfl (fun i c v h => by simp at h)

theorem store_sound {P B w0} {ρ : Ren} {m} {w : World} {e : Env} {a : Act} {o : Oper} {t ad x b off k ti} (R : Rel P B w0 ρ m w) (he : EnvR ρ e a) (ho : o.op = .store t ad x)
    (ha : ev P e ad = .ptr b off) (hk : m.blk b = some k) (hst : k.st = .own) (ht : tiOf P t = some ti) (hp : 0 < ti.size) (hl : (ev P e x).cells.all AV.leaf = true)
    (hn : (ev P e x).cells.length = ti.size) (hi : off + (ev P e x).cells.length ≤ k.cells.length) :
    Ser1 P B w0 ρ .undef (storeIn m b k off (ev P e x).cells) ((execOp a.eval o).run P w) := by
  obtain ⟨dst, op, type, pos, after, guard⟩ := o
  simp only at ho; subst ho
  have E := ev_sound R.gl he
  have hc := (E x).cells hl
  have hlen : (ev P e x).cells.length = (a.eval x).cells.size := by simpa using hc.1
  obtain ⟨i, d, z, hi0, hd, hz, e1, e2, e3, e4, e5⟩ := tiOf_spec ht
  have hv := E ad
  rw [ha] at hv
  generalize hza : a.eval ad = z' at hv
  cases hv with
  | ptr h1 =>
    rename_i l
    obtain ⟨ho1, ho3, ho2⟩ := R.own b k l hk (.inl hst) h1
    obtain ⟨ho2, cur, fz, ho4, ho5, ho6⟩ := ho2 (by omega)
    have hw := setCells_wrote l.blk (a.eval x).cells.toList (l.off + off) w
    have R' := R.store hk hst h1 hc (by omega) hi hw
    refine ⟨undef, _, ρ, .inr ⟨?_, rfl⟩, VR_undef, R', Sub.refl _⟩
    have hrun := run_storeCells (P := P) (o := l.off + off) (vs := (a.eval x).cells.toList) ho4 (by simp; omega) (by rw [ho5]; exact ho6) (hc.oneCells hl)
    have hne : ¬ ((a.eval x).cells.size ≠ i.size) := by omega
    simp only [execOp, hza, Instr.storeAt, Instr.sureAddr, Sem.run_bind, Sem.run_pure, Result.andThen_ok, storeVar, run_size hi0, if_neg hne, hrun]

/-- An append's operands as the machine has them. -/
structure AppRun (P : Program) (tys : Array TypeId) (args : Array Value) (s' x' : Value) (t u et : TypeId) (i : TypeInfo) (z : Value) (ei : TI) : Prop where
  tys : tys = #[t, u]
  args : args = #[s', x']
  ht : P.underlying t = some (.slice et)
  hu : (∃ w, P.underlying u = some (.slice w)) ∨ P.underlying u = some .string
  hi : P.info? et = some i
  hz : i.zero = some z
  size : ei.size = i.size
  bytes : ei.bytes = i.bytes

theorem AppCtx.run {P e c s x et ei n} {ρ : Ren} {a : Act} (h : AppCtx P e c s x et ei n) (hg : GlOk P ρ) (he : EnvR ρ e a) :
    ∃ s' x' t u i z, AppRun P c.argTypes (c.args.map a.eval) s' x' t u et i z ei ∧ VR ρ s s' ∧ VR ρ x x' := by
  obtain ⟨t, u, ti, ui, ht, hti, htd, hui, hud⟩ := h.tys
  obtain ⟨i1, d1, z1, hi1, hd1, hz1, g1, _⟩ := tiOf_spec hti
  obtain ⟨i2, d2, z2, hi2, hd2, hz2, g2, _⟩ := tiOf_spec hui
  obtain ⟨i, d, z, hi, hd, hz, e1, e2, e3, _⟩ := tiOf_spec h.hei
  have hvs := evs_sound hg he c.args.toList
  rw [h.args] at hvs
  obtain ⟨s', r1, hr, hs, hvs⟩ := hvs.cons_inv
  obtain ⟨x', r2, rfl, hx, hvs⟩ := hvs.cons_inv
  have : r2 = [] := List.eq_nil_of_length_eq_zero (by have := hvs.1; simpa using this.symm)
  subst this
  refine ⟨s', x', t, u, i, z, ⟨?_, ?_, ?_, ?_, hi, hz, e2, e3⟩, hs, hx⟩
  · apply Array.ext'; simpa using ht
  · apply Array.ext'; simpa using hr
  · rw [g1] at htd
    cases d1 <;> simp [tdOf] at htd
    subst htd; exact hd1
  · rw [g2] at hud
    rcases hud with ⟨w, hw⟩ | hw
    · cases d2 <;> simp [tdOf] at hw
      subst hw; exact .inl ⟨_, hd2⟩
    · cases d2 <;> simp [tdOf] at hw
      exact .inr hd2

theorem lenOf_sound {P : Program} {ρ : Ren} {x x' n} (w : World) (hx : VR ρ x x') (h : lenOfA x = some n) : (Builtin.lenOf x').run P w = .ok n w := by
  unfold lenOfA at h
  split at h <;> simp at h <;> subst h
  · cases hx; rfl
  · cases hx <;> rfl
  · cases hx with
    | rs vs hn => subst hn; rfl
    | rs0 => rfl
  · rename_i s
    cases hx
    have hsz : ByteArray.size ⟨s.toArray⟩ = s.length := by show s.toArray.size = _; simp
    simp [Builtin.lenOf, hsz]

theorem first0 {P : Program} {ρ : Ren} {x x'} (w : World) (size : Nat) (hx : VR ρ x x') (h : lenOfA x = some 0) : (Builtin.firstCells size 0 x').run P w = .ok #[] w := by
  unfold lenOfA at h
  split at h <;> simp at h
  · cases hx; simp [Builtin.firstCells]
  · subst h
    cases hx with
    | sl => simp [Builtin.firstCells, loadCells, loadCellsFrom]
    | sl0 _ ad => cases ad <;> simp [Builtin.firstCells, loadCells, loadCellsFrom]
  · subst h
    cases hx with
    | rs => simp [Builtin.firstCells, loadCells, loadCellsFrom]
    | rs0 _ ad => cases ad <;> simp [Builtin.firstCells, loadCells, loadCellsFrom]
  · rename_i s
    cases hx
    simp [Builtin.firstCells]

theorem src_sound {P B w0} {ρ : Ren} {m} {w : World} {x x' esz n news} (R : Rel P B w0 ρ m w) (hx : VR ρ x x') (h : srcA m esz x = some news) (hn : lenOfA x = some n) (hpos : 0 < n) (hl : news.length = n * esz)
    (hsz : (∃ s, x = .str s) → esz = 1 ∨ True) : ∃ vs, VRs ρ news vs ∧ ∀ w1, Same w w1 → (Builtin.firstCells esz n x').run P w1 = .ok vs.toArray w1 := by
  unfold srcA at h
  split at h
  · simp [lenOfA] at hn; omega
  · rename_i b o n' sz
    simp [lenOfA] at hn; subst hn
    rw [if_neg (by omega)] at h
    simp only [Option.bind_eq_some_iff] at h
    obtain ⟨k, hk, h⟩ := h
    obtain ⟨hd, h⟩ := guardO_some h
    obtain ⟨hle, h⟩ := guardO_some h
    simp at h; subst h
    obtain ⟨l, vs, h1, h2, h3⟩ := R.rd b k hk hd
    refine ⟨(vs.drop o).take (n' * esz), (h2.drop o).take _, fun w1 hw1 => ?_⟩
    cases hx with
    | sl hl' hn' hc =>
      rw [h1] at hl'; simp at hl'; subst hl'
      have hvl : vs.length = k.cells.length := h2.1.symm
      refine run_firstCells_some w1 esz n' _ _ _ _ (by simp; omega) (fun j v hv => ?_)
      rw [addr_add, hw1.cell]
      rw [List.getElem?_take] at hv
      split at hv
      · rw [List.getElem?_drop] at hv
        rw [Nat.add_assoc]
        exact h3 _ _ hv
      · simp at hv
    | sl0 => omega
  · rename_i s es
    simp [lenOfA] at hn; subst hn
    have hs := (guardO_some h).1
    replace h := (guardO_some h).2
    subst hs
    simp at h; subst h
    cases hx with
    | rs vs hn hc hl2 hv hi =>
      rename_i blk off n cap
      obtain ⟨us, q1, q2, q3⟩ := rs_flat hl2 hv
      refine ⟨us, q1, fun w1 hw1 => ?_⟩
      subst hn
      refine run_firstCells_some w1 s es.length _ _ _ _ q2 (fun j v hv => ?_)
      rw [addr_add, hw1.cell]
      obtain ⟨i, j', k1, k2, k3, k4⟩ := q3 j v hv
      rw [k3, k4]
      exact (R.imm _ _ _ (hi i j' (by omega) k2)).1
    | rs0 => simp at hpos
  · rename_i s
    simp [lenOfA] at hn; subst hn
    simp at h; subst h
    refine ⟨s.map fun c => Value.int .u8 c.toNat, ⟨by simp, fun i c v h1 h2 => ?_⟩, fun w1 hw1 => ?_⟩
    · simp only [List.getElem?_map, Option.map_eq_some_iff] at h1 h2
      obtain ⟨x1, hx1, rfl⟩ := h1
      obtain ⟨x2, hx2, rfl⟩ := h2
      rw [hx1] at hx2; simp at hx2; subst hx2
      exact .int _ _
    · cases hx
      have hex : (ByteArray.extract ⟨s.toArray⟩ 0 s.length) = ⟨s.toArray⟩ := by
        rw [extract_str]; simp
      simp [Builtin.firstCells, hex]
  · simp at h

/-- Room: the cells are written behind the slice. -/
theorem run_app_room {P : Program} {tys args s' x' t u et i z ei} (A : AppRun P tys args s' x' t u et i z ei) (ty : TypeId) {w w' : World} {base : Option Addr} {len cap n : Nat} {vs : List Value}
    (hs : s' = .slice base len cap) (hlen : (Builtin.lenOf x').run P w = .ok n w) (hfc : (Builtin.firstCells i.size n x').run P w = .ok vs.toArray w) (hroom : len + n ≤ cap)
    (hst : (match base with | some a => storeCells (a.add (len * i.size)) vs | none => pure () : Sem Unit).run P w = .ok () w') :
    (Builtin.append_ tys ty args).run P w = .ok (.slice base (len + n) cap) w' := by
  subst hs
  rw [A.tys, A.args]
  rcases A.hu with ⟨wt, hu⟩ | hu
  · cases base with
    | none =>
      simp at hst; subst hst
      simp [Builtin.append_, run_und A.ht, run_und hu, run_size A.hi, hlen, hroom, hfc]
    | some ad => simp [Builtin.append_, run_und A.ht, run_und hu, run_size A.hi, hlen, hroom, hfc, hst]
  · cases base with
    | none =>
      simp at hst; subst hst
      simp [Builtin.append_, run_und A.ht, run_und hu, run_size A.hi, hlen, hroom, hfc]
    | some ad => simp [Builtin.append_, run_und A.ht, run_und hu, run_size A.hi, hlen, hroom, hfc, hst]

/-- No room: a new array. -/
theorem run_app_grow {P : Program} {tys args s' x' t u et i z ei} (A : AppRun P tys args s' x' t u et i z ei) (ty : TypeId) {w : World} {base : Option Addr} {len cap n : Nat} {olds vs : List Value}
    (hs : s' = .slice base len cap) (hlen : (Builtin.lenOf x').run P w = .ok n w) (hfc : (Builtin.firstCells i.size n x').run P w.drew = .ok vs.toArray w.drew)
    (hfo : (Builtin.firstCells i.size len (.slice base len cap)).run P w.drew = .ok olds.toArray w.drew) (hroom : cap < len + n) (h63 : len + n ≤ maxInt) (hby : (len + n) * i.bytes ≤ 140737488355328) :
    (Builtin.append_ tys ty args).run P w = .ok (.slice (some ⟨w.heap.size, 0, none⟩) (len + n) (grownCap w (len + n) cap et))
      (w.drew.alloc (.cells (olds.toArray ++ vs.toArray ++ Builtin.zeroCells z.cells (grownCap w (len + n) cap et - (len + n))) et)) := by
  subst hs
  rw [A.tys, A.args]
  have hn : ¬ (len + n ≤ cap) := by omega
  have hfit := growslice_fits hroom hby
  have h48 : ¬ (281474976710656 < Builtin.nextslicecap (len + n) cap * i.bytes) := by omega
  simp only [maxInt] at h63
  have h63' : ¬ (9223372036854775807 < ((len : Int) + (n : Int))) := by omega
  rcases A.hu with ⟨wt, hu⟩ | hu
  · simp [Builtin.append_, run_und A.ht, run_und hu, Go.sizeOf, typeInfo, zeroValue, A.hi, A.hz, hlen, hn, h63', h48, Question.forced, hfc, hfo, newRow, grownCap]
    congr 2
    apply Array.ext'
    simp [List.append_assoc]
  · simp [Builtin.append_, run_und A.ht, run_und hu, Go.sizeOf, typeInfo, zeroValue, A.hi, A.hz, hlen, hn, h63', h48, Question.forced, hfc, hfo, newRow, grownCap]
    congr 2
    apply Array.ext'
    simp [List.append_assoc]

theorem call_builtin_run {P : Program} {a : Act} {w w' : World} {v} {c : Call} (hc : c.callee = .builtin .append) (o : Oper) (ho : o.op = .call c)
    (h : (Builtin.append_ c.argTypes o.type (c.args.map a.eval)).run P w = .ok v w') : (execOp a.eval o).run P w = .ok (.value v) w' := by
  obtain ⟨callee, args, tys⟩ := c
  simp only at hc; subst hc
  simp only [execOp, ho, resolve, invoke, builtin, Sem.run_bind, Sem.run_pure, Result.andThen_ok]
  simp only at h
  rw [h]
  rfl

theorem grown_cells {z : Value} {olds vs : List Value} {len n cap esz : Nat} (hz : z.cells.size = esz) (ho : olds.length = len * esz) (hv : vs.length = n * esz) (hle : len + n ≤ cap) :
    (olds.toArray ++ vs.toArray ++ Builtin.zeroCells z.cells (cap - (len + n))).size = cap * esz ∧
    ∀ (j : Nat) v, (olds ++ vs)[j]? = some v → (olds.toArray ++ vs.toArray ++ Builtin.zeroCells z.cells (cap - (len + n)))[j]? = some v := by
  constructor
  · simp only [Array.size_append, List.size_toArray, size_zeroCells, hz, ho, hv, ← Nat.add_mul]
    congr 1; omega
  · intro j v hj
    have hlt : j < (olds ++ vs).length := by
      by_cases hh : j < (olds ++ vs).length
      · exact hh
      · rw [List.getElem?_eq_none (by omega)] at hj; simp at hj
    rw [Array.getElem?_append_left (by simpa using hlt)]
    simpa using hj

/-! ### A block that the machine marks: it is written no more -/

structure Marked (w w' : World) (a : Nat) : Prop where
  size : w'.heap.size = w.heap.size
  os : w'.os = w.os
  tape : w'.tape = w.tape
  output : w'.output = w.output
  other : ∀ g, g ≠ a → w'.heap[g]? = w.heap[g]?
  cell : ∀ x : Addr, w'.cell? x = w.cell? x

theorem freeze_marked (w : World) (a : Addr) (n : Nat) : Marked w (w.freeze a n) a.block := by
  unfold World.freeze
  split
  · exact ⟨rfl, rfl, rfl, rfl, fun _ _ => rfl, fun _ => rfl⟩
  · refine ⟨by simp, rfl, rfl, rfl, fun g hg => by simp [Array.getElem?_modify, Ne.symm hg], fun x => ?_⟩
    simp only [World.cell?, Array.getElem?_modify]
    by_cases hx : a.block = x.block
    · rw [if_pos hx]
      cases hw : w.heap[x.block]? with
      | none => rfl
      | some o => cases o <;> rfl
    · rw [if_neg hx]

def renBlk (ρ : Ren) (w : World) (a : Nat) : Ren := ⟨ρ.loc, fun c o => if c = a then w.cell? ⟨c, o, none⟩ else ρ.imm c o⟩

theorem Rel.mark {P B w0 ρ m w w' b k l} (R : Rel P B w0 ρ m w) (hb : m.blk b = some k) (hs : k.st = .own) (hl : ρ b = some l) (hc : 0 < k.cells.length) (hw : Marked w w' l.blk) :
    Rel P B w0 (renBlk ρ w l.blk) (sameIn m b k) w' ∧ Sub ρ (renBlk ρ w l.blk) := by
  obtain ⟨o1, o3, o2⟩ := R.own b k l hb (.inl hs) hl
  have hpl : 0 < l.phys := by omega
  obtain ⟨o2, cur, fz, o4, o5, o6⟩ := o2 hpl
  have S : Sub ρ (renBlk ρ w l.blk) := ⟨fun _ _ h => h, fun a o v h => by
    simp only [renBlk]
    split
    · exact (R.imm a o v h).1
    · exact h⟩
  have hblk : ∀ x kx, (sameIn m b k).blk x = some kx → kx.st ≠ .dead → x ≠ b ∧ m.blk x = some kx ∧ ¬ (kx.st = .old ∧ x ∈ k.anc) := fun x kx hx hd => by
    unfold sameIn at hx
    rw [Mem.blk_put] at hx
    split at hx
    · cases hx; exact absurd rfl hd
    · rename_i hne
      unfold storeIn at hx
      rw [kill_blk, Mem.blk_put, if_neg hne] at hx
      split at hx
      · cases hx
      · rename_i k0 hk0
        split at hx
        · cases hx; exact absurd rfl hd
        · rename_i hno
          cases hx
          exact ⟨hne, hk0, hno⟩
  have nd : ∀ {k : Blk}, (k.st = .own ∨ k.st = .old) → k.st ≠ .dead := fun h hd => by rw [hd] at h; rcases h with h | h <;> cases h
  have apart : ∀ c kc lc, (sameIn m b k).blk c = some kc → (kc.st = .own ∨ kc.st = .old) → ρ c = some lc → 0 < lc.phys → lc.blk ≠ l.blk := fun c kc lc hc0 h h1 hp he => by
    obtain ⟨n1, n2, n3⟩ := hblk c kc hc0 (nd h)
    obtain ⟨q1, q2, _⟩ := R.sep c b kc k lc l n2 hb h1 hl hs h n1 hp hpl he
    exact n3 ⟨q1, q2⟩
  refine ⟨⟨⟨hw.os.trans R.below.os, hw.tape.trans R.below.tape, hw.output.trans R.below.output, by rw [hw.size]; exact R.below.size, fun i hi => (hw.other i (by omega)).trans (R.below.block i hi)⟩,
    by rw [hw.size]; exact R.size, R.gl.mono S, fun c h => R.dom c ((sameIn_none hb).1 h), fun c kc h hd => ?_, fun c kc lc h hs' h1 => R.ro c kc lc (hblk c kc h (by rw [hs']; decide)).2.1 hs' h1, fun c kc lc h hs' h1 => ?_,
    fun c d kc kd lc ld h1 h2 h3 h4 h5 h6 h7 h8 h9 h10 => R.sep c d kc kd lc ld (hblk c kc h1 (nd h6)).2.1 (hblk d kd h2 (nd (.inl h5))).2.1 h3 h4 h5 h6 h7 h8 h9 h10, fun a o v hv => ?_⟩, S⟩
  · obtain ⟨_, n2, _⟩ := hblk c kc h hd
    obtain ⟨lc, vs, q1, q2, q3⟩ := R.rd c kc n2 hd
    exact ⟨lc, vs, q1, q2.mono S, fun j v hv => by rw [hw.cell]; exact q3 j v hv⟩
  · obtain ⟨_, n2, _⟩ := hblk c kc h (nd hs')
    obtain ⟨q1, q2, q3⟩ := R.own c kc lc n2 hs' h1
    refine ⟨q1, q2, fun hp => ?_⟩
    obtain ⟨q4, cur', fz', q5, q6⟩ := q3 hp
    exact ⟨q4, cur', fz', by rw [hw.other _ (apart c kc lc h hs' h1 hp)]; exact q5, q6⟩
  · simp only [renBlk] at hv
    split at hv
    · rename_i ha
      subst ha
      exact ⟨by rw [hw.cell]; exact hv, fun c kc lc h hs' h1 hp => apart c kc lc h (.inl hs') h1 hp⟩
    · refine ⟨by rw [hw.cell]; exact (R.imm a o v hv).1, fun c kc lc h hs' h1 hp => (R.imm a o v hv).2 c kc lc (hblk c kc h (by rw [hs']; decide)).2.1 hs' h1 hp⟩

theorem run_convert_same {P : Program} {w : World} {t et : TypeId} {a : Addr} {n cap : Nat} {cur : Array Value} {ty : TypeId} {fz} (ht : P.underlying t = some (.slice et)) (he : P.underlying et = some (.int .u8)) (hh : w.heap[a.block]? = some (.cells cur ty fz)) :
    (convert t t (.slice (some a) n cap)).run P w = .ok (.slice (some a) n cap) (w.freeze ⟨a.block, cur.size, none⟩ 1) := by
  have hsh : w.shape? a.block = some (ty, cur.size) := by simp [World.shape?, hh]
  simp [convert, run_underlying ht, run_underlying he, markStringish, hsh]

theorem same_sound {P B w0} {ρ : Ren} {m} {w : World} {e : Env} {a : Act} {o : Oper} {t x b n k es ti et ei} (R : Rel P B w0 ρ m w) (he : EnvR ρ e a) (ho : o.op = .convert t t x)
    (hx : ev P e x = .sl b 0 n 1) (hk : m.blk b = some k) (hst : k.st = .own) (ht : tiOf P t = some ti) (hd : ti.d = .slice et) (hei : tiOf P et = some ei) (hu : ei.d = .int .u8)
    (hn : 0 < n) (hc : k.cells = es.flatten) (hl : es.length = n) (hel : ∀ e ∈ es, e.length = 1) : Ser1 P B w0 ρ (.rs 1 es) (sameIn m b k) ((execOp a.eval o).run P w) := by
  obtain ⟨dst, op, type, pos, after, guard⟩ := o
  simp only at ho; subst ho
  have E := ev_sound R.gl he
  obtain ⟨i1, d1, z1, hi1, hd1, hz1, g1, _⟩ := tiOf_spec ht
  obtain ⟨i2, d2, z2, hi2, hd2, hz2, g2, _⟩ := tiOf_spec hei
  have hs1 : P.underlying t = some (.slice et) := by
    rw [g1] at hd; cases d1 <;> simp [tdOf] at hd
    subst hd; exact hd1
  have hs2 : P.underlying et = some (.int .u8) := by
    rw [g2] at hu; cases d2 <;> simp [tdOf] at hu
    subst hu; exact hd2
  have hcl : k.cells.length = n := by
    rw [hc, ← hl]
    clear hc hl
    induction es with
    | nil => rfl
    | cons e es ih => rw [List.flatten_cons, List.length_append, ih fun e he => hel e (List.mem_cons_of_mem _ he), hel e List.mem_cons_self, List.length_cons]; omega
  have hv := E x
  rw [hx] at hv
  generalize hza : a.eval x = z' at hv
  cases hv with
  | sl h1 h2 h3 =>
    rename_i l cap
    obtain ⟨o1, o3, o2⟩ := R.own b k l hk (.inl hst) h1
    obtain ⟨o2, cur, fz, o4, o5, o6⟩ := o2 (by omega)
    have hrun := run_convert_same (n := n) (cap := cap) (a := ⟨l.blk, l.off + 0, none⟩) hs1 hs2 o4
    obtain ⟨R', S'⟩ := R.mark hk hst h1 (by omega) (freeze_marked w ⟨l.blk, cur.size, none⟩ 1)
    refine ⟨.slice (some ⟨l.blk, l.off + 0, none⟩) n cap, _, _, .inl ?_, ?_, R', S'⟩
    · simp only [execOp, hza, Sem.run_bind, hrun, Result.andThen_ok, Sem.run_pure]
    · obtain ⟨l', vs, r1, r2, r3⟩ := R.rd b k hk (by rw [hst]; decide)
      rw [h1] at r1; cases r1
      have hvl : vs.length = n := by rw [← r2.1]; exact hcl
      have get : ∀ i, i < n → vs[i]? = some (vs.getD i undef) := fun i hi => by rw [List.getD, List.getElem?_eq_getElem (by omega)]; rfl
      have el : ∀ (es : List (List AV)) (i : Nat) (e : List AV) (c : AV), (∀ e ∈ es, e.length = 1) → es[i]? = some e → e[0]? = some c → es.flatten[i]? = some c := by
        intro es
        induction es with
        | nil => intro i e c _ h; simp at h
        | cons y ys ih =>
          intro i e c hs he hc
          have hy := hs y List.mem_cons_self
          cases i with
          | zero =>
            simp at he; subst he
            rw [List.flatten_cons, List.getElem?_append_left (by omega)]; exact hc
          | succ i =>
            simp only [List.getElem?_cons_succ] at he
            rw [List.flatten_cons, List.getElem?_append_right (by omega), hy, Nat.add_sub_cancel]
            exact ih i e c (fun e he => hs e (List.mem_cons_of_mem _ he)) he hc
      refine .rs (fun i j => vs.getD i undef) hl h2 hel (fun i j e c e1 e2 => ?_) (fun i j hi hj => ?_)
      · have hi : i < n := by have := (List.getElem?_eq_some_iff.1 e1).1; omega
        have hj : j = 0 := by have := (List.getElem?_eq_some_iff.1 e2).1; have := hel e (List.mem_of_getElem? e1); omega
        subst hj
        exact (r2.2 i c _ (by rw [hc]; exact el es i e c hel e1 e2) (get i hi)).mono S'
      · have hj : j = 0 := by omega
        subst hj
        simp only [renBlk, if_true, Nat.add_zero, Nat.mul_one]
        exact r3 i _ (get i hi)
  | sl0 h1 ad => omega

theorem concV_VR {ρ : Ren} {c : AV} {v v' : Value} (h : concV c = some v) (hv : VR ρ c v') : v' = v := by
  cases hv <;> simp [concV] at h <;> exact h
theorem concs_VR {ρ : Ren} : ∀ {cs : List AV} {vs us : List Value}, concs cs = some vs → VRs ρ cs us → us = vs
  | [], vs, us, h, hu => by
    simp [concs] at h; subst h
    have := hu.1
    exact List.eq_nil_of_length_eq_zero (by simpa using this.symm)
  | c :: cs, vs, us, h, hu => by
    obtain ⟨u, us', rfl, h1, h2⟩ := hu.cons_inv
    simp only [concs, Option.bind_eq_some_iff, Option.map_eq_some_iff] at h
    obtain ⟨v, hv, ws, hw, rfl⟩ := h
    rw [concV_VR hv h1, concs_VR hw h2]
theorem ext_sound {P B w0} {ρ : Ren} {m} {w : World} {e : Env} {a : Act} {o : Oper} {c f g first cap v} (R : Rel P B w0 ρ m w) (he : EnvR ρ e a) (hop : o.op = .call c) (hcal : c.callee = .value f) (hfn : ev P e f = .fn g first cap)
    (hx : ExtR P g (first ++ c.args.toList.map (ev P e) ++ cap) v) : Ser1 P B w0 ρ v m ((execOp a.eval o).run P w) := by
  obtain ⟨fn, ent, vals, val, h1, h2, h3, h4, h5, h6, h7, h8⟩ := hx
  have hv := ev_sound R.gl he f
  rw [hfn] at hv
  have hargs := evs_sound R.gl he c.args.toList
  generalize hz : a.eval f = z at hv
  cases hv with
  | fn hx hx' hy hy' =>
    rename_i us vs
    have hall := ((show VRs ρ first us from ⟨hx, hx'⟩).append hargs).append (show VRs ρ cap vs from ⟨hy, hy'⟩)
    have hvals := concs_VR h6 hall
    have hrun : (execOp a.eval o).run P w = .ok (.value val) w := by
      obtain ⟨callee, args, tys⟩ := c
      simp only at hcal; subst hcal
      have hxs : us.toArray ++ args.map a.eval ++ vs.toArray = vals.toArray := by
        rw [← hvals]; apply Array.ext'; simp
      simp only [execOp, hop, resolve, Sem.run_bind, hz, Deferred.ofValue, Sem.run_pure, Result.andThen_ok, invoke, hxs, run_callFunc_extern h1 h2 h3 h4 h5, h7, Result.andThen_ok]
    exact ⟨val, w, ρ, .inl hrun, ofLeaf_VR h8, R, Sub.refl _⟩

theorem SerR_sound {P B w0} {ρ : Ren} {m} {w : World} {e : Env} {a : Act} {o : Oper} {b' v m1} (R : Rel P B w0 ρ m w) (he : EnvR ρ e a) (hb' : m.blk b' = none) (h : SerR P e m b' o.op v m1) :
    Ser1 P B w0 ρ v m1 ((execOp a.eval o).run P w) := by
  generalize hop : o.op = op at h
  have nofz : ∀ (n : Nat), ∀ o, o < n → ¬ ((0, 0).1 ≤ o ∧ o < (0, 0).2) := fun n o _ h => by simp at h
  cases h with
  | store ha hk hst ht hp hl hn hi => exact store_sound R he hop ha hk hst ht hp hl hn hi
  | same hx hk hst ht hd hei hu hn hc hl hel => exact same_sound R he hop hx hk hst ht hd hei hu hn hc hl hel
  | ext hcal hfn hx => exact ext_sound R he hop hcal hfn hx
  | app0 ctx hs =>
    obtain ⟨s', x', t, u, i, z, A, hs', hx'⟩ := ctx.run R.gl he
    have hlen := lenOf_sound (P := P) w hx' ctx.len
    have hfc := first0 (P := P) w i.size hx' ctx.len
    have fin : ∀ base len cap, s' = .slice base len cap → len ≤ cap → (execOp a.eval o).run P w = .ok (.value s') w := by
      intro base len cap e1 hle
      refine call_builtin_run ctx.callee o hop ?_
      have := run_app_room A o.type (w := w) (w' := w) (n := 0) (vs := []) e1 hlen (by simpa using hfc) (by omega) (by cases base <;> rfl)
      rw [this, e1]; simp
    rcases hs with rfl | ⟨b, oo, len, sz, rfl⟩
    · cases hs'
      exact ⟨_, w, ρ, .inl (fin none 0 0 rfl (Nat.le_refl _)), .snil, R, Sub.refl _⟩
    · refine ⟨s', w, ρ, .inl ?_, hs', R, Sub.refl _⟩
      cases hs' with
      | sl h1 h2 h3 => exact fin _ _ _ rfl h2
      | sl0 h1 ad => exact fin _ _ _ rfl (Nat.le_refl _)
  | app00 ctx =>
    obtain ⟨s', x', t, u, i, z, A, hs', hx'⟩ := ctx.run R.gl he
    have hlen := lenOf_sound (P := P) w hx' ctx.len
    have hfc := first0 (P := P) w i.size hx' ctx.len
    cases hs'
    have hrun : (execOp a.eval o).run P w = .ok (.value (.slice none 0 0)) w := by
      refine call_builtin_run ctx.callee o hop ?_
      have := run_app_room A o.type (w := w) (w' := w) (base := none) (len := 0) (cap := 0) (n := 0) (vs := []) rfl hlen (by simpa using hfc) (by omega) rfl
      rw [this]
    exact ⟨_, w, _, .inl hrun, .sl0 upd_self none, R.ghost hb', upd_mono (R.dom _ hb')⟩
  | appNil ctx hn hs hl hlf hby hm =>
    rename_i c x et ei n news
    obtain ⟨s', x', t, u, i, z, A, hs', hx'⟩ := ctx.run R.gl he
    cases hs'
    have hlen := lenOf_sound (P := P) w hx' ctx.len
    obtain ⟨vs, hvs, hfc⟩ := src_sound R hx' hs ctx.len hn hl (fun _ => .inr trivial)
    have hd := hfc w.drew ⟨rfl, rfl, rfl, rfl⟩
    rw [A.size] at hd
    have hrun := run_app_grow A o.type (w := w) (base := none) (len := 0) (cap := 0) (n := n) (olds := []) (vs := vs) rfl hlen hd (by simp [Builtin.firstCells]) (by omega) (by omega) (by rw [← A.bytes]; simpa using hby)
    obtain ⟨i2, d2, z2, hi2, hd2, hz2, f1, f2, f3, f4, f5⟩ := tiOf_spec ctx.hei
    have hzz : z2 = z := by
      have h1 := A.hi; rw [hi2] at h1; simp at h1; subst h1
      have h2 := A.hz; rw [hz2] at h2; simpa using h2
    subst hzz
    have hzl : z2.cells.size = ei.size := by have := (ofLeafs_VR (ρ := ρ) f4).1; simp at this; omega
    have hvl : vs.length = n * ei.size := by rw [← hvs.1, hl]
    have hge := grownCap_ge w (0 + n) 0 et
    generalize hcap : grownCap w (0 + n) 0 et = cap at hrun hge
    obtain ⟨hsz, hcells⟩ := grown_cells (z := z2) (olds := []) (vs := vs) (len := 0) (n := n) (cap := cap) hzl (by simp) hvl hge
    simp only [Nat.zero_add, List.nil_append] at hrun hge hsz hcells
    have R' := R.alloc (cells := news) (ety := et) (anc := []) (fz := (0, 0)) (vs := vs) hb' (Pushed.drew (Pushed.alloc w.drew _)) hvs hcells
      (by rw [hsz, hl]; exact Nat.mul_le_mul_right _ hge) (nofz _)
    refine ⟨_, _, _, .inl (call_builtin_run ctx.callee o hop hrun), .sl upd_self hge (fun _ => ?_), R', upd_mono (R.dom _ hb')⟩
    show 0 + 0 + cap * ei.size ≤ Array.size _
    rw [hsz]; omega
  | appOwn ctx hn hs hl hlf hk hst hty hend hby hm =>
    rename_i c x et ei n news b oo len k
    obtain ⟨s', x', t, u, i, z, A, hs', hx'⟩ := ctx.run R.gl he
    have hlen := lenOf_sound (P := P) w hx' ctx.len
    obtain ⟨vs, hvs, hfc⟩ := src_sound R hx' hs ctx.len hn hl (fun _ => .inr trivial)
    have hvl : vs.length = n * ei.size := by rw [← hvs.1, hl]
    obtain ⟨i2, d2, z2, hi2, hd2, hz2, f1, f2, f3, f4, f5⟩ := tiOf_spec ctx.hei
    have hzz : z2 = z := by
      have h1 := A.hi; rw [hi2] at h1; simp at h1; subst h1
      have h2 := A.hz; rw [hz2] at h2; simpa using h2
    subst hzz
    have hzl : z2.cells.size = ei.size := by have := (ofLeafs_VR (ρ := ρ) f4).1; simp at this; omega
    have hoo : oo ≤ k.cells.length := by omega
    -- a new array
    have grow : ∀ base cap l, s' = .slice base len cap → ρ b = some l → cap < len + n →
        (∃ olds, VRs ρ (k.cells.drop oo) olds ∧ (Builtin.firstCells i.size len (.slice base len cap)).run P w.drew = .ok olds.toArray w.drew) →
        Ser1 P B w0 ρ (.sl b' 0 (len + n) ei.size) ((m.put b { k with st := .old }).put b' ⟨.own, k.cells.drop oo ++ news, et, b :: k.anc⟩) ((execOp a.eval o).run P w) := by
      intro base cap l e1 hlb hroom ⟨olds, holds, hfo⟩
      have hd := hfc w.drew ⟨rfl, rfl, rfl, rfl⟩
      rw [A.size] at hd
      have hrun := run_app_grow A o.type (w := w) (n := n) (olds := olds) (vs := vs) e1 hlen hd hfo hroom hm (by rw [← A.bytes]; exact hby)
      have hol : olds.length = len * ei.size := by rw [← holds.1]; simp; omega
      have hge := grownCap_ge w (len + n) cap et
      generalize hcap : grownCap w (len + n) cap et = cap' at hrun hge
      obtain ⟨hsz, hcells⟩ := grown_cells (z := z2) (olds := olds) (vs := vs) (len := len) (n := n) (cap := cap') hzl hol hvl hge
      have R2 := R.oldify hk hst
      have hne : b ≠ b' := by rintro rfl; simp [hb'] at hk
      have hb2 : (m.put b { k with st := .old }).blk b' = none := by rw [Mem.blk_put, if_neg (Ne.symm hne)]; exact hb'
      have R' := R2.alloc (cells := k.cells.drop oo ++ news) (ety := et) (anc := b :: k.anc) (fz := (0, 0)) (vs := olds ++ vs) hb2 (Pushed.drew (Pushed.alloc w.drew _)) (holds.append hvs) hcells
        (by rw [hsz]; simp only [List.length_append, List.length_drop, hl]
            have : k.cells.length - oo = len * ei.size := by omega
            rw [this, ← Nat.add_mul]; exact Nat.mul_le_mul_right _ hge) (nofz _)
      refine ⟨_, _, _, .inl (call_builtin_run ctx.callee o hop hrun), .sl upd_self hge (fun _ => ?_), R', upd_mono (R.dom _ hb')⟩
      show 0 + 0 + cap' * ei.size ≤ Array.size _
      rw [hsz]; omega
    obtain ⟨l, us, hl1, hl2, hl3⟩ := R.rd b k hk (by rw [hst]; decide)
    cases hs' with
    | sl h1 h2 h3 =>
      rename_i l' cap
      rw [hl1] at h1; simp at h1; subst h1
      obtain ⟨ho1, ho3, ho2⟩ := R.own b k l hk (.inl hst) hl1
      by_cases hroom : len + n ≤ cap
      · -- in place
        have hphys := h3 ho1
        have hmul : (len + n) * ei.size ≤ cap * ei.size := Nat.mul_le_mul_right _ hroom
        rw [Nat.add_mul] at hmul
        have hnp : 0 < n * ei.size := Nat.mul_pos hn ctx.pos
        obtain ⟨ho2, cur, fz, ho4, ho5, ho6⟩ := ho2 (by omega)
        have hw := setCells_wrote l.blk vs (l.off + k.cells.length) w
        have hrm : l.off + k.cells.length + news.length ≤ l.phys := by rw [hl]; omega
        have R' := R.appendIn hk hst hl1 hb' hvs hoo hrm (by omega) hw
        rw [show (⟨.own, k.cells.drop oo ++ news, et, b :: k.anc⟩ : Blk) = ⟨.own, k.cells.drop oo ++ news, k.ety, b :: k.anc⟩ by rw [hty]]
        have hd := hfc w (Same.refl w)
        rw [A.size] at hd
        have hst' := run_storeCells (P := P) (o := l.off + k.cells.length) (vs := vs) ho4 (by rw [ho5, hvl, ← hl]; exact hrm) (by rw [ho5]; exact ho6) (hvs.oneCells hlf)
        have hrun := run_app_room A o.type (w := w) (n := n) (vs := vs) rfl hlen hd hroom (by
          simp only [addr_add]
          rw [show l.off + oo + len * i.size = l.off + k.cells.length by rw [← A.size]; omega]
          exact hst')
        refine ⟨_, _, _, .inl (call_builtin_run ctx.callee o hop hrun), ?_, R', upd_mono (R.dom _ hb')⟩
        exact VR.sl (ρ := upd ρ b' ⟨l.blk, l.off + oo, l.phys, true⟩) (o := 0) (l := ⟨l.blk, l.off + oo, l.phys, true⟩) upd_self hroom (fun _ => by simp; omega)
      · refine grow _ cap l rfl hl1 (by omega) ⟨us.drop oo, hl2.drop oo, ?_⟩
        have hul : us.length = k.cells.length := hl2.1.symm
        refine run_firstCells_some w.drew i.size len _ _ _ _ (by rw [← A.size]; simp; omega) (fun j v hv => ?_)
        rw [addr_add]
        rw [List.getElem?_drop] at hv
        have := hl3 _ _ hv
        rw [Nat.add_assoc]
        exact this
    | sl0 h1 ad =>
      refine grow ad 0 l rfl hl1 (by omega) ⟨[], ?_, ?_⟩
      · rw [List.drop_of_length_le (by simp at hend; omega)]
        exact VRs.nil
      · cases ad <;> simp [Builtin.firstCells, loadCells, loadCellsFrom]

end Go.Proofs.YtchhknkflhikmaaDoor.Am

/- AM: operations that do not look at each other change places; what a piece of code does is what the machine does. -/
namespace Go.Proofs.YtchhknkflhikmaaDoor.Am
set_option linter.unusedSectionVars false
open Go
open Go.RowKit (Below)
set_option linter.unusedVariables false
set_option linter.unusedSimpArgs false
variable [Tab]

/-! ### What an operation looks at -/

theorem map_ev_congr {P : Program} {e e2 : Env} {xs : List Operand} (h : ∀ x ∈ xs, ev P e x = ev P e2 x) : xs.map (ev P e) = xs.map (ev P e2) := List.map_congr_left h

theorem parts_congr {P : Program} {e e2 : Env} {ps : List (Nat × Operand)} (h : ∀ x ∈ ps.map (·.2), ev P e x = ev P e2 x) :
    (ps.map fun (i, x) => (i, ev P e x)) = (ps.map fun (i, x) => (i, ev P e2 x)) := by
  apply List.map_congr_left
  intro p hp
  obtain ⟨i, x⟩ := p
  simp only [h x (List.mem_map.2 ⟨(i, x), hp, rfl⟩)]

theorem pureA_congr {P : Program} {e e2 : Env} {o : Op} (h : ∀ x ∈ o.operands, ev P e x = ev P e2 x) : pureA P e o = pureA P e2 o := by
  cases o <;> simp only [Op.operands, pureA] at h ⊢
  case move x => rw [h x (by simp)]
  case assign x => rw [h x (by simp)]
  case pick c x y => rw [h c (by simp), h x (by simp), h y (by simp)]
  case nilCheck x => rw [h x (by simp)]
  case binOp op t x y u => rw [h x (by simp), h y (by simp)]
  case unOp op t x => rw [h x (by simp)]
  case convert s d x => rw [h x (by simp)]
  case build t ps => rw [parts_congr fun x hx => h x (by simpa using hx)]
  case field t x f => rw [h x (by simp)]
  case fieldAddr t x f => rw [h x (by simp)]
  case indexAddr t x i => rw [h x (by simp), h i (by simp)]
  case index t x i => rw [h x (by simp), h i (by simp)]
  case extract x i => rw [h x (by simp)]
  case slice t x lo hi mx =>
    cases mx with
    | some _ => rfl
    | none =>
      simp only [pureA]
      rw [h x (by simp)]
      have h1 : lo.map (ev P e) = lo.map (ev P e2) := by
        cases lo with
        | none => rfl
        | some y => simp only [Option.map_some]; rw [h y (by simp)]
      have h2 : hi.map (ev P e) = hi.map (ev P e2) := by
        cases hi with
        | none => rfl
        | some y => simp only [Option.map_some]; rw [h y (by simp)]
      rw [h1, h2]
  case makeFunc fn first cap =>
    cases fn <;> try rfl
    simp only [pureA]
    rw [map_ev_congr fun x hx => h x (by simp at hx ⊢; exact .inl hx), map_ev_congr fun x hx => h x (by simp at hx ⊢; exact .inr hx)]
  case call c =>
    obtain ⟨callee, args, tys⟩ := c
    cases callee <;> try rfl
    simp only [pureA]
    rw [map_ev_congr fun x hx => h x (by simp [Call.operands] at hx ⊢; exact hx)]

theorem loadA_congr {P : Program} {e e2 : Env} {m : Mem} {o : Op} (h : ∀ x ∈ o.operands, ev P e x = ev P e2 x) : loadA P e m o = loadA P e2 m o := by
  cases o <;> simp only [Op.operands, loadA] at h ⊢
  case load t x => rw [h x (by simp)]
  case convert s d x => rw [h x (by simp)]
  case slice t x lo hi mx =>
    cases mx with
    | some _ => rfl
    | none =>
      simp only [loadA]
      rw [h x (by simp)]
      have h1 : lo.map (ev P e) = lo.map (ev P e2) := by
        cases lo with
        | none => rfl
        | some y => simp only [Option.map_some]; rw [h y (by simp)]
      have h2 : hi.map (ev P e) = hi.map (ev P e2) := by
        cases hi with
        | none => rfl
        | some y => simp only [Option.map_some]; rw [h y (by simp)]
      rw [h1, h2]

theorem allocA_congr {P : Program} {e e2 : Env} {b : Nat} {o : Op} (h : ∀ x ∈ o.operands, ev P e x = ev P e2 x) : allocA P e b o = allocA P e2 b o := by
  cases o <;> simp only [Op.operands, allocA] at h ⊢
  case box t x => rw [h x (by simp)]
  case buildSlice t n ps => rw [parts_congr fun x hx => h x (by simpa using hx)]
  case makeSlice t l c => rw [h l (by simp), h c (by simp)]
  case convert s d x => rw [h x (by simp)]

theorem AppCtx.congr {P e e2 c s x et ei n} (h : AppCtx P e c s x et ei n) (hc : ∀ x ∈ c.operands, ev P e x = ev P e2 x) : AppCtx P e2 c s x et ei n :=
  ⟨h.callee, by rw [← map_ev_congr fun x hx => hc x (by simp [Call.operands]; right; exact Array.mem_toList_iff.1 hx)]; exact h.args, h.tys, h.hei, h.pos, h.len⟩

theorem SerR.congr {P : Program} {e e2 : Env} {m : Mem} {b' : Nat} {o : Op} {v m1} (hs : SerR P e m b' o v m1) (h : ∀ x ∈ o.operands, ev P e x = ev P e2 x) : SerR P e2 m b' o v m1 := by
  cases hs with
  | store ha hk hst ht hp hl hn hi =>
    rename_i t ad x b o k ti
    have h1 := h ad (by simp [Op.operands])
    have h2 := h x (by simp [Op.operands])
    rw [h1] at ha
    rw [h2] at hl hn hi ⊢
    exact .store ha hk hst ht hp hl hn hi
  | same hx hk hst ht hd hei hu hn hc hl hel => exact .same (by rw [← h _ (by simp [Op.operands])]; exact hx) hk hst ht hd hei hu hn hc hl hel
  | app0 ctx hs => exact .app0 (ctx.congr h) hs
  | ext hcal hfn hx =>
    rename_i c f g first cap
    have h1 : ev P e f = ev P e2 f := h f (by simp [Op.operands, Call.operands, hcal])
    refine .ext hcal (by rw [← h1]; exact hfn) ?_
    rw [← map_ev_congr fun x hx => h x (by simp [Op.operands, Call.operands]; right; exact Array.mem_toList_iff.1 hx)]
    exact hx
  | app00 ctx => exact .app00 (ctx.congr h)
  | appNil ctx hn hs hl hlf hb hm => exact .appNil (ctx.congr h) hn hs hl hlf hb hm
  | appOwn ctx hn hs hl hlf hk hst hty hend hb hm => exact .appOwn (ctx.congr h) hn hs hl hlf hk hst hty hend hb hm

section
variable {P : Program} {F : FnRel}

theorem Step.congr {flag} {e e2 : Env} {m : Mem} {o : Op} {v m1} (hs : Step P F flag e m o v m1) (h : ∀ x ∈ o.operands, ev P e x = ev P e2 x) : Step P F flag e2 m o v m1 := by
  cases hs with
  | pur hv => exact .pur (by rw [← pureA_congr h]; exact hv)
  | lod hv hf => exact .lod (by rw [← loadA_congr h]; exact hv) fun h2 m2 => by rw [← loadA_congr h]; exact hf h2 m2
  | alc hb hv => exact .alc hb (by rw [← allocA_congr h]; exact hv)
  | ser hb hv hf => exact .ser hb (hv.congr h) hf
  | call ho hcal hfn hcall hf =>
    rename_i c f g first cap
    subst ho
    have h1 : ev P e f = ev P e2 f := h f (by simp [Op.operands, Call.operands, hcal])
    refine .call rfl hcal (by rw [← h1]; exact hfn) ?_ hf
    rw [← map_ev_congr fun x hx => h x (by simp [Op.operands, Call.operands]; right; exact Array.mem_toList_iff.1 hx)]
    exact hcall

def agreeOn (e e2 : Env) (l : List Nat) : Prop := ∀ t ∈ l, e t = e2 t

theorem ev_agree {e e2 : Env} {all : Array Oper} {o : Oper} (h : agreeOn e e2 (o.looksAt all)) : ∀ x ∈ o.op.operands, ev P e x = ev P e2 x := by
  intro x hx
  cases x with
  | tmp t =>
    simp only [ev]
    apply h
    simp only [Oper.looksAt, List.mem_append, List.mem_filterMap]
    exact .inl ⟨.tmp t, Array.mem_toList_iff.2 hx, rfl⟩
  | _ => rfl

theorem guard_agree {e e2 : Env} {all : Array Oper} {o : Oper} (h : agreeOn e e2 (o.looksAt all)) : guardA all e o.guard = guardA all e2 o.guard := by
  unfold guardA
  cases hg : o.guard with
  | none => rfl
  | some p =>
    obtain ⟨j, want⟩ := p
    simp only
    cases hd : (all[j]?).bind (·.dst) with
    | none => rfl
    | some d =>
      have : e d = e2 d := h d (by simp only [Oper.looksAt, hg, hd, List.mem_append]; right; simp)
      simp only [this]

theorem Act1.congr {all flag} {e e2 : Env} {m : Mem} {o : Oper} {v m1} (hs : Act1 P F all flag o e m v m1) (h : agreeOn e e2 (o.looksAt all)) : Act1 P F all flag o e2 m v m1 := by
  cases hs with
  | skip hg => exact .skip (by rw [← guard_agree h]; exact hg)
  | step hg hs => exact .step (by rw [← guard_agree h]; exact hg) (hs.congr (ev_agree h))

theorem agree_put {e : Env} {d : Option Nat} {v : AV} {l : List Nat} (h : ∀ t, d = some t → t ∉ l) : agreeOn e (putd e d v) l := by
  intro t ht
  rw [putd_ne]
  rintro rfl
  exact h t rfl ht
theorem agree_symm {e e2 : Env} {l} (h : agreeOn e e2 l) : agreeOn e2 e l := fun t ht => (h t ht).symm

theorem put_comm {e : Env} {d d2 : Option Nat} {v v2 : AV} (h : ∀ t, d = some t → d2 ≠ some t) : putd (putd e d v) d2 v2 = putd (putd e d2 v2) d v := by
  cases d with
  | none => rfl
  | some t =>
    cases d2 with
    | none => rfl
    | some t2 =>
      have hne : t2 ≠ t := fun e => h t rfl (by rw [e])
      funext i
      simp only [putd, put]
      by_cases h1 : i = t2 <;> by_cases h2 : i = t <;> simp_all

/-! ### The classes -/

theorem pureA_cls {e : Env} {o : Op} {v} (h : pureA P e o = some v) : clsOf P o = .pur := by
  cases o <;> simp only [pureA, reduceCtorEq] at h <;> try rfl
  case convert s d x =>
    unfold convA at h
    split at h
    · simp only [Option.bind_eq_some_iff] at h
      obtain ⟨si, hsi, ti, hti, h⟩ := h
      split at h
      · rename_i k hk
        simp only [clsOf, hti, Option.map_some, hk]
      · simp at h
    · simp only [Option.bind_eq_some_iff] at h
      obtain ⟨si, hsi, ti, hti, h⟩ := h
      split at h
      · rename_i h1 h2
        simp only [clsOf, hti, hsi, Option.map_some, h1, h2]
      · simp at h
    · simp at h
  case slice t x lo hi mx =>
    cases mx with
    | some _ => simp [pureA] at h
    | none =>
      simp only [pureA, sliceA, Option.bind_eq_some_iff] at h
      obtain ⟨ti, hti, h⟩ := h
      split at h
      · rename_i hk _; simp only [clsOf, hti, Option.map_some, hk]
      · rename_i hk _; simp only [clsOf, hti, Option.map_some, hk]
      · rename_i hk _; simp only [clsOf, hti, Option.map_some, hk]
      · rename_i hk _; simp only [clsOf, hti, Option.map_some, hk]
      · simp at h
  case call c =>
    obtain ⟨callee, args, tys⟩ := c
    cases callee <;> simp only [pureA, reduceCtorEq] at h
    split at h
    · rfl
    · rfl
    · rfl
    · simp at h
theorem loadA_cls {e : Env} {m} {o : Op} {v} (h : loadA P e m o = some v) : clsOf P o = .lod := by
  cases o <;> simp only [loadA, reduceCtorEq] at h <;> try rfl
  case slice t x lo hi mx =>
    cases mx with
    | some _ => simp [loadA] at h
    | none =>
      simp only [loadA] at h
      split at h
      · simp only [Option.bind_eq_some_iff] at h
        obtain ⟨k, hk, h⟩ := h
        obtain ⟨_, h⟩ := guardO_some h
        simp only [arrCutA, Option.bind_eq_some_iff] at h
        obtain ⟨ti, hti, h⟩ := h
        split at h
        · rename_i hk; simp only [clsOf, hti, Option.map_some, hk]
        · simp at h
      · simp at h
  case convert s d x =>
    split at h
    all_goals try (simp only [Option.bind_eq_some_iff] at h; obtain ⟨si, hsi, di, hdi, h⟩ := h; split at h)
    · rename_i h1 h2
      simp only [clsOf, hdi, hsi, Option.map_some, h1, h2]
    · simp at h
    · rename_i h1 h2
      simp only [clsOf, hdi, hsi, Option.map_some, h1, h2]
    · simp at h
    · rename_i h1 h2
      simp only [clsOf, hdi, hsi, Option.map_some, h1, h2]
    · simp at h
    · simp at h
theorem allocA_cls {e : Env} {b} {o : Op} {v} (h : allocA P e b o = some v) : clsOf P o = .alc := by
  cases o <;> simp only [allocA, reduceCtorEq] at h <;> try rfl
  case convert s d x =>
    split at h
    · simp only [Option.bind_eq_some_iff] at h
      obtain ⟨si, hsi, di, hdi, h⟩ := h
      split at h
      · rename_i h1 h2
        simp only [clsOf, hdi, hsi, Option.map_some, h1, h2]
      · simp at h
    · simp at h
theorem SerR_cls {e : Env} {m b} {o : Op} {v m1} (h : SerR P e m b o v m1) : clsOf P o = .ser := by
  have key : ∀ {c : Call}, c.callee = .builtin .append → clsOf P (.call c) = .ser := by
    intro c hc
    obtain ⟨callee, args, tys⟩ := c
    simp only at hc; subst hc; rfl
  cases h with
  | store => rfl
  | same hx hk hst ht hd => simp only [clsOf, ht, Option.map_some, hd]
  | @ext c f _ _ _ _ hcal _ _ => cases c with | mk callee args tys => cases (show callee = .value f from hcal); rfl
  | app0 ctx => exact key ctx.callee
  | app00 ctx => exact key ctx.callee
  | appNil ctx => exact key ctx.callee
  | appOwn ctx => exact key ctx.callee
theorem call_cls {c : Call} {f} (h : c.callee = .value f) : clsOf P (.call c) = .ser := by
  obtain ⟨callee, args, tys⟩ := c
  simp only at h; subst h; rfl

theorem Act1.swap (N : Nice F) {all : Array Oper} {f1 f2 : Bool} {ox oi : Oper} {e : Env} {m m1 m2 : Mem} {v1 v2 : AV}
    (hx : Act1 P F all f1 ox e m v1 m1) (hi : Act1 P F all f2 oi e m1 v2 m2) (hc : compat (clsOf P ox.op) (clsOf P oi.op) = true)
    (hf : clsOf P ox.op = .lod → clsOf P oi.op = .ser → f2 = true ∨ f1 = true) : ∃ m1', Act1 P F all f2 oi e m v2 m1' ∧ Act1 P F all f1 ox e m1' v1 m2 := by
  cases hx with
  | skip hg => exact ⟨m2, hi, .skip hg⟩
  | step hgx hx =>
    cases hi with
    | skip hg => exact ⟨m, .skip hg, .step hgx hx⟩
    | step hgi hi =>
      cases hx with
      | pur hv => exact ⟨m2, .step hgi hi, .step hgx (.pur hv)⟩
      | lod hv hfx =>
        have hcx := loadA_cls hv
        cases hi with
        | pur hv' => exact ⟨_, .step hgi (.pur hv'), .step hgx (.lod hv hfx)⟩
        | lod hv' hf' => exact ⟨_, .step hgi (.lod hv' hf'), .step hgx (.lod hv hfx)⟩
        | alc hb hv' => exact ⟨_, .step hgi (.alc hb hv'), .step hgx (.lod (loadA_ext hv (Ext.put hb)) hfx)⟩
        | ser hb hv' hff =>
          rcases hf hcx (SerR_cls hv') with h | h
          · exact ⟨_, .step hgi (.ser hb hv' hff), .step hgx (.lod (loadA_ext hv (hff h)) hfx)⟩
          · exact ⟨_, .step hgi (.ser hb hv' hff), .step hgx (.lod (hfx h _) hfx)⟩
        | call h0 h1 h2 h3 hff =>
          have hcl : clsOf P oi.op = .ser := by rw [h0]; exact call_cls h1
          rcases hf hcx hcl with h | h
          · exact ⟨_, .step hgi (.call h0 h1 h2 h3 hff), .step hgx (.lod (loadA_ext hv (hff h)) hfx)⟩
          · exact ⟨_, .step hgi (.call h0 h1 h2 h3 hff), .step hgx (.lod (hfx h _) hfx)⟩
      | alc hb hv =>
        have hcx := allocA_cls hv
        cases hi with
        | pur hv' => exact ⟨_, .step hgi (.pur hv'), .step hgx (.alc hb hv)⟩
        | lod hv' => rw [hcx, loadA_cls hv'] at hc; simp [compat] at hc
        | alc hb' hv' =>
          rename_i b k b2 k2
          rw [Mem.blk_put] at hb'
          split at hb'
          · simp at hb'
          · rename_i hne
            refine ⟨m.put b2 k2, .step hgi (.alc hb' hv'), ?_⟩
            rw [Mem.put_comm _ (Ne.symm hne)]
            exact .step hgx (.alc (by rw [Mem.blk_put, if_neg (Ne.symm hne)]; exact hb) hv)
        | ser hb' hv' hff => rw [hcx, SerR_cls hv'] at hc; simp [compat] at hc
        | call h0 h1 h2 h3 hff => rw [hcx, h0, call_cls h1] at hc; simp [compat] at hc
      | ser hb hv hff =>
        have hcx := SerR_cls hv
        cases hi with
        | pur hv' => exact ⟨_, .step hgi (.pur hv'), .step hgx (.ser hb hv hff)⟩
        | lod hv' => rw [hcx, loadA_cls hv'] at hc; simp [compat] at hc
        | alc hb' hv' =>
          rename_i b2 k2
          have hbm := hv.dom hb'
          refine ⟨_, .step hgi (.alc hbm hv'), .step hgx ?_⟩
          exact (Step.ser (F := F) hb hv hff).lift N (by rw [allocA_own hv']; decide) hb'
        | ser hb' hv' hff' => rw [hcx, SerR_cls hv'] at hc; simp [compat] at hc
        | call h0 h1 h2 h3 hff' => rw [hcx, h0, call_cls h1] at hc; simp [compat] at hc
      | call h0 h1 h2 h3 hff =>
        have hcx : clsOf P ox.op = .ser := by rw [h0]; exact call_cls h1
        have hst : Step P F f1 e m ox.op v1 m1 := .call h0 h1 h2 h3 hff
        cases hi with
        | pur hv' => exact ⟨_, .step hgi (.pur hv'), .step hgx hst⟩
        | lod hv' => rw [hcx, loadA_cls hv'] at hc; simp [compat] at hc
        | alc hb' hv' => exact ⟨_, .step hgi (.alc (hst.dom N hb') hv'), .step hgx (hst.lift N (by rw [allocA_own hv']; decide) hb')⟩
        | ser hb' hv' hff' => rw [hcx, SerR_cls hv'] at hc; simp [compat] at hc
        | call h0' h1' h2' h3' hff' => rw [hcx, h0', call_cls h1'] at hc; simp [compat] at hc

/-- Neighbours change places. -/
theorem EvO.swap (N : Nice F) {all : Array Oper} {fl : Nat → Bool} {x i : Nat} {l e m e' m'} (h : EvO P F all fl (x :: i :: l) e m e' m') (hs : swapOk P all x i = true)
    (hf : clsAt P all x = .lod → clsAt P all i = .ser → fl i = true ∨ fl x = true) : EvO P F all fl (i :: x :: l) e m e' m' := by
  cases h with
  | cons hox hx h =>
    rename_i ox v1 m1
    cases h with
    | cons hoi hi h =>
      rename_i oi v2 m2
      simp only [swapOk, apartAt, clsAt, hox, hoi, Option.map_some, Option.getD_some, Bool.and_eq_true] at hs hf
      obtain ⟨hap, hc⟩ := hs
      obtain ⟨a1, a2, a3⟩ := Oper.apart_spec hap
      have hi' := hi.congr (agree_symm (agree_put a1))
      obtain ⟨m1', k1, k2⟩ := hx.swap N hi' hc (fun h1 h2 => hf h1 h2)
      refine .cons hoi k1 (.cons hox (k2.congr (agree_put a3)) ?_)
      rw [← put_comm fun t ht => fun h => a2 t ht h]
      exact h

theorem EvO.bubble (N : Nice F) {all : Array Oper} {fl : Nat → Bool} {i : Nat} {q : List Nat} : ∀ {p : List Nat} {e m e' m'}, EvO P F all fl (p ++ i :: q) e m e' m' →
    (∀ x ∈ p, swapOk P all x i = true ∧ (clsAt P all x = .lod → clsAt P all i = .ser → fl i = true ∨ fl x = true)) → EvO P F all fl (i :: (p ++ q)) e m e' m'
  | [], e, m, e', m', h, _ => h
  | x :: p, e, m, e', m', h, hp => by
    cases h with
    | cons ho ha h =>
      have ih := EvO.bubble N h (fun y hy => hp y (by simp [hy]))
      exact (EvO.cons ho ha ih).swap N (hp x (by simp)).1 (hp x (by simp)).2

end
end Go.Proofs.YtchhknkflhikmaaDoor.Am

/- AM: what a derivation says, the machine does. -/
namespace Go.Proofs.YtchhknkflhikmaaDoor.Am
set_option linter.unusedSectionVars false
open Go
open Go.RowKit (Below)
set_option linter.unusedVariables false
set_option linter.unusedSimpArgs false
variable [Tab]

structure SR (P : Program) (B : Nat) (w0 : World) (n : Nat) (e : Env) (m : Mem) (ρ : Ren) (a : Act) (w : World) : Prop where
  rel : Rel P B w0 ρ m w
  env : EnvR ρ e a
  defs : a.defers = []
  siz : n ≤ a.tmps.size

def SoundF (P : Program) (F : FnRel) : Prop := ∀ g args m v m1, F g args m v m1 →
  (∃ fn c, P.funcs[g]? = some fn ∧ fn.body = some c ∧ fn.name ≠ "runtime.NumGoroutine") ∧
  ∀ B w0 ρ w args', Rel P B w0 ρ m w → VRs ρ args args' →
    Calls P g args'.toArray w (fun e w' => ∃ v' ρ', e = .returned v' ∧ VR ρ' v v' ∧ Rel P B w0 ρ' m1 w' ∧ Sub ρ ρ')

theorem EnvR.mono {ρ ρ' : Ren} (h : Sub ρ ρ') {e a} (he : EnvR ρ e a) : EnvR ρ' e a := fun i => (he i).mono h

theorem EnvR.put {ρ ρ' : Ren} {e : Env} {a : Act} {dst : Option Nat} {v v' n} (he : EnvR ρ e a) (hs : Sub ρ ρ') (hv : VR ρ' v v') (hn : n ≤ a.tmps.size) (hd : ∀ d, dst = some d → d < n) :
    EnvR ρ' (putd e dst v) (a.put dst v') := by
  cases dst with
  | none => exact he.mono hs
  | some d =>
    have hlt := hd d rfl
    intro i
    simp only [putd, Am.put, Act.put]
    by_cases hi : i = d
    · subst hi
      rw [if_pos rfl]
      have : (a.tmps.setIfInBounds i v').getD i undef = v' := by
        rw [Array.getD_eq_getD_getElem?, Array.getElem?_setIfInBounds, if_pos rfl, if_pos (by omega)]; rfl
      rw [this]; exact hv
    · rw [if_neg hi]
      have : (a.tmps.setIfInBounds d v').getD i undef = a.tmps.getD i undef := by
        rw [Array.getD_eq_getD_getElem?, Array.getD_eq_getD_getElem?, Array.getElem?_setIfInBounds, if_neg (Ne.symm hi)]
      rw [this]; exact (he i).mono hs

theorem SR.put {P B w0 n e m ρ a w ρ' m1 w' v v' dst} (S : SR P B w0 n e m ρ a w) (R : Rel P B w0 ρ' m1 w') (hs : Sub ρ ρ') (hv : VR ρ' v v') (hd : ∀ d, dst = some d → d < n) :
    SR P B w0 n (putd e dst v) m1 ρ' (a.put dst v') w' := by
  refine ⟨R, S.env.put hs hv S.siz hd, ?_, ?_⟩
  · cases dst <;> exact S.defs
  · cases dst with
    | none => exact S.siz
    | some d => simpa [Act.put] using S.siz

section
variable {P : Program} {F : FnRel} {B : Nat} {w0 : World}

theorem Step_wp (SF : SoundF P F) {flag} {o : Oper} {e m v m1 ρ a w n} {K : Act → World → Prop} {Q : Exit → Act → World → Prop} (h : Step P F flag e m o.op v m1) (S : SR P B w0 n e m ρ a w)
    (hK : ∀ v' ρ' w', VR ρ' v v' → Rel P B w0 ρ' m1 w' → Sub ρ ρ' → K (a.put o.dst v') w') : o.wp P a w K Q := by
  unfold Oper.wp
  cases h with
  | pur hv =>
    obtain ⟨v', r1, r2⟩ := pureA_sound w S.rel.gl S.env hv
    rw [r1]
    exact hK v' ρ w r2 S.rel (Sub.refl _)
  | lod hv =>
    obtain ⟨v', r1, r2⟩ := loadA_sound S.rel S.env hv
    rw [r1]
    exact hK v' ρ w r2 S.rel (Sub.refl _)
  | alc hb hv =>
    obtain ⟨v', w', l, r1, r2, r3⟩ := allocA_sound S.rel S.env hb hv
    rw [r1]
    exact hK v' _ w' r2 r3 (upd_mono (S.rel.dom _ hb))
  | ser hb hv hf =>
    obtain ⟨v', w', ρ', r1, r2, r3, r4⟩ := SerR_sound S.rel S.env hb hv
    rcases r1 with r1 | ⟨r1, rfl⟩
    · rw [r1]; exact hK v' ρ' w' r2 r3 r4
    · rw [r1]; exact hK undef ρ' w' r2 r3 r4
  | call ho hcal hfn hcall hf =>
    rename_i c f g first cap
    obtain ⟨⟨fn, body, hf1, hf2, hf3⟩, hs⟩ := SF g _ m v m1 hcall
    have hv := ev_sound S.rel.gl S.env f
    rw [hfn] at hv
    have hargs := evs_sound S.rel.gl S.env c.args.toList
    generalize hz : a.eval f = z at hv
    cases hv with
    | fn hx hx' hy hy' =>
      rename_i us vs
      have hall := ((show VRs ρ first us from ⟨hx, hx'⟩).append hargs).append (show VRs ρ cap vs from ⟨hy, hy'⟩)
      have hc := hs B w0 ρ w _ S.rel hall
      have hrun : (execOp a.eval o).run P w = .ok (.enter g (us ++ c.args.toList.map a.eval ++ vs).toArray) w := by
        obtain ⟨callee, args, tys⟩ := c
        simp only at hcal; subst hcal
        have hne : (fn.name == "runtime.NumGoroutine") = false := by simpa using hf3
        have hco : ∀ xs, (callFunc g xs).run P w = .ok (.enter g xs) w := by
          intro xs
          simp [callFunc, hf1, hf2, hf3]
        have hxs : us.toArray ++ args.map a.eval ++ vs.toArray = (us ++ args.toList.map a.eval ++ vs).toArray := by
          apply Array.ext'; simp
        simp only [execOp, ho, resolve, Sem.run_bind, hz, Deferred.ofValue, Sem.run_pure, Result.andThen_ok, invoke, hxs, hco]
      rw [hrun]
      rw [Oper.upon_enter]
      refine hc.mono ?_
      rintro e' w' ⟨v', ρ', rfl, h1, h2, h3⟩
      exact hK v' ρ' w' h1 h2 h3

theorem guard_sound {all : Array Oper} {e : Env} {ρ : Ren} {a : Act} {o : Oper} {b} (he : EnvR ρ e a) (h : guardA all e o.guard = some b) : Region.wanted o (yielded all a.tmps) = b := by
  unfold guardA at h
  unfold Region.wanted
  cases hg : o.guard with
  | none => rw [hg] at h; simpa using h
  | some p =>
    obtain ⟨j, want⟩ := p
    rw [hg] at h
    simp only at h ⊢
    unfold yielded
    cases hd : (all[j]?).bind (·.dst) with
    | none => rw [hd] at h; simp at h; subst h; simp
    | some d =>
      rw [hd] at h
      simp only at h
      have hv := he d
      split at h
      · rename_i q hq
        simp at h; subst h
        rw [hq] at hv
        rw [Array.getD_eq_getD_getElem?] at hv
        cases ht : a.tmps[d]? with
        | none =>
          rw [ht] at hv
          simp only [Option.getD_none] at hv
          exact absurd hv (by intro hh; unfold undef at hh; cases hh)
        | some y =>
          rw [ht] at hv
          simp only [Option.getD_some] at hv
          cases hv
          simp only [Option.bind_some, ht]
          rfl
      · rename_i hq
        simp at h; subst h
        rw [hq] at hv
        rw [Array.getD_eq_getD_getElem?] at hv
        cases ht : a.tmps[d]? with
        | none => simp [ht]
        | some y =>
          rw [ht] at hv
          simp only [Option.getD_some] at hv
          obtain ⟨vs, rfl, hvs⟩ := hv.tup_inv
          simp [ht]
      · simp at h

theorem Act1_wp (SF : SoundF P F) {all : Array Oper} {flag} {i : Nat} {o : Oper} {e m v m1 ρ a w n} {K : Act → World → Prop} {Q : Exit → Act → World → Prop} (ho : all[i]? = some o) (hd : ∀ d, o.dst = some d → d < n)
    (h : Act1 P F all flag o e m v m1) (S : SR P B w0 n e m ρ a w)
    (hK : ∀ ρ' a' w', Sub ρ ρ' → SR P B w0 n (putd e o.dst v) m1 ρ' a' w' → K a' w') : wpOp P all Q i K a w := by
  unfold wpOp
  simp only [ho]
  cases h with
  | skip hg =>
    rw [guard_sound S.env hg]
    simp only [Bool.false_eq_true, if_false]
    exact hK ρ _ w (Sub.refl _) (S.put S.rel (Sub.refl _) VR_undef hd)
  | step hg h =>
    rw [guard_sound S.env hg]
    simp only [if_true]
    exact .inl (Step_wp SF h S fun v' ρ' w' h1 h2 h3 => hK ρ' _ w' h3 (S.put h2 h3 h1 hd))

def dstsOk (n : Nat) (all : Array Oper) : Prop := ∀ (i : Nat) (o : Oper), all[i]? = some o → ∀ d, o.dst = some d → d < n

theorem EvO_wp (SF : SoundF P F) {all : Array Oper} {fl l e m e' m' n} {Q : Exit → Act → World → Prop} (hd : dstsOk n all) (h : EvO P F all fl l e m e' m') : ∀ {ρ a w}, SR P B w0 n e m ρ a w →
    (∀ ρ' a' w', Sub ρ ρ' → SR P B w0 n e' m' ρ' a' w' → Q .normal a' w') → wpOps P all Q l a w := by
  induction h with
  | nil => intro ρ a w S hQ; exact hQ ρ a w (Sub.refl _) S
  | cons ho h _ ih =>
    intro ρ a w S hQ
    rw [wpOps_cons]
    exact Act1_wp SF ho (hd _ _ ho) h S fun ρ' a' w' h1 S' => ih S' fun ρ2 a2 w2 h2 S2 => hQ ρ2 a2 w2 (h1.trans h2) S2

/-! ### A region in any order -/

def Resp (all : Array Oper) : (Nat → Prop) → List Nat → Prop
  | _, [] => True
  | D, i :: l => (∀ x ∈ edgesAt all i, D x) ∧ Resp all (fun x => x = i ∨ D x) l

theorem Resp.mono {all : Array Oper} : ∀ {l : List Nat} {D D' : Nat → Prop}, (∀ x, D x → D' x) → Resp all D l → Resp all D' l
  | [], _, _, _, _ => trivial
  | i :: l, D, D', h, r => ⟨fun x hx => h x (r.1 x hx), Resp.mono (fun x hx => hx.imp id (h x)) r.2⟩

theorem Resp.erase {all : Array Oper} {i : Nat} : ∀ {l : List Nat} {D : Nat → Prop}, Resp all D l → Resp all (fun x => x = i ∨ D x) (l.erase i)
  | [], _, _ => trivial
  | x :: l, D, r => by
    by_cases hx : x = i
    · subst hx
      rw [List.erase_cons_head]
      exact r.2
    · rw [List.erase_cons_tail (by simpa using hx)]
      refine ⟨fun y hy => .inr (r.1 y hy), ?_⟩
      exact (Resp.erase r.2).mono fun y hy => by
        rcases hy with h | h | h
        · exact .inr (.inl h)
        · exact .inl h
        · exact .inr (.inr h)

def PairOk (P : Program) (all : Array Oper) (T : List (Nat × Nat)) (fl : Nat → Bool) (x i : Nat) : Prop :=
  (lkN T i).testBit x = true ∨ (swapOk P all x i = true ∧ (clsAt P all x = .lod → clsAt P all i = .ser → fl i = true ∨ fl x = true))

/-- What a table of ancestors says. -/
def TabOk (all : Array Oper) (T : List (Nat × Nat)) : Prop := ∀ i x, (lkN T i).testBit x = true → ∀ D : Nat → Prop, (∀ y, D y → ∀ z ∈ edgesAt all y, D z) → (∀ z ∈ edgesAt all i, D z) → D x

theorem maskOf_bit {T : List (Nat × Nat)} : ∀ {xs : List Nat} {x : Nat}, (maskOf T xs).testBit x = true → ∃ e ∈ xs, x = e ∨ (lkN T e).testBit x = true
  | [], x, h => by simp [maskOf] at h
  | y :: ys, x, h => by
    simp only [maskOf, Nat.testBit_or, Bool.or_eq_true] at h
    rcases h with (h | h) | h
    · rw [Nat.testBit_two_pow] at h
      have h' : y = x := by simpa using h
      exact ⟨y, by simp, .inl h'.symm⟩
    · exact ⟨y, by simp, .inr h⟩
    · obtain ⟨e, he, h⟩ := maskOf_bit h
      exact ⟨e, by simp [he], h⟩

theorem tabOf_ok {all : Array Oper} : ∀ {l : List Nat} {T : List (Nat × Nat)}, TabOk all T → TabOk all (tabOf all T l)
  | [], T, h => h
  | i :: l, T, h => by
    refine tabOf_ok (l := l) ?_
    intro j x hx D hD hj
    simp only [lkN] at hx
    split at hx
    · subst_vars
      obtain ⟨e, he, h'⟩ := maskOf_bit hx
      rcases h' with rfl | h'
      · exact hj _ he
      · exact h e x h' D hD (hD e (hj e he))
    · exact h j x hx D hD hj

theorem draw_wp (SF : SoundF P F) (N : Nice F) {all : Array Oper} {fl : Nat → Bool} {T : List (Nat × Nat)} (hT : TabOk all T) {n : Nat} (hd : dstsOk n all) {e' m'} {Q : Exit → Act → World → Prop} :
    ∀ (k : Nat) {l : List Nat} {listed : Array Bool} {e m ρ a w}, l.length = k → EvO P F all fl l e m e' m' → l.Nodup → listed.size = all.size → (∀ i, i < all.size → listed.getD i true = false → i ∈ l) →
      (∀ i ∈ l, i < all.size ∧ listed.getD i true = false) → (∀ y, listed.getD y false = true → ∀ z ∈ edgesAt all y, listed.getD z false = true) →
      Resp all (fun x => listed.getD x false = true) l → l.Pairwise (PairOk P all T fl) → SR P B w0 n e m ρ a w →
      (∀ ρ' a' w', Sub ρ ρ' → SR P B w0 n e' m' ρ' a' w' → Q .normal a' w') → wpAny P .any all Q k listed a w := by
  have edges_ready : ∀ {listed : Array Bool} {i}, i < all.size → (i ∈ Region.ready .any all listed ↔ (listed.getD i true = false ∧ ∀ z ∈ edgesAt all i, listed.getD z false = true)) := by
    intro listed i hi
    have ho : all[i]? = some all[i] := Array.getElem?_eq_getElem hi
    simp only [Region.ready, List.mem_filter, List.mem_range, hi, true_and, ho, Option.map_some, Option.getD_some, Bool.and_eq_true, Bool.not_eq_true', edgesAt, edges]
    refine and_congr_right fun _ => ?_
    constructor
    · intro h z hz
      simp only [List.mem_map, List.mem_filter] at hz
      obtain ⟨ed, ⟨h1, h2⟩, rfl⟩ := hz
      rw [Array.all_eq_true'] at h
      have := h ed (Array.mem_toList_iff.1 h1)
      simpa [h2] using this
    · intro h
      rw [Array.all_eq_true']
      intro ed hed
      cases hb : Region.binds .any ed with
      | false => simp
      | true =>
        simp only [Bool.not_true, Bool.false_or]
        exact h ed.on (List.mem_map.2 ⟨ed, List.mem_filter.2 ⟨Array.mem_toList_iff.2 hed, hb⟩, rfl⟩)
  intro k
  induction k with
  | zero =>
    intro l listed e m ρ a w hl h hnd hsz hcov hmem hcl hresp hpw S hQ
    have : l = [] := List.eq_nil_of_length_eq_zero hl
    subst this
    cases h
    refine ⟨?_, hQ ρ a w (Sub.refl _) S⟩
    rw [List.eq_nil_iff_forall_not_mem]
    intro i hi
    have hlt : i < all.size := by simp [Region.ready] at hi; exact hi.1
    have := ((edges_ready hlt).1 hi).1
    exact absurd (hcov i hlt this) (by simp)
  | succ k ih =>
    intro l listed e m ρ a w hl h hnd hsz hcov hmem hcl hresp hpw S hQ
    refine ⟨fun hr => ?_, fun i hi => ?_⟩
    · cases l with
      | nil => simp at hl
      | cons x l =>
        have hx := hmem x (by simp)
        have : x ∈ Region.ready .any all listed := (edges_ready hx.1).2 ⟨hx.2, hresp.1⟩
        rw [hr] at this; simp at this
    · have hlt : i < all.size := by simp [Region.ready] at hi; exact hi.1
      obtain ⟨hnl, hed⟩ := (edges_ready hlt).1 hi
      have hil := hcov i hlt hnl
      obtain ⟨p, q, rfl⟩ := List.append_of_mem hil
      have hip : i ∉ p := by
        intro hh
        have := List.nodup_append.1 hnd
        exact this.2.2 i hh i (by simp) rfl
      have herase : (p ++ i :: q).erase i = p ++ q := by
        rw [List.erase_append_right _ hip, List.erase_cons_head]
      have hsub : (p ++ q).Sublist (p ++ i :: q) := List.Sublist.append_left (List.sublist_cons_self i q) p
      have hb := h.bubble N (fun x hx => by
        have hpx := (List.pairwise_append.1 hpw).2.2 x hx i (by simp)
        rcases hpx with hbit | hok
        · have := hT i x hbit (fun z => listed.getD z false = true) hcl hed
          have hxm := (hmem x (by simp [hx])).2
          rw [Array.getD_eq_getD_getElem?] at this hxm
          have hxs : x < listed.size := by rw [hsz]; exact (hmem x (by simp [hx])).1
          rw [Array.getElem?_eq_getElem hxs] at this hxm
          simp at this hxm
          rw [this] at hxm; simp at hxm
        · exact hok)
      cases hb with
      | cons ho ha hr =>
        rename_i o v m1
        have hset : ∀ j d, (listed.setIfInBounds i true).getD j d = if j = i then true else listed.getD j d := by
          intro j d
          rw [Array.getD_eq_getD_getElem?, Array.getD_eq_getD_getElem?, Array.getElem?_setIfInBounds]
          by_cases hj : j = i
          · subst hj; simp [hsz, hlt]
          · rw [if_neg (Ne.symm hj), if_neg hj]
        refine Act1_wp SF ho (hd _ _ ho) ha S fun ρ' a' w' h1 S' => ?_
        refine ih (l := p ++ q) ?_ hr (hsub.nodup hnd) (by simpa using hsz) ?_ ?_ ?_ ?_ (hpw.sublist hsub) S' (fun ρ2 a2 w2 h2 S2 => hQ ρ2 a2 w2 (h1.trans h2) S2)
        · simp at hl ⊢; omega
        · intro j hj hn
          rw [hset] at hn
          split at hn
          · simp at hn
          · have := hcov j hj hn
            simp only [List.mem_append, List.mem_cons] at this ⊢
            rcases this with h | h | h
            · exact .inl h
            · contradiction
            · exact .inr h
        · intro j hj
          have hj' := hmem j (hsub.subset hj)
          refine ⟨hj'.1, ?_⟩
          rw [hset, if_neg]
          · exact hj'.2
          · rintro rfl
            have hnd2 := hnd
            rw [List.nodup_append] at hnd2
            simp only [List.mem_append] at hj
            rcases hj with hj | hj
            · exact hip hj
            · have := hnd2.2.1
              simp at this
              exact this.1 hj
        · intro y hy z hz
          rw [hset] at hy ⊢
          split
          · rfl
          · split at hy
            · subst_vars; exact hed z hz
            · exact hcl y hy z hz
        · have := hresp.erase (i := i)
          rw [herase] at this
          refine this.mono fun x hx => ?_
          rw [hset]
          split
          · rfl
          · rcases hx with h | h
            · contradiction
            · exact h

end

/-! ### Said more weakly, still true -/

theorem Wk.sound {fz : Nat → Option (List AV)} {nw : Nat → Prop} {ρ ρ' : Ren} (hS : Sub ρ ρ')
    (H : ∀ b cs, fz b = some cs → ∃ l vs, ρ b = some l ∧ VRs ρ cs vs ∧ ∀ (j : Nat) v, vs[j]? = some v → ρ'.imm l.blk (l.off + j) = some v)
    (Hn : ∀ b, nw b → ∃ l, ρ' b = some l) {v v' : AV} (h : Wk fz nw v v') : ∀ {x}, VR ρ v x → VR ρ' v' x := by
  induction h with
  | refl v => exact fun hx => hx.mono hS
  | any v => exact fun _ => .any _
  | snil s => intro x hx; cases hx; exact .rs0 _ _ _
  | nil0 h => intro x hx; cases hx; obtain ⟨l, hl⟩ := Hn _ h; exact .sl0 hl _
  | sl h hl hes hel =>
    rename_i b o n s cs es
    intro x hx
    obtain ⟨l, vs, h1, h2, h3⟩ := H b cs h
    cases hx with
    | sl k1 k2 k3 =>
      rename_i l' cap
      rw [h1] at k1; simp at k1; subst k1
      have hvl : vs.length = cs.length := h2.1.symm
      have hlen : ∀ i, i < n → 0 < s → o + i * s + s ≤ cs.length := by
        intro i hi hs
        have hi' : i < es.length := by omega
        have he := hes i es[i] (List.getElem?_eq_getElem hi')
        have hel' := hel es[i] (List.getElem_mem hi')
        rw [he] at hel'
        simp at hel'
        omega
      have get : ∀ i j, i < n → j < s → vs[o + i * s + j]? = some (vs.getD (o + i * s + j) undef) := by
        intro i j hi hj
        have := hlen i hi (by omega)
        rw [List.getD, List.getElem?_eq_getElem (by omega)]; rfl
      refine .rs (fun i j => vs.getD (o + i * s + j) undef) hl k2 hel (fun i j e c e1 e2 => ?_) (fun i j hi hj => ?_)
      · have hi : i < n := by have := (List.getElem?_eq_some_iff.1 e1).1; omega
        have hj : j < s := by have := (List.getElem?_eq_some_iff.1 e2).1; have := hel e (List.mem_of_getElem? e1); omega
        have hc : cs[o + i * s + j]? = some c := by
          rw [hes i e e1, List.getElem?_take, if_pos hj, List.getElem?_drop] at e2
          exact e2
        exact (h2.2 _ _ _ hc (get i j hi hj)).mono hS
      · rw [← h3 _ _ (get i j hi hj)]
        congr 1; omega
    | sl0 k1 a =>
      have : es = [] := List.eq_nil_of_length_eq_zero hl
      subst this
      exact .rs0 _ _ _
  | ptr h =>
    rename_i b o cs
    intro x hx
    obtain ⟨l, vs, h1, h2, h3⟩ := H b cs h
    cases hx with
    | ptr k1 =>
      rw [h1] at k1; simp at k1; subst k1
      have hvl : vs.length = cs.length := h2.1.symm
      have get : ∀ j, j < cs.length → vs[j]? = some (vs.getD j undef) := by
        intro j hj
        rw [List.getD, List.getElem?_eq_getElem (by omega)]; rfl
      exact .rp (fun j => vs.getD j undef) (fun j c hc => (h2.2 _ _ _ hc (get j (List.getElem?_eq_some_iff.1 hc).1)).mono hS) (fun j hj => h3 _ _ (get j hj))
  | agg hl _ ih =>
    intro x hx
    obtain ⟨vs, rfl, hvs⟩ := hx.agg_inv
    refine .agg (by rw [← hl]; exact hvs.1) fun i d v h1 h2 => ?_
    have hi : i < _ := (List.getElem?_eq_some_iff.1 h1).1
    rw [← hl] at hi
    exact ih i _ d (List.getElem?_eq_getElem hi) h1 (hvs.2 i _ _ (List.getElem?_eq_getElem hi) h2)
  | tup hl _ ih =>
    intro x hx
    obtain ⟨vs, rfl, hvs⟩ := hx.tup_inv
    refine .tup (by rw [← hl]; exact hvs.1) fun i d v h1 h2 => ?_
    have hi : i < _ := (List.getElem?_eq_some_iff.1 h1).1
    rw [← hl] at hi
    exact ih i _ d (List.getElem?_eq_getElem hi) h1 (hvs.2 i _ _ (List.getElem?_eq_getElem hi) h2)
  | fn hl _ hl' _ ih ih' =>
    intro x hx
    cases hx with
    | fn h1 h2 h3 h4 =>
      refine .fn (by rw [← hl]; exact h1) (fun i d v e1 e2 => ?_) (by rw [← hl']; exact h3) (fun i d v e1 e2 => ?_)
      · have hi : i < _ := (List.getElem?_eq_some_iff.1 e1).1
        rw [← hl] at hi
        exact ih i _ d (List.getElem?_eq_getElem hi) e1 (h2 i _ _ (List.getElem?_eq_getElem hi) e2)
      · have hi : i < _ := (List.getElem?_eq_some_iff.1 e1).1
        rw [← hl'] at hi
        exact ih' i _ d (List.getElem?_eq_getElem hi) e1 (h4 i _ _ (List.getElem?_eq_getElem hi) e2)
  | iface _ ih =>
    intro x hx
    cases hx with
    | iface h => exact .iface (ih h)
  | @rs s es es' hl hel _ ih =>
    intro x hx
    cases hx with
    | rs vs hn hc hls hv hi =>
      refine .rs vs (by rw [← hl]; exact hn) hc (fun e' he' => ?_) (fun i j e' d e1 e2 => ?_) (fun i j h1 h2 => hS.2 _ _ _ (hi i j h1 h2))
      · obtain ⟨i, hi, rfl⟩ := List.getElem_of_mem he'
        have hi' : i < es.length := by omega
        rw [← hel i es[i] es'[i] (List.getElem?_eq_getElem hi') (List.getElem?_eq_getElem hi)]
        exact hls _ (List.getElem_mem hi')
      · have hi : i < es'.length := (List.getElem?_eq_some_iff.1 e1).1
        have hi' : i < es.length := by omega
        have hj : j < e'.length := (List.getElem?_eq_some_iff.1 e2).1
        have hj' : j < es[i].length := by rw [hel i es[i] e' (List.getElem?_eq_getElem hi') e1]; exact hj
        exact ih i j es[i] e' es[i][j] d (List.getElem?_eq_getElem hi') e1 (List.getElem?_eq_getElem hj') e2 (hv i j _ _ (List.getElem?_eq_getElem hi') (List.getElem?_eq_getElem hj'))
    | rs0 =>
      have : es' = [] := List.eq_nil_of_length_eq_zero (by rw [← hl]; rfl)
      subst this
      exact .rs0 _ _ _
  | @rp cs ds o hl _ ih =>
    intro x hx
    cases hx with
    | rp vs h1 h2 =>
      refine .rp vs (fun j d hd => ?_) (fun j hj => hS.2 _ _ _ (h2 j (by omega)))
      have hj : j < ds.length := (List.getElem?_eq_some_iff.1 hd).1
      have hj' : j < cs.length := by omega
      exact ih j cs[j] d (List.getElem?_eq_getElem hj') hd (h1 j _ (List.getElem?_eq_getElem hj'))

open Classical in
theorem Weak.sound {P : Program} {B : Nat} {w0 : World} {n : Nat} {e m ρ a w e' m'} (S : SR P B w0 n e m ρ a w) (h : Weak e m e' m') : ∃ ρ', Sub ρ ρ' ∧ SR P B w0 n e' m' ρ' a w := by
  obtain ⟨R, E, D, Z⟩ := S
  obtain ⟨⟨fz, nw, f1, f2, f3, f4⟩, dom⟩ := h
  let cov : Nat → Nat → Prop := fun a o => ∃ b cs l, fz b = some cs ∧ ρ b = some l ∧ l.blk = a ∧ l.off ≤ o ∧ o < l.off + cs.length
  let ρ' : Ren := ⟨fun x => if nw x then some ⟨0, 0, 0, true⟩ else ρ x, fun a o => if cov a o then w.cell? ⟨a, o, none⟩ else ρ.imm a o⟩
  have nwn : ∀ b, nw b → ρ b = none := fun b hb => R.dom b (f2 b hb).1
  have hS : Sub ρ ρ' := by
    refine ⟨fun b l hl => ?_, fun a o v hv => ?_⟩
    · show (if nw b then some _ else ρ b) = some l
      rw [if_neg (fun hb => by rw [nwn b hb] at hl; cases hl)]; exact hl
    · show (if cov a o then w.cell? ⟨a, o, none⟩ else ρ.imm a o) = some v
      split
      · exact (R.imm a o v hv).1
      · exact hv
  have back : ∀ b l, ρ' b = some l → ¬ nw b → ρ b = some l := fun b l hl hb => by
    have : (if nw b then some (⟨0, 0, 0, true⟩ : Loc) else ρ b) = some l := hl
    rwa [if_neg hb] at this
  have backn : ∀ b l, ρ' b = some l → nw b → l = ⟨0, 0, 0, true⟩ := fun b l hl hb => by
    have : (if nw b then some (⟨0, 0, 0, true⟩ : Loc) else ρ b) = some l := hl
    rw [if_pos hb] at this
    simpa using this.symm
  have H : ∀ b cs, fz b = some cs → ∃ l vs, ρ b = some l ∧ VRs ρ cs vs ∧ ∀ (j : Nat) v, vs[j]? = some v → ρ'.imm l.blk (l.off + j) = some v := by
    intro b cs hb
    obtain ⟨k, k1, k2, k3, k4⟩ := f1 b cs hb
    obtain ⟨l, vs, h1, h2, h3⟩ := R.rd b k k1 (by rcases k3 with h | h <;> rw [h] <;> decide)
    rw [k2] at h2
    refine ⟨l, vs, h1, h2, fun j v hv => ?_⟩
    have hj : j < cs.length := by have := (List.getElem?_eq_some_iff.1 hv).1; have := h2.1; omega
    show (if cov l.blk (l.off + j) then w.cell? ⟨l.blk, l.off + j, none⟩ else _) = some v
    rw [if_pos ⟨b, cs, l, hb, h1, rfl, by omega, by omega⟩]
    exact h3 j v hv
  have Hn : ∀ b, nw b → ∃ l, ρ' b = some l := fun b hb => ⟨⟨0, 0, 0, true⟩, by show (if nw b then some _ else ρ b) = some _; rw [if_pos hb]⟩
  have nowNew : ∀ b, nw b → ∀ k', m'.blk b = some k' → ∃ ty, k' = ⟨.own, [], ty, []⟩ := fun b hb k' hk' => by
    obtain ⟨_, ty, h⟩ := f2 b hb
    rw [h] at hk'; simp at hk'; exact ⟨ty, hk'.symm⟩
  have old : ∀ b k', m'.blk b = some k' → k'.st ≠ .dead → ¬ nw b → ∃ k, m.blk b = some k ∧ k'.st = k.st ∧ k'.ety = k.ety ∧ (∀ a ∈ k.anc, a ∈ k'.anc ∨ ∃ ka, m'.blk a = some ka ∧ ka.st = .dead) ∧
      k.cells.length = k'.cells.length ∧ ∀ (i : Nat) (c d : AV), k.cells[i]? = some c → k'.cells[i]? = some d → Wk fz nw c d := fun b k' hk hd hb => by
    rcases f4 b k' hk hd with h | h
    · exact absurd h hb
    · exact h
  refine ⟨ρ', hS, ⟨?_, fun i => (f3 i).sound hS H Hn (E i), D, Z⟩⟩
  refine ⟨R.below, R.size, ?_, ?_, ?_, ?_, ?_, ?_, ?_⟩
  · exact R.gl.mono hS
  · intro b hb
    have h1 := R.dom b (dom b hb)
    have hnb : ¬ nw b := fun h => by obtain ⟨_, ty, h⟩ := f2 b h; rw [hb] at h; cases h
    show (if nw b then some _ else ρ b) = none
    rw [if_neg hnb]; exact h1
  · intro b k' hk hd
    by_cases hb : nw b
    · obtain ⟨ty, rfl⟩ := nowNew b hb k' hk
      obtain ⟨l, hl⟩ := Hn b hb
      exact ⟨l, [], hl, VRs.nil, fun j v hv => by simp at hv⟩
    · obtain ⟨k, k1, k2, k3, k4, k5, k6⟩ := old b k' hk hd hb
      obtain ⟨l, vs, h1, h2, h3⟩ := R.rd b k k1 (by rw [← k2]; exact hd)
      refine ⟨l, vs, hS.1 _ _ h1, ⟨by rw [← k5]; exact h2.1, fun i d v e1 e2 => ?_⟩, h3⟩
      have hi := (List.getElem?_eq_some_iff.1 e1).1
      rw [← k5] at hi
      exact (k6 i _ d (List.getElem?_eq_getElem hi) e1).sound hS H Hn (h2.2 i _ _ (List.getElem?_eq_getElem hi) e2)
  · intro b k' l hk hs hl
    by_cases hb : nw b
    · obtain ⟨ty, rfl⟩ := nowNew b hb k' hk; cases hs
    · obtain ⟨k, k1, k2, _⟩ := old b k' hk (by rw [hs]; decide) hb
      exact R.ro b k l k1 (by rw [← k2]; exact hs) (back b l hl hb)
  · intro b k' l hk hs hl
    by_cases hb : nw b
    · obtain ⟨ty, rfl⟩ := nowNew b hb k' hk
      have := backn b l hl hb
      subst this
      exact ⟨rfl, by simp, fun h => by simp at h⟩
    · obtain ⟨k, k1, k2, k3, k4, k5, k6⟩ := old b k' hk (by rcases hs with h | h <;> rw [h] <;> decide) hb
      have := R.own b k l k1 (by rw [← k2]; exact hs) (back b l hl hb)
      rw [k5, ← k3] at this
      exact this
  · intro b c kb kc lb lc hb hc hlb hlc hsc hsb hne hpb hpc hblk
    have nb : ¬ nw b := fun h => by have := backn b lb hlb h; subst this; simp at hpb
    have nc : ¬ nw c := fun h => by have := backn c lc hlc h; subst this; simp at hpc
    obtain ⟨b0, k1, k2, k3, k4, k5, k6⟩ := old b kb hb (by rcases hsb with h | h <;> rw [h] <;> decide) nb
    obtain ⟨c0, j1, j2, j3, j4, j5, j6⟩ := old c kc hc (by rw [hsc]; decide) nc
    obtain ⟨r1, r2, r3⟩ := R.sep b c b0 c0 lb lc k1 j1 (back b lb hlb nb) (back c lc hlc nc) (by rw [← j2]; exact hsc) (by rw [← k2]; exact hsb) hne hpb hpc hblk
    refine ⟨by rw [k2]; exact r1, ?_, by omega⟩
    rcases j4 b r2 with h | ⟨ka, h, h2⟩
    · exact h
    · rw [hb] at h; simp at h; subst h
      rcases hsb with h | h <;> rw [h2] at h <;> cases h
  · intro a o v hv
    have hv : (if cov a o then w.cell? ⟨a, o, none⟩ else ρ.imm a o) = some v := hv
    by_cases hc : cov a o
    · rw [if_pos hc] at hv
      refine ⟨hv, fun c kc lc hkc hsc hlc hp => ?_⟩
      have nc : ¬ nw c := fun h => by have := backn c lc hlc h; subst this; simp at hp
      obtain ⟨c0, j1, j2, j3, j4, j5, j6⟩ := old c kc hkc (by rw [hsc]; decide) nc
      obtain ⟨b, cs, l, q1, q2, q3, q4, q5⟩ := hc
      obtain ⟨k, k1, k2, k3, k4⟩ := f1 b cs q1
      have hlc' := back c lc hlc nc
      rcases k3 with k3 | k3
      · have hne : b ≠ c := by
          rintro rfl
          have := k4 k3 kc hkc
          rw [hsc] at this; cases this
        intro hbl
        have hph := (R.own b k l k1 (.inl k3) q2).2.1
        rw [k2] at hph
        have := (R.sep b c k c0 l lc k1 j1 q2 hlc' (by rw [← j2]; exact hsc) (.inl k3) hne (by omega) hp (by omega)).1
        rw [k3] at this; cases this
      · have h1 := (R.ro b k l k1 k3 q2).2
        have h2 := ((R.own c c0 lc j1 (.inl (by rw [← j2]; exact hsc)) hlc').2.2 hp).1
        omega
    · rw [if_neg hc] at hv
      obtain ⟨h1, h2⟩ := R.imm a o v hv
      refine ⟨h1, fun c kc lc hkc hsc hlc hp => ?_⟩
      have nc : ¬ nw c := fun h => by have := backn c lc hlc h; subst this; simp at hp
      obtain ⟨c0, j1, j2, _⟩ := old c kc hkc (by rw [hsc]; decide) nc
      exact h2 c c0 lc j1 (by rw [← j2]; exact hsc) (back c lc hlc nc) hp

theorem Weaks.sound {P : Program} {B : Nat} {w0 : World} {n : Nat} {e m ρ a w e' m'} (S : SR P B w0 n e m ρ a w) (h : Weaks e m e' m') : ∃ ρ', Sub ρ ρ' ∧ SR P B w0 n e' m' ρ' a w := by
  induction h generalizing ρ with
  | refl => exact ⟨ρ, Sub.refl _, S⟩
  | step h _ ih =>
    obtain ⟨ρ1, s1, S1⟩ := h.sound S
    obtain ⟨ρ2, s2, S2⟩ := ih S1
    exact ⟨ρ2, s1.trans s2, S2⟩

end Go.Proofs.YtchhknkflhikmaaDoor.Am

/- AM: code and functions: what a derivation says, the machine does. -/
namespace Go.Proofs.YtchhknkflhikmaaDoor.Am
set_option linter.unusedSectionVars false
open Go
open Go.RowKit (Below)
set_option linter.unusedVariables false
set_option linter.unusedSimpArgs false
variable [Tab]

section
variable {P : Program}

theorem nodupB_spec : ∀ {l : List Nat}, nodupB l = true → l.Nodup
  | [], _ => List.nodup_nil
  | x :: l, h => by
    simp only [nodupB, Bool.and_eq_true, Bool.not_eq_true'] at h
    exact List.nodup_cons.2 ⟨by simpa using h.1, nodupB_spec h.2⟩

theorem respects_spec {all : Array Oper} : ∀ {l done : List Nat}, respects all done l = true → Resp all (fun x => x ∈ done) l
  | [], _, _ => trivial
  | i :: l, done, h => by
    simp only [respects, Bool.and_eq_true, List.all_eq_true] at h
    refine ⟨fun x hx => by simpa using h.1 x hx, (respects_spec h.2).mono fun x hx => by simpa using hx⟩

theorem pairsOk_spec {all : Array Oper} {T} : ∀ {l : List Nat}, pairsOk P all T l = true → l.Pairwise (fun x i => (lkN T i).testBit x = true ∨ swapOk P all x i = true)
  | [], _ => List.Pairwise.nil
  | x :: l, h => by
    simp only [pairsOk, Bool.and_eq_true, List.all_eq_true, Bool.or_eq_true] at h
    exact List.Pairwise.cons h.1 (pairsOk_spec h.2)

theorem flOf_R {all : Array Oper} {T R} {i : Nat} (h : R.contains i = true) : ∀ l : List Nat, flOf P all T R l i = true
  | [] => h
  | x :: l => by simp only [flOf, flOf_R h l, Bool.or_true]
theorem flOf_spec {all : Array Oper} {T R} : ∀ (l : List Nat), l.Pairwise (fun x i => (lkN T i).testBit x = true ∨ (clsAt P all x = .lod → clsAt P all i = .ser → flOf P all T R l i = true ∨ flOf P all T R l x = true))
  | [] => List.Pairwise.nil
  | x :: l => by
    refine List.Pairwise.cons (fun i hi => ?_) ((flOf_spec l).imp fun {y i} h => h.imp id fun h hc hd => (h hc hd).imp (fun h => by simp only [flOf, Bool.or_eq_true]; exact .inr h) (fun h => by simp only [flOf, Bool.or_eq_true]; exact .inr h))
    by_cases hb : (lkN T i).testBit x = true
    · exact .inl hb
    · refine .inr fun hc hd => ?_
      by_cases hR : R.contains x = true
      · exact .inr (flOf_R hR _)
      · left
        simp only [flOf, Bool.or_eq_true, Bool.and_eq_true]
        refine .inl ⟨⟨⟨⟨by rw [hc]; rfl, by rw [hd]; rfl⟩, by simpa using hR⟩, by simpa using hi⟩, by simpa using hb⟩

theorem drawOk_spec {all : Array Oper} {π : List Nat} (R : List Nat) (h : drawOk P all π = true) : π.Nodup ∧ π.length = all.size ∧ (∀ i, i < all.size → i ∈ π) ∧ (∀ i ∈ π, i < all.size) ∧
    Resp all (fun _ => False) π ∧ π.Pairwise (PairOk P all (tabOf all [] π) (flOf P all (tabOf all [] π) R π)) := by
  simp only [drawOk, Bool.and_eq_true, List.all_eq_true] at h
  obtain ⟨⟨⟨⟨⟨h0, h1⟩, h2⟩, h3⟩, h4⟩, h5⟩ := h
  refine ⟨nodupB_spec h0, by simpa using h1, fun i hi => by simpa using h2 i (by simpa using hi), fun i hi => by simpa using h3 i hi, (respects_spec h4).mono fun x hx => by simp at hx, ?_⟩
  have a := pairsOk_spec h5
  have b := flOf_spec (P := P) (all := all) (T := tabOf all [] π) (R := R) π
  refine (a.and b).imp fun {x i} h => ?_
  unfold PairOk
  rcases h with ⟨h1 | h1, h2⟩
  · exact .inl h1
  · rcases h2 with h2 | h2
    · exact .inl h2
    · exact .inr ⟨h1, h2⟩

theorem dstOk_region {n id ops b} (h : dstOk n (.region id ops b) = true) : dstsOk n ops := by
  intro i o ho d hd
  simp only [dstOk, List.all_eq_true] at h
  have := h o (Array.mem_toList_iff.2 (Array.mem_of_getElem? ho))
  rw [hd] at this
  simpa using this

def toExit : Ex → Exit
  | .normal => .normal
  | .exit id => .exit id
  | .ret => .ret

theorem then_ne {x : Ex} {K : Act → World → Prop} {Q : Exit → Act → World → Prop} {a w} (hx : x ≠ .normal) (h : Q (toExit x) a w) : Exit.then K Q (toExit x) a w := by
  cases x with
  | normal => exact absurd rfl hx
  | exit id => exact h
  | ret => exact h

variable {F : FnRel} {B : Nat} {w0 : World}

def Post (P : Program) (B : Nat) (w0 : World) (n : Nat) (e' : Env) (m' : Mem) (ρ : Ren) (x : Ex) (Q : Exit → Act → World → Prop) : Prop :=
  ∀ ρ' a' w', Sub ρ ρ' → SR P B w0 n e' m' ρ' a' w' → Q (toExit x) a' w'

theorem EvC_sound (hm : P.follows .mixedOrders = true) (SF : SoundF P F) (N : Nice F) {n : Nat} {c e m x e' m'} (h : EvC P F c e m x e' m') : dstOk n c = true →
    (∀ {ρ a w Q}, SR P B w0 n e m ρ a w → Post P B w0 n e' m' ρ x Q → c.wp P Q a w) ∧
    (∀ c0, c = .loop c0 → ∃ k, ∀ {ρ a w Q}, SR P B w0 n e m ρ a w → Post P B w0 n e' m' ρ x Q → Code.rounds P c0 Q k a w) := by
  induction h with
  | skip => exact fun _ => ⟨fun S hQ => wp_skip (hQ _ _ _ (Sub.refl _) S), fun _ h => by cases h⟩
  | label => exact fun _ => ⟨fun S hQ => wp_label (hQ _ _ _ (Sub.refl _) S), fun _ h => by cases h⟩
  | exit => exact fun _ => ⟨fun S hQ => wp_exit (hQ _ _ _ (Sub.refl _) S), fun _ h => by cases h⟩
  | ret => exact fun _ => ⟨fun S hQ => wp_ret (hQ _ _ _ (Sub.refl _) S), fun _ h => by cases h⟩
  | seq_n h1 h2 ih1 ih2 =>
    intro hd
    simp only [dstOk, Bool.and_eq_true] at hd
    refine ⟨fun S hQ => wp_seq ?_, fun _ h => by cases h⟩
    exact (ih1 hd.1).1 S fun ρ' a' w' s1 S' => (ih2 hd.2).1 S' fun ρ2 a2 w2 s2 S2 => hQ _ _ _ (s1.trans s2) S2
  | seq_x h hx ih =>
    intro hd
    simp only [dstOk, Bool.and_eq_true] at hd
    exact ⟨fun S hQ => wp_seq ((ih hd.1).1 S fun ρ' a' w' s1 S' => then_ne hx (hQ _ _ _ s1 S')), fun _ h => by cases h⟩
  | cond hc h ih =>
    rename_i c a b e m t x e' m'
    intro hd
    simp only [dstOk, Bool.and_eq_true] at hd
    refine ⟨fun {ρ ac w Q} S hQ => ?_, fun _ h => by cases h⟩
    have hv := ev_sound S.rel.gl S.env c
    rw [hc] at hv
    have he : ac.eval c = .bool t := by generalize ac.eval c = z at hv; cases hv; rfl
    refine wp_cond he ((ih ?_).1 S hQ)
    cases t
    · exact hd.2
    · exact hd.1
  | scope h ih =>
    rename_i c e m x e' m'
    intro hd
    refine ⟨fun S hQ => wp_scope_straight ((ih hd).1 S fun ρ' a' w' s1 S' => ?_), fun _ h => by cases h⟩
    have := hQ _ _ _ s1 S'
    cases x <;> exact this
  | block h ih =>
    rename_i id c e m x e' m'
    intro hd
    refine ⟨fun S hQ => wp_block ((ih hd).1 S fun ρ' a' w' s1 S' => ?_), fun _ h => by cases h⟩
    have := hQ _ _ _ s1 S'
    by_cases hx : x = .exit id
    · subst hx
      simpa [toExit, Exit.inBlock] using this
    · rw [if_neg hx] at this
      cases x with
      | normal => exact this
      | ret => exact this
      | exit id' =>
        have hne : ¬ id' = id := fun h => hx (by rw [h])
        simpa [toExit, Exit.inBlock, hne] using this
  | loop_n h1 h2 ih1 ih2 =>
    rename_i c e m e1 m1 x e' m'
    intro hd
    obtain ⟨k, hk⟩ := (ih2 hd).2 c rfl
    have key : ∀ {ρ a w Q}, SR P B w0 n e m ρ a w → Post P B w0 n e' m' ρ x Q → Code.rounds P c Q (k + 1) a w := fun S hQ =>
      (ih1 (by simpa [dstOk] using hd)).1 S fun ρ' a' w' s1 S' => hk S' fun ρ2 a2 w2 s2 S2 => hQ _ _ _ (s1.trans s2) S2
    exact ⟨fun S hQ => wp_loop_rounds _ (key S hQ), fun c0 h => by cases h; exact ⟨_, key⟩⟩
  | loop_x h hx ih =>
    rename_i c e m x e' m'
    intro hd
    have key : ∀ {ρ a w Q}, SR P B w0 n e m ρ a w → Post P B w0 n e' m' ρ x Q → Code.rounds P c Q 1 a w := fun S hQ =>
      (ih (by simpa [dstOk] using hd)).1 S fun ρ' a' w' s1 S' => then_ne hx (hQ _ _ _ s1 S')
    exact ⟨fun S hQ => wp_loop_rounds _ (key S hQ), fun c0 h => by cases h; exact ⟨_, key⟩⟩
  | region h =>
    intro hd
    refine ⟨fun S hQ => wp_region (EvO_wp SF (dstOk_region hd) h S fun ρ' a' w' s1 S' => hQ _ _ _ s1 S'), fun _ h => by cases h⟩
  | draw π Ri hok h =>
    rename_i id ops e m e' m'
    intro hd
    refine ⟨fun {ρ a w Q} S hQ => ?_, fun _ h => by cases h⟩
    obtain ⟨h1, h2, h3, h4, h5, h6⟩ := drawOk_spec Ri hok
    refine wp_region_any hm ?_
    have S' : SR P B w0 n e m ρ a { w with drawn := w.drawn + 1 } := ⟨S.rel.same ⟨rfl, rfl, rfl, rfl⟩, S.env, S.defs, S.siz⟩
    rw [← h2]
    have hT : TabOk ops (tabOf ops [] π) := tabOf_ok (fun i x hx => by simp [lkN] at hx)
    refine draw_wp SF N hT (dstOk_region hd) π.length rfl h h1 (by simp [h2]) (fun i hi _ => h3 i hi) (fun i hi => ⟨h4 i hi, ?_⟩) ?_ (h5.mono fun x hx => hx.elim) h6 S' (fun ρ' a' w' s1 S' => hQ _ _ _ s1 S')
    · have := h4 i hi
      simp [Array.getD_eq_getD_getElem?, h2, this]
    · intro y hy
      simp only [Array.getD_eq_getD_getElem?, Array.getElem?_replicate] at hy
      split at hy <;> simp at hy
  | @weak c e m x e1 m1 e' m' h hw ih =>
    intro hd
    have wk : ∀ {ρ Q}, Post P B w0 n e' m' ρ x Q → Post P B w0 n e1 m1 ρ x Q := fun hQ ρ' a' w' s1 S' => by
      obtain ⟨ρ2, s2, S2⟩ := hw.sound S'
      exact hQ _ _ _ (s1.trans s2) S2
    refine ⟨fun S hQ => (ih hd).1 S (wk hQ), fun c0 hc => ?_⟩
    obtain ⟨k, hk⟩ := (ih hd).2 c0 hc
    exact ⟨k, fun S hQ => hk S (wk hQ)⟩
  | weakL hw h ih =>
    intro hd
    refine ⟨fun S hQ => ?_, fun c0 hc => ?_⟩
    · obtain ⟨ρ2, s2, S2⟩ := hw.sound S
      exact (ih hd).1 S2 fun ρ' a' w' s1 S' => hQ _ _ _ (s2.trans s1) S'
    · obtain ⟨k, hk⟩ := (ih hd).2 c0 hc
      refine ⟨k, fun S hQ => ?_⟩
      obtain ⟨ρ2, s2, S2⟩ := hw.sound S
      exact hk S2 fun ρ' a' w' s1 S' => hQ _ _ _ (s2.trans s1) S'

theorem lk_argL : ∀ (args : List AV) (k i : Nat), lk (argL k args) i = if k ≤ i then (args[i - k]?).getD .any else .any
  | [], k, i => by simp [argL, lk]
  | a :: as, k, i => by
    simp only [argL, lk]
    rw [lk_argL as (k + 1) i]
    by_cases h : i = k
    · subst h; simp
    · rw [if_neg h]
      by_cases h2 : k ≤ i
      · rw [if_pos (by omega), if_pos h2, show i - k = (i - (k + 1)) + 1 by omega, List.getElem?_cons_succ]
      · rw [if_neg (by omega), if_neg h2]

theorem resOne_sound {ρ : Ren} {m} {w : World} {e : Env} {a : Act} {r v} (R : Rel P B w0 ρ m w) (he : EnvR ρ e a) (h : resOne P e m r = some v) :
    ∃ v', (match r with
      | .tmp t => pure (a.tmps.getD t undef)
      | .cell ad t => do loadVar t (← asAddr (a.tmps.getD ad undef)) : Sem Value).run P w = .ok v' w ∧ VR ρ v v' := by
  unfold resOne at h
  split at h
  · rename_i t
    simp at h; subst h
    exact ⟨_, rfl, he t⟩
  · rename_i ad t
    split at h
    · rename_i b o hx
      simp only [Option.bind_eq_some_iff] at h
      obtain ⟨k, hk, h⟩ := h
      obtain ⟨hd, h⟩ := guardO_some h
      simp only [Option.bind_eq_some_iff] at h
      obtain ⟨ti, hti, h⟩ := h
      obtain ⟨l, vs, h1, h2, h3⟩ := R.rd b k hk hd
      have hv := he ad
      rw [hx] at hv
      generalize hz : a.tmps.getD ad undef = z at hv
      cases hv with
      | ptr hl =>
        rw [h1] at hl; simp at hl; subst hl
        obtain ⟨v', r1, r2⟩ := run_loadVar (l := l) hti h h2 h3
        exact ⟨v', by simp only [hz, asAddr, Sem.run_bind, Sem.run_pure, Result.andThen_ok, r1], r2⟩
    · simp at h

theorem resList_sound {ρ : Ren} {m} {w : World} {e : Env} {a : Act} (R : Rel P B w0 ρ m w) (he : EnvR ρ e a) : ∀ {rs vs}, resList P e m rs = some vs →
    ∃ vs', (rs.mapM (m := Sem) fun
      | .tmp t => pure (a.tmps.getD t undef)
      | .cell ad t => do loadVar t (← asAddr (a.tmps.getD ad undef))).run P w = .ok vs' w ∧ VRs ρ vs vs'
  | [], vs, h => by simp [resList] at h; subst h; exact ⟨[], rfl, VRs.nil⟩
  | r :: rs, vs, h => by
    simp only [resList, Option.bind_eq_some_iff] at h
    obtain ⟨v, h1, us, h2, h3⟩ := h
    simp at h3; subst h3
    obtain ⟨v', r1, r2⟩ := resOne_sound R he h1
    obtain ⟨us', r3, r4⟩ := resList_sound R he h2
    exact ⟨v' :: us', by simp only [List.mapM_cons, Sem.run_bind, r1, Result.andThen_ok, r3, Sem.run_pure], VRs.cons r2 r4⟩

theorem resA_sound {ρ : Ren} {m} {w : World} {e : Env} {a : Act} {fn : Func} {v} (R : Rel P B w0 ρ m w) (he : EnvR ρ e a) (h : resA P fn.results.toList e m = some v) :
    ∃ v', (results fn a.tmps).run P w = .ok v' w ∧ VR ρ v v' := by
  simp only [resA, Option.bind_eq_some_iff] at h
  obtain ⟨vs, h1, h2⟩ := h
  obtain ⟨vs', r1, r2⟩ := resList_sound R he h1
  have hrun : ∀ f : Array Value → Value, (do let vs ← fn.results.mapM (m := Sem) (fun
      | .tmp t => pure (a.tmps.getD t undef)
      | .cell ad t => do loadVar t (← asAddr (a.tmps.getD ad undef))); pure (f vs) : Sem Value).run P w = .ok (f vs'.toArray) w := by
    intro f
    rw [Array.mapM_eq_mapM_toList]
    simp only [Sem.run_bind, Sem.run_map, r1, Result.andThen_ok, Sem.run_pure]
  refine ⟨_, hrun _, ?_⟩
  split at h2
  · rename_i v0
    simp at h2; subst h2
    obtain ⟨v', us, rfl, hv, hus⟩ := r2.cons_inv
    have : us = [] := List.eq_nil_of_length_eq_zero (by have := hus.1; simpa using this.symm)
    subst this
    simpa using hv
  · rename_i hne
    simp at h2; subst h2
    have hl : ¬ (vs'.toArray.size = 1) := by
      intro hl
      have hlen : vs.length = 1 := by rw [r2.1]; simpa using hl
      match vs, hlen with
      | [v0], _ => exact hne v0 rfl
    rw [dif_neg hl]
    exact r2.mk_tup

theorem NoI.sound {ρ ρ' : Ren} (hl : ρ'.loc = ρ.loc) {v x} (h : VR ρ v x) : v.noI = true → VR ρ' v x := by
  induction h with
  | any v => exact fun _ => .any v
  | int k n => exact fun _ => .int k n
  | bool b => exact fun _ => .bool b
  | str s => exact fun _ => .str s
  | ptr h => exact fun _ => .ptr (by rw [hl]; exact h)
  | nilptr => exact fun _ => .nilptr
  | snil => exact fun _ => .snil
  | sl h hn hc => exact fun _ => .sl (by rw [hl]; exact h) hn hc
  | sl0 h a => exact fun _ => .sl0 (by rw [hl]; exact h) a
  | agg hl' _ ih => exact fun hv => .agg hl' fun i c v h1 h2 => ih i c v h1 h2 (noIs_get (by simpa only [AV.noI] using hv) h1)
  | tup hl' _ ih => exact fun hv => .tup hl' fun i c v h1 h2 => ih i c v h1 h2 (noIs_get (by simpa only [AV.noI] using hv) h1)
  | fn hx _ hy _ ih ih' =>
    intro hv
    simp only [AV.noI, Bool.and_eq_true] at hv
    exact .fn hx (fun i c v h1 h2 => ih i c v h1 h2 (noIs_get hv.1 h1)) hy (fun i c v h1 h2 => ih' i c v h1 h2 (noIs_get hv.2 h1))
  | nilfn => exact fun _ => .nilfn
  | iface _ ih => exact fun hv => .iface (ih (by simpa only [AV.noI] using hv))
  | nilif => exact fun _ => .nilif
  | mp h => exact fun _ => .mp (by rw [hl]; exact h)
  | nilmp => exact fun _ => .nilmp
  | rs vs hn hc hl' _ hi ih =>
    intro hv
    simp only [AV.noI, List.isEmpty_iff] at hv
    subst hv
    simp at hn; subst hn
    exact .rs0 _ _ _
  | rs0 s a cap => exact fun _ => .rs0 s a cap
  | rp vs _ hi ih => exact fun hv => by simp [AV.noI] at hv

/-- What can be read in the whole memory, for good. -/
def renAll (ρ : Ren) (w : World) : Ren := ⟨ρ.loc, fun a o => w.cell? ⟨a, o, none⟩⟩
theorem Rel.subAll {ρ : Ren} {m w} (R : Rel P B w0 ρ m w) : Sub ρ (renAll ρ w) := ⟨fun _ _ h => h, fun a o v h => (R.imm a o v h).1⟩
theorem Rel.shut {ρ : Ren} {m w} (R : Rel P B w0 ρ m w) : Rel P w.heap.size w (renAll ρ w) m.shut w := by
  have hd : ∀ b k, m.shut.blk b = some k → k.st = .dead := fun b k h => by
    simp only [Mem.shut, Option.map_eq_some_iff] at h
    obtain ⟨k', _, rfl⟩ := h; rfl
  refine ⟨Below.refl _ _, Nat.le_refl _, R.gl.mono R.subAll, fun b hb => R.dom b (by simpa [Mem.shut] using hb), fun b k hb h => absurd (hd b k hb) h, fun b k l hb h => ?_, fun b k l hb h => ?_,
    fun b c kb kc lb lc h1 h2 h3 h4 h5 => ?_, fun a o v hv => ⟨hv, fun b k l hb h => ?_⟩⟩
  · rw [hd b k hb] at h; cases h
  · rw [hd b k hb] at h; rcases h with h | h <;> cases h
  · rw [hd c kc h2] at h5; cases h5
  · rw [hd b k hb] at h; cases h

theorem Rel.back {ρ ρ' : Ren} {m m1 : Mem} {w w' : World} (R : Rel P B w0 ρ m w) (R1 : Rel P w.heap.size w ρ' m1 w') (hS : Sub (renAll ρ w) ρ') :
    Rel P B w0 ⟨ρ'.loc, ρ.imm⟩ (m.back m1) w' ∧ Sub ρ ⟨ρ'.loc, ρ.imm⟩ := by
  have S : Sub ρ ⟨ρ'.loc, ρ.imm⟩ := ⟨fun b l h => hS.1 b l h, fun _ _ _ h => h⟩
  have cell : ∀ {a : Nat} {o : Nat} {v}, w.cell? ⟨a, o, none⟩ = some v → w'.cell? ⟨a, o, none⟩ = some v := fun {a o v} h =>
    (World.cell?_of_block (w := w) (R1.below.block _ (cellsAt_lt h))).trans h
  have new : ∀ {b k}, m.blk b = none → (m.back m1).blk b = some k → k.st ≠ .dead → m1.blk b = some k ∧ noIs k.cells = true ∧ (k.st = .own ∨ k.st = .old) := fun {b k} h0 h hd => by
    simp only [Mem.back, h0, Option.map_eq_some_iff] at h
    obtain ⟨k', h1, rfl⟩ := h
    unfold Blk.back at hd ⊢
    split
    · rename_i hc; rw [h1]; exact ⟨rfl, hc.2, hc.1⟩
    · rename_i hc; rw [if_neg hc] at hd; exact absurd rfl hd
  have old : ∀ {b k kk}, m.blk b = some kk → (m.back m1).blk b = some k → kk = k := fun {b k kk} h0 h => by
    simp only [Mem.back, h0] at h; simpa using h
  have loc : ∀ {b k l}, m.blk b = some k → ρ'.loc b = some l → k.st ≠ .dead → ρ b = some l := fun {b k l} hb hl hd => by
    obtain ⟨l', _, h1, _⟩ := R.rd b k hb hd
    have := hS.1 b l' h1
    rw [show ρ' b = ρ'.loc b from rfl, hl] at this
    simp at this; subst this; exact h1
  have ownLt : ∀ {b k l}, m.blk b = some k → (k.st = .own ∨ k.st = .old) → ρ b = some l → 0 < l.phys → l.blk < w.heap.size := fun hb hs hl hp => R.blk_lt hb hs hl hp
  have nd : ∀ {k : Blk}, (k.st = .own ∨ k.st = .old) → k.st ≠ .dead := fun h hd => by rw [hd] at h; rcases h with h | h <;> cases h
  refine ⟨⟨?_, Nat.le_trans R.size R1.below.size, R.gl.mono S, fun b hb => R1.dom b (back_none.1 hb).2, fun b k hb hd => ?_, fun b k l hb h hl => ?_, fun b k l hb h hl => ?_,
    fun b c kb kc lb lc h1 h2 h3 h4 h5 h6 h7 h8 h9 h10 => ?_, fun a o v hv => ⟨cell (R.imm a o v hv).1, fun b k l hb h hl hp => ?_⟩⟩, S⟩
  · exact ⟨R1.below.os.trans R.below.os, R1.below.tape.trans R.below.tape, R1.below.output.trans R.below.output, Nat.le_trans R.below.size R1.below.size,
      fun i hi => (R1.below.block i (Nat.lt_of_lt_of_le hi R.size)).trans (R.below.block i hi)⟩
  · cases h0 : m.blk b with
    | some kk =>
      cases old h0 hb
      obtain ⟨l, vs, q1, q2, q3⟩ := R.rd b _ h0 hd
      exact ⟨l, vs, hS.1 _ _ q1, q2.mono S, fun j v hv => cell (q3 j v hv)⟩
    | none =>
      obtain ⟨n1, n2, _⟩ := new h0 hb hd
      obtain ⟨l, vs, q1, q2, q3⟩ := R1.rd b _ n1 hd
      exact ⟨l, vs, q1, ⟨q2.1, fun i c v e1 e2 => NoI.sound (ρ := ρ') (ρ' := ⟨ρ'.loc, ρ.imm⟩) rfl (q2.2 i c v e1 e2) (noIs_get n2 e1)⟩, q3⟩
  · cases h0 : m.blk b with
    | some kk => cases old h0 hb; exact R.ro b _ l h0 h (loc h0 hl (by rw [h]; decide))
    | none =>
      obtain ⟨_, _, n3⟩ := new h0 hb (by rw [h]; decide)
      rw [h] at n3; rcases n3 with n | n <;> cases n
  · cases h0 : m.blk b with
    | some kk =>
      cases old h0 hb
      have hl0 := loc h0 hl (nd h)
      obtain ⟨q1, q2, q3⟩ := R.own b _ l h0 h hl0
      refine ⟨q1, q2, fun hp => ?_⟩
      obtain ⟨q4, cur, fz, q5, q6⟩ := q3 hp
      exact ⟨q4, cur, fz, by rw [R1.below.block _ (ownLt h0 h hl0 hp)]; exact q5, q6⟩
    | none =>
      obtain ⟨n1, n2, _⟩ := new h0 hb (nd h)
      obtain ⟨q1, q2, q3⟩ := R1.own b _ l n1 h hl
      refine ⟨q1, q2, fun hp => ?_⟩
      obtain ⟨q4, q5⟩ := q3 hp
      exact ⟨Nat.le_trans R.size q4, q5⟩
  · have newGe : ∀ {b k l}, m.blk b = none → (m.back m1).blk b = some k → (k.st = .own ∨ k.st = .old) → ρ'.loc b = some l → 0 < l.phys → w.heap.size ≤ l.blk := fun {b k l} h0 hb hs hl hp => by
      obtain ⟨n1, _, _⟩ := new h0 hb (nd hs)
      exact ((R1.own b _ l n1 hs hl).2.2 hp).1
    cases e1 : m.blk b with
    | some k1 =>
      cases old e1 h1
      have l1 := loc e1 h3 (nd h6)
      cases e2 : m.blk c with
      | some k2 =>
        cases old e2 h2
        exact R.sep b c _ _ lb lc e1 e2 l1 (loc e2 h4 (nd (.inl h5))) h5 h6 h7 h8 h9 h10
      | none =>
        have := newGe e2 h2 (.inl h5) h4 h9
        have := ownLt e1 h6 l1 h8
        omega
    | none =>
      cases e2 : m.blk c with
      | some k2 =>
        cases old e2 h2
        have := newGe e1 h1 h6 h3 h8
        have := ownLt e2 (.inl h5) (loc e2 h4 (nd (.inl h5))) h9
        omega
      | none => exact R1.sep b c _ _ lb lc (new e1 h1 (nd h6)).1 (new e2 h2 (nd (.inl h5))).1 h3 h4 h5 h6 h7 h8 h9 h10
  · cases h0 : m.blk b with
    | some kk => cases old h0 hb; exact (R.imm a o v hv).2 b _ l h0 h (loc h0 hl (by rw [h]; decide)) hp
    | none =>
      obtain ⟨n1, _, _⟩ := new h0 hb (by rw [h]; decide)
      have := ((R1.own b _ l n1 (.inl h) hl).2.2 hp).1
      have := cellsAt_lt (R.imm a o v hv).1
      omega

theorem WkArgs.sound {ρ : Ren} {m w args args1 vs} (R : Rel P B w0 ρ m w) (h : WkArgs m.view args args1) (hv : VRs ρ args vs) : VRs (renAll ρ w) args1 vs := by
  refine ⟨h.len ▸ hv.1, fun i d v h1 h2 => ?_⟩
  have hi : i < args.length := by rw [h.len]; exact (List.getElem?_eq_some_iff.1 h1).1
  refine Wk.sound R.subAll (fun b cs hb => ?_) (fun b hb => hb.elim) (h.get i _ d (List.getElem?_eq_getElem hi) h1) (hv.2 i _ _ (List.getElem?_eq_getElem hi) h2)
  simp only [Mem.view, Option.bind_eq_some_iff] at hb
  obtain ⟨k, hk, hb⟩ := hb
  split at hb
  · cases hb
  · rename_i hd
    simp at hb; subst hb
    obtain ⟨l, vs, q1, q2, q3⟩ := R.rd b k hk hd
    exact ⟨l, vs, q1, q2, q3⟩

theorem Brw_sound {F : FnRel} (SF : SoundF P F) : SoundF P (Brw F) := fun g args m v m1 h => by
  obtain ⟨args1, m2, h1, h2, h3, rfl⟩ := h
  obtain ⟨hf, hs⟩ := SF g args1 _ v m2 h2
  refine ⟨hf, fun B w0 ρ w args' R hargs => ?_⟩
  refine (hs _ _ _ w args' R.shut (h1.sound R hargs)).mono ?_
  rintro e w' ⟨v', ρ', rfl, r1, r2, r3⟩
  obtain ⟨R2, S2⟩ := R.back r2 r3
  exact ⟨v', ⟨ρ'.loc, ρ.imm⟩, rfl, NoI.sound (ρ := ρ') (ρ' := ⟨ρ'.loc, ρ.imm⟩) rfl r1 h3, R2, S2⟩

theorem EvF_sound (hm : P.follows .mixedOrders = true) : ∀ d, SoundF P (EvF P d)
  | 0 => fun g args m v m1 h => h.elim
  | d + 1 => fun g args m v m1 h => by
    have SF := EvF_sound hm d
    have N := EvF_nice P d
    obtain ⟨m2, v2, h, h8⟩ := h
    have fin : ∀ {B : Nat} {w0 : World} {ρ' : Ren} {v' : Value} {w' : World}, Rel P B w0 ρ' m2 w' → VR ρ' v2 v' → ∃ ρ2, VR ρ2 v v' ∧ Rel P B w0 ρ2 m1 w' ∧ Sub ρ' ρ2 := fun {B w0 ρ' v' w'} R r2 => by
      have S0 : SR P B w0 1 (lk [(0, v2)]) m2 ρ' { tmps := #[v'], defers := [] } w' := by
        refine ⟨R, fun i => ?_, rfl, by simp⟩
        by_cases hi : i = 0
        · subst hi; simp only [lk]; exact r2
        · simp only [lk, if_neg hi]; exact .any _
      obtain ⟨ρ2, s2, S2⟩ := h8.sound S0
      exact ⟨ρ2, S2.env 0, S2.rel, s2⟩
    rcases h with h | h
    · obtain ⟨fn, c, x, e', h1, h2, h3, h4, h5, h6, h7⟩ := h
      refine ⟨⟨fn, c, h1, h2, h3⟩, fun B w0 ρ w args' R hargs => ?_⟩
      refine calls_of_wp h1 h2 ?_
      have S : SR P B w0 fn.ntmps (lk (argL 0 args)) m ρ { tmps := args'.toArray ++ Array.replicate (fn.ntmps - args'.toArray.size) undef, defers := [] } w := by
        refine ⟨R, fun i => ?_, rfl, by simp; omega⟩
        rw [lk_argL]
        simp only [Nat.zero_le, if_true, Nat.sub_zero]
        by_cases hi : i < args.length
        · rw [List.getElem?_eq_getElem hi]
          have hi' : i < args'.length := by have := hargs.1; omega
          have hget : (args'.toArray ++ Array.replicate (fn.ntmps - args'.toArray.size) undef).getD i undef = args'[i] := by
            rw [Array.getD_eq_getD_getElem?, Array.getElem?_append_left (by simpa using hi')]
            simp [hi']
          simp only [Option.getD_some]
          rw [hget]
          exact hargs.2 i _ _ (List.getElem?_eq_getElem hi) (List.getElem?_eq_getElem hi')
        · rw [List.getElem?_eq_none (by omega)]
          exact .any _
      refine (EvC_sound hm SF N h5 h4).1 S fun ρ' a' w' s1 S' => ?_
      obtain ⟨v', r1, r2⟩ := resA_sound S'.rel S'.env h7
      obtain ⟨ρ2, r3, R2, s2⟩ := fin S'.rel r2
      rcases h6 with rfl | rfl
      · exact ⟨S'.defs, v', r1, v', ρ2, rfl, r3, R2, s1.trans s2⟩
      · exact ⟨S'.defs, v', r1, v', ρ2, rfl, r3, R2, s1.trans s2⟩
    · obtain ⟨hf, hs⟩ := Brw_sound SF g args m v2 m2 h
      refine ⟨hf, fun B w0 ρ w args' R hargs => (hs B w0 ρ w args' R hargs).mono ?_⟩
      rintro e w' ⟨v', ρ', rfl, r1, r2, r3⟩
      obtain ⟨ρ2, q1, q2, q3⟩ := fin r2 r1
      exact ⟨v', ρ2, rfl, q1, q2, r3.trans q3⟩

end
end Go.Proofs.YtchhknkflhikmaaDoor.Am
