/- AM: loads, new blocks, stores and appends do what the machine does. -/
import Derived.Test.YtdchdlabdokjnaaAm6
import Derived.Laws.MakeOwn
import Derived.Laws.BytesString
import Derived.Laws.IdiomStrings
namespace Go.Proofs.Ytdchdlabdokjnaa.Am
set_option linter.unusedSectionVars false
open Go
open Go.RowKit (Below)
set_option linter.unusedVariables false
set_option linter.unusedSimpArgs false
variable [Tab]

theorem leb_decide {a c : Nat} : (decide (a ≤ c) = true) ↔ a ≤ c := decide_eq_true_iff

/-- A part of a row that lies in memory is loaded. -/
theorem run_loadVar {P : Program} {ρ : Ren} {w : World} {ti t cs o v} {vs : List Value} {l : Loc} (ht : tiOf P t = some ti) (h : partA ti cs o = some v) (hs : VRs ρ cs vs)
    (hc : ∀ (j : Nat) v, vs[j]? = some v → w.cell? ⟨l.blk, l.off + j, none⟩ = some v) : ∃ v', (loadVar t ⟨l.blk, l.off + o, none⟩).run P w = .ok v' w ∧ VR ρ v v' := by
  obtain ⟨i, d, z, hi, hd, hz, e1, e2, e3, e4, e5⟩ := tiOf_spec ht
  have ha := isAgg_tdOf hd w
  unfold partA at h
  rw [e1] at h
  split at h
  · rename_i hagg
    obtain ⟨hle, h⟩ := guardO_some h
    simp at h; subst h
    have hvl : vs.length = cs.length := hs.1.symm
    have hl : ((vs.drop o).take ti.size).length = ti.size := by simp; omega
    refine ⟨_, ?_, ((hs.drop o).take ti.size).mk_agg⟩
    rw [hagg] at ha
    have hr := run_loadCells_list (P := P) w ⟨l.blk, l.off + o, none⟩ ((vs.drop o).take ti.size) (fun j v hv => by
      rw [addr_add]
      rw [List.getElem?_take] at hv
      split at hv
      · rw [List.getElem?_drop] at hv
        rw [Nat.add_assoc]
        exact hc _ _ hv
      · simp at hv)
    rw [hl, e2] at hr
    simp only [loadVar, Sem.run_bind, ha, Result.andThen_ok, if_true, run_size hi, hr, Sem.run_pure]
    rw [e2]
  · rename_i hagg
    rw [hagg] at ha
    obtain ⟨v', h1, h2⟩ := hs.get h
    refine ⟨v', ?_, h2⟩
    have hcell := hc o v' h1
    simp only [loadVar, Sem.run_bind, ha, Result.andThen_ok]
    simp [hcell]

/-- The cells of a slice that stands as it is, one behind the other. -/
theorem rs_flat {ρ : Ren} {s : Nat} : ∀ {es : List (List AV)} {vs : Nat → Nat → Value}, (∀ e ∈ es, e.length = s) → (∀ (i j : Nat) (e : List AV) (c : AV), es[i]? = some e → e[j]? = some c → VR ρ c (vs i j)) →
    ∃ us : List Value, VRs ρ es.flatten us ∧ us.length = es.length * s ∧ ∀ k v, us[k]? = some v → ∃ i j, i < es.length ∧ j < s ∧ k = i * s + j ∧ v = vs i j
  | [], vs, _, _ => ⟨[], VRs.nil, by simp, fun k v h => by simp at h⟩
  | e :: es, vs, hl, h => by
    obtain ⟨us, h1, h2, h3⟩ := rs_flat (es := es) (vs := fun i j => vs (i + 1) j) (fun e he => hl e (by simp [he])) (fun i j e c k1 k2 => h (i + 1) j e c (by simpa using k1) k2)
    have he := hl e (by simp)
    refine ⟨(List.range s).map (vs 0) ++ us, ?_, by simp [h2, Nat.add_mul]; omega, fun k v hv => ?_⟩
    · simp only [List.flatten_cons]
      refine VRs.append ⟨by simp [he], fun j c v k1 k2 => ?_⟩ h1
      rw [List.getElem?_map] at k2
      have hj : j < s := by
        have := (List.getElem?_eq_some_iff.1 k1).1; omega
      rw [List.getElem?_range hj] at k2
      simp at k2; subst k2
      exact h 0 j e c rfl k1
    · by_cases hk : k < s
      · rw [List.getElem?_append_left (by simpa using hk), List.getElem?_map, List.getElem?_range hk] at hv
        simp at hv; subst hv
        exact ⟨0, k, by simp, hk, by simp, rfl⟩
      · rw [List.getElem?_append_right (by simpa using hk)] at hv
        obtain ⟨i, j, k1, k2, k3, k4⟩ := h3 _ _ hv
        simp at k3
        exact ⟨i + 1, j, by simpa using k1, k2, by rw [Nat.add_mul]; omega, k4⟩

theorem bytes_fold : ∀ (ns : List Int) (bs : List UInt8), (ns.foldl (fun (r : ByteArray) n => r.push (UInt8.ofNat n.toNat)) ⟨bs.toArray⟩) = ⟨(bs ++ ns.map fun n => UInt8.ofNat n.toNat).toArray⟩
  | [], bs => by simp
  | n :: ns, bs => by
    have : (⟨bs.toArray⟩ : ByteArray).push (UInt8.ofNat n.toNat) = ⟨(bs ++ [UInt8.ofNat n.toNat]).toArray⟩ := by
      apply ByteArray.ext
      simp [ByteArray.push]
    simp only [List.foldl_cons, this, bytes_fold ns, List.map_cons, List.append_assoc, List.singleton_append]

theorem bytesA_spec {ρ : Ren} : ∀ {cs : List AV} {bs} {vs : List Value}, bytesA cs = some bs → VRs ρ cs vs → ∃ ns : List Int, vs = ns.map (Value.int .u8) ∧ bs = ns.map fun n => UInt8.ofNat n.toNat
  | [], bs, vs, h, hs => by
    simp [bytesA] at h; subst h
    have : vs = [] := List.eq_nil_of_length_eq_zero (by have := hs.1; simpa using this.symm)
    exact ⟨[], by simp [this], rfl⟩
  | c :: cs, bs, vs, h, hs => by
    obtain ⟨v, vs', rfl, hv, hvs⟩ := hs.cons_inv
    unfold bytesA at h
    split at h
    · simp_all
    · rename_i n cs' he
      simp at he
      obtain ⟨rfl, rfl⟩ := he
      simp only [Option.map_eq_some_iff] at h
      obtain ⟨bs', hb, rfl⟩ := h
      obtain ⟨ns, rfl, rfl⟩ := bytesA_spec hb hvs
      cases hv
      exact ⟨n :: ns, rfl, rfl⟩
    · simp at h

theorem loadA_sound {P B w0} {ρ : Ren} {m} {w : World} {e : Env} {a : Act} {o : Oper} {v} (R : Rel P B w0 ρ m w) (he : EnvR ρ e a) (h : loadA P e m o.op = some v) :
    ∃ v', (execOp a.eval o).run P w = .ok (.value v') w ∧ VR ρ v v' := by
  obtain ⟨dst, op, type, pos, after, guard⟩ := o
  have E := ev_sound R.gl he
  have wrap : ∀ {s : Sem Value} {v'}, s.run P w = .ok v' w → (do pure (.value (← s)) : Sem Next).run P w = .ok (.value v') w := fun hs => by
    simp only [Sem.run_bind, hs, Result.andThen_ok, Sem.run_pure]
  simp only at h
  cases op <;> simp only [loadA, reduceCtorEq] at h
  case load t x =>
    split at h
    · rename_i b o hx
      simp only [Option.bind_eq_some_iff] at h
      obtain ⟨k, hk, h⟩ := h
      obtain ⟨hd, h⟩ := guardO_some h
      simp only [Option.bind_eq_some_iff] at h
      obtain ⟨ti, hti, h⟩ := h
      obtain ⟨l, vs, h1, h2, h3⟩ := R.rd b k hk hd
      have hv := E x
      rw [hx] at hv
      generalize hz : a.eval x = z at hv
      cases hv with
      | ptr hl =>
        rw [h1] at hl; simp at hl; subst hl
        obtain ⟨v', r1, r2⟩ := run_loadVar (l := l) hti h h2 h3
        refine ⟨v', wrap ?_, r2⟩
        simp only [hz, Instr.loadAt, Instr.sureAddr, Sem.run_bind, Sem.run_pure, Result.andThen_ok, r1]
    · rename_i cs o hx
      simp only [Option.bind_eq_some_iff] at h
      obtain ⟨ti, hti, h⟩ := h
      have hv := E x
      rw [hx] at hv
      generalize hz : a.eval x = z at hv
      cases hv with
      | rp vs h1 h2 =>
        rename_i blk off
        have hvs : VRs ρ cs ((List.range cs.length).map vs) := ⟨by simp, fun j c v k1 k2 => by
          have hj := (List.getElem?_eq_some_iff.1 k1).1
          rw [List.getElem?_map, List.getElem?_range hj] at k2
          simp at k2; subst k2
          exact h1 j c k1⟩
        obtain ⟨v', r1, r2⟩ := run_loadVar (l := ⟨blk, off, 0, false⟩) (w := w) hti h hvs (fun j v hj => by
          rw [List.getElem?_map] at hj
          have hjl : j < cs.length := by
            by_cases hh : j < cs.length
            · exact hh
            · rw [List.getElem?_eq_none (by simpa using hh)] at hj; simp at hj
          rw [List.getElem?_range hjl] at hj
          simp at hj; subst hj
          exact (R.imm _ _ _ (h2 j hjl)).1)
        refine ⟨v', wrap ?_, r2⟩
        simp only [hz, Instr.loadAt, Instr.sureAddr, Sem.run_bind, Sem.run_pure, Result.andThen_ok, r1]
    · simp at h
  case convert src dst' x =>
    split at h
    · rename_i b o n sz hx
      simp only [Option.bind_eq_some_iff] at h
      obtain ⟨si, hsi, di, hdi, h⟩ := h
      obtain ⟨i1, d1, z1, hi1, hd1, hz1, g1, _⟩ := tiOf_spec hsi
      obtain ⟨i2, d2, z2, hi2, hd2, hz2, g2, _⟩ := tiOf_spec hdi
      rw [g1, g2] at h
      split at h
      · rename_i et k1 k2
        simp only [Option.bind_eq_some_iff] at h
        obtain ⟨ei, hei, h⟩ := h
        obtain ⟨i3, d3, z3, hi3, hd3, hz3, g3, _⟩ := tiOf_spec hei
        rw [g3] at h
        split at h
        · rename_i k3
          simp only [Option.bind_eq_some_iff] at h
          obtain ⟨k, hk, h⟩ := h
          obtain ⟨hd, h⟩ := guardO_some h
          obtain ⟨hle, h⟩ := guardO_some h
          simp only [Option.map_eq_some_iff] at h
          obtain ⟨bs, hbs, rfl⟩ := h
          cases d1 <;> simp [tdOf] at k1
          subst k1
          cases d2 <;> simp [tdOf] at k2
          cases d3 <;> simp [tdOf] at k3
          subst k3
          obtain ⟨l, vs, h1, h2, h3⟩ := R.rd b k hk hd
          obtain ⟨ns, hns, rfl⟩ := bytesA_spec hbs ((h2.drop o).take n)
          have hvl : vs.length = k.cells.length := h2.1.symm
          have hnl : ns.length = n := by
            have := congrArg List.length hns
            simp at this; omega
          have hv := E x
          rw [hx] at hv
          generalize hz : a.eval x = z at hv
          have fin : ∀ ad cap, (loadCells ad n).run P w = .ok (ns.map (Value.int .u8)).toArray w → ∃ v', (convert src dst' (.slice (some ad) n cap)).run P w = .ok v' w ∧ VR ρ (.str (ns.map fun n => UInt8.ofNat n.toNat)) v' := by
            intro ad cap hl
            refine ⟨_, ?_, .str _⟩
            rw [run_convert_bytes_string w src dst' _ _ _ _ hd1 hd3 hd2, run_bytesToString w ad n cap ns hl]
            have := bytes_fold ns []
            simp only [List.nil_append] at this
            rw [← this]
            rfl
          cases hv with
          | sl hl hn hc =>
            rename_i lc cap
            rw [h1] at hl; simp at hl; subst hl
            have hr := run_loadCells_list (P := P) w ⟨l.blk, l.off + o, none⟩ ((vs.drop o).take n) (fun j v hv => by
              rw [addr_add]
              rw [List.getElem?_take] at hv
              split at hv
              · rw [List.getElem?_drop] at hv
                rw [Nat.add_assoc]
                exact h3 _ _ hv
              · simp at hv)
            rw [hns] at hr
            simp only [List.length_map, hnl] at hr
            obtain ⟨v', r1, r2⟩ := fin _ cap hr
            exact ⟨v', wrap (by rw [hz]; exact r1), r2⟩
          | sl0 hl ad =>
            have : ns = [] := List.eq_nil_of_length_eq_zero hnl
            subst this
            cases ad with
            | none =>
              refine ⟨_, wrap ?_, .str _⟩
              rw [hz, run_convert_bytes_string w src dst' _ _ _ _ hd1 hd3 hd2]
              rfl
            | some ad =>
              obtain ⟨v', r1, r2⟩ := fin ad 0 (by simp [loadCells, loadCellsFrom])
              exact ⟨v', wrap (by rw [hz]; exact r1), r2⟩
        · simp at h
      · simp at h
    · rename_i hx
      simp only [Option.bind_eq_some_iff] at h
      obtain ⟨si, hsi, di, hdi, h⟩ := h
      obtain ⟨i1, d1, z1, hi1, hd1, hz1, g1, _⟩ := tiOf_spec hsi
      obtain ⟨i2, d2, z2, hi2, hd2, hz2, g2, _⟩ := tiOf_spec hdi
      rw [g1, g2] at h
      split at h
      · rename_i et k1 k2
        simp only [Option.bind_eq_some_iff] at h
        obtain ⟨ei, hei, h⟩ := h
        obtain ⟨i3, d3, z3, hi3, hd3, hz3, g3, _⟩ := tiOf_spec hei
        rw [g3] at h
        split at h
        · rename_i k3
          simp at h; subst h
          cases d1 <;> simp [tdOf] at k1
          subst k1
          cases d2 <;> simp [tdOf] at k2
          cases d3 <;> simp [tdOf] at k3
          subst k3
          have hv := E x
          rw [hx] at hv
          generalize hz : a.eval x = z at hv
          cases hv
          refine ⟨_, wrap ?_, .str _⟩
          rw [hz, run_convert_bytes_string w src dst' _ _ _ _ hd1 hd3 hd2]
          rfl
        · simp at h
      · simp at h
    · rename_i sz es hx
      simp only [Option.bind_eq_some_iff] at h
      obtain ⟨si, hsi, di, hdi, h⟩ := h
      obtain ⟨i1, d1, z1, hi1, hd1, hz1, g1, _⟩ := tiOf_spec hsi
      obtain ⟨i2, d2, z2, hi2, hd2, hz2, g2, _⟩ := tiOf_spec hdi
      rw [g1, g2] at h
      split at h
      · rename_i et k1 k2
        simp only [Option.bind_eq_some_iff] at h
        obtain ⟨ei, hei, h⟩ := h
        obtain ⟨i3, d3, z3, hi3, hd3, hz3, g3, _⟩ := tiOf_spec hei
        rw [g3] at h
        split at h
        · rename_i k3
          have hsz := (guardO_some h).1
          replace h := (guardO_some h).2
          subst hsz
          simp only [Option.map_eq_some_iff] at h
          obtain ⟨bs, hbs, rfl⟩ := h
          cases d1 <;> simp [tdOf] at k1
          subst k1
          cases d2 <;> simp [tdOf] at k2
          cases d3 <;> simp [tdOf] at k3
          subst k3
          have hv := E x
          rw [hx] at hv
          generalize hz : a.eval x = z at hv
          have fin : ∀ ad n cap (ns : List Int), (loadCells ad n).run P w = .ok (ns.map (Value.int .u8)).toArray w → ∃ v', (convert src dst' (.slice (some ad) n cap)).run P w = .ok v' w ∧ VR ρ (.str (ns.map fun n => UInt8.ofNat n.toNat)) v' := by
            intro ad n cap ns hl
            refine ⟨_, ?_, .str _⟩
            rw [run_convert_bytes_string w src dst' _ _ _ _ hd1 hd3 hd2, run_bytesToString w ad n cap ns hl]
            have := bytes_fold ns []
            simp only [List.nil_append] at this
            rw [← this]
            rfl
          cases hv with
          | rs vs hn hc hl hv hi =>
            rename_i blk off n cap
            obtain ⟨us, q1, q2, q3⟩ := rs_flat hl hv
            obtain ⟨ns, hns, rfl⟩ := bytesA_spec hbs q1
            have hr := run_loadCells_list (P := P) w ⟨blk, off, none⟩ us (fun j v hv => by
              rw [addr_add]
              obtain ⟨i, j', k1, k2, k3, k4⟩ := q3 j v hv
              rw [k3, k4]
              exact (R.imm _ _ _ (hi i j' (by omega) k2)).1)
            rw [show us.length = n by omega, hns] at hr
            obtain ⟨v', r1, r2⟩ := fin _ n cap ns hr
            exact ⟨v', wrap (by rw [hz]; exact r1), r2⟩
          | rs0 s ad cap =>
            simp [bytesA] at hbs; subst hbs
            cases ad with
            | none =>
              refine ⟨_, wrap ?_, .str _⟩
              rw [hz, run_convert_bytes_string w src dst' _ _ _ _ hd1 hd3 hd2]
              rfl
            | some ad =>
              obtain ⟨v', r1, r2⟩ := fin ad 0 cap [] (by simp [loadCells, loadCellsFrom])
              exact ⟨v', wrap (by rw [hz]; exact r1), r2⟩
        · simp at h
      · simp at h
    · simp at h

/-! ### New blocks -/

theorem range_rep (z : List Value) (hz : 0 < z.length) : ∀ n, ((List.range (n * z.length)).map fun i => z[i % z.length]!) = (List.replicate n z).flatten
  | 0 => by simp
  | n + 1 => by
    rw [Nat.succ_mul, Nat.add_comm, List.range_add, List.map_append, List.map_map, List.replicate_succ, List.flatten_cons, ← range_rep z hz n]
    congr 1
    · apply List.ext_getElem
      · simp
      · intro i h1 h2
        simp at h1 ⊢
        rw [Nat.mod_eq_of_lt h1]
        simp [h1]
    · apply List.map_congr_left
      intro i _
      simp [Nat.add_mod_left]

theorem repl_VRs {ρ : Ren} {z : List AV} {zs : List Value} (h : VRs ρ z zs) : ∀ n, VRs ρ (repl n z) (List.replicate n zs).flatten
  | 0 => by simp [repl]; exact VRs.nil
  | n + 1 => by
    have := h.append (repl_VRs h n)
    simpa [repl, List.replicate_succ] using this

theorem rep_array (z : Array Value) (hz : 0 < z.size) (n : Nat) : ((Array.range (n * z.size)).map fun i => z[i % z.size]!) = (List.replicate n z.toList).flatten.toArray := by
  apply Array.ext'
  have := range_rep z.toList (by simpa using hz) n
  simp only [Array.length_toList] at this
  rw [← this]
  simp only [Array.toList_map, Array.toList_range]
  apply List.map_congr_left
  intro i _
  have : i % z.size < z.size := Nat.mod_lt _ hz
  simp [this]

/-- What a new block's making answers. -/
def Alloc1 (P : Program) (B : Nat) (w0 : World) (ρ : Ren) (m : Mem) (b : Nat) (v : AV) (k : Blk) (r : Result Next) : Prop :=
  ∃ v' w' l, r = .ok (.value v') w' ∧ VR (upd ρ b l) v v' ∧ Rel P B w0 (upd ρ b l) (m.put b k) w'

theorem allocA_sound {P B w0} {ρ : Ren} {m} {w : World} {e : Env} {a : Act} {o : Oper} {v b k} (R : Rel P B w0 ρ m w) (he : EnvR ρ e a) (hb : m.blk b = none)
    (h : allocA P e b o.op = some (v, k)) : Alloc1 P B w0 ρ m b v k ((execOp a.eval o).run P w) := by
  obtain ⟨dst, op, type, pos, after, guard⟩ := o
  have E := ev_sound R.gl he
  have wrap : ∀ {s : Sem Value} {v' w'}, s.run P w = .ok v' w' → (do pure (.value (← s)) : Sem Next).run P w = .ok (.value v') w' := fun hs => by
    simp only [Sem.run_bind, hs, Result.andThen_ok, Sem.run_pure]
  have nofz : ∀ (n : Nat), ∀ o, o < n → ¬ ((0, 0).1 ≤ o ∧ o < (0, 0).2) := fun n o _ h => by simp at h
  simp only at h
  cases op <;> simp only [allocA, reduceCtorEq] at h
  case alloc t =>
    simp only [Option.bind_eq_some_iff, Option.some.injEq, Prod.mk.injEq] at h
    obtain ⟨ti, hti, rfl, rfl⟩ := h
    obtain ⟨i, d, z, hi, hd, hz, e1, e2, e3, e4, e5⟩ := tiOf_spec hti
    have hzs : VRs ρ ti.zero z.cells.toList := ofLeafs_VR e4
    have hlen : ti.zero.length = z.cells.size := by simpa using hzs.1
    have R' := R.alloc (cells := ti.zero) (ety := t) (anc := []) (cur := z.cells) (fz := (0, 0)) (w' := w.alloc (.cells z.cells t)) hb (Pushed.alloc w _) hzs (fun j v hv => by simpa using hv) (by omega) (nofz _)
    refine ⟨_, _, _, ?_, .ptr upd_self, R'⟩
    refine wrap ?_
    · simp [Instr.alloc, run_zero hi hz, newVar, newRow]
  case box t x =>
    simp only [Option.bind_eq_some_iff] at h
    obtain ⟨ti, hti, h⟩ := h
    obtain ⟨h1, h⟩ := guardO_some h
    obtain ⟨h2, h⟩ := guardO_some h
    simp only [Option.some.injEq, Prod.mk.injEq] at h
    obtain ⟨rfl, rfl⟩ := h
    have hc := (E x).cells h1
    have hlen : (ev P e x).cells.length = (a.eval x).cells.size := by simpa using hc.1
    have R' := R.alloc (cells := (ev P e x).cells) (ety := t) (anc := []) (cur := (a.eval x).cells) (fz := (0, 0)) (w' := w.alloc (.cells (a.eval x).cells t)) hb (Pushed.alloc w _) hc (fun j v hv => by simpa using hv) (by omega) (nofz _)
    refine ⟨_, _, _, ?_, .ptr upd_self, R'⟩
    refine wrap ?_
    · simp [Instr.box, newVar, newRow]
  case buildSlice t len parts =>
    simp only [Option.bind_eq_some_iff] at h
    obtain ⟨ti, hti, h⟩ := h
    obtain ⟨i, d, z, hi, hd, hz, e1, e2, e3, e4, e5⟩ := tiOf_spec hti
    rw [e1] at h
    split at h
    · rename_i et hk
      cases d <;> simp [tdOf] at hk
      rename_i el
      subst hk
      simp only [Option.bind_eq_some_iff] at h
      obtain ⟨ei, hei, h⟩ := h
      obtain ⟨hpos, h⟩ := guardO_some h
      obtain ⟨hsm, h⟩ := guardO_some h
      simp only [Option.map_eq_some_iff, Prod.mk.injEq] at h
      obtain ⟨cs, hcs, rfl, rfl⟩ := h
      obtain ⟨i2, d2, z2, hi2, hd2, hz2, f1, f2, f3, f4, f5⟩ := tiOf_spec hei
      have hzs : VRs ρ ei.zero z2.cells.toList := ofLeafs_VR f4
      have hzl : z2.cells.size = ei.size := by have := hzs.1; simp at this; omega
      obtain ⟨hp1, hp2⟩ := parts_sound R.gl he parts.toList
      obtain ⟨vs, r1, r2, r3⟩ := fill_sound hcs (repl_VRs hzs len) hp1 hp2
      have hvl : vs.length = len * ei.size := by rw [r3]; simp [hzl]
      have hcl : cs.length = len * ei.size := by rw [r2.1, hvl]
      have R' := R.alloc (cells := cs) (ety := el) (anc := []) (cur := vs.toArray) (fz := (0, 0)) (w' := w.alloc (.cells vs.toArray el)) hb (Pushed.alloc w _) r2 (fun j v hv => by simpa using hv) (by simp; omega) (nofz _)
      refine ⟨_, _, _, ?_, .sl upd_self (Nat.le_refl len) (fun _ => by simp; omega), R'⟩
      refine wrap ?_
      · have hsz : ¬ (len * i2.size > 2 ^ 24) := by rw [← f2]; simp; omega
        have hfill : Instr.fill (fun i => some (i * i2.size, i2.size)) ((Array.range (len * i2.size)).map (z2.cells[· % z2.cells.size]!)) (parts.map fun (i, x) => (i, a.eval x)).toList = some vs.toArray := by
          have := rep_array z2.cells (by omega) len
          rw [hzl, f2] at this
          rw [hzl, f2, this, ← f2]
          rw [f2]
          rw [f2] at r1
          simpa using r1
        simp only [Instr.buildSlice, Sem.run_bind, run_und hd, Result.andThen_ok, run_size hi2, if_neg hsz, Sem.run_ite, Sem.run_pure]
        by_cases hz0 : len * i2.size = 0
        · rw [if_pos hz0]
          have hr : (Array.range (len * i2.size)).map ((#[] : Array Value)[· % (#[] : Array Value).size]!) = (Array.range (len * i2.size)).map (z2.cells[· % z2.cells.size]!) := by
            rw [hz0]; simp
          rw [hr, hfill]
          simp [newRow]
        · rw [if_neg hz0]
          simp only [Sem.run_bind, run_zero hi2 hz2, Result.andThen_ok, Sem.run_pure, hfill]
          simp [newRow]
    · simp at h
  case makeSlice t lx cx =>
    split at h
    · rename_i kl l kc c hl hc
      simp only [Option.bind_eq_some_iff] at h
      obtain ⟨ti, hti, h⟩ := h
      obtain ⟨i, d, z, hi, hd, hz, e1, e2, e3, e4, e5⟩ := tiOf_spec hti
      rw [e1] at h
      split at h
      · rename_i et hk
        cases d <;> simp [tdOf] at hk
        rename_i el
        subst hk
        simp only [Option.bind_eq_some_iff] at h
        obtain ⟨ei, hei, h⟩ := h
        obtain ⟨hpos, h⟩ := guardO_some h
        obtain ⟨⟨hl0, hlc⟩, h⟩ := guardO_some h
        obtain ⟨⟨hby, hmx⟩, h⟩ := guardO_some h
        simp only [Option.some.injEq, Prod.mk.injEq] at h
        obtain ⟨rfl, rfl⟩ := h
        obtain ⟨i2, d2, z2, hi2, hd2, hz2, f1, f2, f3, f4, f5⟩ := tiOf_spec hei
        have hzs : VRs ρ ei.zero z2.cells.toList := ofLeafs_VR f4
        have hzl : z2.cells.size = ei.size := by have := hzs.1; simp at this; omega
        have hel : a.eval lx = .int kl l := by have := E lx; rw [hl] at this; exact ofLeaf_int this
        have hec : a.eval cx = .int kc c := by have := E cx; rw [hc] at this; exact ofLeaf_int this
        simp only [maxInt] at hmx
        have hcc : ((c.toNat : Nat) : Int) = c := Int.toNat_of_nonneg (by omega)
        have hby' : ((ei.bytes * c.toNat : Nat) : Int) ≤ 281474976710656 := by omega
        rw [Int.natCast_mul, hcc] at hby'
        have hr := run_make (P := P) w t _ i2 z2 hd hi2 hz2 kl kc l c hl0 hlc (by rw [← f3]; exact hby') (by omega)
        have hmade : madeCells z2.cells (c.toNat * i2.size) = (List.replicate c.toNat z2.cells.toList).flatten.toArray := by
          have := rep_array z2.cells (by omega) c.toNat
          rw [← this, madeCells, hzl, ← f2]
        rw [hmade] at hr
        have hcurl : ((List.replicate c.toNat z2.cells.toList).flatten.toArray).size = c.toNat * ei.size := by simp [hzl]
        have R' := R.alloc (cells := repl l.toNat ei.zero) (ety := el) (anc := []) (cur := (List.replicate c.toNat z2.cells.toList).flatten.toArray) (fz := (0, 0))
          (w' := w.alloc (.cells (List.replicate c.toNat z2.cells.toList).flatten.toArray el)) hb (Pushed.alloc w _) (repl_VRs hzs l.toNat)
          (fun j v hv => by
            have hsplit : (List.replicate c.toNat z2.cells.toList).flatten = (List.replicate l.toNat z2.cells.toList).flatten ++ (List.replicate (c.toNat - l.toNat) z2.cells.toList).flatten := by
              rw [← List.flatten_append, List.replicate_append_replicate]; congr 2; omega
            have hj : j < (List.replicate l.toNat z2.cells.toList).flatten.length := by
              by_cases hh : j < (List.replicate l.toNat z2.cells.toList).flatten.length
              · exact hh
              · rw [List.getElem?_eq_none (by omega)] at hv; simp at hv
            rw [List.getElem?_toArray, hsplit, List.getElem?_append_left hj]
            exact hv)
          (by
            rw [hcurl]
            have : (repl l.toNat ei.zero).length = l.toNat * ei.size := by simp [repl, f5]
            rw [this]
            exact Nat.mul_le_mul_right _ (by omega)) (nofz _)
        refine ⟨_, _, _, ?_, .sl upd_self (show l.toNat ≤ c.toNat by omega) (fun _ => by show 0 + 0 + c.toNat * ei.size ≤ Array.size _; rw [hcurl]; omega), R'⟩
        refine wrap ?_
        · rw [hel, hec]
          simpa using hr
      · simp at h
    · simp at h
  case convert src dst' x =>
    split at h
    · rename_i s hx
      simp only [Option.bind_eq_some_iff] at h
      obtain ⟨si, hsi, di, hdi, h⟩ := h
      obtain ⟨i1, d1, z1, hi1, hd1, hz1, g1, _⟩ := tiOf_spec hsi
      obtain ⟨i2, d2, z2, hi2, hd2, hz2, g2, _⟩ := tiOf_spec hdi
      rw [g1, g2] at h
      split at h
      · rename_i et k1 k2
        simp only [Option.bind_eq_some_iff] at h
        obtain ⟨ei, hei, h⟩ := h
        obtain ⟨i3, d3, z3, hi3, hd3, hz3, g3, _⟩ := tiOf_spec hei
        rw [g3] at h
        split at h
        · rename_i k3
          obtain ⟨hes, h⟩ := guardO_some h
          obtain ⟨hmx, h⟩ := guardO_some h
          simp only [Option.some.injEq, Prod.mk.injEq] at h
          obtain ⟨rfl, rfl⟩ := h
          cases d1 <;> simp [tdOf] at k1
          cases d2 <;> simp [tdOf] at k2
          rename_i et'
          subst k2
          cases d3 <;> simp [tdOf] at k3
          subst k3
          have hev : a.eval x = .string ⟨s.toArray⟩ := by
            have hv := E x
            rw [hx] at hv
            generalize a.eval x = z at hv
            cases hv; rfl
          have hr := run_bytes_of_string (P := P) w src dst' _ ⟨s.toArray⟩ hd1 hd2 hd3
          have hsz : ByteArray.size ⟨s.toArray⟩ = s.length := by show s.toArray.size = _; simp
          have hge := grownCap_ge w (ByteArray.size ⟨s.toArray⟩) 0 et'
          rw [hsz] at hr hge
          generalize hcap : grownCap w s.length 0 et' = cap at hr hge
          have hrow : (bytesRow ⟨s.toArray⟩ cap).size = cap := by simp [bytesRow, hsz]; omega
          rw [hrow] at hr
          have R' := R.alloc (cells := s.map fun c => AV.int .u8 c.toNat) (ety := et') (anc := []) (cur := bytesRow ⟨s.toArray⟩ cap) (fz := (cap, cap + 1)) (vs := s.map fun c => Value.int .u8 c.toNat)
            (w' := w.drew.alloc (.cells (bytesRow ⟨s.toArray⟩ cap) et' (cap, cap + 1))) hb (Pushed.drew (Pushed.alloc w.drew _))
            ⟨by simp, fun i c v h1 h2 => by
              simp only [List.getElem?_map, Option.map_eq_some_iff] at h1 h2
              obtain ⟨x1, hx1, rfl⟩ := h1
              obtain ⟨x2, hx2, rfl⟩ := h2
              rw [hx1] at hx2; simp at hx2; subst hx2
              exact .int _ _⟩
            (fun j v hv => by
              have hj : j < s.length := by
                by_cases hh : j < s.length
                · exact hh
                · rw [List.getElem?_eq_none (by simp; omega)] at hv; simp at hv
              simp only [bytesRow]
              rw [Array.getElem?_append_left (by simp; exact hj)]
              simpa using hv)
            (by simp [hrow]; exact hge) (fun o ho h => by rw [hrow] at ho; simp at h; omega)
          refine ⟨_, _, _, ?_, .sl upd_self hge (fun _ => by simp [hrow]), R'⟩
          refine wrap ?_
          rw [hev]
          simpa using hr
        · simp at h
      · simp at h
    · simp at h

end Go.Proofs.Ytdchdlabdokjnaa.Am
