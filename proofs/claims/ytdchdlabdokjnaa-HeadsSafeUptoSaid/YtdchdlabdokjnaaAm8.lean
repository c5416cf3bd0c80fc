/- AM: stores and appends do what the machine does. -/
import Derived.Test.YtdchdlabdokjnaaAm7
namespace Go.Proofs.Ytdchdlabdokjnaa.Am
set_option linter.unusedSectionVars false
open Go
open Go.RowKit (Below)
set_option linter.unusedVariables false
set_option linter.unusedSimpArgs false
variable [Tab]

/-- What a writer answers and leaves. -/
def Ser1 (P : Program) (B : Nat) (w0 : World) (ρ : Ren) (v : AV) (m1 : Mem) (r : Result Next) : Prop :=
  ∃ v' w' ρ', (r = .ok (.value v') w' ∨ (r = .ok .skip w' ∧ v' = undef)) ∧ VR ρ' v v' ∧ Rel P B w0 ρ' m1 w' ∧ Sub ρ ρ'

theorem VR_undef {ρ : Ren} : VR ρ .undef undef := VR.tup (vs := []) rfl (fun i c v h => by simp at h)

theorem store_sound {P B w0} {ρ : Ren} {m} {w : World} {e : Env} {a : Act} {o : Oper} {t ad x b off k ti} (R : Rel P B w0 ρ m w) (he : EnvR ρ e a) (ho : o.op = .store t ad x)
    (ha : ev P e ad = .ptr b off) (hk : m.blk b = some k) (hst : k.st = .own) (ht : tiOf P t = some ti) (hp : 0 < ti.size) (hl : (ev P e x).cells.all AV.leaf = true)
    (hn : (ev P e x).cells.length = ti.size) (hi : off + (ev P e x).cells.length ≤ k.cells.length) :
    Ser1 P B w0 ρ .undef (storeIn m b k off (ev P e x).cells) ((execOp a.eval o).run P w) := by
  obtain ⟨dst, op, type, pos, after, guard⟩ := o
  simp only at ho; subst ho
  have E := ev_sound R.gl he
  have hc := (E x).cells hl
  have hlen : (ev P e x).cells.length = (a.eval x).cells.size := by simpa using hc.1
  obtain ⟨i, d, z, hi0, hd, hz, e1, e2, e3, e4, e5⟩ := tiOf_spec ht
  have hv := E ad
  rw [ha] at hv
  generalize hza : a.eval ad = z' at hv
  cases hv with
  | ptr h1 =>
    rename_i l
    obtain ⟨ho1, ho3, ho2⟩ := R.own b k l hk (.inl hst) h1
    obtain ⟨ho2, cur, fz, ho4, ho5, ho6⟩ := ho2 (by omega)
    have hw := setCells_wrote l.blk (a.eval x).cells.toList (l.off + off) w
    have R' := R.store hk hst h1 hc (by omega) hi hw
    refine ⟨undef, _, ρ, .inr ⟨?_, rfl⟩, VR_undef, R', Sub.refl _⟩
    have hrun := run_storeCells (P := P) (o := l.off + off) (vs := (a.eval x).cells.toList) ho4 (by simp; omega) (by rw [ho5]; exact ho6) (hc.oneCells hl)
    have hne : ¬ ((a.eval x).cells.size ≠ i.size) := by omega
    simp only [execOp, hza, Instr.storeAt, Instr.sureAddr, Sem.run_bind, Sem.run_pure, Result.andThen_ok, storeVar, run_size hi0, if_neg hne, hrun]

/-- An append's operands as the machine has them. -/
structure AppRun (P : Program) (tys : Array TypeId) (args : Array Value) (s' x' : Value) (t u et : TypeId) (i : TypeInfo) (z : Value) (ei : TI) : Prop where
  tys : tys = #[t, u]
  args : args = #[s', x']
  ht : P.underlying t = some (.slice et)
  hu : (∃ w, P.underlying u = some (.slice w)) ∨ P.underlying u = some .string
  hi : P.info? et = some i
  hz : i.zero = some z
  size : ei.size = i.size
  bytes : ei.bytes = i.bytes

theorem AppCtx.run {P e c s x et ei n} {ρ : Ren} {a : Act} (h : AppCtx P e c s x et ei n) (hg : GlOk P ρ) (he : EnvR ρ e a) :
    ∃ s' x' t u i z, AppRun P c.argTypes (c.args.map a.eval) s' x' t u et i z ei ∧ VR ρ s s' ∧ VR ρ x x' := by
  obtain ⟨t, u, ti, ui, ht, hti, htd, hui, hud⟩ := h.tys
  obtain ⟨i1, d1, z1, hi1, hd1, hz1, g1, _⟩ := tiOf_spec hti
  obtain ⟨i2, d2, z2, hi2, hd2, hz2, g2, _⟩ := tiOf_spec hui
  obtain ⟨i, d, z, hi, hd, hz, e1, e2, e3, _⟩ := tiOf_spec h.hei
  have hvs := evs_sound hg he c.args.toList
  rw [h.args] at hvs
  obtain ⟨s', r1, hr, hs, hvs⟩ := hvs.cons_inv
  obtain ⟨x', r2, rfl, hx, hvs⟩ := hvs.cons_inv
  have : r2 = [] := List.eq_nil_of_length_eq_zero (by have := hvs.1; simpa using this.symm)
  subst this
  refine ⟨s', x', t, u, i, z, ⟨?_, ?_, ?_, ?_, hi, hz, e2, e3⟩, hs, hx⟩
  · apply Array.ext'; simpa using ht
  · apply Array.ext'; simpa using hr
  · rw [g1] at htd
    cases d1 <;> simp [tdOf] at htd
    subst htd; exact hd1
  · rw [g2] at hud
    rcases hud with ⟨w, hw⟩ | hw
    · cases d2 <;> simp [tdOf] at hw
      subst hw; exact .inl ⟨_, hd2⟩
    · cases d2 <;> simp [tdOf] at hw
      exact .inr hd2

theorem lenOf_sound {P : Program} {ρ : Ren} {x x' n} (w : World) (hx : VR ρ x x') (h : lenOfA x = some n) : (Builtin.lenOf x').run P w = .ok n w := by
  unfold lenOfA at h
  split at h <;> simp at h <;> subst h
  · cases hx; rfl
  · cases hx <;> rfl
  · cases hx with
    | rs vs hn => subst hn; rfl
    | rs0 => rfl
  · rename_i s
    cases hx
    have hsz : ByteArray.size ⟨s.toArray⟩ = s.length := by show s.toArray.size = _; simp
    simp [Builtin.lenOf, hsz]

theorem first0 {P : Program} {ρ : Ren} {x x'} (w : World) (size : Nat) (hx : VR ρ x x') (h : lenOfA x = some 0) : (Builtin.firstCells size 0 x').run P w = .ok #[] w := by
  unfold lenOfA at h
  split at h <;> simp at h
  · cases hx; simp [Builtin.firstCells]
  · subst h
    cases hx with
    | sl => simp [Builtin.firstCells, loadCells, loadCellsFrom]
    | sl0 _ ad => cases ad <;> simp [Builtin.firstCells, loadCells, loadCellsFrom]
  · subst h
    cases hx with
    | rs => simp [Builtin.firstCells, loadCells, loadCellsFrom]
    | rs0 _ ad => cases ad <;> simp [Builtin.firstCells, loadCells, loadCellsFrom]
  · rename_i s
    cases hx
    simp [Builtin.firstCells]

theorem src_sound {P B w0} {ρ : Ren} {m} {w : World} {x x' esz n news} (R : Rel P B w0 ρ m w) (hx : VR ρ x x') (h : srcA m esz x = some news) (hn : lenOfA x = some n) (hpos : 0 < n) (hl : news.length = n * esz)
    (hsz : (∃ s, x = .str s) → esz = 1 ∨ True) : ∃ vs, VRs ρ news vs ∧ ∀ w1, Same w w1 → (Builtin.firstCells esz n x').run P w1 = .ok vs.toArray w1 := by
  unfold srcA at h
  split at h
  · simp [lenOfA] at hn; omega
  · rename_i b o n' sz
    simp [lenOfA] at hn; subst hn
    rw [if_neg (by omega)] at h
    simp only [Option.bind_eq_some_iff] at h
    obtain ⟨k, hk, h⟩ := h
    obtain ⟨hd, h⟩ := guardO_some h
    obtain ⟨hle, h⟩ := guardO_some h
    simp at h; subst h
    obtain ⟨l, vs, h1, h2, h3⟩ := R.rd b k hk hd
    refine ⟨(vs.drop o).take (n' * esz), (h2.drop o).take _, fun w1 hw1 => ?_⟩
    cases hx with
    | sl hl' hn' hc =>
      rw [h1] at hl'; simp at hl'; subst hl'
      have hvl : vs.length = k.cells.length := h2.1.symm
      refine run_firstCells_some w1 esz n' _ _ _ _ (by simp; omega) (fun j v hv => ?_)
      rw [addr_add, hw1.cell]
      rw [List.getElem?_take] at hv
      split at hv
      · rw [List.getElem?_drop] at hv
        rw [Nat.add_assoc]
        exact h3 _ _ hv
      · simp at hv
    | sl0 => omega
  · rename_i s es
    simp [lenOfA] at hn; subst hn
    have hs := (guardO_some h).1
    replace h := (guardO_some h).2
    subst hs
    simp at h; subst h
    cases hx with
    | rs vs hn hc hl2 hv hi =>
      rename_i blk off n cap
      obtain ⟨us, q1, q2, q3⟩ := rs_flat hl2 hv
      refine ⟨us, q1, fun w1 hw1 => ?_⟩
      subst hn
      refine run_firstCells_some w1 s es.length _ _ _ _ q2 (fun j v hv => ?_)
      rw [addr_add, hw1.cell]
      obtain ⟨i, j', k1, k2, k3, k4⟩ := q3 j v hv
      rw [k3, k4]
      exact (R.imm _ _ _ (hi i j' (by omega) k2)).1
    | rs0 => simp at hpos
  · rename_i s
    simp [lenOfA] at hn; subst hn
    simp at h; subst h
    refine ⟨s.map fun c => Value.int .u8 c.toNat, ⟨by simp, fun i c v h1 h2 => ?_⟩, fun w1 hw1 => ?_⟩
    · simp only [List.getElem?_map, Option.map_eq_some_iff] at h1 h2
      obtain ⟨x1, hx1, rfl⟩ := h1
      obtain ⟨x2, hx2, rfl⟩ := h2
      rw [hx1] at hx2; simp at hx2; subst hx2
      exact .int _ _
    · cases hx
      have hex : (ByteArray.extract ⟨s.toArray⟩ 0 s.length) = ⟨s.toArray⟩ := by
        rw [extract_str]; simp
      simp [Builtin.firstCells, hex]
  · simp at h

/-- Room: the cells are written behind the slice. -/
theorem run_app_room {P : Program} {tys args s' x' t u et i z ei} (A : AppRun P tys args s' x' t u et i z ei) (ty : TypeId) {w w' : World} {base : Option Addr} {len cap n : Nat} {vs : List Value}
    (hs : s' = .slice base len cap) (hlen : (Builtin.lenOf x').run P w = .ok n w) (hfc : (Builtin.firstCells i.size n x').run P w = .ok vs.toArray w) (hroom : len + n ≤ cap)
    (hst : (match base with | some a => storeCells (a.add (len * i.size)) vs | none => pure () : Sem Unit).run P w = .ok () w') :
    (Builtin.append_ tys ty args).run P w = .ok (.slice base (len + n) cap) w' := by
  subst hs
  rw [A.tys, A.args]
  rcases A.hu with ⟨wt, hu⟩ | hu
  · cases base with
    | none =>
      simp at hst; subst hst
      simp [Builtin.append_, run_und A.ht, run_und hu, run_size A.hi, hlen, hroom, hfc]
    | some ad => simp [Builtin.append_, run_und A.ht, run_und hu, run_size A.hi, hlen, hroom, hfc, hst]
  · cases base with
    | none =>
      simp at hst; subst hst
      simp [Builtin.append_, run_und A.ht, run_und hu, run_size A.hi, hlen, hroom, hfc]
    | some ad => simp [Builtin.append_, run_und A.ht, run_und hu, run_size A.hi, hlen, hroom, hfc, hst]

/-- No room: a new array. -/
theorem run_app_grow {P : Program} {tys args s' x' t u et i z ei} (A : AppRun P tys args s' x' t u et i z ei) (ty : TypeId) {w : World} {base : Option Addr} {len cap n : Nat} {olds vs : List Value}
    (hs : s' = .slice base len cap) (hlen : (Builtin.lenOf x').run P w = .ok n w) (hfc : (Builtin.firstCells i.size n x').run P w.drew = .ok vs.toArray w.drew)
    (hfo : (Builtin.firstCells i.size len (.slice base len cap)).run P w.drew = .ok olds.toArray w.drew) (hroom : cap < len + n) (h63 : len + n ≤ maxInt) (hby : (len + n) * i.bytes ≤ 140737488355328) :
    (Builtin.append_ tys ty args).run P w = .ok (.slice (some ⟨w.heap.size, 0, none⟩) (len + n) (grownCap w (len + n) cap et))
      (w.drew.alloc (.cells (olds.toArray ++ vs.toArray ++ Builtin.zeroCells z.cells (grownCap w (len + n) cap et - (len + n))) et)) := by
  subst hs
  rw [A.tys, A.args]
  have hn : ¬ (len + n ≤ cap) := by omega
  have hfit := growslice_fits hroom hby
  have h48 : ¬ (281474976710656 < Builtin.nextslicecap (len + n) cap * i.bytes) := by omega
  simp only [maxInt] at h63
  have h63' : ¬ (9223372036854775807 < ((len : Int) + (n : Int))) := by omega
  rcases A.hu with ⟨wt, hu⟩ | hu
  · simp [Builtin.append_, run_und A.ht, run_und hu, Go.sizeOf, typeInfo, zeroValue, A.hi, A.hz, hlen, hn, h63', h48, Question.forced, hfc, hfo, newRow, grownCap]
    congr 2
    apply Array.ext'
    simp [List.append_assoc]
  · simp [Builtin.append_, run_und A.ht, run_und hu, Go.sizeOf, typeInfo, zeroValue, A.hi, A.hz, hlen, hn, h63', h48, Question.forced, hfc, hfo, newRow, grownCap]
    congr 2
    apply Array.ext'
    simp [List.append_assoc]

theorem call_builtin_run {P : Program} {a : Act} {w w' : World} {v} {c : Call} (hc : c.callee = .builtin .append) (o : Oper) (ho : o.op = .call c)
    (h : (Builtin.append_ c.argTypes o.type (c.args.map a.eval)).run P w = .ok v w') : (execOp a.eval o).run P w = .ok (.value v) w' := by
  obtain ⟨callee, args, tys⟩ := c
  simp only at hc; subst hc
  simp only [execOp, ho, resolve, invoke, builtin, Sem.run_bind, Sem.run_pure, Result.andThen_ok]
  simp only at h
  rw [h]
  rfl

theorem grown_cells {z : Value} {olds vs : List Value} {len n cap esz : Nat} (hz : z.cells.size = esz) (ho : olds.length = len * esz) (hv : vs.length = n * esz) (hle : len + n ≤ cap) :
    (olds.toArray ++ vs.toArray ++ Builtin.zeroCells z.cells (cap - (len + n))).size = cap * esz ∧
    ∀ (j : Nat) v, (olds ++ vs)[j]? = some v → (olds.toArray ++ vs.toArray ++ Builtin.zeroCells z.cells (cap - (len + n)))[j]? = some v := by
  constructor
  · simp only [Array.size_append, List.size_toArray, size_zeroCells, hz, ho, hv, ← Nat.add_mul]
    congr 1; omega
  · intro j v hj
    have hlt : j < (olds ++ vs).length := by
      by_cases hh : j < (olds ++ vs).length
      · exact hh
      · rw [List.getElem?_eq_none (by omega)] at hj; simp at hj
    rw [Array.getElem?_append_left (by simpa using hlt)]
    simpa using hj

/-! ### A block that the machine marks: it is written no more -/

structure Marked (w w' : World) (a : Nat) : Prop where
  size : w'.heap.size = w.heap.size
  os : w'.os = w.os
  tape : w'.tape = w.tape
  output : w'.output = w.output
  other : ∀ g, g ≠ a → w'.heap[g]? = w.heap[g]?
  cell : ∀ x : Addr, w'.cell? x = w.cell? x

theorem freeze_marked (w : World) (a : Addr) (n : Nat) : Marked w (w.freeze a n) a.block := by
  unfold World.freeze
  split
  · exact ⟨rfl, rfl, rfl, rfl, fun _ _ => rfl, fun _ => rfl⟩
  · refine ⟨by simp, rfl, rfl, rfl, fun g hg => by simp [Array.getElem?_modify, Ne.symm hg], fun x => ?_⟩
    simp only [World.cell?, Array.getElem?_modify]
    by_cases hx : a.block = x.block
    · rw [if_pos hx]
      cases hw : w.heap[x.block]? with
      | none => rfl
      | some o => cases o <;> rfl
    · rw [if_neg hx]

def renBlk (ρ : Ren) (w : World) (a : Nat) : Ren := ⟨ρ.loc, fun c o => if c = a then w.cell? ⟨c, o, none⟩ else ρ.imm c o⟩

theorem Rel.mark {P B w0 ρ m w w' b k l} (R : Rel P B w0 ρ m w) (hb : m.blk b = some k) (hs : k.st = .own) (hl : ρ b = some l) (hc : 0 < k.cells.length) (hw : Marked w w' l.blk) :
    Rel P B w0 (renBlk ρ w l.blk) (sameIn m b k) w' ∧ Sub ρ (renBlk ρ w l.blk) := by
  obtain ⟨o1, o3, o2⟩ := R.own b k l hb (.inl hs) hl
  have hpl : 0 < l.phys := by omega
  obtain ⟨o2, cur, fz, o4, o5, o6⟩ := o2 hpl
  have S : Sub ρ (renBlk ρ w l.blk) := ⟨fun _ _ h => h, fun a o v h => by
    simp only [renBlk]
    split
    · exact (R.imm a o v h).1
    · exact h⟩
  have hblk : ∀ x kx, (sameIn m b k).blk x = some kx → kx.st ≠ .dead → x ≠ b ∧ m.blk x = some kx ∧ ¬ (kx.st = .old ∧ x ∈ k.anc) := fun x kx hx hd => by
    unfold sameIn at hx
    rw [Mem.blk_put] at hx
    split at hx
    · cases hx; exact absurd rfl hd
    · rename_i hne
      unfold storeIn at hx
      rw [kill_blk, Mem.blk_put, if_neg hne] at hx
      split at hx
      · cases hx
      · rename_i k0 hk0
        split at hx
        · cases hx; exact absurd rfl hd
        · rename_i hno
          cases hx
          exact ⟨hne, hk0, hno⟩
  have nd : ∀ {k : Blk}, (k.st = .own ∨ k.st = .old) → k.st ≠ .dead := fun h hd => by rw [hd] at h; rcases h with h | h <;> cases h
  have apart : ∀ c kc lc, (sameIn m b k).blk c = some kc → (kc.st = .own ∨ kc.st = .old) → ρ c = some lc → 0 < lc.phys → lc.blk ≠ l.blk := fun c kc lc hc0 h h1 hp he => by
    obtain ⟨n1, n2, n3⟩ := hblk c kc hc0 (nd h)
    obtain ⟨q1, q2, _⟩ := R.sep c b kc k lc l n2 hb h1 hl hs h n1 hp hpl he
    exact n3 ⟨q1, q2⟩
  refine ⟨⟨⟨hw.os.trans R.below.os, hw.tape.trans R.below.tape, hw.output.trans R.below.output, by rw [hw.size]; exact R.below.size, fun i hi => (hw.other i (by omega)).trans (R.below.block i hi)⟩,
    by rw [hw.size]; exact R.size, R.gl.mono S, fun c h => R.dom c ((sameIn_none hb).1 h), fun c kc h hd => ?_, fun c kc lc h hs' h1 => R.ro c kc lc (hblk c kc h (by rw [hs']; decide)).2.1 hs' h1, fun c kc lc h hs' h1 => ?_,
    fun c d kc kd lc ld h1 h2 h3 h4 h5 h6 h7 h8 h9 h10 => R.sep c d kc kd lc ld (hblk c kc h1 (nd h6)).2.1 (hblk d kd h2 (nd (.inl h5))).2.1 h3 h4 h5 h6 h7 h8 h9 h10, fun a o v hv => ?_⟩, S⟩
  · obtain ⟨_, n2, _⟩ := hblk c kc h hd
    obtain ⟨lc, vs, q1, q2, q3⟩ := R.rd c kc n2 hd
    exact ⟨lc, vs, q1, q2.mono S, fun j v hv => by rw [hw.cell]; exact q3 j v hv⟩
  · obtain ⟨_, n2, _⟩ := hblk c kc h (nd hs')
    obtain ⟨q1, q2, q3⟩ := R.own c kc lc n2 hs' h1
    refine ⟨q1, q2, fun hp => ?_⟩
    obtain ⟨q4, cur', fz', q5, q6⟩ := q3 hp
    exact ⟨q4, cur', fz', by rw [hw.other _ (apart c kc lc h hs' h1 hp)]; exact q5, q6⟩
  · simp only [renBlk] at hv
    split at hv
    · rename_i ha
      subst ha
      exact ⟨by rw [hw.cell]; exact hv, fun c kc lc h hs' h1 hp => apart c kc lc h (.inl hs') h1 hp⟩
    · refine ⟨by rw [hw.cell]; exact (R.imm a o v hv).1, fun c kc lc h hs' h1 hp => (R.imm a o v hv).2 c kc lc (hblk c kc h (by rw [hs']; decide)).2.1 hs' h1 hp⟩

theorem run_convert_same {P : Program} {w : World} {t et : TypeId} {a : Addr} {n cap : Nat} {cur : Array Value} {ty : TypeId} {fz} (ht : P.underlying t = some (.slice et)) (he : P.underlying et = some (.int .u8)) (hh : w.heap[a.block]? = some (.cells cur ty fz)) :
    (convert t t (.slice (some a) n cap)).run P w = .ok (.slice (some a) n cap) (w.freeze ⟨a.block, cur.size, none⟩ 1) := by
  have hsh : w.shape? a.block = some (ty, cur.size) := by simp [World.shape?, hh]
  simp [convert, run_underlying ht, run_underlying he, markStringish, hsh]

theorem same_sound {P B w0} {ρ : Ren} {m} {w : World} {e : Env} {a : Act} {o : Oper} {t x b n k es ti et ei} (R : Rel P B w0 ρ m w) (he : EnvR ρ e a) (ho : o.op = .convert t t x)
    (hx : ev P e x = .sl b 0 n 1) (hk : m.blk b = some k) (hst : k.st = .own) (ht : tiOf P t = some ti) (hd : ti.d = .slice et) (hei : tiOf P et = some ei) (hu : ei.d = .int .u8)
    (hn : 0 < n) (hc : k.cells = es.flatten) (hl : es.length = n) (hel : ∀ e ∈ es, e.length = 1) : Ser1 P B w0 ρ (.rs 1 es) (sameIn m b k) ((execOp a.eval o).run P w) := by
  obtain ⟨dst, op, type, pos, after, guard⟩ := o
  simp only at ho; subst ho
  have E := ev_sound R.gl he
  obtain ⟨i1, d1, z1, hi1, hd1, hz1, g1, _⟩ := tiOf_spec ht
  obtain ⟨i2, d2, z2, hi2, hd2, hz2, g2, _⟩ := tiOf_spec hei
  have hs1 : P.underlying t = some (.slice et) := by
    rw [g1] at hd; cases d1 <;> simp [tdOf] at hd
    subst hd; exact hd1
  have hs2 : P.underlying et = some (.int .u8) := by
    rw [g2] at hu; cases d2 <;> simp [tdOf] at hu
    subst hu; exact hd2
  have hcl : k.cells.length = n := by
    rw [hc, ← hl]
    clear hc hl
    induction es with
    | nil => rfl
    | cons e es ih => rw [List.flatten_cons, List.length_append, ih fun e he => hel e (List.mem_cons_of_mem _ he), hel e List.mem_cons_self, List.length_cons]; omega
  have hv := E x
  rw [hx] at hv
  generalize hza : a.eval x = z' at hv
  cases hv with
  | sl h1 h2 h3 =>
    rename_i l cap
    obtain ⟨o1, o3, o2⟩ := R.own b k l hk (.inl hst) h1
    obtain ⟨o2, cur, fz, o4, o5, o6⟩ := o2 (by omega)
    have hrun := run_convert_same (n := n) (cap := cap) (a := ⟨l.blk, l.off + 0, none⟩) hs1 hs2 o4
    obtain ⟨R', S'⟩ := R.mark hk hst h1 (by omega) (freeze_marked w ⟨l.blk, cur.size, none⟩ 1)
    refine ⟨.slice (some ⟨l.blk, l.off + 0, none⟩) n cap, _, _, .inl ?_, ?_, R', S'⟩
    · simp only [execOp, hza, Sem.run_bind, hrun, Result.andThen_ok, Sem.run_pure]
    · obtain ⟨l', vs, r1, r2, r3⟩ := R.rd b k hk (by rw [hst]; decide)
      rw [h1] at r1; cases r1
      have hvl : vs.length = n := by rw [← r2.1]; exact hcl
      have get : ∀ i, i < n → vs[i]? = some (vs.getD i undef) := fun i hi => by rw [List.getD, List.getElem?_eq_getElem (by omega)]; rfl
      have el : ∀ (es : List (List AV)) (i : Nat) (e : List AV) (c : AV), (∀ e ∈ es, e.length = 1) → es[i]? = some e → e[0]? = some c → es.flatten[i]? = some c := by
        intro es
        induction es with
        | nil => intro i e c _ h; simp at h
        | cons y ys ih =>
          intro i e c hs he hc
          have hy := hs y List.mem_cons_self
          cases i with
          | zero =>
            simp at he; subst he
            rw [List.flatten_cons, List.getElem?_append_left (by omega)]; exact hc
          | succ i =>
            simp only [List.getElem?_cons_succ] at he
            rw [List.flatten_cons, List.getElem?_append_right (by omega), hy, Nat.add_sub_cancel]
            exact ih i e c (fun e he => hs e (List.mem_cons_of_mem _ he)) he hc
      refine .rs (fun i j => vs.getD i undef) hl h2 hel (fun i j e c e1 e2 => ?_) (fun i j hi hj => ?_)
      · have hi : i < n := by have := (List.getElem?_eq_some_iff.1 e1).1; omega
        have hj : j = 0 := by have := (List.getElem?_eq_some_iff.1 e2).1; have := hel e (List.mem_of_getElem? e1); omega
        subst hj
        exact (r2.2 i c _ (by rw [hc]; exact el es i e c hel e1 e2) (get i hi)).mono S'
      · have hj : j = 0 := by omega
        subst hj
        simp only [renBlk, if_true, Nat.add_zero, Nat.mul_one]
        exact r3 i _ (get i hi)
  | sl0 h1 ad => omega

theorem SerR_sound {P B w0} {ρ : Ren} {m} {w : World} {e : Env} {a : Act} {o : Oper} {b' v m1} (R : Rel P B w0 ρ m w) (he : EnvR ρ e a) (hb' : m.blk b' = none) (h : SerR P e m b' o.op v m1) :
    Ser1 P B w0 ρ v m1 ((execOp a.eval o).run P w) := by
  generalize hop : o.op = op at h
  have nofz : ∀ (n : Nat), ∀ o, o < n → ¬ ((0, 0).1 ≤ o ∧ o < (0, 0).2) := fun n o _ h => by simp at h
  cases h with
  | store ha hk hst ht hp hl hn hi => exact store_sound R he hop ha hk hst ht hp hl hn hi
  | same hx hk hst ht hd hei hu hn hc hl hel => exact same_sound R he hop hx hk hst ht hd hei hu hn hc hl hel
  | app0 ctx hs =>
    obtain ⟨s', x', t, u, i, z, A, hs', hx'⟩ := ctx.run R.gl he
    have hlen := lenOf_sound (P := P) w hx' ctx.len
    have hfc := first0 (P := P) w i.size hx' ctx.len
    have fin : ∀ base len cap, s' = .slice base len cap → len ≤ cap → (execOp a.eval o).run P w = .ok (.value s') w := by
      intro base len cap e1 hle
      refine call_builtin_run ctx.callee o hop ?_
      have := run_app_room A o.type (w := w) (w' := w) (n := 0) (vs := []) e1 hlen (by simpa using hfc) (by omega) (by cases base <;> rfl)
      rw [this, e1]; simp
    rcases hs with rfl | ⟨b, oo, len, sz, rfl⟩
    · cases hs'
      exact ⟨_, w, ρ, .inl (fin none 0 0 rfl (Nat.le_refl _)), .snil, R, Sub.refl _⟩
    · refine ⟨s', w, ρ, .inl ?_, hs', R, Sub.refl _⟩
      cases hs' with
      | sl h1 h2 h3 => exact fin _ _ _ rfl h2
      | sl0 h1 ad => exact fin _ _ _ rfl (Nat.le_refl _)
  | app00 ctx =>
    obtain ⟨s', x', t, u, i, z, A, hs', hx'⟩ := ctx.run R.gl he
    have hlen := lenOf_sound (P := P) w hx' ctx.len
    have hfc := first0 (P := P) w i.size hx' ctx.len
    cases hs'
    have hrun : (execOp a.eval o).run P w = .ok (.value (.slice none 0 0)) w := by
      refine call_builtin_run ctx.callee o hop ?_
      have := run_app_room A o.type (w := w) (w' := w) (base := none) (len := 0) (cap := 0) (n := 0) (vs := []) rfl hlen (by simpa using hfc) (by omega) rfl
      rw [this]
    exact ⟨_, w, _, .inl hrun, .sl0 upd_self none, R.ghost hb', upd_mono (R.dom _ hb')⟩
  | appNil ctx hn hs hl hlf hby hm =>
    rename_i c x et ei n news
    obtain ⟨s', x', t, u, i, z, A, hs', hx'⟩ := ctx.run R.gl he
    cases hs'
    have hlen := lenOf_sound (P := P) w hx' ctx.len
    obtain ⟨vs, hvs, hfc⟩ := src_sound R hx' hs ctx.len hn hl (fun _ => .inr trivial)
    have hd := hfc w.drew ⟨rfl, rfl, rfl, rfl⟩
    rw [A.size] at hd
    have hrun := run_app_grow A o.type (w := w) (base := none) (len := 0) (cap := 0) (n := n) (olds := []) (vs := vs) rfl hlen hd (by simp [Builtin.firstCells]) (by omega) (by omega) (by rw [← A.bytes]; simpa using hby)
    obtain ⟨i2, d2, z2, hi2, hd2, hz2, f1, f2, f3, f4, f5⟩ := tiOf_spec ctx.hei
    have hzz : z2 = z := by
      have h1 := A.hi; rw [hi2] at h1; simp at h1; subst h1
      have h2 := A.hz; rw [hz2] at h2; simpa using h2
    subst hzz
    have hzl : z2.cells.size = ei.size := by have := (ofLeafs_VR (ρ := ρ) f4).1; simp at this; omega
    have hvl : vs.length = n * ei.size := by rw [← hvs.1, hl]
    have hge := grownCap_ge w (0 + n) 0 et
    generalize hcap : grownCap w (0 + n) 0 et = cap at hrun hge
    obtain ⟨hsz, hcells⟩ := grown_cells (z := z2) (olds := []) (vs := vs) (len := 0) (n := n) (cap := cap) hzl (by simp) hvl hge
    simp only [Nat.zero_add, List.nil_append] at hrun hge hsz hcells
    have R' := R.alloc (cells := news) (ety := et) (anc := []) (fz := (0, 0)) (vs := vs) hb' (Pushed.drew (Pushed.alloc w.drew _)) hvs hcells
      (by rw [hsz, hl]; exact Nat.mul_le_mul_right _ hge) (nofz _)
    refine ⟨_, _, _, .inl (call_builtin_run ctx.callee o hop hrun), .sl upd_self hge (fun _ => ?_), R', upd_mono (R.dom _ hb')⟩
    show 0 + 0 + cap * ei.size ≤ Array.size _
    rw [hsz]; omega
  | appOwn ctx hn hs hl hlf hk hst hty hend hby hm =>
    rename_i c x et ei n news b oo len k
    obtain ⟨s', x', t, u, i, z, A, hs', hx'⟩ := ctx.run R.gl he
    have hlen := lenOf_sound (P := P) w hx' ctx.len
    obtain ⟨vs, hvs, hfc⟩ := src_sound R hx' hs ctx.len hn hl (fun _ => .inr trivial)
    have hvl : vs.length = n * ei.size := by rw [← hvs.1, hl]
    obtain ⟨i2, d2, z2, hi2, hd2, hz2, f1, f2, f3, f4, f5⟩ := tiOf_spec ctx.hei
    have hzz : z2 = z := by
      have h1 := A.hi; rw [hi2] at h1; simp at h1; subst h1
      have h2 := A.hz; rw [hz2] at h2; simpa using h2
    subst hzz
    have hzl : z2.cells.size = ei.size := by have := (ofLeafs_VR (ρ := ρ) f4).1; simp at this; omega
    have hoo : oo ≤ k.cells.length := by omega
    -- a new array
    have grow : ∀ base cap l, s' = .slice base len cap → ρ b = some l → cap < len + n →
        (∃ olds, VRs ρ (k.cells.drop oo) olds ∧ (Builtin.firstCells i.size len (.slice base len cap)).run P w.drew = .ok olds.toArray w.drew) →
        Ser1 P B w0 ρ (.sl b' 0 (len + n) ei.size) ((m.put b { k with st := .old }).put b' ⟨.own, k.cells.drop oo ++ news, et, b :: k.anc⟩) ((execOp a.eval o).run P w) := by
      intro base cap l e1 hlb hroom ⟨olds, holds, hfo⟩
      have hd := hfc w.drew ⟨rfl, rfl, rfl, rfl⟩
      rw [A.size] at hd
      have hrun := run_app_grow A o.type (w := w) (n := n) (olds := olds) (vs := vs) e1 hlen hd hfo hroom hm (by rw [← A.bytes]; exact hby)
      have hol : olds.length = len * ei.size := by rw [← holds.1]; simp; omega
      have hge := grownCap_ge w (len + n) cap et
      generalize hcap : grownCap w (len + n) cap et = cap' at hrun hge
      obtain ⟨hsz, hcells⟩ := grown_cells (z := z2) (olds := olds) (vs := vs) (len := len) (n := n) (cap := cap') hzl hol hvl hge
      have R2 := R.oldify hk hst
      have hne : b ≠ b' := by rintro rfl; simp [hb'] at hk
      have hb2 : (m.put b { k with st := .old }).blk b' = none := by rw [Mem.blk_put, if_neg (Ne.symm hne)]; exact hb'
      have R' := R2.alloc (cells := k.cells.drop oo ++ news) (ety := et) (anc := b :: k.anc) (fz := (0, 0)) (vs := olds ++ vs) hb2 (Pushed.drew (Pushed.alloc w.drew _)) (holds.append hvs) hcells
        (by rw [hsz]; simp only [List.length_append, List.length_drop, hl]
            have : k.cells.length - oo = len * ei.size := by omega
            rw [this, ← Nat.add_mul]; exact Nat.mul_le_mul_right _ hge) (nofz _)
      refine ⟨_, _, _, .inl (call_builtin_run ctx.callee o hop hrun), .sl upd_self hge (fun _ => ?_), R', upd_mono (R.dom _ hb')⟩
      show 0 + 0 + cap' * ei.size ≤ Array.size _
      rw [hsz]; omega
    obtain ⟨l, us, hl1, hl2, hl3⟩ := R.rd b k hk (by rw [hst]; decide)
    cases hs' with
    | sl h1 h2 h3 =>
      rename_i l' cap
      rw [hl1] at h1; simp at h1; subst h1
      obtain ⟨ho1, ho3, ho2⟩ := R.own b k l hk (.inl hst) hl1
      by_cases hroom : len + n ≤ cap
      · -- in place
        have hphys := h3 ho1
        have hmul : (len + n) * ei.size ≤ cap * ei.size := Nat.mul_le_mul_right _ hroom
        rw [Nat.add_mul] at hmul
        have hnp : 0 < n * ei.size := Nat.mul_pos hn ctx.pos
        obtain ⟨ho2, cur, fz, ho4, ho5, ho6⟩ := ho2 (by omega)
        have hw := setCells_wrote l.blk vs (l.off + k.cells.length) w
        have hrm : l.off + k.cells.length + news.length ≤ l.phys := by rw [hl]; omega
        have R' := R.appendIn hk hst hl1 hb' hvs hoo hrm (by omega) hw
        rw [show (⟨.own, k.cells.drop oo ++ news, et, b :: k.anc⟩ : Blk) = ⟨.own, k.cells.drop oo ++ news, k.ety, b :: k.anc⟩ by rw [hty]]
        have hd := hfc w (Same.refl w)
        rw [A.size] at hd
        have hst' := run_storeCells (P := P) (o := l.off + k.cells.length) (vs := vs) ho4 (by rw [ho5, hvl, ← hl]; exact hrm) (by rw [ho5]; exact ho6) (hvs.oneCells hlf)
        have hrun := run_app_room A o.type (w := w) (n := n) (vs := vs) rfl hlen hd hroom (by
          simp only [addr_add]
          rw [show l.off + oo + len * i.size = l.off + k.cells.length by rw [← A.size]; omega]
          exact hst')
        refine ⟨_, _, _, .inl (call_builtin_run ctx.callee o hop hrun), ?_, R', upd_mono (R.dom _ hb')⟩
        exact VR.sl (ρ := upd ρ b' ⟨l.blk, l.off + oo, l.phys, true⟩) (o := 0) (l := ⟨l.blk, l.off + oo, l.phys, true⟩) upd_self hroom (fun _ => by simp; omega)
      · refine grow _ cap l rfl hl1 (by omega) ⟨us.drop oo, hl2.drop oo, ?_⟩
        have hul : us.length = k.cells.length := hl2.1.symm
        refine run_firstCells_some w.drew i.size len _ _ _ _ (by rw [← A.size]; simp; omega) (fun j v hv => ?_)
        rw [addr_add]
        rw [List.getElem?_drop] at hv
        have := hl3 _ _ hv
        rw [Nat.add_assoc]
        exact this
    | sl0 h1 ad =>
      refine grow ad 0 l rfl hl1 (by omega) ⟨[], ?_, ?_⟩
      · rw [List.drop_of_length_le (by simp at hend; omega)]
        exact VRs.nil
      · cases ad <;> simp [Builtin.firstCells, loadCells, loadCellsFrom]

end Go.Proofs.Ytdchdlabdokjnaa.Am
