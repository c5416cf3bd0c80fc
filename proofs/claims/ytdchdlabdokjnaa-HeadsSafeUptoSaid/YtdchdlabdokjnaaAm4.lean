/- AM: the pure operations, the rest of them: building, cutting, indexing, lengths; all of them together. -/
import Derived.Test.YtdchdlabdokjnaaAm3
namespace Go.Proofs.Ytdchdlabdokjnaa.Am
set_option linter.unusedSectionVars false
open Go
set_option linter.unusedVariables false
set_option linter.unusedSimpArgs false
variable [Tab]

theorem fold_set (off : Nat) : ∀ (vs : List Value) (k : Nat) (cur : Array Value), off + k + vs.length ≤ cur.size →
    ((vs.zipIdx k).foldl (fun (cs : Array Value) (x : Value × Nat) => cs.setIfInBounds (off + x.2) x.1) cur).toList = cur.toList.take (off + k) ++ vs ++ cur.toList.drop (off + k + vs.length)
  | [], k, cur, h => by simp
  | v :: vs, k, cur, h => by
    simp only [List.zipIdx_cons, List.foldl_cons]
    simp only [List.length_cons] at h
    rw [fold_set off vs (k + 1) _ (by simp; omega)]
    have hlt : off + k < cur.toList.length := by simp; omega
    simp only [Array.toList_setIfInBounds, List.length_cons]
    rw [show off + (k + 1) = off + k + 1 by omega, List.take_succ_eq_append_getElem (by simpa using hlt)]
    rw [List.take_set_of_le (by omega), List.getElem_set_self, List.drop_set_of_lt (by omega)]
    simp only [List.append_assoc, List.singleton_append, List.cons_append, List.nil_append]
    rw [show off + k + 1 + vs.length = off + k + (vs.length + 1) by omega]

theorem fill_sound {ρ : Ren} {place : Nat → Option (Nat × Nat)} : ∀ {parts : List (Nat × AV)} {parts' : List (Nat × Value)} {cs cs' : List AV} {vs : List Value},
    fillA place cs parts = some cs' → VRs ρ cs vs → parts.length = parts'.length → (∀ (i : Nat) p p', parts[i]? = some p → parts'[i]? = some p' → p.1 = p'.1 ∧ VR ρ p.2 p'.2) →
    ∃ vs', Instr.fill place vs.toArray parts' = some vs'.toArray ∧ VRs ρ cs' vs' ∧ vs'.length = vs.length
  | [], parts', cs, cs', vs, h, hs, hl, hp => by
    simp [fillA] at h; subst h
    have : parts' = [] := List.eq_nil_of_length_eq_zero (by simpa using hl.symm)
    subst this
    exact ⟨vs, rfl, hs, rfl⟩
  | (i, v) :: rest, [], cs, cs', vs, h, hs, hl, hp => by simp at hl
  | (i, v) :: rest, (i', v') :: rest', cs, cs', vs, h, hs, hl, hp => by
    obtain ⟨e1, hv⟩ := hp 0 _ _ rfl rfl
    simp only at e1 hv; subst e1
    simp only [fillA, Option.bind_eq_some_iff] at h
    obtain ⟨⟨off, size⟩, hpl, h⟩ := h
    obtain ⟨h1, h⟩ := guardO_some h
    obtain ⟨h2, h⟩ := guardO_some h
    obtain ⟨h3, h⟩ := guardO_some h
    simp only at h2 h3 h
    have hvc := hv.cells h1
    have hn : v'.cells.size = v.cells.length := by have := hvc.1; simpa using this.symm
    have hcur : cs.length = vs.length := hs.1
    obtain ⟨vs', r1, r2, r3⟩ := fill_sound (vs := vs.take off ++ v'.cells.toList ++ vs.drop (off + v.cells.length)) h
      (by rw [← h2] at *; exact ((hs.take off).append hvc).append (hs.drop _)) (by simpa using hl)
      (fun j p p' hj hj' => hp (j + 1) p p' (by simpa using hj) (by simpa using hj'))
    refine ⟨vs', ?_, r2, ?_⟩
    · rw [← r1]
      simp only [Instr.fill, hpl]
      rw [if_neg (by simp [hn, h2]; omega)]
      congr 1
      apply Array.ext'
      rw [← Array.foldl_toList, Array.toList_zipIdx]
      have := fold_set off v'.cells.toList 0 vs.toArray (by simp; omega)
      simp only [Nat.add_zero] at this
      rw [this]
      have hvl : v'.cells.toList.length = v.cells.length := by simpa using hn
      simp [hvl]
    · rw [r3]
      have hvl : v'.cells.toList.length = v.cells.length := by simpa using hn
      simp only [List.length_append, List.length_take, List.length_drop, hvl]
      omega

theorem placesA_sound {P : Program} (w : World) : ∀ {fs : List Field} {ps}, placesA P (fs.map fun f => (f.offset, f.type)) = some ps →
    (fs.mapM (m := Sem) fun f => do pure (f.offset, ← Go.sizeOf f.type)).run P w = .ok ps w
  | [], ps, h => by simp [placesA] at h; subst h; rfl
  | f :: fs, ps, h => by
    simp only [List.map_cons, placesA, Option.bind_eq_some_iff] at h
    obtain ⟨ti, hti, ps', hps, h⟩ := h
    simp at h; subst h
    obtain ⟨i, d, z, hi, hd, hz, e1, e2, e3, e4, e5⟩ := tiOf_spec hti
    have ih := placesA_sound w hps
    simp only [List.mapM_cons, Sem.run_bind, run_size hi, Result.andThen_ok, Sem.run_pure, ih, e2]

theorem buildA_sound {P : Program} {ρ : Ren} (w : World) {t : TypeId} {parts : List (Nat × AV)} {parts' : List (Nat × Value)} {v}
    (h : buildA P t parts = some v) (hl : parts.length = parts'.length) (hp : ∀ (i : Nat) p p', parts[i]? = some p → parts'[i]? = some p' → p.1 = p'.1 ∧ VR ρ p.2 p'.2) :
    ∃ v', (Instr.build t parts'.toArray).run P w = .ok v' w ∧ VR ρ v v' := by
  simp only [buildA, Option.bind_eq_some_iff] at h
  obtain ⟨ti, hti, h⟩ := h
  obtain ⟨i, d, z, hi, hd, hz, e1, e2, e3, e4, e5⟩ := tiOf_spec hti
  rw [e1] at h
  have hzs : VRs ρ ti.zero z.cells.toList := ofLeafs_VR e4
  split at h
  · rename_i fs pl hk
    cases d <;> simp [tdOf] at hk
    rename_i fields
    obtain ⟨hk, _⟩ := hk
    simp only [Option.bind_eq_some_iff, Option.map_eq_some_iff] at h
    obtain ⟨ps, hps, cs, hcs, rfl⟩ := h
    rw [← hk] at hps
    have hpl := placesA_sound w hps
    obtain ⟨vs, r1, r2, _⟩ := fill_sound hcs hzs hl hp
    refine ⟨_, ?_, r2.mk_agg⟩
    have hm : (fields.mapM (m := Sem) fun f => do pure (f.offset, ← Go.sizeOf f.type)).run P w = .ok ps.toArray w := by
      rw [Array.mapM_eq_mapM_toList]
      simp only [Sem.run_map, hpl, Result.andThen_ok]
    simp only [Instr.build, Sem.run_bind, run_zero hi hz, Result.andThen_ok, run_und hd, hm]
    have hf : Instr.fill (ps.toArray[·]?) z.cells parts'.toArray.toList = some vs.toArray := by simpa using r1
    simp only [hf, Sem.run_pure]
  · rename_i n e hk
    cases d <;> simp [tdOf] at hk
    rename_i n' e'
    obtain ⟨rfl, rfl⟩ := hk
    simp only [Option.bind_eq_some_iff, Option.map_eq_some_iff] at h
    obtain ⟨ei, hei, cs, hcs, rfl⟩ := h
    obtain ⟨i2, d2, z2, hi2, _, _, _, f2, _⟩ := tiOf_spec hei
    obtain ⟨vs, r1, r2, _⟩ := fill_sound hcs hzs hl hp
    refine ⟨_, ?_, r2.mk_agg⟩
    simp only [Instr.build, Sem.run_bind, run_zero hi hz, Result.andThen_ok, run_und hd, run_size hi2]
    have hf : Instr.fill (fun i => some (i * i2.size, i2.size)) z.cells parts'.toArray.toList = some vs.toArray := by
      rw [← f2]; simpa using r1
    simp only [hf, Sem.run_pure]
  · simp at h

theorem fieldOf_sound {P : Program} {t f off ft} (h : fieldOf P t f = some (off, ft)) : ∃ fields : Array Field, ∃ fl : Field, P.underlying t = some (.struct fields) ∧ fields[f]? = some fl ∧ fl.offset = off ∧ fl.type = ft := by
  simp only [fieldOf, Option.bind_eq_some_iff] at h
  obtain ⟨ti, hti, h⟩ := h
  obtain ⟨i, d, z, hi, hd, hz, e1, e2, e3, e4, e5⟩ := tiOf_spec hti
  rw [e1] at h
  split at h
  · rename_i fs pl hk
    cases d <;> simp [tdOf] at hk
    rename_i fields
    obtain ⟨hk, _⟩ := hk
    rw [← hk] at h
    simp only [List.getElem?_map, Option.map_eq_some_iff] at h
    obtain ⟨fl, h1, h2⟩ := h
    simp at h2
    exact ⟨fields, fl, hd, by simpa using h1, h2.1, h2.2⟩
  · simp at h

theorem bnd_sound {P : Program} {ρ : Ren} (w : World) {n : Int} {y : Nat} {v : Value} {k : IntKind} {code : BoundsCode} (hv : VR ρ (.int k n) v) (h0 : 0 ≤ n) (h1 : n ≤ (y : Int)) :
    (Instr.sliceBound v y code).run P w = .ok n.toNat w := by
  cases hv
  simp [Instr.sliceBound, asIntOf, h0, h1]

/-- Options of values. -/
inductive OR (ρ : Ren) : Option AV → Option Value → Prop
  | none : OR ρ none none
  | some {x x'} (h : VR ρ x x') : OR ρ (some x) (some x')

theorem bounds_sound {P : Program} {ρ : Ren} (w : World) {isSlice : Bool} {lo hi : Option AV} {lo' hi' : Option Value} {len cap : Nat} {l h : Int}
    (hlo : OR ρ lo lo') (hhi : OR ρ hi hi') (el : bndA lo 0 = some l) (eh : bndA hi (len : Int) = some h) (h0 : 0 ≤ l) (h1 : l ≤ h) (h2 : h ≤ (cap : Int)) :
    (Instr.sliceBounds isSlice len cap lo' hi' none).run P w = .ok (l.toNat, h.toNat, cap) w := by
  have key : ∀ {x : AV} {x' : Value} {n : Int} {d : Int} {y : Nat} {code : BoundsCode}, VR ρ x x' → bndA (some x) d = some n → 0 ≤ n → n ≤ (y : Int) → (Instr.sliceBound x' y code).run P w = .ok n.toNat w := by
    intro x x' n d y code hv hb hn0 hny
    cases x <;> simp [bndA] at hb
    subst hb
    exact bnd_sound w hv hn0 hny
  cases hhi with
  | none =>
    simp [bndA] at eh; subst eh
    cases hlo with
    | none => simp [bndA] at el; subst el; simp [Instr.sliceBounds]
    | some hv => simp [Instr.sliceBounds, key hv el h0 h1]
  | some hv' =>
    have hh := fun code => key (code := code) hv' eh (by omega) h2
    cases hlo with
    | none => simp [bndA] at el; subst el; simp [Instr.sliceBounds, hh]
    | some hv => simp [Instr.sliceBounds, hh, key hv el h0 (y := h.toNat) (by omega)]

theorem addr_add (b o n : Nat) : (⟨b, o, none⟩ : Addr).add n = ⟨b, o + n, none⟩ := by
  unfold Addr.add; split <;> simp_all

theorem extract_str (s : List UInt8) (l h : Nat) : (ByteArray.extract ⟨s.toArray⟩ l h) = ⟨((s.drop l).take (h - l)).toArray⟩ := by
  apply ByteArray.ext
  rw [ByteArray.data_extract]
  apply Array.ext'
  simp [List.extract_eq_take_drop]

theorem sliceA_sound {P : Program} {ρ : Ren} (w : World) {t x v x'} {lo hi : Option AV} {lo' hi' : Option Value} (h : sliceA P t x lo hi = some v) (hx : VR ρ x x')
    (hlo : OR ρ lo lo') (hhi : OR ρ hi hi') : ∃ v', (Instr.sliceAt t x' lo' hi' none).run P w = .ok v' w ∧ VR ρ v v' := by
  simp only [sliceA, Option.bind_eq_some_iff] at h
  obtain ⟨ti, hti, h⟩ := h
  obtain ⟨i, d, z, hi0, hd, hz, e1, e2, e3, e4, e5⟩ := tiOf_spec hti
  rw [e1] at h
  split at h
  · rename_i s hk
    cases d <;> simp [tdOf] at hk
    simp only [Option.bind_eq_some_iff] at h
    obtain ⟨l, el, hh, eh, h⟩ := h
    obtain ⟨⟨c1, c2, c3⟩, h⟩ := guardO_some h
    simp at h; subst h
    cases hx
    have hb := bounds_sound (P := P) (isSlice := false) (len := s.length) (cap := s.length) w hlo hhi el eh c1 c2 c3
    refine ⟨_, ?_, .str _⟩
    have hsz : ByteArray.size ⟨s.toArray⟩ = s.length := by show s.toArray.size = _; simp
    simp only [Instr.sliceAt, Instr.slice, Sem.run_bind, run_und hd, Result.andThen_ok, hsz, hb, Option.isSome_none, Bool.false_eq_true, if_false, Sem.run_pure, extract_str]
  · rename_i e b o n s hk
    cases d <;> simp [tdOf] at hk
    subst hk
    simp only [Option.bind_eq_some_iff] at h
    obtain ⟨l, el, hh, eh, ei, hei, h⟩ := h
    obtain ⟨hs, h⟩ := guardO_some h
    obtain ⟨⟨c1, c2, c3⟩, h⟩ := guardO_some h
    simp at h; subst h; subst hs
    obtain ⟨i2, d2, z2, hi2, _, _, _, f2, _⟩ := tiOf_spec hei
    have run : ∀ (a : Option Addr) (cap : Nat), n ≤ cap → (Instr.sliceAt t (.slice a n cap) lo' hi' none).run P w =
        .ok (.slice (if cap = l.toNat then a else a.map (·.add (l.toNat * i2.size))) (hh.toNat - l.toNat) (cap - l.toNat)) w := by
      intro a cap hcap
      have hb := bounds_sound (P := P) (isSlice := true) (len := n) (cap := cap) w hlo hhi el eh c1 c2 (by omega)
      simp only [Instr.sliceAt, Instr.slice, Sem.run_bind, run_und hd, Result.andThen_ok, hb, run_size hi2, Sem.run_pure]
    cases hx with
    | sl h1 h2 h3 =>
      rename_i lc cap
      refine ⟨_, run _ _ h2, ?_⟩
      by_cases hc : cap = l.toNat
      · rw [if_pos hc]
        have e1 : hh.toNat - l.toNat = 0 := by omega
        rw [e1, show cap - l.toNat = 0 by omega]
        exact .sl0 h1 _
      · rw [if_neg hc]
        simp only [Option.map_some, addr_add]
        rw [show lc.off + o + l.toNat * i2.size = lc.off + (o + l.toNat * ei.size) by rw [f2]; omega]
        refine .sl h1 (by omega) fun ho => ?_
        have := h3 ho
        have hm : l.toNat * ei.size + (cap - l.toNat) * ei.size = cap * ei.size := by rw [← Nat.add_mul]; congr 1; omega
        omega
    | sl0 h1 a =>
      refine ⟨_, run _ _ (Nat.le_refl _), ?_⟩
      have e0 : l.toNat = 0 := by omega
      have e1 : hh.toNat = 0 := by omega
      simp only [e0, e1, if_true]
      exact .sl0 h1 _
  · rename_i e hk
    cases d <;> simp [tdOf] at hk
    simp only [Option.bind_eq_some_iff] at h
    obtain ⟨l, el, hh, eh, ei, hei, h⟩ := h
    obtain ⟨i2, d2, z2, hi2, _, _, _, f2, _⟩ := tiOf_spec hei
    have hg := guardO_some h
    clear h
    obtain ⟨⟨rfl, rfl⟩, h⟩ := hg
    simp at h; subst h
    cases hx
    have hb := bounds_sound (P := P) (isSlice := true) (len := 0) (cap := 0) w hlo hhi el eh (by omega) (by omega) (by omega)
    refine ⟨_, ?_, .snil⟩
    subst hk
    simp only [Instr.sliceAt, Instr.slice, Sem.run_bind, run_und hd, Result.andThen_ok, hb, run_size hi2, Sem.run_pure]
    simp
  · rename_i e s es hk
    cases d <;> simp [tdOf] at hk
    subst hk
    simp only [Option.bind_eq_some_iff] at h
    obtain ⟨l, el, hh, eh, ei, hei, h⟩ := h
    obtain ⟨hs, h⟩ := guardO_some h
    obtain ⟨⟨c1, c2, c3⟩, h⟩ := guardO_some h
    simp at h; subst h; subst hs
    obtain ⟨i2, d2, z2, hi2, _, _, _, f2, _⟩ := tiOf_spec hei
    have run : ∀ (a : Option Addr) (cap : Nat), es.length ≤ cap → (Instr.sliceAt t (.slice a es.length cap) lo' hi' none).run P w =
        .ok (.slice (if cap = l.toNat then a else a.map (·.add (l.toNat * i2.size))) (hh.toNat - l.toNat) (cap - l.toNat)) w := by
      intro a cap hcap
      have hb := bounds_sound (P := P) (isSlice := true) (len := es.length) (cap := cap) w hlo hhi el eh c1 c2 (by omega)
      simp only [Instr.sliceAt, Instr.slice, Sem.run_bind, run_und hd, Result.andThen_ok, hb, run_size hi2, Sem.run_pure]
    cases hx with
    | rs vs hn hc hl hv hi =>
      rename_i blk off n cap
      subst hn
      refine ⟨_, run _ _ hc, ?_⟩
      by_cases hcl : cap = l.toNat
      · have e1 : hh.toNat - l.toNat = 0 := by omega
        rw [if_pos hcl, e1, List.take_zero]
        exact .rs0 _ _ _
      · rw [if_neg hcl]
        simp only [Option.map_some, addr_add]
        refine .rs (fun i j => vs (l.toNat + i) j) (by simp; omega) (by omega) (fun e he => hl e (List.mem_of_mem_drop (List.mem_of_mem_take he))) (fun i j e c h1 h2 => ?_) (fun i j h1 h2 => ?_)
        · rw [List.getElem?_take] at h1
          split at h1
          · rw [List.getElem?_drop] at h1
            exact hv _ _ _ _ h1 h2
          · cases h1
        · rw [← hi (l.toNat + i) j (by omega) h2, f2, Nat.add_mul]
          congr 1; omega
    | rs0 s a cap =>
      refine ⟨_, run _ _ (Nat.zero_le _), ?_⟩
      have e0 : hh.toNat - l.toNat = 0 := by simp at c3; omega
      rw [e0, List.take_zero]
      exact .rs0 _ _ _
  · simp at h

end Go.Proofs.Ytdchdlabdokjnaa.Am
