/- AM: what came in: a memory made of a row's reading. -/
import Derived.Test.YtchhknkflhikmaaAm13
import Derived.Carry
import Derived.ChangeArms
import Derived.OpenShut
import Derived.ChangeOld
import Derived.DataReads
namespace Go.Proofs.Ytchhknkflhikmaa.Am
open Go
open Go.RowKit (Below)
set_option linter.unusedVariables false
set_option linter.unusedSimpArgs false

/-- Do the fields lie one behind the other? -/
def contig (P : Program) : Nat → List Field → Option Nat
  | o, [] => some o
  | o, f :: fs => if f.offset = o then contig P (o + P.cellsOf f.type) fs else none

def known (P : Program) (t : TypeId) : Bool :=
  match P.underlying t with
  | some .bool | some (.int _) | some .string => true
  | some (.pointer e) | some (.slice e) => decide (0 < P.cellsOf e)
  | some (.struct fs) => contig P 0 fs.toList == some (P.cellsOf t)
  | some (.array n e) => decide (n * P.cellsOf e = P.cellsOf t)
  | _ => false

/-- The cells cs, of type t, read as d. -/
inductive Rd {H : Type} (P : Program) (m : Mem) : TypeId → List AV → DataW H → Prop
  | bool {t b} (ht : P.underlying t = some .bool) : Rd P m t [.bool b] (.lit (.bool b))
  | int {t k n} (ht : P.underlying t = some (.int k)) (hw : (Lit.int k n).wf = true) : Rd P m t [.int k n] (.lit (.int k n))
  | str {t s} (ht : P.underlying t = some .string) (hs : s.length ≤ maxLen) : Rd P m t [.str s] (.lit (.string s))
  | nilptr {t e} (ht : P.underlying t = some (.pointer e)) : Rd P m t [.nilptr] .nil
  | ptr {t e b o k cs d} (ht : P.underlying t = some (.pointer e)) (hb : m.blk b = some k) (hd : k.st ≠ .dead ∨ cs = []) (hc : ∀ (i : Nat) c, cs[i]? = some c → k.cells[o + i]? = some c) (h : Rd P m e cs d) : Rd P m t [.ptr b o] (.ptr d)
  | snil {t e} (ht : P.underlying t = some (.slice e)) : Rd P m t [.snil] .nil
  | sl {t e b o n k ds sp} {css : Nat → List AV} (ht : P.underlying t = some (.slice e)) (hb : m.blk b = some k) (hd : k.st ≠ .dead ∨ n = 0) (hn : ds.length = n) (hl : ∀ i, i < n → (css i).length = P.cellsOf e)
      (hc : ∀ (i j : Nat) c, i < n → (css i)[j]? = some c → k.cells[o + i * P.cellsOf e + j]? = some c) (h : ∀ (i : Nat) d, ds[i]? = some d → Rd P m e (css i) d) : Rd P m t [.sl b o n (P.cellsOf e)] (.slice ds sp)
  | struct {t fs cs ds} (ht : P.underlying t = some (.struct fs)) (hl : cs.length = P.cellsOf t) (hd : ds.length = fs.size)
      (h : ∀ (i : Nat) f d, fs[i]? = some f → ds[i]? = some d → Rd P m f.type ((cs.drop f.offset).take (P.cellsOf f.type)) d) : Rd P m t cs (.agg ds)
  | arr {t n e cs ds} (ht : P.underlying t = some (.array n e)) (hl : cs.length = P.cellsOf t) (hd : ds.length = n)
      (h : ∀ (i : Nat) d, ds[i]? = some d → Rd P m e ((cs.drop (i * P.cellsOf e)).take (P.cellsOf e)) d) : Rd P m t cs (.agg ds)
  | other {t cs d} (ht : known P t = false) : Rd P m t cs d

theorem Rd.keep {H : Type} {P m m' t cs} {d : DataW H} (h : Rd P m t cs d) (k : Keep [] m m') : Rd P m' t cs d := by
  induction h with
  | bool ht => exact .bool ht
  | int ht hw => exact .int ht hw
  | str ht hs => exact .str ht hs
  | nilptr ht => exact .nilptr ht
  | ptr ht hb hd hc _ ih => exact .ptr ht (k _ (by simp) _ hb) hd hc ih
  | snil ht => exact .snil ht
  | sl ht hb hd hn hl hc _ ih => exact .sl ht (k _ (by simp) _ hb) hd hn hl hc ih
  | struct ht hl hd _ ih => exact .struct ht hl hd ih
  | arr ht hl hd _ ih => exact .arr ht hl hd ih
  | other ht => exact .other ht

/-- A block that is only read is added. -/
theorem Rel.addRo {P : Program} {W : World} {ρ : Ren} {m : Mem} (R : Rel P W.heap.size W ρ m W) {blk off : Nat} {avs : List AV} {vs : List Value} {st : St} (hst : st = .ro ∧ blk < W.heap.size ∨ st = .dead) (hv : VRs ρ avs vs)
    (hc : st = .ro → ∀ (j : Nat) v, vs[j]? = some v → W.cell? ⟨blk, off + j, none⟩ = some v) (ety : TypeId) :
    ∃ b m' ρ', Rel P W.heap.size W ρ' m' W ∧ Sub ρ ρ' ∧ Keep [] m m' ∧ m'.blk b = some ⟨st, avs, ety, []⟩ ∧ ρ' b = some ⟨blk, off, 0, false⟩ := by
  have hρ := R.dom _ m.fresh
  have mono : Sub ρ (upd ρ m.next ⟨blk, off, 0, false⟩) := upd_mono hρ
  have keep : Keep [] m (m.put m.next ⟨st, avs, ety, []⟩) := fun b _ kb hb => by
    rw [Mem.blk_put, if_neg (by rintro rfl; simp [m.fresh] at hb)]; exact hb
  have hnew : ∀ b l, upd ρ m.next ⟨blk, off, 0, false⟩ b = some l → b ≠ m.next → ρ b = some l := fun b l h hb => by
    simp only [upd, if_neg hb] at h; exact h
  have hself : ∀ l, upd ρ m.next ⟨blk, off, 0, false⟩ m.next = some l → l = ⟨blk, off, 0, false⟩ := fun l h => by
    simp only [upd, if_true] at h; exact (Option.some.inj h).symm
  have hst' : st ≠ .own ∧ st ≠ .old := by rcases hst with ⟨rfl, _⟩ | rfl <;> decide
  refine ⟨m.next, _, _, ⟨R.below, R.size, ?_, ?_, ?_, ?_, ?_, ?_⟩, mono, keep, by rw [Mem.blk_put, if_pos rfl], by simp [upd]⟩
  · intro g hg
    obtain ⟨l, h1, h2⟩ := R.gl g hg
    exact ⟨l, mono _ _ h1, h2⟩
  · intro b hb
    rw [Mem.blk_put] at hb
    split at hb
    · simp at hb
    · rename_i hne
      have := R.dom b hb
      simp only [upd, if_neg hne]; exact this
  · intro b k hb hd
    rw [Mem.blk_put] at hb
    split at hb
    · rename_i he
      subst he
      simp at hb; subst hb
      refine ⟨⟨blk, off, 0, false⟩, vs, by simp [upd], hv.mono mono, ?_⟩
      rcases hst with ⟨h1, _⟩ | h1
      · exact hc h1
      · exact absurd h1 hd
    · obtain ⟨l, ws, h1, h2, h3⟩ := R.rd b k hb hd
      exact ⟨l, ws, mono _ _ h1, h2.mono mono, h3⟩
  · intro b k l hb hs hl
    rw [Mem.blk_put] at hb
    split at hb
    · rename_i he
      subst he
      simp at hb; subst hb
      have := hself l hl; subst this
      rcases hst with ⟨_, h2⟩ | h1
      · exact ⟨rfl, h2⟩
      · rw [h1] at hs; cases hs
    · rename_i hne
      exact R.ro b k l hb hs (hnew b l hl hne)
  · intro b k l hb hs hl
    rw [Mem.blk_put] at hb
    split at hb
    · simp at hb; subst hb
      rcases hs with hs | hs
      · exact absurd hs hst'.1
      · exact absurd hs hst'.2
    · rename_i hne
      exact R.own b k l hb hs (hnew b l hl hne)
  · intro b c kb kc lb lc hb hc' hlb hlc hkc hkb hne hbl
    rw [Mem.blk_put] at hb hc'
    split at hb
    · simp at hb; subst hb
      rcases hkb with hs | hs
      · exact absurd hs hst'.1
      · exact absurd hs hst'.2
    · rename_i h1
      split at hc'
      · simp at hc'; subst hc'
        exact absurd hkc hst'.1
      · rename_i h2
        exact R.sep b c kb kc lb lc hb hc' (hnew b lb hlb h1) (hnew c lc hlc h2) hkc hkb hne hbl

def Start {H : Type} (P : Program) (W : World) (m : Mem) (ρ : Ren) (t : TypeId) (cs : List Value) (d : DataW H) : Prop :=
  ∃ m' ρ' avs, Rel P W.heap.size W ρ' m' W ∧ Sub ρ ρ' ∧ Keep [] m m' ∧ VRs ρ' avs cs ∧ Rd P m' t avs d

theorem cell_lt {W : World} {a : Addr} {v : Value} (h : W.cell? a = some v) : a.block < W.heap.size ∧ a.spot = none := by
  unfold World.cell? at h
  split at h
  · rename_i he
    refine ⟨?_, ?_⟩
    · exact (Array.getElem?_eq_some_iff.1 he).1
    · split at h
      · simp at h
      · rename_i hn; cases hs : a.spot <;> simp_all
  · simp at h

theorem Rel.any {H : Type} {P W m ρ t} {cs : List Value} {d : DataW H} (R : Rel P W.heap.size W ρ m W) (hk : known P t = false) : Start P W m ρ t cs d :=
  ⟨m, ρ, List.replicate cs.length .any, R, Sub.refl _, Keep.refl _ _, ⟨by simp, fun i c v h1 h2 => by
    rw [List.getElem?_replicate] at h1; split at h1 <;> simp at h1; subst h1; exact .any _⟩, .other hk⟩

/-- Several readings, one behind the other. -/
theorem start_many {H : Type} {P : Program} {W : World} (T : Nat → TypeId) : ∀ (n : Nat) (css : Nat → List Value) (ds : Nat → DataW H),
    (∀ i, i < n → ∀ m ρ, Rel P W.heap.size W ρ m W → Start P W m ρ (T i) (css i) (ds i)) → ∀ m ρ, Rel P W.heap.size W ρ m W →
    ∃ m' ρ', ∃ avs : Nat → List AV, Rel P W.heap.size W ρ' m' W ∧ Sub ρ ρ' ∧ Keep [] m m' ∧ ∀ i, i < n → VRs ρ' (avs i) (css i) ∧ Rd P m' (T i) (avs i) (ds i)
  | 0, css, ds, h, m, ρ, R => ⟨m, ρ, fun _ => [], R, Sub.refl _, Keep.refl _ _, fun i hi => absurd hi (by omega)⟩
  | n + 1, css, ds, h, m, ρ, R => by
    obtain ⟨m1, ρ1, avs, R1, S1, K1, h1⟩ := start_many T n css ds (fun i hi => h i (by omega)) m ρ R
    obtain ⟨m2, ρ2, av, R2, S2, K2, h2, h3⟩ := h n (by omega) m1 ρ1 R1
    refine ⟨m2, ρ2, fun i => if i = n then av else avs i, R2, S1.trans S2, K1.trans K2, fun i hi => ?_⟩
    by_cases he : i = n
    · subst he; simp only [if_true]; exact ⟨h2, h3⟩
    · simp only [if_neg he]
      obtain ⟨a, b⟩ := h1 i (by omega)
      exact ⟨a.mono S2, b.keep K2⟩

/-- Lists of one length, one behind the other. -/
def catN {α : Type} (f : Nat → List α) : Nat → List α
  | 0 => []
  | n + 1 => catN f n ++ f n
theorem catN_length {α : Type} {s : Nat} {f : Nat → List α} : ∀ {n}, (∀ i, i < n → (f i).length = s) → (catN f n).length = n * s
  | 0, _ => by simp [catN]
  | n + 1, h => by
    have h1 := catN_length (s := s) (f := f) (n := n) (fun i hi => h i (by omega))
    have h2 := h n (by omega)
    simp only [catN, List.length_append, h1, h2, Nat.succ_mul]
theorem catN_get {α : Type} {s : Nat} {f : Nat → List α} : ∀ {n}, (∀ i, i < n → (f i).length = s) → ∀ {i j : Nat}, i < n → j < s → (catN f n)[i * s + j]? = (f i)[j]?
  | 0, _, i, j, hi, _ => absurd hi (by omega)
  | n + 1, h, i, j, hi, hj => by
    have hl := catN_length (s := s) (f := f) (n := n) (fun i hi => h i (by omega))
    simp only [catN]
    by_cases he : i = n
    · subst he
      rw [List.getElem?_append_right (by omega), hl, Nat.add_sub_cancel_left]
    · have hlt : i < n := by omega
      have : i * s + j < n * s := by
        have : (i + 1) * s ≤ n * s := Nat.mul_le_mul_right _ hlt
        rw [Nat.succ_mul] at this; omega
      rw [List.getElem?_append_left (by omega)]
      exact catN_get (fun i hi => h i (by omega)) hlt hj
theorem catN_VRs {ρ : Ren} {f : Nat → List AV} {g : Nat → List Value} : ∀ {n}, (∀ i, i < n → VRs ρ (f i) (g i)) → VRs ρ (catN f n) (catN g n)
  | 0, _ => VRs.nil
  | n + 1, h => VRs.append (catN_VRs fun i hi => h i (by omega)) (h n (by omega))
theorem catN_cut {α : Type} {s : Nat} {cs : List α} : ∀ {n}, n * s ≤ cs.length → catN (fun i => (cs.drop (i * s)).take s) n = cs.take (n * s)
  | 0, _ => by simp [catN]
  | n + 1, h => by
    rw [Nat.succ_mul] at h
    simp only [catN]
    rw [catN_cut (by omega), Nat.succ_mul, List.take_add]
theorem catN_seg {α : Type} {s : Nat} {f : Nat → List α} {n : Nat} (h : ∀ i, i < n → (f i).length = s) {i : Nat} (hi : i < n) : ((catN f n).drop (i * s)).take s = f i := by
  refine List.ext_getElem? fun j => ?_
  rw [List.getElem?_take]
  split
  · rename_i hj
    rw [List.getElem?_drop, catN_get h hi hj]
  · rename_i hj
    rw [List.getElem?_eq_none (by have := h i hi; omega)]

theorem contig_le {P : Program} : ∀ {fs : List Field} {o tot}, contig P o fs = some tot → o ≤ tot
  | [], o, tot, h => by simp [contig] at h; omega
  | f :: fs, o, tot, h => by
    simp only [contig] at h
    split at h
    · have := contig_le h; omega
    · simp at h

theorem struct_cat {P : Program} {ρ : Ren} : ∀ (fs : List Field) (o tot : Nat), contig P o fs = some tot → ∀ (cs : List Value), cs.length = tot → ∀ (avs : Nat → List AV),
    (∀ (i : Nat) f, fs[i]? = some f → VRs ρ (avs i) ((cs.drop f.offset).take (P.cellsOf f.type))) →
    ∃ av : List AV, VRs ρ av (cs.drop o) ∧ ∀ (i : Nat) f, fs[i]? = some f → ∀ pre : List AV, pre.length = o → ((pre ++ av).drop f.offset).take (P.cellsOf f.type) = avs i
  | [], o, tot, h, cs, hl, avs, hv => by
    simp [contig] at h
    refine ⟨[], ?_, fun i f hf => by simp at hf⟩
    rw [List.drop_eq_nil_of_le (by omega)]
    exact VRs.nil
  | f :: fs, o, tot, h, cs, hl, avs, hv => by
    simp only [contig] at h
    split at h
    · rename_i ho
      have hle := contig_le h
      obtain ⟨av, h1, h2⟩ := struct_cat fs _ _ h cs hl (fun i => avs (i + 1)) (fun i g hg => hv (i + 1) g (by simpa using hg))
      have h0 := hv 0 f rfl
      rw [ho] at h0
      have hl0 : (avs 0).length = P.cellsOf f.type := by rw [h0.1]; simp; omega
      refine ⟨avs 0 ++ av, ?_, ?_⟩
      · have : cs.drop o = (cs.drop o).take (P.cellsOf f.type) ++ cs.drop (o + P.cellsOf f.type) := by
          rw [← List.drop_drop, List.take_append_drop]
        rw [this]
        exact VRs.append h0 h1
      · intro i g hg pre hpre
        cases i with
        | zero =>
          simp at hg; subst hg
          rw [ho, ← hpre, List.drop_left, ← hl0, List.take_left]
        | succ i =>
          rw [← List.append_assoc]
          exact h2 i g (by simpa using hg) _ (by simp [hpre, hl0])
    · simp at h

theorem wf_of_trod_int {H : Type} {enc : TypeId × Value → H} {P : Program} {W : World} {base : Nat} {sp : Nat → Bool} {held : Bool} {t : TypeId} {k : IntKind} {n : Nat} {cs : List Value} {x : DataW H × List MemPlace} (ht : P.underlying t = some (.int k))
    (h : DataW.trod enc P W base sp held (n + 1) t cs = some x) : ∃ z, cs = [.int k z] ∧ x = (.lit (.int k z), []) ∧ (Lit.int k z).wf = true := by
  unfold DataW.trod at h
  rw [ht] at h
  split at h <;> simp_all

theorem trod_bool {H : Type} {enc : TypeId × Value → H} {P : Program} {W : World} {base : Nat} {sp : Nat → Bool} {held : Bool} {t : TypeId} {n : Nat} {cs : List Value} {x : DataW H × List MemPlace} (ht : P.underlying t = some .bool)
    (h : DataW.trod enc P W base sp held (n + 1) t cs = some x) : ∃ z, cs = [.bool z] ∧ x = (.lit (.bool z), []) := by
  unfold DataW.trod at h
  rw [ht] at h
  split at h <;> simp_all
theorem trod_str {H : Type} {enc : TypeId × Value → H} {P : Program} {W : World} {base : Nat} {sp : Nat → Bool} {held : Bool} {t : TypeId} {n : Nat} {cs : List Value} {x : DataW H × List MemPlace} (ht : P.underlying t = some .string)
    (h : DataW.trod enc P W base sp held (n + 1) t cs = some x) : ∃ z, cs = [.string z] ∧ x = (.lit (.string z.data.toList), []) ∧ z.size ≤ maxLen := by
  unfold DataW.trod at h
  rw [ht] at h
  split at h <;> simp_all
theorem trod_pointer {H : Type} {enc : TypeId × Value → H} {P : Program} {W : World} {base : Nat} {sp : Nat → Bool} {held : Bool} {t e : TypeId} {n : Nat} {cs : List Value} {x : DataW H × List MemPlace} (ht : P.underlying t = some (.pointer e))
    (h : DataW.trod enc P W base sp held (n + 1) t cs = some x) : (cs = [.pointer none] ∧ x.1 = .nil) ∨
      ∃ a cs' y, cs = [.pointer (some a)] ∧ W.cells? base a (P.cellsOf e) = some cs' ∧ DataW.trod enc P W base sp held n e cs' = some y ∧ x.1 = .ptr y.1 := by
  unfold DataW.trod at h
  rw [ht] at h
  split at h
  case h_5 => simp at h; exact .inl ⟨rfl, by rw [← h]⟩
  case h_6 =>
    rename_i e' a he
    simp at he; subst he
    simp only [Option.map_eq_some_iff, Option.bind_eq_some_iff] at h
    obtain ⟨y, ⟨cs', h1, h2⟩, h3⟩ := h
    exact .inr ⟨a, cs', y, rfl, h1, h2, by rw [← h3]⟩
  all_goals simp_all

theorem add_none (b o j : Nat) : (⟨b, o, none⟩ : Addr).add j = ⟨b, o + j, none⟩ := by
  unfold Addr.add; split <;> simp_all

theorem start_trod {H : Type} {enc : TypeId × Value → H} {P : Program} {W : World} {held : Bool} : ∀ (n : Nat) (t : TypeId) (cs : List Value) (x : DataW H × List MemPlace), DataW.trod enc P W 0 (fun _ => true) held n t cs = some x →
    ∀ m ρ, Rel P W.heap.size W ρ m W → Start P W m ρ t cs x.1
  | 0, t, cs, x, h => by simp [DataW.trod] at h
  | n + 1, t, cs, x, h => by
    intro m ρ R
    have ih := fun t cs x h => start_trod (enc := enc) (P := P) (W := W) (held := held) n t cs x h
    cases hk : known P t with
    | false => exact R.any hk
    | true =>
    unfold known at hk
    split at hk
    · rename_i hu
      obtain ⟨z, rfl, rfl⟩ := trod_bool hu h
      exact ⟨m, ρ, [.bool z], R, Sub.refl _, Keep.refl _ _, VRs.cons (.bool z) VRs.nil, .bool hu⟩
    · rename_i k hu
      obtain ⟨z, rfl, rfl, hw⟩ := wf_of_trod_int hu h
      exact ⟨m, ρ, [.int k z], R, Sub.refl _, Keep.refl _ _, VRs.cons (.int k z) VRs.nil, .int hu hw⟩
    · rename_i hu
      obtain ⟨z, rfl, rfl, hw⟩ := trod_str hu h
      exact ⟨m, ρ, [.str z.data.toList], R, Sub.refl _, Keep.refl _ _, VRs.cons (by have := VR.str (ρ := ρ) z.data.toList; simpa using this) VRs.nil, .str hu (by rw [Array.length_toList]; exact hw)⟩
    · rename_i e hu
      rcases trod_pointer hu h with ⟨rfl, hx⟩ | ⟨a, cs', y, rfl, h1, h2, hx⟩
      · rw [hx]
        exact ⟨m, ρ, [.nilptr], R, Sub.refl _, Keep.refl _ _, VRs.cons .nilptr VRs.nil, .nilptr hu⟩
      · rw [hx]
        obtain ⟨m1, ρ1, avs, R1, S1, K1, V1, D1⟩ := ih e cs' y h2 m ρ R
        obtain ⟨_, hl, hc⟩ := World.cells?_some h1
        have hk0 : 0 < P.cellsOf e := by simpa using hk
        · have hpos : 0 < cs'.length := by omega
          have h0 := hc 0 (by omega)
          rw [List.getElem?_eq_getElem hpos] at h0
          have hcl := cell_lt h0
          obtain ⟨ab, ao, asp⟩ := a
          have hsp : asp = none ∧ ab < W.heap.size := by
            simp [Addr.add] at hcl
            exact ⟨hcl.2, hcl.1⟩
          obtain ⟨rfl, hlt⟩ := hsp
          obtain ⟨b, m2, ρ2, R2, S2, K2, hb, hr⟩ := R1.addRo (blk := ab) (off := ao) (st := .ro) (.inl ⟨rfl, hlt⟩) V1 (fun _ j v hj => by
            have hj' : j < cs'.length := by
              by_cases hj2 : j < cs'.length
              · exact hj2
              · rw [List.getElem?_eq_none (by omega)] at hj; cases hj
            have := hc j (by omega); rw [add_none] at this; rw [this]; exact hj) e
          refine ⟨m2, ρ2, [.ptr b 0], R2, S1.trans S2, K1.trans K2, VRs.cons ?_ VRs.nil, ?_⟩
          · have := VR.ptr (ρ := ρ2) (o := 0) hr
            simpa using this
          · exact .ptr hu hb (.inl (by simp)) (fun i c hi => by simpa using hi) (D1.keep K2)
    · rename_i e hu
      have hpos : 0 < P.cellsOf e := by simpa using hk
      rcases DataW.trod_slice hu h with ⟨rfl, rfl⟩ | ⟨a, len, cap, elems, rest, n', hn', rfl, rfl, _, hlc, hcap, hel, hget, hrest, _⟩
      · exact ⟨m, ρ, [.snil], R, Sub.refl _, Keep.refl _ _, VRs.cons .snil VRs.nil, .snil hu⟩
      · have hn'' : n' = n := by omega
        subst hn''
        have hcells : ∀ i, i < len → ∃ cs', W.cells? 0 (a.add (i * P.cellsOf e)) (P.cellsOf e) = some cs' ∧ DataW.trod enc P W 0 (fun _ => true) held n' e cs' = some (elems.getD i (.nil, [])) := fun i hi => by
          have := hget i hi
          rw [List.getElem?_eq_getElem (by omega)] at this
          obtain ⟨cs', h1, h2⟩ := Option.bind_eq_some_iff.1 this
          exact ⟨cs', h1, by rw [h2]; simp [List.getD, List.getElem?_eq_getElem (show i < elems.length by omega)]⟩
        have css : ∀ i, i < len → (W.cells? 0 (a.add (i * P.cellsOf e)) (P.cellsOf e)) = some ((W.cells? 0 (a.add (i * P.cellsOf e)) (P.cellsOf e)).getD []) := fun i hi => by
          obtain ⟨cs', h1, _⟩ := hcells i hi
          rw [h1]; rfl
        obtain ⟨m1, ρ1, avs, R1, S1, K1, h1⟩ := start_many (P := P) (W := W) (fun _ => e) len (fun i => (W.cells? 0 (a.add (i * P.cellsOf e)) (P.cellsOf e)).getD []) (fun i => (elems.getD i (.nil, [])).1) (fun i hi m ρ R => by
          obtain ⟨cs', h1, h2⟩ := hcells i hi
          simp only [h1, Option.getD_some]
          exact ih e cs' _ h2 m ρ R) m ρ R
        have hlen : ∀ i, i < len → (avs i).length = P.cellsOf e := fun i hi => by
          rw [(h1 i hi).1.1, (World.cells?_some (css i hi)).2.1]
        have hds : ∀ (i : Nat) d, (elems.map (·.1))[i]? = some d → i < len ∧ d = (elems.getD i (.nil, [])).1 := fun i d hd => by
          rw [List.getElem?_map] at hd
          by_cases hi : i < elems.length
          · rw [List.getElem?_eq_getElem hi] at hd
            simp at hd
            exact ⟨by omega, by simp [List.getD, List.getElem?_eq_getElem hi, hd]⟩
          · rw [List.getElem?_eq_none (by omega)] at hd; simp at hd
        by_cases hc0 : cap = 0
        · have hl0 : len = 0 := by omega
          obtain ⟨b, m2, ρ2, R2, S2, K2, hb, hr⟩ := R1.addRo (blk := 0) (off := 0) (avs := []) (vs := []) (st := .dead) (.inr rfl) VRs.nil (fun h => by cases h) e
          refine ⟨m2, ρ2, [.sl b 0 0 (P.cellsOf e)], R2, S1.trans S2, K1.trans K2, VRs.cons ?_ VRs.nil, ?_⟩
          · rw [hl0, hc0]; exact .sl0 hr _
          · exact .sl (css := avs) hu hb (.inr rfl) (by simp [hel, hl0]) (fun i hi => absurd hi (by omega)) (fun i j c hi => absurd hi (by omega)) (fun i d hd => by
              have := (hds i d hd).1; omega)
        · have hfirst : ∃ v, W.cell? (a.add 0) = some v := by
            by_cases hl0 : 0 < len
            · have h2 := (World.cells?_some (css 0 hl0)).2
              have h3 := h2.2 0 hpos
              rw [List.getElem?_eq_getElem (by omega)] at h3
              simp only [Nat.zero_mul] at h3
              exact ⟨_, by simpa [Addr.add] using h3⟩
            · have hr := hrest rfl
              have h2 := hr.2 0 (by omega)
              rw [List.getElem?_eq_getElem (by omega)] at h2
              obtain ⟨cs', h3, _⟩ := Option.bind_eq_some_iff.1 h2
              obtain ⟨_, h4, h5⟩ := World.cells?_some h3
              have h6 := h5 0 hpos
              rw [List.getElem?_eq_getElem (by omega)] at h6
              have : len + 0 = 0 := by omega
              rw [this, Nat.zero_mul] at h6
              exact ⟨_, by simpa [Addr.add] using h6⟩
          obtain ⟨v0, hv0⟩ := hfirst
          have hcl := cell_lt hv0
          obtain ⟨ab, ao, asp⟩ := a
          have hsp : asp = none ∧ ab < W.heap.size := by
            simp [Addr.add] at hcl
            exact ⟨hcl.2, hcl.1⟩
          obtain ⟨rfl, hlt⟩ := hsp
          obtain ⟨b, m2, ρ2, R2, S2, K2, hb, hr⟩ := R1.addRo (blk := ab) (off := ao) (avs := catN avs len) (st := .ro) (.inl ⟨rfl, hlt⟩) (catN_VRs fun i hi => (h1 i hi).1) (fun _ j v hj => by
            have hL := catN_length (s := P.cellsOf e) (f := fun i => (W.cells? 0 ((⟨ab, ao, none⟩ : Addr).add (i * P.cellsOf e)) (P.cellsOf e)).getD []) (n := len) (fun i hi => (World.cells?_some (css i hi)).2.1)
            have hj' : j < len * P.cellsOf e := by
              by_cases hj2 : j < len * P.cellsOf e
              · exact hj2
              · rw [List.getElem?_eq_none (by omega)] at hj; cases hj
            have hq : j / P.cellsOf e < len := (Nat.div_lt_iff_lt_mul hpos).2 hj'
            have hm := Nat.mod_lt j hpos
            have hdj : j / P.cellsOf e * P.cellsOf e + j % P.cellsOf e = j := by rw [Nat.mul_comm]; exact Nat.div_add_mod j _
            rw [← hdj, catN_get (fun i hi => (World.cells?_some (css i hi)).2.1) hq hm] at hj
            have h3 := (World.cells?_some (css _ hq)).2.2 _ hm
            rw [hj] at h3
            rw [add_none, add_none] at h3
            rw [← h3]
            congr 2
            omega) e
          refine ⟨m2, ρ2, [.sl b 0 len (P.cellsOf e)], R2, S1.trans S2, K1.trans K2, VRs.cons ?_ VRs.nil, ?_⟩
          · have := VR.sl (ρ := ρ2) (o := 0) (n := len) (s := P.cellsOf e) (cap := cap) hr hlc (fun h => by cases h)
            simpa using this
          · refine .sl (css := avs) hu hb (.inl (by simp)) (by simp [hel]) hlen (fun i j c hi hj => ?_) (fun i d hd => ?_)
            · have hj' : j < P.cellsOf e := by
                have := hlen i hi
                by_cases hj2 : j < P.cellsOf e
                · exact hj2
                · rw [List.getElem?_eq_none (by omega)] at hj; cases hj
              simp only [Nat.zero_add]
              rw [catN_get hlen hi hj']; exact hj
            · obtain ⟨hi, rfl⟩ := hds i d hd
              exact (h1 i hi).2.keep K2
    · rename_i fs hu
      obtain ⟨xs, n', hn', rfl, hl, hxs, hget⟩ := DataW.trod_struct hu h
      have hn'' : n' = n := by omega
      subst hn''
      have hcg : contig P 0 fs.toList = some (P.cellsOf t) := by simpa using hk
      have hget' : ∀ (i : Nat) (f : Field), fs[i]? = some f → DataW.trod enc P W 0 (fun _ => true) held n' f.type ((cs.drop f.offset).take (P.cellsOf f.type)) = some (xs.getD i (.nil, [])) := fun i f hf => by
        rw [hget i f hf]
        have hi : i < xs.length := by rw [hxs]; exact (Array.getElem?_eq_some_iff.1 hf).1
        simp [List.getD, List.getElem?_eq_getElem hi]
      obtain ⟨m1, ρ1, avs, R1, S1, K1, h1⟩ := start_many (P := P) (W := W) (fun i => ((fs[i]?).map Field.type).getD 0) fs.size (fun i => ((fs[i]?).map fun f => (cs.drop f.offset).take (P.cellsOf f.type)).getD []) (fun i => (xs.getD i (.nil, [])).1) (fun i hi m ρ R => by
          have hf : fs[i]? = some fs[i] := by simp [hi]
          simp only [hf, Option.map_some, Option.getD_some]
          exact ih _ _ _ (hget' i _ hf) m ρ R) m ρ R
      have h1' : ∀ (i : Nat) (f : Field), fs[i]? = some f → VRs ρ1 (avs i) ((cs.drop f.offset).take (P.cellsOf f.type)) ∧ Rd P m1 f.type (avs i) (xs.getD i (.nil, [])).1 := fun i f hf => by
        have := h1 i (Array.getElem?_eq_some_iff.1 hf).1
        simp only [hf, Option.map_some, Option.getD_some] at this
        exact this
      obtain ⟨av, h2, h3⟩ := struct_cat fs.toList 0 _ hcg cs hl avs (fun i f hf => (h1' i f (by simpa using hf)).1)
      simp only [List.drop_zero] at h2
      refine ⟨m1, ρ1, av, R1, S1, K1, h2, .struct hu (by rw [h2.1, hl]) (by simp [hxs]) fun i f d hf hd => ?_⟩
      have h4 := h3 i f (by simpa using hf) [] rfl
      simp only [List.nil_append] at h4
      rw [h4]
      rw [List.getElem?_map] at hd
      have hi : i < xs.length := by rw [hxs]; exact (Array.getElem?_eq_some_iff.1 hf).1
      rw [List.getElem?_eq_getElem hi] at hd
      simp at hd
      have h5 := (h1' i f hf).2
      simp only [List.getD, List.getElem?_eq_getElem hi, Option.getD_some] at h5
      rw [hd] at h5
      exact h5
    · rename_i n0 e hu
      have hcg : n0 * P.cellsOf e = P.cellsOf t := by simpa using hk
      obtain ⟨xs, n', hn', rfl, hl, hxs, hget⟩ := DataW.trod_array hu h
      have hn'' : n' = n := by omega
      subst hn''
      have hget' : ∀ (i : Nat), i < n0 → DataW.trod enc P W 0 (fun _ => true) held n' e ((cs.drop (i * P.cellsOf e)).take (P.cellsOf e)) = some (xs.getD i (.nil, [])) := fun i hi => by
        rw [hget i hi]
        simp [List.getD, List.getElem?_eq_getElem (show i < xs.length by omega)]
      obtain ⟨m1, ρ1, avs, R1, S1, K1, h1⟩ := start_many (P := P) (W := W) (fun _ => e) n0 (fun i => (cs.drop (i * P.cellsOf e)).take (P.cellsOf e)) (fun i => (xs.getD i (.nil, [])).1) (fun i hi m ρ R => ih _ _ _ (hget' i hi) m ρ R) m ρ R
      have hseg : ∀ i, i < n0 → ((cs.drop (i * P.cellsOf e)).take (P.cellsOf e)).length = P.cellsOf e := fun i hi => by
        have : (i + 1) * P.cellsOf e ≤ n0 * P.cellsOf e := Nat.mul_le_mul_right _ hi
        rw [Nat.succ_mul] at this
        simp; omega
      have hlen : ∀ i, i < n0 → (avs i).length = P.cellsOf e := fun i hi => by rw [(h1 i hi).1.1, hseg i hi]
      have h2 : VRs ρ1 (catN avs n0) cs := by
        have := catN_VRs (fun i hi => (h1 i hi).1) (n := n0)
        rw [catN_cut (by omega), List.take_of_length_le (by omega)] at this
        exact this
      refine ⟨m1, ρ1, catN avs n0, R1, S1, K1, h2, .arr hu (by rw [h2.1, hl]) (by simp [hxs]) fun i d hd => ?_⟩
      rw [List.getElem?_map] at hd
      by_cases hi : i < xs.length
      · rw [catN_seg hlen (by omega)]
        rw [List.getElem?_eq_getElem hi] at hd
        simp at hd
        have h5 := (h1 i (by omega)).2
        simp only [List.getD, List.getElem?_eq_getElem hi, Option.getD_some] at h5
        rw [hd] at h5
        exact h5
      · rw [List.getElem?_eq_none (by omega)] at hd; simp at hd
    · simp at hk

end Go.Proofs.Ytchhknkflhikmaa.Am
