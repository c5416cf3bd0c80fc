/- AM: what came in: values made of a row's reading. -/
import Derived.Test.YtdchdlabdokjnaaAm13
import Derived.Carry
import Derived.ChangeArms
import Derived.OpenShut
import Derived.ChangeOld
import Derived.DataReads
namespace Go.Proofs.Ytdchdlabdokjnaa.Am
set_option linter.unusedSectionVars false
open Go
open Go.RowKit (Below)
set_option linter.unusedVariables false
set_option linter.unusedSimpArgs false
variable [Tab]

/-- Do the fields lie one behind the other? -/
def contig (P : Program) : Nat → List Field → Option Nat
  | o, [] => some o
  | o, f :: fs => if f.offset = o then contig P (o + P.cellsOf f.type) fs else none

def known (P : Program) (t : TypeId) : Bool :=
  match P.underlying t with
  | some .bool | some (.int _) | some .string => true
  | some (.pointer e) | some (.slice e) => decide (0 < P.cellsOf e)
  | some (.struct fs) => contig P 0 fs.toList == some (P.cellsOf t)
  | some (.array n e) => decide (n * P.cellsOf e = P.cellsOf t)
  | _ => false

/-- The cells cs, of type t, read as d. -/
inductive Rd {H : Type} (P : Program) : TypeId → List AV → DataW H → Prop
  | bool {t b} (ht : P.underlying t = some .bool) : Rd P t [.bool b] (.lit (.bool b))
  | int {t k n} (ht : P.underlying t = some (.int k)) (hw : (Lit.int k n).wf = true) : Rd P t [.int k n] (.lit (.int k n))
  | str {t s} (ht : P.underlying t = some .string) (hs : s.length ≤ maxLen) : Rd P t [.str s] (.lit (.string s))
  | nilptr {t e} (ht : P.underlying t = some (.pointer e)) : Rd P t [.nilptr] .nil
  | ptr {t e cs d} (ht : P.underlying t = some (.pointer e)) (h : Rd P e cs d) : Rd P t [.rp cs 0] (.ptr d)
  | snil {t e} (ht : P.underlying t = some (.slice e)) : Rd P t [.rs (P.cellsOf e) []] .nil
  | sl {t e ds sp} {es : List (List AV)} (ht : P.underlying t = some (.slice e)) (hn : es.length = ds.length) (hl : ∀ c ∈ es, c.length = P.cellsOf e)
      (h : ∀ (i : Nat) c d, es[i]? = some c → ds[i]? = some d → Rd P e c d) : Rd P t [.rs (P.cellsOf e) es] (.slice ds sp)
  | struct {t fs cs ds} (ht : P.underlying t = some (.struct fs)) (hl : cs.length = P.cellsOf t) (hd : ds.length = fs.size)
      (h : ∀ (i : Nat) f d, fs[i]? = some f → ds[i]? = some d → Rd P f.type ((cs.drop f.offset).take (P.cellsOf f.type)) d) : Rd P t cs (.agg ds)
  | arr {t n e cs ds} (ht : P.underlying t = some (.array n e)) (hl : cs.length = P.cellsOf t) (hd : ds.length = n)
      (h : ∀ (i : Nat) d, ds[i]? = some d → Rd P e ((cs.drop (i * P.cellsOf e)).take (P.cellsOf e)) d) : Rd P t cs (.agg ds)
  | other {t cs d} (ht : known P t = false) : Rd P t cs d

/-- At the beginning nothing that lies there is written. -/
def ren0 (P : Program) (W : World) : Ren := ⟨fun b => if b < P.globals.size then some ⟨b, 0, 0, false⟩ else none, fun a o => W.cell? ⟨a, o, none⟩⟩

def Start {H : Type} (P : Program) (W : World) (t : TypeId) (cs : List Value) (d : DataW H) : Prop := ∃ avs, VRs (ren0 P W) avs cs ∧ Rd P t avs d

theorem cell_lt {W : World} {a : Addr} {v : Value} (h : W.cell? a = some v) : a.block < W.heap.size ∧ a.spot = none := by
  unfold World.cell? at h
  split at h
  · rename_i he
    refine ⟨?_, ?_⟩
    · exact (Array.getElem?_eq_some_iff.1 he).1
    · split at h
      · simp at h
      · rename_i hn; cases hs : a.spot <;> simp_all
  · simp at h

/-- Several readings, one behind the other. -/
theorem start_many {H : Type} {P : Program} {W : World} (T : Nat → TypeId) (n : Nat) (css : Nat → List Value) (ds : Nat → DataW H) (h : ∀ i, i < n → Start P W (T i) (css i) (ds i)) :
    ∃ avs : Nat → List AV, ∀ i, i < n → VRs (ren0 P W) (avs i) (css i) ∧ Rd P (T i) (avs i) (ds i) := by
  classical
  refine ⟨fun i => if hi : i < n then (h i hi).choose else [], fun i hi => ?_⟩
  simp only [dif_pos hi]
  exact (h i hi).choose_spec

/-- Lists of one length, one behind the other. -/
def catN {α : Type} (f : Nat → List α) : Nat → List α
  | 0 => []
  | n + 1 => catN f n ++ f n
theorem catN_length {α : Type} {s : Nat} {f : Nat → List α} : ∀ {n}, (∀ i, i < n → (f i).length = s) → (catN f n).length = n * s
  | 0, _ => by simp [catN]
  | n + 1, h => by
    have h1 := catN_length (s := s) (f := f) (n := n) (fun i hi => h i (by omega))
    have h2 := h n (by omega)
    simp only [catN, List.length_append, h1, h2, Nat.succ_mul]
theorem catN_get {α : Type} {s : Nat} {f : Nat → List α} : ∀ {n}, (∀ i, i < n → (f i).length = s) → ∀ {i j : Nat}, i < n → j < s → (catN f n)[i * s + j]? = (f i)[j]?
  | 0, _, i, j, hi, _ => absurd hi (by omega)
  | n + 1, h, i, j, hi, hj => by
    have hl := catN_length (s := s) (f := f) (n := n) (fun i hi => h i (by omega))
    simp only [catN]
    by_cases he : i = n
    · subst he
      rw [List.getElem?_append_right (by omega), hl, Nat.add_sub_cancel_left]
    · have hlt : i < n := by omega
      have : i * s + j < n * s := by
        have : (i + 1) * s ≤ n * s := Nat.mul_le_mul_right _ hlt
        rw [Nat.succ_mul] at this; omega
      rw [List.getElem?_append_left (by omega)]
      exact catN_get (fun i hi => h i (by omega)) hlt hj
theorem catN_VRs {ρ : Ren} {f : Nat → List AV} {g : Nat → List Value} : ∀ {n}, (∀ i, i < n → VRs ρ (f i) (g i)) → VRs ρ (catN f n) (catN g n)
  | 0, _ => VRs.nil
  | n + 1, h => VRs.append (catN_VRs fun i hi => h i (by omega)) (h n (by omega))
theorem catN_cut {α : Type} {s : Nat} {cs : List α} : ∀ {n}, n * s ≤ cs.length → catN (fun i => (cs.drop (i * s)).take s) n = cs.take (n * s)
  | 0, _ => by simp [catN]
  | n + 1, h => by
    rw [Nat.succ_mul] at h
    simp only [catN]
    rw [catN_cut (by omega), Nat.succ_mul, List.take_add]
theorem catN_seg {α : Type} {s : Nat} {f : Nat → List α} {n : Nat} (h : ∀ i, i < n → (f i).length = s) {i : Nat} (hi : i < n) : ((catN f n).drop (i * s)).take s = f i := by
  refine List.ext_getElem? fun j => ?_
  rw [List.getElem?_take]
  split
  · rename_i hj
    rw [List.getElem?_drop, catN_get h hi hj]
  · rename_i hj
    rw [List.getElem?_eq_none (by have := h i hi; omega)]

theorem contig_le {P : Program} : ∀ {fs : List Field} {o tot}, contig P o fs = some tot → o ≤ tot
  | [], o, tot, h => by simp [contig] at h; omega
  | f :: fs, o, tot, h => by
    simp only [contig] at h
    split at h
    · have := contig_le h; omega
    · simp at h

theorem struct_cat {P : Program} {ρ : Ren} : ∀ (fs : List Field) (o tot : Nat), contig P o fs = some tot → ∀ (cs : List Value), cs.length = tot → ∀ (avs : Nat → List AV),
    (∀ (i : Nat) f, fs[i]? = some f → VRs ρ (avs i) ((cs.drop f.offset).take (P.cellsOf f.type))) →
    ∃ av : List AV, VRs ρ av (cs.drop o) ∧ ∀ (i : Nat) f, fs[i]? = some f → ∀ pre : List AV, pre.length = o → ((pre ++ av).drop f.offset).take (P.cellsOf f.type) = avs i
  | [], o, tot, h, cs, hl, avs, hv => by
    simp [contig] at h
    refine ⟨[], ?_, fun i f hf => by simp at hf⟩
    rw [List.drop_eq_nil_of_le (by omega)]
    exact VRs.nil
  | f :: fs, o, tot, h, cs, hl, avs, hv => by
    simp only [contig] at h
    split at h
    · rename_i ho
      have hle := contig_le h
      obtain ⟨av, h1, h2⟩ := struct_cat fs _ _ h cs hl (fun i => avs (i + 1)) (fun i g hg => hv (i + 1) g (by simpa using hg))
      have h0 := hv 0 f rfl
      rw [ho] at h0
      have hl0 : (avs 0).length = P.cellsOf f.type := by rw [h0.1]; simp; omega
      refine ⟨avs 0 ++ av, ?_, ?_⟩
      · have : cs.drop o = (cs.drop o).take (P.cellsOf f.type) ++ cs.drop (o + P.cellsOf f.type) := by
          rw [← List.drop_drop, List.take_append_drop]
        rw [this]
        exact VRs.append h0 h1
      · intro i g hg pre hpre
        cases i with
        | zero =>
          simp at hg; subst hg
          rw [ho, ← hpre, List.drop_left, ← hl0, List.take_left]
        | succ i =>
          rw [← List.append_assoc]
          exact h2 i g (by simpa using hg) _ (by simp [hpre, hl0])
    · simp at h

theorem wf_of_trod_int {H : Type} {enc : TypeId × Value → H} {P : Program} {W : World} {base : Nat} {sp : Nat → Bool} {held : Bool} {t : TypeId} {k : IntKind} {n : Nat} {cs : List Value} {x : DataW H × List MemPlace} (ht : P.underlying t = some (.int k))
    (h : DataW.trod enc P W base sp held (n + 1) t cs = some x) : ∃ z, cs = [.int k z] ∧ x = (.lit (.int k z), []) ∧ (Lit.int k z).wf = true := by
  unfold DataW.trod at h
  rw [ht] at h
  split at h <;> simp_all

theorem trod_bool {H : Type} {enc : TypeId × Value → H} {P : Program} {W : World} {base : Nat} {sp : Nat → Bool} {held : Bool} {t : TypeId} {n : Nat} {cs : List Value} {x : DataW H × List MemPlace} (ht : P.underlying t = some .bool)
    (h : DataW.trod enc P W base sp held (n + 1) t cs = some x) : ∃ z, cs = [.bool z] ∧ x = (.lit (.bool z), []) := by
  unfold DataW.trod at h
  rw [ht] at h
  split at h <;> simp_all
theorem trod_str {H : Type} {enc : TypeId × Value → H} {P : Program} {W : World} {base : Nat} {sp : Nat → Bool} {held : Bool} {t : TypeId} {n : Nat} {cs : List Value} {x : DataW H × List MemPlace} (ht : P.underlying t = some .string)
    (h : DataW.trod enc P W base sp held (n + 1) t cs = some x) : ∃ z, cs = [.string z] ∧ x = (.lit (.string z.data.toList), []) ∧ z.size ≤ maxLen := by
  unfold DataW.trod at h
  rw [ht] at h
  split at h <;> simp_all
theorem trod_pointer {H : Type} {enc : TypeId × Value → H} {P : Program} {W : World} {base : Nat} {sp : Nat → Bool} {held : Bool} {t e : TypeId} {n : Nat} {cs : List Value} {x : DataW H × List MemPlace} (ht : P.underlying t = some (.pointer e))
    (h : DataW.trod enc P W base sp held (n + 1) t cs = some x) : (cs = [.pointer none] ∧ x.1 = .nil) ∨
      ∃ a cs' y, cs = [.pointer (some a)] ∧ W.cells? base a (P.cellsOf e) = some cs' ∧ DataW.trod enc P W base sp held n e cs' = some y ∧ x.1 = .ptr y.1 := by
  unfold DataW.trod at h
  rw [ht] at h
  split at h
  case h_5 => simp at h; exact .inl ⟨rfl, by rw [← h]⟩
  case h_6 =>
    rename_i e' a he
    simp at he; subst he
    simp only [Option.map_eq_some_iff, Option.bind_eq_some_iff] at h
    obtain ⟨y, ⟨cs', h1, h2⟩, h3⟩ := h
    exact .inr ⟨a, cs', y, rfl, h1, h2, by rw [← h3]⟩
  all_goals simp_all

theorem add_none (b o j : Nat) : (⟨b, o, none⟩ : Addr).add j = ⟨b, o + j, none⟩ := by
  unfold Addr.add; split <;> simp_all

theorem start_trod {H : Type} {enc : TypeId × Value → H} {P : Program} {W : World} {held : Bool} : ∀ (n : Nat) (t : TypeId) (cs : List Value) (x : DataW H × List MemPlace), DataW.trod enc P W 0 (fun _ => true) held n t cs = some x →
    Start P W t cs x.1
  | 0, t, cs, x, h => by simp [DataW.trod] at h
  | n + 1, t, cs, x, h => by
    have ih := fun t cs x h => start_trod (enc := enc) (P := P) (W := W) (held := held) n t cs x h
    cases hk : known P t with
    | false =>
      exact ⟨List.replicate cs.length .any, ⟨by simp, fun i c v h1 h2 => by
        rw [List.getElem?_replicate] at h1; split at h1 <;> simp at h1; subst h1; exact .any _⟩, .other hk⟩
    | true =>
    unfold known at hk
    split at hk
    · rename_i hu
      obtain ⟨z, rfl, rfl⟩ := trod_bool hu h
      exact ⟨[.bool z], VRs.cons (.bool z) VRs.nil, .bool hu⟩
    · rename_i k hu
      obtain ⟨z, rfl, rfl, hw⟩ := wf_of_trod_int hu h
      exact ⟨[.int k z], VRs.cons (.int k z) VRs.nil, .int hu hw⟩
    · rename_i hu
      obtain ⟨z, rfl, rfl, hw⟩ := trod_str hu h
      exact ⟨[.str z.data.toList], VRs.cons (by have := VR.str (ρ := ren0 P W) z.data.toList; simpa using this) VRs.nil, .str hu (by rw [Array.length_toList]; exact hw)⟩
    · rename_i e hu
      rcases trod_pointer hu h with ⟨rfl, hx⟩ | ⟨a, cs', y, rfl, h1, h2, hx⟩
      · rw [hx]
        exact ⟨[.nilptr], VRs.cons .nilptr VRs.nil, .nilptr hu⟩
      · rw [hx]
        obtain ⟨avs, V1, D1⟩ := ih e cs' y h2
        obtain ⟨_, hl, hc⟩ := World.cells?_some h1
        have hk0 : 0 < P.cellsOf e := by simpa using hk
        have hpos : 0 < cs'.length := by omega
        have h0 := hc 0 (by omega)
        rw [List.getElem?_eq_getElem hpos] at h0
        have hcl := cell_lt h0
        obtain ⟨ab, ao, asp⟩ := a
        have hsp : asp = none ∧ ab < W.heap.size := by
          simp [Addr.add] at hcl
          exact ⟨hcl.2, hcl.1⟩
        obtain ⟨rfl, hlt⟩ := hsp
        refine ⟨[.rp avs 0], VRs.cons ?_ VRs.nil, .ptr hu D1⟩
        have hal : avs.length = cs'.length := V1.1
        have := VR.rp (ρ := ren0 P W) (cs := avs) (o := 0) (blk := ab) (off := ao) (fun j => cs'.getD j undef) (fun j c hj => by
          have hj' : j < cs'.length := by have := (List.getElem?_eq_some_iff.1 hj).1; omega
          refine V1.2 j c _ hj ?_
          simp [List.getD, List.getElem?_eq_getElem hj']) (fun j hj => by
          have hj' : j < cs'.length := by omega
          have := hc j (by omega); rw [add_none] at this
          show W.cell? _ = _
          rw [this, List.getElem?_eq_getElem hj']; simp [List.getD, List.getElem?_eq_getElem hj'])
        exact this
    · rename_i e hu
      have hpos : 0 < P.cellsOf e := by simpa using hk
      rcases DataW.trod_slice hu h with ⟨rfl, rfl⟩ | ⟨a, len, cap, elems, rest, n', hn', rfl, rfl, _, hlc, hcap, hel, hget, hrest, _⟩
      · exact ⟨[.rs (P.cellsOf e) []], VRs.cons (.rs0 _ _ _) VRs.nil, .snil hu⟩
      · have hn'' : n' = n := by omega
        subst hn''
        have hcells : ∀ i, i < len → ∃ cs', W.cells? 0 (a.add (i * P.cellsOf e)) (P.cellsOf e) = some cs' ∧ DataW.trod enc P W 0 (fun _ => true) held n' e cs' = some (elems.getD i (.nil, [])) := fun i hi => by
          have := hget i hi
          rw [List.getElem?_eq_getElem (by omega)] at this
          obtain ⟨cs', h1, h2⟩ := Option.bind_eq_some_iff.1 this
          exact ⟨cs', h1, by rw [h2]; simp [List.getD, List.getElem?_eq_getElem (show i < elems.length by omega)]⟩
        have css : ∀ i, i < len → (W.cells? 0 (a.add (i * P.cellsOf e)) (P.cellsOf e)) = some ((W.cells? 0 (a.add (i * P.cellsOf e)) (P.cellsOf e)).getD []) := fun i hi => by
          obtain ⟨cs', h1, _⟩ := hcells i hi
          rw [h1]; rfl
        obtain ⟨avs, h1⟩ := start_many (P := P) (W := W) (fun _ => e) len (fun i => (W.cells? 0 (a.add (i * P.cellsOf e)) (P.cellsOf e)).getD []) (fun i => (elems.getD i (.nil, [])).1) (fun i hi => by
          obtain ⟨cs', h1, h2⟩ := hcells i hi
          simp only [h1, Option.getD_some]
          exact ih e cs' _ h2)
        have hlen : ∀ i, i < len → (avs i).length = P.cellsOf e := fun i hi => by
          rw [(h1 i hi).1.1, (World.cells?_some (css i hi)).2.1]
        have hds : ∀ (i : Nat) d, (elems.map (·.1))[i]? = some d → i < len ∧ d = (elems.getD i (.nil, [])).1 := fun i d hd => by
          rw [List.getElem?_map] at hd
          by_cases hi : i < elems.length
          · rw [List.getElem?_eq_getElem hi] at hd
            simp at hd
            exact ⟨by omega, by simp [List.getD, List.getElem?_eq_getElem hi, hd]⟩
          · rw [List.getElem?_eq_none (by omega)] at hd; simp at hd
        have hes : ∀ (i : Nat) c, ((List.range len).map avs)[i]? = some c → i < len ∧ c = avs i := fun i c hc => by
          rw [List.getElem?_map] at hc
          by_cases hi : i < len
          · rw [List.getElem?_range hi] at hc; simp at hc; exact ⟨hi, hc.symm⟩
          · rw [List.getElem?_eq_none (by simpa using hi)] at hc; simp at hc
        refine ⟨[.rs (P.cellsOf e) ((List.range len).map avs)], VRs.cons ?_ VRs.nil, .sl hu (by simp [hel]) (fun c hc => ?_) (fun i c d hc hd => ?_)⟩
        · by_cases hl0 : len = 0
          · subst hl0; exact .rs0 _ _ _
          · have h2 := (World.cells?_some (css 0 (by omega))).2
            have h3 := h2.2 0 hpos
            rw [List.getElem?_eq_getElem (by omega)] at h3
            simp only [Nat.zero_mul] at h3
            have hcl := cell_lt h3
            obtain ⟨ab, ao, asp⟩ := a
            have hsp : asp = none ∧ ab < W.heap.size := by
              simp [Addr.add] at hcl
              exact ⟨hcl.2, hcl.1⟩
            obtain ⟨rfl, hlt⟩ := hsp
            refine .rs (fun i j => ((W.cells? 0 ((⟨ab, ao, none⟩ : Addr).add (i * P.cellsOf e)) (P.cellsOf e)).getD []).getD j undef) (by simp) hlc (fun c hc => ?_) (fun i j c av hc hj => ?_) (fun i j hi hj => ?_)
            · obtain ⟨i, hi, rfl⟩ := List.mem_map.1 hc
              exact hlen i (by simpa using hi)
            · obtain ⟨hi, rfl⟩ := hes i c hc
              have hjl : j < P.cellsOf e := by have := (List.getElem?_eq_some_iff.1 hj).1; have := hlen i hi; omega
              have hcl := (World.cells?_some (css i hi)).2.1
              refine (h1 i hi).1.2 j av _ hj ?_
              rw [List.getD, List.getElem?_eq_getElem (by omega)]; rfl
            · have hcl := (World.cells?_some (css i hi)).2.1
              have h3 := (World.cells?_some (css i hi)).2.2 _ hj
              rw [add_none, add_none] at h3
              show W.cell? _ = _
              rw [add_none] at hcl
              rw [show ao + (i * P.cellsOf e + j) = ao + i * P.cellsOf e + j by omega, h3, add_none, List.getD, List.getElem?_eq_getElem (by omega)]; rfl
        · obtain ⟨i, hi, rfl⟩ := List.mem_map.1 hc
          exact hlen i (by simpa using hi)
        · obtain ⟨hi, rfl⟩ := hes i c hc
          obtain ⟨_, rfl⟩ := hds i d hd
          exact (h1 i hi).2
    · rename_i fs hu
      obtain ⟨xs, n', hn', rfl, hl, hxs, hget⟩ := DataW.trod_struct hu h
      have hn'' : n' = n := by omega
      subst hn''
      have hcg : contig P 0 fs.toList = some (P.cellsOf t) := by simpa using hk
      have hget' : ∀ (i : Nat) (f : Field), fs[i]? = some f → DataW.trod enc P W 0 (fun _ => true) held n' f.type ((cs.drop f.offset).take (P.cellsOf f.type)) = some (xs.getD i (.nil, [])) := fun i f hf => by
        rw [hget i f hf]
        have hi : i < xs.length := by rw [hxs]; exact (Array.getElem?_eq_some_iff.1 hf).1
        simp [List.getD, List.getElem?_eq_getElem hi]
      obtain ⟨avs, h1⟩ := start_many (P := P) (W := W) (fun i => ((fs[i]?).map Field.type).getD 0) fs.size (fun i => ((fs[i]?).map fun f => (cs.drop f.offset).take (P.cellsOf f.type)).getD []) (fun i => (xs.getD i (.nil, [])).1) (fun i hi => by
          have hf : fs[i]? = some fs[i] := by simp [hi]
          simp only [hf, Option.map_some, Option.getD_some]
          exact ih _ _ _ (hget' i _ hf))
      have h1' : ∀ (i : Nat) (f : Field), fs[i]? = some f → VRs (ren0 P W) (avs i) ((cs.drop f.offset).take (P.cellsOf f.type)) ∧ Rd P f.type (avs i) (xs.getD i (.nil, [])).1 := fun i f hf => by
        have := h1 i (Array.getElem?_eq_some_iff.1 hf).1
        simp only [hf, Option.map_some, Option.getD_some] at this
        exact this
      obtain ⟨av, h2, h3⟩ := struct_cat fs.toList 0 _ hcg cs hl avs (fun i f hf => (h1' i f (by simpa using hf)).1)
      simp only [List.drop_zero] at h2
      refine ⟨av, h2, .struct hu (by rw [h2.1, hl]) (by simp [hxs]) fun i f d hf hd => ?_⟩
      have h4 := h3 i f (by simpa using hf) [] rfl
      simp only [List.nil_append] at h4
      rw [h4]
      rw [List.getElem?_map] at hd
      have hi : i < xs.length := by rw [hxs]; exact (Array.getElem?_eq_some_iff.1 hf).1
      rw [List.getElem?_eq_getElem hi] at hd
      simp at hd
      have h5 := (h1' i f hf).2
      simp only [List.getD, List.getElem?_eq_getElem hi, Option.getD_some] at h5
      rw [hd] at h5
      exact h5
    · rename_i n0 e hu
      have hcg : n0 * P.cellsOf e = P.cellsOf t := by simpa using hk
      obtain ⟨xs, n', hn', rfl, hl, hxs, hget⟩ := DataW.trod_array hu h
      have hn'' : n' = n := by omega
      subst hn''
      have hget' : ∀ (i : Nat), i < n0 → DataW.trod enc P W 0 (fun _ => true) held n' e ((cs.drop (i * P.cellsOf e)).take (P.cellsOf e)) = some (xs.getD i (.nil, [])) := fun i hi => by
        rw [hget i hi]
        simp [List.getD, List.getElem?_eq_getElem (show i < xs.length by omega)]
      obtain ⟨avs, h1⟩ := start_many (P := P) (W := W) (fun _ => e) n0 (fun i => (cs.drop (i * P.cellsOf e)).take (P.cellsOf e)) (fun i => (xs.getD i (.nil, [])).1) (fun i hi => ih _ _ _ (hget' i hi))
      have hseg : ∀ i, i < n0 → ((cs.drop (i * P.cellsOf e)).take (P.cellsOf e)).length = P.cellsOf e := fun i hi => by
        have : (i + 1) * P.cellsOf e ≤ n0 * P.cellsOf e := Nat.mul_le_mul_right _ hi
        rw [Nat.succ_mul] at this
        simp; omega
      have hlen : ∀ i, i < n0 → (avs i).length = P.cellsOf e := fun i hi => by rw [(h1 i hi).1.1, hseg i hi]
      have h2 : VRs (ren0 P W) (catN avs n0) cs := by
        have := catN_VRs (fun i hi => (h1 i hi).1) (n := n0)
        rw [catN_cut (by omega), List.take_of_length_le (by omega)] at this
        exact this
      refine ⟨catN avs n0, h2, .arr hu (by rw [h2.1, hl]) (by simp [hxs]) fun i d hd => ?_⟩
      rw [List.getElem?_map] at hd
      by_cases hi : i < xs.length
      · rw [catN_seg hlen (by omega)]
        rw [List.getElem?_eq_getElem hi] at hd
        simp at hd
        have h5 := (h1 i (by omega)).2
        simp only [List.getD, List.getElem?_eq_getElem hi, Option.getD_some] at h5
        rw [hd] at h5
        exact h5
      · rw [List.getElem?_eq_none (by omega)] at hd; simp at hd
    · simp at hk

end Go.Proofs.Ytdchdlabdokjnaa.Am
