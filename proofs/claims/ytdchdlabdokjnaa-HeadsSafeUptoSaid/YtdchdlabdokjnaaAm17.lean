/- AM: what came in, with what it takes up: by its type. -/
import Derived.Test.YtdchdlabdokjnaaAm16
import Derived.SizedLaws
namespace Go.Proofs.Ytdchdlabdokjnaa.Am
set_option linter.unusedSectionVars false
open Go
set_option linter.unusedVariables false
set_option linter.unusedSimpArgs false
variable [Tab]

section
variable {H : Type} {P : Program} {t : TypeId}

def Wt (P : Program) (t : TypeId) (d : DataW H) : Prop := ∀ n ∈ d.weights P t, n ≤ reachBytes
/-- The cells cs, of type t, read as d, which takes up no more than can be reached. -/
structure RdW (P : Program) (t : TypeId) (cs : List AV) (d : DataW H) : Prop where
  rd : Rd P t cs d
  wt : Wt P t d

theorem weightsEach_get : ∀ {ts : List TypeId} {ds : List (DataW H)} {j : Nat} {t : TypeId} {d : DataW H}, ts[j]? = some t → ds[j]? = some d → ∀ n ∈ d.weights P t, n ∈ DataW.weightsEach P ts ds :=
  fun h1 h2 n hn => DataW.weights_mem_each h1 h2 n hn
theorem weightsAll_mem : ∀ {ds : List (DataW H)} {d : DataW H}, d ∈ ds → ∀ n ∈ d.weights P t, n ∈ DataW.weightsAll P t ds
  | x :: ds, d, h, n, hn => by
    simp only [DataW.weightsAll, List.mem_append]
    rcases List.mem_cons.1 h with rfl | h
    · exact .inl hn
    · exact .inr (weightsAll_mem h n hn)

theorem RdW.int {k c} {d : DataW H} (ht : P.underlying t = some (.int k)) (h : RdW P t [c] d) : ∃ n, c = .int k n ∧ (Lit.int k n).wf = true :=
  let ⟨n, h1, _, h2⟩ := h.rd.int1 ht; ⟨n, h1, h2⟩
theorem RdW.bool {c} {d : DataW H} (ht : P.underlying t = some .bool) (h : RdW P t [c] d) : ∃ b, c = .bool b :=
  let ⟨n, h1, _⟩ := h.rd.bool1 ht; ⟨n, h1⟩
theorem RdW.str {c} {d : DataW H} (ht : P.underlying t = some .string) (h : RdW P t [c] d) : ∃ s, c = .str s ∧ s.length ≤ reachBytes := by
  obtain ⟨s, rfl, rfl, _⟩ := h.rd.str1 ht
  exact ⟨s, rfl, h.wt _ (by simp [DataW.weights])⟩
theorem RdW.slice {e c z} {d : DataW H} (ht : P.underlying t = some (.slice e)) (hz : P.cellsOf e = z) (hp : 0 < z) (h : RdW P t [c] d) :
    ∃ es, c = .rs z es ∧ es.length * P.bytesOf e ≤ reachBytes ∧ ∀ c ∈ es, c.length = z ∧ ∃ x : DataW H, RdW P e c x := by
  subst hz
  cases h.rd with
  | snil h1 => rw [ht] at h1; cases h1; exact ⟨[], rfl, by simp, fun c hc => by cases hc⟩
  | sl h1 h2 h3 h4 =>
    rename_i e' ds sp es
    rw [ht] at h1; cases h1
    have w := h.wt
    simp only [Wt, DataW.weights, ht] at w
    refine ⟨es, rfl, ?_, fun c hc => ⟨h3 c hc, ?_⟩⟩
    · have := w _ List.mem_cons_self
      have h5 : es.length * P.bytesOf e ≤ (ds.length + sp.length) * P.bytesOf e := Nat.mul_le_mul_right _ (by omega)
      omega
    · obtain ⟨i, hi, rfl⟩ := List.getElem_of_mem hc
      have hi' : i < ds.length := by omega
      refine ⟨ds[i], h4 i _ _ (List.getElem?_eq_getElem hi) (List.getElem?_eq_getElem hi'), fun n hn => w n ?_⟩
      refine List.mem_cons_of_mem _ (List.mem_append_left _ (weightsAll_mem (List.getElem_mem hi') n hn))
  | other h1 => simp [known, ht] at h1; omega
  | bool h1 => rw [ht] at h1; cases h1
  | int h1 => rw [ht] at h1; cases h1
  | str h1 => rw [ht] at h1; cases h1
  | nilptr h1 => rw [ht] at h1; cases h1
  | ptr h1 => rw [ht] at h1; cases h1
  | struct h1 => rw [ht] at h1; cases h1
  | arr h1 => rw [ht] at h1; cases h1

/-- Cells, one a type. -/
def RdC (P : Program) : List TypeId → List AV → List (DataW H) → Prop
  | [], [], _ => True
  | t :: ts, c :: cs, d :: ds => RdW P t [c] d ∧ RdC P ts cs ds
  | _, _, _ => False
/-- A struct whose fields are one cell each. -/
def flatB (P : Program) (t : TypeId) : Nat → List TypeId → List Field → Bool
  | i, [], [] => decide (P.cellsOf t = i)
  | i, ty :: ts, f :: fs => decide (f.offset = i) && decide (f.type = ty) && decide (P.cellsOf ty = 1) && flatB P t (i + 1) ts fs
  | _, _, _ => false
theorem RdC.of : ∀ (ts : List TypeId) (fs : List Field) (i : Nat) (cs : List AV) (ds : List (DataW H)), flatB P t i ts fs = true → cs.length = P.cellsOf t → ds.length = fs.length →
    (∀ (j : Nat) f x, fs[j]? = some f → ds[j]? = some x → RdW P f.type ((cs.drop f.offset).take (P.cellsOf f.type)) x) → RdC P ts (cs.drop i) ds
  | [], [], i, cs, ds, h, hl, hd, hf => by
    simp [flatB] at h
    rw [List.drop_eq_nil_of_le (by omega)]
    simp at hd
    simp [hd, RdC]
  | ty :: ts, f :: fs, i, cs, [], h, hl, hd, hf => by simp at hd
  | ty :: ts, f :: fs, i, cs, d :: ds, h, hl, hd, hf => by
    simp only [flatB, Bool.and_eq_true, decide_eq_true_eq] at h
    obtain ⟨⟨⟨h1, h2⟩, h3⟩, h4⟩ := h
    have hi : i < cs.length := by
      have : ∀ (ts : List TypeId) (fs : List Field) (j : Nat), flatB P t j ts fs = true → j ≤ P.cellsOf t := by
        intro ts
        induction ts with
        | nil => intro fs j h; cases fs <;> simp [flatB] at h; omega
        | cons a ts ih =>
          intro fs j h
          cases fs with
          | nil => simp [flatB] at h
          | cons g fs =>
            simp only [flatB, Bool.and_eq_true] at h
            have := ih fs (j + 1) h.2; omega
      have := this ts fs (i + 1) h4; omega
    have h0 := hf 0 f d rfl rfl
    have h9 : (cs.drop i).take 1 = [cs[i]] := by rw [List.drop_eq_getElem_cons hi]; rfl
    rw [h1, h2, h3, h9] at h0
    rw [List.drop_eq_getElem_cons hi]
    refine ⟨h0, ?_⟩
    exact RdC.of ts fs (i + 1) cs ds h4 hl (by simpa using hd) fun j f x h5 h6 => hf (j + 1) f x (by simpa using h5) (by simpa using h6)
  | [], f :: fs, i, cs, ds, h, _, _, _ => by simp [flatB] at h
  | ty :: ts, [], i, cs, ds, h, _, _, _ => by simp [flatB] at h
theorem RdW.flat {fs : Array Field} {cs} {d : DataW H} (ts : List TypeId) (ht : P.underlying t = some (.struct fs)) (hk : known P t = true) (hb : flatB P t 0 ts fs.toList = true) (h : RdW P t cs d) : ∃ ds : List (DataW H), RdC P ts cs ds := by
  obtain ⟨hl, ds, rfl, hd, hf⟩ := h.rd.struct1 ht hk
  have w := h.wt
  simp only [Wt, DataW.weights, ht] at w
  refine ⟨ds, ?_⟩
  have := RdC.of (P := P) (t := t) ts fs.toList 0 cs ds hb hl (by simpa using hd) fun j f x h1 h2 => ⟨hf j f x (by simpa using h1) h2, fun n hn => w n ?_⟩
  · simpa using this
  · exact weightsEach_get (j := j) (t := f.type) (by simpa using congrArg (Option.map (·.type)) h1) h2 n hn

/-- Arguments. -/
theorem RdL.consW {ts : List TypeId} {vs} {ds : List (DataW H)} (h : RdL P (t :: ts) vs ds) (hs : ∀ n ∈ DataW.weightsEach P (t :: ts) ds, n ≤ reachBytes) :
    ∃ v vs' d ds', vs = v :: vs' ∧ ds = d :: ds' ∧ (aggT P t = false → RdW P t [v] d) ∧ (aggT P t = true → ∃ cs, v = .agg cs ∧ RdW P t cs d) ∧ RdL P ts vs' ds' ∧ ∀ n ∈ DataW.weightsEach P ts ds', n ≤ reachBytes := by
  obtain ⟨v, vs', d, ds', rfl, rfl, h1, h2⟩ := h.cons
  simp only [DataW.weightsEach, List.mem_append] at hs
  refine ⟨v, vs', d, ds', rfl, rfl, fun ha => ⟨h1.flat ha, fun n hn => hs n (.inl hn)⟩, fun ha => ?_, h2, fun n hn => hs n (.inr hn)⟩
  obtain ⟨cs, rfl, hr⟩ := h1.agg ha
  exact ⟨cs, rfl, hr, fun n hn => hs n (.inl hn)⟩
end

theorem wf_i64 {n : Int} (h : (Lit.int .i64 n).wf = true) : -9223372036854775808 ≤ n ∧ n ≤ 9223372036854775807 := by
  simp [Lit.wf, IntKind.min, IntKind.max, IntKind.signed, IntKind.bits] at h; omega
theorem wf_i32 {n : Int} (h : (Lit.int .i32 n).wf = true) : -2147483648 ≤ n ∧ n ≤ 2147483647 := by
  simp [Lit.wf, IntKind.min, IntKind.max, IntKind.signed, IntKind.bits] at h; omega
theorem wf_u8 {n : Int} (h : (Lit.int .u8 n).wf = true) : ∃ x : UInt8, n = x.toNat := by
  simp [Lit.wf, IntKind.min, IntKind.max, IntKind.signed, IntKind.bits] at h
  exact ⟨UInt8.ofNat n.toNat, by simp [UInt8.toNat_ofNat']; omega⟩
theorem wf_u16 {n : Int} (h : (Lit.int .u16 n).wf = true) : ∃ x : BitVec 16, n = (x.toNat : Int) := by
  simp [Lit.wf, IntKind.min, IntKind.max, IntKind.signed, IntKind.bits] at h
  exact ⟨BitVec.ofInt 16 n, by simp [BitVec.toNat_ofInt]; omega⟩
theorem wf_u32 {n : Int} (h : (Lit.int .u32 n).wf = true) : ∃ x : BitVec 32, n = (x.toNat : Int) := by
  simp [Lit.wf, IntKind.min, IntKind.max, IntKind.signed, IntKind.bits] at h
  exact ⟨BitVec.ofInt 32 n, by simp [BitVec.toNat_ofInt]; omega⟩

end Go.Proofs.Ytdchdlabdokjnaa.Am
