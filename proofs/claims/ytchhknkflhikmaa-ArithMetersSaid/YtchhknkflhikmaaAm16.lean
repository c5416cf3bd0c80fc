/- AM: slices of one's own, appends; words as bit vectors. -/
import Derived.Test.YtchhknkflhikmaaAm15
namespace Go.Proofs.Ytchhknkflhikmaa.Am
open Go
set_option linter.unusedVariables false
set_option linter.unusedSimpArgs false

def blkOf : AV → List Nat
  | .sl b _ _ _ => [b]
  | .ptr b _ => [b]
  | _ => []

/-- v is a slice of one's own, of elements of type et, that holds cs. -/
def Ow (m : Mem) (v : AV) (et : TypeId) (cs : List AV) : Prop :=
  (v = .snil ∧ cs = []) ∨ ∃ b k, v = .sl b 0 cs.length 1 ∧ m.blk b = some k ∧ k.st = .own ∧ k.ety = et ∧ k.cells = cs

/-- v's block and the blocks that it has grown out of. -/
def ancOf (m : Mem) : AV → List Nat
  | .sl b _ _ _ => b :: (match m.blk b with
    | some k => k.anc
    | none => [])
  | _ => []
/-- .. and they are there. -/
def There (m : Mem) (v : AV) : Prop := ∀ x ∈ ancOf m v, m.blk x ≠ none
theorem There.nil {m} : There m .snil := by simp [There, ancOf]
theorem blk_anc {m : Mem} {v : AV} {b o n s} (h : v = .sl b o n s) : b ∈ ancOf m v := by subst h; simp [ancOf]
theorem Ow.inv {m v et cs} (h : Ow m v et cs) (hp : 0 < cs.length) : ∃ b anc, v = .sl b 0 cs.length 1 ∧ m.blk b = Option.some ⟨.own, cs, et, anc⟩ ∧ ancOf m v = b :: anc := by
  rcases h with ⟨rfl, rfl⟩ | ⟨b, k, rfl, h2, h3, h4, rfl⟩
  · simp at hp
  · obtain ⟨st, cells, ety, anc⟩ := k
    simp only at h3 h4; subst h3; subst h4
    exact ⟨b, anc, rfl, h2, by simp [ancOf, h2]⟩
theorem There.keep0 {m m' : Mem} {v} (h : There m v) (hk : Keep [] m m') : There m' v := by
  cases v with
  | sl b o n s =>
    intro x hx
    have hb := h b (by simp [ancOf])
    cases hmb : m.blk b with
    | none => exact absurd hmb hb
    | some kb =>
      have e : ancOf m' (.sl b o n s) = ancOf m (.sl b o n s) := by simp [ancOf, hmb, hk b (by simp) kb hmb]
      rw [e] at hx
      have := h x hx
      cases hmx : m.blk x with
      | none => exact absurd hmx this
      | some kx => rw [hk x (by simp) kx hmx]; simp
  | _ => simp [There, ancOf]
theorem ancOf_keep {m m' : Mem} {v et cs xs} (h : Ow m v et cs) (hk : Keep xs m m') (hx : ∀ b ∈ blkOf v, b ∉ xs) : ancOf m' v = ancOf m v := by
  rcases h with ⟨rfl, _⟩ | ⟨b, k, rfl, h2, _⟩
  · rfl
  · have := hk b (hx b (by simp [blkOf])) k h2
    simp [ancOf, h2, this]
theorem blkOf_anc {m : Mem} {v et cs} (h : Ow m v et cs) : ∀ b ∈ blkOf v, b ∈ ancOf m v := by
  rcases h with ⟨rfl, _⟩ | ⟨b, k, rfl, h2, _⟩
  · simp [blkOf]
  · simp [blkOf, ancOf]

theorem Ow.nil {m et} : Ow m .snil et [] := .inl ⟨rfl, rfl⟩
theorem Ow.keep {m m' v et cs xs} (h : Ow m v et cs) (hk : Keep xs m m') (hx : ∀ b ∈ blkOf v, b ∉ xs) : Ow m' v et cs := by
  rcases h with h | ⟨b, k, rfl, h2, h3, h4, h5⟩
  · exact .inl h
  · exact .inr ⟨b, k, rfl, hk b (hx b (by simp [blkOf])) k h2, h3, h4, h5⟩
theorem Ow.keep0 {m m' v et cs} (h : Ow m v et cs) (hk : Keep [] m m') : Ow m' v et cs := h.keep hk (by simp)
theorem Ow.sl {m v et cs} (h : Ow m v et cs) : Sl m v cs.length fun i => cs.getD i .any := by
  rcases h with ⟨rfl, rfl⟩ | ⟨b, k, rfl, h2, h3, h4, rfl⟩
  · exact .inl ⟨rfl, rfl⟩
  · exact .inr <| .inr ⟨b, 0, k, rfl, h2, by rw [h3]; decide, fun i hi => by simp [List.getD, List.getElem?_eq_getElem hi]⟩
theorem Ow.some {m v et cs} (h : Ow m v et cs) : ∀ b ∈ blkOf v, ∃ k, m.blk b = some k := by
  rcases h with ⟨rfl, rfl⟩ | ⟨b, k, rfl, h2, _⟩
  · simp [blkOf]
  · simp [blkOf, h2]

theorem Sl.congr {m v n g g'} (h : Sl m v n g) (hg : ∀ i, i < n → g i = g' i) : Sl m v n g' := by
  rcases h with h | h | ⟨b, o, k, rfl, h2, h3, h4⟩
  · exact .inl h
  · exact .inr (.inl h)
  · exact .inr (.inr ⟨b, o, k, rfl, h2, h3, fun i hi => by rw [h4 i hi, hg i hi]⟩)

theorem guardO_true {α : Type} {x : Option α} {i : Decidable True} : @guardO True i α x = x := by simp [guardO]
theorem outA_some {v k} : outA (Option.some (v, k)) = .alloc v k := rfl
theorem outP_some {v k} : outP (Option.some (v, k)) = .app v k := rfl
theorem outA_none : outA none = .bad := rfl
theorem outP_none : outP none = .bad := rfl
theorem guardO_pos {c : Prop} [Decidable c] {α : Type} {x : Option α} (h : c) : guardO c x = x := by simp [guardO, h]

theorem Sl.cut {P m v n g t ti e ei kk} {k : Nat} (h : Sl m v n g) (ht : tiOf P t = Option.some ti) (hd : ti.d = .slice e) (he : tiOf P e = Option.some ei) (hs : ei.size = 1) (hk : k ≤ n) :
    ∃ v', sliceA P t v none (Option.some (.int kk k)) = Option.some v' ∧ Sl m v' k g ∧ blkOf v' = blkOf v := by
  rcases h with ⟨rfl, rfl⟩ | ⟨b, o, rfl, rfl⟩ | ⟨b, o, kb, rfl, h2, h3, h4⟩
  · have : k = 0 := by omega
    subst this
    exact ⟨.snil, by simp [sliceA, ht, hd, he, bndA, guardO], .inl ⟨rfl, rfl⟩, rfl⟩
  · have : k = 0 := by omega
    subst this
    exact ⟨.sl b o 0 1, by simp [sliceA, ht, hd, he, hs, bndA, guardO], .inr (.inl ⟨b, o, rfl, rfl⟩), rfl⟩
  · refine ⟨.sl b o k 1, ?_, .inr <| .inr ⟨b, o, kb, rfl, h2, h3, fun i hi => h4 i (by omega)⟩, rfl⟩
    simp only [sliceA, ht, Option.bind_some, hd, bndA, he, hs]
    rw [guardO_pos trivial, guardO_pos (by omega)]
    simp

/-- What can be appended: its elements, of one cell each. -/
def Src (m : Mem) (x : AV) (news : List AV) : Prop := lenOfA x = Option.some news.length ∧ srcA m 1 x = Option.some news ∧ news.all AV.leaf = true

theorem Src.of_sl {m v n g} (h : Sl m v n g) (hl : ∀ i, i < n → (g i).leaf = true) : Src m v ((List.range n).map g) := by
  rcases h with ⟨rfl, rfl⟩ | ⟨b, o, rfl, rfl⟩ | ⟨b, o, kb, rfl, h2, h3, h4⟩
  · exact ⟨rfl, rfl, rfl⟩
  · exact ⟨rfl, rfl, rfl⟩
  · refine ⟨by simp [lenOfA], ?_, by simpa using hl⟩
    simp only [srcA]
    split
    · rename_i hn; subst hn; rfl
    · rename_i hn
      have hle : o + n * 1 ≤ kb.cells.length := by
        have := h4 (n - 1) (by omega)
        have := (List.getElem?_eq_some_iff.1 this).1
        omega
      simp only [h2, Option.bind_some]
      rw [guardO_pos h3, guardO_pos hle]
      congr 1
      refine List.ext_getElem? fun i => ?_
      rw [List.getElem?_take]
      split
      · rename_i hi
        rw [List.getElem?_drop, h4 i (by omega)]
        simp [show i < n by omega]
      · rename_i hi
        simp [show ¬ i < n by omega]

section
variable {P : Program} {all : Array Oper} {d : Option Nat} {fl : Bool} {its : List (Oper × Bool)} {e : Env} {m : Mem} {k : Env → Mem → Prop}

theorem gN_callF {g args} (h : wpF P g args m fun v m' => gO P all its (putd e d v) m' k) : gN P all d false its e m k (.call g args) :=
  gN_call_of (wpF.mono h fun v m' h => ⟨fun hf => Bool.noConfusion hf, h⟩)

/-- AN APPEND to a slice of one's own, element by element of one cell. -/
theorem gN_append {t v x et ti ei cs news} (ht : tiOf P t = Option.some ti) (hd : ti.d = .slice et) (he : tiOf P et = Option.some ei) (hs : ei.size = 1) (hO : Ow m v et cs) (hX : Src m x news)
    (hb : (cs.length + news.length) * ei.bytes ≤ 140737488355328) (hm : cs.length + news.length ≤ maxInt) (hT : There m v)
    (hk : ∀ v' m', There m' v' → Ow m' v' et (cs ++ news) → Ext m m' → Keep (blkOf v) m m' → (∀ x ∈ ancOf m' v', m.blk x = none ∨ x ∈ ancOf m v) → gO P all its (putd e d v') m' k) :
    gN P all d fl its e m k (outP (appendA P m m.next t v x)) := by
  obtain ⟨h1, h2, h3⟩ := hX
  unfold appendA
  simp only [ht, Option.bind_some, hd, he, hs, h1]
  rw [guardO_pos (by omega)]
  split
  · rename_i hz
    have : news = [] := List.eq_nil_of_length_eq_zero hz
    subst this
    rcases hO with ⟨rfl, rfl⟩ | ⟨b, kb, rfl, h5, h6, h7, h8⟩
    · exact hk _ _ hT (.inl ⟨rfl, rfl⟩) (Ext.refl _) (Keep.refl _ _) (fun x hx => .inr hx)
    · exact hk _ _ hT (.inr ⟨b, kb, by simp, h5, h6, h7, by simp [h8]⟩) (Ext.refl _) (Keep.refl _ _) (fun x hx => .inr hx)
  · rename_i hz
    simp only [h2, Option.bind_some]
    rw [guardO_pos (by omega), guardO_pos h3]
    rcases hO with ⟨rfl, rfl⟩ | ⟨b, kb, rfl, h5, h6, h7, h8⟩
    · simp only [List.length_nil, Nat.zero_add] at hb hm
      simp only
      rw [guardO_pos ⟨hb, hm⟩]
      refine gN_app_new fun b m' hn hb' hkp => hk _ _ (by intro x hx; simp [ancOf, hb'] at hx; subst hx; simp [hb']) (.inr ⟨b, _, by simp, hb', rfl, rfl, by simp⟩) hkp.ext hkp (fun c hc => .inl ?_)
      simp [ancOf, hb'] at hc; subst hc; exact hn
    · simp only [h5, Option.bind_some]
      rw [guardO_pos trivial, guardO_pos h6, guardO_pos h7, guardO_pos (by rw [h8]; omega), guardO_pos ⟨hb, hm⟩]
      refine gN_app_own (by rw [h5]; simp) fun b' m' hn hb' hbm hkp => hk _ _ ?_ (.inr ⟨b', _, by simp, hb', rfl, rfl, by simp [h8]⟩) ?_ hkp (fun c hc => ?_)
      · intro x hx
        simp [ancOf, hb'] at hx
        rcases hx with rfl | rfl | hx
        · simp [hb']
        · simp [hbm]
        · by_cases hxb : x = b
          · subst hxb; simp [hbm]
          · have := hT x (by simp [ancOf, h5, hx])
            cases hmx : m.blk x with
            | none => exact absurd hmx this
            | some kx => rw [hkp x (by simpa using hxb) kx hmx]; simp
      · intro x kx hx hdx
        by_cases hxb : x = b
        · subst hxb
          rw [h5] at hx; cases hx
          exact ⟨_, hbm, by simp, rfl, rfl⟩
        · exact ⟨kx, hkp x (by simpa using hxb) kx hx, hdx, rfl, rfl⟩
      · simp [ancOf, hb'] at hc
        rcases hc with rfl | rfl | hc
        · exact .inl hn
        · exact .inr (by simp [ancOf])
        · exact .inr (by simp [ancOf, h5, hc])
end

theorem set_of_take {l : List AV} {i : Nat} {v : AV} (h : i < l.length) : l.take i ++ [v] ++ l.drop (i + 1) = l.set i v := by
  rw [List.set_eq_take_append_cons_drop, if_pos h]; simp

theorem repl_one (n : Nat) (z : AV) : repl n [z] = List.replicate n z := by
  induction n with
  | zero => rfl
  | succ n ih => simp [repl, List.replicate_succ] at *

/-! ### What came in, by its type -/

theorem RdV.int {H : Type} {P m t k v} {d : DataW H} (ht : P.underlying t = Option.some (.int k)) (h : RdV P m t v d) : ∃ n, v = .int k n ∧ d = .lit (.int k n) ∧ (Lit.int k n).wf = true := by
  have ha : aggT P t = false := by simp [aggT, ht]
  unfold RdV at h; rw [ha] at h; simp only at h
  cases h with
  | int h1 h2 => rw [ht] at h1; cases h1; exact ⟨_, rfl, rfl, h2⟩
  | other h1 => simp [known, ht] at h1
  | bool h1 => rw [ht] at h1; cases h1
  | str h1 => rw [ht] at h1; cases h1
  | nilptr h1 => rw [ht] at h1; cases h1
  | ptr h1 => rw [ht] at h1; cases h1
  | snil h1 => rw [ht] at h1; cases h1
  | sl h1 => rw [ht] at h1; cases h1
  | struct h1 => rw [ht] at h1; cases h1
  | arr h1 => rw [ht] at h1; cases h1
theorem Rd.int1 {H : Type} {P m t k c} {d : DataW H} (ht : P.underlying t = Option.some (.int k)) (h : Rd P m t [c] d) : ∃ n, c = .int k n ∧ d = .lit (.int k n) ∧ (Lit.int k n).wf = true :=
  RdV.int (v := c) ht (by
    have ha : aggT P t = false := by simp [aggT, ht]
    unfold RdV; rw [ha]; exact h)
theorem RdL.cons {H : Type} {P m t ts vs} {ds : List (DataW H)} (h : RdL P m (t :: ts) vs ds) : ∃ v vs' d ds', vs = v :: vs' ∧ ds = d :: ds' ∧ RdV P m t v d ∧ RdL P m ts vs' ds' := by
  match vs, ds, h with
  | v :: vs, d :: ds, h => exact ⟨v, vs, d, ds, rfl, rfl, h.1, h.2⟩
theorem RdL.nil {H : Type} {P m vs} {ds : List (DataW H)} (h : RdL P m [] vs ds) : vs = [] ∧ ds = [] := by
  match vs, ds, h with
  | [], [], _ => exact ⟨rfl, rfl⟩
/-- A slice of one-celled elements. -/
theorem RdV.slice1 {H : Type} {P m t e v} {d : DataW H} (ht : P.underlying t = Option.some (.slice e)) (hc : P.cellsOf e = 1) (h : RdV P m t v d) :
    (v = .snil ∧ d = .nil) ∨ ∃ n ds sp g, d = .slice ds sp ∧ ds.length = n ∧ Sl m v n g ∧ ∀ (i : Nat) x, ds[i]? = Option.some x → Rd P m e [g i] x := by
  have ha : aggT P t = false := by simp [aggT, ht]
  unfold RdV at h; rw [ha] at h; simp only at h
  cases h with
  | snil h1 => exact .inl ⟨rfl, rfl⟩
  | other h1 => simp [known, ht, hc] at h1
  | sl h1 hb hd hn hl hcs hr =>
    rename_i e' b o n k ds sp css
    rw [ht] at h1; cases h1
    right
    have hg : ∀ i, i < n → css i = [(css i).getD 0 .any] := fun i hi => by
      have := hl i hi
      rw [hc] at this
      match h : css i, this with
      | [c], _ => rfl
    refine ⟨n, ds, sp, fun i => (css i).getD 0 .any, rfl, hn, ?_, fun i x hx => ?_⟩
    · by_cases h0 : n = 0
      · subst h0; rw [hc]; exact .inr (.inl ⟨b, o, rfl, rfl⟩)
      · rw [hc]
        refine .inr (.inr ⟨b, o, k, rfl, hb, by rcases hd with h | h; exact h; exact absurd h h0, fun i hi => ?_⟩)
        have h2 := hcs i 0 ((css i).getD 0 .any) hi (by rw [hg i hi]; rfl)
        rw [hc] at h2
        simpa using h2
    · have hi : i < n := by rw [← hn]; exact (List.getElem?_eq_some_iff.1 hx).1
      have := hr i x hx
      rw [hg i hi] at this
      exact this
  | bool h1 => rw [ht] at h1; cases h1
  | int h1 => rw [ht] at h1; cases h1
  | str h1 => rw [ht] at h1; cases h1
  | nilptr h1 => rw [ht] at h1; cases h1
  | ptr h1 => rw [ht] at h1; cases h1
  | struct h1 => rw [ht] at h1; cases h1
  | arr h1 => rw [ht] at h1; cases h1
/-- A slice of whole numbers. -/
theorem RdV.ints {H : Type} {P m t e k v} {d : DataW H} (ht : P.underlying t = Option.some (.slice e)) (hc : P.cellsOf e = 1) (he : P.underlying e = Option.some (.int k)) (h : RdV P m t v d) :
    ∃ (n : Nat) (xs : Nat → Int), Sl m v n (fun i => .int k (xs i)) ∧ (∀ i, i < n → (Lit.int k (xs i)).wf = true) ∧ (d = .nil ∧ n = 0 ∨ ∃ ds sp, d = .slice ds sp ∧ ds.length = n) := by
  rcases h.slice1 ht hc with ⟨rfl, rfl⟩ | ⟨n, ds, sp, g, rfl, hn, hS, hr⟩
  · exact ⟨0, fun _ => 0, .inl ⟨rfl, rfl⟩, fun i hi => absurd hi (by omega), .inl ⟨rfl, rfl⟩⟩
  · have hx : ∀ i, i < n → ∃ z, g i = .int k z ∧ (Lit.int k z).wf = true := fun i hi => by
      obtain ⟨z, h1, _, h3⟩ := (hr i ds[i] (List.getElem?_eq_getElem (by omega))).int1 he
      exact ⟨z, h1, h3⟩
    refine ⟨n, fun i => match g i with | .int _ z => z | _ => 0, hS.congr fun i hi => ?_, fun i hi => ?_, .inr ⟨ds, sp, rfl, hn⟩⟩
    · obtain ⟨z, h1, _⟩ := hx i hi
      simp [h1]
    · obtain ⟨z, h1, h2⟩ := hx i hi
      simp only [h1]; exact h2
theorem wf64 {n : Int} (h : (Lit.int .u64 n).wf = true) : ∃ x : BitVec 64, n = (x.toNat : Int) := by
  simp [Lit.wf, IntKind.min, IntKind.max, IntKind.signed, IntKind.bits] at h
  exact ⟨BitVec.ofInt 64 n, by simp [BitVec.toNat_ofInt]; omega⟩

/-! ### Words -/

theorem wrapBV64 (x : BitVec 64) : IntKind.wrap .u64 (x.toNat : Int) = x.toNat := by
  have := x.isLt
  exact wrapU64 (by omega) (by omega)
theorem wrapBV32 (x : BitVec 32) : IntKind.wrap .u32 (x.toNat : Int) = x.toNat := by
  have := x.isLt
  exact wrapU32 (by omega) (by omega)
theorem wrapBV8 (x : BitVec 8) : IntKind.wrap .u8 (x.toNat : Int) = x.toNat := by
  have := x.isLt
  exact wrapU8 (by omega) (by omega)
theorem ofIntBV {n : Nat} (x : BitVec n) : BitVec.ofInt n (x.toNat : Int) = x := by simp
theorem and64 (x y : BitVec 64) : bitsA .and .u64 (x.toNat : Int) (y.toNat : Int) = ((x &&& y).toNat : Int) := by
  show IntKind.wrap .u64 ((BitVec.ofInt 64 (x.toNat : Int) &&& BitVec.ofInt 64 (y.toNat : Int)).toNat : Int) = _
  rw [ofIntBV, ofIntBV, wrapBV64]
theorem or64 (x y : BitVec 64) : bitsA .or .u64 (x.toNat : Int) (y.toNat : Int) = ((x ||| y).toNat : Int) := by
  show IntKind.wrap .u64 ((BitVec.ofInt 64 (x.toNat : Int) ||| BitVec.ofInt 64 (y.toNat : Int)).toNat : Int) = _
  rw [ofIntBV, ofIntBV, wrapBV64]
theorem and32 (x y : BitVec 32) : bitsA .and .u32 (x.toNat : Int) (y.toNat : Int) = ((x &&& y).toNat : Int) := by
  show IntKind.wrap .u32 ((BitVec.ofInt 32 (x.toNat : Int) &&& BitVec.ofInt 32 (y.toNat : Int)).toNat : Int) = _
  rw [ofIntBV, ofIntBV, wrapBV32]
theorem xor32 (x y : BitVec 32) : bitsA .xor .u32 (x.toNat : Int) (y.toNat : Int) = ((x ^^^ y).toNat : Int) := by
  show IntKind.wrap .u32 ((BitVec.ofInt 32 (x.toNat : Int) ^^^ BitVec.ofInt 32 (y.toNat : Int)).toNat : Int) = _
  rw [ofIntBV, ofIntBV, wrapBV32]
theorem xor8 (x y : BitVec 8) : bitsA .xor .u8 (x.toNat : Int) (y.toNat : Int) = ((x ^^^ y).toNat : Int) := by
  show IntKind.wrap .u8 ((BitVec.ofInt 8 (x.toNat : Int) ^^^ BitVec.ofInt 8 (y.toNat : Int)).toNat : Int) = _
  rw [ofIntBV, ofIntBV, wrapBV8]
theorem fdiv_nat (a b : Nat) : (a : Int).fdiv (b : Int) = ((a / b : Nat) : Int) := by
  rw [Int.fdiv_eq_ediv_of_nonneg _ (by omega)]; simp
theorem shr64 (x : BitVec 64) (i : Nat) (hi : i ≤ 64) : shrA .u64 (x.toNat : Int) (i : Int) = ((x >>> i).toNat : Int) := by
  simp only [shrA, Int.toNat_natCast, IntKind.bits, Nat.min_eq_left hi]
  have : (2 ^ i : Int) = ((2 ^ i : Nat) : Int) := by simp
  rw [this, fdiv_nat, BitVec.toNat_ushiftRight, Nat.shiftRight_eq_div_pow]
theorem shr32 (x : BitVec 32) (i : Nat) (hi : i ≤ 32) : shrA .u32 (x.toNat : Int) (i : Int) = ((x >>> i).toNat : Int) := by
  simp only [shrA, Int.toNat_natCast, IntKind.bits, Nat.min_eq_left hi]
  have : (2 ^ i : Int) = ((2 ^ i : Nat) : Int) := by simp
  rw [this, fdiv_nat, BitVec.toNat_ushiftRight, Nat.shiftRight_eq_div_pow]
theorem wrapu64_emod (x : Nat) : IntKind.wrap .u64 (x : Int) = ((x % 2 ^ 64 : Nat) : Int) := by
  simp [IntKind.wrap, IntKind.bits, IntKind.signed]
theorem shl64 (x : BitVec 64) (i : Nat) (hi : i ≤ 64) : shlA .u64 (x.toNat : Int) (i : Int) = ((x <<< i).toNat : Int) := by
  simp only [shlA, Int.toNat_natCast, IntKind.bits, Nat.min_eq_left hi]
  have : (x.toNat : Int) * 2 ^ i = ((x.toNat * 2 ^ i : Nat) : Int) := by simp
  rw [this, wrapu64_emod, BitVec.toNat_shiftLeft, Nat.shiftLeft_eq]

/-- A condition whose arms join again: what follows is shown once. -/
theorem wpL_condK {P : Program} {cs : List Code} {e : Env} {m : Mem} {K : Ex → Env → Mem → Prop} {c a b t} (hc : ev P e c = .bool t)
    (h : ∀ k : Ex → Env → Mem → Prop, (∀ e m, wpL P cs e m K → k .normal e m) → (∀ x e m, x ≠ .normal → K x e m → k x e m) → (t = true → wpL P [a] e m k) ∧ (t = false → wpL P [b] e m k)) :
    wpL P (.cond c a b :: cs) e m K := by
  have key := h (fun x e m => (x = .normal ∧ wpL P cs e m K) ∨ (x ≠ .normal ∧ K x e m)) (fun e m h => .inl ⟨rfl, h⟩) (fun x e m hx h => .inr ⟨hx, h⟩)
  have fin : ∀ c', wpL P [c'] e m (fun x e m => (x = .normal ∧ wpL P cs e m K) ∨ (x ≠ .normal ∧ K x e m)) → wpL P (c' :: cs) e m K := by
    rintro c' ⟨x, e1, m1, h1, h2⟩
    have hc' : EvC P (FInf P) c' e m x e1 m1 := by
      cases h1 with
      | cons_x h hx => exact h
      | cons_n h k => cases k; exact h
    rcases h2 with ⟨rfl, x2, e2, m2, h3, h4⟩ | ⟨hx, hK⟩
    · exact ⟨x2, e2, m2, .cons_n hc' h3, h4⟩
    · exact ⟨x, e1, m1, .cons_x hc' hx, hK⟩
  exact wpL_cond hc (fun ht => fin _ (key.1 ht)) (fun ht => fin _ (key.2 ht))
end Go.Proofs.Ytchhknkflhikmaa.Am
