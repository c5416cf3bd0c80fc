/- AM: a row's call, out of a derivation; what came in, by its type. -/
import Derived.Test.YtdchdlabdokjnaaAm14
namespace Go.Proofs.Ytdchdlabdokjnaa.Am
set_option linter.unusedSectionVars false
open Go
open Go.RowKit (Below)
set_option linter.unusedVariables false
set_option linter.unusedSimpArgs false
variable [Tab]

/-- A memory that knows nothing but where the package variables lie. -/
def baseMem (G : Nat) : Mem where
  blk b := if b < G then some ⟨.dead, [], 0, []⟩ else none
  next := G
  fin b h := by simp; omega

/-- What is told of the package variables holds at the beginning. -/
def TabsOk (W : World) : Prop := ∀ g cs, Tab.cells g = some cs → ∃ vs : Nat → Value, (∀ (j : Nat) (c : AV), cs[j]? = some c → ∀ ρ, VR ρ c (vs j)) ∧ ∀ j : Nat, j < cs.length → W.cell? ⟨g, j, none⟩ = some (vs j)

theorem Rel.base (P : Program) (W : World) (hT : TabsOk W) : Rel P W.heap.size W (ren0 P W) (baseMem P.globals.size) W := by
  refine ⟨Below.refl _ _, Nat.le_refl _, ?_, ?_, ?_, ?_, ?_, ?_, ?_⟩
  · intro g hg
    refine ⟨⟨g, 0, 0, false⟩, by simp [ren0, hg], rfl, rfl, fun cs hc => ?_⟩
    obtain ⟨vs, h1, h2⟩ := hT g cs hc
    exact ⟨vs, fun j c hj => h1 j c hj _, h2⟩
  · intro b hb; simp [baseMem] at hb; simp [ren0]; exact hb
  · intro b k hb hd
    simp [baseMem] at hb
    obtain ⟨_, rfl⟩ := hb
    exact absurd rfl hd
  · intro b k l hb hs
    simp [baseMem] at hb
    obtain ⟨_, rfl⟩ := hb
    cases hs
  · intro b k l hb hs
    simp [baseMem] at hb
    obtain ⟨_, rfl⟩ := hb
    rcases hs with hs | hs <;> cases hs
  · intro b c kb kc lb lc hb hc h1 h2 hs
    simp [baseMem] at hc
    obtain ⟨_, rfl⟩ := hc
    cases hs
  · intro a o v hv
    refine ⟨hv, fun b k l hb hs => ?_⟩
    simp [baseMem] at hb
    obtain ⟨_, rfl⟩ := hb
    cases hs

def aggT (P : Program) (t : TypeId) : Bool :=
  match P.underlying t with
  | some (.struct _) | some (.array _ _) => true
  | _ => false

/-- The value v, of type t, reads as d. -/
def RdV {H : Type} (P : Program) (t : TypeId) (v : AV) (d : DataW H) : Prop :=
  match aggT P t with
  | true => ∃ cs, v = .agg cs ∧ Rd P t cs d
  | false => Rd P t [v] d

def RdL {H : Type} (P : Program) : List TypeId → List AV → List (DataW H) → Prop
  | [], [], [] => True
  | t :: ts, v :: vs, d :: ds => RdV P t v d ∧ RdL P ts vs ds
  | _, _, _ => False

theorem cells_one {P : Program} {W : World} {base : Nat} {t : TypeId} {v : Value} (ha : aggT P t = false) (h : Value.okWide P W .any base t v) : v.cells.toList = [v] := by
  cases v with
  | agg cs =>
    exfalso
    unfold aggT at ha
    unfold Value.okWide at h
    split at h
    · rename_i hu; simp [hu] at ha
    · rename_i hu; simp [hu] at ha
    · unfold Cell.okWide at h
      split at h <;> simp_all
      unfold Cell.ok at h
      split at h <;> simp_all
  | _ => rfl

theorem start_val {H : Type} {enc : TypeId × Value → H} {P : Program} {W : World} {base : Nat} {t : TypeId} {v : Value} {d : DataW H} {ps : List MemPlace} (hv : Value.okWide P W .any base t v)
    (h : DataW.Trod enc P W 0 (fun _ => true) true t v d ps) : ∃ av, VR (ren0 P W) av v ∧ RdV P t av d := by
  obtain ⟨n, h⟩ := h
  obtain ⟨avs, V1, D1⟩ := start_trod n t _ _ h
  cases ha : aggT P t with
  | true =>
    have : ∃ cs, v = .agg cs := by
      unfold aggT at ha
      unfold Value.okWide at hv
      split at hv
      · obtain ⟨cs, rfl, _⟩ := hv; exact ⟨cs, rfl⟩
      · obtain ⟨cs, rfl, _⟩ := hv; exact ⟨cs, rfl⟩
      · split at ha <;> simp_all
    obtain ⟨cs, rfl⟩ := this
    refine ⟨.agg avs, ?_, ?_⟩
    · have := V1.mk_agg
      simpa [Value.cells] using this
    · unfold RdV; rw [ha]; exact ⟨avs, rfl, D1⟩
  | false =>
    have hc := cells_one ha hv
    rw [hc] at V1
    have hl : avs.length = 1 := V1.1
    match avs, hl with
    | [av], _ =>
      refine ⟨av, V1.2 0 _ _ rfl rfl, ?_⟩
      unfold RdV; rw [ha]; exact D1

theorem start_args {H : Type} {enc : TypeId × Value → H} {P : Program} {W : World} {base : Nat} : ∀ (ts : List TypeId) (vs : List Value) (ds : List (DataW H)) (ps : List MemPlace),
    DataW.TrodAll enc P W 0 (fun _ => true) true ts vs ds ps → (∀ (j : Nat) t v, ts[j]? = some t → vs[j]? = some v → Value.okWide P W .any base t v) → ∃ avs, VRs (ren0 P W) avs vs ∧ RdL P ts avs ds
  | [], [], [], ps, _, _ => ⟨[], VRs.nil, trivial⟩
  | t :: ts, v :: vs, d :: ds, ps, h, hv => by
    obtain ⟨p, q, h1, h2, rfl⟩ := h
    obtain ⟨av, V1, D1⟩ := start_val (hv 0 t v rfl rfl) h1
    obtain ⟨avs, V2, D2⟩ := start_args ts vs ds q h2 (fun j t' v' h1 h2 => hv (j + 1) t' v' (by simpa using h1) (by simpa using h2))
    exact ⟨av :: avs, VRs.cons V1 V2, D1, D2⟩
  | [], _ :: _, _, _, h, _ => h.elim
  | [], [], _ :: _, _, h, _ => h.elim
  | _ :: _, [], _, _, h, _ => h.elim
  | _ :: _, _ :: _, [], _, h, _ => h.elim

/-- THE CALL: what a derivation says of whatever reads so, the machine does. -/
theorem row_calls {H : Type} {enc : TypeId × Value → H} {P : Program} {W : World} {base n : Nat} {ts : List TypeId} {args : Array Value} {ds : List (DataW H)} {ps : List MemPlace} (hm : P.follows .mixedOrders = true) (hT : TabsOk W)
    (hA : DataW.TrodAll enc P W 0 (fun _ => true) true ts args.toList ds ps) (hv : ∀ (j : Nat) t v, ts[j]? = some t → args.toList[j]? = some v → Value.okWide P W .any base t v)
    (h : ∀ avs, RdL P ts avs ds → wpP P n avs (.bool true)) :
    Calls P n args W fun e W' => e = .returned (.bool true) ∧ Below W.heap.size W W' := by
  have R0 := Rel.base P W hT
  obtain ⟨avs, V, D⟩ := start_args ts args.toList ds ps hA hv
  obtain ⟨v, m', h', ⟨d, h1⟩, _, _, rfl, _⟩ := h avs D (baseMem P.globals.size) (fun _ => False) ⟨fun b hb => hb.elim, fun b k hb => by cases hb⟩
  obtain ⟨_, h2⟩ := EvF_sound hm d _ _ _ _ _ h1
  have h3 := h2 _ _ (ren0 P W) W args.toList R0 V
  simp only [Array.toArray_toList] at h3
  refine h3.mono fun e W' hw => ?_
  obtain ⟨v', ρ', rfl, hv', hr, _⟩ := hw
  cases hv'
  exact ⟨rfl, hr.below⟩

/-- What came in reads behind the call as it did. -/
theorem trodAll_below {H : Type} {enc : TypeId × Value → H} {P : Program} (hl : laidOutB P = true) {W W' : World} (hb : Below W.heap.size W W') : ∀ (ts : List TypeId) (vs : List Value) (ds : List (DataW H)) (ps : List MemPlace),
    ts.all (fun t => P.readableRec t && decide (t < P.types.size)) = true → DataW.TrodAll enc P W 0 (fun _ => true) true ts vs ds ps → (∀ x ∈ ps, x.block < W.heap.size) →
    DataW.TrodAll enc P W' 0 (fun b => decide (b < W.heap.size)) true ts vs ds ps
  | [], [], [], ps, _, h, _ => h
  | t :: ts, v :: vs, d :: ds, ps, hr, h, hlt => by
    obtain ⟨p, q, h1, h2, rfl⟩ := h
    simp only [List.all_cons, Bool.and_eq_true, decide_eq_true_eq] at hr
    exact ⟨p, q, Go.RowKit.Below.trod hl hr.1.1 hr.1.2 h1 hb (fun x hx => hlt x (by simp [hx])), trodAll_below hl hb ts vs ds q (by simpa using hr.2) h2 (fun x hx => hlt x (by simp [hx])), rfl⟩
  | [], _ :: _, _, _, _, h, _ => h.elim
  | [], [], _ :: _, _, _, h, _ => h.elim
  | _ :: _, [], _, _, _, h, _ => h.elim
  | _ :: _, _ :: _, [], _, _, h, _ => h.elim

theorem trodAll_len {H : Type} {enc : TypeId × Value → H} {P : Program} {W : World} {b : Nat} {sp : Nat → Bool} {hd : Bool} : ∀ {ts : List TypeId} {vs : List Value} {ds : List (DataW H)} {ps : List MemPlace},
    DataW.TrodAll enc P W b sp hd ts vs ds ps → ds.length = ts.length
  | [], [], [], _, _ => rfl
  | t :: ts, v :: vs, d :: ds, ps, h => by
    obtain ⟨p, q, _, h2, _⟩ := h
    simp [trodAll_len h2]
  | [], _ :: _, _, _, h => h.elim
  | [], [], _ :: _, _, h => h.elim
  | _ :: _, [], _, _, h => h.elim
  | _ :: _, _ :: _, [], _, h => h.elim

/-! ### What came in, by its type -/

section
variable {H : Type} {P : Program} {t : TypeId}
theorem Rd.int1 {k c} {d : DataW H} (ht : P.underlying t = some (.int k)) (h : Rd P t [c] d) : ∃ n, c = .int k n ∧ d = .lit (.int k n) ∧ (Lit.int k n).wf = true := by
  cases h with
  | bool h1 => rw [ht] at h1; cases h1
  | int h1 h2 => rw [ht] at h1; cases h1; exact ⟨_, rfl, rfl, h2⟩
  | str h1 h2 => rw [ht] at h1; cases h1
  | nilptr h1 => rw [ht] at h1; cases h1
  | ptr h1 h2 => rw [ht] at h1; cases h1
  | snil h1 => rw [ht] at h1; cases h1
  | sl h1 h2 h3 h4 => rw [ht] at h1; cases h1
  | struct h1 h2 h3 h4 => rw [ht] at h1; cases h1
  | arr h1 h2 h3 h4 => rw [ht] at h1; cases h1
  | other h1 => simp [known, ht] at h1
theorem Rd.bool1 {c} {d : DataW H} (ht : P.underlying t = some .bool) (h : Rd P t [c] d) : ∃ b, c = .bool b ∧ d = .lit (.bool b) := by
  cases h with
  | bool h1 => exact ⟨_, rfl, rfl⟩
  | int h1 h2 => rw [ht] at h1; cases h1
  | str h1 h2 => rw [ht] at h1; cases h1
  | nilptr h1 => rw [ht] at h1; cases h1
  | ptr h1 h2 => rw [ht] at h1; cases h1
  | snil h1 => rw [ht] at h1; cases h1
  | sl h1 h2 h3 h4 => rw [ht] at h1; cases h1
  | struct h1 h2 h3 h4 => rw [ht] at h1; cases h1
  | arr h1 h2 h3 h4 => rw [ht] at h1; cases h1
  | other h1 => simp [known, ht] at h1
theorem Rd.str1 {c} {d : DataW H} (ht : P.underlying t = some .string) (h : Rd P t [c] d) : ∃ s, c = .str s ∧ d = .lit (.string s) ∧ s.length ≤ maxLen := by
  cases h with
  | bool h1 => rw [ht] at h1; cases h1
  | int h1 h2 => rw [ht] at h1; cases h1
  | str h1 h2 => exact ⟨_, rfl, rfl, h2⟩
  | nilptr h1 => rw [ht] at h1; cases h1
  | ptr h1 h2 => rw [ht] at h1; cases h1
  | snil h1 => rw [ht] at h1; cases h1
  | sl h1 h2 h3 h4 => rw [ht] at h1; cases h1
  | struct h1 h2 h3 h4 => rw [ht] at h1; cases h1
  | arr h1 h2 h3 h4 => rw [ht] at h1; cases h1
  | other h1 => simp [known, ht] at h1
theorem Rd.slice1 {e c z} {d : DataW H} (ht : P.underlying t = some (.slice e)) (hz : P.cellsOf e = z) (hp : 0 < z) (h : Rd P t [c] d) :
    ∃ es, c = .rs z es ∧ (d = .nil ∧ es = [] ∨ ∃ ds sp, d = .slice ds sp ∧ es.length = ds.length) ∧ (∀ c ∈ es, c.length = z ∧ ∃ x : DataW H, Rd P e c x) := by
  subst hz
  cases h with
  | bool h1 => rw [ht] at h1; cases h1
  | int h1 h2 => rw [ht] at h1; cases h1
  | str h1 h2 => rw [ht] at h1; cases h1
  | nilptr h1 => rw [ht] at h1; cases h1
  | ptr h1 h2 => rw [ht] at h1; cases h1
  | snil h1 => rw [ht] at h1; cases h1; exact ⟨[], rfl, .inl ⟨rfl, rfl⟩, fun c hc => by cases hc⟩
  | sl h1 h2 h3 h4 => 
    rename_i e' ds sp es
    rw [ht] at h1; cases h1
    refine ⟨es, rfl, .inr ⟨ds, sp, rfl, h2⟩, fun c hc => ⟨h3 c hc, ?_⟩⟩
    obtain ⟨i, hi, rfl⟩ := List.getElem_of_mem hc
    exact ⟨ds[i], h4 i _ _ (List.getElem?_eq_getElem hi) (List.getElem?_eq_getElem (by omega))⟩
  | struct h1 h2 h3 h4 => rw [ht] at h1; cases h1
  | arr h1 h2 h3 h4 => rw [ht] at h1; cases h1
  | other h1 => simp [known, ht] at h1; omega
theorem Rd.ptr1 {e c} {d : DataW H} (ht : P.underlying t = some (.pointer e)) (hp : 0 < P.cellsOf e) (h : Rd P t [c] d) : c = .nilptr ∧ d = .nil ∨ ∃ cs x, c = .rp cs 0 ∧ d = .ptr x ∧ Rd P e cs x := by
  cases h with
  | bool h1 => rw [ht] at h1; cases h1
  | int h1 h2 => rw [ht] at h1; cases h1
  | str h1 h2 => rw [ht] at h1; cases h1
  | nilptr h1 => exact .inl ⟨rfl, rfl⟩
  | ptr h1 h2 => rw [ht] at h1; cases h1; exact .inr ⟨_, _, rfl, rfl, h2⟩
  | snil h1 => rw [ht] at h1; cases h1
  | sl h1 h2 h3 h4 => rw [ht] at h1; cases h1
  | struct h1 h2 h3 h4 => rw [ht] at h1; cases h1
  | arr h1 h2 h3 h4 => rw [ht] at h1; cases h1
  | other h1 => simp [known, ht] at h1; omega
theorem Rd.struct1 {fs cs} {d : DataW H} (ht : P.underlying t = some (.struct fs)) (hk : known P t = true) (h : Rd P t cs d) :
    cs.length = P.cellsOf t ∧ ∃ ds, d = .agg ds ∧ ds.length = fs.size ∧ ∀ (i : Nat) f x, fs[i]? = some f → ds[i]? = some x → Rd P f.type ((cs.drop f.offset).take (P.cellsOf f.type)) x := by
  cases h with
  | bool h1 => rw [ht] at h1; cases h1
  | int h1 h2 => rw [ht] at h1; cases h1
  | str h1 h2 => rw [ht] at h1; cases h1
  | nilptr h1 => rw [ht] at h1; cases h1
  | ptr h1 h2 => rw [ht] at h1; cases h1
  | snil h1 => rw [ht] at h1; cases h1
  | sl h1 h2 h3 h4 => rw [ht] at h1; cases h1
  | struct h1 h2 h3 h4 => rw [ht] at h1; cases h1; exact ⟨h2, _, rfl, h3, h4⟩
  | arr h1 h2 h3 h4 => rw [ht] at h1; cases h1
  | other h1 => rw [hk] at h1; cases h1
theorem Rd.arr1 {n e cs} {d : DataW H} (ht : P.underlying t = some (.array n e)) (hk : known P t = true) (h : Rd P t cs d) :
    cs.length = P.cellsOf t ∧ ∃ ds, d = .agg ds ∧ ds.length = n ∧ ∀ (i : Nat) x, ds[i]? = some x → Rd P e ((cs.drop (i * P.cellsOf e)).take (P.cellsOf e)) x := by
  cases h with
  | bool h1 => rw [ht] at h1; cases h1
  | int h1 h2 => rw [ht] at h1; cases h1
  | str h1 h2 => rw [ht] at h1; cases h1
  | nilptr h1 => rw [ht] at h1; cases h1
  | ptr h1 h2 => rw [ht] at h1; cases h1
  | snil h1 => rw [ht] at h1; cases h1
  | sl h1 h2 h3 h4 => rw [ht] at h1; cases h1
  | struct h1 h2 h3 h4 => rw [ht] at h1; cases h1
  | arr h1 h2 h3 h4 => rw [ht] at h1; cases h1; exact ⟨h2, _, rfl, h3, h4⟩
  | other h1 => rw [hk] at h1; cases h1
theorem RdV.flat {v} {d : DataW H} (ha : aggT P t = false) (h : RdV P t v d) : Rd P t [v] d := by unfold RdV at h; rw [ha] at h; exact h
theorem RdV.agg {v} {d : DataW H} (ha : aggT P t = true) (h : RdV P t v d) : ∃ cs, v = .agg cs ∧ Rd P t cs d := by unfold RdV at h; rw [ha] at h; exact h
theorem RdL.cons {ts vs} {ds : List (DataW H)} (h : RdL P (t :: ts) vs ds) : ∃ v vs' d ds', vs = v :: vs' ∧ ds = d :: ds' ∧ RdV P t v d ∧ RdL P ts vs' ds' := by
  match vs, ds, h with
  | v :: vs, d :: ds, h => exact ⟨v, vs, d, ds, rfl, rfl, h.1, h.2⟩
theorem RdL.nil {vs} {ds : List (DataW H)} (h : RdL P [] vs ds) : vs = [] ∧ ds = [] := by
  match vs, ds, h with
  | [], [], _ => exact ⟨rfl, rfl⟩
end
/-- Each is made of something: so is the list. -/
theorem all_made {α β : Type} {f : α → β} {p : α → Prop} : ∀ {l : List β}, (∀ c ∈ l, ∃ x, c = f x ∧ p x) → ∃ xs : List α, l = xs.map f ∧ ∀ x ∈ xs, p x
  | [], _ => ⟨[], rfl, fun x hx => nomatch hx⟩
  | c :: l, h => by
    obtain ⟨x, rfl, hx⟩ := h c (by simp)
    obtain ⟨xs, rfl, hxs⟩ := all_made (l := l) fun c hc => h c (List.mem_cons_of_mem _ hc)
    exact ⟨x :: xs, rfl, fun y hy => by rcases List.mem_cons.1 hy with rfl | hy; exact hx; exact hxs y hy⟩

end Go.Proofs.Ytdchdlabdokjnaa.Am
