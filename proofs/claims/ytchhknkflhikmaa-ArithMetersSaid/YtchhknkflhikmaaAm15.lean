/- AM: a row's call, out of a derivation. -/
import Derived.Test.YtchhknkflhikmaaAm14
namespace Go.Proofs.Ytchhknkflhikmaa.Am
open Go
open Go.RowKit (Below)
set_option linter.unusedVariables false
set_option linter.unusedSimpArgs false

/-- A memory that knows nothing but where the package variables lie. -/
def baseMem (G : Nat) : Mem where
  blk b := if b < G then some ⟨.dead, [], 0, []⟩ else none
  next := G
  fin b h := by simp; omega

theorem Rel.base (P : Program) (W : World) : ∃ ρ, Rel P W.heap.size W ρ (baseMem P.globals.size) W := by
  refine ⟨fun b => if b < P.globals.size then some ⟨b, 0, 0, false⟩ else none, Below.refl _ _, Nat.le_refl _, ?_, ?_, ?_, ?_, ?_, ?_⟩
  · intro g hg; exact ⟨_, by simp [hg]; rfl, rfl, rfl⟩
  · intro b hb; simp [baseMem] at hb ⊢; exact hb
  · intro b k hb hd
    simp [baseMem] at hb
    obtain ⟨_, rfl⟩ := hb
    exact absurd rfl hd
  · intro b k l hb hs
    simp [baseMem] at hb
    obtain ⟨_, rfl⟩ := hb
    cases hs
  · intro b k l hb hs
    simp [baseMem] at hb
    obtain ⟨_, rfl⟩ := hb
    rcases hs with hs | hs <;> cases hs
  · intro b c kb kc lb lc hb hc h1 h2 hs
    simp [baseMem] at hc
    obtain ⟨_, rfl⟩ := hc
    cases hs

def aggT (P : Program) (t : TypeId) : Bool :=
  match P.underlying t with
  | some (.struct _) | some (.array _ _) => true
  | _ => false

/-- The value v, of type t, reads as d. -/
def RdV {H : Type} (P : Program) (m : Mem) (t : TypeId) (v : AV) (d : DataW H) : Prop :=
  match aggT P t with
  | true => ∃ cs, v = .agg cs ∧ Rd P m t cs d
  | false => Rd P m t [v] d

def RdL {H : Type} (P : Program) (m : Mem) : List TypeId → List AV → List (DataW H) → Prop
  | [], [], [] => True
  | t :: ts, v :: vs, d :: ds => RdV P m t v d ∧ RdL P m ts vs ds
  | _, _, _ => False

theorem RdV.keep {H : Type} {P m m' t v} {d : DataW H} (h : RdV P m t v d) (k : Keep [] m m') : RdV P m' t v d := by
  unfold RdV at *
  split at h
  · obtain ⟨cs, rfl, h⟩ := h; exact ⟨cs, rfl, h.keep k⟩
  · exact h.keep k
theorem RdL.keep {H : Type} {P m m'} (k : Keep [] m m') : ∀ {ts vs} {ds : List (DataW H)}, RdL P m ts vs ds → RdL P m' ts vs ds
  | [], [], [], _ => trivial
  | t :: ts, v :: vs, d :: ds, h => ⟨h.1.keep k, RdL.keep k h.2⟩

theorem cells_one {P : Program} {W : World} {base : Nat} {t : TypeId} {v : Value} (ha : aggT P t = false) (h : Value.okWide P W .any base t v) : v.cells.toList = [v] := by
  cases v with
  | agg cs =>
    exfalso
    unfold aggT at ha
    unfold Value.okWide at h
    split at h
    · rename_i hu; simp [hu] at ha
    · rename_i hu; simp [hu] at ha
    · unfold Cell.okWide at h
      split at h <;> simp_all
      unfold Cell.ok at h
      split at h <;> simp_all
  | _ => rfl

theorem start_val {H : Type} {enc : TypeId × Value → H} {P : Program} {W : World} {base : Nat} {t : TypeId} {v : Value} {d : DataW H} {ps : List MemPlace} (hv : Value.okWide P W .any base t v)
    (h : DataW.Trod enc P W 0 (fun _ => true) true t v d ps) {m ρ} (R : Rel P W.heap.size W ρ m W) :
    ∃ m' ρ' av, Rel P W.heap.size W ρ' m' W ∧ Sub ρ ρ' ∧ Keep [] m m' ∧ VR ρ' av v ∧ RdV P m' t av d := by
  obtain ⟨n, h⟩ := h
  obtain ⟨m1, ρ1, avs, R1, S1, K1, V1, D1⟩ := start_trod n t _ _ h m ρ R
  cases ha : aggT P t with
  | true =>
    have : ∃ cs, v = .agg cs := by
      unfold aggT at ha
      unfold Value.okWide at hv
      split at hv
      · obtain ⟨cs, rfl, _⟩ := hv; exact ⟨cs, rfl⟩
      · obtain ⟨cs, rfl, _⟩ := hv; exact ⟨cs, rfl⟩
      · split at ha <;> simp_all
    obtain ⟨cs, rfl⟩ := this
    refine ⟨m1, ρ1, .agg avs, R1, S1, K1, ?_, ?_⟩
    · have := V1.mk_agg
      simpa [Value.cells] using this
    · unfold RdV; rw [ha]; exact ⟨avs, rfl, D1⟩
  | false =>
    have hc := cells_one ha hv
    rw [hc] at V1
    have hl : avs.length = 1 := V1.1
    match avs, hl with
    | [av], _ =>
      refine ⟨m1, ρ1, av, R1, S1, K1, V1.2 0 _ _ rfl rfl, ?_⟩
      unfold RdV; rw [ha]; exact D1

theorem start_args {H : Type} {enc : TypeId × Value → H} {P : Program} {W : World} {base : Nat} : ∀ (ts : List TypeId) (vs : List Value) (ds : List (DataW H)) (ps : List MemPlace),
    DataW.TrodAll enc P W 0 (fun _ => true) true ts vs ds ps → (∀ (j : Nat) t v, ts[j]? = some t → vs[j]? = some v → Value.okWide P W .any base t v) → ∀ m ρ, Rel P W.heap.size W ρ m W →
    ∃ m' ρ' avs, Rel P W.heap.size W ρ' m' W ∧ Sub ρ ρ' ∧ Keep [] m m' ∧ VRs ρ' avs vs ∧ RdL P m' ts avs ds
  | [], [], [], ps, _, _, m, ρ, R => ⟨m, ρ, [], R, Sub.refl _, Keep.refl _ _, VRs.nil, trivial⟩
  | t :: ts, v :: vs, d :: ds, ps, h, hv, m, ρ, R => by
    obtain ⟨p, q, h1, h2, rfl⟩ := h
    obtain ⟨m1, ρ1, av, R1, S1, K1, V1, D1⟩ := start_val (hv 0 t v rfl rfl) h1 R
    obtain ⟨m2, ρ2, avs, R2, S2, K2, V2, D2⟩ := start_args ts vs ds q h2 (fun j t' v' h1 h2 => hv (j + 1) t' v' (by simpa using h1) (by simpa using h2)) m1 ρ1 R1
    exact ⟨m2, ρ2, av :: avs, R2, S1.trans S2, K1.trans K2, VRs.cons (V1.mono S2) V2, D1.keep K2, D2⟩
  | [], _ :: _, _, _, h, _, _, _, _ => h.elim
  | [], [], _ :: _, _, h, _, _, _, _ => h.elim
  | _ :: _, [], _, _, h, _, _, _, _ => h.elim
  | _ :: _, _ :: _, [], _, h, _, _, _, _ => h.elim

/-- THE CALL: what a derivation says of whatever reads so, the machine does. -/
theorem row_calls {H : Type} {enc : TypeId × Value → H} {P : Program} {W : World} {base n : Nat} {ts : List TypeId} {args : Array Value} {ds : List (DataW H)} {ps : List MemPlace} (hm : P.follows .mixedOrders = true)
    (hA : DataW.TrodAll enc P W 0 (fun _ => true) true ts args.toList ds ps) (hv : ∀ (j : Nat) t v, ts[j]? = some t → args.toList[j]? = some v → Value.okWide P W .any base t v)
    (h : ∀ m avs, RdL P m ts avs ds → wpF P n avs m fun v _ => v = .bool true) :
    Calls P n args W fun e W' => e = .returned (.bool true) ∧ Below W.heap.size W W' := by
  obtain ⟨ρ0, R0⟩ := Rel.base P W
  obtain ⟨m, ρ, avs, R, _, _, V, D⟩ := start_args ts args.toList ds ps hA hv _ _ R0
  obtain ⟨v, m', ⟨d, h1⟩, rfl⟩ := h m avs D
  obtain ⟨_, h2⟩ := EvF_sound hm d _ _ _ _ _ h1
  have h3 := h2 _ _ ρ W args.toList R V
  simp only [Array.toArray_toList] at h3
  refine h3.mono fun e W' hw => ?_
  obtain ⟨v', ρ', rfl, hv', hr, _⟩ := hw
  cases hv'
  exact ⟨rfl, hr.below⟩

/-- What came in reads behind the call as it did. -/
theorem trodAll_below {H : Type} {enc : TypeId × Value → H} {P : Program} (hl : laidOutB P = true) {W W' : World} (hb : Below W.heap.size W W') : ∀ (ts : List TypeId) (vs : List Value) (ds : List (DataW H)) (ps : List MemPlace),
    ts.all (fun t => P.readableRec t && decide (t < P.types.size)) = true → DataW.TrodAll enc P W 0 (fun _ => true) true ts vs ds ps → (∀ x ∈ ps, x.block < W.heap.size) →
    DataW.TrodAll enc P W' 0 (fun b => decide (b < W.heap.size)) true ts vs ds ps
  | [], [], [], ps, _, h, _ => h
  | t :: ts, v :: vs, d :: ds, ps, hr, h, hlt => by
    obtain ⟨p, q, h1, h2, rfl⟩ := h
    simp only [List.all_cons, Bool.and_eq_true, decide_eq_true_eq] at hr
    exact ⟨p, q, Go.RowKit.Below.trod hl hr.1.1 hr.1.2 h1 hb (fun x hx => hlt x (by simp [hx])), trodAll_below hl hb ts vs ds q (by simpa using hr.2) h2 (fun x hx => hlt x (by simp [hx])), rfl⟩
  | [], _ :: _, _, _, _, h, _ => h.elim
  | [], [], _ :: _, _, _, h, _ => h.elim
  | _ :: _, [], _, _, _, h, _ => h.elim
  | _ :: _, _ :: _, [], _, _, h, _ => h.elim

theorem trodAll_len {H : Type} {enc : TypeId × Value → H} {P : Program} {W : World} {b : Nat} {sp : Nat → Bool} {hd : Bool} : ∀ {ts : List TypeId} {vs : List Value} {ds : List (DataW H)} {ps : List MemPlace},
    DataW.TrodAll enc P W b sp hd ts vs ds ps → ds.length = ts.length
  | [], [], [], _, _ => rfl
  | t :: ts, v :: vs, d :: ds, ps, h => by
    obtain ⟨p, q, _, h2, _⟩ := h
    simp [trodAll_len h2]
  | [], _ :: _, _, _, h => h.elim
  | [], [], _ :: _, _, h => h.elim
  | _ :: _, [], _, _, h => h.elim
  | _ :: _, _ :: _, [], _, h => h.elim

end Go.Proofs.Ytchhknkflhikmaa.Am
