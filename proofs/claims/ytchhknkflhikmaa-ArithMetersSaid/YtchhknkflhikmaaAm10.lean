/- AM: what a derivation says, the machine does. -/
import Derived.Test.YtchhknkflhikmaaAm9
namespace Go.Proofs.Ytchhknkflhikmaa.Am
open Go
open Go.RowKit (Below)
set_option linter.unusedVariables false
set_option linter.unusedSimpArgs false

structure SR (P : Program) (B : Nat) (w0 : World) (n : Nat) (e : Env) (m : Mem) (ρ : Ren) (a : Act) (w : World) : Prop where
  rel : Rel P B w0 ρ m w
  env : EnvR ρ e a
  defs : a.defers = []
  siz : n ≤ a.tmps.size

def SoundF (P : Program) (F : FnRel) : Prop := ∀ g args m v m1, F g args m v m1 →
  (∃ fn c, P.funcs[g]? = some fn ∧ fn.body = some c ∧ fn.name ≠ "runtime.NumGoroutine") ∧
  ∀ B w0 ρ w args', Rel P B w0 ρ m w → VRs ρ args args' →
    Calls P g args'.toArray w (fun e w' => ∃ v' ρ', e = .returned v' ∧ VR ρ' v v' ∧ Rel P B w0 ρ' m1 w' ∧ Sub ρ ρ')

theorem EnvR.mono {ρ ρ' : Ren} (h : Sub ρ ρ') {e a} (he : EnvR ρ e a) : EnvR ρ' e a := fun i => (he i).mono h

theorem EnvR.put {ρ ρ' : Ren} {e : Env} {a : Act} {dst : Option Nat} {v v' n} (he : EnvR ρ e a) (hs : Sub ρ ρ') (hv : VR ρ' v v') (hn : n ≤ a.tmps.size) (hd : ∀ d, dst = some d → d < n) :
    EnvR ρ' (putd e dst v) (a.put dst v') := by
  cases dst with
  | none => exact he.mono hs
  | some d =>
    have hlt := hd d rfl
    intro i
    simp only [putd, Am.put, Act.put]
    by_cases hi : i = d
    · subst hi
      rw [if_pos rfl]
      have : (a.tmps.setIfInBounds i v').getD i undef = v' := by
        rw [Array.getD_eq_getD_getElem?, Array.getElem?_setIfInBounds, if_pos rfl, if_pos (by omega)]; rfl
      rw [this]; exact hv
    · rw [if_neg hi]
      have : (a.tmps.setIfInBounds d v').getD i undef = a.tmps.getD i undef := by
        rw [Array.getD_eq_getD_getElem?, Array.getD_eq_getD_getElem?, Array.getElem?_setIfInBounds, if_neg (Ne.symm hi)]
      rw [this]; exact (he i).mono hs

theorem SR.put {P B w0 n e m ρ a w ρ' m1 w' v v' dst} (S : SR P B w0 n e m ρ a w) (R : Rel P B w0 ρ' m1 w') (hs : Sub ρ ρ') (hv : VR ρ' v v') (hd : ∀ d, dst = some d → d < n) :
    SR P B w0 n (putd e dst v) m1 ρ' (a.put dst v') w' := by
  refine ⟨R, S.env.put hs hv S.siz hd, ?_, ?_⟩
  · cases dst <;> exact S.defs
  · cases dst with
    | none => exact S.siz
    | some d => simpa [Act.put] using S.siz

section
variable {P : Program} {F : FnRel} {B : Nat} {w0 : World}

theorem Step_wp (SF : SoundF P F) {flag} {o : Oper} {e m v m1 ρ a w n} {K : Act → World → Prop} {Q : Exit → Act → World → Prop} (h : Step P F flag e m o.op v m1) (S : SR P B w0 n e m ρ a w)
    (hK : ∀ v' ρ' w', VR ρ' v v' → Rel P B w0 ρ' m1 w' → Sub ρ ρ' → K (a.put o.dst v') w') : o.wp P a w K Q := by
  unfold Oper.wp
  cases h with
  | pur hv =>
    obtain ⟨v', r1, r2⟩ := pureA_sound w S.rel.gl S.env hv
    rw [r1]
    exact hK v' ρ w r2 S.rel (Sub.refl _)
  | lod hv =>
    obtain ⟨v', r1, r2⟩ := loadA_sound S.rel S.env hv
    rw [r1]
    exact hK v' ρ w r2 S.rel (Sub.refl _)
  | alc hb hv =>
    obtain ⟨v', w', l, r1, r2, r3⟩ := allocA_sound S.rel S.env hb hv
    rw [r1]
    exact hK v' _ w' r2 r3 (upd_mono (S.rel.dom _ hb))
  | ser hb hv hf =>
    obtain ⟨v', w', ρ', r1, r2, r3, r4⟩ := SerR_sound S.rel S.env hb hv
    rcases r1 with r1 | ⟨r1, rfl⟩
    · rw [r1]; exact hK v' ρ' w' r2 r3 r4
    · rw [r1]; exact hK undef ρ' w' r2 r3 r4
  | call ho hcal hfn hcall hf =>
    rename_i c f g first cap
    obtain ⟨⟨fn, body, hf1, hf2, hf3⟩, hs⟩ := SF g _ m v m1 hcall
    have hv := ev_sound S.rel.gl S.env f
    rw [hfn] at hv
    have hargs := evs_sound S.rel.gl S.env c.args.toList
    generalize hz : a.eval f = z at hv
    cases hv with
    | fn hx hx' hy hy' =>
      rename_i us vs
      have hall := ((show VRs ρ first us from ⟨hx, hx'⟩).append hargs).append (show VRs ρ cap vs from ⟨hy, hy'⟩)
      have hc := hs B w0 ρ w _ S.rel hall
      have hrun : (execOp a.eval o).run P w = .ok (.enter g (us ++ c.args.toList.map a.eval ++ vs).toArray) w := by
        obtain ⟨callee, args, tys⟩ := c
        simp only at hcal; subst hcal
        have hne : (fn.name == "runtime.NumGoroutine") = false := by simpa using hf3
        have hco : ∀ xs, (callFunc g xs).run P w = .ok (.enter g xs) w := by
          intro xs
          simp [callFunc, hf1, hf2, hf3]
        have hxs : us.toArray ++ args.map a.eval ++ vs.toArray = (us ++ args.toList.map a.eval ++ vs).toArray := by
          apply Array.ext'; simp
        simp only [execOp, ho, resolve, Sem.run_bind, hz, Deferred.ofValue, Sem.run_pure, Result.andThen_ok, invoke, hxs, hco]
      rw [hrun]
      rw [Oper.upon_enter]
      refine hc.mono ?_
      rintro e' w' ⟨v', ρ', rfl, h1, h2, h3⟩
      exact hK v' ρ' w' h1 h2 h3

theorem guard_sound {all : Array Oper} {e : Env} {ρ : Ren} {a : Act} {o : Oper} {b} (he : EnvR ρ e a) (h : guardA all e o.guard = some b) : Region.wanted o (yielded all a.tmps) = b := by
  unfold guardA at h
  unfold Region.wanted
  cases hg : o.guard with
  | none => rw [hg] at h; simpa using h
  | some p =>
    obtain ⟨j, want⟩ := p
    rw [hg] at h
    simp only at h ⊢
    unfold yielded
    cases hd : (all[j]?).bind (·.dst) with
    | none => rw [hd] at h; simp at h; subst h; simp
    | some d =>
      rw [hd] at h
      simp only at h
      have hv := he d
      split at h
      · rename_i q hq
        simp at h; subst h
        rw [hq] at hv
        rw [Array.getD_eq_getD_getElem?] at hv
        cases ht : a.tmps[d]? with
        | none =>
          rw [ht] at hv
          simp only [Option.getD_none] at hv
          exact absurd hv (by intro hh; unfold undef at hh; cases hh)
        | some y =>
          rw [ht] at hv
          simp only [Option.getD_some] at hv
          cases hv
          simp only [Option.bind_some, ht]
          rfl
      · rename_i hq
        simp at h; subst h
        rw [hq] at hv
        rw [Array.getD_eq_getD_getElem?] at hv
        cases ht : a.tmps[d]? with
        | none => simp [ht]
        | some y =>
          rw [ht] at hv
          simp only [Option.getD_some] at hv
          obtain ⟨vs, rfl, hvs⟩ := hv.tup_inv
          simp [ht]
      · simp at h

theorem Act1_wp (SF : SoundF P F) {all : Array Oper} {flag} {i : Nat} {o : Oper} {e m v m1 ρ a w n} {K : Act → World → Prop} {Q : Exit → Act → World → Prop} (ho : all[i]? = some o) (hd : ∀ d, o.dst = some d → d < n)
    (h : Act1 P F all flag o e m v m1) (S : SR P B w0 n e m ρ a w)
    (hK : ∀ ρ' a' w', Sub ρ ρ' → SR P B w0 n (putd e o.dst v) m1 ρ' a' w' → K a' w') : wpOp P all Q i K a w := by
  unfold wpOp
  simp only [ho]
  cases h with
  | skip hg =>
    rw [guard_sound S.env hg]
    simp only [Bool.false_eq_true, if_false]
    exact hK ρ _ w (Sub.refl _) (S.put S.rel (Sub.refl _) VR_undef hd)
  | step hg h =>
    rw [guard_sound S.env hg]
    simp only [if_true]
    exact .inl (Step_wp SF h S fun v' ρ' w' h1 h2 h3 => hK ρ' _ w' h3 (S.put h2 h3 h1 hd))

def dstsOk (n : Nat) (all : Array Oper) : Prop := ∀ (i : Nat) (o : Oper), all[i]? = some o → ∀ d, o.dst = some d → d < n

theorem EvO_wp (SF : SoundF P F) {all : Array Oper} {fl l e m e' m' n} {Q : Exit → Act → World → Prop} (hd : dstsOk n all) (h : EvO P F all fl l e m e' m') : ∀ {ρ a w}, SR P B w0 n e m ρ a w →
    (∀ ρ' a' w', Sub ρ ρ' → SR P B w0 n e' m' ρ' a' w' → Q .normal a' w') → wpOps P all Q l a w := by
  induction h with
  | nil => intro ρ a w S hQ; exact hQ ρ a w (Sub.refl _) S
  | cons ho h _ ih =>
    intro ρ a w S hQ
    rw [wpOps_cons]
    exact Act1_wp SF ho (hd _ _ ho) h S fun ρ' a' w' h1 S' => ih S' fun ρ2 a2 w2 h2 S2 => hQ ρ2 a2 w2 (h1.trans h2) S2

/-! ### A region in any order -/

def Resp (all : Array Oper) : (Nat → Prop) → List Nat → Prop
  | _, [] => True
  | D, i :: l => (∀ x ∈ edgesAt all i, D x) ∧ Resp all (fun x => x = i ∨ D x) l

theorem Resp.mono {all : Array Oper} : ∀ {l : List Nat} {D D' : Nat → Prop}, (∀ x, D x → D' x) → Resp all D l → Resp all D' l
  | [], _, _, _, _ => trivial
  | i :: l, D, D', h, r => ⟨fun x hx => h x (r.1 x hx), Resp.mono (fun x hx => hx.imp id (h x)) r.2⟩

theorem Resp.erase {all : Array Oper} {i : Nat} : ∀ {l : List Nat} {D : Nat → Prop}, Resp all D l → Resp all (fun x => x = i ∨ D x) (l.erase i)
  | [], _, _ => trivial
  | x :: l, D, r => by
    by_cases hx : x = i
    · subst hx
      rw [List.erase_cons_head]
      exact r.2
    · rw [List.erase_cons_tail (by simpa using hx)]
      refine ⟨fun y hy => .inr (r.1 y hy), ?_⟩
      exact (Resp.erase r.2).mono fun y hy => by
        rcases hy with h | h | h
        · exact .inr (.inl h)
        · exact .inl h
        · exact .inr (.inr h)

def PairOk (P : Program) (all : Array Oper) (T : List (Nat × Nat)) (fl : Nat → Bool) (x i : Nat) : Prop :=
  (lkN T i).testBit x = true ∨ (swapOk P all x i = true ∧ (clsAt P all x = .lod → fl i = true))

/-- What a table of ancestors says. -/
def TabOk (all : Array Oper) (T : List (Nat × Nat)) : Prop := ∀ i x, (lkN T i).testBit x = true → ∀ D : Nat → Prop, (∀ y, D y → ∀ z ∈ edgesAt all y, D z) → (∀ z ∈ edgesAt all i, D z) → D x

theorem maskOf_bit {T : List (Nat × Nat)} : ∀ {xs : List Nat} {x : Nat}, (maskOf T xs).testBit x = true → ∃ e ∈ xs, x = e ∨ (lkN T e).testBit x = true
  | [], x, h => by simp [maskOf] at h
  | y :: ys, x, h => by
    simp only [maskOf, Nat.testBit_or, Bool.or_eq_true] at h
    rcases h with (h | h) | h
    · rw [Nat.testBit_two_pow] at h
      have h' : y = x := by simpa using h
      exact ⟨y, by simp, .inl h'.symm⟩
    · exact ⟨y, by simp, .inr h⟩
    · obtain ⟨e, he, h⟩ := maskOf_bit h
      exact ⟨e, by simp [he], h⟩

theorem tabOf_ok {all : Array Oper} : ∀ {l : List Nat} {T : List (Nat × Nat)}, TabOk all T → TabOk all (tabOf all T l)
  | [], T, h => h
  | i :: l, T, h => by
    refine tabOf_ok (l := l) ?_
    intro j x hx D hD hj
    simp only [lkN] at hx
    split at hx
    · subst_vars
      obtain ⟨e, he, h'⟩ := maskOf_bit hx
      rcases h' with rfl | h'
      · exact hj _ he
      · exact h e x h' D hD (hD e (hj e he))
    · exact h j x hx D hD hj

theorem draw_wp (SF : SoundF P F) (N : Nice F) {all : Array Oper} {fl : Nat → Bool} {T : List (Nat × Nat)} (hT : TabOk all T) {n : Nat} (hd : dstsOk n all) {e' m'} {Q : Exit → Act → World → Prop} :
    ∀ (k : Nat) {l : List Nat} {listed : Array Bool} {e m ρ a w}, l.length = k → EvO P F all fl l e m e' m' → l.Nodup → listed.size = all.size → (∀ i, i < all.size → listed.getD i true = false → i ∈ l) →
      (∀ i ∈ l, i < all.size ∧ listed.getD i true = false) → (∀ y, listed.getD y false = true → ∀ z ∈ edgesAt all y, listed.getD z false = true) →
      Resp all (fun x => listed.getD x false = true) l → l.Pairwise (PairOk P all T fl) → SR P B w0 n e m ρ a w →
      (∀ ρ' a' w', Sub ρ ρ' → SR P B w0 n e' m' ρ' a' w' → Q .normal a' w') → wpAny P .any all Q k listed a w := by
  have edges_ready : ∀ {listed : Array Bool} {i}, i < all.size → (i ∈ Region.ready .any all listed ↔ (listed.getD i true = false ∧ ∀ z ∈ edgesAt all i, listed.getD z false = true)) := by
    intro listed i hi
    have ho : all[i]? = some all[i] := Array.getElem?_eq_getElem hi
    simp only [Region.ready, List.mem_filter, List.mem_range, hi, true_and, ho, Option.map_some, Option.getD_some, Bool.and_eq_true, Bool.not_eq_true', edgesAt, edges]
    refine and_congr_right fun _ => ?_
    constructor
    · intro h z hz
      simp only [List.mem_map, List.mem_filter] at hz
      obtain ⟨ed, ⟨h1, h2⟩, rfl⟩ := hz
      rw [Array.all_eq_true'] at h
      have := h ed (Array.mem_toList_iff.1 h1)
      simpa [h2] using this
    · intro h
      rw [Array.all_eq_true']
      intro ed hed
      cases hb : Region.binds .any ed with
      | false => simp
      | true =>
        simp only [Bool.not_true, Bool.false_or]
        exact h ed.on (List.mem_map.2 ⟨ed, List.mem_filter.2 ⟨Array.mem_toList_iff.2 hed, hb⟩, rfl⟩)
  intro k
  induction k with
  | zero =>
    intro l listed e m ρ a w hl h hnd hsz hcov hmem hcl hresp hpw S hQ
    have : l = [] := List.eq_nil_of_length_eq_zero hl
    subst this
    cases h
    refine ⟨?_, hQ ρ a w (Sub.refl _) S⟩
    rw [List.eq_nil_iff_forall_not_mem]
    intro i hi
    have hlt : i < all.size := by simp [Region.ready] at hi; exact hi.1
    have := ((edges_ready hlt).1 hi).1
    exact absurd (hcov i hlt this) (by simp)
  | succ k ih =>
    intro l listed e m ρ a w hl h hnd hsz hcov hmem hcl hresp hpw S hQ
    refine ⟨fun hr => ?_, fun i hi => ?_⟩
    · cases l with
      | nil => simp at hl
      | cons x l =>
        have hx := hmem x (by simp)
        have : x ∈ Region.ready .any all listed := (edges_ready hx.1).2 ⟨hx.2, hresp.1⟩
        rw [hr] at this; simp at this
    · have hlt : i < all.size := by simp [Region.ready] at hi; exact hi.1
      obtain ⟨hnl, hed⟩ := (edges_ready hlt).1 hi
      have hil := hcov i hlt hnl
      obtain ⟨p, q, rfl⟩ := List.append_of_mem hil
      have hip : i ∉ p := by
        intro hh
        have := List.nodup_append.1 hnd
        exact this.2.2 i hh i (by simp) rfl
      have herase : (p ++ i :: q).erase i = p ++ q := by
        rw [List.erase_append_right _ hip, List.erase_cons_head]
      have hsub : (p ++ q).Sublist (p ++ i :: q) := List.Sublist.append_left (List.sublist_cons_self i q) p
      have hb := h.bubble N (fun x hx => by
        have hpx := (List.pairwise_append.1 hpw).2.2 x hx i (by simp)
        rcases hpx with hbit | hok
        · have := hT i x hbit (fun z => listed.getD z false = true) hcl hed
          have hxm := (hmem x (by simp [hx])).2
          rw [Array.getD_eq_getD_getElem?] at this hxm
          have hxs : x < listed.size := by rw [hsz]; exact (hmem x (by simp [hx])).1
          rw [Array.getElem?_eq_getElem hxs] at this hxm
          simp at this hxm
          rw [this] at hxm; simp at hxm
        · exact hok)
      cases hb with
      | cons ho ha hr =>
        rename_i o v m1
        have hset : ∀ j d, (listed.setIfInBounds i true).getD j d = if j = i then true else listed.getD j d := by
          intro j d
          rw [Array.getD_eq_getD_getElem?, Array.getD_eq_getD_getElem?, Array.getElem?_setIfInBounds]
          by_cases hj : j = i
          · subst hj; simp [hsz, hlt]
          · rw [if_neg (Ne.symm hj), if_neg hj]
        refine Act1_wp SF ho (hd _ _ ho) ha S fun ρ' a' w' h1 S' => ?_
        refine ih (l := p ++ q) ?_ hr (hsub.nodup hnd) (by simpa using hsz) ?_ ?_ ?_ ?_ (hpw.sublist hsub) S' (fun ρ2 a2 w2 h2 S2 => hQ ρ2 a2 w2 (h1.trans h2) S2)
        · simp at hl ⊢; omega
        · intro j hj hn
          rw [hset] at hn
          split at hn
          · simp at hn
          · have := hcov j hj hn
            simp only [List.mem_append, List.mem_cons] at this ⊢
            rcases this with h | h | h
            · exact .inl h
            · contradiction
            · exact .inr h
        · intro j hj
          have hj' := hmem j (hsub.subset hj)
          refine ⟨hj'.1, ?_⟩
          rw [hset, if_neg]
          · exact hj'.2
          · rintro rfl
            have hnd2 := hnd
            rw [List.nodup_append] at hnd2
            simp only [List.mem_append] at hj
            rcases hj with hj | hj
            · exact hip hj
            · have := hnd2.2.1
              simp at this
              exact this.1 hj
        · intro y hy z hz
          rw [hset] at hy ⊢
          split
          · rfl
          · split at hy
            · subst_vars; exact hed z hz
            · exact hcl y hy z hz
        · have := hresp.erase (i := i)
          rw [herase] at this
          refine this.mono fun x hx => ?_
          rw [hset]
          split
          · rfl
          · rcases hx with h | h
            · contradiction
            · exact h

end
end Go.Proofs.Ytchhknkflhikmaa.Am
