/- AM: what a derivation says, the machine does. -/
import Derived.Test.YtdchdlabdokjnaaAm9
namespace Go.Proofs.Ytdchdlabdokjnaa.Am
set_option linter.unusedSectionVars false
open Go
open Go.RowKit (Below)
set_option linter.unusedVariables false
set_option linter.unusedSimpArgs false
variable [Tab]

structure SR (P : Program) (B : Nat) (w0 : World) (n : Nat) (e : Env) (m : Mem) (ρ : Ren) (a : Act) (w : World) : Prop where
  rel : Rel P B w0 ρ m w
  env : EnvR ρ e a
  defs : a.defers = []
  siz : n ≤ a.tmps.size

def SoundF (P : Program) (F : FnRel) : Prop := ∀ g args m v m1, F g args m v m1 →
  (∃ fn c, P.funcs[g]? = some fn ∧ fn.body = some c ∧ fn.name ≠ "runtime.NumGoroutine") ∧
  ∀ B w0 ρ w args', Rel P B w0 ρ m w → VRs ρ args args' →
    Calls P g args'.toArray w (fun e w' => ∃ v' ρ', e = .returned v' ∧ VR ρ' v v' ∧ Rel P B w0 ρ' m1 w' ∧ Sub ρ ρ')

theorem EnvR.mono {ρ ρ' : Ren} (h : Sub ρ ρ') {e a} (he : EnvR ρ e a) : EnvR ρ' e a := fun i => (he i).mono h

theorem EnvR.put {ρ ρ' : Ren} {e : Env} {a : Act} {dst : Option Nat} {v v' n} (he : EnvR ρ e a) (hs : Sub ρ ρ') (hv : VR ρ' v v') (hn : n ≤ a.tmps.size) (hd : ∀ d, dst = some d → d < n) :
    EnvR ρ' (putd e dst v) (a.put dst v') := by
  cases dst with
  | none => exact he.mono hs
  | some d =>
    have hlt := hd d rfl
    intro i
    simp only [putd, Am.put, Act.put]
    by_cases hi : i = d
    · subst hi
      rw [if_pos rfl]
      have : (a.tmps.setIfInBounds i v').getD i undef = v' := by
        rw [Array.getD_eq_getD_getElem?, Array.getElem?_setIfInBounds, if_pos rfl, if_pos (by omega)]; rfl
      rw [this]; exact hv
    · rw [if_neg hi]
      have : (a.tmps.setIfInBounds d v').getD i undef = a.tmps.getD i undef := by
        rw [Array.getD_eq_getD_getElem?, Array.getD_eq_getD_getElem?, Array.getElem?_setIfInBounds, if_neg (Ne.symm hi)]
      rw [this]; exact (he i).mono hs

theorem SR.put {P B w0 n e m ρ a w ρ' m1 w' v v' dst} (S : SR P B w0 n e m ρ a w) (R : Rel P B w0 ρ' m1 w') (hs : Sub ρ ρ') (hv : VR ρ' v v') (hd : ∀ d, dst = some d → d < n) :
    SR P B w0 n (putd e dst v) m1 ρ' (a.put dst v') w' := by
  refine ⟨R, S.env.put hs hv S.siz hd, ?_, ?_⟩
  · cases dst <;> exact S.defs
  · cases dst with
    | none => exact S.siz
    | some d => simpa [Act.put] using S.siz

section
variable {P : Program} {F : FnRel} {B : Nat} {w0 : World}

theorem Step_wp (SF : SoundF P F) {flag} {o : Oper} {e m v m1 ρ a w n} {K : Act → World → Prop} {Q : Exit → Act → World → Prop} (h : Step P F flag e m o.op v m1) (S : SR P B w0 n e m ρ a w)
    (hK : ∀ v' ρ' w', VR ρ' v v' → Rel P B w0 ρ' m1 w' → Sub ρ ρ' → K (a.put o.dst v') w') : o.wp P a w K Q := by
  unfold Oper.wp
  cases h with
  | pur hv =>
    obtain ⟨v', r1, r2⟩ := pureA_sound w S.rel.gl S.env hv
    rw [r1]
    exact hK v' ρ w r2 S.rel (Sub.refl _)
  | lod hv =>
    obtain ⟨v', r1, r2⟩ := loadA_sound S.rel S.env hv
    rw [r1]
    exact hK v' ρ w r2 S.rel (Sub.refl _)
  | alc hb hv =>
    obtain ⟨v', w', l, r1, r2, r3⟩ := allocA_sound S.rel S.env hb hv
    rw [r1]
    exact hK v' _ w' r2 r3 (upd_mono (S.rel.dom _ hb))
  | ser hb hv hf =>
    obtain ⟨v', w', ρ', r1, r2, r3, r4⟩ := SerR_sound S.rel S.env hb hv
    rcases r1 with r1 | ⟨r1, rfl⟩
    · rw [r1]; exact hK v' ρ' w' r2 r3 r4
    · rw [r1]; exact hK undef ρ' w' r2 r3 r4
  | call ho hcal hfn hcall hf =>
    rename_i c f g first cap
    obtain ⟨⟨fn, body, hf1, hf2, hf3⟩, hs⟩ := SF g _ m v m1 hcall
    have hv := ev_sound S.rel.gl S.env f
    rw [hfn] at hv
    have hargs := evs_sound S.rel.gl S.env c.args.toList
    generalize hz : a.eval f = z at hv
    cases hv with
    | fn hx hx' hy hy' =>
      rename_i us vs
      have hall := ((show VRs ρ first us from ⟨hx, hx'⟩).append hargs).append (show VRs ρ cap vs from ⟨hy, hy'⟩)
      have hc := hs B w0 ρ w _ S.rel hall
      have hrun : (execOp a.eval o).run P w = .ok (.enter g (us ++ c.args.toList.map a.eval ++ vs).toArray) w := by
        obtain ⟨callee, args, tys⟩ := c
        simp only at hcal; subst hcal
        have hne : (fn.name == "runtime.NumGoroutine") = false := by simpa using hf3
        have hco : ∀ xs, (callFunc g xs).run P w = .ok (.enter g xs) w := by
          intro xs
          simp [callFunc, hf1, hf2, hf3]
        have hxs : us.toArray ++ args.map a.eval ++ vs.toArray = (us ++ args.toList.map a.eval ++ vs).toArray := by
          apply Array.ext'; simp
        simp only [execOp, ho, resolve, Sem.run_bind, hz, Deferred.ofValue, Sem.run_pure, Result.andThen_ok, invoke, hxs, hco]
      rw [hrun]
      rw [Oper.upon_enter]
      refine hc.mono ?_
      rintro e' w' ⟨v', ρ', rfl, h1, h2, h3⟩
      exact hK v' ρ' w' h1 h2 h3

theorem guard_sound {all : Array Oper} {e : Env} {ρ : Ren} {a : Act} {o : Oper} {b} (he : EnvR ρ e a) (h : guardA all e o.guard = some b) : Region.wanted o (yielded all a.tmps) = b := by
  unfold guardA at h
  unfold Region.wanted
  cases hg : o.guard with
  | none => rw [hg] at h; simpa using h
  | some p =>
    obtain ⟨j, want⟩ := p
    rw [hg] at h
    simp only at h ⊢
    unfold yielded
    cases hd : (all[j]?).bind (·.dst) with
    | none => rw [hd] at h; simp at h; subst h; simp
    | some d =>
      rw [hd] at h
      simp only at h
      have hv := he d
      split at h
      · rename_i q hq
        simp at h; subst h
        rw [hq] at hv
        rw [Array.getD_eq_getD_getElem?] at hv
        cases ht : a.tmps[d]? with
        | none =>
          rw [ht] at hv
          simp only [Option.getD_none] at hv
          exact absurd hv (by intro hh; unfold undef at hh; cases hh)
        | some y =>
          rw [ht] at hv
          simp only [Option.getD_some] at hv
          cases hv
          simp only [Option.bind_some, ht]
          rfl
      · rename_i hq
        simp at h; subst h
        rw [hq] at hv
        rw [Array.getD_eq_getD_getElem?] at hv
        cases ht : a.tmps[d]? with
        | none => simp [ht]
        | some y =>
          rw [ht] at hv
          simp only [Option.getD_some] at hv
          obtain ⟨vs, rfl, hvs⟩ := hv.tup_inv
          simp [ht]
      · simp at h

theorem Act1_wp (SF : SoundF P F) {all : Array Oper} {flag} {i : Nat} {o : Oper} {e m v m1 ρ a w n} {K : Act → World → Prop} {Q : Exit → Act → World → Prop} (ho : all[i]? = some o) (hd : ∀ d, o.dst = some d → d < n)
    (h : Act1 P F all flag o e m v m1) (S : SR P B w0 n e m ρ a w)
    (hK : ∀ ρ' a' w', Sub ρ ρ' → SR P B w0 n (putd e o.dst v) m1 ρ' a' w' → K a' w') : wpOp P all Q i K a w := by
  unfold wpOp
  simp only [ho]
  cases h with
  | skip hg =>
    rw [guard_sound S.env hg]
    simp only [Bool.false_eq_true, if_false]
    exact hK ρ _ w (Sub.refl _) (S.put S.rel (Sub.refl _) VR_undef hd)
  | step hg h =>
    rw [guard_sound S.env hg]
    simp only [if_true]
    exact .inl (Step_wp SF h S fun v' ρ' w' h1 h2 h3 => hK ρ' _ w' h3 (S.put h2 h3 h1 hd))

def dstsOk (n : Nat) (all : Array Oper) : Prop := ∀ (i : Nat) (o : Oper), all[i]? = some o → ∀ d, o.dst = some d → d < n

theorem EvO_wp (SF : SoundF P F) {all : Array Oper} {fl l e m e' m' n} {Q : Exit → Act → World → Prop} (hd : dstsOk n all) (h : EvO P F all fl l e m e' m') : ∀ {ρ a w}, SR P B w0 n e m ρ a w →
    (∀ ρ' a' w', Sub ρ ρ' → SR P B w0 n e' m' ρ' a' w' → Q .normal a' w') → wpOps P all Q l a w := by
  induction h with
  | nil => intro ρ a w S hQ; exact hQ ρ a w (Sub.refl _) S
  | cons ho h _ ih =>
    intro ρ a w S hQ
    rw [wpOps_cons]
    exact Act1_wp SF ho (hd _ _ ho) h S fun ρ' a' w' h1 S' => ih S' fun ρ2 a2 w2 h2 S2 => hQ ρ2 a2 w2 (h1.trans h2) S2

/-! ### A region in any order -/

def Resp (all : Array Oper) : (Nat → Prop) → List Nat → Prop
  | _, [] => True
  | D, i :: l => (∀ x ∈ edgesAt all i, D x) ∧ Resp all (fun x => x = i ∨ D x) l

theorem Resp.mono {all : Array Oper} : ∀ {l : List Nat} {D D' : Nat → Prop}, (∀ x, D x → D' x) → Resp all D l → Resp all D' l
  | [], _, _, _, _ => trivial
  | i :: l, D, D', h, r => ⟨fun x hx => h x (r.1 x hx), Resp.mono (fun x hx => hx.imp id (h x)) r.2⟩

theorem Resp.erase {all : Array Oper} {i : Nat} : ∀ {l : List Nat} {D : Nat → Prop}, Resp all D l → Resp all (fun x => x = i ∨ D x) (l.erase i)
  | [], _, _ => trivial
  | x :: l, D, r => by
    by_cases hx : x = i
    · subst hx
      rw [List.erase_cons_head]
      exact r.2
    · rw [List.erase_cons_tail (by simpa using hx)]
      refine ⟨fun y hy => .inr (r.1 y hy), ?_⟩
      exact (Resp.erase r.2).mono fun y hy => by
        rcases hy with h | h | h
        · exact .inr (.inl h)
        · exact .inl h
        · exact .inr (.inr h)

def PairOk (P : Program) (all : Array Oper) (T : List (Nat × Nat)) (fl : Nat → Bool) (x i : Nat) : Prop :=
  (lkN T i).testBit x = true ∨ (swapOk P all x i = true ∧ (clsAt P all x = .lod → clsAt P all i = .ser → fl i = true ∨ fl x = true))

/-- What a table of ancestors says. -/
def TabOk (all : Array Oper) (T : List (Nat × Nat)) : Prop := ∀ i x, (lkN T i).testBit x = true → ∀ D : Nat → Prop, (∀ y, D y → ∀ z ∈ edgesAt all y, D z) → (∀ z ∈ edgesAt all i, D z) → D x

theorem maskOf_bit {T : List (Nat × Nat)} : ∀ {xs : List Nat} {x : Nat}, (maskOf T xs).testBit x = true → ∃ e ∈ xs, x = e ∨ (lkN T e).testBit x = true
  | [], x, h => by simp [maskOf] at h
  | y :: ys, x, h => by
    simp only [maskOf, Nat.testBit_or, Bool.or_eq_true] at h
    rcases h with (h | h) | h
    · rw [Nat.testBit_two_pow] at h
      have h' : y = x := by simpa using h
      exact ⟨y, by simp, .inl h'.symm⟩
    · exact ⟨y, by simp, .inr h⟩
    · obtain ⟨e, he, h⟩ := maskOf_bit h
      exact ⟨e, by simp [he], h⟩

theorem tabOf_ok {all : Array Oper} : ∀ {l : List Nat} {T : List (Nat × Nat)}, TabOk all T → TabOk all (tabOf all T l)
  | [], T, h => h
  | i :: l, T, h => by
    refine tabOf_ok (l := l) ?_
    intro j x hx D hD hj
    simp only [lkN] at hx
    split at hx
    · subst_vars
      obtain ⟨e, he, h'⟩ := maskOf_bit hx
      rcases h' with rfl | h'
      · exact hj _ he
      · exact h e x h' D hD (hD e (hj e he))
    · exact h j x hx D hD hj

theorem draw_wp (SF : SoundF P F) (N : Nice F) {all : Array Oper} {fl : Nat → Bool} {T : List (Nat × Nat)} (hT : TabOk all T) {n : Nat} (hd : dstsOk n all) {e' m'} {Q : Exit → Act → World → Prop} :
    ∀ (k : Nat) {l : List Nat} {listed : Array Bool} {e m ρ a w}, l.length = k → EvO P F all fl l e m e' m' → l.Nodup → listed.size = all.size → (∀ i, i < all.size → listed.getD i true = false → i ∈ l) →
      (∀ i ∈ l, i < all.size ∧ listed.getD i true = false) → (∀ y, listed.getD y false = true → ∀ z ∈ edgesAt all y, listed.getD z false = true) →
      Resp all (fun x => listed.getD x false = true) l → l.Pairwise (PairOk P all T fl) → SR P B w0 n e m ρ a w →
      (∀ ρ' a' w', Sub ρ ρ' → SR P B w0 n e' m' ρ' a' w' → Q .normal a' w') → wpAny P .any all Q k listed a w := by
  have edges_ready : ∀ {listed : Array Bool} {i}, i < all.size → (i ∈ Region.ready .any all listed ↔ (listed.getD i true = false ∧ ∀ z ∈ edgesAt all i, listed.getD z false = true)) := by
    intro listed i hi
    have ho : all[i]? = some all[i] := Array.getElem?_eq_getElem hi
    simp only [Region.ready, List.mem_filter, List.mem_range, hi, true_and, ho, Option.map_some, Option.getD_some, Bool.and_eq_true, Bool.not_eq_true', edgesAt, edges]
    refine and_congr_right fun _ => ?_
    constructor
    · intro h z hz
      simp only [List.mem_map, List.mem_filter] at hz
      obtain ⟨ed, ⟨h1, h2⟩, rfl⟩ := hz
      rw [Array.all_eq_true'] at h
      have := h ed (Array.mem_toList_iff.1 h1)
      simpa [h2] using this
    · intro h
      rw [Array.all_eq_true']
      intro ed hed
      cases hb : Region.binds .any ed with
      | false => simp
      | true =>
        simp only [Bool.not_true, Bool.false_or]
        exact h ed.on (List.mem_map.2 ⟨ed, List.mem_filter.2 ⟨Array.mem_toList_iff.2 hed, hb⟩, rfl⟩)
  intro k
  induction k with
  | zero =>
    intro l listed e m ρ a w hl h hnd hsz hcov hmem hcl hresp hpw S hQ
    have : l = [] := List.eq_nil_of_length_eq_zero hl
    subst this
    cases h
    refine ⟨?_, hQ ρ a w (Sub.refl _) S⟩
    rw [List.eq_nil_iff_forall_not_mem]
    intro i hi
    have hlt : i < all.size := by simp [Region.ready] at hi; exact hi.1
    have := ((edges_ready hlt).1 hi).1
    exact absurd (hcov i hlt this) (by simp)
  | succ k ih =>
    intro l listed e m ρ a w hl h hnd hsz hcov hmem hcl hresp hpw S hQ
    refine ⟨fun hr => ?_, fun i hi => ?_⟩
    · cases l with
      | nil => simp at hl
      | cons x l =>
        have hx := hmem x (by simp)
        have : x ∈ Region.ready .any all listed := (edges_ready hx.1).2 ⟨hx.2, hresp.1⟩
        rw [hr] at this; simp at this
    · have hlt : i < all.size := by simp [Region.ready] at hi; exact hi.1
      obtain ⟨hnl, hed⟩ := (edges_ready hlt).1 hi
      have hil := hcov i hlt hnl
      obtain ⟨p, q, rfl⟩ := List.append_of_mem hil
      have hip : i ∉ p := by
        intro hh
        have := List.nodup_append.1 hnd
        exact this.2.2 i hh i (by simp) rfl
      have herase : (p ++ i :: q).erase i = p ++ q := by
        rw [List.erase_append_right _ hip, List.erase_cons_head]
      have hsub : (p ++ q).Sublist (p ++ i :: q) := List.Sublist.append_left (List.sublist_cons_self i q) p
      have hb := h.bubble N (fun x hx => by
        have hpx := (List.pairwise_append.1 hpw).2.2 x hx i (by simp)
        rcases hpx with hbit | hok
        · have := hT i x hbit (fun z => listed.getD z false = true) hcl hed
          have hxm := (hmem x (by simp [hx])).2
          rw [Array.getD_eq_getD_getElem?] at this hxm
          have hxs : x < listed.size := by rw [hsz]; exact (hmem x (by simp [hx])).1
          rw [Array.getElem?_eq_getElem hxs] at this hxm
          simp at this hxm
          rw [this] at hxm; simp at hxm
        · exact hok)
      cases hb with
      | cons ho ha hr =>
        rename_i o v m1
        have hset : ∀ j d, (listed.setIfInBounds i true).getD j d = if j = i then true else listed.getD j d := by
          intro j d
          rw [Array.getD_eq_getD_getElem?, Array.getD_eq_getD_getElem?, Array.getElem?_setIfInBounds]
          by_cases hj : j = i
          · subst hj; simp [hsz, hlt]
          · rw [if_neg (Ne.symm hj), if_neg hj]
        refine Act1_wp SF ho (hd _ _ ho) ha S fun ρ' a' w' h1 S' => ?_
        refine ih (l := p ++ q) ?_ hr (hsub.nodup hnd) (by simpa using hsz) ?_ ?_ ?_ ?_ (hpw.sublist hsub) S' (fun ρ2 a2 w2 h2 S2 => hQ ρ2 a2 w2 (h1.trans h2) S2)
        · simp at hl ⊢; omega
        · intro j hj hn
          rw [hset] at hn
          split at hn
          · simp at hn
          · have := hcov j hj hn
            simp only [List.mem_append, List.mem_cons] at this ⊢
            rcases this with h | h | h
            · exact .inl h
            · contradiction
            · exact .inr h
        · intro j hj
          have hj' := hmem j (hsub.subset hj)
          refine ⟨hj'.1, ?_⟩
          rw [hset, if_neg]
          · exact hj'.2
          · rintro rfl
            have hnd2 := hnd
            rw [List.nodup_append] at hnd2
            simp only [List.mem_append] at hj
            rcases hj with hj | hj
            · exact hip hj
            · have := hnd2.2.1
              simp at this
              exact this.1 hj
        · intro y hy z hz
          rw [hset] at hy ⊢
          split
          · rfl
          · split at hy
            · subst_vars; exact hed z hz
            · exact hcl y hy z hz
        · have := hresp.erase (i := i)
          rw [herase] at this
          refine this.mono fun x hx => ?_
          rw [hset]
          split
          · rfl
          · rcases hx with h | h
            · contradiction
            · exact h

end

/-! ### Said more weakly, still true -/

theorem Wk.sound {fz : Nat → Option (List AV)} {nw : Nat → Prop} {ρ ρ' : Ren} (hS : Sub ρ ρ')
    (H : ∀ b cs, fz b = some cs → ∃ l vs, ρ b = some l ∧ VRs ρ cs vs ∧ ∀ (j : Nat) v, vs[j]? = some v → ρ'.imm l.blk (l.off + j) = some v)
    (Hn : ∀ b, nw b → ∃ l, ρ' b = some l) {v v' : AV} (h : Wk fz nw v v') : ∀ {x}, VR ρ v x → VR ρ' v' x := by
  induction h with
  | refl v => exact fun hx => hx.mono hS
  | any v => exact fun _ => .any _
  | snil s => intro x hx; cases hx; exact .rs0 _ _ _
  | nil0 h => intro x hx; cases hx; obtain ⟨l, hl⟩ := Hn _ h; exact .sl0 hl _
  | sl h hl hes hel =>
    rename_i b o n s cs es
    intro x hx
    obtain ⟨l, vs, h1, h2, h3⟩ := H b cs h
    cases hx with
    | sl k1 k2 k3 =>
      rename_i l' cap
      rw [h1] at k1; simp at k1; subst k1
      have hvl : vs.length = cs.length := h2.1.symm
      have hlen : ∀ i, i < n → 0 < s → o + i * s + s ≤ cs.length := by
        intro i hi hs
        have hi' : i < es.length := by omega
        have he := hes i es[i] (List.getElem?_eq_getElem hi')
        have hel' := hel es[i] (List.getElem_mem hi')
        rw [he] at hel'
        simp at hel'
        omega
      have get : ∀ i j, i < n → j < s → vs[o + i * s + j]? = some (vs.getD (o + i * s + j) undef) := by
        intro i j hi hj
        have := hlen i hi (by omega)
        rw [List.getD, List.getElem?_eq_getElem (by omega)]; rfl
      refine .rs (fun i j => vs.getD (o + i * s + j) undef) hl k2 hel (fun i j e c e1 e2 => ?_) (fun i j hi hj => ?_)
      · have hi : i < n := by have := (List.getElem?_eq_some_iff.1 e1).1; omega
        have hj : j < s := by have := (List.getElem?_eq_some_iff.1 e2).1; have := hel e (List.mem_of_getElem? e1); omega
        have hc : cs[o + i * s + j]? = some c := by
          rw [hes i e e1, List.getElem?_take, if_pos hj, List.getElem?_drop] at e2
          exact e2
        exact (h2.2 _ _ _ hc (get i j hi hj)).mono hS
      · rw [← h3 _ _ (get i j hi hj)]
        congr 1; omega
    | sl0 k1 a =>
      have : es = [] := List.eq_nil_of_length_eq_zero hl
      subst this
      exact .rs0 _ _ _
  | ptr h =>
    rename_i b o cs
    intro x hx
    obtain ⟨l, vs, h1, h2, h3⟩ := H b cs h
    cases hx with
    | ptr k1 =>
      rw [h1] at k1; simp at k1; subst k1
      have hvl : vs.length = cs.length := h2.1.symm
      have get : ∀ j, j < cs.length → vs[j]? = some (vs.getD j undef) := by
        intro j hj
        rw [List.getD, List.getElem?_eq_getElem (by omega)]; rfl
      exact .rp (fun j => vs.getD j undef) (fun j c hc => (h2.2 _ _ _ hc (get j (List.getElem?_eq_some_iff.1 hc).1)).mono hS) (fun j hj => h3 _ _ (get j hj))
  | agg hl _ ih =>
    intro x hx
    obtain ⟨vs, rfl, hvs⟩ := hx.agg_inv
    refine .agg (by rw [← hl]; exact hvs.1) fun i d v h1 h2 => ?_
    have hi : i < _ := (List.getElem?_eq_some_iff.1 h1).1
    rw [← hl] at hi
    exact ih i _ d (List.getElem?_eq_getElem hi) h1 (hvs.2 i _ _ (List.getElem?_eq_getElem hi) h2)
  | tup hl _ ih =>
    intro x hx
    obtain ⟨vs, rfl, hvs⟩ := hx.tup_inv
    refine .tup (by rw [← hl]; exact hvs.1) fun i d v h1 h2 => ?_
    have hi : i < _ := (List.getElem?_eq_some_iff.1 h1).1
    rw [← hl] at hi
    exact ih i _ d (List.getElem?_eq_getElem hi) h1 (hvs.2 i _ _ (List.getElem?_eq_getElem hi) h2)
  | fn hl _ hl' _ ih ih' =>
    intro x hx
    cases hx with
    | fn h1 h2 h3 h4 =>
      refine .fn (by rw [← hl]; exact h1) (fun i d v e1 e2 => ?_) (by rw [← hl']; exact h3) (fun i d v e1 e2 => ?_)
      · have hi : i < _ := (List.getElem?_eq_some_iff.1 e1).1
        rw [← hl] at hi
        exact ih i _ d (List.getElem?_eq_getElem hi) e1 (h2 i _ _ (List.getElem?_eq_getElem hi) e2)
      · have hi : i < _ := (List.getElem?_eq_some_iff.1 e1).1
        rw [← hl'] at hi
        exact ih' i _ d (List.getElem?_eq_getElem hi) e1 (h4 i _ _ (List.getElem?_eq_getElem hi) e2)
  | iface _ ih =>
    intro x hx
    cases hx with
    | iface h => exact .iface (ih h)
  | @rs s es es' hl hel _ ih =>
    intro x hx
    cases hx with
    | rs vs hn hc hls hv hi =>
      refine .rs vs (by rw [← hl]; exact hn) hc (fun e' he' => ?_) (fun i j e' d e1 e2 => ?_) (fun i j h1 h2 => hS.2 _ _ _ (hi i j h1 h2))
      · obtain ⟨i, hi, rfl⟩ := List.getElem_of_mem he'
        have hi' : i < es.length := by omega
        rw [← hel i es[i] es'[i] (List.getElem?_eq_getElem hi') (List.getElem?_eq_getElem hi)]
        exact hls _ (List.getElem_mem hi')
      · have hi : i < es'.length := (List.getElem?_eq_some_iff.1 e1).1
        have hi' : i < es.length := by omega
        have hj : j < e'.length := (List.getElem?_eq_some_iff.1 e2).1
        have hj' : j < es[i].length := by rw [hel i es[i] e' (List.getElem?_eq_getElem hi') e1]; exact hj
        exact ih i j es[i] e' es[i][j] d (List.getElem?_eq_getElem hi') e1 (List.getElem?_eq_getElem hj') e2 (hv i j _ _ (List.getElem?_eq_getElem hi') (List.getElem?_eq_getElem hj'))
    | rs0 =>
      have : es' = [] := List.eq_nil_of_length_eq_zero (by rw [← hl]; rfl)
      subst this
      exact .rs0 _ _ _
  | @rp cs ds o hl _ ih =>
    intro x hx
    cases hx with
    | rp vs h1 h2 =>
      refine .rp vs (fun j d hd => ?_) (fun j hj => hS.2 _ _ _ (h2 j (by omega)))
      have hj : j < ds.length := (List.getElem?_eq_some_iff.1 hd).1
      have hj' : j < cs.length := by omega
      exact ih j cs[j] d (List.getElem?_eq_getElem hj') hd (h1 j _ (List.getElem?_eq_getElem hj'))

open Classical in
theorem Weak.sound {P : Program} {B : Nat} {w0 : World} {n : Nat} {e m ρ a w e' m'} (S : SR P B w0 n e m ρ a w) (h : Weak e m e' m') : ∃ ρ', Sub ρ ρ' ∧ SR P B w0 n e' m' ρ' a w := by
  obtain ⟨R, E, D, Z⟩ := S
  obtain ⟨⟨fz, nw, f1, f2, f3, f4⟩, dom⟩ := h
  let cov : Nat → Nat → Prop := fun a o => ∃ b cs l, fz b = some cs ∧ ρ b = some l ∧ l.blk = a ∧ l.off ≤ o ∧ o < l.off + cs.length
  let ρ' : Ren := ⟨fun x => if nw x then some ⟨0, 0, 0, true⟩ else ρ x, fun a o => if cov a o then w.cell? ⟨a, o, none⟩ else ρ.imm a o⟩
  have nwn : ∀ b, nw b → ρ b = none := fun b hb => R.dom b (f2 b hb).1
  have hS : Sub ρ ρ' := by
    refine ⟨fun b l hl => ?_, fun a o v hv => ?_⟩
    · show (if nw b then some _ else ρ b) = some l
      rw [if_neg (fun hb => by rw [nwn b hb] at hl; cases hl)]; exact hl
    · show (if cov a o then w.cell? ⟨a, o, none⟩ else ρ.imm a o) = some v
      split
      · exact (R.imm a o v hv).1
      · exact hv
  have back : ∀ b l, ρ' b = some l → ¬ nw b → ρ b = some l := fun b l hl hb => by
    have : (if nw b then some (⟨0, 0, 0, true⟩ : Loc) else ρ b) = some l := hl
    rwa [if_neg hb] at this
  have backn : ∀ b l, ρ' b = some l → nw b → l = ⟨0, 0, 0, true⟩ := fun b l hl hb => by
    have : (if nw b then some (⟨0, 0, 0, true⟩ : Loc) else ρ b) = some l := hl
    rw [if_pos hb] at this
    simpa using this.symm
  have H : ∀ b cs, fz b = some cs → ∃ l vs, ρ b = some l ∧ VRs ρ cs vs ∧ ∀ (j : Nat) v, vs[j]? = some v → ρ'.imm l.blk (l.off + j) = some v := by
    intro b cs hb
    obtain ⟨k, k1, k2, k3, k4⟩ := f1 b cs hb
    obtain ⟨l, vs, h1, h2, h3⟩ := R.rd b k k1 (by rcases k3 with h | h <;> rw [h] <;> decide)
    rw [k2] at h2
    refine ⟨l, vs, h1, h2, fun j v hv => ?_⟩
    have hj : j < cs.length := by have := (List.getElem?_eq_some_iff.1 hv).1; have := h2.1; omega
    show (if cov l.blk (l.off + j) then w.cell? ⟨l.blk, l.off + j, none⟩ else _) = some v
    rw [if_pos ⟨b, cs, l, hb, h1, rfl, by omega, by omega⟩]
    exact h3 j v hv
  have Hn : ∀ b, nw b → ∃ l, ρ' b = some l := fun b hb => ⟨⟨0, 0, 0, true⟩, by show (if nw b then some _ else ρ b) = some _; rw [if_pos hb]⟩
  have nowNew : ∀ b, nw b → ∀ k', m'.blk b = some k' → ∃ ty, k' = ⟨.own, [], ty, []⟩ := fun b hb k' hk' => by
    obtain ⟨_, ty, h⟩ := f2 b hb
    rw [h] at hk'; simp at hk'; exact ⟨ty, hk'.symm⟩
  have old : ∀ b k', m'.blk b = some k' → k'.st ≠ .dead → ¬ nw b → ∃ k, m.blk b = some k ∧ k'.st = k.st ∧ k'.ety = k.ety ∧ (∀ a ∈ k.anc, a ∈ k'.anc ∨ ∃ ka, m'.blk a = some ka ∧ ka.st = .dead) ∧
      k.cells.length = k'.cells.length ∧ ∀ (i : Nat) (c d : AV), k.cells[i]? = some c → k'.cells[i]? = some d → Wk fz nw c d := fun b k' hk hd hb => by
    rcases f4 b k' hk hd with h | h
    · exact absurd h hb
    · exact h
  refine ⟨ρ', hS, ⟨?_, fun i => (f3 i).sound hS H Hn (E i), D, Z⟩⟩
  refine ⟨R.below, R.size, ?_, ?_, ?_, ?_, ?_, ?_, ?_⟩
  · exact R.gl.mono hS
  · intro b hb
    have h1 := R.dom b (dom b hb)
    have hnb : ¬ nw b := fun h => by obtain ⟨_, ty, h⟩ := f2 b h; rw [hb] at h; cases h
    show (if nw b then some _ else ρ b) = none
    rw [if_neg hnb]; exact h1
  · intro b k' hk hd
    by_cases hb : nw b
    · obtain ⟨ty, rfl⟩ := nowNew b hb k' hk
      obtain ⟨l, hl⟩ := Hn b hb
      exact ⟨l, [], hl, VRs.nil, fun j v hv => by simp at hv⟩
    · obtain ⟨k, k1, k2, k3, k4, k5, k6⟩ := old b k' hk hd hb
      obtain ⟨l, vs, h1, h2, h3⟩ := R.rd b k k1 (by rw [← k2]; exact hd)
      refine ⟨l, vs, hS.1 _ _ h1, ⟨by rw [← k5]; exact h2.1, fun i d v e1 e2 => ?_⟩, h3⟩
      have hi := (List.getElem?_eq_some_iff.1 e1).1
      rw [← k5] at hi
      exact (k6 i _ d (List.getElem?_eq_getElem hi) e1).sound hS H Hn (h2.2 i _ _ (List.getElem?_eq_getElem hi) e2)
  · intro b k' l hk hs hl
    by_cases hb : nw b
    · obtain ⟨ty, rfl⟩ := nowNew b hb k' hk; cases hs
    · obtain ⟨k, k1, k2, _⟩ := old b k' hk (by rw [hs]; decide) hb
      exact R.ro b k l k1 (by rw [← k2]; exact hs) (back b l hl hb)
  · intro b k' l hk hs hl
    by_cases hb : nw b
    · obtain ⟨ty, rfl⟩ := nowNew b hb k' hk
      have := backn b l hl hb
      subst this
      exact ⟨rfl, by simp, fun h => by simp at h⟩
    · obtain ⟨k, k1, k2, k3, k4, k5, k6⟩ := old b k' hk (by rcases hs with h | h <;> rw [h] <;> decide) hb
      have := R.own b k l k1 (by rw [← k2]; exact hs) (back b l hl hb)
      rw [k5, ← k3] at this
      exact this
  · intro b c kb kc lb lc hb hc hlb hlc hsc hsb hne hpb hpc hblk
    have nb : ¬ nw b := fun h => by have := backn b lb hlb h; subst this; simp at hpb
    have nc : ¬ nw c := fun h => by have := backn c lc hlc h; subst this; simp at hpc
    obtain ⟨b0, k1, k2, k3, k4, k5, k6⟩ := old b kb hb (by rcases hsb with h | h <;> rw [h] <;> decide) nb
    obtain ⟨c0, j1, j2, j3, j4, j5, j6⟩ := old c kc hc (by rw [hsc]; decide) nc
    obtain ⟨r1, r2, r3⟩ := R.sep b c b0 c0 lb lc k1 j1 (back b lb hlb nb) (back c lc hlc nc) (by rw [← j2]; exact hsc) (by rw [← k2]; exact hsb) hne hpb hpc hblk
    refine ⟨by rw [k2]; exact r1, ?_, by omega⟩
    rcases j4 b r2 with h | ⟨ka, h, h2⟩
    · exact h
    · rw [hb] at h; simp at h; subst h
      rcases hsb with h | h <;> rw [h2] at h <;> cases h
  · intro a o v hv
    have hv : (if cov a o then w.cell? ⟨a, o, none⟩ else ρ.imm a o) = some v := hv
    by_cases hc : cov a o
    · rw [if_pos hc] at hv
      refine ⟨hv, fun c kc lc hkc hsc hlc hp => ?_⟩
      have nc : ¬ nw c := fun h => by have := backn c lc hlc h; subst this; simp at hp
      obtain ⟨c0, j1, j2, j3, j4, j5, j6⟩ := old c kc hkc (by rw [hsc]; decide) nc
      obtain ⟨b, cs, l, q1, q2, q3, q4, q5⟩ := hc
      obtain ⟨k, k1, k2, k3, k4⟩ := f1 b cs q1
      have hlc' := back c lc hlc nc
      rcases k3 with k3 | k3
      · have hne : b ≠ c := by
          rintro rfl
          have := k4 k3 kc hkc
          rw [hsc] at this; cases this
        intro hbl
        have hph := (R.own b k l k1 (.inl k3) q2).2.1
        rw [k2] at hph
        have := (R.sep b c k c0 l lc k1 j1 q2 hlc' (by rw [← j2]; exact hsc) (.inl k3) hne (by omega) hp (by omega)).1
        rw [k3] at this; cases this
      · have h1 := (R.ro b k l k1 k3 q2).2
        have h2 := ((R.own c c0 lc j1 (.inl (by rw [← j2]; exact hsc)) hlc').2.2 hp).1
        omega
    · rw [if_neg hc] at hv
      obtain ⟨h1, h2⟩ := R.imm a o v hv
      refine ⟨h1, fun c kc lc hkc hsc hlc hp => ?_⟩
      have nc : ¬ nw c := fun h => by have := backn c lc hlc h; subst this; simp at hp
      obtain ⟨c0, j1, j2, _⟩ := old c kc hkc (by rw [hsc]; decide) nc
      exact h2 c c0 lc j1 (by rw [← j2]; exact hsc) (back c lc hlc nc) hp

theorem Weaks.sound {P : Program} {B : Nat} {w0 : World} {n : Nat} {e m ρ a w e' m'} (S : SR P B w0 n e m ρ a w) (h : Weaks e m e' m') : ∃ ρ', Sub ρ ρ' ∧ SR P B w0 n e' m' ρ' a w := by
  induction h generalizing ρ with
  | refl => exact ⟨ρ, Sub.refl _, S⟩
  | step h _ ih =>
    obtain ⟨ρ1, s1, S1⟩ := h.sound S
    obtain ⟨ρ2, s2, S2⟩ := ih S1
    exact ⟨ρ2, s1.trans s2, S2⟩

end Go.Proofs.Ytdchdlabdokjnaa.Am
