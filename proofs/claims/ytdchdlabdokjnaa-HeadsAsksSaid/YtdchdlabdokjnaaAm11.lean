/- AM: code and functions: what a derivation says, the machine does. -/
import Derived.Test.YtdchdlabdokjnaaAm10
namespace Go.Proofs.Ytdchdlabdokjnaa.Am
set_option linter.unusedSectionVars false
open Go
open Go.RowKit (Below)
set_option linter.unusedVariables false
set_option linter.unusedSimpArgs false
variable [Tab]

section
variable {P : Program}

theorem nodupB_spec : ∀ {l : List Nat}, nodupB l = true → l.Nodup
  | [], _ => List.nodup_nil
  | x :: l, h => by
    simp only [nodupB, Bool.and_eq_true, Bool.not_eq_true'] at h
    exact List.nodup_cons.2 ⟨by simpa using h.1, nodupB_spec h.2⟩

theorem respects_spec {all : Array Oper} : ∀ {l done : List Nat}, respects all done l = true → Resp all (fun x => x ∈ done) l
  | [], _, _ => trivial
  | i :: l, done, h => by
    simp only [respects, Bool.and_eq_true, List.all_eq_true] at h
    refine ⟨fun x hx => by simpa using h.1 x hx, (respects_spec h.2).mono fun x hx => by simpa using hx⟩

theorem pairsOk_spec {all : Array Oper} {T} : ∀ {l : List Nat}, pairsOk P all T l = true → l.Pairwise (fun x i => (lkN T i).testBit x = true ∨ swapOk P all x i = true)
  | [], _ => List.Pairwise.nil
  | x :: l, h => by
    simp only [pairsOk, Bool.and_eq_true, List.all_eq_true, Bool.or_eq_true] at h
    exact List.Pairwise.cons h.1 (pairsOk_spec h.2)

theorem flOf_spec {all : Array Oper} {T} : ∀ (l : List Nat), l.Pairwise (fun x i => (lkN T i).testBit x = true ∨ (clsAt P all x = .lod → flOf P all T l i = true))
  | [] => List.Pairwise.nil
  | x :: l => by
    refine List.Pairwise.cons (fun i hi => ?_) ((flOf_spec l).imp fun {y i} h => h.imp id fun h hc => by simp only [flOf, Bool.or_eq_true]; exact .inr (h hc))
    by_cases hb : (lkN T i).testBit x = true
    · exact .inl hb
    · refine .inr fun hc => ?_
      simp only [flOf, Bool.or_eq_true, Bool.and_eq_true]
      refine .inl ⟨⟨by rw [hc]; rfl, by simpa using hi⟩, by simpa using hb⟩

theorem drawOk_spec {all : Array Oper} {π : List Nat} (h : drawOk P all π = true) : π.Nodup ∧ π.length = all.size ∧ (∀ i, i < all.size → i ∈ π) ∧ (∀ i ∈ π, i < all.size) ∧
    Resp all (fun _ => False) π ∧ π.Pairwise (PairOk P all (tabOf all [] π) (flOf P all (tabOf all [] π) π)) := by
  simp only [drawOk, Bool.and_eq_true, List.all_eq_true] at h
  obtain ⟨⟨⟨⟨⟨h0, h1⟩, h2⟩, h3⟩, h4⟩, h5⟩ := h
  refine ⟨nodupB_spec h0, by simpa using h1, fun i hi => by simpa using h2 i (by simpa using hi), fun i hi => by simpa using h3 i hi, (respects_spec h4).mono fun x hx => by simp at hx, ?_⟩
  have a := pairsOk_spec h5
  have b := flOf_spec (P := P) (all := all) (T := tabOf all [] π) π
  refine (a.and b).imp fun {x i} h => ?_
  unfold PairOk
  rcases h with ⟨h1 | h1, h2⟩
  · exact .inl h1
  · rcases h2 with h2 | h2
    · exact .inl h2
    · exact .inr ⟨h1, h2⟩

theorem dstOk_region {n id ops b} (h : dstOk n (.region id ops b) = true) : dstsOk n ops := by
  intro i o ho d hd
  simp only [dstOk, List.all_eq_true] at h
  have := h o (Array.mem_toList_iff.2 (Array.mem_of_getElem? ho))
  rw [hd] at this
  simpa using this

def toExit : Ex → Exit
  | .normal => .normal
  | .exit id => .exit id
  | .ret => .ret

theorem then_ne {x : Ex} {K : Act → World → Prop} {Q : Exit → Act → World → Prop} {a w} (hx : x ≠ .normal) (h : Q (toExit x) a w) : Exit.then K Q (toExit x) a w := by
  cases x with
  | normal => exact absurd rfl hx
  | exit id => exact h
  | ret => exact h

variable {F : FnRel} {B : Nat} {w0 : World}

def Post (P : Program) (B : Nat) (w0 : World) (n : Nat) (e' : Env) (m' : Mem) (ρ : Ren) (x : Ex) (Q : Exit → Act → World → Prop) : Prop :=
  ∀ ρ' a' w', Sub ρ ρ' → SR P B w0 n e' m' ρ' a' w' → Q (toExit x) a' w'

theorem EvC_sound (hm : P.follows .mixedOrders = true) (SF : SoundF P F) (N : Nice F) {n : Nat} {c e m x e' m'} (h : EvC P F c e m x e' m') : dstOk n c = true →
    (∀ {ρ a w Q}, SR P B w0 n e m ρ a w → Post P B w0 n e' m' ρ x Q → c.wp P Q a w) ∧
    (∀ c0, c = .loop c0 → ∃ k, ∀ {ρ a w Q}, SR P B w0 n e m ρ a w → Post P B w0 n e' m' ρ x Q → Code.rounds P c0 Q k a w) := by
  induction h with
  | skip => exact fun _ => ⟨fun S hQ => wp_skip (hQ _ _ _ (Sub.refl _) S), fun _ h => by cases h⟩
  | label => exact fun _ => ⟨fun S hQ => wp_label (hQ _ _ _ (Sub.refl _) S), fun _ h => by cases h⟩
  | exit => exact fun _ => ⟨fun S hQ => wp_exit (hQ _ _ _ (Sub.refl _) S), fun _ h => by cases h⟩
  | ret => exact fun _ => ⟨fun S hQ => wp_ret (hQ _ _ _ (Sub.refl _) S), fun _ h => by cases h⟩
  | seq_n h1 h2 ih1 ih2 =>
    intro hd
    simp only [dstOk, Bool.and_eq_true] at hd
    refine ⟨fun S hQ => wp_seq ?_, fun _ h => by cases h⟩
    exact (ih1 hd.1).1 S fun ρ' a' w' s1 S' => (ih2 hd.2).1 S' fun ρ2 a2 w2 s2 S2 => hQ _ _ _ (s1.trans s2) S2
  | seq_x h hx ih =>
    intro hd
    simp only [dstOk, Bool.and_eq_true] at hd
    exact ⟨fun S hQ => wp_seq ((ih hd.1).1 S fun ρ' a' w' s1 S' => then_ne hx (hQ _ _ _ s1 S')), fun _ h => by cases h⟩
  | cond hc h ih =>
    rename_i c a b e m t x e' m'
    intro hd
    simp only [dstOk, Bool.and_eq_true] at hd
    refine ⟨fun {ρ ac w Q} S hQ => ?_, fun _ h => by cases h⟩
    have hv := ev_sound S.rel.gl S.env c
    rw [hc] at hv
    have he : ac.eval c = .bool t := by generalize ac.eval c = z at hv; cases hv; rfl
    refine wp_cond he ((ih ?_).1 S hQ)
    cases t
    · exact hd.2
    · exact hd.1
  | block h ih =>
    rename_i id c e m x e' m'
    intro hd
    refine ⟨fun S hQ => wp_block ((ih hd).1 S fun ρ' a' w' s1 S' => ?_), fun _ h => by cases h⟩
    have := hQ _ _ _ s1 S'
    by_cases hx : x = .exit id
    · subst hx
      simpa [toExit, Exit.inBlock] using this
    · rw [if_neg hx] at this
      cases x with
      | normal => exact this
      | ret => exact this
      | exit id' =>
        have hne : ¬ id' = id := fun h => hx (by rw [h])
        simpa [toExit, Exit.inBlock, hne] using this
  | loop_n h1 h2 ih1 ih2 =>
    rename_i c e m e1 m1 x e' m'
    intro hd
    obtain ⟨k, hk⟩ := (ih2 hd).2 c rfl
    have key : ∀ {ρ a w Q}, SR P B w0 n e m ρ a w → Post P B w0 n e' m' ρ x Q → Code.rounds P c Q (k + 1) a w := fun S hQ =>
      (ih1 (by simpa [dstOk] using hd)).1 S fun ρ' a' w' s1 S' => hk S' fun ρ2 a2 w2 s2 S2 => hQ _ _ _ (s1.trans s2) S2
    exact ⟨fun S hQ => wp_loop_rounds _ (key S hQ), fun c0 h => by cases h; exact ⟨_, key⟩⟩
  | loop_x h hx ih =>
    rename_i c e m x e' m'
    intro hd
    have key : ∀ {ρ a w Q}, SR P B w0 n e m ρ a w → Post P B w0 n e' m' ρ x Q → Code.rounds P c Q 1 a w := fun S hQ =>
      (ih (by simpa [dstOk] using hd)).1 S fun ρ' a' w' s1 S' => then_ne hx (hQ _ _ _ s1 S')
    exact ⟨fun S hQ => wp_loop_rounds _ (key S hQ), fun c0 h => by cases h; exact ⟨_, key⟩⟩
  | region h =>
    intro hd
    refine ⟨fun S hQ => wp_region (EvO_wp SF (dstOk_region hd) h S fun ρ' a' w' s1 S' => hQ _ _ _ s1 S'), fun _ h => by cases h⟩
  | draw π hok h =>
    rename_i id ops e m e' m'
    intro hd
    refine ⟨fun {ρ a w Q} S hQ => ?_, fun _ h => by cases h⟩
    obtain ⟨h1, h2, h3, h4, h5, h6⟩ := drawOk_spec hok
    refine wp_region_any hm ?_
    have S' : SR P B w0 n e m ρ a { w with drawn := w.drawn + 1 } := ⟨S.rel.same ⟨rfl, rfl, rfl, rfl⟩, S.env, S.defs, S.siz⟩
    rw [← h2]
    have hT : TabOk ops (tabOf ops [] π) := tabOf_ok (fun i x hx => by simp [lkN] at hx)
    refine draw_wp SF N hT (dstOk_region hd) π.length rfl h h1 (by simp [h2]) (fun i hi _ => h3 i hi) (fun i hi => ⟨h4 i hi, ?_⟩) ?_ (h5.mono fun x hx => hx.elim) h6 S' (fun ρ' a' w' s1 S' => hQ _ _ _ s1 S')
    · have := h4 i hi
      simp [Array.getD_eq_getD_getElem?, h2, this]
    · intro y hy
      simp only [Array.getD_eq_getD_getElem?, Array.getElem?_replicate] at hy
      split at hy <;> simp at hy
  | @weak c e m x e1 m1 e' m' h hw ih =>
    intro hd
    have wk : ∀ {ρ Q}, Post P B w0 n e' m' ρ x Q → Post P B w0 n e1 m1 ρ x Q := fun hQ ρ' a' w' s1 S' => by
      obtain ⟨ρ2, s2, S2⟩ := hw.sound S'
      exact hQ _ _ _ (s1.trans s2) S2
    refine ⟨fun S hQ => (ih hd).1 S (wk hQ), fun c0 hc => ?_⟩
    obtain ⟨k, hk⟩ := (ih hd).2 c0 hc
    exact ⟨k, fun S hQ => hk S (wk hQ)⟩
  | weakL hw h ih =>
    intro hd
    refine ⟨fun S hQ => ?_, fun c0 hc => ?_⟩
    · obtain ⟨ρ2, s2, S2⟩ := hw.sound S
      exact (ih hd).1 S2 fun ρ' a' w' s1 S' => hQ _ _ _ (s2.trans s1) S'
    · obtain ⟨k, hk⟩ := (ih hd).2 c0 hc
      refine ⟨k, fun S hQ => ?_⟩
      obtain ⟨ρ2, s2, S2⟩ := hw.sound S
      exact hk S2 fun ρ' a' w' s1 S' => hQ _ _ _ (s2.trans s1) S'

theorem lk_argL : ∀ (args : List AV) (k i : Nat), lk (argL k args) i = if k ≤ i then (args[i - k]?).getD .any else .any
  | [], k, i => by simp [argL, lk]
  | a :: as, k, i => by
    simp only [argL, lk]
    rw [lk_argL as (k + 1) i]
    by_cases h : i = k
    · subst h; simp
    · rw [if_neg h]
      by_cases h2 : k ≤ i
      · rw [if_pos (by omega), if_pos h2, show i - k = (i - (k + 1)) + 1 by omega, List.getElem?_cons_succ]
      · rw [if_neg (by omega), if_neg h2]

theorem resOne_sound {ρ : Ren} {m} {w : World} {e : Env} {a : Act} {r v} (R : Rel P B w0 ρ m w) (he : EnvR ρ e a) (h : resOne P e m r = some v) :
    ∃ v', (match r with
      | .tmp t => pure (a.tmps.getD t undef)
      | .cell ad t => do loadVar t (← asAddr (a.tmps.getD ad undef)) : Sem Value).run P w = .ok v' w ∧ VR ρ v v' := by
  unfold resOne at h
  split at h
  · rename_i t
    simp at h; subst h
    exact ⟨_, rfl, he t⟩
  · rename_i ad t
    split at h
    · rename_i b o hx
      simp only [Option.bind_eq_some_iff] at h
      obtain ⟨k, hk, h⟩ := h
      obtain ⟨hd, h⟩ := guardO_some h
      simp only [Option.bind_eq_some_iff] at h
      obtain ⟨ti, hti, h⟩ := h
      obtain ⟨l, vs, h1, h2, h3⟩ := R.rd b k hk hd
      have hv := he ad
      rw [hx] at hv
      generalize hz : a.tmps.getD ad undef = z at hv
      cases hv with
      | ptr hl =>
        rw [h1] at hl; simp at hl; subst hl
        obtain ⟨v', r1, r2⟩ := run_loadVar (l := l) hti h h2 h3
        exact ⟨v', by simp only [hz, asAddr, Sem.run_bind, Sem.run_pure, Result.andThen_ok, r1], r2⟩
    · simp at h

theorem resList_sound {ρ : Ren} {m} {w : World} {e : Env} {a : Act} (R : Rel P B w0 ρ m w) (he : EnvR ρ e a) : ∀ {rs vs}, resList P e m rs = some vs →
    ∃ vs', (rs.mapM (m := Sem) fun
      | .tmp t => pure (a.tmps.getD t undef)
      | .cell ad t => do loadVar t (← asAddr (a.tmps.getD ad undef))).run P w = .ok vs' w ∧ VRs ρ vs vs'
  | [], vs, h => by simp [resList] at h; subst h; exact ⟨[], rfl, VRs.nil⟩
  | r :: rs, vs, h => by
    simp only [resList, Option.bind_eq_some_iff] at h
    obtain ⟨v, h1, us, h2, h3⟩ := h
    simp at h3; subst h3
    obtain ⟨v', r1, r2⟩ := resOne_sound R he h1
    obtain ⟨us', r3, r4⟩ := resList_sound R he h2
    exact ⟨v' :: us', by simp only [List.mapM_cons, Sem.run_bind, r1, Result.andThen_ok, r3, Sem.run_pure], VRs.cons r2 r4⟩

theorem resA_sound {ρ : Ren} {m} {w : World} {e : Env} {a : Act} {fn : Func} {v} (R : Rel P B w0 ρ m w) (he : EnvR ρ e a) (h : resA P fn.results.toList e m = some v) :
    ∃ v', (results fn a.tmps).run P w = .ok v' w ∧ VR ρ v v' := by
  simp only [resA, Option.bind_eq_some_iff] at h
  obtain ⟨vs, h1, h2⟩ := h
  obtain ⟨vs', r1, r2⟩ := resList_sound R he h1
  have hrun : ∀ f : Array Value → Value, (do let vs ← fn.results.mapM (m := Sem) (fun
      | .tmp t => pure (a.tmps.getD t undef)
      | .cell ad t => do loadVar t (← asAddr (a.tmps.getD ad undef))); pure (f vs) : Sem Value).run P w = .ok (f vs'.toArray) w := by
    intro f
    rw [Array.mapM_eq_mapM_toList]
    simp only [Sem.run_bind, Sem.run_map, r1, Result.andThen_ok, Sem.run_pure]
  refine ⟨_, hrun _, ?_⟩
  split at h2
  · rename_i v0
    simp at h2; subst h2
    obtain ⟨v', us, rfl, hv, hus⟩ := r2.cons_inv
    have : us = [] := List.eq_nil_of_length_eq_zero (by have := hus.1; simpa using this.symm)
    subst this
    simpa using hv
  · rename_i hne
    simp at h2; subst h2
    have hl : ¬ (vs'.toArray.size = 1) := by
      intro hl
      have hlen : vs.length = 1 := by rw [r2.1]; simpa using hl
      match vs, hlen with
      | [v0], _ => exact hne v0 rfl
    rw [dif_neg hl]
    exact r2.mk_tup

theorem EvF_sound (hm : P.follows .mixedOrders = true) : ∀ d, SoundF P (EvF P d)
  | 0 => fun g args m v m1 h => h.elim
  | d + 1 => fun g args m v m1 h => by
    have SF := EvF_sound hm d
    have N := EvF_nice P d
    obtain ⟨fn, c, x, e', m2, v2, h1, h2, h3, h4, h5, h6, h7, h8⟩ := h
    refine ⟨⟨fn, c, h1, h2, h3⟩, fun B w0 ρ w args' R hargs => ?_⟩
    refine calls_of_wp h1 h2 ?_
    have S : SR P B w0 fn.ntmps (lk (argL 0 args)) m ρ { tmps := args'.toArray ++ Array.replicate (fn.ntmps - args'.toArray.size) undef, defers := [] } w := by
      refine ⟨R, fun i => ?_, rfl, by simp; omega⟩
      rw [lk_argL]
      simp only [Nat.zero_le, if_true, Nat.sub_zero]
      by_cases hi : i < args.length
      · rw [List.getElem?_eq_getElem hi]
        have hi' : i < args'.length := by have := hargs.1; omega
        have hget : (args'.toArray ++ Array.replicate (fn.ntmps - args'.toArray.size) undef).getD i undef = args'[i] := by
          rw [Array.getD_eq_getD_getElem?, Array.getElem?_append_left (by simpa using hi')]
          simp [hi']
        simp only [Option.getD_some]
        rw [hget]
        exact hargs.2 i _ _ (List.getElem?_eq_getElem hi) (List.getElem?_eq_getElem hi')
      · rw [List.getElem?_eq_none (by omega)]
        exact .any _
    refine (EvC_sound hm SF N h5 h4).1 S fun ρ' a' w' s1 S' => ?_
    obtain ⟨v', r1, r2⟩ := resA_sound S'.rel S'.env h7
    have S0 : SR P B w0 1 (lk [(0, v2)]) m2 ρ' { tmps := #[v'], defers := [] } w' := by
      refine ⟨S'.rel, fun i => ?_, rfl, by simp⟩
      by_cases hi : i = 0
      · subst hi; simp only [lk]; exact r2
      · simp only [lk, if_neg hi]; exact .any _
    obtain ⟨ρ2, s2, S2⟩ := h8.sound S0
    have r3 : VR ρ2 v v' := S2.env 0
    rcases h6 with rfl | rfl
    · exact ⟨S'.defs, v', r1, v', ρ2, rfl, r3, S2.rel, s1.trans s2⟩
    · exact ⟨S'.defs, v', r1, v', ρ2, rfl, r3, S2.rel, s1.trans s2⟩

end
end Go.Proofs.Ytdchdlabdokjnaa.Am
