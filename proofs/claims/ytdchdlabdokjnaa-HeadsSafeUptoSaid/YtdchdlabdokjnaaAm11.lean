/- AM: code and functions: what a derivation says, the machine does. -/
import Derived.Test.YtdchdlabdokjnaaAm10
import Derived.Scope
namespace Go.Proofs.Ytdchdlabdokjnaa.Am
set_option linter.unusedSectionVars false
open Go
open Go.RowKit (Below)
set_option linter.unusedVariables false
set_option linter.unusedSimpArgs false
variable [Tab]

section
variable {P : Program}

theorem nodupB_spec : ∀ {l : List Nat}, nodupB l = true → l.Nodup
  | [], _ => List.nodup_nil
  | x :: l, h => by
    simp only [nodupB, Bool.and_eq_true, Bool.not_eq_true'] at h
    exact List.nodup_cons.2 ⟨by simpa using h.1, nodupB_spec h.2⟩

theorem respects_spec {all : Array Oper} : ∀ {l done : List Nat}, respects all done l = true → Resp all (fun x => x ∈ done) l
  | [], _, _ => trivial
  | i :: l, done, h => by
    simp only [respects, Bool.and_eq_true, List.all_eq_true] at h
    refine ⟨fun x hx => by simpa using h.1 x hx, (respects_spec h.2).mono fun x hx => by simpa using hx⟩

theorem pairsOk_spec {all : Array Oper} {T} : ∀ {l : List Nat}, pairsOk P all T l = true → l.Pairwise (fun x i => (lkN T i).testBit x = true ∨ swapOk P all x i = true)
  | [], _ => List.Pairwise.nil
  | x :: l, h => by
    simp only [pairsOk, Bool.and_eq_true, List.all_eq_true, Bool.or_eq_true] at h
    exact List.Pairwise.cons h.1 (pairsOk_spec h.2)

theorem flOf_R {all : Array Oper} {T R} {i : Nat} (h : R.contains i = true) : ∀ l : List Nat, flOf P all T R l i = true
  | [] => h
  | x :: l => by simp only [flOf, flOf_R h l, Bool.or_true]
theorem flOf_spec {all : Array Oper} {T R} : ∀ (l : List Nat), l.Pairwise (fun x i => (lkN T i).testBit x = true ∨ (clsAt P all x = .lod → clsAt P all i = .ser → flOf P all T R l i = true ∨ flOf P all T R l x = true))
  | [] => List.Pairwise.nil
  | x :: l => by
    refine List.Pairwise.cons (fun i hi => ?_) ((flOf_spec l).imp fun {y i} h => h.imp id fun h hc hd => (h hc hd).imp (fun h => by simp only [flOf, Bool.or_eq_true]; exact .inr h) (fun h => by simp only [flOf, Bool.or_eq_true]; exact .inr h))
    by_cases hb : (lkN T i).testBit x = true
    · exact .inl hb
    · refine .inr fun hc hd => ?_
      by_cases hR : R.contains x = true
      · exact .inr (flOf_R hR _)
      · left
        simp only [flOf, Bool.or_eq_true, Bool.and_eq_true]
        refine .inl ⟨⟨⟨⟨by rw [hc]; rfl, by rw [hd]; rfl⟩, by simpa using hR⟩, by simpa using hi⟩, by simpa using hb⟩

theorem drawOk_spec {all : Array Oper} {π : List Nat} (R : List Nat) (h : drawOk P all π = true) : π.Nodup ∧ π.length = all.size ∧ (∀ i, i < all.size → i ∈ π) ∧ (∀ i ∈ π, i < all.size) ∧
    Resp all (fun _ => False) π ∧ π.Pairwise (PairOk P all (tabOf all [] π) (flOf P all (tabOf all [] π) R π)) := by
  simp only [drawOk, Bool.and_eq_true, List.all_eq_true] at h
  obtain ⟨⟨⟨⟨⟨h0, h1⟩, h2⟩, h3⟩, h4⟩, h5⟩ := h
  refine ⟨nodupB_spec h0, by simpa using h1, fun i hi => by simpa using h2 i (by simpa using hi), fun i hi => by simpa using h3 i hi, (respects_spec h4).mono fun x hx => by simp at hx, ?_⟩
  have a := pairsOk_spec h5
  have b := flOf_spec (P := P) (all := all) (T := tabOf all [] π) (R := R) π
  refine (a.and b).imp fun {x i} h => ?_
  unfold PairOk
  rcases h with ⟨h1 | h1, h2⟩
  · exact .inl h1
  · rcases h2 with h2 | h2
    · exact .inl h2
    · exact .inr ⟨h1, h2⟩

theorem dstOk_region {n id ops b} (h : dstOk n (.region id ops b) = true) : dstsOk n ops := by
  intro i o ho d hd
  simp only [dstOk, List.all_eq_true] at h
  have := h o (Array.mem_toList_iff.2 (Array.mem_of_getElem? ho))
  rw [hd] at this
  simpa using this

def toExit : Ex → Exit
  | .normal => .normal
  | .exit id => .exit id
  | .ret => .ret

theorem then_ne {x : Ex} {K : Act → World → Prop} {Q : Exit → Act → World → Prop} {a w} (hx : x ≠ .normal) (h : Q (toExit x) a w) : Exit.then K Q (toExit x) a w := by
  cases x with
  | normal => exact absurd rfl hx
  | exit id => exact h
  | ret => exact h

variable {F : FnRel} {B : Nat} {w0 : World}

def Post (P : Program) (B : Nat) (w0 : World) (n : Nat) (e' : Env) (m' : Mem) (ρ : Ren) (x : Ex) (Q : Exit → Act → World → Prop) : Prop :=
  ∀ ρ' a' w', Sub ρ ρ' → SR P B w0 n e' m' ρ' a' w' → Q (toExit x) a' w'

theorem EvC_sound (hm : P.follows .mixedOrders = true) (SF : SoundF P F) (N : Nice F) {n : Nat} {c e m x e' m'} (h : EvC P F c e m x e' m') : dstOk n c = true →
    (∀ {ρ a w Q}, SR P B w0 n e m ρ a w → Post P B w0 n e' m' ρ x Q → c.wp P Q a w) ∧
    (∀ c0, c = .loop c0 → ∃ k, ∀ {ρ a w Q}, SR P B w0 n e m ρ a w → Post P B w0 n e' m' ρ x Q → Code.rounds P c0 Q k a w) := by
  induction h with
  | skip => exact fun _ => ⟨fun S hQ => wp_skip (hQ _ _ _ (Sub.refl _) S), fun _ h => by cases h⟩
  | label => exact fun _ => ⟨fun S hQ => wp_label (hQ _ _ _ (Sub.refl _) S), fun _ h => by cases h⟩
  | exit => exact fun _ => ⟨fun S hQ => wp_exit (hQ _ _ _ (Sub.refl _) S), fun _ h => by cases h⟩
  | ret => exact fun _ => ⟨fun S hQ => wp_ret (hQ _ _ _ (Sub.refl _) S), fun _ h => by cases h⟩
  | seq_n h1 h2 ih1 ih2 =>
    intro hd
    simp only [dstOk, Bool.and_eq_true] at hd
    refine ⟨fun S hQ => wp_seq ?_, fun _ h => by cases h⟩
    exact (ih1 hd.1).1 S fun ρ' a' w' s1 S' => (ih2 hd.2).1 S' fun ρ2 a2 w2 s2 S2 => hQ _ _ _ (s1.trans s2) S2
  | seq_x h hx ih =>
    intro hd
    simp only [dstOk, Bool.and_eq_true] at hd
    exact ⟨fun S hQ => wp_seq ((ih hd.1).1 S fun ρ' a' w' s1 S' => then_ne hx (hQ _ _ _ s1 S')), fun _ h => by cases h⟩
  | cond hc h ih =>
    rename_i c a b e m t x e' m'
    intro hd
    simp only [dstOk, Bool.and_eq_true] at hd
    refine ⟨fun {ρ ac w Q} S hQ => ?_, fun _ h => by cases h⟩
    have hv := ev_sound S.rel.gl S.env c
    rw [hc] at hv
    have he : ac.eval c = .bool t := by generalize ac.eval c = z at hv; cases hv; rfl
    refine wp_cond he ((ih ?_).1 S hQ)
    cases t
    · exact hd.2
    · exact hd.1
  | scope h ih =>
    rename_i c e m x e' m'
    intro hd
    refine ⟨fun S hQ => wp_scope_straight ((ih hd).1 S fun ρ' a' w' s1 S' => ?_), fun _ h => by cases h⟩
    have := hQ _ _ _ s1 S'
    cases x <;> exact this
  | block h ih =>
    rename_i id c e m x e' m'
    intro hd
    refine ⟨fun S hQ => wp_block ((ih hd).1 S fun ρ' a' w' s1 S' => ?_), fun _ h => by cases h⟩
    have := hQ _ _ _ s1 S'
    by_cases hx : x = .exit id
    · subst hx
      simpa [toExit, Exit.inBlock] using this
    · rw [if_neg hx] at this
      cases x with
      | normal => exact this
      | ret => exact this
      | exit id' =>
        have hne : ¬ id' = id := fun h => hx (by rw [h])
        simpa [toExit, Exit.inBlock, hne] using this
  | loop_n h1 h2 ih1 ih2 =>
    rename_i c e m e1 m1 x e' m'
    intro hd
    obtain ⟨k, hk⟩ := (ih2 hd).2 c rfl
    have key : ∀ {ρ a w Q}, SR P B w0 n e m ρ a w → Post P B w0 n e' m' ρ x Q → Code.rounds P c Q (k + 1) a w := fun S hQ =>
      (ih1 (by simpa [dstOk] using hd)).1 S fun ρ' a' w' s1 S' => hk S' fun ρ2 a2 w2 s2 S2 => hQ _ _ _ (s1.trans s2) S2
    exact ⟨fun S hQ => wp_loop_rounds _ (key S hQ), fun c0 h => by cases h; exact ⟨_, key⟩⟩
  | loop_x h hx ih =>
    rename_i c e m x e' m'
    intro hd
    have key : ∀ {ρ a w Q}, SR P B w0 n e m ρ a w → Post P B w0 n e' m' ρ x Q → Code.rounds P c Q 1 a w := fun S hQ =>
      (ih (by simpa [dstOk] using hd)).1 S fun ρ' a' w' s1 S' => then_ne hx (hQ _ _ _ s1 S')
    exact ⟨fun S hQ => wp_loop_rounds _ (key S hQ), fun c0 h => by cases h; exact ⟨_, key⟩⟩
  | region h =>
    intro hd
    refine ⟨fun S hQ => wp_region (EvO_wp SF (dstOk_region hd) h S fun ρ' a' w' s1 S' => hQ _ _ _ s1 S'), fun _ h => by cases h⟩
  | draw π Ri hok h =>
    rename_i id ops e m e' m'
    intro hd
    refine ⟨fun {ρ a w Q} S hQ => ?_, fun _ h => by cases h⟩
    obtain ⟨h1, h2, h3, h4, h5, h6⟩ := drawOk_spec Ri hok
    refine wp_region_any hm ?_
    have S' : SR P B w0 n e m ρ a { w with drawn := w.drawn + 1 } := ⟨S.rel.same ⟨rfl, rfl, rfl, rfl⟩, S.env, S.defs, S.siz⟩
    rw [← h2]
    have hT : TabOk ops (tabOf ops [] π) := tabOf_ok (fun i x hx => by simp [lkN] at hx)
    refine draw_wp SF N hT (dstOk_region hd) π.length rfl h h1 (by simp [h2]) (fun i hi _ => h3 i hi) (fun i hi => ⟨h4 i hi, ?_⟩) ?_ (h5.mono fun x hx => hx.elim) h6 S' (fun ρ' a' w' s1 S' => hQ _ _ _ s1 S')
    · have := h4 i hi
      simp [Array.getD_eq_getD_getElem?, h2, this]
    · intro y hy
      simp only [Array.getD_eq_getD_getElem?, Array.getElem?_replicate] at hy
      split at hy <;> simp at hy
  | @weak c e m x e1 m1 e' m' h hw ih =>
    intro hd
    have wk : ∀ {ρ Q}, Post P B w0 n e' m' ρ x Q → Post P B w0 n e1 m1 ρ x Q := fun hQ ρ' a' w' s1 S' => by
      obtain ⟨ρ2, s2, S2⟩ := hw.sound S'
      exact hQ _ _ _ (s1.trans s2) S2
    refine ⟨fun S hQ => (ih hd).1 S (wk hQ), fun c0 hc => ?_⟩
    obtain ⟨k, hk⟩ := (ih hd).2 c0 hc
    exact ⟨k, fun S hQ => hk S (wk hQ)⟩
  | weakL hw h ih =>
    intro hd
    refine ⟨fun S hQ => ?_, fun c0 hc => ?_⟩
    · obtain ⟨ρ2, s2, S2⟩ := hw.sound S
      exact (ih hd).1 S2 fun ρ' a' w' s1 S' => hQ _ _ _ (s2.trans s1) S'
    · obtain ⟨k, hk⟩ := (ih hd).2 c0 hc
      refine ⟨k, fun S hQ => ?_⟩
      obtain ⟨ρ2, s2, S2⟩ := hw.sound S
      exact hk S2 fun ρ' a' w' s1 S' => hQ _ _ _ (s2.trans s1) S'

theorem lk_argL : ∀ (args : List AV) (k i : Nat), lk (argL k args) i = if k ≤ i then (args[i - k]?).getD .any else .any
  | [], k, i => by simp [argL, lk]
  | a :: as, k, i => by
    simp only [argL, lk]
    rw [lk_argL as (k + 1) i]
    by_cases h : i = k
    · subst h; simp
    · rw [if_neg h]
      by_cases h2 : k ≤ i
      · rw [if_pos (by omega), if_pos h2, show i - k = (i - (k + 1)) + 1 by omega, List.getElem?_cons_succ]
      · rw [if_neg (by omega), if_neg h2]

theorem resOne_sound {ρ : Ren} {m} {w : World} {e : Env} {a : Act} {r v} (R : Rel P B w0 ρ m w) (he : EnvR ρ e a) (h : resOne P e m r = some v) :
    ∃ v', (match r with
      | .tmp t => pure (a.tmps.getD t undef)
      | .cell ad t => do loadVar t (← asAddr (a.tmps.getD ad undef)) : Sem Value).run P w = .ok v' w ∧ VR ρ v v' := by
  unfold resOne at h
  split at h
  · rename_i t
    simp at h; subst h
    exact ⟨_, rfl, he t⟩
  · rename_i ad t
    split at h
    · rename_i b o hx
      simp only [Option.bind_eq_some_iff] at h
      obtain ⟨k, hk, h⟩ := h
      obtain ⟨hd, h⟩ := guardO_some h
      simp only [Option.bind_eq_some_iff] at h
      obtain ⟨ti, hti, h⟩ := h
      obtain ⟨l, vs, h1, h2, h3⟩ := R.rd b k hk hd
      have hv := he ad
      rw [hx] at hv
      generalize hz : a.tmps.getD ad undef = z at hv
      cases hv with
      | ptr hl =>
        rw [h1] at hl; simp at hl; subst hl
        obtain ⟨v', r1, r2⟩ := run_loadVar (l := l) hti h h2 h3
        exact ⟨v', by simp only [hz, asAddr, Sem.run_bind, Sem.run_pure, Result.andThen_ok, r1], r2⟩
    · simp at h

theorem resList_sound {ρ : Ren} {m} {w : World} {e : Env} {a : Act} (R : Rel P B w0 ρ m w) (he : EnvR ρ e a) : ∀ {rs vs}, resList P e m rs = some vs →
    ∃ vs', (rs.mapM (m := Sem) fun
      | .tmp t => pure (a.tmps.getD t undef)
      | .cell ad t => do loadVar t (← asAddr (a.tmps.getD ad undef))).run P w = .ok vs' w ∧ VRs ρ vs vs'
  | [], vs, h => by simp [resList] at h; subst h; exact ⟨[], rfl, VRs.nil⟩
  | r :: rs, vs, h => by
    simp only [resList, Option.bind_eq_some_iff] at h
    obtain ⟨v, h1, us, h2, h3⟩ := h
    simp at h3; subst h3
    obtain ⟨v', r1, r2⟩ := resOne_sound R he h1
    obtain ⟨us', r3, r4⟩ := resList_sound R he h2
    exact ⟨v' :: us', by simp only [List.mapM_cons, Sem.run_bind, r1, Result.andThen_ok, r3, Sem.run_pure], VRs.cons r2 r4⟩

theorem resA_sound {ρ : Ren} {m} {w : World} {e : Env} {a : Act} {fn : Func} {v} (R : Rel P B w0 ρ m w) (he : EnvR ρ e a) (h : resA P fn.results.toList e m = some v) :
    ∃ v', (results fn a.tmps).run P w = .ok v' w ∧ VR ρ v v' := by
  simp only [resA, Option.bind_eq_some_iff] at h
  obtain ⟨vs, h1, h2⟩ := h
  obtain ⟨vs', r1, r2⟩ := resList_sound R he h1
  have hrun : ∀ f : Array Value → Value, (do let vs ← fn.results.mapM (m := Sem) (fun
      | .tmp t => pure (a.tmps.getD t undef)
      | .cell ad t => do loadVar t (← asAddr (a.tmps.getD ad undef))); pure (f vs) : Sem Value).run P w = .ok (f vs'.toArray) w := by
    intro f
    rw [Array.mapM_eq_mapM_toList]
    simp only [Sem.run_bind, Sem.run_map, r1, Result.andThen_ok, Sem.run_pure]
  refine ⟨_, hrun _, ?_⟩
  split at h2
  · rename_i v0
    simp at h2; subst h2
    obtain ⟨v', us, rfl, hv, hus⟩ := r2.cons_inv
    have : us = [] := List.eq_nil_of_length_eq_zero (by have := hus.1; simpa using this.symm)
    subst this
    simpa using hv
  · rename_i hne
    simp at h2; subst h2
    have hl : ¬ (vs'.toArray.size = 1) := by
      intro hl
      have hlen : vs.length = 1 := by rw [r2.1]; simpa using hl
      match vs, hlen with
      | [v0], _ => exact hne v0 rfl
    rw [dif_neg hl]
    exact r2.mk_tup

theorem NoI.sound {ρ ρ' : Ren} (hl : ρ'.loc = ρ.loc) {v x} (h : VR ρ v x) : v.noI = true → VR ρ' v x := by
  induction h with
  | any v => exact fun _ => .any v
  | int k n => exact fun _ => .int k n
  | bool b => exact fun _ => .bool b
  | str s => exact fun _ => .str s
  | ptr h => exact fun _ => .ptr (by rw [hl]; exact h)
  | nilptr => exact fun _ => .nilptr
  | snil => exact fun _ => .snil
  | sl h hn hc => exact fun _ => .sl (by rw [hl]; exact h) hn hc
  | sl0 h a => exact fun _ => .sl0 (by rw [hl]; exact h) a
  | agg hl' _ ih => exact fun hv => .agg hl' fun i c v h1 h2 => ih i c v h1 h2 (noIs_get (by simpa only [AV.noI] using hv) h1)
  | tup hl' _ ih => exact fun hv => .tup hl' fun i c v h1 h2 => ih i c v h1 h2 (noIs_get (by simpa only [AV.noI] using hv) h1)
  | fn hx _ hy _ ih ih' =>
    intro hv
    simp only [AV.noI, Bool.and_eq_true] at hv
    exact .fn hx (fun i c v h1 h2 => ih i c v h1 h2 (noIs_get hv.1 h1)) hy (fun i c v h1 h2 => ih' i c v h1 h2 (noIs_get hv.2 h1))
  | nilfn => exact fun _ => .nilfn
  | iface _ ih => exact fun hv => .iface (ih (by simpa only [AV.noI] using hv))
  | nilif => exact fun _ => .nilif
  | mp h => exact fun _ => .mp (by rw [hl]; exact h)
  | nilmp => exact fun _ => .nilmp
  | rs vs hn hc hl' _ hi ih =>
    intro hv
    simp only [AV.noI, List.isEmpty_iff] at hv
    subst hv
    simp at hn; subst hn
    exact .rs0 _ _ _
  | rs0 s a cap => exact fun _ => .rs0 s a cap
  | rp vs _ hi ih => exact fun hv => by simp [AV.noI] at hv

/-- What can be read in the whole memory, for good. -/
def renAll (ρ : Ren) (w : World) : Ren := ⟨ρ.loc, fun a o => w.cell? ⟨a, o, none⟩⟩
theorem Rel.subAll {ρ : Ren} {m w} (R : Rel P B w0 ρ m w) : Sub ρ (renAll ρ w) := ⟨fun _ _ h => h, fun a o v h => (R.imm a o v h).1⟩
theorem Rel.shut {ρ : Ren} {m w} (R : Rel P B w0 ρ m w) : Rel P w.heap.size w (renAll ρ w) m.shut w := by
  have hd : ∀ b k, m.shut.blk b = some k → k.st = .dead := fun b k h => by
    simp only [Mem.shut, Option.map_eq_some_iff] at h
    obtain ⟨k', _, rfl⟩ := h; rfl
  refine ⟨Below.refl _ _, Nat.le_refl _, R.gl.mono R.subAll, fun b hb => R.dom b (by simpa [Mem.shut] using hb), fun b k hb h => absurd (hd b k hb) h, fun b k l hb h => ?_, fun b k l hb h => ?_,
    fun b c kb kc lb lc h1 h2 h3 h4 h5 => ?_, fun a o v hv => ⟨hv, fun b k l hb h => ?_⟩⟩
  · rw [hd b k hb] at h; cases h
  · rw [hd b k hb] at h; rcases h with h | h <;> cases h
  · rw [hd c kc h2] at h5; cases h5
  · rw [hd b k hb] at h; cases h

theorem Rel.back {ρ ρ' : Ren} {m m1 : Mem} {w w' : World} (R : Rel P B w0 ρ m w) (R1 : Rel P w.heap.size w ρ' m1 w') (hS : Sub (renAll ρ w) ρ') :
    Rel P B w0 ⟨ρ'.loc, ρ.imm⟩ (m.back m1) w' ∧ Sub ρ ⟨ρ'.loc, ρ.imm⟩ := by
  have S : Sub ρ ⟨ρ'.loc, ρ.imm⟩ := ⟨fun b l h => hS.1 b l h, fun _ _ _ h => h⟩
  have cell : ∀ {a : Nat} {o : Nat} {v}, w.cell? ⟨a, o, none⟩ = some v → w'.cell? ⟨a, o, none⟩ = some v := fun {a o v} h =>
    (World.cell?_of_block (w := w) (R1.below.block _ (cellsAt_lt h))).trans h
  have new : ∀ {b k}, m.blk b = none → (m.back m1).blk b = some k → k.st ≠ .dead → m1.blk b = some k ∧ noIs k.cells = true ∧ (k.st = .own ∨ k.st = .old) := fun {b k} h0 h hd => by
    simp only [Mem.back, h0, Option.map_eq_some_iff] at h
    obtain ⟨k', h1, rfl⟩ := h
    unfold Blk.back at hd ⊢
    split
    · rename_i hc; rw [h1]; exact ⟨rfl, hc.2, hc.1⟩
    · rename_i hc; rw [if_neg hc] at hd; exact absurd rfl hd
  have old : ∀ {b k kk}, m.blk b = some kk → (m.back m1).blk b = some k → kk = k := fun {b k kk} h0 h => by
    simp only [Mem.back, h0] at h; simpa using h
  have loc : ∀ {b k l}, m.blk b = some k → ρ'.loc b = some l → k.st ≠ .dead → ρ b = some l := fun {b k l} hb hl hd => by
    obtain ⟨l', _, h1, _⟩ := R.rd b k hb hd
    have := hS.1 b l' h1
    rw [show ρ' b = ρ'.loc b from rfl, hl] at this
    simp at this; subst this; exact h1
  have ownLt : ∀ {b k l}, m.blk b = some k → (k.st = .own ∨ k.st = .old) → ρ b = some l → 0 < l.phys → l.blk < w.heap.size := fun hb hs hl hp => R.blk_lt hb hs hl hp
  have nd : ∀ {k : Blk}, (k.st = .own ∨ k.st = .old) → k.st ≠ .dead := fun h hd => by rw [hd] at h; rcases h with h | h <;> cases h
  refine ⟨⟨?_, Nat.le_trans R.size R1.below.size, R.gl.mono S, fun b hb => R1.dom b (back_none.1 hb).2, fun b k hb hd => ?_, fun b k l hb h hl => ?_, fun b k l hb h hl => ?_,
    fun b c kb kc lb lc h1 h2 h3 h4 h5 h6 h7 h8 h9 h10 => ?_, fun a o v hv => ⟨cell (R.imm a o v hv).1, fun b k l hb h hl hp => ?_⟩⟩, S⟩
  · exact ⟨R1.below.os.trans R.below.os, R1.below.tape.trans R.below.tape, R1.below.output.trans R.below.output, Nat.le_trans R.below.size R1.below.size,
      fun i hi => (R1.below.block i (Nat.lt_of_lt_of_le hi R.size)).trans (R.below.block i hi)⟩
  · cases h0 : m.blk b with
    | some kk =>
      cases old h0 hb
      obtain ⟨l, vs, q1, q2, q3⟩ := R.rd b _ h0 hd
      exact ⟨l, vs, hS.1 _ _ q1, q2.mono S, fun j v hv => cell (q3 j v hv)⟩
    | none =>
      obtain ⟨n1, n2, _⟩ := new h0 hb hd
      obtain ⟨l, vs, q1, q2, q3⟩ := R1.rd b _ n1 hd
      exact ⟨l, vs, q1, ⟨q2.1, fun i c v e1 e2 => NoI.sound (ρ := ρ') (ρ' := ⟨ρ'.loc, ρ.imm⟩) rfl (q2.2 i c v e1 e2) (noIs_get n2 e1)⟩, q3⟩
  · cases h0 : m.blk b with
    | some kk => cases old h0 hb; exact R.ro b _ l h0 h (loc h0 hl (by rw [h]; decide))
    | none =>
      obtain ⟨_, _, n3⟩ := new h0 hb (by rw [h]; decide)
      rw [h] at n3; rcases n3 with n | n <;> cases n
  · cases h0 : m.blk b with
    | some kk =>
      cases old h0 hb
      have hl0 := loc h0 hl (nd h)
      obtain ⟨q1, q2, q3⟩ := R.own b _ l h0 h hl0
      refine ⟨q1, q2, fun hp => ?_⟩
      obtain ⟨q4, cur, fz, q5, q6⟩ := q3 hp
      exact ⟨q4, cur, fz, by rw [R1.below.block _ (ownLt h0 h hl0 hp)]; exact q5, q6⟩
    | none =>
      obtain ⟨n1, n2, _⟩ := new h0 hb (nd h)
      obtain ⟨q1, q2, q3⟩ := R1.own b _ l n1 h hl
      refine ⟨q1, q2, fun hp => ?_⟩
      obtain ⟨q4, q5⟩ := q3 hp
      exact ⟨Nat.le_trans R.size q4, q5⟩
  · have newGe : ∀ {b k l}, m.blk b = none → (m.back m1).blk b = some k → (k.st = .own ∨ k.st = .old) → ρ'.loc b = some l → 0 < l.phys → w.heap.size ≤ l.blk := fun {b k l} h0 hb hs hl hp => by
      obtain ⟨n1, _, _⟩ := new h0 hb (nd hs)
      exact ((R1.own b _ l n1 hs hl).2.2 hp).1
    cases e1 : m.blk b with
    | some k1 =>
      cases old e1 h1
      have l1 := loc e1 h3 (nd h6)
      cases e2 : m.blk c with
      | some k2 =>
        cases old e2 h2
        exact R.sep b c _ _ lb lc e1 e2 l1 (loc e2 h4 (nd (.inl h5))) h5 h6 h7 h8 h9 h10
      | none =>
        have := newGe e2 h2 (.inl h5) h4 h9
        have := ownLt e1 h6 l1 h8
        omega
    | none =>
      cases e2 : m.blk c with
      | some k2 =>
        cases old e2 h2
        have := newGe e1 h1 h6 h3 h8
        have := ownLt e2 (.inl h5) (loc e2 h4 (nd (.inl h5))) h9
        omega
      | none => exact R1.sep b c _ _ lb lc (new e1 h1 (nd h6)).1 (new e2 h2 (nd (.inl h5))).1 h3 h4 h5 h6 h7 h8 h9 h10
  · cases h0 : m.blk b with
    | some kk => cases old h0 hb; exact (R.imm a o v hv).2 b _ l h0 h (loc h0 hl (by rw [h]; decide)) hp
    | none =>
      obtain ⟨n1, _, _⟩ := new h0 hb (by rw [h]; decide)
      have := ((R1.own b _ l n1 (.inl h) hl).2.2 hp).1
      have := cellsAt_lt (R.imm a o v hv).1
      omega

theorem WkArgs.sound {ρ : Ren} {m w args args1 vs} (R : Rel P B w0 ρ m w) (h : WkArgs m.view args args1) (hv : VRs ρ args vs) : VRs (renAll ρ w) args1 vs := by
  refine ⟨h.len ▸ hv.1, fun i d v h1 h2 => ?_⟩
  have hi : i < args.length := by rw [h.len]; exact (List.getElem?_eq_some_iff.1 h1).1
  refine Wk.sound R.subAll (fun b cs hb => ?_) (fun b hb => hb.elim) (h.get i _ d (List.getElem?_eq_getElem hi) h1) (hv.2 i _ _ (List.getElem?_eq_getElem hi) h2)
  simp only [Mem.view, Option.bind_eq_some_iff] at hb
  obtain ⟨k, hk, hb⟩ := hb
  split at hb
  · cases hb
  · rename_i hd
    simp at hb; subst hb
    obtain ⟨l, vs, q1, q2, q3⟩ := R.rd b k hk hd
    exact ⟨l, vs, q1, q2, q3⟩

theorem Brw_sound {F : FnRel} (SF : SoundF P F) : SoundF P (Brw F) := fun g args m v m1 h => by
  obtain ⟨args1, m2, h1, h2, h3, rfl⟩ := h
  obtain ⟨hf, hs⟩ := SF g args1 _ v m2 h2
  refine ⟨hf, fun B w0 ρ w args' R hargs => ?_⟩
  refine (hs _ _ _ w args' R.shut (h1.sound R hargs)).mono ?_
  rintro e w' ⟨v', ρ', rfl, r1, r2, r3⟩
  obtain ⟨R2, S2⟩ := R.back r2 r3
  exact ⟨v', ⟨ρ'.loc, ρ.imm⟩, rfl, NoI.sound (ρ := ρ') (ρ' := ⟨ρ'.loc, ρ.imm⟩) rfl r1 h3, R2, S2⟩

theorem EvF_sound (hm : P.follows .mixedOrders = true) : ∀ d, SoundF P (EvF P d)
  | 0 => fun g args m v m1 h => h.elim
  | d + 1 => fun g args m v m1 h => by
    have SF := EvF_sound hm d
    have N := EvF_nice P d
    obtain ⟨m2, v2, h, h8⟩ := h
    have fin : ∀ {B : Nat} {w0 : World} {ρ' : Ren} {v' : Value} {w' : World}, Rel P B w0 ρ' m2 w' → VR ρ' v2 v' → ∃ ρ2, VR ρ2 v v' ∧ Rel P B w0 ρ2 m1 w' ∧ Sub ρ' ρ2 := fun {B w0 ρ' v' w'} R r2 => by
      have S0 : SR P B w0 1 (lk [(0, v2)]) m2 ρ' { tmps := #[v'], defers := [] } w' := by
        refine ⟨R, fun i => ?_, rfl, by simp⟩
        by_cases hi : i = 0
        · subst hi; simp only [lk]; exact r2
        · simp only [lk, if_neg hi]; exact .any _
      obtain ⟨ρ2, s2, S2⟩ := h8.sound S0
      exact ⟨ρ2, S2.env 0, S2.rel, s2⟩
    rcases h with h | h
    · obtain ⟨fn, c, x, e', h1, h2, h3, h4, h5, h6, h7⟩ := h
      refine ⟨⟨fn, c, h1, h2, h3⟩, fun B w0 ρ w args' R hargs => ?_⟩
      refine calls_of_wp h1 h2 ?_
      have S : SR P B w0 fn.ntmps (lk (argL 0 args)) m ρ { tmps := args'.toArray ++ Array.replicate (fn.ntmps - args'.toArray.size) undef, defers := [] } w := by
        refine ⟨R, fun i => ?_, rfl, by simp; omega⟩
        rw [lk_argL]
        simp only [Nat.zero_le, if_true, Nat.sub_zero]
        by_cases hi : i < args.length
        · rw [List.getElem?_eq_getElem hi]
          have hi' : i < args'.length := by have := hargs.1; omega
          have hget : (args'.toArray ++ Array.replicate (fn.ntmps - args'.toArray.size) undef).getD i undef = args'[i] := by
            rw [Array.getD_eq_getD_getElem?, Array.getElem?_append_left (by simpa using hi')]
            simp [hi']
          simp only [Option.getD_some]
          rw [hget]
          exact hargs.2 i _ _ (List.getElem?_eq_getElem hi) (List.getElem?_eq_getElem hi')
        · rw [List.getElem?_eq_none (by omega)]
          exact .any _
      refine (EvC_sound hm SF N h5 h4).1 S fun ρ' a' w' s1 S' => ?_
      obtain ⟨v', r1, r2⟩ := resA_sound S'.rel S'.env h7
      obtain ⟨ρ2, r3, R2, s2⟩ := fin S'.rel r2
      rcases h6 with rfl | rfl
      · exact ⟨S'.defs, v', r1, v', ρ2, rfl, r3, R2, s1.trans s2⟩
      · exact ⟨S'.defs, v', r1, v', ρ2, rfl, r3, R2, s1.trans s2⟩
    · obtain ⟨hf, hs⟩ := Brw_sound SF g args m v2 m2 h
      refine ⟨hf, fun B w0 ρ w args' R hargs => (hs B w0 ρ w args' R hargs).mono ?_⟩
      rintro e w' ⟨v', ρ', rfl, r1, r2, r3⟩
      obtain ⟨ρ2, q1, q2, q3⟩ := fin r2 r1
      exact ⟨v', ρ2, rfl, q1, q2, r3.trans q3⟩

end
end Go.Proofs.Ytdchdlabdokjnaa.Am
