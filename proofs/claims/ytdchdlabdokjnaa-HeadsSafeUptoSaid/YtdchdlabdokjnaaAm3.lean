/- AM: what a pure operation answers is what the machine answers. -/
import Derived.Test.YtdchdlabdokjnaaAm2
namespace Go.Proofs.Ytdchdlabdokjnaa.Am
set_option linter.unusedSectionVars false
open Go
set_option linter.unusedVariables false
set_option linter.unusedSimpArgs false
variable [Tab]

theorem run_und {P : Program} {t d} (h : P.underlying t = some d) (w : World) : (underlying t).run P w = .ok d w := run_underlying h w
theorem run_ti {P : Program} {t i} (h : P.info? t = some i) (w : World) : (typeInfo t).run P w = .ok i w := by
  simp [typeInfo, h]
theorem run_size {P : Program} {t i} (h : P.info? t = some i) (w : World) : (Go.sizeOf t).run P w = .ok i.size w := by
  simp [Go.sizeOf, run_ti h]
theorem run_zero {P : Program} {t i z} (h : P.info? t = some i) (hz : i.zero = some z) (w : World) : (zeroValue t).run P w = .ok z w := by
  simp [zeroValue, run_ti h, hz]

theorem isAgg_tdOf {P : Program} {t d} (h : P.underlying t = some d) (w : World) : (isAgg t).run P w = .ok (tdOf P t d).isAgg w := by
  simp only [isAgg, Sem.run_bind, run_und h, Result.andThen_ok]
  cases d <;> rfl

theorem array_extract_toList {vs : List Value} {o n : Nat} : vs.toArray.extract o (o + n) = ((vs.drop o).take n).toArray := by
  apply Array.ext'
  simp [List.extract_eq_take_drop]

theorem partA_sound {P : Program} {ρ : Ren} {ti t cs vs off v} (w : World) (ht : tiOf P t = some ti) (h : partA ti cs off = some v) (hs : VRs ρ cs vs) :
    ∃ v', (part t vs.toArray off).run P w = .ok v' w ∧ VR ρ v v' := by
  obtain ⟨i, d, z, hi, hd, hz, e1, e2, e3, e4, e5⟩ := tiOf_spec ht
  have ha := isAgg_tdOf hd w
  unfold partA at h
  rw [e1] at h
  split at h
  · rename_i hagg
    obtain ⟨hle, h⟩ := guardO_some h
    simp at h; subst h
    refine ⟨_, ?_, ((hs.drop off).take ti.size).mk_agg⟩
    rw [hagg] at ha
    simp only [part, Sem.run_bind, ha, Result.andThen_ok, if_true, run_size hi, Sem.run_pure]
    rw [← e2, array_extract_toList]
  · rename_i hagg
    rw [hagg] at ha
    obtain ⟨v', h1, h2⟩ := hs.get h
    refine ⟨v', ?_, h2⟩
    simp only [part, Sem.run_bind, ha, Result.andThen_ok]
    simp [h1]

theorem ofLeaf_int {ρ : Ren} {k n v} (h : VR ρ (.int k n) v) : v = .int k n := by cases h; rfl

theorem bool_decide_eq (a c : Int) : (a == c) = decide (a = c) := by
  by_cases h : a = c <;> simp [h]

theorem str_beq (s u : List UInt8) : ((⟨s.toArray⟩ : ByteArray).toList == (⟨u.toArray⟩ : ByteArray).toList) = decide (s = u) := by
  rw [ByteArray.toList_eq, ByteArray.toList_eq]
  simp
  by_cases h : s = u <;> simp [h]

theorem eqV_sound {P : Program} {ρ : Ren} (w : World) : ∀ (d : Nat) {t x y r x' y'}, eqV P d t x y = some r → VR ρ x x' → VR ρ y y' → ∀ d', d ≤ d' → (Op.equalIn d' t x' y').run P w = .ok r w := by
  intro d
  induction d with
  | zero => intro t x y r x' y' h; simp [eqV] at h
  | succ d ih =>
    have key : ∀ (fs : List Field) {xs ys : List AV} {us vs : List Value} {r}, (fs.all (fun f => f.name != "_")) = true → eqV.eqFs P d (fs.map fun f => (f.offset, f.type)) xs ys = some r →
        VRs ρ xs us → VRs ρ ys vs → ∀ d', d ≤ d' → (Op.eqFields d' us.toArray vs.toArray fs).run P w = .ok r w := by
      intro fs
      induction fs with
      | nil => intro xs ys us vs r _ h _ _ d' _; simp [eqV.eqFs] at h; subst h; simp [Op.eqFields]
      | cons f fs ihf =>
        intro xs ys us vs r hn h hx hy d' hd
        simp only [List.all_cons, Bool.and_eq_true] at hn
        simp only [List.map_cons, eqV.eqFs, Option.bind_eq_some_iff] at h
        obtain ⟨fi, hfi, a, ha, c, hc, r1, hr1, s, hs, hr⟩ := h
        simp at hr; subst hr
        obtain ⟨a', ra, va⟩ := partA_sound w hfi ha hx
        obtain ⟨c', rc, vc⟩ := partA_sound w hfi hc hy
        have h1 := ih hr1 va vc d' hd
        have h2 := ihf hn.2 hs hx hy d' hd
        have hne : f.name ≠ "_" := by simpa using hn.1
        simp only [Op.eqFields, if_pos hne, Sem.run_bind, ra, rc, h1, Result.andThen_ok]
        cases r1
        · simp
        · simpa using h2
    intro t x y r x' y' h hx hy d' hd
    obtain ⟨d', rfl⟩ : ∃ n, d' = n + 1 := ⟨d' - 1, by omega⟩
    simp only [eqV, Option.bind_eq_some_iff] at h
    obtain ⟨ti, hti, h⟩ := h
    obtain ⟨i, dd, z, hi, hdd, hz, e1, e2, e3, e4, e5⟩ := tiOf_spec hti
    rw [e1] at h
    split at h
    · rename_i k0 k a k' c hk
      obtain ⟨hkk, h⟩ := guardO_some h
      simp at h; subst h; subst hkk
      cases hx; cases hy
      cases dd <;> simp [tdOf] at hk
      subst hk
      rw [run_equalIn_int w d' t k _ a c hdd, bool_decide_eq]
    · rename_i p q hk
      simp at h; subst h
      cases hx; cases hy
      cases dd <;> simp [tdOf] at hk
      exact run_equalIn_bool' w d' t p q hdd
    · rename_i s u hk
      simp at h; subst h
      cases hx; cases hy
      cases dd <;> simp [tdOf] at hk
      rw [run_equalIn_string w d' t _ _ hdd, str_beq]
    · rename_i fs xs ys hk
      cases dd <;> simp [tdOf] at hk
      rename_i fields
      obtain ⟨hk1, hk2⟩ := hk
      obtain ⟨us, rfl, hu⟩ := hx.agg_inv
      obtain ⟨vs, rfl, hv⟩ := hy.agg_inv
      have hf : P.fieldsOf t = fields := by simp [Program.fieldsOf, hdd]
      rw [run_equalIn_struct w d' t _ _ (by rw [hf]; exact hdd) hk2.1.2, hf]
      rw [← hk1] at h
      exact key fields.toList (by simpa using hk2.1.1) h hu hv d' (by omega)
    · simp at h

theorem isBool_und {P : Program} {t d} (h : (tdOf P t d).isBool = true) : d = .bool := by cases d <;> simp [tdOf, TD.isBool] at h; rfl
theorem isPtr_und {P : Program} {t d} (h : (tdOf P t d).isPtr = true) : ∃ e, d = .pointer e := by cases d <;> simp [tdOf, TD.isPtr] at h; exact ⟨_, rfl⟩
theorem isFunc_und {P : Program} {t d} (h : (tdOf P t d).isFunc = true) : ∃ a b c, d = .func a b c := by cases d <;> simp [tdOf, TD.isFunc] at h; exact ⟨_, _, _, rfl⟩

theorem eqV_plain {P : Program} {d t xs ys r} (h : eqV P d t (.agg xs) (.agg ys) = some r) : P.eqGuardType P.depth t = false := by
  cases d with
  | zero => simp [eqV] at h
  | succ d =>
    simp only [eqV, Option.bind_eq_some_iff] at h
    obtain ⟨ti, hti, h⟩ := h
    obtain ⟨i, dd, z, hi, hdd, hz, e1, e2, e3, e4, e5⟩ := tiOf_spec hti
    rw [e1] at h
    split at h
    · simp_all
    · simp_all
    · simp_all
    · have hk : ∃ fs, tdOf P t dd = TD.struct fs true := ⟨_, by assumption⟩
      obtain ⟨fs, hk⟩ := hk
      cases dd <;> simp [tdOf] at hk
      exact hk.2.2
    · simp at h

theorem eqIn_ptr_nil {P : Program} {t e} (w : World) (d : Nat) (h : P.underlying t = some (.pointer e)) (a : Addr) : (Op.equalIn (d + 1) t (.pointer (some a)) (.pointer none)).run P w = .ok false w := by
  simp [Op.equalIn, run_und h]
theorem eqIn_nil_ptr {P : Program} {t e} (w : World) (d : Nat) (h : P.underlying t = some (.pointer e)) (a : Option Addr) : (Op.equalIn (d + 1) t (.pointer none) (.pointer a)).run P w = .ok a.isNone w := by
  simp [Op.equalIn, run_und h]
theorem eqIn_fn_nil {P : Program} {t a b c} (w : World) (d : Nat) (h : P.underlying t = some (.func a b c)) (f x y) : (Op.equalIn (d + 1) t (.func f x y) .nilFunc).run P w = .ok false w := by
  simp [Op.equalIn, run_und h]
theorem eqIn_nilfn {P : Program} {t a b c} (w : World) (d : Nat) (h : P.underlying t = some (.func a b c)) : (Op.equalIn (d + 1) t .nilFunc .nilFunc).run P w = .ok true w := by
  simp [Op.equalIn, run_und h]

theorem eqA_sound {P : Program} {ρ : Ren} {t x y r x' y'} (w : World) (h : eqA P t x y = some r) (hx : VR ρ x x') (hy : VR ρ y y') :
    (Op.equal t x' y').run P w = .ok r w ∧ ∀ op ox oy, (eqGuard op t ox oy x' y').run P w = .ok () w := by
  unfold eqA at h
  unfold Op.equal Op.maxDepth
  split at h
  all_goals try (simp only [Option.bind_eq_some_iff] at h; obtain ⟨ti, hti, h⟩ := h; obtain ⟨i, dd, z, hi, hdd, hz, e1, e2, e3, e4, e5⟩ := tiOf_spec hti; obtain ⟨hk, h⟩ := guardO_some h; rw [e1] at hk; simp at h; subst h)
  · cases hx; cases hy
    have := isBool_und hk; subst this
    exact ⟨run_equalIn_bool' w _ t _ _ hdd, fun op ox oy => by cases op <;> simp [eqGuard]⟩
  · cases hx; cases hy
    obtain ⟨e, rfl⟩ := isPtr_und hk
    exact ⟨eqIn_ptr_nil w 9999 hdd _, fun op ox oy => by cases op <;> simp [eqGuard]⟩
  · cases hx; cases hy
    obtain ⟨e, rfl⟩ := isPtr_und hk
    exact ⟨eqIn_nil_ptr w 9999 hdd _, fun op ox oy => by cases op <;> simp [eqGuard]⟩
  · cases hx; cases hy
    obtain ⟨e, rfl⟩ := isPtr_und hk
    exact ⟨eqIn_nil_ptr w 9999 hdd _, fun op ox oy => by cases op <;> simp [eqGuard]⟩
  · cases hx; cases hy
    obtain ⟨_, _, _, rfl⟩ := isFunc_und hk
    exact ⟨eqIn_fn_nil w 9999 hdd _ _ _, fun op ox oy => by cases op <;> simp [eqGuard]⟩
  · cases hx; cases hy
    obtain ⟨_, _, _, rfl⟩ := isFunc_und hk
    exact ⟨eqIn_nilfn w 9999 hdd, fun op ox oy => by cases op <;> simp [eqGuard]⟩
  · have hg := eqV_plain h
    have h1 := eqV_sound w _ h hx hy 10000 (by omega)
    obtain ⟨us, rfl, hu⟩ := hx.agg_inv
    obtain ⟨vs, rfl, hv⟩ := hy.agg_inv
    exact ⟨h1, fun op ox oy => run_eqGuard_agg w op t ox oy _ _ hg⟩
  · simp at h

theorem binInt_sound {P : Program} {ρ : Ren} {op k a c v} (w : World) (xt : TypeId) (hns : op ≠ .shl) (hns' : op ≠ .shr) (h : binInt op k a c = some v) :
    ∃ v', (binOp op xt (.int k a) (.int k c)).run P w = .ok v' w ∧ VR ρ v v' := by
  cases op <;> simp [binInt] at h
  all_goals first
    | (obtain ⟨hc, h⟩ := guardO_some h; simp at h; subst h; refine ⟨_, ?_, .int _ _⟩; simp [binOp, Op.intDiv, hc])
    | (subst h; refine ⟨_, ?_, .int _ _⟩; simp [binOp, Op.intArith, Op.intBits, bitsA])
    | (subst h; refine ⟨_, ?_, .bool _⟩; simp [binOp, Op.intCmp, bool_decide_eq, bne])
    | (exact absurd rfl hns)
    | (exact absurd rfl hns')

theorem binA_sound {P : Program} {ρ : Ren} {op xt x y v x' y'} (w : World) (ox oy : Operand) (h : binA P op xt x y = some v) (hx : VR ρ x x') (hy : VR ρ y y') :
    ∃ v', (do eqGuard op xt ox oy x' y'; binOp op xt x' y' : Sem Value).run P w = .ok v' w ∧ VR ρ v v' := by
  unfold binA at h
  split at h
  · rename_i k a k' c
    cases hx; cases hy
    have hg : (eqGuard op xt ox oy (.int k a) (.int k' c)).run P w = .ok () w := by cases op <;> simp [eqGuard]
    simp only [Sem.run_bind, hg, Result.andThen_ok]
    split at h
    · obtain ⟨hc, h⟩ := guardO_some h
      simp at h; subst h
      refine ⟨_, ?_, .int _ _⟩
      simp [binOp, Op.shift, shlA, Int.not_lt.mpr hc]
    · obtain ⟨hc, h⟩ := guardO_some h
      simp at h; subst h
      refine ⟨_, ?_, .int _ _⟩
      simp [binOp, Op.shift, shrA, Int.not_lt.mpr hc]
    · obtain ⟨hkk, h2⟩ := guardO_some h
      subst hkk
      exact binInt_sound w xt (by assumption) (by assumption) h2
  · rename_i s u
    cases hx; cases hy
    have hg : (eqGuard op xt ox oy (.string ⟨s.toArray⟩) (.string ⟨u.toArray⟩)).run P w = .ok () w := by cases op <;> simp [eqGuard]
    simp only [Sem.run_bind, hg, Result.andThen_ok]
    split at h
    · obtain ⟨hc, h⟩ := guardO_some h
      simp at h; subst h
      refine ⟨_, ?_, .str _⟩
      have hs : ¬ (((ByteArray.size ⟨s.toArray⟩ + ByteArray.size ⟨u.toArray⟩ : Nat) : Int) > IntKind.i64.max) := by
        simp only [maxInt] at hc
        show ¬ (((s.toArray.size + u.toArray.size : Nat) : Int) > 9223372036854775807)
        simp; omega
      simp only [binOp, Op.stringOp]
      rw [if_neg hs]
      simp only [Sem.run_pure]
      congr 2
    · simp at h; subst h
      refine ⟨_, ?_, .bool _⟩
      simp only [binOp, Op.stringOp, Sem.run_pure, str_beq]
    · simp at h; subst h
      refine ⟨_, ?_, .bool _⟩
      simp only [binOp, Op.stringOp, Sem.run_pure, str_beq]
    · simp at h
  · rename_i hni hns
    have he : ∀ r, eqA P xt x y = some r → (Op.equal xt x' y').run P w = .ok r w ∧ (eqGuard op xt ox oy x' y').run P w = .ok () w := fun r hr =>
      ⟨(eqA_sound w hr hx hy).1, (eqA_sound w hr hx hy).2 op ox oy⟩
    have hb : ∀ r, eqA P xt x y = some r → binOp .eql xt x' y' = (do pure (.bool (← Op.equal xt x' y'))) ∧ binOp .neq xt x' y' = (do pure (.bool (!(← Op.equal xt x' y')))) := by
      intro r hr
      unfold eqA at hr
      split at hr <;> first | (simp at hr; done) | (cases hx; cases hy; exact ⟨rfl, rfl⟩)
    split at h
    · simp only [Option.map_eq_some_iff] at h
      obtain ⟨r, hr, rfl⟩ := h
      refine ⟨_, ?_, .bool _⟩
      simp only [Sem.run_bind, (he r hr).2, Result.andThen_ok, (hb r hr).1, (he r hr).1, Sem.run_pure]
    · simp only [Option.map_eq_some_iff] at h
      obtain ⟨r, hr, rfl⟩ := h
      refine ⟨_, ?_, .bool _⟩
      simp only [Sem.run_bind, (he r hr).2, Result.andThen_ok, (hb r hr).2, (he r hr).1, Sem.run_pure]
    · simp at h

theorem unA_sound {P : Program} {ρ : Ren} {op x v x'} (w : World) (h : unA op x = some v) (hx : VR ρ x x') : ∃ v', (Op.unary op x').run P w = .ok v' w ∧ VR ρ v v' := by
  unfold unA at h
  split at h <;> simp only [Option.some.injEq, reduceCtorEq] at h <;> subst h <;> cases hx
  · exact ⟨_, rfl, .bool _⟩
  · exact ⟨_, rfl, .int _ _⟩
  · refine ⟨_, ?_, .int _ _⟩
    simp only [Op.unary, Op.intBits, bitsA, Sem.run_pure]

end Go.Proofs.Ytdchdlabdokjnaa.Am
