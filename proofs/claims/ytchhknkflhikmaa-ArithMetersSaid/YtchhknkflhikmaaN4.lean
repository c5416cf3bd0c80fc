/- 'ArithMeters' is proved: whatever timer, detector, detector's state and reading come in, the law answers true, and what came in reads as it did. -/
import Derived.Test.YtchhknkflhikmaaN3
import Derived.Test.YtchhknkflhikmaaRows
import Derived.WalkKit
import Derived.ProofKit
import Derived.OpenShut
import Derived.Below
import Derived.SizedLaws
import Derived.KernelRfl
namespace Go.Proofs.Ytchhknkflhikmaa.Am
open Go
set_option linter.unusedVariables false
set_option linter.unusedSimpArgs false
theorem RdV.struct {H : Type} {P m t fs v} {d : DataW H} (ht : P.underlying t = some (.struct fs)) (hk : known P t = true) (h : RdV P m t v d) :
    ∃ cs ds, v = .agg cs ∧ d = .agg ds ∧ cs.length = P.cellsOf t ∧ ds.length = fs.size ∧ ∀ (i : Nat) f x, fs[i]? = some f → ds[i]? = some x → Rd P m f.type ((cs.drop f.offset).take (P.cellsOf f.type)) x := by
  have ha : aggT P t = true := by simp [aggT, ht]
  unfold RdV at h; rw [ha] at h; simp only at h
  obtain ⟨cs, rfl, h⟩ := h
  cases h with
  | struct h1 h2 h3 h4 => rw [ht] at h1; cases h1; exact ⟨cs, _, rfl, rfl, h2, h3, h4⟩
  | other h1 => rw [hk] at h1; cases h1
  | bool h1 => rw [ht] at h1; cases h1
  | int h1 => rw [ht] at h1; cases h1
  | str h1 => rw [ht] at h1; cases h1
  | nilptr h1 => rw [ht] at h1; cases h1
  | ptr h1 => rw [ht] at h1; cases h1
  | snil h1 => rw [ht] at h1; cases h1
  | sl h1 => rw [ht] at h1; cases h1
  | arr h1 => rw [ht] at h1; cases h1
theorem Rd.bool1 {H : Type} {P m t c} {d : DataW H} (ht : P.underlying t = some .bool) (h : Rd P m t [c] d) : ∃ b, c = .bool b ∧ d = .lit (.bool b) := by
  cases h with
  | bool h1 => exact ⟨_, rfl, rfl⟩
  | other h1 => simp [known, ht] at h1
  | int h1 => rw [ht] at h1; cases h1
  | str h1 => rw [ht] at h1; cases h1
  | nilptr h1 => rw [ht] at h1; cases h1
  | ptr h1 => rw [ht] at h1; cases h1
  | snil h1 => rw [ht] at h1; cases h1
  | sl h1 => rw [ht] at h1; cases h1
  | struct h1 => rw [ht] at h1; cases h1
  | arr h1 => rw [ht] at h1; cases h1
theorem Rd.str1 {H : Type} {P m t c} {d : DataW H} (ht : P.underlying t = some .string) (h : Rd P m t [c] d) : ∃ s, c = .str s ∧ d = .lit (.string s) ∧ s.length ≤ maxLen := by
  cases h with
  | str h1 h2 => exact ⟨_, rfl, rfl, h2⟩
  | other h1 => simp [known, ht] at h1
  | int h1 => rw [ht] at h1; cases h1
  | bool h1 => rw [ht] at h1; cases h1
  | nilptr h1 => rw [ht] at h1; cases h1
  | ptr h1 => rw [ht] at h1; cases h1
  | snil h1 => rw [ht] at h1; cases h1
  | sl h1 => rw [ht] at h1; cases h1
  | struct h1 => rw [ht] at h1; cases h1
  | arr h1 => rw [ht] at h1; cases h1
theorem RdV.bool {H : Type} {P m t v} {d : DataW H} (ht : P.underlying t = some .bool) (h : RdV P m t v d) : ∃ b, v = .bool b ∧ d = .lit (.bool b) := by
  have ha : aggT P t = false := by simp [aggT, ht]
  unfold RdV at h; rw [ha] at h; exact Rd.bool1 ht h
end Go.Proofs.Ytchhknkflhikmaa.Am
namespace Go.Proofs.Ytchhknkflhikmaa
open Go.ChangeShapes Go.WideShapes Go.ChangeAt Go.RowKit
open Am (trodAll_len)
set_option linter.unusedVariables false
set_option linter.unusedSimpArgs false

theorem wf_i32 {n : Int} (h : (Lit.int .i32 n).wf = true) : -2147483648 ≤ n ∧ n ≤ 2147483647 := by
  simp [Lit.wf, IntKind.min, IntKind.max, IntKind.signed, IntKind.bits] at h; omega
theorem wf_i64 {n : Int} (h : (Lit.int .i64 n).wf = true) : -9223372036854775808 ≤ n ∧ n ≤ 9223372036854775807 := by
  simp [Lit.wf, IntKind.min, IntKind.max, IntKind.signed, IntKind.bits] at h; omega
theorem size3 : Try.prog.cellsOf 3 = 1 := by kernel_rfl
theorem size4 : Try.prog.cellsOf 4 = 1 := by kernel_rfl
theorem size9 : Try.prog.cellsOf 9 = 1 := by kernel_rfl
theorem size21 : Try.prog.cellsOf 21 = 1 := by kernel_rfl
theorem size32 : Try.prog.cellsOf 32 = 4 := by kernel_rfl
theorem size34 : Try.prog.cellsOf 34 = 4 := by kernel_rfl
theorem size41 : Try.prog.cellsOf 41 = 2 := by kernel_rfl

theorem arithMeters_core {H : Type} (m : Am.Mem) (avs : List Am.AV) (ds : List (DataW H)) (h : Am.RdL Try.prog m Try.f5.params.toList avs ds) (hs : (DataW.weightsEach Try.prog Try.f5.params.toList ds).all (· ≤ reachBytes) = true) :
    Am.wpF Try.prog 5 avs m fun v _ => v = .bool true := by
  have hp : Try.f5.params.toList = [41, 32, 34, 4] := by rw [Try.params5]
  rw [hp] at h
  clear hs
  obtain ⟨v0, _, d0, _, rfl, rfl, h0, h⟩ := h.cons
  obtain ⟨v1, _, d1, _, rfl, rfl, h1, h⟩ := h.cons
  obtain ⟨v2, _, d2, _, rfl, rfl, h2, h⟩ := h.cons
  obtain ⟨v3, _, d3, _, rfl, rfl, h3, h⟩ := h.cons
  obtain ⟨rfl, rfl⟩ := h.nil
  obtain ⟨raw, rfl, rfl⟩ := h3.bool Try.underlying4
  obtain ⟨cs0, ds0, rfl, rfl, l0, n0, g0⟩ := h0.struct Try.underlying41 (by kernel_rfl)
  obtain ⟨cs1, ds1, rfl, rfl, l1, n1, g1⟩ := h1.struct Try.underlying32 (by kernel_rfl)
  obtain ⟨cs2, ds2, rfl, rfl, l2, n2, g2⟩ := h2.struct Try.underlying34 (by kernel_rfl)
  rw [size41] at l0
  rw [size32] at l1
  rw [size34] at l2
  match cs0, ds0, l0, n0, g0 with
  | [a0, a1], [x0, x1], _, _, g0 =>
  match cs1, ds1, l1, n1, g1 with
  | [b0, b1, b2, b3], [y0, y1, y2, y3], _, _, g1 =>
  match cs2, ds2, l2, n2, g2 with
  | [c0, c1, c2, c3], [z0, z1, z2, z3], _, _, g2 =>
    have e0 : Am.Rd Try.prog m 21 [a0] x0 := by
      have := g0 0 _ x0 rfl rfl
      -- [a0]
      simpa [size21] using this
    have e1 : Am.Rd Try.prog m 4 [a1] x1 := by
      have := g0 1 _ x1 rfl rfl
      -- [a1]
      simpa [size4] using this
    have f0 : Am.Rd Try.prog m 9 [b0] y0 := by
      have := g1 0 _ y0 rfl rfl
      -- [b0]
      simpa [size9] using this
    have f1 : Am.Rd Try.prog m 4 [b1] y1 := by
      have := g1 1 _ y1 rfl rfl
      -- [b1]
      simpa [size4] using this
    have f2 : Am.Rd Try.prog m 3 [b2] y2 := by
      have := g1 2 _ y2 rfl rfl
      -- [b2]
      simpa [size3] using this
    have f3 : Am.Rd Try.prog m 3 [b3] y3 := by
      have := g1 3 _ y3 rfl rfl
      -- [b3]
      simpa [size3] using this
    have k0 : Am.Rd Try.prog m 21 [c0] z0 := by
      have := g2 0 _ z0 rfl rfl
      -- [c0]
      simpa [size21] using this
    have k1 : Am.Rd Try.prog m 21 [c1] z1 := by
      have := g2 1 _ z1 rfl rfl
      -- [c1]
      simpa [size21] using this
    have k2 : Am.Rd Try.prog m 4 [c2] z2 := by
      have := g2 2 _ z2 rfl rfl
      -- [c2]
      simpa [size4] using this
    have k3 : Am.Rd Try.prog m 4 [c3] z3 := by
      have := g2 3 _ z3 rfl rfl
      -- [c3]
      simpa [size4] using this
    obtain ⟨c, rfl, rfl, wc⟩ := e0.int1 Try.underlying21
    obtain ⟨r, rfl, rfl⟩ := e1.bool1 Try.underlying4
    obtain ⟨nm, rfl, rfl, _⟩ := f0.str1 Try.underlying9
    obtain ⟨la, rfl, rfl⟩ := f1.bool1 Try.underlying4
    obtain ⟨de, rfl, rfl, wd⟩ := f2.int1 Try.underlying3
    obtain ⟨ho, rfl, rfl, wh⟩ := f3.int1 Try.underlying3
    obtain ⟨l1, rfl, rfl, w1⟩ := k0.int1 Try.underlying21
    obtain ⟨l2, rfl, rfl, w2⟩ := k1.int1 Try.underlying21
    obtain ⟨on, rfl, rfl⟩ := k2.bool1 Try.underlying4
    obtain ⟨me, rfl, rfl⟩ := k3.bool1 Try.underlying4
    exact Am.f5_core (wf_i32 wc) (wf_i32 w1) (wf_i32 w2) (wf_i64 wd) (wf_i64 wh)
theorem arithMeters_lifted (os : Os) (started : os.Started) (H : Type) (enc : TypeId × Value → H) :
    ReturnsInHanded {} Try.checked os 5 .any (Rows.arithMetersSpec.pre6 enc Try.prog Try.f5 Rows.arithMetersRow.domain false) (Rows.arithMetersSpec.post enc Try.prog Try.f5 false true false false) := by
  refine returnsInHanded_of_change_sized (C := Try.checked) (by kernel_rfl) started (by kernel_rfl) Try.func5
    (ChangeSpec.witness6 (enc := enc) (C := Try.checked) false ⟨#[], #[.agg #[.int .i32 0, .bool false], .agg #[.string ByteArray.empty, .bool false, .int .i64 0, .int .i64 0], .agg #[.int .i32 0, .int .i32 0, .bool false, .bool false], .bool false], []⟩ 8 (by kernel_rfl) (by kernel_rfl) (by kernel_rfl) (by kernel_rfl)) ?_
  intro W base args ds gs before hval0 hW hcnd hsz0 _
  have hsz : (DataW.weightsEach Try.prog (Try.f5.params.toList ++ Rows.arithMetersSpec.plain.varTypes Try.prog) (ds ++ gs)).all (· ≤ reachBytes) = true := hsz0
  have hW' := hW
  obtain ⟨p, q, hA0, hV, rfl, hfz, hnd⟩ := hW
  have hA : DataW.TrodAll enc Try.prog W 0 (fun _ => true) true Try.f5.params.toList args.toList ds p := hA0
  obtain ⟨rfl, rfl⟩ := trodVars_none hV
  have hvt : Rows.arithMetersSpec.plain.varTypes Try.prog = [] := rfl
  rw [hvt, List.append_nil, List.append_nil] at hsz
  have hlt : ∀ x ∈ p, x.block < W.heap.size := fun x hx => by simpa using hW'.lt x (by simpa using hx)
  refine (Am.row_calls (by kernel_rfl) hA (fun j t v h1 h2 => hval0 j t v (by simpa using h1) (by simpa using h2)) (fun m avs hR => arithMeters_core m avs ds hR hsz)).mono fun e W' ⟨he, bel⟩ => ?_
  subst he
  have hB := Am.trodAll_below (by kernel_rfl) bel _ _ _ _ (by kernel_rfl) hA hlt
  have hD : ∃ d0 d1 d2 d3, ds = [d0, d1, d2, d3] := by
    have hl := trodAll_len hA
    have hl2 : ds.length = 4 := hl
    match ds, hl2 with
    | [d0, d1, d2, d3], _ => exact ⟨d0, d1, d2, d3, rfl⟩
  obtain ⟨d0, d1, d2, d3, rfl⟩ := hD
  exact ⟨_, rfl, _, _, _, [], _, [], hW', trodAll_mk1 (shut_bool Try.underlying4 _), hB, rfl, bel.frame _, fun h => by cases h⟩
theorem arithMeters_holds : Rows.ArithMetersSaid :=
  OpenClaim.holds_of_wide 5 Try.f5 rfl rfl rfl rfl rfl rfl rfl ⟨rfl, rfl, rfl, rfl, rfl⟩ rfl rfl rfl rfl rfl (by kernel_rfl) Try.func5 (by kernel_rfl)
    (of_decide_eq_true (by kernel_rfl)) (by unfold Func.isWrapper; first | (rw [if_pos (by decide +kernel)]; kernel_rfl) | (rw [if_neg (by decide +kernel)]; exact ⟨rfl, rfl⟩))
    (fun os started H enc _ => arithMeters_lifted os started H enc)

#print axioms arithMeters_holds
end Go.Proofs.Ytchhknkflhikmaa
