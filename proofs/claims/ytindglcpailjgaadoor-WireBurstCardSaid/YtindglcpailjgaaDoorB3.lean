/- Stuffed, framed, packed and back: plain laws. -/
import Derived.Test.YtindglcpailjgaaDoorB2
import Derived.Test.YtindglcpailjgaaDoorW10
namespace Go.Proofs.YtindglcpailjgaaDoor.Am.W
set_option linter.unusedSectionVars false
open Go Go.Proofs Am
set_option linter.unusedVariables false
set_option linter.unusedSimpArgs false

theorem stuff_no (l : List UInt8) : ∀ c ∈ stuff l, c ≠ 126 := by
  intro c hc
  simp only [stuff, List.mem_flatMap] at hc
  obtain ⟨d, _, hd⟩ := hc
  unfold stuff1 at hd
  split at hd
  · rename_i h
    simp at hd
    rcases hd with rfl | rfl
    · decide
    · rcases h with rfl | rfl <;> decide
  · rename_i h
    simp at hd
    subst hd
    exact fun h2 => h (.inl h2)
theorem un_stuff : ∀ (l : List UInt8), unstuff (stuff l) = some l
  | [] => rfl
  | c :: l => by
    have ih := un_stuff l
    rw [stuff_cons]
    unfold stuff1
    split
    · rename_i h
      show unstuff (125 :: (c ^^^ 32) :: stuff l) = _
      rw [un_esc, ih]
      rcases h with rfl | rfl <;> rfl
    · rename_i h
      show unstuff (c :: stuff l) = _
      rw [un_other c _ (fun h2 => h (.inl h2)) (fun h2 => h (.inr h2)), ih]; rfl
theorem stuff_un : ∀ (n : Nat) (l u : List UInt8), l.length ≤ n → unstuff l = some u → stuff u = l
  | n, [], u, _, h => by rw [unstuff] at h; cases h; rfl
  | 0, c :: l, u, h, _ => by simp at h
  | n + 1, c :: l, u, hn, h => by
    by_cases h1 : c = 126
    · subst h1; rw [un_flag] at h; cases h
    by_cases h2 : c = 125
    · subst h2
      cases l with
      | nil => rw [un_end] at h; cases h
      | cons d l =>
        rw [un_esc] at h
        split at h
        · rename_i hd
          cases hu : unstuff l with
          | none => rw [hu] at h; cases h
          | some v =>
            rw [hu] at h; cases h
            have := stuff_un n l v (by simp at hn; omega) hu
            rw [stuff_cons, this]
            rcases hd with rfl | rfl <;> rfl
        · cases h
    · rw [un_other c l h1 h2] at h
      cases hu : unstuff l with
      | none => rw [hu] at h; cases h
      | some v =>
        rw [hu] at h; cases h
        have := stuff_un n l v (by simpa using hn) hu
        rw [stuff_cons, this]
        unfold stuff1
        rw [if_neg (by rintro (h | h); exact h1 h; exact h2 h)]; rfl

theorem ofNat_u8 (c : UInt8) : UInt8.ofNat c.toNat = c := by apply UInt8.toNat_inj.1; simp
theorem u8_val {n : Nat} (h : n < 256) : (UInt8.ofNat n).toNat = n := by rw [UInt8.toNat_ofNat']; exact Nat.mod_eq_of_lt h
theorem inner_take (f : Fr) : f.inner.take (f.inner.length - 2) = f.ctl :: f.data := by
  rw [f.inner_len]
  simp [Fr.inner, withSum]
theorem withSum_len (l : List UInt8) : (withSum l).length = l.length + 2 := by simp [withSum]
/-- What is read is framed as it came. -/
theorem readFr_ok {c : UInt8} {data : List UInt8} {r : Fr} (h : readFr c data = (r, 0)) (hd : data.length ≤ 256) : r.ok = true ∧ r.ctl = c ∧ r.data = data := by
  have hc := u8_lt c
  simp only [readFr] at h
  split at h
  · rename_i h1
    cases h
    refine ⟨?_, ?_, rfl⟩
    · rw [Fr.ok_iff]; exact ⟨⟨by dsimp only; decide, by dsimp only; decide⟩, ⟨by dsimp only; omega, by dsimp only; omega⟩, ⟨by dsimp only; omega, by dsimp only; omega⟩, hd, .inl rfl⟩
    · simp only [Fr.ctl, Fr.ctlI]
      rw [if_neg (by omega), if_neg (by omega)]
      conv => rhs; rw [← ofNat_u8 c]
      congr 1; omega
  · split at h
    · rename_i h1
      obtain ⟨h1, rfl⟩ := h1
      cases h
      refine ⟨?_, ?_, rfl⟩
      · rw [Fr.ok_iff]; exact ⟨⟨by dsimp only; decide, by dsimp only; decide⟩, ⟨by dsimp only; decide, by dsimp only; decide⟩, ⟨by dsimp only; omega, by dsimp only; omega⟩, by simp, .inr ⟨rfl, rfl⟩⟩
      · simp only [Fr.ctl, Fr.ctlI, if_true]
        conv => rhs; rw [← ofNat_u8 c]
        congr 1; omega
    · split at h
      · rename_i h1
        obtain ⟨h1, rfl⟩ := h1
        cases h
        refine ⟨?_, ?_, rfl⟩
        · rw [Fr.ok_iff]; exact ⟨⟨by dsimp only; decide, by dsimp only; decide⟩, ⟨by dsimp only; decide, by dsimp only; decide⟩, ⟨by dsimp only; omega, by dsimp only; omega⟩, by simp, .inr ⟨rfl, rfl⟩⟩
        · simp only [Fr.ctl, Fr.ctlI]
          rw [if_neg (by omega)]
          simp only [if_true]
          conv => rhs; rw [← ofNat_u8 c]
          congr 1; omega
      · injection h with _ h; cases h
theorem readIn_ok {a : List UInt8} {r : Fr} (h : readIn a = (r, 0)) : r.ok = true ∧ r.inner = a := by
  unfold readIn at h
  split at h
  · injection h with _ h; cases h
  rename_i hl
  simp only at h
  split at h
  · rename_i hw
    split at h
    · rename_i c data hb
      have hbl := congrArg List.length hb
      simp at hbl
      obtain ⟨h1, h2, h3⟩ := readFr_ok h (by omega)
      refine ⟨h1, ?_⟩
      rw [Fr.inner, h2, h3, ← hb]; exact hw.symm
    · injection h with _ h; cases h
  · injection h with _ h; cases h
theorem readF_ok {b : List UInt8} {r : Fr} (h : readF b = (r, 0)) : r.ok = true ∧ r.bytes = 126 :: (b ++ [126]) := by
  unfold readF at h
  split at h
  · injection h with _ h; cases h
  · rename_i a hu
    obtain ⟨h1, h2⟩ := readIn_ok h
    refine ⟨h1, ?_⟩
    rw [Fr.bytes, if_pos h1, h2, stuff_un b.length b a (Nat.le_refl _) hu]
theorem readFr_back {f : Fr} (h : f.ok = true) : readFr f.ctl f.data = (f, 0) := by
  obtain ⟨h1, h2, h3, h4, h5⟩ := f.ok_iff.1 h
  obtain ⟨c1, c2⟩ := Fr.ctl_nat h
  have hc : f.ctl.toNat = f.ctlI.toNat := u8_val (by omega)
  obtain ⟨k, s, r, d⟩ := f
  simp only at h1 h2 h3 h4 h5 hc c1 c2
  simp only [readFr, hc]
  simp only [Fr.ctlI] at c1 c2 ⊢
  rcases (show k = 0 ∨ k = 1 ∨ k = 2 by omega) with rfl | rfl | rfl
  · simp only [show ¬ ((0 : Int) = 1) by decide, show ¬ ((0 : Int) = 2) by decide, if_false] at c1 c2 ⊢
    rw [if_pos (by omega)]
    congr 2 <;> omega
  · simp only [if_true] at c1 c2 ⊢
    obtain ⟨rfl, hd⟩ : s = 0 ∧ d.length = 0 := h5.resolve_left (by decide)
    obtain rfl := List.length_eq_zero_iff.1 hd
    rw [if_neg (by omega), if_pos ⟨by omega, rfl⟩]
    congr 2; omega
  · simp only [show ¬ ((2 : Int) = 1) by decide, if_false, if_true] at c1 c2 ⊢
    obtain ⟨rfl, hd⟩ : s = 0 ∧ d.length = 0 := h5.resolve_left (by decide)
    obtain rfl := List.length_eq_zero_iff.1 hd
    rw [if_neg (by omega), if_neg (by omega), if_pos ⟨by omega, rfl⟩]
    congr 2; omega
theorem readF_back {f : Fr} (h : f.ok = true) : readF (stuff f.inner) = (f, 0) := by
  obtain ⟨h1, h2, h3, h4, h5⟩ := f.ok_iff.1 h
  have hl := f.inner_len
  rw [readF, un_stuff]
  simp only
  rw [readIn, if_neg (by omega), inner_take]
  simp only
  rw [if_pos (show f.inner = withSum (f.ctl :: f.data) from rfl)]
  exact readFr_back h

theorem le4_val : ∀ (l : List UInt8), l.length = 4 → le4 (val l) = l
  | [a, b, c, d], _ => by
    have ha := u8_lt a; have hb := u8_lt b; have hc := u8_lt c; have hd := u8_lt d
    have hv : val [a, b, c, d] = a.toNat + 256 * (b.toNat + 256 * (c.toNat + 256 * d.toNat)) := by simp [val]
    unfold le4
    rw [hv]
    congr 1
    · apply UInt8.toNat_inj.1; rw [UInt8.toNat_ofNat']; omega
    congr 1
    · apply UInt8.toNat_inj.1; rw [UInt8.toNat_ofNat']; simp; omega
    congr 1
    · apply UInt8.toNat_inj.1; rw [UInt8.toNat_ofNat']; simp; omega
    congr 1
    · apply UInt8.toNat_inj.1; rw [UInt8.toNat_ofNat']; simp; omega
theorem val_le4 (n : Nat) (h : n < 4294967296) : val (le4 n) = n := by
  simp only [le4, val, UInt8.toNat_ofNat']; simp; omega
theorem readM_ok {b : List UInt8} {r : Msg} (h : readM b = (r, 0)) : r.ok = true ∧ r.raw = b := by
  unfold readM at h
  split at h
  · injection h with _ h; cases h
  rename_i hl
  split at h
  · rename_i ho
    cases h
    refine ⟨ho, ?_⟩
    match b, hl with
    | [], hl => simp at hl
    | [x], hl => simp at hl
    | x :: y :: b, hl =>
      simp at hl
      have e1 : (List.drop 2 (x :: y :: b)).take 4 = b.take 4 := rfl
      have e2 : (List.drop 6 (x :: y :: b)).take 4 = (b.drop 4).take 4 := rfl
      have e3 : List.drop 10 (x :: y :: b) = b.drop 8 := rfl
      simp only [Msg.raw, Msg.kb, Msg.sb, readM0, e1, e2, e3]
      rw [le4_val _ (by simp; omega), le4_val _ (by simp; omega)]
      have : b.take 4 ++ ((b.drop 4).take 4 ++ b.drop 8) = b := by
        have e4 : b.drop 8 = (b.drop 4).drop 4 := by simp
        rw [e4, List.take_append_drop, List.take_append_drop]
      rw [this]
      simp [ofNat_u8]
  · injection h with _ h; cases h
theorem readM_back {m : Msg} (hr : MR m) (h : m.ok = true) : readM m.raw = (m, 0) := by
  obtain ⟨h1, h2, h3⟩ := Msg.ok_parts h
  have hl := m.raw_len
  have e : readM0 m.raw = m := by
    obtain ⟨k, s, n, u, d⟩ := m
    simp only at h1 h2 h3
    have hn := hr.n; have hu := hr.u
    simp only at hn hu
    have e1 : (List.drop 2 (Msg.raw ⟨k, s, n, u, d⟩)).take 4 = le4 n := rfl
    have e2 : (List.drop 6 (Msg.raw ⟨k, s, n, u, d⟩)).take 4 = le4 u := rfl
    have e3 : List.drop 10 (Msg.raw ⟨k, s, n, u, d⟩) = d := rfl
    have e4 : (Msg.raw ⟨k, s, n, u, d⟩).getD 0 0 = UInt8.ofNat k.toNat := rfl
    have e5 : (Msg.raw ⟨k, s, n, u, d⟩).getD 1 0 = UInt8.ofNat s.toNat := rfl
    simp only [readM0, e1, e2, e3, e4, e5]
    rw [val_le4 n hn, val_le4 u hu, u8_val (by omega), u8_val (by omega)]
    congr 1 <;> omega
  rw [readM, if_neg (by omega), e, if_pos h]
end Go.Proofs.YtindglcpailjgaaDoor.Am.W
