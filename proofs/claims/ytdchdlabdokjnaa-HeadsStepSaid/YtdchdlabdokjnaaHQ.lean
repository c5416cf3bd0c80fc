/- Heads: what is free, looked up and listed. Plain laws. -/
import Derived.Test.YtdchdlabdokjnaaH22
namespace Go.Proofs.Ytdchdlabdokjnaa.Am.H
set_option linter.unusedSectionVars false
open Go Am
set_option linter.unusedVariables false
set_option linter.unusedSimpArgs false

theorem confs_gt {n : Nat} : ∀ {l : List Conf} {a b : Int}, confsFrom n a b l = true → ∀ c ∈ l, c.ok n = true ∧ (a < c.a ∨ (a = c.a ∧ b < c.b))
  | c0 :: l, a, b, h, c, hc => by
    simp only [confsFrom, Bool.and_eq_true, Bool.or_eq_true, decide_eq_true_eq] at h
    rcases List.mem_cons.1 hc with rfl | hc
    · exact ⟨h.1.1, h.1.2⟩
    · obtain ⟨h1, h2⟩ := confs_gt h.2 c hc
      exact ⟨h1, by have := h.1.2; omega⟩
theorem conf_lt {n : Nat} {c : Conf} (h : c.ok n = true) : 0 ≤ c.a ∧ c.a < c.b ∧ c.b < n ∧ 0 ≤ c.ab ∧ 0 ≤ c.ba := by
  simp only [Conf.ok, inB, Bool.and_eq_true, decide_eq_true_eq] at h; omega
theorem inter_mem {n : Nat} : ∀ {l : List Conf} {a b : Int}, confsFrom n a b l = true → ∀ c ∈ l, interL l c.b c.a = c.ba ∧ interL l c.a c.b = c.ab
  | c0 :: l, a, b, h, c, hc => by
    have hall := confs_gt h
    have h0 := conf_lt (hall c0 List.mem_cons_self).1
    have h1 := conf_lt (hall c hc).1
    simp only [confsFrom, Bool.and_eq_true] at h
    have hgt := confs_gt h.2
    simp only [interL]
    rcases List.mem_cons.1 hc with rfl | hc
    · exact ⟨by rw [if_neg (by omega), if_pos ⟨rfl, rfl⟩], by rw [if_pos ⟨rfl, rfl⟩]⟩
    · have := (hgt c hc).2
      rw [if_neg (by omega), if_neg (by omega), if_neg (by omega), if_neg (by omega)]
      exact inter_mem h.2 c hc
theorem inter_cases (o g : Int) : ∀ (l : List Conf), interL l o g = -1 ∨ ∃ c ∈ l, (c.a = o ∧ c.b = g ∧ interL l o g = c.ab) ∨ (c.a = g ∧ c.b = o ∧ interL l o g = c.ba)
  | [] => .inl rfl
  | c :: l => by
    simp only [interL]
    split
    · rename_i h; exact .inr ⟨c, List.mem_cons_self, .inl ⟨h.1, h.2, rfl⟩⟩
    · split
      · rename_i h; exact .inr ⟨c, List.mem_cons_self, .inr ⟨h.1, h.2, rfl⟩⟩
      · rcases inter_cases o g l with h | ⟨c', h1, h2⟩
        · exact .inl h
        · exact .inr ⟨c', List.mem_cons_of_mem _ h1, h2⟩
theorem rivOf_mem (g : Nat) : ∀ {l : List Conf} {r : Int × Int}, r ∈ rivOf g l → ∃ c ∈ l, (c.a = g ∧ r = (c.b, c.ba)) ∨ (c.b = g ∧ r = (c.a, c.ab))
  | c :: l, r, h => by
    simp only [rivOf, List.mem_append] at h
    rcases h with (h | h) | h
    · split at h
      · rename_i hc; simp at h; exact ⟨c, List.mem_cons_self, .inl ⟨hc, h⟩⟩
      · cases h
    · split at h
      · rename_i hc; simp at h; exact ⟨c, List.mem_cons_self, .inr ⟨hc, h⟩⟩
      · cases h
    · obtain ⟨c', h1, h2⟩ := rivOf_mem g h
      exact ⟨c', List.mem_cons_of_mem _ h1, h2⟩
theorem freeB_of {now aw : List Int} : ∀ {l : List (Int × Int)}, (∀ r ∈ l, now.getD r.1.toNat 0 = 0 ∧ r.2 ≤ aw.getD r.1.toNat 0) → freeB now aw l = true
  | [], _ => rfl
  | r :: l, h => by
    simp only [freeB, Bool.and_eq_true, decide_eq_true_eq]
    exact ⟨h r List.mem_cons_self, freeB_of fun r' hr => h r' (List.mem_cons_of_mem _ hr)⟩
theorem freeFrom_iff {cs : List Conf} {aw : List Int} {g : Int} : ∀ {l : List Int} {o : Nat}, freeFrom cs aw g o l = true ↔ ∀ (i : Nat) n, l[i]? = some n → interL cs (o + i : Nat) g < 0 ∨ (n = 0 ∧ interL cs (o + i : Nat) g ≤ aw.getD (o + i) 0)
  | [], o => by simp [freeFrom]
  | n :: l, o => by
    simp only [freeFrom, Bool.and_eq_true, Bool.or_eq_true, decide_eq_true_eq]
    rw [freeFrom_iff]
    constructor
    · rintro ⟨h1, h2⟩ i m hi
      cases i with
      | zero => simp at hi; subst hi; exact h1
      | succ i => have := h2 i m (by simpa using hi); rw [show o + (i + 1) = o + 1 + i by omega]; exact this
    · intro h
      refine ⟨by have := h 0 n rfl; simpa using this, fun i m hi => ?_⟩
      have := h (i + 1) m (by simpa using hi)
      rw [show o + 1 + i = o + (i + 1) by omega]; exact this
/-- The intergreens looked up say what the rivals listed say. -/
theorem free_eq {t : Tables} (hok : t.ok = true) (g : Nat) {now aw : List Int} (hl : now.length = t.groups.length) : freeFrom t.confs aw g 0 now = freeB now aw (rivOf g t.confs) := by
  have hcf : confsFrom t.groups.length (-1) (-1) t.confs = true := by simp only [Tables.ok, Bool.and_eq_true] at hok; exact hok.2
  have hall := confs_gt hcf
  rw [Bool.eq_iff_iff, freeFrom_iff]
  simp only [Nat.zero_add]
  constructor
  · intro h
    refine freeB_of fun r hr => ?_
    obtain ⟨c, hc, h1 | h1⟩ := rivOf_mem g hr
    · obtain ⟨ha, rfl⟩ := h1
      have hlt := conf_lt (hall c hc).1
      obtain ⟨n, hn⟩ := get_of_lt (show c.b.toNat < now.length by omega)
      have hm := (inter_mem hcf c hc).1
      have := h c.b.toNat n hn
      rw [show ((c.b.toNat : Nat) : Int) = c.b by omega, ← ha, hm] at this
      simp only [List.getD_eq_getElem?_getD, hn, Option.getD_some] at this ⊢
      omega
    · obtain ⟨ha, rfl⟩ := h1
      have hlt := conf_lt (hall c hc).1
      obtain ⟨n, hn⟩ := get_of_lt (show c.a.toNat < now.length by omega)
      have hm := (inter_mem hcf c hc).2
      have := h c.a.toNat n hn
      rw [show ((c.a.toNat : Nat) : Int) = c.a by omega, ← ha, hm] at this
      simp only [List.getD_eq_getElem?_getD, hn, Option.getD_some] at this ⊢
      omega
  · intro h i n hi
    have hf := freeB_mem h
    have hn : now.getD i 0 = n := by rw [List.getD_eq_getElem?_getD, hi]; rfl
    rcases inter_cases (i : Int) g t.confs with h1 | ⟨c, hc, ⟨h1, h2, h3⟩ | ⟨h1, h2, h3⟩⟩
    · left; omega
    · right
      have := hf _ (rivOf_b hc h2)
      simp only [h1, Int.toNat_natCast, hn] at this
      rw [h3]; exact this
    · right
      have := hf _ (rivOf_a hc h1)
      simp only [h2, Int.toNat_natCast, hn] at this
      rw [h3]; exact this
end Go.Proofs.Ytdchdlabdokjnaa.Am.H
