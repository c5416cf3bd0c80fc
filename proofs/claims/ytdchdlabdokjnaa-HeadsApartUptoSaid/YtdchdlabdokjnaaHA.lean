/- Heads: two junctions side by side. Plain laws. -/
import Derived.Test.YtdchdlabdokjnaaH24
namespace Go.Proofs.Ytdchdlabdokjnaa.Am.H
set_option linter.unusedSectionVars false
open Go Am
set_option linter.unusedVariables false
set_option linter.unusedSimpArgs false

def shiftC (n : Nat) (c : Conf) : Conf := ⟨c.a + n, c.b + n, c.ab, c.ba⟩
def both (s t : Tables) : Tables := ⟨s.groups ++ t.groups, s.confs ++ t.confs.map (shiftC s.groups.length)⟩
def Hd.app (h k : Hd) : Hd := ⟨h.aspect ++ k.aspect, h.ins ++ k.ins, h.away ++ k.away⟩
theorem alones_app (w : BitVec 64) : ∀ (gs : List Group) (bs xs : List Int) (i : Nat) (gt : List Group) (bt xt : List Int), bs.length = gs.length → xs.length = gs.length →
    alonesFrom w i (gs ++ gt) (bs ++ bt) (xs ++ xt) = alonesFrom w i gs bs xs ++ alonesFrom w (i + gs.length) gt bt xt
  | [], [], [], i, gt, bt, xt, _, _ => by simp [alonesFrom]
  | g :: gs, a :: bs, x :: xs, i, gt, bt, xt, h1, h2 => by
    simp only [List.cons_append, alonesFrom, List.length_cons]
    rw [alones_app w gs bs xs (i + 1) gt bt xt (by simpa using h1) (by simpa using h2), show i + 1 + gs.length = i + (gs.length + 1) by omega]
theorem alones_bits {w v : BitVec 64} : ∀ (gs : List Group) (bs xs : List Int) (i j : Nat), (∀ k, k < gs.length → w.getLsbD (i + k) = v.getLsbD (j + k)) → alonesFrom w i gs bs xs = alonesFrom v j gs bs xs
  | [], _, _, _, _, _ => by simp [alonesFrom]
  | _ :: _, [], _, _, _, _ => by simp [alonesFrom]
  | _ :: _, _ :: _, [], _, _, _ => by simp [alonesFrom]
  | g :: gs, a :: bs, x :: xs, i, j, h => by
    simp only [alonesFrom]
    rw [show w.getLsbD i = v.getLsbD j by simpa using h 0 (by simp), alones_bits gs bs xs (i + 1) (j + 1) fun k hk => by have := h (k + 1) (by simpa using hk); rw [show i + 1 + k = i + (k + 1) by omega, show j + 1 + k = j + (k + 1) by omega]; exact this]
theorem riv_none {g : Nat} : ∀ {l : List Conf}, (∀ c ∈ l, c.a ≠ g ∧ c.b ≠ g) → rivOf g l = []
  | [], _ => rfl
  | c :: l, h => by
    have := h c List.mem_cons_self
    simp only [rivOf, if_neg this.1, if_neg this.2, List.nil_append]
    exact riv_none fun c' hc => h c' (List.mem_cons_of_mem _ hc)
theorem riv_shift (n g : Nat) : ∀ l : List Conf, rivOf (n + g) (l.map (shiftC n)) = (rivOf g l).map fun r => (r.1 + (n : Int), r.2)
  | [] => rfl
  | c :: l => by
    simp only [List.map_cons, rivOf, shiftC, List.map_append]
    rw [riv_shift n g l]
    congr 1
    · congr 1
      · by_cases h : c.a = g
        · rw [if_pos h, if_pos (by omega)]; rfl
        · rw [if_neg h, if_neg (by omega)]; rfl
      · by_cases h : c.b = g
        · rw [if_pos h, if_pos (by omega)]; rfl
        · rw [if_neg h, if_neg (by omega)]; rfl
theorem getD_left {l m : List Int} {i : Nat} (h : i < l.length) : (l ++ m).getD i 0 = l.getD i 0 := by
  simp only [List.getD_eq_getElem?_getD, List.getElem?_append_left h]
theorem getD_right {l m : List Int} {i : Nat} : (l ++ m).getD (l.length + i) 0 = m.getD i 0 := by
  simp only [List.getD_eq_getElem?_getD]; rw [List.getElem?_append_right (by omega), show l.length + i - l.length = i by omega]
theorem free_left {now1 now2 aw1 aw2 : List Int} (ha : aw1.length = now1.length) : ∀ {l : List (Int × Int)}, (∀ r ∈ l, ∃ b : Nat, r.1 = b ∧ b < now1.length) → freeB (now1 ++ now2) (aw1 ++ aw2) l = freeB now1 aw1 l
  | [], _ => rfl
  | r :: l, h => by
    obtain ⟨b, hb, hbl⟩ := h r List.mem_cons_self
    simp only [freeB]
    rw [free_left ha fun r' hr => h r' (List.mem_cons_of_mem _ hr), show r.1.toNat = b by omega, getD_left hbl, getD_left (by omega)]
theorem free_right {now1 now2 aw1 aw2 : List Int} {n : Nat} (h1 : now1.length = n) (h2 : aw1.length = n) : ∀ {l : List (Int × Int)}, (∀ r ∈ l, ∃ b : Nat, r.1 = b) → freeB (now1 ++ now2) (aw1 ++ aw2) (l.map fun r => (r.1 + (n : Int), r.2)) = freeB now2 aw2 l
  | [], _ => rfl
  | r :: l, h => by
    obtain ⟨b, hb⟩ := h r List.mem_cons_self
    simp only [List.map_cons, freeB]
    rw [free_right h1 h2 fun r' hr => h r' (List.mem_cons_of_mem _ hr), show (r.1 + (n : Int)).toNat = n + b by omega, show r.1.toNat = b by omega]
    conv => lhs; rw [← h1]
    rw [getD_right]
    conv => lhs; rw [show now1.length + b = aw1.length + b by omega]
    rw [getD_right]
theorem second_left {CB Cs : List Conf} {aw1 aw2 : List Int} {w a : BitVec 64} {n : Nat} (hr : ∀ g, g < n → rivOf g CB = rivOf g Cs) (hin : ∀ g, g < n → ∀ r ∈ rivOf g Cs, ∃ b : Nat, r.1 = b ∧ b < n) (hw : ∀ g, g < n → w.getLsbD g = a.getLsbD g)
    (haw : aw1.length = n) : ∀ (gs : List Group) (i : Nat) (bs now1 now2 : List Int) (gt : List Group) (bt : List Int), i + gs.length = n → bs.length = gs.length → now1.length = n →
    secondFrom CB (aw1 ++ aw2) w i (gs ++ gt) (bs ++ bt) (now1 ++ now2) = secondFrom CB (aw1 ++ aw2) w n gt bt (secondFrom Cs aw1 a i gs bs now1 ++ now2)
  | [], i, [], now1, now2, gt, bt, h1, _, _ => by
    simp only [List.length_nil, Nat.add_zero] at h1
    subst h1
    simp [secondFrom]
  | g :: gs, i, b :: bs, now1, now2, gt, bt, h1, h2, h3 => by
    simp only [List.length_cons] at h1 h2
    have hi : i < n := by omega
    simp only [List.cons_append, secondFrom]
    rw [hr i hi, hw i hi, free_left (by omega) (by rw [h3]; exact hin i hi)]
    have e : (if (decide (b = 0) && a.getLsbD i && freeB now1 aw1 (rivOf i Cs)) = true then (now1 ++ now2).set i (firstOf g) else now1 ++ now2) = (if (decide (b = 0) && a.getLsbD i && freeB now1 aw1 (rivOf i Cs)) = true then now1.set i (firstOf g) else now1) ++ now2 := by
      split
      · rw [List.set_append_left _ _ (by omega)]
      · rfl
    rw [e]
    exact second_left hr hin hw haw gs (i + 1) bs _ now2 gt bt (by omega) (by omega) (by split <;> simp [h3])
theorem second_right {CB Ct : List Conf} {aw1 aw2 : List Int} {w b : BitVec 64} {n m : Nat} (hr : ∀ g, rivOf (n + g) CB = (rivOf g Ct).map fun r => (r.1 + (n : Int), r.2)) (hin : ∀ g, ∀ r ∈ rivOf g Ct, ∃ b : Nat, r.1 = b) (hw : ∀ g, g < m → w.getLsbD (n + g) = b.getLsbD g)
    (haw : aw1.length = n) : ∀ (gt : List Group) (i : Nat) (bt now1 now2 : List Int), i + gt.length ≤ m → now1.length = n →
    secondFrom CB (aw1 ++ aw2) w (n + i) gt bt (now1 ++ now2) = now1 ++ secondFrom Ct aw2 b i gt bt now2
  | [], i, bt, now1, now2, _, _ => by simp [secondFrom]
  | g :: gt, i, [], now1, now2, _, _ => by simp [secondFrom]
  | g :: gt, i, x :: bt, now1, now2, h1, h3 => by
    simp only [List.length_cons] at h1
    simp only [secondFrom]
    rw [hr i, hw i (by omega), free_right h3 haw (hin i)]
    have e : (if (decide (x = 0) && b.getLsbD i && freeB now2 aw2 (rivOf i Ct)) = true then (now1 ++ now2).set (n + i) (firstOf g) else now1 ++ now2) = now1 ++ (if (decide (x = 0) && b.getLsbD i && freeB now2 aw2 (rivOf i Ct)) = true then now2.set i (firstOf g) else now2) := by
      split
      · rw [List.set_append_right _ _ (by omega), h3, show n + i - n = i by omega]
      · rfl
    rw [e, show n + i + 1 = n + (i + 1) by omega]
    exact second_right hr hin hw haw gt (i + 1) bt now1 _ (by omega) h3
theorem confs_mono {n m : Nat} (h : n ≤ m) : ∀ {l : List Conf} {a b : Int}, confsFrom n a b l = true → confsFrom m a b l = true
  | [], _, _, _ => rfl
  | c :: l, a, b, hc => by
    simp only [confsFrom, Bool.and_eq_true] at hc ⊢
    refine ⟨⟨?_, hc.1.2⟩, confs_mono h hc.2⟩
    have := hc.1.1
    simp only [Conf.ok, inB, Bool.and_eq_true, decide_eq_true_eq] at this ⊢; omega
theorem confs_app {N n : Nat} {m : List Conf} (hm : ∀ a b : Int, a < n → confsFrom N a b m = true) : ∀ {l : List Conf} {a b : Int}, a < n → (∀ c ∈ l, c.a < n) → confsFrom N a b l = true → confsFrom N a b (l ++ m) = true
  | [], a, b, ha, _, _ => hm a b ha
  | c :: l, a, b, ha, hl, h => by
    simp only [List.cons_append, confsFrom, Bool.and_eq_true] at h ⊢
    exact ⟨h.1, confs_app hm (hl c List.mem_cons_self) (fun c' hc => hl c' (List.mem_cons_of_mem _ hc)) h.2⟩
theorem confs_shift {n m : Nat} : ∀ {l : List Conf} {a b : Int}, confsFrom m a b l = true → confsFrom (n + m) (a + n) (b + n) (l.map (shiftC n)) = true
  | [], _, _, _ => rfl
  | c :: l, a, b, h => by
    simp only [List.map_cons, confsFrom, Bool.and_eq_true, Bool.or_eq_true, decide_eq_true_eq] at h ⊢
    refine ⟨⟨?_, ?_⟩, confs_shift h.2⟩
    · have h5 := conf_lt h.1.1
      have h6 := h.1.1
      simp only [Conf.ok, inB, Bool.and_eq_true, decide_eq_true_eq] at h6 ⊢
      refine ⟨⟨⟨⟨?_, ?_⟩, ?_⟩, h6.1.2⟩, h6.2⟩ <;> simp only [shiftC] <;> omega
    · have := h.1.2
      simp only [shiftC, Int.add_right_inj] at this ⊢
      rcases this with h | ⟨h1, h2⟩
      · left; omega
      · right; exact ⟨by omega, by omega⟩
theorem ok_both {s t : Tables} (hs : s.ok = true) (ht : t.ok = true) (hn : s.groups.length + t.groups.length ≤ 64) : (both s t).ok = true := by
  simp only [Tables.ok, Bool.and_eq_true, decide_eq_true_eq] at hs ht ⊢
  refine ⟨⟨by simp [both]; omega, by simp only [both, List.all_append, Bool.and_eq_true]; exact ⟨hs.1.2, ht.1.2⟩⟩, ?_⟩
  simp only [both, List.length_append]
  have hall := confs_gt hs.2
  refine confs_app (n := s.groups.length) (fun a b ha => ?_) (by omega) (fun c hc => by have := conf_lt (hall c hc).1; omega) (confs_mono (by omega) hs.2)
  have hsh := confs_shift (n := s.groups.length) ht.2
  cases hl : t.confs with
  | nil => rfl
  | cons c l =>
    rw [hl] at hsh
    have h0 := conf_lt ((confs_gt ht.2) c (by rw [hl]; exact List.mem_cons_self)).1
    simp only [List.map_cons, confsFrom, Bool.and_eq_true, Bool.or_eq_true, decide_eq_true_eq] at hsh ⊢
    exact ⟨⟨hsh.1.1, by simp only [shiftC]; omega⟩, hsh.2⟩
/-- The next aspects of the two together. -/
theorem next_both {s t : Tables} {h k : Hd} {w a b : BitVec 64} (hs : sound s h = true) (ht : sound t k = true) (hw : ∀ g, g < s.groups.length → w.getLsbD g = a.getLsbD g) (hv : ∀ g, g < t.groups.length → w.getLsbD (s.groups.length + g) = b.getLsbD g) :
    nextL (both s t) (h.app k) w = nextL s h a ++ nextL t k b := by
  obtain ⟨l0, l1, l2, l3, l4⟩ := sound_len hs
  obtain ⟨m0, m1, m2, m3, m4⟩ := sound_len ht
  have hr1 : ∀ g, g < s.groups.length → rivOf g (both s t).confs = rivOf g s.confs := by
    intro g hg
    simp only [both, rivOf_append]
    rw [riv_none (l := t.confs.map (shiftC s.groups.length)) (fun c hc => by
      obtain ⟨c0, h0, rfl⟩ := List.mem_map.1 hc
      obtain ⟨a', b', ea, eb, hab, hbn⟩ := Tables.ok_conf m0 h0
      simp only [shiftC]; omega), List.append_nil]
  have hr2 : ∀ g, rivOf (s.groups.length + g) (both s t).confs = (rivOf g t.confs).map fun r => (r.1 + (s.groups.length : Int), r.2) := by
    intro g
    simp only [both, rivOf_append]
    rw [riv_none (l := s.confs) (fun c hc => by
      obtain ⟨a', b', ea, eb, hab, hbn⟩ := Tables.ok_conf l0 hc
      omega), List.nil_append, riv_shift]
  have e1 : alonesFrom w 0 s.groups h.aspect h.ins = alonesFrom a 0 s.groups h.aspect h.ins := alones_bits _ _ _ 0 0 (fun j hj => by simpa using hw j hj)
  have e2 : alonesFrom w s.groups.length t.groups k.aspect k.ins = alonesFrom b 0 t.groups k.aspect k.ins := alones_bits _ _ _ _ 0 (fun j hj => by simpa using hv j hj)
  have hal := alonesFrom_length a 0 s.groups h.aspect h.ins l1 l2
  simp only [nextL, both, Hd.app]
  rw [alones_app w s.groups h.aspect h.ins 0 t.groups k.aspect k.ins l1 l2, Nat.zero_add, e1, e2]
  have r1 := second_left (CB := (both s t).confs) (Cs := s.confs) (aw1 := h.away) (aw2 := k.away) (w := w) (a := a) (n := s.groups.length) hr1 (fun g _ r hr => rivOf_in l0 g r hr) hw l3 s.groups 0 h.aspect (alonesFrom a 0 s.groups h.aspect h.ins) (alonesFrom b 0 t.groups k.aspect k.ins) t.groups k.aspect (by omega) l1 hal
  simp only [both] at r1
  rw [r1]
  have hsl : (secondFrom s.confs h.away a 0 s.groups h.aspect (alonesFrom a 0 s.groups h.aspect h.ins)).length = s.groups.length := by rw [secondFrom_length, hal]
  have r2 := second_right (CB := (both s t).confs) (Ct := t.confs) (aw1 := h.away) (aw2 := k.away) (w := w) (b := b) (n := s.groups.length) (m := t.groups.length) hr2 (fun g r hr => by obtain ⟨x, hx, _⟩ := rivOf_in m0 g r hr; exact ⟨x, hx⟩) hv l3 t.groups 0 k.aspect _ (alonesFrom b 0 t.groups k.aspect k.ins) (by omega) hsl
  simp only [both, Nat.add_zero] at r2
  exact r2
theorem insFrom_app : ∀ (ns bs xs : List Int) (nt bt xt : List Int), bs.length = ns.length → xs.length = ns.length → insFrom (ns ++ nt) (bs ++ bt) (xs ++ xt) = insFrom ns bs xs ++ insFrom nt bt xt
  | [], [], [], nt, bt, xt, _, _ => by simp [insFrom]
  | n :: ns, b :: bs, x :: xs, nt, bt, xt, h1, h2 => by
    simp only [List.cons_append, insFrom]
    rw [insFrom_app ns bs xs nt bt xt (by simpa using h1) (by simpa using h2)]
theorem awFrom_app : ∀ (ns ys : List Int) (nt yt : List Int), ys.length = ns.length → awFrom (ns ++ nt) (ys ++ yt) = awFrom ns ys ++ awFrom nt yt
  | [], [], nt, yt, _ => by simp [awFrom]
  | n :: ns, y :: ys, nt, yt, h => by
    simp only [List.cons_append, awFrom]
    rw [awFrom_app ns ys nt yt (by simpa using h)]
def Bits (n m : Nat) (w a b : BitVec 64) : Prop := (∀ g, g < n → w.getLsbD g = a.getLsbD g) ∧ ∀ g, g < m → w.getLsbD (n + g) = b.getLsbD g
theorem after_both {s t : Tables} {h k : Hd} {w a b : BitVec 64} (hs : sound s h = true) (ht : sound t k = true) (hw : Bits s.groups.length t.groups.length w a b) : afterHd (both s t) (h.app k) w = (afterHd s h a).app (afterHd t k b) := by
  obtain ⟨l0, l1, l2, l3, l4⟩ := sound_len hs
  have hnl := nextL_length (w := a) l1 l2
  have e := next_both hs ht hw.1 hw.2
  unfold afterHd
  rw [e]
  simp only [Hd.app]
  rw [insFrom_app _ _ _ _ _ _ (by omega) (by omega), awFrom_app _ _ _ _ (by omega)]
theorem show_app (h k : Hd) : (h.app k).show = h.show ++ k.show := by simp [Hd.show, Hd.app]
/-- The pictures of the two together are the pictures of each, side by side. -/
theorem runT_both {s t : Tables} : ∀ (ws us bs : List (BitVec 64)) (h k : Hd), us.length = ws.length → bs.length = ws.length → (∀ (i : Nat) w a b, ws[i]? = some w → us[i]? = some a → bs[i]? = some b → Bits s.groups.length t.groups.length w a b) →
    sound s h = true → I32 h → sound t k = true → I32 k → runT (both s t) (h.app k) ws = List.zipWith (· ++ ·) (runT s h us) (runT t k bs)
  | [], [], [], h, k, _, _, _, _, _, _, _ => rfl
  | w :: ws, a :: us, b :: bs, h, k, h1, h2, hb, hs, hI, ht, hJ => by
    have e := after_both hs ht (hb 0 w a b rfl rfl rfl)
    obtain ⟨s1, s2, _⟩ := sound_step a hs hI
    obtain ⟨t1, t2, _⟩ := sound_step b ht hJ
    simp only [runT, List.zipWith_cons_cons]
    rw [e, show_app, runT_both ws us bs _ _ (by simpa using h1) (by simpa using h2) (fun i w' a' b' e1 e2 e3 => hb (i + 1) w' a' b' (by simpa using e1) (by simpa using e2) (by simpa using e3)) s1 s2 t1 t2]
theorem start_app (n m : Nat) : (startHd n).app (startHd m) = startHd (n + m) := by simp [startHd, Hd.app, List.replicate_append_replicate]
theorem runL_both {s t : Tables} (hs : s.ok = true) (ht : t.ok = true) (ws us bs : List (BitVec 64)) (h1 : us.length = ws.length) (h2 : bs.length = ws.length)
    (hb : ∀ (i : Nat) w a b, ws[i]? = some w → us[i]? = some a → bs[i]? = some b → Bits s.groups.length t.groups.length w a b) : runL (both s t) ws = List.zipWith (· ++ ·) (runL s us) (runL t bs) := by
  obtain ⟨a1, a2⟩ := start_sound hs
  obtain ⟨b1, b2⟩ := start_sound ht
  have e := runT_both ws us bs _ _ h1 h2 hb a1 a2 b1 b2
  have hn : (both s t).groups.length = s.groups.length + t.groups.length := by simp [both]
  simp only [runL, List.zipWith_cons_cons]
  rw [hn, ← start_app, show_app, e]
end Go.Proofs.Ytdchdlabdokjnaa.Am.H
