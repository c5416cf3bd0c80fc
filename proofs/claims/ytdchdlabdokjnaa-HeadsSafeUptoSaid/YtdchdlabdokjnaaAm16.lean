/- AM: the rules by which a region is reckoned, as one set; blocks that are written no more. -/
import Derived.Test.YtdchdlabdokjnaaAm15
import Derived.Attr
namespace Go.Proofs.Ytdchdlabdokjnaa.Am
set_option linter.unusedSectionVars false
open Go
set_option linter.unusedVariables false
set_option linter.unusedSimpArgs false
variable [Tab]

theorem repl_0 {z : List AV} : repl 0 z = [] := rfl
theorem repl_1 {z : List AV} : repl 1 z = z := by simp [repl]
theorem repl_2 {z : List AV} : repl 2 z = z ++ z := by simp [repl, List.replicate]
theorem repl_3 {z : List AV} : repl 3 z = z ++ (z ++ z) := by simp [repl, List.replicate]
theorem repl_4 {z : List AV} : repl 4 z = z ++ (z ++ (z ++ z)) := by simp [repl, List.replicate]
theorem repl_5 {z : List AV} : repl 5 z = z ++ (z ++ (z ++ (z ++ z))) := by simp [repl, List.replicate]
theorem repl_6 {z : List AV} : repl 6 z = z ++ (z ++ (z ++ (z ++ (z ++ z)))) := by simp [repl, List.replicate]
theorem map_guardO {α β : Type} {c : Prop} [Decidable c] {x : Option α} {f : α → β} : (guardO c x).map f = guardO c (x.map f) := by unfold guardO; split <;> rfl
theorem bind_guardO {α β : Type} {c : Prop} [Decidable c] {x : Option α} {f : α → Option β} : (guardO c x).bind f = guardO c (x.bind f) := by unfold guardO; split <;> rfl
attribute [go_sem] repl_0 repl_1 repl_2 repl_3 repl_4 repl_5 repl_6 map_guardO bind_guardO
theorem ev_const {P : Program} {e : Env} {v} : ev P e (.const v) = (ofConst v).getD .any := rfl
theorem ev_func {P : Program} {e : Env} {f} : ev P e (.func f) = .fn f [] [] := rfl
attribute [go_sem] gO_nil gO_cons gO_consT hOf_load hOf_conv hOf_store hOf_call gN_cond gN_val gN_bad gW_some gW_none gW_guard outV_some outV_none outV_guard guardO_true gN_storeT putd_lk putd_lk0 lk_cons lk_nil ev_tmp ev_const ev_func gdO_tt gdO_ff gdO_tf gdO_ft gdO_u
  itemsOf itemsAt operO stepO convO callO callB appO storeO pureA loadH allocA selA binA binInt unA convA partA TD.isAgg TD.isBool TD.isPtr TD.isFunc fieldOf indexA indexAddrA_sl indexAddrA_ptr indexAddrA_rs indexAddrA_rp
  lenA_sl lenA_snil lenA_str lenA_rs buildA placesA fillA eqA eqV eqV.eqFs sliceA bndA foldA max2A min2A
  ofConst ofLeaf ofLeafs AV.cells AV.leaf List.all_cons List.all_nil Bool.true_and Bool.and_true Bool.false_and Bool.and_false Bool.true_or Bool.false_or Bool.or_false Bool.or_true Bool.not_true Bool.not_false Bool.not_not
  Option.bind_some Option.bind_none Option.map_some Option.map_none Option.getD_some Option.getD_none Option.bind_eq_bind List.getElem?_cons_zero List.getElem?_cons_succ List.getElem?_nil List.getElem?_toArray List.map_cons List.map_nil List.append_nil List.nil_append List.cons_append List.singleton_append
  List.take_zero List.drop_zero List.take_succ_cons List.drop_succ_cons List.take_nil List.drop_nil List.length_cons List.length_nil List.length_append List.tail_cons List.headD_cons List.headD_nil List.tail_nil
  if_true if_false true_and and_true false_and and_false decide_true decide_false Int.natCast_nonneg Int.toNat_natCast Nat.mul_one Nat.one_mul Nat.zero_add Nat.add_zero ne_eq not_true_eq_false not_false_eq_true Nat.zero_le Nat.zero_lt_succ Nat.zero_lt_one Nat.le_refl Int.toNat_zero Nat.zero_mul Nat.mul_zero and_self beq_self_eq_true Nat.succ_ne_self
  put_at upd_at del_at emp_at upd_putI upd_upd del_putI del_updI del_emp kill_nil cat_emp put_fresh upd_fresh gN_store
  argL TI.d TI.size TI.bytes TI.zero List.getElem?_map List.length_map

/-! ### Blocks that are written no more -/

def setL (t : Nat) (v : AV) : List (Nat × AV) → List (Nat × AV)
  | [] => [(t, v)]
  | (i, x) :: l => if i = t then (i, v) :: l else (i, x) :: setL t v l
theorem lk_setL (t : Nat) (v : AV) : ∀ L, lk (setL t v L) = put (lk L) t v
  | [] => by funext i; simp [setL, lk, put]
  | (i, x) :: l => by
    funext j
    simp only [setL]
    split
    · rename_i h; subst h
      simp only [lk, put]
      split <;> rfl
    · rename_i h
      simp only [lk, lk_setL t v l, put]
      by_cases hj : j = i
      · subst hj; simp [h]
      · simp [hj]

section
variable {P : Program} {cs : List Code} {L : List (Nat × AV)} {h : Heap} {K : Ex → Env → Heap → Prop}

/-- The block behind a pointer: read out of the pointer itself from here on. -/
theorem wpL_frzP (t : Nat) {b o : Nat} {k : Blk} (he : lk L t = .ptr b o) (hb : h b = some k) (ho : k.st = .own) (hk : wpL P cs (lk (setL t (.rp k.cells o) L)) (h.del b) K) : wpL P cs (lk L) h K := by
  refine wpL_freeze (e1 := lk (setL t (.rp k.cells o) L)) (h1 := h.del b) hb ho (fun i => ?_) (by simp [Heap.del]) (fun c kc' hc => ?_) hk
  · rw [lk_setL]
    simp only [put]
    split
    · subst_vars; rw [he]; exact .ptr (by simp)
    · exact .refl _
  · simp only [Heap.del] at hc
    split at hc
    · cases hc
    · exact ⟨kc', hc, rfl, rfl, rfl, rfl, fun i x y h1 h2 => by rw [h1] at h2; cases h2; exact .refl _⟩

/-- The block of a slice: the slice holds its elements from here on. -/
theorem wpL_frzS (t : Nat) (es : List (List AV)) {b n s : Nat} {k : Blk} (he : lk L t = .sl b 0 n s) (hb : h b = some k) (ho : k.st = .own) (hc : k.cells = es.flatten) (hl : es.length = n) (hs : ∀ e ∈ es, e.length = s)
    (hk : wpL P cs (lk (setL t (.rs s es) L)) (h.del b) K) : wpL P cs (lk L) h K := by
  refine wpL_freeze (e1 := lk (setL t (.rs s es) L)) (h1 := h.del b) hb ho (fun i => ?_) (by simp [Heap.del]) (fun c kc' hc => ?_) hk
  · rw [lk_setL]
    simp only [put]
    split
    · subst_vars; rw [he]
      refine .sl (cs := es.flatten) (by simp [hc]) rfl (fun i e hi => ?_) hs
      rw [Nat.zero_add]
      have key : ∀ (es : List (List AV)) (i : Nat) (e : List AV), (∀ e ∈ es, e.length = s) → es[i]? = some e → e = (es.flatten.drop (i * s)).take s := by
        intro es
        induction es with
        | nil => intro i e _ h; simp at h
        | cons x xs ih =>
          intro i e hs h
          have hx := hs x (by simp)
          cases i with
          | zero => simp at h; subst h; simp [← hx]
          | succ i =>
            simp only [List.getElem?_cons_succ] at h
            rw [List.flatten_cons, Nat.succ_mul, Nat.add_comm, ← List.drop_drop, ← hx, List.drop_left, hx]
            exact ih i e (fun e he => hs e (by simp [he])) h
      exact key es i e hs hi
    · exact .refl _
  · simp only [Heap.del] at hc
    split at hc
    · cases hc
    · exact ⟨kc', hc, rfl, rfl, rfl, rfl, fun i x y h1 h2 => by rw [h1] at h2; cases h2; exact .refl _⟩

theorem wpL_vecL (t s : Nat) (ty : TypeId) (he : lk L t = .snil) (hk : ∀ b, h b = none → wpL P cs (lk (setL t (.sl b 0 0 s) L)) (h.put b ⟨.own, [], ty, []⟩) K) : wpL P cs (lk L) h K :=
  wpL_vec t s ty he fun b hb => by rw [← lk_setL]; exact hk b hb
end
attribute [go_sem] setL

/-- A name that names no block yet. -/
def NewIn (h : Heap) (b : Nat) : Prop := h b = none
theorem newIn_put {h : Heap} {c b k} : NewIn (h.put c k) b = ((b = c) = False ∧ (c = b) = False ∧ NewIn h b) := put_fresh
theorem newIn_upd {h : Heap} {c b k} : NewIn (h.upd c k) b = ((b = c) = False ∧ (c = b) = False ∧ NewIn h b) := put_fresh
theorem del_putN {h : Heap} {b k} (hf : NewIn h b) : (h.put b k).del b = h := del_put hf
theorem newIn_emp {b} : NewIn Heap.emp b := rfl
attribute [go_sem] newIn_put newIn_upd

section
variable {P : Program} {all : Array Oper} {d : Option Nat} {fl : Bool} {its : List (Oper × Bool)} {e : Env} {h : Heap} {k : Env → Heap → Prop}
theorem gN_new {f} (hk : ∀ b, NewIn h b → gW P all d its e h k b (f b)) : gN P all d fl its e h k (.alloc f) := hk

/-- What is appended: m elements, their cells news. -/
structure SrcV (h : Heap) (s : Nat) (x : AV) (m : Nat) (news : List AV) : Prop where
  len : lenOfA x = some m
  src : srcH h s x = some news
  cells : news.length = m * s
  leaf : news.all AV.leaf = true

/-- Appended to a slice of the run's own. -/
theorem gN_appV {t b n s x m et ti ei cells news} (ht : tiOf P t = some ti) (hd : ti.d = .slice et) (he : tiOf P et = some ei) (hs : ei.size = s) (hp : 0 < s) (hx : SrcV h s x m news) (hb : h b = some ⟨.own, cells, et, []⟩)
    (hc : cells.length = n * s) (hbd : (n + m) * ei.bytes ≤ 140737488355328) (hm : n + m ≤ maxInt)
    (hk : ∀ b', NewIn (h.del b) b' → gO P all its (putd e d (.sl b' 0 (n + m) s)) ((h.del b).put b' ⟨.own, cells ++ news, et, []⟩) k) : gN P all d fl its e h k (.app t (.sl b 0 n s) x) := by
  subst hs
  by_cases h0 : m = 0
  · subst h0
    have hn : news = [] := List.eq_nil_of_length_eq_zero (by rw [hx.cells]; simp)
    subst hn
    refine gN_app_zero (et := et) (ei := ei) ⟨⟨ti, ht, hd⟩, he, hp, hx.len⟩ (.inr ⟨_, _, _, _, rfl⟩) ?_
    have := hk b (by simp [NewIn, Heap.del])
    have e2 : (h.del b).put b ⟨.own, cells ++ [], et, []⟩ = h := by
      funext x; simp only [Heap.put, Heap.del, List.append_nil]; split
      · subst_vars; exact hb.symm
      · rfl
    rw [e2, Nat.add_zero] at this; exact this
  · exact gN_app_own (et := et) (ei := ei) (news := news) ⟨⟨ti, ht, hd⟩, he, hp, hx.len⟩ (by omega) ⟨hx.src, hx.cells, hx.leaf⟩ hb hc.symm hbd hm fun b' hb' => hk b' (by
      simp only [NewIn, Heap.del]; split
      · rfl
      · exact hb')

/-- Appended to nil. -/
theorem gN_appN {t s x m et ti ei news} (ht : tiOf P t = some ti) (hd : ti.d = .slice et) (he : tiOf P et = some ei) (hs : ei.size = s) (hp : 0 < s) (hx : SrcV h s x m news) (hbd : m * ei.bytes ≤ 140737488355328) (hm : m ≤ maxInt)
    (hk : ∀ b', NewIn h b' → gO P all its (putd e d (.sl b' 0 m s)) (h.put b' ⟨.own, news, et, []⟩) k) : gN P all d fl its e h k (.app t .snil x) := by
  subst hs
  by_cases h0 : m = 0
  · subst h0
    have hn : news = [] := List.eq_nil_of_length_eq_zero (by rw [hx.cells]; simp)
    subst hn
    exact gN_app_nil0 (et := et) (ei := ei) ⟨⟨ti, ht, hd⟩, he, hp, hx.len⟩ hk
  · exact gN_app_nil (et := et) (ei := ei) (news := news) ⟨⟨ti, ht, hd⟩, he, hp, hx.len⟩ (by omega) ⟨hx.src, hx.cells, hx.leaf⟩ hbd hm hk

theorem SrcV.rs {s es} (hs : ∀ e ∈ es, e.length = s) (hl : es.flatten.all AV.leaf = true) : SrcV h s (.rs s es) es.length es.flatten := by
  refine ⟨rfl, by simp [srcH, guardO], ?_, hl⟩
  clear hl
  induction es with
  | nil => simp
  | cons x xs ih => simp [hs x (by simp), ih fun e he => hs e (by simp [he]), Nat.add_mul]; omega
theorem SrcV.sl {b n s cells et anc} (hb : h b = some ⟨.own, cells, et, anc⟩) (hc : cells.length = n * s) (hl : cells.all AV.leaf = true) : SrcV h s (.sl b 0 n s) n cells := by
  refine ⟨rfl, ?_, hc, hl⟩
  simp only [srcH, Nat.zero_add, hb, Option.bind_some, List.drop_zero]
  by_cases h0 : n = 0
  · subst h0
    simp at hc; simp [hc]
  · rw [if_neg h0, guardO, if_pos (by omega), List.take_of_length_le (by omega)]
theorem SrcV.str {bs : List UInt8} : SrcV h 1 (.str bs) bs.length (bs.map fun c => .int .u8 c.toNat) := ⟨rfl, rfl, by simp, by simp [AV.leaf]⟩
theorem SrcV.snil {s} : SrcV h s .snil 0 [] := ⟨rfl, rfl, by simp, rfl⟩
end

section
variable {P : Program} {cs : List Code} {L L' : List (Nat × AV)} {h h' : Heap} {K : Ex → Env → Heap → Prop}
theorem wpL_frzP' (t : Nat) {b o : Nat} {k : Blk} (he : lk L t = .ptr b o) (hb : h b = some k) (ho : k.st = .own) (hL : setL t (.rp k.cells o) L = L') (hh : h.del b = h') (hk : wpL P cs (lk L') h' K) : wpL P cs (lk L) h K :=
  wpL_frzP t he hb ho (by rw [hL, hh]; exact hk)
theorem wpL_frzS' (t : Nat) (es : List (List AV)) {b n s : Nat} {k : Blk} (he : lk L t = .sl b 0 n s) (hb : h b = some k) (ho : k.st = .own) (hc : k.cells = es.flatten) (hl : es.length = n) (hs : ∀ e ∈ es, e.length = s)
    (hL : setL t (.rs s es) L = L') (hh : h.del b = h') (hk : wpL P cs (lk L') h' K) : wpL P cs (lk L) h K := wpL_frzS t es he hb ho hc hl hs (by rw [hL, hh]; exact hk)
theorem wpL_vecL' (t s : Nat) (ty : TypeId) (he : lk L t = .snil) (hk : ∀ b, NewIn h b → wpL P cs (lk (setL t (.sl b 0 0 s) L)) (h.put b ⟨.own, [], ty, []⟩) K) : wpL P cs (lk L) h K := wpL_vecL t s ty he hk
theorem wpL_del' (b : Nat) (hh : h.del b = h') (hk : wpL P cs (lk L) h' K) : wpL P cs (lk L) h K := wpL_del b (by rw [hh]; exact hk)
theorem wpL_to (hL : L = L') (hk : wpL P cs (lk L') h K) : wpL P cs (lk L) h K := by rw [hL]; exact hk
theorem resTo {rs rs' : List ResultVar} {e : Env} {v} (h1 : rs = rs') (h2 : resAH P rs' e h = some v) : resAH P rs e h = some v := by rw [h1]; exact h2
end
attribute [go_sem] resAH resListH resOneH

theorem gN_split2 {P : Program} {all : Array Oper} {d : Option Nat} {fl : Bool} {its : List (Oper × Bool)} {e : Env} {h : Heap} {k : Env → Heap → Prop} {o : Op} {want b : Bool}
    (h1 : b = true → gN P all d fl its e h k (gdO P o e h want (.bool b))) (h2 : b = false → gN P all d fl its e h k (gdO P o e h want (.bool b))) : gN P all d fl its e h k (gdO P o e h want (.bool b)) := by
  cases hb : b with
  | true => rw [← hb]; exact h1 hb
  | false => rw [← hb]; exact h2 hb

theorem wpL_region' {P : Program} {cs : List Code} {e : Env} {h : Heap} {K : Ex → Env → Heap → Prop} {id ops} (ds : List Nat)
    (hk : ∀ k : Env → Heap → Prop, (∀ e h L, pickL ds e = L → wpL P cs (lk L) h K → k e h) → gO P ops (itemsOf ops.toList) e h k) : wpL P (.region id ops false :: cs) e h K :=
  wpL_region ds fun k hq => hk k fun e h L hL hw => hq e h (by rw [hL]; exact hw)
theorem wpL_draw' {P : Program} {cs : List Code} {e : Env} {h : Heap} {K : Ex → Env → Heap → Prop} {id ops} (ds : List Nat) (π R : List Nat) (bs : List Bool) (hok : drawOk P ops π = true) (hin : inB ops.size π = true)
    (hfl : flagsOk P ops.toList (flOf P ops (tabOf ops [] π) R π) π bs = true)
    (hk : ∀ k : Env → Heap → Prop, (∀ e h L, pickL ds e = L → wpL P cs (lk L) h K → k e h) → gO P ops (itemsAt ops.toList π bs) e h k) : wpL P (.region id ops true :: cs) e h K :=
  wpL_draw ds π R bs hok hin hfl fun k hq => hk k fun e h L hL hw => hq e h (by rw [hL]; exact hw)


theorem pickL_lk (e e' : Env) : ∀ (ds : List Nat), (∀ d ∈ ds, e d = e' d) → pickL ds e = pickL ds e'
  | [], _ => rfl
  | d :: ds, h => by simp only [pickL, h d (by simp), pickL_lk e e' ds fun x hx => h x (by simp [hx])]

/-! ### What is answered, its blocks written no more -/

/-- The cells of a slice, element by element. -/
structure Els (s : Nat) (es : List (List AV)) (n : Nat) (cells : List AV) : Prop where
  flat : cells = es.flatten
  len : es.length = n
  each : ∀ e ∈ es, e.length = s
theorem Els.cut {s es n cells} (h : Els s es n cells) : ∀ (i : Nat) (e : List AV), es[i]? = some e → e = (cells.drop (0 + i * s)).take s := by
  intro i e hi
  rw [Nat.zero_add, h.flat]
  have key : ∀ (es : List (List AV)) (i : Nat) (e : List AV), (∀ e ∈ es, e.length = s) → es[i]? = some e → e = (es.flatten.drop (i * s)).take s := by
    intro es
    induction es with
    | nil => intro i e _ h; simp at h
    | cons x xs ih =>
      intro i e hs h
      have hx := hs x (by simp)
      cases i with
      | zero => simp at h; subst h; simp [← hx]
      | succ i =>
        simp only [List.getElem?_cons_succ] at h
        rw [List.flatten_cons, Nat.succ_mul, Nat.add_comm, ← List.drop_drop, ← hx, List.drop_left, hx]
        exact ih i e (fun e he => hs e (by simp [he])) h
  exact key es i e h.each hi

inductive WkL (fz : Nat → Option (List AV)) : List AV → List AV → Prop
  | nil : WkL fz [] []
  | cons {c d cs ds} (h : Wk fz (fun _ => False) c d) (k : WkL fz cs ds) : WkL fz (c :: cs) (d :: ds)
theorem WkL.get {fz cs ds} (h : WkL fz cs ds) : cs.length = ds.length ∧ ∀ (i : Nat) (c d : AV), cs[i]? = some c → ds[i]? = some d → Wk fz (fun _ => False) c d := by
  induction h with
  | nil => exact ⟨rfl, fun i c d h => by simp at h⟩
  | cons h _ ih =>
    refine ⟨by simp [ih.1], fun i c d h1 h2 => ?_⟩
    cases i with
    | zero => simp at h1 h2; subst h1; subst h2; exact h
    | succ i => exact ih.2 i c d (by simpa using h1) (by simpa using h2)
theorem Wk.aggL {fz cs ds} (h : WkL fz cs ds) : Wk fz (fun _ => False) (.agg cs) (.agg ds) := .agg h.get.1 h.get.2
theorem Wk.tupL {fz cs ds} (h : WkL fz cs ds) : Wk fz (fun _ => False) (.tup cs) (.tup ds) := .tup h.get.1 h.get.2
theorem Wk.slF {b n s cells es} (h : Els s es n cells) : Wk (fun x => if x = b then some cells else none) (fun _ => False) (.sl b 0 n s) (.rs s es) :=
  .sl (cs := cells) (by simp) h.len h.cut h.each

inductive Frz : AV → Heap → AV → Heap → Prop
  | refl {v h} : Frz v h v h
  | step {v h b k v' v1 h1} (hb : h b = some k) (ho : k.st = .own) (hw : Wk (fun x => if x = b then some k.cells else none) (fun _ => False) v v') (hk : Frz v' (h.del b) v1 h1) : Frz v h v1 h1
theorem wpH.frz {P : Program} {f args h} {K : AV → Heap → Prop} (hw : wpH P f args h fun v h' => ∃ v1 h1, Frz v h' v1 h1 ∧ K v1 h1) : wpH P f args h K := fun m Pr R => by
  obtain ⟨v, m', h', k1, k2, k3, v1, h1, k4, k5⟩ := hw m Pr R
  have : ∀ {v h' v1 h1}, Frz v h' v1 h1 → ∀ {m'}, FInf P f args m v m' → HR Pr m' h' → (∀ b, Pr b → m'.blk b = m.blk b) → ∃ m1, FInf P f args m v1 m1 ∧ HR Pr m1 h1 ∧ ∀ b, Pr b → m1.blk b = m.blk b := by
    intro v h' v1 h1 hf
    induction hf with
    | refl => exact fun k1 k2 k3 => ⟨_, k1, k2, k3⟩
    | @step v h b k v' v1 h1 hb ho hw _ ih =>
      intro m' k1 k2 k3
      obtain ⟨m1, W, R1, F1⟩ := k2.freeze (e := lk [(0, v)]) (e1 := lk [(0, v')]) (h1 := h.del b) hb ho (fun i => by
        by_cases hi : i = 0
        · subst hi; simp only [lk]; exact hw
        · simp only [lk, if_neg hi]; exact .refl _) (by simp [Heap.del]) (fun c kc' hc => by
        simp only [Heap.del] at hc
        split at hc
        · cases hc
        · exact ⟨kc', hc, rfl, rfl, rfl, rfl, fun i x y h1 h2 => by rw [h1] at h2; cases h2; exact .refl _⟩)
      exact ih (k1.weak W) R1 fun b hb => (F1 b hb).trans (k3 b hb)
  obtain ⟨m1, r1, r2, r3⟩ := this k4 k1 k2 k3
  exact ⟨v1, m1, h1, r1, r2, r3, k5⟩

/-- A block that is written no more: its name, the size of its elements, how many, and what they hold. -/
structure FrzB where
  b : Nat
  s : Nat
  n : Nat
  es : List (List AV)
def frzL (x : FrzB) : AV → AV
  | .sl b' o n s => if b' = x.b ∧ o = 0 ∧ n = x.n ∧ s = x.s then .rs x.s x.es else .sl b' o n s
  | v => v
def frzA (x : FrzB) : AV → AV
  | .agg cs => .agg (cs.map (frzL x))
  | v => frzL x v
def frzT (x : FrzB) : AV → AV
  | .tup vs => .tup (vs.map (frzA x))
  | v => frzA x v
def frzAll : List FrzB → AV → AV
  | [], v => v
  | x :: B, v => frzAll B (frzT x v)
def neAll (b : Nat) : List FrzB → Prop
  | [] => True
  | x :: B => (x.b = b) = False ∧ neAll b B
inductive FrzOk (h : Heap) : List FrzB → Prop
  | nil : FrzOk h []
  | cons {x B k} (hb : h x.b = some k) (ho : k.st = .own) (he : Els x.s x.es x.n k.cells) (hn : neAll x.b B) (hB : FrzOk h B) : FrzOk h (x :: B)

theorem frzL_wk {x : FrzB} {cells} (he : Els x.s x.es x.n cells) (v : AV) : Wk (fun y => if y = x.b then some cells else none) (fun _ => False) v (frzL x v) := by
  cases v <;> simp only [frzL] <;> try exact .refl _
  split
  · rename_i h
    obtain ⟨rfl, rfl, rfl, rfl⟩ := h
    exact Wk.slF he
  · exact .refl _
theorem map_wk {fz : Nat → Option (List AV)} {f : AV → AV} (hf : ∀ v, Wk fz (fun _ => False) v (f v)) : ∀ cs : List AV, WkL fz cs (cs.map f)
  | [] => .nil
  | c :: cs => .cons (hf c) (map_wk hf cs)
theorem frzA_wk {x : FrzB} {cells} (he : Els x.s x.es x.n cells) (v : AV) : Wk (fun y => if y = x.b then some cells else none) (fun _ => False) v (frzA x v) := by
  cases v <;> simp only [frzA] <;> first | exact frzL_wk he _ | exact Wk.aggL (map_wk (frzL_wk he) _)
theorem frzT_wk {x : FrzB} {cells} (he : Els x.s x.es x.n cells) (v : AV) : Wk (fun y => if y = x.b then some cells else none) (fun _ => False) v (frzT x v) := by
  cases v <;> simp only [frzT] <;> first | exact frzA_wk he _ | exact Wk.tupL (map_wk (frzA_wk he) _)
theorem FrzOk.del {h : Heap} {b : Nat} : ∀ {B : List FrzB}, neAll b B → FrzOk h B → FrzOk (h.del b) B
  | [], _, _ => .nil
  | x :: B, hn, .cons hb ho he hn' hB => .cons (by simp only [Heap.del]; rw [if_neg (by intro h; simp [neAll, h] at hn)]; exact hb) ho he hn' (FrzOk.del hn.2 hB)
theorem FrzOk.frz : ∀ {B : List FrzB} {h : Heap} {v : AV}, FrzOk h B → ∃ h1, Frz v h (frzAll B v) h1
  | [], h, v, _ => ⟨h, .refl⟩
  | x :: B, h, v, .cons hb ho he hn hB => by
    obtain ⟨h1, hf⟩ := FrzOk.frz (v := frzT x v) (FrzOk.del hn hB)
    exact ⟨h1, .step hb ho (frzT_wk he v) hf⟩
/-- A function that answers what it has made, its blocks written no more. -/
theorem wpP_frz {P : Program} {f args} {v1 : AV} (hw : wpH P f args Heap.emp fun v h' => ∃ B, FrzOk h' B ∧ frzAll B v = v1) : wpP P f args v1 :=
  wpP_intro (wpH.frz (wpH.mono hw fun v h' ⟨B, h1, h2⟩ => by obtain ⟨hh, hf⟩ := h1.frz (v := v); exact ⟨_, hh, hf, h2⟩))
attribute [go_sem] frzL frzA frzT frzAll neAll

def Heap.le (h g : Heap) : Prop := ∀ b k, h b = some k → g b = some k
theorem Heap.le_refl {h : Heap} : h.le h := fun _ _ h => h
theorem Heap.le_put {h g : Heap} (hl : h.le g) {b k} : (h.put b k).le (g.put b k) := fun c kc hc => by
  simp only [Heap.put] at hc ⊢
  split
  · rename_i hcb; rw [if_pos hcb] at hc; exact hc
  · rename_i hcb; rw [if_neg hcb] at hc; exact hl c kc hc
theorem Heap.le_skip {h g : Heap} (hl : h.le g) {b k} (hb : NewIn h b) : h.le (g.put b k) := fun c kc hc => by
  simp only [Heap.put]
  rw [if_neg (by rintro rfl; rw [show h c = none from hb] at hc; cases hc)]; exact hl c kc hc
theorem wpH.le {P : Program} {f args h} {K : AV → Heap → Prop} (hw : wpH P f args h fun v h1 => ∃ h2, Heap.le h2 h1 ∧ K v h2) : wpH P f args h K := wpH.sub hw
theorem cat_put {h g : Heap} {b k} : h.cat (g.put b k) = (h.cat g).put b k := by
  funext x; simp only [Heap.cat, Heap.put]; split <;> rename_i h1
  · split at h1
    · simp at h1; simp_all
    · simp_all
  · split at h1
    · simp at h1
    · simp_all
theorem NewIn.cat {h g : Heap} (hh : ∀ b, h b ≠ none → g b = none) {b k} (hb : g b = some k) : NewIn h b := by
  unfold NewIn
  cases hx : h b with
  | none => rfl
  | some kx => have := hh b (by rw [hx]; simp); rw [hb] at this; cases this
theorem Els.map {α : Type} {f : α → List AV} {s : Nat} (hf : ∀ a, (f a).length = s) (l : List α) : Els s (l.map f) l.length ((l.map f).flatten) := ⟨rfl, by simp, fun e he => by obtain ⟨a, _, rfl⟩ := List.mem_map.1 he; exact hf a⟩
theorem Els.of {α : Type} {f : α → List AV} {s n : Nat} {cells : List AV} (hf : ∀ a, (f a).length = s) (l : List α) (hc : cells = (l.map f).flatten) (hn : l.length = n) : Els s (l.map f) n cells := by
  subst hc; subst hn; exact Els.map hf l
attribute [go_sem] cat_put

theorem run_mono {P : Program} {fl : Bool} : ∀ (x : Out) (h : Heap) (K1 K2 : AV → Heap → Prop), (∀ v h, K1 v h → K2 v h) → x.run P fl h K1 → x.run P fl h K2 := by
  intro x
  induction x with
  | bad => exact fun _ _ _ _ h => h
  | cond c x ih => exact fun h K1 K2 hK hr => ⟨hr.1, ih h K1 K2 hK hr.2⟩
  | val v => exact fun h K1 K2 hK hr => hK _ _ hr
  | alloc f =>
    intro h K1 K2 hK hr b hb
    have := hr b hb
    cases hf : f b with
    | none => rw [hf] at this; exact this
    | some vk => rw [hf] at this; exact hK _ _ this
  | store b k o cs => exact fun h K1 K2 hK hr => ⟨hr.1, hr.2.1, hK _ _ hr.2.2⟩
  | same t b n =>
    rintro h K1 K2 hK ⟨h0, ti, et, ei, kk, es, h1, h2, h3, h4, h5, h6, h7, h8, h9, h10, h11, h12⟩
    exact ⟨h0, ti, et, ei, kk, es, h1, h2, h3, h4, h5, h6, h7, h8, h9, h10, h11, hK _ _ h12⟩
  | app t s x =>
    intro h K1 K2 hK hr
    cases hr with
    | zero h1 h2 h3 => exact .zero h1 h2 (hK _ _ h3)
    | nil0 h1 h2 h3 => exact .nil0 h1 h2 fun b hb => hK _ _ (h3 b hb)
    | nil h1 h2 h3 h4 h5 h6 h7 => exact .nil h1 h2 h3 h4 h5 h6 fun b hb => hK _ _ (h7 b hb)
    | own h1 h2 h3 h4 h5 h6 h7 h8 h9 h10 h11 h12 => exact .own h1 h2 h3 h4 h5 h6 h7 h8 h9 h10 h11 fun b hb => hK _ _ (h12 b hb)
    | keep h1 h2 h3 h4 h5 h6 h7 h8 h9 h10 h11 => exact .keep h1 h2 h3 h4 h5 h6 h7 h8 h9 h10 fun b hb => hK _ _ (h11 b hb)
  | call g args =>
    intro h K1 K2 hK hr
    rcases hr with ⟨h1, h2⟩ | h2 | h2
    · exact .inl ⟨h1, h2.mono hK⟩
    · exact .inr (.inl fun m Pr R => let ⟨v, m', h', k1, k2, k3, k4, k5⟩ := h2 m Pr R; ⟨v, m', h', k1, k2, k3, k4, hK _ _ k5⟩)
    · exact .inr (.inr (h2.mono fun v h' hv hh => hK _ _ (hv hh)))

theorem gO_mono {P : Program} {all : Array Oper} : ∀ {its : List (Oper × Bool)} {e : Env} {h : Heap} {k1 k2 : Env → Heap → Prop}, (∀ e h, k1 e h → k2 e h) → gO P all its e h k1 → gO P all its e h k2
  | [], _, _, _, _, hk, h => hk _ _ h
  | (o, fl) :: its, e, h, k1, k2, hk, hg => run_mono (K1 := fun v h' => gO P all its (putd e o.dst v) h' k1) _ _ _ (fun v h => gO_mono hk) hg

/-- A region that comes to one value, whichever way it goes. -/
theorem wpL_regV {P : Program} {cs : List Code} {e : Env} {h : Heap} {K : Ex → Env → Heap → Prop} {id ops L1} (ds : List Nat) (t : Nat) (v : AV) (hL : pickL (t :: ds) (put e t v) = L1) (hd : t ∉ ds)
    (hk : gO P ops (itemsOf ops.toList) e h fun e' h' => h' = h ∧ e' t = v ∧ pickL ds e' = pickL ds e) (hw : wpL P cs (lk L1) h K) : wpL P (.region id ops false :: cs) e h K := by
  refine wpL_region (t :: ds) fun k hq => gO_mono (fun e' h' ⟨h1, h2, h3⟩ => hq e' h' ?_) hk
  have h4 : pickL ds e = pickL ds (put e t v) := pickL_lk _ _ _ fun d hd' => by simp only [put]; rw [if_neg (by rintro rfl; exact hd hd')]
  have h5 : pickL (t :: ds) e' = pickL (t :: ds) (put e t v) := by simp only [pickL]; rw [h2, h3, h4]; simp [put]
  rw [h1, h5, hL]; exact hw
theorem wpL_drawV {P : Program} {cs : List Code} {e : Env} {h : Heap} {K : Ex → Env → Heap → Prop} {id ops L1} (ds : List Nat) (t : Nat) (v : AV) (π R : List Nat) (bs : List Bool) (hok : drawOk P ops π = true) (hin : inB ops.size π = true)
    (hfl : flagsOk P ops.toList (flOf P ops (tabOf ops [] π) R π) π bs = true) (hL : pickL (t :: ds) (put e t v) = L1) (hd : t ∉ ds)
    (hk : gO P ops (itemsAt ops.toList π bs) e h fun e' h' => h' = h ∧ e' t = v ∧ pickL ds e' = pickL ds e) (hw : wpL P cs (lk L1) h K) : wpL P (.region id ops true :: cs) e h K := by
  refine wpL_draw (t :: ds) π R bs hok hin hfl fun k hq => gO_mono (fun e' h' ⟨h1, h2, h3⟩ => hq e' h' ?_) hk
  have h4 : pickL ds e = pickL ds (put e t v) := pickL_lk _ _ _ fun d hd' => by simp only [put]; rw [if_neg (by rintro rfl; exact hd hd')]
  have h5 : pickL (t :: ds) e' = pickL (t :: ds) (put e t v) := by simp only [pickL]; rw [h2, h3, h4]; simp [put]
  rw [h1, h5, hL]; exact hw
theorem wpL_pick' {P : Program} {cs : List Code} {e : Env} {h : Heap} {K : Ex → Env → Heap → Prop} (ds : List Nat) {L1} (hL : pickL ds e = L1) (hk : wpL P cs (lk L1) h K) : wpL P cs e h K := wpL_pick ds (by rw [hL]; exact hk)
attribute [go_sem] pickL put wrap64 wrap32 wrapU64 wrapU8 wrapU32 wrapU16 AV.bool.injEq AV.int.injEq repl_one set_take_cons set_of_take AV.str.injEq maxInt Int.cast_ofNat_Int Int.le_refl


end Go.Proofs.Ytdchdlabdokjnaa.Am
