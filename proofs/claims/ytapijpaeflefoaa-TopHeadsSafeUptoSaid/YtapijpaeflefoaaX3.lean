/- Heads: are they sound? -/
import Derived.Test.YtapijpaeflefoaaX2
namespace Go.Proofs.Ytapijpaeflefoaa.Am.X
set_option linter.unusedSectionVars false
open Go Go.Proofs Am
set_option linter.unusedVariables false
set_option linter.unusedSimpArgs false
set_option maxRecDepth 100000
attribute [local irreducible] gO gN gW gdO

def c1 (k : IntKind) (a : Int) : List AV := [.int k a]
structure Hd where
  aspect : List Int
  ins : List Int
  away : List Int
def Hd.cells (h : Hd) : List AV := [.rs 1 (h.aspect.map (c1 .i64)), .rs 1 (h.ins.map (c1 .i32)), .rs 1 (h.away.map (c1 .i32))]
def Hd.av (h : Hd) : AV := .agg h.cells
def Hd.len (h : Hd) (n : Nat) : Bool := decide (h.aspect.length = n) && decide (h.ins.length = n) && decide (h.away.length = n)

def headOk (g : Group) (a i w : Int) : Bool :=
  inB 0 3 a && decide (1 ≤ i) && (if a = 2 then decide (w = 0) else decide (1 ≤ w)) && (!decide (a = 1) || decide (i ≤ g.lead)) && (!decide (a = 3) || decide (i ≤ g.amber))
def headsFrom : List Group → List Int → List Int → List Int → Bool
  | g :: gs, a :: l1, i :: l2, w :: l3 => headOk g a i w && headsFrom gs l1 l2 l3
  | _, _, _, _ => true
def confFree (l : List Int) (c : Conf) : Bool := decide (l.getD c.a.toNat 0 = 0) || decide (l.getD c.b.toNat 0 = 0)
def sound (t : Tables) (h : Hd) : Bool := t.ok && h.len t.groups.length && headsFrom t.groups h.aspect h.ins h.away && t.confs.all (confFree h.aspect)

structure Small (t : Tables) (h : Hd) : Prop where
  g : t.groups.length ≤ 9223372036854775806
  c : t.confs.length ≤ 9223372036854775806
  a : h.aspect.length ≤ 17592186043904
  i : ∀ x ∈ h.ins, -2147483648 ≤ x ∧ x ≤ 2147483647

theorem confs_ok {n : Nat} : ∀ {l : List Conf} {a b : Int}, confsFrom n a b l = true → ∀ c ∈ l, c.ok n = true
  | [], _, _, _, c, hc => by cases hc
  | d :: l, a, b, h, c, hc => by
    simp only [confsFrom, Bool.and_eq_true] at h
    rcases List.mem_cons.1 hc with rfl | hc
    · exact h.1.1
    · exact confs_ok h.2 c hc
theorem Tables.ok_conf {t : Tables} (h : t.ok = true) {c : Conf} (hc : c ∈ t.confs) : ∃ a b : Nat, c.a = a ∧ c.b = b ∧ a < b ∧ b < t.groups.length := by
  simp only [Tables.ok, Bool.and_eq_true] at h
  have := confs_ok h.2 c hc
  simp [Conf.ok] at this
  exact ⟨c.a.toNat, c.b.toNat, by omega, by omega, by omega, by omega⟩
theorem Hd.len_iff {h : Hd} {n : Nat} : h.len n = true ↔ h.aspect.length = n ∧ h.ins.length = n ∧ h.away.length = n := by simp [Hd.len, and_assoc]

end Go.Proofs.Ytapijpaeflefoaa.Am.X
