import Derived.Test.YtpainmnekgnpeaaA4
namespace Go.Proofs.Ytpainmnekgnpeaa
/-! Plain words: leads that cross, nodes on leads, windows. No program in sight. -/
theorem lok_spec {ns : List P2} {p q : Int} (h : lok ns (p, q) = true) : ∃ i j : Nat, p = i ∧ q = j ∧ i < j ∧ i < ns.length ∧ j < ns.length ∧ nok (gp ns p) = true ∧ nok (gp ns q) = true ∧ gp ns p ≠ gp ns q := by
  simp only [lok, Bool.and_eq_true, decide_eq_true_eq] at h
  obtain ⟨⟨⟨⟨⟨h1, h2⟩, h3⟩, h4⟩, h5⟩, h6⟩ := h
  exact ⟨p.toNat, q.toNat, by omega, by omega, by omega, by omega, by omega, h4, h5, h6⟩

def sgn (a b c d : P2) : Bool := decide (turn0 a b c * turn0 a b d < 0) && decide (turn0 c d a * turn0 c d b < 0)
/-- do two leads cross, their ends given -/
def dox4 (a b c d : P2) : Bool :=
  (peq a c && peq b d || (peq a d && peq b c)) || (btw a b c || btw a b d || btw c d a || btw c d b) || sgn a b c d
def dox (ns : List P2) (l m : P2) : Bool := lok ns l && lok ns m && dox4 (gp ns l.1) (gp ns l.2) (gp ns m.1) (gp ns m.2)

theorem turn0_bd {a b c : P2} (n1 : nok a = true) (n2 : nok b = true) (n3 : nok c = true) : -800 ≤ turn0 a b c ∧ turn0 a b c ≤ 800 := by
  obtain ⟨m1, m2⟩ := turn_bd n1 n2 n3
  unfold turn0; omega
theorem mul_bd8 {x y : Int} (h1 : -800 ≤ x ∧ x ≤ 800) (h3 : -800 ≤ y ∧ y ≤ 800) : -640000 ≤ x * y ∧ x * y ≤ 640000 := by
  have := Int.mul_nonneg (show 0 ≤ 800 - x by omega) (show 0 ≤ 800 - y by omega)
  have := Int.mul_nonneg (show 0 ≤ 800 + x by omega) (show 0 ≤ 800 - y by omega)
  have := Int.mul_nonneg (show 0 ≤ 800 - x by omega) (show 0 ≤ 800 + y by omega)
  have := Int.mul_nonneg (show 0 ≤ 800 + x by omega) (show 0 ≤ 800 + y by omega)
  simp only [Int.sub_mul, Int.add_mul, Int.mul_sub, Int.mul_add] at *
  omega
theorem turn_eq {a b c : P2} (n1 : nok a = true) (n2 : nok b = true) (n3 : nok c = true) : turn a b c = turn0 a b c := by simp [turn, turn0, n1, n2, n3]


/-- the node n is on the lead l -/
def onl (ns : List P2) (l n : P2) : Bool := lok ns l && (peq n (gp ns l.1) || peq n (gp ns l.2) || btw (gp ns l.1) (gp ns l.2) n)
end Go.Proofs.Ytpainmnekgnpeaa
