import Derived.Test.YtdhmjhoaegdfjaaD28
import Derived.Test.YtdhmjhoaegdfjaaP12
namespace Go.Proofs.Ytdhmjhoaegdfjaa
open Go.RowKit Go.Sort Go.BigFrame

theorem nb_sym {S : List Int} {m n : Nat} (hS : ∀ j, j < m → (∃ a : Nat, gi S (2 * (j : Int)) = a ∧ a < n) ∧ ∃ b : Nat, gi S (2 * (j : Int) + 1) = b ∧ b < n) (f g : Nat) : (nbS S f m).testBit g = (nbS S g m).testBit f := by
  rw [Bool.eq_iff_iff, nbS_bit hS f g m (Nat.le_refl _), nbS_bit hS g f m (Nat.le_refl _)]
  constructor
  · rintro ⟨i, h1, h2, h3⟩; exact ⟨i, h1, h2, h3.symm⟩
  · rintro ⟨i, h1, h2, h3⟩; exact ⟨i, h1, h2, h3.symm⟩
/-- the faces beside each other by the first j leads -/
def bsJ (S : List Int) (j a b : Nat) : Bool := (nbS S a j).testBit b
theorem bsJ_step {S : List Int} {j a b : Nat} (ea : gi S (2 * (j : Int)) = a) (eb : gi S (2 * (j : Int) + 1) = b) (hab : a ≠ b) (x y : Nat) :
    (if x = b ∧ y = a then true else if x = a ∧ y = b then true else bsJ S j x y) = bsJ S (j + 1) x y := by
  unfold bsJ
  rw [nbS_succ, ea, eb, if_neg (show ¬ ((a : Int) = b) by omega)]
  by_cases h1 : x = a
  · subst h1
    rw [if_neg (show ¬ (x = b ∧ y = x) by omega), if_pos (show ((x : Int) = (x : Int)) from rfl), Nat.testBit_or, Nat.testBit_two_pow]
    by_cases h2 : y = b
    · subst h2; simp
    · rw [if_neg (by omega), decide_eq_false (by omega)]; simp
  · by_cases h2 : x = b
    · subst h2
      rw [if_neg (show ¬ ((x : Int) = a) by omega), if_pos (show ((x : Int) = (x : Int)) from rfl), Nat.testBit_or, Nat.testBit_two_pow]
      by_cases h3 : y = a
      · subst h3; simp
      · rw [if_neg (by omega), if_neg (by omega), decide_eq_false (by omega)]; simp
    · rw [if_neg (by omega), if_neg (by omega), if_neg (show ¬ ((x : Int) = a) by omega), if_neg (show ¬ ((x : Int) = b) by omega)]
theorem bsJ_same {S : List Int} {j a b : Nat} (ea : gi S (2 * (j : Int)) = a) (eb : gi S (2 * (j : Int) + 1) = b) (hab : a = b) (x y : Nat) : bsJ S j x y = bsJ S (j + 1) x y := by
  unfold bsJ
  rw [nbS_succ, ea, eb, if_pos (show ((a : Int) = b) by omega)]
theorem OwM.congr {w : World} {B0 B n k : Nat} {v : Value} {rb : Nat → Nat} {M M' : Nat → Nat → Bool} (h : OwM w B0 B v n k rb M) (he : ∀ a b, M a b = M' a b) : OwM w B0 B v n k rb M' := by
  have : M = M' := funext fun a => funext fun b => he a b
  rw [← this]; exact h
theorem OwM.lt {w : World} {B0 B n k : Nat} {v : Value} {rb : Nat → Nat} {M : Nat → Nat → Bool} (h : OwM w B0 B v n k rb M) {i : Nat} (hi : i < k) : B ≤ rb i ∧ rb i < w.heap.size := World.ownsRow.lt (h.rw_ i hi) _ rfl

end Go.Proofs.Ytdhmjhoaegdfjaa
