import Derived.Test.YtdhmjhoaegdfjaaG16
namespace Go.Proofs.Ytdhmjhoaegdfjaa.Pl
open Go.Proofs.Ytdhmjhoaegdfjaa
/-! What FnPanes asks, first part: points on one line. -/
def cr (a b : P2) : Int := a.1 * b.2 - a.2 * b.1
theorem mul_zero' {a b : Int} (h : a * b = 0) : a = 0 ∨ b = 0 := Int.mul_eq_zero.1 h
theorem col_step {D u v : P2} (hu : u.1 ≠ 0 ∨ u.2 ≠ 0) (h1 : cr D u = 0) (h2 : cr u v = 0) : cr D v = 0 := by
  unfold cr at *
  have e1 : (D.1 * v.2 - D.2 * v.1) * u.1 = 0 := by grind
  have e2 : (D.1 * v.2 - D.2 * v.1) * u.2 = 0 := by grind
  rcases hu with c | c
  · exact (mul_zero' e1).resolve_right c
  · exact (mul_zero' e2).resolve_right c
def df (a b : P2) : P2 := (b.1 - a.1, b.2 - a.2)
theorem df_ne {a b : P2} (h : b ≠ a) : (df a b).1 ≠ 0 ∨ (df a b).2 ≠ 0 := by
  by_cases c : (df a b).1 = 0
  · right
    intro c2
    exact h (Prod.ext (by unfold df at c; simp only at c; omega) (by unfold df at c2; simp only at c2; omega))
  · exact .inl c
/-- points behind one another without a turn lie on one line -/
theorem chain_col {p : Nat → P2} (hne : ∀ i, p (i + 1) ≠ p i) {a : Nat} : ∀ n, (∀ i, i < n → turn0 (p (a + i)) (p (a + i + 1)) (p (a + i + 2)) = 0) →
    cr (df (p a) (p (a + 1))) (df (p (a + n)) (p (a + n + 1))) = 0 ∧ cr (df (p a) (p (a + 1))) (df (p a) (p (a + n))) = 0 ∧ cr (df (p a) (p (a + 1))) (df (p a) (p (a + n + 1))) = 0
  | 0, _ => by
    refine ⟨?_, ?_, ?_⟩ <;> unfold cr df <;> simp only [Nat.add_zero] <;> grind
  | n + 1, h => by
    obtain ⟨h1, h2, h3⟩ := chain_col hne n fun i hi => h i (by omega)
    have ht := h n (by omega)
    have h4 : cr (df (p (a + n)) (p (a + n + 1))) (df (p (a + n + 1)) (p (a + n + 2))) = 0 := by
      unfold turn0 at ht; unfold cr df; simp only; grind
    have h5 := col_step (df_ne (hne (a + n))) h1 h4
    refine ⟨h5, h3, ?_⟩
    show cr (df (p a) (p (a + 1))) (df (p a) (p (a + n + 2))) = 0
    unfold cr df at *
    simp only at *
    grind
/-- a closed chain with turns at a and b alone lies on one line -/
theorem two_turns {p : Nat → P2} (hne : ∀ i, p (i + 1) ≠ p i) {a b L : Nat} (h1 : a < b) (h2 : b < a + L) (hper : p (a + L) = p a)
    (_hab : p b ≠ p a) (hz : ∀ i, a ≤ i → i + 1 < a + L → i + 1 ≠ b → turn0 (p i) (p (i + 1)) (p (i + 2)) = 0) :
    ∀ i, a ≤ i → i ≤ a + L → cr (df (p a) (p b)) (df (p a) (p i)) = 0 := by
  have c1 : ∀ j, a + j + 1 ≤ b → cr (df (p a) (p (a + 1))) (df (p a) (p (a + j + 1))) = 0 := fun j hj =>
    (chain_col hne j fun i hi => hz (a + i) (by omega) (by omega) (by omega)).2.2
  have c2 : ∀ j, b + j + 1 ≤ a + L → cr (df (p b) (p (b + 1))) (df (p b) (p (b + j + 1))) = 0 := fun j hj =>
    (chain_col hne j fun i hi => hz (b + i) (by omega) (by omega) (by omega)).2.2
  have k1 := c1 (b - a - 1) (by omega)
  rw [show a + (b - a - 1) + 1 = b by omega] at k1
  have k2 := c2 (a + L - b - 1) (by omega)
  rw [show b + (a + L - b - 1) + 1 = a + L by omega, hper] at k2
  have e1 : cr (df (p a) (p b)) (df (p a) (p (a + 1))) = 0 := by unfold cr at *; grind
  have e2 : cr (df (p a) (p b)) (df (p b) (p (b + 1))) = 0 := by unfold cr df at *; simp only at *; grind
  intro i hi1 hi2
  rcases Nat.lt_or_ge b i with c | c
  · have k3 := c2 (i - b - 1) (by omega)
    rw [show b + (i - b - 1) + 1 = i by omega] at k3
    have := col_step (df_ne (hne b)) e2 k3
    unfold cr df at *; simp only at *; grind
  · rcases Nat.eq_or_lt_of_le hi1 with c0 | c0
    · subst c0; unfold cr df; simp only; grind
    · have k3 := c1 (i - a - 1) (by omega)
      rw [show a + (i - a - 1) + 1 = i by omega] at k3
      exact col_step (df_ne (hne a)) e1 k3
theorem par {E x y : P2} (hE : E.1 ≠ 0 ∨ E.2 ≠ 0) (h1 : cr E x = 0) (h2 : cr E y = 0) : cr x y = 0 := by
  have e1 : cr x E = 0 := by unfold cr at *; grind
  exact col_step hE e1 h2
/-- such a chain goes around nothing -/
theorem line_sum {p : Nat → P2} {a L : Nat} {E : P2} (hE : E.1 ≠ 0 ∨ E.2 ≠ 0) (h : ∀ i, a ≤ i → i ≤ a + L → cr E (df (p a) (p i)) = 0) :
    ∀ n, n ≤ L → sm n (fun i => cr (p (a + i)) (p (a + i + 1))) = cr (p a) (p (a + n))
  | 0, _ => by show (0 : Int) = _; unfold cr; simp only [Nat.add_zero]; grind
  | n + 1, hn => by
    have ih := line_sum hE h n (by omega)
    have := par hE (h (a + n) (by omega) (by omega)) (h (a + n + 1) (by omega) (by omega))
    rw [sm_succ, ih]
    show _ = cr (p a) (p (a + n + 1))
    unfold cr df at *; simp only at *; grind
theorem cnp_zero_all {P : Nat → Bool} : ∀ n, cnp P n = 0 → ∀ i, i < n → P i = false
  | 0, _, i, h => by omega
  | n + 1, h, i, hi => by
    by_cases c : P n = true
    · rw [cnp_yes c] at h; omega
    · have c := eq_false_of_ne_true c
      rw [cnp_no c] at h
      rcases Nat.lt_succ_iff_lt_or_eq.1 hi with g | rfl
      · exact cnp_zero_all n h i g
      · exact c
theorem cnp_one {P : Nat → Bool} : ∀ n, cnp P n ≤ 1 → 1 ≤ n → ∃ a, a < n ∧ ∀ i, i < n → i ≠ a → P i = false
  | 0, _, h => by omega
  | n + 1, h, _ => by
    by_cases c : P n = true
    · rw [cnp_yes c] at h
      exact ⟨n, by omega, fun i hi hne => cnp_zero_all n (by omega) i (by omega)⟩
    · have c := eq_false_of_ne_true c
      rw [cnp_no c] at h
      rcases Nat.eq_zero_or_pos n with h0 | h0
      · subst h0; exact ⟨0, by omega, fun i hi hne => by omega⟩
      · obtain ⟨a, ha, hh⟩ := cnp_one n h h0
        refine ⟨a, by omega, fun i hi hne => ?_⟩
        rcases Nat.lt_succ_iff_lt_or_eq.1 hi with g | rfl
        · exact hh i g hne
        · exact c
theorem cnp_two {P : Nat → Bool} : ∀ n, cnp P n ≤ 2 → 2 ≤ n → ∃ a b, a < b ∧ b < n ∧ ∀ i, i < n → i ≠ a → i ≠ b → P i = false
  | 0, _, h => by omega
  | n + 1, h, h2 => by
    by_cases c : P n = true
    · rw [cnp_yes c] at h
      obtain ⟨a, ha, hh⟩ := cnp_one (P := P) n (by omega) (by omega)
      exact ⟨a, n, ha, by omega, fun i hi h1 h2 => hh i (by omega) h1⟩
    · have c := eq_false_of_ne_true c
      rw [cnp_no c] at h
      rcases Nat.lt_or_ge n 2 with h0 | h0
      · obtain rfl : n = 1 := by omega
        exact ⟨0, 1, by omega, by omega, fun i hi h1 h2 => by omega⟩
      · obtain ⟨a, b, hab, hb, hh⟩ := cnp_two n h h0
        refine ⟨a, b, hab, by omega, fun i hi h1 h2 => ?_⟩
        rcases Nat.lt_succ_iff_lt_or_eq.1 hi with g | rfl
        · exact hh i g h1 h2
        · exact c
end Go.Proofs.Ytdhmjhoaegdfjaa.Pl
