import Derived.Test.YtdhmjhoaegdfjaaGreatP8
namespace Go.Proofs.YtdhmjhoaegdfjaaGreat
/-! Plain words: the first free color. -/
def mexF (u : Nat → Bool) : Nat → Nat → Nat
  | 0, s => s
  | f + 1, s => if u s = true then mexF u f (s + 1) else s
theorem mexF_aux {u : Nat → Bool} {b : Nat} (hb : u b = false) : ∀ (f s : Nat), s ≤ b → b ≤ s + f → u (mexF u f s) = false ∧ (∀ m, s ≤ m → m < mexF u f s → u m = true) ∧ mexF u f s ≤ b ∧ s ≤ mexF u f s
  | 0, s, h1, h2 => by
    have e : s = b := by omega
    subst e
    exact ⟨hb, fun m h3 h4 => by simp [mexF] at h4; omega, Nat.le_refl _, Nat.le_refl _⟩
  | f + 1, s, h1, h2 => by
    by_cases h : u s = true
    · have e : mexF u (f + 1) s = mexF u f (s + 1) := if_pos h
      rw [e]
      have hs : s ≠ b := fun e => by rw [e, hb] at h; cases h
      obtain ⟨h3, h4, h5, h6⟩ := mexF_aux hb f (s + 1) (by omega) (by omega)
      refine ⟨h3, fun m h7 h8 => ?_, h5, by omega⟩
      rcases Nat.eq_or_lt_of_le h7 with h9 | h9
      · subst h9; exact h
      · exact h4 m (by omega) h8
    · have e : mexF u (f + 1) s = s := if_neg h
      rw [e]
      exact ⟨eq_false_of_ne_true h, fun m h3 h4 => by omega, h1, Nat.le_refl _⟩
theorem mexF_spec {u : Nat → Bool} {b f : Nat} (hb : u b = false) (hf : b ≤ f) : u (mexF u f 0) = false ∧ (∀ m, m < mexF u f 0 → u m = true) ∧ mexF u f 0 ≤ b := by
  obtain ⟨h1, h2, h3, -⟩ := mexF_aux hb f 0 (Nat.zero_le _) (by omega)
  exact ⟨h1, fun m hm => h2 m (Nat.zero_le _) hm, h3⟩
theorem mex_uniq {u : Nat → Bool} {r n : Nat} (h1 : u r = false) (h2 : ∀ m, m < r → u m = true) (h3 : u n = false) (h4 : ∀ m, m < n → u m = true) : n = r := by
  rcases Nat.lt_trichotomy n r with h | h | h
  · have := h2 n h; rw [h3] at this; cases this
  · exact h
  · have := h4 r h; rw [h1] at this; cases this

/-- color n is in use beside f, among the first j faces -/
def usd (N : Nat → Nat) (L : List Nat) (f : Nat) : Nat → Nat → Bool
  | 0, _ => false
  | j + 1, n => usd N L f j n || ((N f).testBit j && L.getD j 0 == n)
theorem usd_iff {N : Nat → Nat} {L : List Nat} {f n : Nat} : ∀ j, usd N L f j n = true ↔ ∃ i, i < j ∧ (N f).testBit i = true ∧ L.getD i 0 = n
  | 0 => by simp [usd]
  | j + 1 => by
    have ih := usd_iff (N := N) (L := L) (f := f) (n := n) j
    unfold usd
    rw [Bool.or_eq_true, ih, Bool.and_eq_true, beq_iff_eq]
    constructor
    · rintro (⟨i, hi, h⟩ | h)
      · exact ⟨i, by omega, h⟩
      · exact ⟨j, by omega, h⟩
    · rintro ⟨i, hi, h⟩
      rcases Nat.lt_succ_iff_lt_or_eq.1 hi with h2 | h2
      · exact .inl ⟨i, h2, h⟩
      · subst h2; exact .inr h
/-- the colors of the first f faces -/
def gcN (N : Nat → Nat) : Nat → List Nat
  | 0 => []
  | f + 1 => gcN N f ++ [mexF (usd N (gcN N f) f f) 64 0]
theorem gcN_len (N : Nat → Nat) : ∀ f, (gcN N f).length = f
  | 0 => rfl
  | f + 1 => by
    have := gcN_len N f
    unfold gcN
    rw [List.length_append, this]; rfl
theorem gcN_at (N : Nat → Nat) {f i : Nat} (h : i < f) : (gcN N (f + 1)).getD i 0 = (gcN N f).getD i 0 := by
  have hl := gcN_len N f
  show (gcN N f ++ [_]).getD i 0 = _
  rw [List.getD_eq_getElem?_getD, List.getElem?_append_left (by omega), ← List.getD_eq_getElem?_getD]
theorem gcN_last (N : Nat → Nat) (f : Nat) : (gcN N (f + 1)).getD f 0 = mexF (usd N (gcN N f) f f) 64 0 := by
  have hl := gcN_len N f
  show (gcN N f ++ [_]).getD f 0 = _
  rw [List.getD_eq_getElem?_getD, List.getElem?_append_right (by omega), hl, Nat.sub_self]
  rfl
theorem gcN_le (N : Nat → Nat) : ∀ f, f ≤ 64 → ∀ i, i < f → (gcN N f).getD i 0 ≤ i
  | 0, _ => fun i hi => by omega
  | f + 1, hf => fun i hi => by
    have ih := gcN_le N f (by omega)
    rcases Nat.lt_succ_iff_lt_or_eq.1 hi with h | h
    · rw [gcN_at N h]; exact ih i h
    · subst h
      rw [gcN_last]
      have hu : usd N (gcN N i) i i i = false := by
        rw [Bool.eq_false_iff]
        intro e
        obtain ⟨q, hq, _, e⟩ := (usd_iff i).1 e
        have := ih q hq
        omega
      exact (mexF_spec hu (by omega)).2.2
theorem gcN_mex (N : Nat → Nat) {f : Nat} (hf : f < 64) : usd N (gcN N f) f f (mexF (usd N (gcN N f) f f) 64 0) = false ∧ (∀ m, m < mexF (usd N (gcN N f) f f) 64 0 → usd N (gcN N f) f f m = true) ∧ mexF (usd N (gcN N f) f f) 64 0 ≤ f := by
  have ih := gcN_le N f (by omega)
  have hu : usd N (gcN N f) f f f = false := by
    rw [Bool.eq_false_iff]
    intro e
    obtain ⟨q, hq, _, e⟩ := (usd_iff f).1 e
    have := ih q hq
    omega
  exact mexF_spec hu (by omega)
/-- the set of the colors in use -/
def tkN (N : Nat → Nat) (L : List Nat) (f : Nat) : Nat → Nat
  | 0 => 0
  | j + 1 => if (N f).testBit j = true then tkN N L f j ||| 2 ^ (L.getD j 0) else tkN N L f j
theorem tkN_bit (N : Nat → Nat) (L : List Nat) (f n : Nat) : ∀ j, (tkN N L f j).testBit n = usd N L f j n
  | 0 => by simp [tkN, usd]
  | j + 1 => by
    have ih := tkN_bit N L f n j
    unfold usd
    rw [← ih]
    show (if (N f).testBit j = true then tkN N L f j ||| 2 ^ (L.getD j 0) else tkN N L f j).testBit n = _
    by_cases h : (N f).testBit j = true
    · rw [if_pos h, h, Nat.testBit_or, Nat.testBit_two_pow, Bool.true_and]
      congr 1
    · rw [if_neg h, eq_false_of_ne_true h]; simp
theorem tkN_lt (N : Nat → Nat) (L : List Nat) (f n : Nat) (hL : ∀ i, i < f → L.getD i 0 < n) : ∀ j, j ≤ f → tkN N L f j < 2 ^ n
  | 0, _ => Nat.two_pow_pos n
  | j + 1, hj => by
    have ih := tkN_lt N L f n hL j (by omega)
    show (if (N f).testBit j = true then tkN N L f j ||| 2 ^ (L.getD j 0) else tkN N L f j) < 2 ^ n
    split
    · exact Nat.or_lt_two_pow ih (Nat.pow_lt_pow_right (by omega) (hL j (by omega)))
    · exact ih
end Go.Proofs.YtdhmjhoaegdfjaaGreat
