import Derived.Test.YtdhmjhoaegdfjaaGreatP11
import Derived.Test.YtdhmjhoaegdfjaaGreatG6
namespace Go.Proofs.YtdhmjhoaegdfjaaGreat
/-! Plain words: a face gets a free color. -/
/-- the first index below n with p -/
def fstP (p : Nat → Bool) : Nat → Option Nat
  | 0 => none
  | n + 1 => match fstP p n with
    | some g => some g
    | none => if p n = true then some n else none
theorem fstP_hit {p : Nat → Bool} {i : Nat} (h : fstP p i = none) (hp : p i = true) : ∀ d, fstP p (i + 1 + d) = some i
  | 0 => by
    show (match fstP p i with | some g => some g | none => if p i = true then some i else none) = some i
    rw [h]
    exact if_pos hp
  | d + 1 => by
    have ih := fstP_hit h hp d
    show (match fstP p (i + 1 + d) with | some g => some g | none => if p (i + 1 + d) = true then some (i + 1 + d) else none) = some i
    rw [ih]
theorem fstP_at {p : Nat → Bool} {i n : Nat} (h : fstP p i = none) (hp : p i = true) (hn : i < n) : fstP p n = some i := by
  have := fstP_hit h hp (n - (i + 1))
  rwa [show i + 1 + (n - (i + 1)) = n by omega] at this
theorem fstP_no {p : Nat → Bool} {i : Nat} (h : fstP p i = none) (hp : p i = false) : fstP p (i + 1) = none := by
  show (match fstP p i with | some g => some g | none => if p i = true then some i else none) = none
  rw [h]
  exact if_neg (by simp [hp])
theorem fstP_none {p : Nat → Bool} : ∀ {n : Nat}, fstP p n = none → ∀ i, i < n → p i = false
  | 0, _ => fun i hi => by omega
  | n + 1, h => fun i hi => by
    have h' : (match fstP p n with | some g => some g | none => if p n = true then some n else none) = none := h
    cases hq : fstP p n with
    | some g => rw [hq] at h'; cases h'
    | none =>
      rw [hq] at h'
      rcases Nat.lt_succ_iff_lt_or_eq.1 hi with h1 | h1
      · exact fstP_none hq i h1
      · subst h1
        by_cases hp : p i = true
        · simp [hp] at h'
        · exact eq_false_of_ne_true hp
theorem fstP_some {p : Nat → Bool} : ∀ {n g : Nat}, fstP p n = some g → g < n ∧ p g = true
  | 0, g, h => by cases h
  | n + 1, g, h => by
    have h' : (match fstP p n with | some g => some g | none => if p n = true then some n else none) = some g := h
    cases hq : fstP p n with
    | some q =>
      rw [hq] at h'
      injection h' with h'
      subst h'
      obtain ⟨h1, h2⟩ := fstP_some hq
      exact ⟨by omega, h2⟩
    | none =>
      rw [hq] at h'
      by_cases hp : p n = true
      · simp [hp] at h'
        subst h'
        exact ⟨by omega, hp⟩
      · simp [hp] at h'
/-- a face of a set with color x -/
def hasC (S : Nat) (cs : List Int) (x : Int) (i : Nat) : Bool := S.testBit i && gi cs i == x
/-- the first of a list with color x -/
def fndL (l cs : List Int) (x : Int) : Nat → Option Int
  | 0 => none
  | j + 1 => match fndL l cs x j with
    | some g => some g
    | none => if gi cs (gi l j) = x then some (gi l j) else none
theorem fndL_congr {l l' cs : List Int} {x : Int} : ∀ j, (∀ i : Nat, i < j → gi l i = gi l' i) → fndL l cs x j = fndL l' cs x j
  | 0, _ => rfl
  | j + 1, h => by
    have ih := fndL_congr (cs := cs) (x := x) j (fun i hi => h i (by omega))
    show (match fndL l cs x j with | some g => some g | none => if gi cs (gi l j) = x then some (gi l j) else none) = (match fndL l' cs x j with | some g => some g | none => if gi cs (gi l' j) = x then some (gi l' j) else none)
    rw [ih, h j (by omega)]
theorem gi_app {l : List Int} {a : Int} {i : Nat} (h : i < l.length) : gi (l ++ [a]) i = gi l i := by
  unfold gi
  simp [List.getD_eq_getElem?_getD, List.getElem?_append_left h]
theorem gi_lst {l : List Int} {a : Int} : gi (l ++ [a]) l.length = a := by
  unfold gi
  simp [List.getD_eq_getElem?_getD]
theorem fndL_bits (S : Nat) (cs : List Int) (x : Int) : ∀ n, fndL (bitsL S n) cs x (bitsL S n).length = (fstP (hasC S cs x) n).map (fun g : Nat => (g : Int))
  | 0 => rfl
  | n + 1 => by
    have ih := fndL_bits S cs x n
    rw [bitsL_succ]
    show _ = (match fstP (hasC S cs x) n with | some g => some g | none => if hasC S cs x n = true then some n else none).map (fun g : Nat => (g : Int))
    by_cases h : S.testBit n = true
    · rw [if_pos h]
      have e : fndL (bitsL S n ++ [(n : Int)]) cs x (bitsL S n).length = fndL (bitsL S n) cs x (bitsL S n).length := fndL_congr _ (fun i hi => gi_app hi)
      rw [show (bitsL S n ++ [(n : Int)]).length = (bitsL S n).length + 1 by simp]
      show (match fndL (bitsL S n ++ [(n : Int)]) cs x (bitsL S n).length with | some g => some g | none => if gi cs (gi (bitsL S n ++ [(n : Int)]) (bitsL S n).length) = x then some (gi (bitsL S n ++ [(n : Int)]) (bitsL S n).length) else none) = _
      rw [e, ih, gi_lst]
      cases hq : fstP (hasC S cs x) n with
      | some g => rfl
      | none =>
        show (if gi cs (n : Int) = x then some (n : Int) else none) = _
        unfold hasC
        by_cases hx : gi cs (n : Int) = x
        · simp [h, hx]
        · simp [hx]
    · rw [if_neg h, ih]
      cases hq : fstP (hasC S cs x) n with
      | some g => rfl
      | none =>
        unfold hasC
        simp [h]
theorem fndL_none {l cs : List Int} {x : Int} {j : Nat} (h : fndL l cs x j = none) (hx : ¬ gi cs (gi l j) = x) : fndL l cs x (j + 1) = none := by
  show (match fndL l cs x j with | some g => some g | none => if gi cs (gi l j) = x then some (gi l j) else none) = none
  rw [h]
  exact if_neg hx
theorem fndL_hit {l cs : List Int} {x : Int} {j : Nat} (h : fndL l cs x j = none) (hx : gi cs (gi l j) = x) : ∀ d, fndL l cs x (j + 1 + d) = some (gi l j)
  | 0 => by
    show (match fndL l cs x j with | some g => some g | none => if gi cs (gi l j) = x then some (gi l j) else none) = some (gi l j)
    rw [h]
    exact if_pos hx
  | d + 1 => by
    have ih := fndL_hit h hx d
    show (match fndL l cs x (j + 1 + d) with | some g => some g | none => if gi cs (gi l ((j + 1 + d : Nat) : Int)) = x then some (gi l ((j + 1 + d : Nat) : Int)) else none) = some (gi l j)
    rw [ih]
theorem fndL_at {l cs : List Int} {x : Int} {j n : Nat} (h : fndL l cs x j = none) (hx : gi cs (gi l j) = x) (hn : j < n) : fndL l cs x n = some (gi l j) := by
  have := fndL_hit h hx (n - (j + 1))
  rwa [show j + 1 + (n - (j + 1)) = n by omega] at this
end Go.Proofs.YtdhmjhoaegdfjaaGreat
