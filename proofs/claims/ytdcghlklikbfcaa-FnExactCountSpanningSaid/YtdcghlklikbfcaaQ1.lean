import Derived.Test.YtdcghlklikbfcaaG8
namespace Go.Proofs.Ytdcghlklikbfcaa.Dt
/-! Plain words: determinants of whole numbers, and why the divisions leave no rest. -/
def sumN : Nat → (Nat → Int) → Int
  | 0, _ => 0
  | n + 1, f => sumN n f + f n
theorem sumN_congr {f g : Nat → Int} : ∀ {n : Nat}, (∀ i, i < n → f i = g i) → sumN n f = sumN n g
  | 0, _ => rfl
  | n + 1, h => by
    show sumN n f + f n = sumN n g + g n
    rw [sumN_congr (fun i hi => h i (by omega)), h n (by omega)]
theorem sumN_zero {f : Nat → Int} : ∀ {n : Nat}, (∀ i, i < n → f i = 0) → sumN n f = 0
  | 0, _ => rfl
  | n + 1, h => by
    show sumN n f + f n = 0
    rw [sumN_zero (fun i hi => h i (by omega)), h n (by omega)]
    rfl
theorem sumN_add (f g : Nat → Int) : ∀ n, sumN n (fun i => f i + g i) = sumN n f + sumN n g
  | 0 => rfl
  | n + 1 => by
    show sumN n (fun i => f i + g i) + (f n + g n) = (sumN n f + f n) + (sumN n g + g n)
    rw [sumN_add f g n]
    omega
theorem sumN_mul (x : Int) (f : Nat → Int) : ∀ n, sumN n (fun i => x * f i) = x * sumN n f
  | 0 => by show (0 : Int) = x * 0; rw [Int.mul_zero]
  | n + 1 => by
    show sumN n (fun i => x * f i) + x * f n = x * (sumN n f + f n)
    rw [sumN_mul x f n, Int.mul_add]
theorem sumN_one {f : Nat → Int} {p : Nat} : ∀ {n : Nat}, p < n → (∀ i, i < n → i ≠ p → f i = 0) → sumN n f = f p
  | 0, h, _ => by omega
  | n + 1, hp, h => by
    show sumN n f + f n = f p
    by_cases hn : p = n
    · subst hn
      rw [sumN_zero (fun i hi => h i (by omega) (by omega))]
      omega
    · rw [sumN_one (p := p) (by omega) (fun i hi hne => h i (by omega) hne), h n (by omega) (by omega)]
      omega
theorem sumN_two {f : Nat → Int} {p q : Nat} (hpq : p < q) : ∀ {n : Nat}, q < n → (∀ i, i < n → i ≠ p → i ≠ q → f i = 0) → sumN n f = f p + f q
  | 0, h, _ => by omega
  | n + 1, hq, h => by
    show sumN n f + f n = f p + f q
    by_cases hn : q = n
    · subst hn
      rw [sumN_one (p := p) hpq (fun i hi hne => h i (by omega) hne (by omega))]
    · rw [sumN_two hpq (by omega) (fun i hi h1 h2 => h i (by omega) h1 h2), h n (by omega) (by omega) (by omega)]
      omega

def skp (c j : Nat) : Nat := if j < c then j else j + 1
def sg (c : Nat) : Int := if c % 2 = 0 then 1 else -1
theorem sg_succ (c : Nat) : sg (c + 1) = -sg c := by
  unfold sg
  split <;> split <;> omega
def det : Nat → (Nat → Nat → Int) → Int
  | 0, _ => 1
  | n + 1, a => sumN (n + 1) fun c => sg c * a 0 c * det n (fun r j => a (r + 1) (skp c j))
theorem skp_lt {c j n : Nat} (h : j < n) : skp c j < n + 1 := by unfold skp; split <;> omega
theorem det_congr : ∀ {n : Nat} {a b : Nat → Nat → Int}, (∀ r j, r < n → j < n → a r j = b r j) → det n a = det n b
  | 0, _, _, _ => rfl
  | n + 1, a, b, h => by
    unfold det
    refine sumN_congr fun c hc => ?_
    rw [h 0 c (by omega) hc, det_congr (a := fun r j => a (r + 1) (skp c j)) (b := fun r j => b (r + 1) (skp c j)) (fun r j hr hj => h _ _ (by omega) (skp_lt hj))]
/-- column p is u -/
def upd (a : Nat → Nat → Int) (p : Nat) (u : Nat → Int) : Nat → Nat → Int := fun r j => if j = p then u r else a r j
theorem upd_minor_same (a : Nat → Nat → Int) (p : Nat) (u : Nat → Int) : (fun r j => upd a p u (r + 1) (skp p j)) = fun r j => a (r + 1) (skp p j) := by
  funext r j
  unfold upd
  rw [if_neg]
  unfold skp
  split <;> omega
theorem upd_minor (a : Nat → Nat → Int) {p c : Nat} (u : Nat → Int) (h : c ≠ p) : (fun r j => upd a p u (r + 1) (skp c j)) = upd (fun r j => a (r + 1) (skp c j)) (if p < c then p else p - 1) (fun r => u (r + 1)) := by
  funext r j
  unfold upd
  have : (skp c j = p) ↔ (j = if p < c then p else p - 1) := by
    unfold skp
    split <;> split <;> omega
  by_cases hj : skp c j = p
  · rw [if_pos hj, if_pos (this.1 hj)]
  · rw [if_neg hj, if_neg (fun e => hj (this.2 e))]
theorem det_lin (x : Int) : ∀ {n p : Nat} (a : Nat → Nat → Int) (u v : Nat → Int), p < n → det n (upd a p (fun r => x * u r + v r)) = x * det n (upd a p u) + det n (upd a p v)
  | 0, _, _, _, _, h => by omega
  | n + 1, p, a, u, v, hp => by
    unfold det
    rw [← sumN_mul, ← sumN_add]
    refine sumN_congr fun c hc => ?_
    by_cases hcp : c = p
    · subst hcp
      rw [upd_minor_same, upd_minor_same, upd_minor_same]
      generalize det n (fun r j => a (r + 1) (skp c j)) = D
      have e : ∀ w : Nat → Int, upd a c w 0 c = w 0 := fun w => by unfold upd; rw [if_pos rfl]
      rw [e, e, e]
      grind
    · rw [upd_minor _ _ hcp, upd_minor _ _ hcp, upd_minor _ _ hcp]
      have e : ∀ w : Nat → Int, upd a p w 0 c = a 0 c := fun w => by unfold upd; rw [if_neg hcp]
      rw [e, e, e, det_lin x (fun r j => a (r + 1) (skp c j)) (fun r => u (r + 1)) (fun r => v (r + 1)) (by split <;> omega)]
      generalize det n _ = D
      generalize det n _ = E
      grind
theorem det_adj : ∀ {n p : Nat} {a : Nat → Nat → Int}, p + 1 < n → (∀ r, r < n → a r p = a r (p + 1)) → det n a = 0
  | 0, _, _, h, _ => by omega
  | n + 1, p, a, hp, h => by
    unfold det
    rw [sumN_two (p := p) (q := p + 1) (by omega) hp]
    · rw [sg_succ, h 0 (by omega)]
      rw [det_congr (a := fun r j => a (r + 1) (skp p j)) (b := fun r j => a (r + 1) (skp (p + 1) j))]
      · generalize det n _ = D
        grind
      · intro r j hr hj
        unfold skp
        by_cases h1 : j < p
        · rw [if_pos h1, if_pos (by omega)]
        · by_cases h2 : j = p
          · subst h2
            rw [if_neg h1, if_pos (by omega), h (r + 1) (by omega)]
          · rw [if_neg h1, if_neg (by omega)]
    · intro c hc h1 h2
      have : det n (fun r j => a (r + 1) (skp c j)) = 0 := by
        by_cases hlt : c < p
        · refine det_adj (p := p - 1) (by omega) fun r hr => ?_
          rw [show skp c (p - 1) = p by unfold skp; split <;> omega, show skp c (p - 1 + 1) = p + 1 by unfold skp; split <;> omega]
          exact h (r + 1) (by omega)
        · refine det_adj (p := p) (by omega) fun r hr => ?_
          rw [show skp c p = p by unfold skp; split <;> omega, show skp c (p + 1) = p + 1 by unfold skp; split <;> omega]
          exact h (r + 1) (by omega)
      rw [this, Int.mul_zero]
theorem upd_self (a : Nat → Nat → Int) (p : Nat) : upd a p (fun r => a r p) = a := by
  funext r j
  unfold upd
  split
  · rename_i h; rw [h]
  · rfl
/-- two columns that lie side by side change places -/
def swp (a : Nat → Nat → Int) (p : Nat) : Nat → Nat → Int := upd (upd a p (fun r => a r (p + 1))) (p + 1) (fun r => a r p)
theorem det_swp {n p : Nat} (a : Nat → Nat → Int) (hp : p + 1 < n) : det n (swp a p) = -det n a := by
  have hadj : ∀ (u : Nat → Int), det n (upd (upd a p u) (p + 1) u) = 0 := fun u => det_adj hp fun r _ => by
    unfold upd
    rw [if_neg (by omega), if_pos rfl, if_pos rfl]
  have comm : ∀ u v : Nat → Int, upd (upd a p u) (p + 1) v = upd (upd a (p + 1) v) p u := fun u v => by
    funext r j
    unfold upd
    by_cases h1 : j = p
    · rw [if_neg (by omega), if_pos h1, if_pos h1]
    · rw [if_neg h1, if_neg h1]
  have h0 := hadj (fun r => 1 * a r p + a r (p + 1))
  rw [det_lin 1 (upd a p _) (fun r => a r p) (fun r => a r (p + 1)) hp, comm, comm, det_lin 1 (upd a (p + 1) _) (fun r => a r p) (fun r => a r (p + 1)) (by omega), det_lin 1 (upd a (p + 1) _) (fun r => a r p) (fun r => a r (p + 1)) (by omega), ← comm, ← comm, ← comm, ← comm] at h0
  rw [hadj, hadj] at h0
  have e : upd (upd a p (fun r => a r p)) (p + 1) (fun r => a r (p + 1)) = a := by rw [upd_self, upd_self]
  rw [e] at h0
  unfold swp
  omega
theorem det_same {n p : Nat} : ∀ (d : Nat) {q : Nat} {a : Nat → Nat → Int}, q = p + 1 + d → q < n → (∀ r, r < n → a r p = a r q) → det n a = 0
  | 0, q, a, e, hq, h => det_adj (p := p) (by omega) fun r hr => by rw [h r hr, e]
  | d + 1, q, a, e, hq, h => by
    have h1 := det_swp a (p := q - 1) (n := n) (by omega)
    have h2 : det n (swp a (q - 1)) = 0 := by
      refine det_same d (p := p) (q := q - 1) (by omega) (by omega) fun r hr => ?_
      unfold swp upd
      rw [if_neg (by omega), if_neg (by omega), if_neg (by omega), if_pos rfl, h r hr, show q - 1 + 1 = q by omega]
    omega
theorem det_zero {n p : Nat} (a : Nat → Nat → Int) (hp : p < n) : det n (upd a p (fun _ => 0)) = 0 := by
  have h := det_lin 1 a (fun _ => 0) (fun _ => 0) hp
  have e : (fun _ : Nat => (1 : Int) * 0 + 0) = fun _ => 0 := by funext _; rfl
  rw [e] at h
  omega
/-- a multiple of the first column -/
theorem det_mul0 {n q : Nat} (a : Nat → Nat → Int) (x : Int) (hq : q < n) (h0 : 0 < q) : det n (upd a q (fun r => x * a r 0)) = 0 := by
  have h := det_lin x a (fun r => a r 0) (fun _ => 0) hq
  have e : (fun r : Nat => x * a r 0 + 0) = fun r => x * a r 0 := by funext _; omega
  rw [e, det_zero a hq] at h
  rw [h, det_same (q - 1) (p := 0) (q := q) (by omega) hq (a := upd a q (fun r => a r 0)) (fun r _ => by unfold upd; rw [if_neg (by omega), if_pos rfl])]
  omega
/-- the first row is taken away from columns 1 .. m -/
def elim (a : Nat → Nat → Int) (m : Nat) : Nat → Nat → Int := fun r j => if 1 ≤ j ∧ j ≤ m then a 0 0 * a r j + (-a 0 j) * a r 0 else a r j
theorem elim_in {a : Nat → Nat → Int} {m r j : Nat} (h : 1 ≤ j ∧ j ≤ m) : elim a m r j = a 0 0 * a r j + (-a 0 j) * a r 0 := if_pos h
theorem elim_out {a : Nat → Nat → Int} {m r j : Nat} (h : ¬ (1 ≤ j ∧ j ≤ m)) : elim a m r j = a r j := if_neg h
theorem upd_in {a : Nat → Nat → Int} {p r : Nat} {u : Nat → Int} : upd a p u r p = u r := if_pos rfl
theorem upd_out {a : Nat → Nat → Int} {p r j : Nat} {u : Nat → Int} (h : j ≠ p) : upd a p u r j = a r j := if_neg h
theorem det_elim {n : Nat} (a : Nat → Nat → Int) : ∀ m, m < n → det n (elim a m) = a 0 0 ^ m * det n a
  | 0, _ => by
    have : elim a 0 = a := by funext r j; exact elim_out (by omega)
    rw [this, Int.pow_zero, Int.one_mul]
  | m + 1, hm => by
    have e : elim a (m + 1) = upd (elim a m) (m + 1) (fun r => a 0 0 * a r (m + 1) + (-a 0 (m + 1)) * elim a m r 0) := by
      funext r j
      by_cases h1 : j = m + 1
      · subst h1
        rw [elim_in (by omega), upd_in, elim_out (by omega)]
      · rw [upd_out h1]
        by_cases h2 : 1 ≤ j ∧ j ≤ m
        · rw [elim_in (by omega), elim_in h2]
        · rw [elim_out (by omega), elim_out h2]
    have e2 : upd (elim a m) (m + 1) (fun r => a r (m + 1)) = elim a m := by
      funext r j
      by_cases h1 : j = m + 1
      · subst h1
        rw [upd_in, elim_out (by omega)]
      · rw [upd_out h1]
    rw [e, det_lin (a 0 0) (elim a m) (fun r => a r (m + 1)) (fun r => (-a 0 (m + 1)) * elim a m r 0) hm, det_mul0 (elim a m) (-a 0 (m + 1)) hm (by omega), e2, det_elim a m (by omega), Int.pow_succ]
    grind
/-- what is left when the first row and column are taken away -/
def chio (a : Nat → Nat → Int) : Nat → Nat → Int := fun r j => a 0 0 * a (r + 1) (j + 1) + (-a 0 (j + 1)) * a (r + 1) 0
theorem det_chio {n : Nat} (a : Nat → Nat → Int) : a 0 0 ^ n * det (n + 1) a = a 0 0 * det n (chio a) := by
  rw [← det_elim a n (by omega)]
  conv => lhs; unfold det
  rw [sumN_one (p := 0) (by omega)]
  · rw [show sg 0 = 1 from rfl, show elim a n 0 0 = a 0 0 from elim_out (by omega), Int.one_mul]
    congr 1
    refine det_congr fun r j hr hj => ?_
    rw [show skp 0 j = j + 1 from if_neg (by omega), elim_in (by omega)]
    rfl
  · intro c hc hne
    have : elim a n 0 c = 0 := by
      rw [elim_in (by omega)]
      grind
    rw [this]
    grind

/-- rows 0 .. k - 1 and i, columns 0 .. k - 1 and j -/
def bord (a : Nat → Nat → Int) (k i j : Nat) : Nat → Nat → Int := fun r c => a (if r < k then r else i) (if c < k then c else j)
def dd (a : Nat → Nat → Int) (k i j : Nat) : Int := det (k + 1) (bord a k i j)
theorem dd_zero (a : Nat → Nat → Int) (i j : Nat) : dd a 0 i j = a i j := by
  unfold dd det
  show sumN 0 _ + sg 0 * bord a 0 i j 0 0 * 1 = a i j
  unfold bord sg
  simp [sumN]
theorem dd_chio {a : Nat → Nat → Int} (h : a 0 0 ≠ 0) (k i j : Nat) : a 0 0 ^ k * dd a (k + 1) (i + 1) (j + 1) = dd (chio a) k i j := by
  have hc := det_chio (n := k + 1) (bord a (k + 1) (i + 1) (j + 1))
  have e0 : bord a (k + 1) (i + 1) (j + 1) 0 0 = a 0 0 := by unfold bord; rw [if_pos (by omega), if_pos (by omega)]
  have e1 : chio (bord a (k + 1) (i + 1) (j + 1)) = bord (chio a) k i j := by
    funext r c
    unfold chio bord
    have f : ∀ x y : Nat, (if x + 1 < k + 1 then x + 1 else y + 1) = (if x < k then x else y) + 1 := fun x y => by
      by_cases hx : x < k
      · rw [if_pos (by omega), if_pos hx]
      · rw [if_neg (by omega), if_neg hx]
    rw [f, f, if_pos (by omega), if_pos (by omega)]
  rw [e0, e1, Int.pow_succ] at hc
  refine Int.eq_of_mul_eq_mul_left h ?_
  unfold dd
  rw [← hc]
  grind
theorem pow_ne {x : Int} (h : x ≠ 0) : ∀ k, x ^ k ≠ 0
  | 0 => by rw [Int.pow_zero]; decide
  | k + 1 => by rw [Int.pow_succ]; exact Int.mul_ne_zero (pow_ne h k) h
def prv (a : Nat → Nat → Int) : Nat → Int
  | 0 => 1
  | k + 1 => dd a k k k
theorem sylvester : ∀ (k : Nat) (a : Nat → Nat → Int), (∀ t, t ≤ k → dd a t t t ≠ 0) → ∀ i j, k < i → k < j →
    dd a (k + 1) i j * prv a k = dd a k i j * dd a k k k - dd a k i k * dd a k k j
  | 0, a, h, i, j, hi, hj => by
    have h0 : a 0 0 ≠ 0 := by have := h 0 (by omega); rwa [dd_zero] at this
    obtain ⟨i, rfl⟩ : ∃ x, i = x + 1 := ⟨i - 1, by omega⟩
    obtain ⟨j, rfl⟩ : ∃ x, j = x + 1 := ⟨j - 1, by omega⟩
    have hc := dd_chio h0 0 i j
    rw [dd_zero, dd_zero, dd_zero, dd_zero]
    rw [dd_zero, Int.pow_zero, Int.one_mul] at hc
    rw [hc]
    unfold chio prv
    grind
  | k + 1, a, h, i, j, hi, hj => by
    have h0 : a 0 0 ≠ 0 := by have := h 0 (by omega); rwa [dd_zero] at this
    obtain ⟨i, rfl⟩ : ∃ x, i = x + 1 := ⟨i - 1, by omega⟩
    obtain ⟨j, rfl⟩ : ∃ x, j = x + 1 := ⟨j - 1, by omega⟩
    have hB : ∀ t, t ≤ k → dd (chio a) t t t ≠ 0 := fun t ht e => by
      have h1 := dd_chio h0 t t t
      rw [e] at h1
      rcases Int.mul_eq_zero.1 h1 with h2 | h2
      · exact pow_ne h0 _ h2
      · exact h (t + 1) (by omega) h2
    have ih := sylvester k (chio a) hB i j (by omega) (by omega)
    have hp : a 0 0 ^ k * prv a (k + 1) = a 0 0 * prv (chio a) k := by
      cases k with
      | zero =>
        show a 0 0 ^ 0 * dd a 0 0 0 = a 0 0 * 1
        rw [dd_zero, Int.pow_zero]
        omega
      | succ k =>
        show a 0 0 ^ (k + 1) * dd a (k + 1) (k + 1) (k + 1) = a 0 0 * dd (chio a) k k k
        rw [← dd_chio h0 k k k, Int.pow_succ]
        grind
    rw [← dd_chio h0 (k + 1) i j, ← dd_chio h0 k i j, ← dd_chio h0 k k k, ← dd_chio h0 k i k, ← dd_chio h0 k k j] at ih
    have hq : a 0 0 ^ (2 * k + 1) ≠ 0 := pow_ne h0 _
    refine Int.eq_of_mul_eq_mul_left hq ?_
    have e1 : a 0 0 ^ (2 * k + 1) = a 0 0 ^ k * (a 0 0 ^ k * a 0 0) := by rw [show 2 * k + 1 = k + (k + 1) by omega, Int.pow_add, Int.pow_succ]
    rw [e1]
    rw [Int.pow_succ] at ih
    generalize a 0 0 ^ k = P at *
    generalize a 0 0 = q at *
    generalize prv a (k + 1) = p1 at *
    generalize prv (chio a) k = p0 at *
    grind
/-! the matrices on the way: no row's sum is below 0, and no set of rows stands alone -/
def sT (N : Nat) (T : Nat → Bool) (f : Nat → Int) : Int := sumN N (fun i => if T i = true then f i else 0)
theorem sumN_mono {f g : Nat → Int} : ∀ {n : Nat}, (∀ i, i < n → f i ≤ g i) → sumN n f ≤ sumN n g
  | 0, _ => Int.le_refl _
  | n + 1, h => by
    show sumN n f + f n ≤ sumN n g + g n
    have h1 := sumN_mono (fun i hi => h i (show i < n + 1 by omega)) (n := n)
    have h2 := h n (by omega)
    omega
theorem sT_congr {N : Nat} {T : Nat → Bool} {f g : Nat → Int} (h : ∀ i, i < N → T i = true → f i = g i) : sT N T f = sT N T g :=
  sumN_congr fun i hi => by
    by_cases ht : T i = true
    · rw [if_pos ht, if_pos ht, h i hi ht]
    · rw [if_neg ht, if_neg ht]
theorem sT_mono {N : Nat} {T : Nat → Bool} {f g : Nat → Int} (h : ∀ i, i < N → T i = true → f i ≤ g i) : sT N T f ≤ sT N T g :=
  sumN_mono fun i hi => by
    by_cases ht : T i = true
    · rw [if_pos ht, if_pos ht]; exact h i hi ht
    · rw [if_neg ht, if_neg ht]; exact Int.le_refl _
theorem sT_lin {N : Nat} {T : Nat → Bool} (x y : Int) (f g : Nat → Int) : sT N T (fun i => x * f i - y * g i) = x * sT N T f - y * sT N T g := by
  unfold sT
  rw [← sumN_mul, ← sumN_mul]
  have e : sumN N (fun i => if T i = true then x * f i - y * g i else 0) = sumN N (fun i => (x * if T i = true then f i else 0) + (-1) * (y * if T i = true then g i else 0)) := sumN_congr fun i _ => by
    by_cases ht : T i = true
    · rw [if_pos ht, if_pos ht, if_pos ht]; omega
    · rw [if_neg ht, if_neg ht, if_neg ht]; omega
  rw [e, sumN_add, sumN_mul (-1)]
  omega
theorem sT_neg {N : Nat} {T U : Nat → Bool} {f : Nat → Int} (h : ∀ i, i < N → T i = true → U i = true) (hf : ∀ i, i < N → U i = true → T i = false → f i ≤ 0) : sT N U f ≤ sT N T f :=
  sumN_mono fun i hi => by
    by_cases ht : T i = true
    · rw [if_pos ht, if_pos (h i hi ht)]; exact Int.le_refl _
    · rw [if_neg ht]
      by_cases hu : U i = true
      · rw [if_pos hu]; exact hf i hi hu (by simpa using ht)
      · rw [if_neg hu]; exact Int.le_refl _
def ins (T : Nat → Bool) (k : Nat) : Nat → Bool := fun i => T i || decide (i = k)
theorem sT_ins {N k : Nat} {T : Nat → Bool} (f : Nat → Int) (hk : k < N) (hT : T k = false) : sT N (ins T k) f = sT N T f + f k := by
  have e : f k = sumN N (fun i => if i = k then f k else 0) := by
    rw [sumN_one (p := k) hk (fun i _ hne => if_neg hne), if_pos rfl]
  conv => rhs; rw [e]
  unfold sT
  rw [← sumN_add]
  refine sumN_congr fun i _ => ?_
  unfold ins
  by_cases hik : i = k
  · subst hik
    rw [hT, if_pos rfl]
    simp
  · rw [if_neg hik]
    simp [hik]
theorem sT_single {N k : Nat} (f : Nat → Int) (hk : k < N) : sT N (fun i => decide (i = k)) f = f k := by
  unfold sT
  rw [sumN_one (p := k) hk (fun i _ hne => by simp [hne])]
  simp
def Kf (k : Nat) : Nat → Bool := fun i => decide (k ≤ i)
structure Lap (N k : Nat) (M : Nat → Nat → Int) : Prop where
  sym : ∀ i j, k ≤ i → i < N → k ≤ j → j < N → M i j = M j i
  off : ∀ i j, k ≤ i → i < N → k ≤ j → j < N → i ≠ j → M i j ≤ 0
  row : ∀ i, k ≤ i → i < N → 0 ≤ sT N (Kf k) (M i)
  pos : ∀ T : Nat → Bool, (∀ i, T i = true → k ≤ i ∧ i < N) → (∃ i, T i = true) → 0 < sT N T (fun i => sT N T (M i))
section
variable {N k : Nat} {M M' : Nat → Nat → Int}
theorem Lap.diag (h : Lap N k M) {i : Nat} (hi : k ≤ i) (hn : i < N) : 0 < M i i := by
  have h1 := h.pos (fun j => decide (j = i)) (fun j hj => by have := of_decide_eq_true hj; omega) ⟨i, by simp⟩
  rw [sT_single _ hn, sT_single _ hn] at h1
  exact h1
theorem Lap.bound (h : Lap N k M) {i j : Nat} (hi : k ≤ i) (hn : i < N) (hj : k ≤ j) (hm : j < N) : -M i i ≤ M i j ∧ M i j ≤ M i i := by
  have hd := h.diag hi hn
  by_cases hij : i = j
  · subst hij; omega
  · have ho := h.off i j hi hn hj hm hij
    have hr := h.row i hi hn
    have h1 : sT N (Kf k) (M i) ≤ sT N (ins (fun x => decide (x = j)) i) (M i) := sT_neg (fun x hx hT => by
      unfold ins at hT
      unfold Kf
      simp at hT ⊢
      omega) (fun x hx hU hT => by
        unfold ins at hT
        unfold Kf at hU
        simp at hT hU
        exact h.off i x hi hn (by omega) hx (by omega))
    rw [sT_ins (M i) hn (by simp; exact hij), sT_single _ hm] at h1
    omega
theorem Lap.step (h : Lap N k M) (hk : k < N) {last : Int} (hl : 0 < last) (hM : ∀ i j, k < i → i < N → k < j → j < N → M' i j * last = M i j * M k k - M i k * M k j) : Lap N (k + 1) M' := by
  have hD := h.diag (Nat.le_refl k) hk
  have mulpos : ∀ x : Int, 0 ≤ x * last → 0 ≤ x := fun x hx => by
    rcases (show x < 0 ∨ 0 ≤ x by omega) with h1 | h1
    · have := Int.mul_neg_of_neg_of_pos h1 hl; omega
    · exact h1
  have hK : ∀ f : Nat → Int, sT N (Kf k) f = sT N (Kf (k + 1)) f + f k := fun f => by
    rw [← sT_ins f hk (by unfold Kf; simp)]
    unfold sT
    refine sumN_congr fun i _ => ?_
    have e : Kf k i = ins (Kf (k + 1)) k i := by
      unfold Kf ins
      by_cases h1 : k ≤ i
      · by_cases h2 : i = k
        · simp [h2]
        · have h3 : k + 1 ≤ i := by omega
          simp [h1, h3]
      · have h3 : ¬ (k + 1 ≤ i) := by omega
        have h4 : i ≠ k := by omega
        simp [h1, h3, h4]
    rw [e]
  refine ⟨fun i j hi hn hj hm => ?_, fun i j hi hn hj hm hij => ?_, fun i hi hn => ?_, fun T hT hne => ?_⟩
  · have e1 := hM i j (by omega) hn (by omega) hm
    have e2 := hM j i (by omega) hm (by omega) hn
    rw [h.sym i j (by omega) hn (by omega) hm, h.sym i k (by omega) hn (by omega) hk, h.sym k j (by omega) hk (by omega) hm] at e1
    refine Int.eq_of_mul_eq_mul_right (show last ≠ 0 by omega) ?_
    rw [e1, e2]
    grind
  · have e1 := hM i j (by omega) hn (by omega) hm
    have o1 := h.off i j (by omega) hn (by omega) hm hij
    have o2 := h.off i k (by omega) hn (by omega) hk (by omega)
    have o3 := h.off k j (by omega) hk (by omega) hm (by omega)
    have p1 : 0 ≤ -M i j * M k k := Int.mul_nonneg (by omega) (by omega)
    have p2 : 0 ≤ -M i k * -M k j := Int.mul_nonneg (by omega) (by omega)
    have := mulpos (-M' i j) (by rw [Int.neg_mul, e1]; rw [Int.neg_mul] at p1; rw [Int.neg_mul_neg] at p2; omega)
    omega
  · refine mulpos _ ?_
    have e : sT N (Kf (k + 1)) (M' i) * last = M k k * sT N (Kf (k + 1)) (M i) - M i k * sT N (Kf (k + 1)) (M k) := by
      rw [← sT_lin, Int.mul_comm]
      unfold sT
      rw [← sumN_mul]
      refine sumN_congr fun j hj => ?_
      by_cases hjk : Kf (k + 1) j = true
      · have hjk' : k + 1 ≤ j := of_decide_eq_true hjk
        rw [if_pos hjk, if_pos hjk, Int.mul_comm, hM i j (by omega) hn (by omega) hj, Int.mul_comm (M i j)]
      · rw [if_neg hjk, if_neg hjk, Int.mul_zero]
    rw [e]
    have r1 := h.row i (by omega) hn
    have r2 := h.row k (Nat.le_refl k) hk
    rw [hK] at r1 r2
    have o2 := h.off i k (by omega) hn (by omega) hk (by omega)
    have p1 := Int.mul_nonneg (show 0 ≤ M k k by omega) r1
    have p2 := Int.mul_nonneg (show 0 ≤ -M i k by omega) r2
    generalize sT N (Kf (k + 1)) (M i) = x at *
    generalize sT N (Kf (k + 1)) (M k) = y at *
    have : M k k * x - M i k * y = M k k * (x + M i k) + -M i k * (y + M k k) := by grind
    omega
  · have hTk : T k = false := by
      rw [← Bool.not_eq_true]
      intro e
      have := hT k e
      omega
    have hTn : ∀ i, T i = true → k < i ∧ i < N := fun i hi => by have := hT i hi; omega
    have hq := h.pos T (fun i hi => by have := hTn i hi; omega) hne
    have hq2 := h.pos (ins T k) (fun i hi => by
      unfold ins at hi
      simp at hi
      rcases hi with hi | hi
      · have := hTn i hi; omega
      · omega) ⟨k, by unfold ins; simp⟩
    have hsym : sT N T (M k) = sT N T (fun i => M i k) := sT_congr fun i hi ht => h.sym k i (Nat.le_refl k) hk (by have := hTn i ht; omega) hi
    have e2 : sT N (ins T k) (fun i => sT N (ins T k) (M i)) = sT N T (fun i => sT N T (M i)) + 2 * sT N T (M k) + M k k := by
      rw [sT_ins _ hk hTk, sT_ins _ hk hTk]
      have e3 : sT N T (fun i => sT N (ins T k) (M i)) = sT N T (fun i => 1 * sT N T (M i) - (-1) * M i k) := sT_congr fun i hi ht => by rw [sT_ins _ hk hTk]; omega
      rw [e3, sT_lin, hsym]
      omega
    rw [e2] at hq2
    have e : sT N T (fun i => sT N T (M' i)) * last = M k k * sT N T (fun i => sT N T (M i)) - sT N T (M k) * sT N T (M k) := by
      have e4 : sT N T (fun i => sT N T (M' i)) * last = sT N T (fun i => M k k * sT N T (M i) - sT N T (M k) * M i k) := by
        rw [Int.mul_comm]
        unfold sT
        rw [← sumN_mul]
        refine sumN_congr fun i hi => ?_
        by_cases ht : T i = true
        · dsimp only
          rw [if_pos ht, if_pos ht, Int.mul_comm (sumN N (fun i => if T i = true then M k i else 0)) (M i k)]
          have := sT_lin (N := N) (T := T) (M k k) (M i k) (M i) (M k)
          unfold sT at this
          rw [← this, ← sumN_mul]
          refine sumN_congr fun j hj => ?_
          by_cases hj' : T j = true
          · rw [if_pos hj', if_pos hj', Int.mul_comm, hM i j (hTn i ht).1 hi (hTn j hj').1 hj, Int.mul_comm (M i j)]
          · rw [if_neg hj', if_neg hj', Int.mul_zero]
        · rw [if_neg ht, if_neg ht, Int.mul_zero]
      rw [e4, sT_lin, hsym]
    have hs0 : sT N T (M k) ≤ 0 := by
      have : sT N T (M k) ≤ sT N T (fun _ => 0) := sT_mono fun i hi ht => h.off k i (Nat.le_refl k) hk (by have := hTn i ht; omega) hi (by have := hTn i ht; omega)
      have z : sT N T (fun _ => 0) = 0 := sumN_zero fun i _ => by split <;> rfl
      omega
    have hsD : -sT N T (M k) ≤ M k k := by
      have r2 := h.row k (Nat.le_refl k) hk
      rw [hK] at r2
      have : sT N (Kf (k + 1)) (M k) ≤ sT N T (M k) := sT_neg (fun i hi ht => by unfold Kf; have := hTn i ht; simp; omega) (fun i hi hu _ => h.off k i (Nat.le_refl k) hk (by have : k + 1 ≤ i := of_decide_eq_true hu; omega) hi (by have : k + 1 ≤ i := of_decide_eq_true hu; omega))
      omega
    have hsq : -sT N T (M k) ≤ sT N T (fun i => sT N T (M i)) := by
      have : sT N T (fun i => 0 * M i k - 1 * M i k) ≤ sT N T (fun i => sT N T (M i)) := sT_mono fun i hi ht => by
        have r1 := h.row i (by have := hTn i ht; omega) hi
        rw [hK] at r1
        have : sT N (Kf (k + 1)) (M i) ≤ sT N T (M i) := sT_neg (fun j hj hjt => by unfold Kf; have := hTn j hjt; simp; omega) (fun j hj hu hjt => h.off i j (by have := hTn i ht; omega) hi (by have : k + 1 ≤ j := of_decide_eq_true hu; omega) hj (fun e => by subst e; rw [ht] at hjt; cases hjt))
        omega
      rw [sT_lin, ← hsym] at this
      omega
    have key : 0 < M k k * sT N T (fun i => sT N T (M i)) - sT N T (M k) * sT N T (M k) := by
      generalize sT N T (fun i => sT N T (M i)) = q at *
      obtain ⟨s, hs⟩ : ∃ s, s = -sT N T (M k) := ⟨_, rfl⟩
      have hs' : sT N T (M k) = -s := by omega
      rw [hs'] at *
      rw [Int.neg_mul_neg]
      generalize M k k = D at *
      obtain ⟨x, hx⟩ : ∃ x, D = s + x := ⟨D - s, by omega⟩
      obtain ⟨y, hy⟩ : ∃ y, q = s + y := ⟨q - s, by omega⟩
      subst hx hy
      have hxy : (s + x) * (s + y) - s * s = s * (x + y) + x * y := by grind
      rw [hxy]
      have p1 : 0 ≤ x * y := Int.mul_nonneg (by omega) (by omega)
      rcases (show 0 < s ∨ s ≤ 0 by omega) with h1 | h1
      · have := Int.mul_pos h1 (show 0 < x + y by omega)
        omega
      · have hs00 : s = 0 := by omega
        subst hs00
        have := Int.mul_pos (show 0 < x by omega) (show 0 < y by omega)
        omega
    rw [← e] at key
    rcases (show 0 < sT N T (fun i => sT N T (M' i)) ∨ sT N T (fun i => sT N T (M' i)) ≤ 0 by omega) with h1 | h1
    · exact h1
    · have := Int.mul_nonneg (show 0 ≤ -sT N T (fun i => sT N T (M' i)) by omega) (show 0 ≤ last by omega)
      rw [Int.neg_mul] at this
      omega
theorem Lap.congr (h : Lap N k M) (e : ∀ i j, M i j = M' i j) : Lap N k M' := by
  have : M = M' := by funext i j; exact e i j
  exact this ▸ h
end
theorem lap_all {N : Nat} {a : Nat → Nat → Int} (h : Lap N 0 a) : ∀ k, k ≤ N → ∀ t, t ≤ k → Lap N t (dd a t) ∧ 0 < prv a t
  | 0, _, t, ht => by
    obtain rfl : t = 0 := by omega
    exact ⟨h.congr fun i j => (dd_zero a i j).symm, by show (0 : Int) < 1; decide⟩
  | k + 1, hk, t, ht => by
    have ih := lap_all h k (by omega)
    by_cases htk : t ≤ k
    · exact ih t htk
    · obtain rfl : t = k + 1 := by omega
      obtain ⟨h1, h2⟩ := ih k (Nat.le_refl k)
      have hd := h1.diag (Nat.le_refl k) (show k < N by omega)
      exact ⟨h1.step (by omega) h2 (fun i j hi _ hj _ => sylvester k a (fun t ht e => by
        have := (ih t ht).1.diag (Nat.le_refl t) (by omega)
        omega) i j hi hj), hd⟩
section
variable {N : Nat} {a : Nat → Nat → Int}
theorem brs_lap (h : Lap N 0 a) {k : Nat} (hk : k ≤ N) : Lap N k (dd a k) := (lap_all h k hk k (Nat.le_refl k)).1
theorem brs_prv (h : Lap N 0 a) {k : Nat} (hk : k ≤ N) : 0 < prv a k := (lap_all h k hk k (Nat.le_refl k)).2
theorem brs_piv (h : Lap N 0 a) {k : Nat} (hk : k < N) : 0 < dd a k k k := brs_prv h (k := k + 1) (by omega)
theorem brs_mul (h : Lap N 0 a) {k i j : Nat} (hk : k < N) (hi : k < i) (hj : k < j) : dd a (k + 1) i j * prv a k = dd a k i j * dd a k k k - dd a k i k * dd a k k j :=
  sylvester k a (fun t ht e => by have := brs_piv h (k := t) (by omega); omega) i j hi hj
theorem brs_div (h : Lap N 0 a) {k i j : Nat} (hk : k < N) (hi : k < i) (hj : k < j) : (dd a k i j * dd a k k k - dd a k i k * dd a k k j).tdiv (prv a k) = dd a (k + 1) i j := by
  rw [← brs_mul h hk hi hj]
  exact Int.mul_tdiv_cancel _ (by have := brs_prv h (k := k) (by omega); omega)
theorem cube_le : ∀ x : Nat, x ^ 3 ≤ 3 ^ x
  | 0 => by decide
  | 1 => by decide
  | 2 => by decide
  | 3 => by decide
  | x + 4 => by
    have ih := cube_le (x + 3)
    rw [Nat.pow_succ 3 (x + 3)]
    have : (x + 4) ^ 3 ≤ (x + 3) ^ 3 * 3 := by
      have e1 : (x + 4) ^ 3 = x * (x * x) + 12 * (x * x) + 48 * x + 64 := by grind
      have e2 : (x + 3) ^ 3 * 3 = 3 * (x * (x * x)) + 27 * (x * x) + 81 * x + 81 := by grind
      omega
    omega
theorem brs_bd (h : Lap N 0 a) : ∀ k, k ≤ N → (prv a k).toNat ^ 3 ≤ 3 ^ (sumN k (fun t => a t t)).toNat ∧ 0 ≤ sumN k (fun t => a t t) ∧ ∀ i, k ≤ i → i < N → dd a k i i ≤ prv a k * a i i
  | 0, _ => ⟨by show 1 ^ 3 ≤ 3 ^ 0; decide, Int.le_refl _, fun i _ hi => by rw [dd_zero]; show a i i ≤ 1 * a i i; omega⟩
  | k + 1, hk => by
    obtain ⟨h1, h2, h3⟩ := brs_bd h k (by omega)
    have hd := h.diag (i := k) (by omega) (by omega)
    have hp := brs_prv h (k := k) (by omega)
    have hpk := brs_piv h (k := k) (by omega)
    have hb := h3 k (Nat.le_refl k) (by omega)
    refine ⟨?_, by show 0 ≤ sumN k _ + a k k; omega, fun i hi hn => ?_⟩
    · show (dd a k k k).toNat ^ 3 ≤ 3 ^ (sumN k (fun t => a t t) + a k k).toNat
      rw [Int.toNat_add h2 (by omega), Nat.pow_add]
      have e : (dd a k k k).toNat ≤ (prv a k).toNat * (a k k).toNat := by rw [← Int.toNat_mul (by omega) (by omega)]; omega
      have := Nat.pow_le_pow_left e 3
      rw [Nat.mul_pow] at this
      exact Nat.le_trans this (Nat.mul_le_mul h1 (cube_le _))
    · have hm := brs_mul h (k := k) (i := i) (j := i) (by omega) (by omega) (by omega)
      have hL := brs_lap h (k := k) (by omega)
      rw [hL.sym i k (by omega) hn (by omega) (by omega)] at hm
      have hs : 0 ≤ dd a k k i * dd a k k i := by
        rcases Int.le_total 0 (dd a k k i) with h0 | h0
        · exact Int.mul_nonneg h0 h0
        · have := Int.mul_nonneg (show 0 ≤ -dd a k k i by omega) (show 0 ≤ -dd a k k i by omega)
          rwa [Int.neg_mul_neg] at this
      have hbi := h3 i (by omega) hn
      show dd a (k + 1) i i ≤ dd a k k k * a i i
      have h4 : dd a k i i * dd a k k k ≤ prv a k * a i i * dd a k k k := Int.mul_le_mul_of_nonneg_right hbi (by omega)
      have h5 : dd a (k + 1) i i * prv a k ≤ dd a k k k * a i i * prv a k := by
        have : prv a k * a i i * dd a k k k = dd a k k k * a i i * prv a k := by grind
        omega
      exact Int.le_of_mul_le_mul_right h5 hp
theorem sumN_pick {f : Nat → Int} {k i : Nat} : ∀ {n : Nat}, (∀ j, j < n → 0 ≤ f j) → k ≤ i → i < n → sumN k f + f i ≤ sumN n f
  | 0, _, _, hi => by omega
  | n + 1, h, hki, hi => by
    show sumN k f + f i ≤ sumN n f + f n
    by_cases hin : i = n
    · subst hin
      have : ∀ d, k + d ≤ i → sumN k f ≤ sumN (k + d) f := fun d => by
        induction d with
        | zero => intro _; exact Int.le_refl _
        | succ d ih =>
          intro hd
          have h1 := ih (by omega)
          have h2 := h (k + d) (by omega)
          show sumN k f ≤ sumN (k + d) f + f (k + d)
          omega
      have := this (i - k) (by omega)
      rw [show k + (i - k) = i by omega] at this
      omega
    · have := sumN_pick (fun j hj => h j (by omega)) hki (show i < n by omega)
      have := h n (by omega)
      omega
/-- no number on the way is great -/
theorem brs_small (h : Lap N 0 a) (hS : sumN N (fun t => a t t) ≤ 40) {k i j : Nat} (hk : k ≤ i) (hkj : k ≤ j) (hi : i < N) (hj : j < N) : -4194304 ≤ dd a k i j ∧ dd a k i j ≤ 4194304 := by
  have hL := brs_lap h (k := k) (by omega)
  have hb := hL.bound hk hi hkj hj
  have hd := hL.diag hk hi
  obtain ⟨h1, h2, h3⟩ := brs_bd h k (by omega)
  have h4 := h3 i hk hi
  have hp := brs_prv h (k := k) (by omega)
  have ha := h.diag (i := i) (by omega) hi
  have h5 : sumN k (fun t => a t t) + a i i ≤ 40 := Int.le_trans (sumN_pick (f := fun t => a t t) (fun j hj => by have := h.diag (i := j) (by omega) hj; omega) hk hi) hS
  have e : (dd a k i i).toNat ≤ (prv a k).toNat * (a i i).toNat := by rw [← Int.toNat_mul (by omega) (by omega)]; omega
  have h6 := Nat.pow_le_pow_left e 3
  rw [Nat.mul_pow] at h6
  have h7 := Nat.le_trans h6 (Nat.mul_le_mul h1 (cube_le _))
  rw [← Nat.pow_add, ← Int.toNat_add h2 (by omega)] at h7
  have h8 : 3 ^ (sumN k (fun t => a t t) + a i i).toNat ≤ 3 ^ 40 := Nat.pow_le_pow_right (by decide) (by omega)
  have h9 : (dd a k i i).toNat ≤ 4194304 := by
    rcases Nat.lt_or_ge 4194304 (dd a k i i).toNat with hc | hc
    · have hc' : 4194305 ≤ (dd a k i i).toNat := hc
      exact absurd (Nat.le_trans (Nat.pow_le_pow_left hc' 3) (Nat.le_trans h7 h8)) (by decide)
    · exact hc
  omega
end
end Go.Proofs.Ytdcghlklikbfcaa.Dt
