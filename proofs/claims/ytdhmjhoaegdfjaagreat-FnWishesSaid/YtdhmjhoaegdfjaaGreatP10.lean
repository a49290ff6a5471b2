import Derived.Test.YtdhmjhoaegdfjaaGreatP8
namespace Go.Proofs.YtdhmjhoaegdfjaaGreat
/-! Plain words: chains of faces over two colors. -/
/-- the faces that hang together with f through allowed ones -/
inductive Rch (N : Nat → Nat) (al : Nat → Bool) (n f : Nat) : Nat → Prop where
  | refl : Rch N al n f f
  | step {g h : Nat} : Rch N al n f g → h < n → (N h).testBit g = true → al h = true → Rch N al n f h
def stepC (N : Nat → Nat) (al : Nat → Bool) (S g : Nat) : Nat := if al g = true ∧ N g &&& S ≠ 0 then S ||| 2 ^ g else S
def pasC (N : Nat → Nat) (al : Nat → Bool) (S : Nat) : Nat → Nat
  | 0 => S
  | g + 1 => stepC N al (pasC N al S g) g
def itC (N : Nat → Nat) (al : Nat → Bool) (n f : Nat) : Nat → Nat
  | 0 => 2 ^ f
  | r + 1 => pasC N al (itC N al n f r) n
section
variable {N : Nat → Nat} {al : Nat → Bool} {n f : Nat}
theorem and_ne {a b : Nat} : a &&& b ≠ 0 ↔ ∃ i, a.testBit i = true ∧ b.testBit i = true := by
  constructor
  · intro h
    apply Classical.byContradiction
    intro hne
    apply h
    apply Nat.eq_of_testBit_eq
    intro i
    rw [Nat.testBit_and, Nat.zero_testBit]
    cases h1 : a.testBit i
    · rfl
    · cases h2 : b.testBit i
      · rfl
      · exact absurd ⟨i, h1, h2⟩ hne
  · rintro ⟨i, h1, h2⟩ h
    have : (a &&& b).testBit i = true := by rw [Nat.testBit_and, h1, h2]; rfl
    rw [h, Nat.zero_testBit] at this
    cases this
theorem stepC_sub (S g : Nat) : sub S (stepC N al S g) := by
  intro i hi
  unfold stepC
  split
  · rw [Nat.testBit_or, hi, Bool.true_or]
  · exact hi
theorem pasC_sub (S : Nat) : ∀ {g k : Nat}, sub (pasC N al S g) (pasC N al S (g + k))
  | _, 0 => sub.rfl'
  | g, k + 1 => (pasC_sub S (g := g) (k := k)).trans (stepC_sub _ _)
theorem stepC_lt {S g : Nat} (hS : S < 2 ^ n) (hg : g < n) : stepC N al S g < 2 ^ n := by
  unfold stepC
  split
  · exact Nat.or_lt_two_pow hS (Nat.pow_lt_pow_right (by omega) hg)
  · exact hS
theorem pasC_lt {S : Nat} (hS : S < 2 ^ n) : ∀ g, g ≤ n → pasC N al S g < 2 ^ n
  | 0, _ => hS
  | g + 1, hg => stepC_lt (pasC_lt hS g (by omega)) (by omega)
theorem itC_lt (hf : f < n) : ∀ r, itC N al n f r < 2 ^ n
  | 0 => Nat.pow_lt_pow_right (by omega) hf
  | r + 1 => pasC_lt (itC_lt hf r) n (Nat.le_refl _)
theorem stepC_sound {S g : Nat} (hg : g < n) (h : ∀ i, S.testBit i = true → Rch N al n f i) : ∀ i, (stepC N al S g).testBit i = true → Rch N al n f i := by
  intro i hi
  unfold stepC at hi
  split at hi
  · rename_i hc
    rw [Nat.testBit_or, Bool.or_eq_true, Nat.testBit_two_pow, decide_eq_true_eq] at hi
    rcases hi with hi | hi
    · exact h i hi
    · subst hi
      obtain ⟨j, h1, h2⟩ := and_ne.1 hc.2
      exact .step (h j h2) hg h1 hc.1
  · exact h i hi
theorem pasC_sound {S : Nat} (h : ∀ i, S.testBit i = true → Rch N al n f i) : ∀ g, g ≤ n → ∀ i, (pasC N al S g).testBit i = true → Rch N al n f i
  | 0, _ => h
  | g + 1, hg => stepC_sound (by omega) (pasC_sound h g (by omega))
theorem itC_sound : ∀ r i, (itC N al n f r).testBit i = true → Rch N al n f i
  | 0 => fun i hi => by
    have : f = i := by simpa [itC, Nat.testBit_two_pow] using hi
    subst this
    exact .refl
  | r + 1 => pasC_sound (itC_sound r) n (Nat.le_refl _)
theorem pasC_fix {S : Nat} (h : pasC N al S n = S) {g : Nat} (hg : g < n) (ha : al g = true) {i : Nat} (h1 : (N g).testBit i = true) (h2 : S.testBit i = true) : S.testBit g = true := by
  have e : ∀ k, k ≤ n → pasC N al S k = S := fun k hk => by
    refine sub_antisymm ?_ ?_
    · have := pasC_sub (N := N) (al := al) S (g := k) (k := n - k)
      rwa [show k + (n - k) = n by omega, h] at this
    · have := pasC_sub (N := N) (al := al) S (g := 0) (k := k)
      rwa [Nat.zero_add] at this
  have h3 : pasC N al S (g + 1) = S := e (g + 1) (by omega)
  have h4 : stepC N al (pasC N al S g) g = S := h3
  rw [e g (by omega)] at h4
  unfold stepC at h4
  rw [if_pos ⟨ha, and_ne.2 ⟨i, h1, h2⟩⟩] at h4
  rw [← h4, Nat.testBit_or, Nat.testBit_two_pow]
  simp
theorem bitLt2 {S i : Nat} (h : S < 2 ^ n) (hi : S.testBit i = true) : i < n := by
  apply Classical.byContradiction
  intro hn
  have : S < 2 ^ i := Nat.lt_of_lt_of_le h (Nat.pow_le_pow_right (by omega) (by omega))
  rw [Nat.testBit_lt_two_pow this] at hi
  cases hi
theorem cnt_pos {S i : Nat} (hi : S.testBit i = true) (hl : i < n) : 1 ≤ cnt n S := by
  unfold cnt
  exact List.countP_pos_iff.2 ⟨i, List.mem_range.2 hl, hi⟩
theorem itC_closed (hf : f < n) : ∀ r, (∃ q, q ≤ r ∧ pasC N al (itC N al n f q) n = itC N al n f q) ∨ r + 1 ≤ cnt n (itC N al n f r)
  | 0 => by
    right
    exact cnt_pos (i := f) (by simp [itC]) hf
  | r + 1 => by
    rcases itC_closed hf r with ⟨q, hq, h⟩ | h
    · exact .inl ⟨q, by omega, h⟩
    · by_cases he : pasC N al (itC N al n f r) n = itC N al n f r
      · exact .inl ⟨r, by omega, he⟩
      · right
        have hs : sub (itC N al n f r) (itC N al n f (r + 1)) := by
          have := pasC_sub (N := N) (al := al) (itC N al n f r) (g := 0) (k := n)
          rwa [Nat.zero_add] at this
        have := cnt_lt (n := n) hs (fun i hi => bitLt2 (itC_lt hf (r + 1)) hi) (fun e => he e.symm)
        omega
theorem itC_stay {q : Nat} (h : pasC N al (itC N al n f q) n = itC N al n f q) : ∀ d, itC N al n f (q + d) = itC N al n f q
  | 0 => rfl
  | d + 1 => by
    have ih := itC_stay h d
    show pasC N al (itC N al n f (q + d)) n = _
    rw [ih, h]
theorem chS_fix (hf : f < n) : pasC N al (itC N al n f n) n = itC N al n f n := by
  rcases itC_closed (N := N) (al := al) hf n with ⟨q, hq, h⟩ | h
  · have := itC_stay h (n - q)
    rw [show q + (n - q) = n by omega] at this
    rw [this, h]
  · have := cnt_le n (itC N al n f n)
    omega
theorem closed_rch {S : Nat} (h0 : S.testBit f = true) (hc : ∀ g i, g < n → al g = true → (N g).testBit i = true → S.testBit i = true → S.testBit g = true) : ∀ i, Rch N al n f i → S.testBit i = true := by
  intro i h
  induction h with
  | refl => exact h0
  | step _ h1 h2 h3 ih => exact hc _ _ h1 h3 h2 ih
theorem itC_self : ∀ r, (itC N al n f r).testBit f = true
  | 0 => by simp [itC]
  | r + 1 => by
    have := pasC_sub (N := N) (al := al) (itC N al n f r) (g := 0) (k := n)
    rw [Nat.zero_add] at this
    exact this f (itC_self r)
theorem chS_iff (hf : f < n) (i : Nat) : (itC N al n f n).testBit i = true ↔ Rch N al n f i :=
  ⟨itC_sound n i, closed_rch (itC_self n) (fun _ _ hg ha h1 h2 => pasC_fix (chS_fix hf) hg ha h1 h2) i⟩

/-- a search by breadth: seen is S, to do is T, k are done -/
structure Bfs (N : Nat → Nat) (al : Nat → Bool) (n f : Nat) (S : Nat) (T : List Nat) (k i : Nat) : Prop where
  len : T.length = cnt n S
  lt : S < 2 ^ n
  tin : ∀ g ∈ T, S.testBit g = true
  inn : ∀ g, S.testBit g = true → g ∈ T
  rch : ∀ g, S.testBit g = true → Rch N al n f g
  fin : S.testBit f = true
  done : ∀ p, p < k → ∀ j, j < n → (N (T.getD p 0)).testBit j = true → al j = true → S.testBit j = true
  now : ∀ j, j < i → j < n → (N (T.getD k 0)).testBit j = true → al j = true → S.testBit j = true
theorem cnt_or {S i : Nat} (hi : i < n) (h : S.testBit i = false) : cnt n (S ||| 2 ^ i) = cnt n S + 1 := by
  unfold cnt
  have key : ∀ m, (List.range m).countP ((S ||| 2 ^ i).testBit ·) = (List.range m).countP (S.testBit ·) + (if i < m then 1 else 0) := by
    intro m
    induction m with
    | zero => simp
    | succ m ih =>
      rw [List.range_succ, List.countP_append, List.countP_append, ih]
      simp only [List.countP_cons, List.countP_nil, Nat.zero_add, Nat.testBit_or, Nat.testBit_two_pow]
      by_cases h1 : i = m
      · subst h1
        simp [h]
      · by_cases h2 : i < m
        · simp [h1, h2, show i < m + 1 by omega]; omega
        · simp [h1, h2, show ¬ i < m + 1 by omega]
  rw [key n, if_pos hi]
theorem Bfs.start (hf : f < n) : Bfs N al n f (2 ^ f) [f] 0 0 where
  len := by
    have := cnt_or (S := 0) hf (Nat.zero_testBit f)
    rw [Nat.zero_or] at this
    rw [this]
    simp [cnt]
  lt := Nat.pow_lt_pow_right (by omega) hf
  tin := fun g hg => by
    have : g = f := by simpa using hg
    subst this
    simp
  inn := fun g hg => by
    have : f = g := by simpa [Nat.testBit_two_pow] using hg
    simp [this]
  rch := fun g hg => by
    have : f = g := by simpa [Nat.testBit_two_pow] using hg
    subst this
    exact .refl
  fin := by simp
  done := fun p hp => by omega
  now := fun j hj => by omega
theorem Bfs.le {S k i : Nat} {T : List Nat} (h : Bfs N al n f S T k i) : T.length ≤ n := by rw [h.len]; exact cnt_le n S
theorem Bfs.next {S k i : Nat} {T : List Nat} (h : Bfs N al n f S T k i) (hi : n ≤ i) : Bfs N al n f S T (k + 1) 0 :=
  { h with
    done := fun p hp j hj => by
      rcases Nat.lt_succ_iff_lt_or_eq.1 hp with h1 | h1
      · exact h.done p h1 j hj
      · subst h1; exact h.now j (by omega) hj
    now := fun j hj => by omega }
theorem Bfs.skip {S k i : Nat} {T : List Nat} (h : Bfs N al n f S T k i) (hs : (N (T.getD k 0)).testBit i = true → al i = true → S.testBit i = true) : Bfs N al n f S T k (i + 1) :=
  { h with
    now := fun j hj hn h1 h2 => by
      rcases Nat.lt_succ_iff_lt_or_eq.1 hj with h3 | h3
      · exact h.now j h3 hn h1 h2
      · subst h3; exact hs h1 h2 }
theorem getD_app {T : List Nat} {p i : Nat} (h : p < T.length) : (T ++ [i]).getD p 0 = T.getD p 0 := by
  rw [List.getD_eq_getElem?_getD, List.getElem?_append_left h, ← List.getD_eq_getElem?_getD]
theorem Bfs.add {S k i : Nat} {T : List Nat} (h : Bfs N al n f S T k i) (hk : k < T.length) (hi : i < n) (hsym : ∀ a b, a < n → b < n → ((N a).testBit b = true ↔ (N b).testBit a = true)) (hb : (N (T.getD k 0)).testBit i = true) (ha : al i = true) (hs : S.testBit i = false) : Bfs N al n f (S ||| 2 ^ i) (T ++ [i]) k (i + 1) where
  len := by rw [List.length_append, cnt_or hi hs, h.len]; rfl
  lt := Nat.or_lt_two_pow h.lt (Nat.pow_lt_pow_right (by omega) hi)
  tin := fun g hg => by
    rw [Nat.testBit_or, Nat.testBit_two_pow, Bool.or_eq_true, decide_eq_true_eq]
    rcases List.mem_append.1 hg with h1 | h1
    · exact .inl (h.tin g h1)
    · exact .inr (by simpa using (List.mem_singleton.1 h1).symm)
  inn := fun g hg => by
    rw [Nat.testBit_or, Nat.testBit_two_pow, Bool.or_eq_true, decide_eq_true_eq] at hg
    rcases hg with h1 | h1
    · exact List.mem_append.2 (.inl (h.inn g h1))
    · exact List.mem_append.2 (.inr (by simp [h1]))
  rch := fun g hg => by
    rw [Nat.testBit_or, Nat.testBit_two_pow, Bool.or_eq_true, decide_eq_true_eq] at hg
    rcases hg with h1 | h1
    · exact h.rch g h1
    · subst h1
      have hm : T.getD k 0 ∈ T := by
        rw [List.getD_eq_getElem?_getD, List.getElem?_eq_getElem hk]
        exact List.getElem_mem hk
      have ht := h.tin _ hm
      exact .step (h.rch _ ht) hi ((hsym _ _ (bitLt2 h.lt ht) hi).1 hb) ha
  fin := by rw [Nat.testBit_or, h.fin, Bool.true_or]
  done := fun p hp j hj h1 h2 => by
    rw [getD_app (by omega)] at h1
    rw [Nat.testBit_or, h.done p hp j hj h1 h2, Bool.true_or]
  now := fun j hj hn h1 h2 => by
    rw [getD_app hk] at h1
    rw [Nat.testBit_or, Nat.testBit_two_pow, Bool.or_eq_true, decide_eq_true_eq]
    rcases Nat.lt_succ_iff_lt_or_eq.1 hj with h3 | h3
    · exact .inl (h.now j h3 hn h1 h2)
    · exact .inr h3.symm
theorem Bfs.done_ {S k i : Nat} {T : List Nat} (hf : f < n) (h : Bfs N al n f S T k i) (hk : T.length ≤ k) (hsym : ∀ a b, a < n → b < n → ((N a).testBit b = true ↔ (N b).testBit a = true)) : S = itC N al n f n := by
  have hcl : ∀ j, Rch N al n f j → S.testBit j = true := closed_rch h.fin (fun g j hg ha h1 h2 => by
    have hm := h.inn j h2
    obtain ⟨p, hp, e⟩ := List.getElem_of_mem hm
    have e2 : T.getD p 0 = j := by rw [List.getD_eq_getElem?_getD, List.getElem?_eq_getElem hp]; exact e
    have hj := bitLt2 h.lt h2
    exact h.done p (by omega) g hg (by rw [e2]; exact (hsym _ _ hg hj).1 h1) ha)
  apply Nat.eq_of_testBit_eq
  intro j
  rw [Bool.eq_iff_iff, chS_iff hf]
  exact ⟨h.rch j, hcl j⟩
end
/-- the exchange of the color of f with x, over the first j faces of a list -/
def swpL (cs : List Int) (f x : Int) (l : List Int) : Nat → List Int
  | 0 => cs
  | j + 1 => (swpL cs f x l j).set (gi l j).toNat (if gi cs (gi l j) = x then gi cs f else x)
theorem swpL_len (cs : List Int) (f x : Int) (l : List Int) : ∀ j, (swpL cs f x l j).length = cs.length
  | 0 => rfl
  | j + 1 => by
    have := swpL_len cs f x l j
    show ((swpL cs f x l j).set _ _).length = _
    rw [List.length_set, this]
end Go.Proofs.YtdhmjhoaegdfjaaGreat
