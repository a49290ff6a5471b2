import Derived.Test.YtpainmnekgnpeaaP3
namespace Go.Proofs.Ytpainmnekgnpeaa
/-! Plain words: the parts of a drawing. Bits (impl) and labels (spec) both say which nodes hang together. -/
def Vd (n : Nat) (ls : List P2) : Prop := ∀ l ∈ ls, ∃ i j : Nat, l = ((i : Int), (j : Int)) ∧ i < n ∧ j < n
inductive Cn (ls : List P2) (a : Nat) : Nat → Prop where
  | refl : Cn ls a a
  | fwd {i j : Nat} : Cn ls a i → ((i : Int), (j : Int)) ∈ ls → Cn ls a j
  | bwd {i j : Nat} : Cn ls a i → ((j : Int), (i : Int)) ∈ ls → Cn ls a j
theorem Cn.trans {ls : List P2} {a b c : Nat} (h : Cn ls a b) (k : Cn ls b c) : Cn ls a c := by
  induction k with
  | refl => exact h
  | fwd _ e ih => exact ih.fwd e
  | bwd _ e ih => exact ih.bwd e
theorem Cn.symm {ls : List P2} {a b : Nat} (h : Cn ls a b) : Cn ls b a := by
  induction h with
  | refl => exact .refl
  | fwd _ e ih => exact (Cn.bwd .refl e).trans ih
  | bwd _ e ih => exact (Cn.fwd .refl e).trans ih
theorem Cn.mono {ls ms : List P2} {a b : Nat} (h : Cn ls a b) (hs : ∀ l ∈ ls, l ∈ ms) : Cn ms a b := by
  induction h with
  | refl => exact .refl
  | fwd _ e ih => exact ih.fwd (hs _ e)
  | bwd _ e ih => exact ih.bwd (hs _ e)
theorem Cn.lt {ls : List P2} {n a b : Nat} (hv : Vd n ls) (ha : a < n) (h : Cn ls a b) : b < n := by
  induction h with
  | refl => exact ha
  | fwd _ e _ => obtain ⟨i, j, e2, _, h2⟩ := hv _ e; injection e2 with e3 e4; omega
  | bwd _ e _ => obtain ⟨i, j, e2, h1, _⟩ := hv _ e; injection e2 with e3 e4; omega

/-! ### bits -/
def stepB (S : Nat) (l : P2) : Nat := if S.testBit l.1.toNat || S.testBit l.2.toNat then S ||| (2 ^ l.1.toNat ||| 2 ^ l.2.toNat) else S
def roundB (ls : List P2) (S : Nat) : Nat := ls.foldl stepB S
def itB (ls : List P2) : Nat → Nat → Nat
  | 0, S => S
  | r + 1, S => roundB ls (itB ls r S)
def partS (n : Nat) (ls : List P2) (k : Nat) : Nat := itB ls n (2 ^ k)

def sub (S T : Nat) : Prop := ∀ i, S.testBit i = true → T.testBit i = true
theorem sub.rfl' {S : Nat} : sub S S := fun _ h => h
theorem sub.trans {S T U : Nat} (h : sub S T) (k : sub T U) : sub S U := fun i hi => k i (h i hi)
theorem sub_antisymm {S T : Nat} (h : sub S T) (k : sub T S) : S = T := by
  apply Nat.eq_of_testBit_eq
  intro i
  cases h1 : S.testBit i <;> cases h2 : T.testBit i
  · rfl
  · rw [k i h2] at h1; cases h1
  · rw [h i h1] at h2; cases h2
  · rfl
theorem stepB_sub (S : Nat) (l : P2) : sub S (stepB S l) := by
  intro i hi
  unfold stepB
  split
  · simp [hi]
  · exact hi
theorem roundB_sub (ls : List P2) (S : Nat) : sub S (roundB ls S) := by
  induction ls generalizing S with
  | nil => exact sub.rfl'
  | cons l t ih => exact (stepB_sub S l).trans (ih (stepB S l))
theorem itB_sub (ls : List P2) (S : Nat) : ∀ r, sub S (itB ls r S)
  | 0 => sub.rfl'
  | r + 1 => (itB_sub ls S r).trans (roundB_sub ls _)
theorem stepB_or (S : Nat) (l : P2) (i : Nat) (h : (stepB S l).testBit i = true) : S.testBit i = true ∨ ((S.testBit l.1.toNat = true ∨ S.testBit l.2.toNat = true) ∧ (i = l.1.toNat ∨ i = l.2.toNat)) := by
  unfold stepB at h
  split at h
  · rename_i hc
    simp only [Bool.or_eq_true] at hc
    simp only [Nat.testBit_or, Nat.testBit_two_pow, Bool.or_eq_true, decide_eq_true_eq] at h
    rcases h with h | h | h
    · exact .inl h
    · exact .inr ⟨hc, .inl h.symm⟩
    · exact .inr ⟨hc, .inr h.symm⟩
  · exact .inl h
theorem roundB_sound {n a : Nat} {ms : List P2} (hv : Vd n ms) : ∀ (ls : List P2) (S : Nat), (∀ l ∈ ls, l ∈ ms) → (∀ i, S.testBit i = true → Cn ms a i) → ∀ i, (roundB ls S).testBit i = true → Cn ms a i
  | [], S, _, h => h
  | l :: t, S, hs, h => by
    refine roundB_sound hv t (stepB S l) (fun x hx => hs x (List.mem_cons_of_mem _ hx)) ?_
    intro i hi
    obtain ⟨f, t', rfl, _, _⟩ := hv l (hs l (List.mem_cons_self ..))
    have hm := hs _ (List.mem_cons_self ..)
    rcases stepB_or S _ i hi with h1 | ⟨h1, h2⟩
    · exact h i h1
    · simp only [Int.toNat_natCast] at h1 h2
      have hf : Cn ms a f := by
        rcases h1 with h1 | h1
        · exact h _ h1
        · exact (h _ h1).bwd hm
      rcases h2 with rfl | rfl
      · exact hf
      · exact hf.fwd hm
theorem itB_sound {n a : Nat} {ls : List P2} (hv : Vd n ls) (S : Nat) (h : ∀ i, S.testBit i = true → Cn ls a i) : ∀ r i, (itB ls r S).testBit i = true → Cn ls a i
  | 0 => h
  | r + 1 => roundB_sound hv ls _ (fun _ h => h) (itB_sound hv S h r)
theorem closed_of_fix {S : Nat} : ∀ {ls : List P2}, roundB ls S = S → ∀ l ∈ ls, stepB S l = S
  | [], _, l, hl => by cases hl
  | m :: t, h, l, hl => by
    have e : stepB S m = S := sub_antisymm (by
      have := roundB_sub t (stepB S m)
      rw [show roundB t (stepB S m) = S from h] at this
      exact this) (stepB_sub S m)
    rcases List.mem_cons.1 hl with rfl | hl
    · exact e
    · exact closed_of_fix (ls := t) (by have := h; unfold roundB at this ⊢; rw [List.foldl_cons, e] at this; exact this) l hl

def cnt (n S : Nat) : Nat := (List.range n).countP (S.testBit ·)
theorem countP_lt {α : Type} {p q : α → Bool} {a : α} : ∀ {l : List α}, (∀ x, p x = true → q x = true) → a ∈ l → p a = false → q a = true → l.countP p < l.countP q
  | b :: t, h, hm, hp, hq => by
    have hle : t.countP p ≤ t.countP q := List.countP_mono_left (fun x _ => h x)
    rcases List.mem_cons.1 hm with rfl | hm
    · rw [List.countP_cons, List.countP_cons, hp, hq]; simp; omega
    · have ih := countP_lt h hm hp hq
      rw [List.countP_cons, List.countP_cons]
      cases hb : p b
      · simp; omega
      · rw [h b hb]; simp; omega
theorem cnt_le (n S : Nat) : cnt n S ≤ n := by
  unfold cnt
  have := List.countP_le_length (p := fun i => S.testBit i) (l := List.range n)
  rwa [List.length_range] at this
theorem cnt_lt {n S T : Nat} (h : sub S T) (hb : ∀ i, T.testBit i = true → i < n) (hne : S ≠ T) : cnt n S < cnt n T := by
  obtain ⟨i, hi⟩ : ∃ i, ¬ (T.testBit i = true → S.testBit i = true) := by
    apply Classical.byContradiction
    intro hn
    exact hne (sub_antisymm h (fun i hi => Classical.byContradiction fun hc => hn ⟨i, fun h' => hc (h' hi)⟩))
  have hT : T.testBit i = true := Classical.byContradiction fun hc => hi fun h' => absurd h' hc
  have hS : S.testBit i = false := Bool.eq_false_iff.2 fun hc => hi fun _ => hc
  exact countP_lt (a := i) h (List.mem_range.2 (hb i hT)) hS hT
theorem itB_closed {n a : Nat} {ls : List P2} (hv : Vd n ls) (ha : a < n) : ∀ r, (∃ q, q ≤ r ∧ roundB ls (itB ls q (2 ^ a)) = itB ls q (2 ^ a)) ∨ r + 1 ≤ cnt n (itB ls r (2 ^ a))
  | 0 => by
    refine .inr ?_
    unfold cnt
    apply Nat.succ_le_of_lt
    rw [List.countP_pos_iff]
    exact ⟨a, List.mem_range.2 ha, by simp [itB]⟩
  | r + 1 => by
    rcases itB_closed hv ha r with ⟨q, hq, h⟩ | h
    · exact .inl ⟨q, by omega, h⟩
    · by_cases he : roundB ls (itB ls r (2 ^ a)) = itB ls r (2 ^ a)
      · exact .inl ⟨r, by omega, he⟩
      · refine .inr ?_
        have hb : ∀ i, (itB ls (r + 1) (2 ^ a)).testBit i = true → i < n := fun i hi =>
          (itB_sound hv (2 ^ a) (a := a) (fun i h => by rw [Nat.testBit_two_pow, decide_eq_true_eq] at h; subst h; exact .refl) (r + 1) i hi).lt hv ha
        have := cnt_lt (n := n) (roundB_sub ls (itB ls r (2 ^ a))) hb (Ne.symm he)
        exact Nat.lt_of_le_of_lt h this
theorem itB_stay {ls : List P2} {S q : Nat} (h : roundB ls (itB ls q S) = itB ls q S) : ∀ d, itB ls (q + d) S = itB ls q S
  | 0 => rfl
  | d + 1 => by show roundB ls (itB ls (q + d) S) = _; rw [itB_stay h d, h]
theorem partS_fix {n a : Nat} {ls : List P2} (hv : Vd n ls) (ha : a < n) : roundB ls (partS n ls a) = partS n ls a := by
  rcases itB_closed hv ha n with ⟨q, hq, h⟩ | h
  · have e := itB_stay h (n - q)
    rw [show q + (n - q) = n by omega] at e
    unfold partS
    rw [e, h]
  · have := cnt_le n (itB ls n (2 ^ a)); omega
/-- the bits of a part are the nodes that hang together with a -/
theorem partS_iff {n a : Nat} {ls : List P2} (hv : Vd n ls) (ha : a < n) (i : Nat) : (partS n ls a).testBit i = true ↔ Cn ls a i := by
  constructor
  · exact itB_sound hv (2 ^ a) (fun i h => by rw [Nat.testBit_two_pow, decide_eq_true_eq] at h; subst h; exact .refl) n i
  · intro h
    have hc := closed_of_fix (partS_fix hv ha)
    induction h with
    | refl => exact itB_sub ls _ n a (by simp)
    | @fwd i j _ e ih =>
      have := hc _ e
      unfold stepB at this
      simp only [Int.toNat_natCast, ih, Bool.true_or, if_true] at this
      rw [← this]; simp
    | @bwd i j _ e ih =>
      have := hc _ e
      unfold stepB at this
      simp only [Int.toNat_natCast, ih, Bool.or_true, if_true] at this
      rw [← this]; simp
theorem partS_bd {n a : Nat} {ls : List P2} (hv : Vd n ls) (ha : a < n) (r : Nat) : itB ls r (2 ^ a) < 2 ^ n := by
  apply Nat.lt_pow_two_of_testBit
  intro i hi
  rw [Bool.eq_false_iff]
  intro h
  have := (itB_sound hv (2 ^ a) (a := a) (fun i h => by rw [Nat.testBit_two_pow, decide_eq_true_eq] at h; subst h; exact .refl) r i h).lt hv ha
  omega
end Go.Proofs.Ytpainmnekgnpeaa
