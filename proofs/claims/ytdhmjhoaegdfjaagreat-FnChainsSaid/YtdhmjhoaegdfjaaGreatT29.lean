import Derived.Test.YtdhmjhoaegdfjaaGreatT26
import Derived.Test.YtdhmjhoaegdfjaaGreatE2
import Derived.Test.YtdhmjhoaegdfjaaGreatD34
import Derived.Test.YtdhmjhoaegdfjaaGreatG18
namespace Go.Proofs.YtdhmjhoaegdfjaaGreat.Pl
open Go.Proofs.YtdhmjhoaegdfjaaGreat
/-! What FnChains asks. -/
theorem gi_ext2 {a b : List Int} (hl : a.length = b.length) (h : ∀ i, i < a.length → gi a (i : Nat) = gi b (i : Nat)) : a = b := by
  apply List.ext_getElem hl
  intro i h1 h2
  have := h i h1
  rwa [gi_nat _ _ h1, gi_nat _ _ h2] at this
theorem gi_out {l : List Int} {i : Nat} (h : l.length ≤ i) : gi l (i : Nat) = gi [] (i : Nat) := by
  unfold gi
  simp [List.getD_eq_getElem?_getD, List.getElem?_eq_none h]
theorem gi_put2 {xs : List Int} {j i : Nat} {c : Int} (hj : j < xs.length) : gi (xs.set j c) (i : Nat) = if i = j then c else gi xs (i : Nat) := by
  rcases Nat.lt_or_ge i xs.length with hi | hi
  · rw [gi_nat _ _ (by rw [List.length_set]; exact hi), gi_nat _ _ hi, List.getElem_set]
    by_cases h : i = j
    · rw [if_pos h, if_pos h.symm]
    · rw [if_neg h, if_neg (fun e => h e.symm)]
  · rw [if_neg (by omega), gi_out (by rw [List.length_set]; exact hi), gi_out hi]
/-- the exchange along a list of faces -/
theorem swp_gi {cs : List Int} {f x : Int} {l : List Int} (hl : ∀ j : Nat, j < l.length → ∃ a : Nat, gi l (j : Nat) = a ∧ a < cs.length) : ∀ j : Nat, j ≤ l.length → ∀ i : Nat,
    gi (swpL cs f x l j) (i : Nat) = if (∃ k : Nat, k < j ∧ gi l (k : Nat) = (i : Int)) then (if gi cs (i : Nat) = x then gi cs f else x) else gi cs (i : Nat)
  | 0, _, i => by
    rw [if_neg (by rintro ⟨k, hk, _⟩; omega)]; rfl
  | j + 1, hj, i => by
    obtain ⟨a, ea, ha⟩ := hl j (by omega)
    rw [swpL_step cs f x l ea, gi_put2 (by rw [swpL_len]; exact ha), swp_gi hl j (by omega) i]
    by_cases c : i = a
    · subst c
      rw [if_pos rfl, if_pos (show ∃ k : Nat, k < j + 1 ∧ gi l (k : Nat) = (i : Int) from ⟨j, by omega, ea⟩)]
    · rw [if_neg c]
      by_cases c2 : ∃ k : Nat, k < j ∧ gi l (k : Nat) = (i : Int)
      · rw [if_pos c2]
        obtain ⟨k, h1, h2⟩ := c2
        rw [if_pos (show ∃ k : Nat, k < j + 1 ∧ gi l (k : Nat) = (i : Int) from ⟨k, by omega, h2⟩)]
      · rw [if_neg c2, if_neg]
        rintro ⟨k, h1, h2⟩
        rcases Nat.lt_succ_iff_lt_or_eq.1 h1 with g | rfl
        · exact c2 ⟨k, g, h2⟩
        · rw [ea] at h2; omega
theorem bits_ex {S n i : Nat} (hS : S < 2 ^ n) : (∃ k : Nat, k < (bitsL S n).length ∧ gi (bitsL S n) (k : Nat) = (i : Int)) ↔ S.testBit i = true := by
  constructor
  · rintro ⟨k, hk, e⟩
    have hm : (bitsL S n)[k] ∈ bitsL S n := List.getElem_mem hk
    rw [← gi_nat _ _ hk, e] at hm
    unfold bitsL at hm
    obtain ⟨j, hj, e2⟩ := List.mem_map.1 hm
    obtain ⟨_, h2⟩ := List.mem_filter.1 hj
    obtain rfl : j = i := by omega
    exact h2
  · intro h
    obtain ⟨k, hk, e⟩ := List.mem_iff_getElem.1 (bitsL_mem (bitLt2 hS h) h)
    exact ⟨k, hk, by rw [gi_nat _ _ hk, e]⟩
section
variable {ns ls : List P2}
/-- the exchange in the chain of f -/
def swC (ns ls : List P2) (cs : List Int) (f : Nat) (x : Int) : List Int := swpL cs f x (bitsL (chS ns ls cs f x) cs.length) (bitsL (chS ns ls cs f x) cs.length).length
theorem swC_len (cs : List Int) (f : Nat) (x : Int) : (swC ns ls cs f x).length = cs.length := swpL_len _ _ _ _ _
theorem swC_gi {cs : List Int} {f : Nat} {x : Int} (hf : f < cs.length) (i : Nat) : gi (swC ns ls cs f x) (i : Nat) = if (chS ns ls cs f x).testBit i = true then (if gi cs (i : Nat) = x then gi cs (f : Nat) else x) else gi cs (i : Nat) := by
  have h := swp_gi (cs := cs) (f := (f : Nat)) (x := x) (l := bitsL (chS ns ls cs f x) cs.length) (fun j hj => bitsL_gi hj) _ (Nat.le_refl _) i
  unfold swC
  rw [h]
  have := bits_ex (i := i) (chS_lt (ns := ns) (ls := ls) (xs := cs) (x := x) hf)
  by_cases c : (chS ns ls cs f x).testBit i = true
  · rw [if_pos (this.2 c), if_pos c]
  · rw [if_neg (fun e => c (this.1 e)), if_neg c]
theorem ch_al {cs : List Int} {f : Nat} {x : Int} (hf : f < cs.length) {i : Nat} (h : (chS ns ls cs f x).testBit i = true) : gi cs (i : Nat) = gi cs (f : Nat) ∨ gi cs (i : Nat) = x := by
  have := (chS_iff (N := nbN ns ls) (al := alw cs f x) hf i).1 h
  cases this with
  | refl => exact .inl rfl
  | step _ _ _ h3 =>
    unfold alw at h3
    simpa using h3
theorem ch_step {cs : List Int} {f : Nat} {x : Int} (hf : f < cs.length) {i j : Nat} (h : (chS ns ls cs f x).testBit i = true) (hj : j < cs.length) (hb : (nbN ns ls j).testBit i = true) (ha : gi cs (j : Nat) = gi cs (f : Nat) ∨ gi cs (j : Nat) = x) : (chS ns ls cs f x).testBit j = true := by
  have h1 := (chS_iff (N := nbN ns ls) (al := alw cs f x) hf i).1 h
  exact (chS_iff (N := nbN ns ls) (al := alw cs f x) hf j).2 (.step h1 hj hb (by unfold alw; simpa using ha))
theorem ch_self {cs : List Int} {f : Nat} {x : Int} : (chS ns ls cs f x).testBit f = true := itC_self _
/-- colors stay proper -/
theorem swC_proper (hw : whole ns ls = true) {cs : List Int} (hp : vAreProper ns ls cs = true) {f : Nat} {x : Int} (hf : f < cs.length) (hx : 0 ≤ x ∧ x ≤ 5) : vAreProper ns ls (swC ns ls cs f x) = true := by
  obtain ⟨⟨hl, hbd⟩, hpr⟩ := (proper_iff hw).1 hp
  refine (proper_iff hw).2 ⟨⟨by rw [swC_len]; exact hl, fun i hi => ?_⟩, ?_⟩
  · rw [swC_len] at hi
    rw [swC_gi hf]
    have := hbd i hi
    have := hbd f hf
    split
    · split <;> omega
    · omega
  · have key : ∀ a b : Nat, (nbN ns ls a).testBit b = true → (chS ns ls cs f x).testBit a = true → gi (swC ns ls cs f x) (a : Nat) ≠ gi (swC ns ls cs f x) (b : Nat) := by
      intro a b hb ha
      have hne := hpr a b hb
      have hal := ch_al hf ha
      obtain ⟨_, hbl, _⟩ := nb_lt hw hb
      rw [swC_gi hf, swC_gi hf, if_pos ha]
      by_cases c : (chS ns ls cs f x).testBit b = true
      · rw [if_pos c]
        have hbl2 := ch_al hf c
        by_cases c1 : gi cs (a : Nat) = x <;> by_cases c2 : gi cs (b : Nat) = x
        · exact absurd (c1.trans c2.symm) hne
        · rw [if_pos c1, if_neg c2]; intro e; exact hne (by rw [c1]; rcases hbl2 with g | g; exact (g.trans e).symm; exact g.symm)
        · rw [if_neg c1, if_pos c2]; intro e; exact hne (by rw [c2]; rcases hal with g | g; exact g.trans e.symm; exact g)
        · rcases hal with g | g
          · rcases hbl2 with g2 | g2
            · exact absurd (g.trans g2.symm) hne
            · exact absurd g2 c2
          · exact absurd g c1
      · rw [if_neg c]
        have hno : ¬ (gi cs (b : Nat) = gi cs (f : Nat) ∨ gi cs (b : Nat) = x) := fun e => c (ch_step hf ha (by omega) (by rw [nbN_sym hw]; exact hb) e)
        split
        · intro e; exact hno (.inl e.symm)
        · intro e; exact hno (.inr e.symm)
    intro a b hb
    by_cases ca : (chS ns ls cs f x).testBit a = true
    · exact key a b hb ca
    · by_cases cb : (chS ns ls cs f x).testBit b = true
      · exact fun e => key b a (by rw [nbN_sym hw]; exact hb) cb e.symm
      · rw [swC_gi hf, swC_gi hf, if_neg ca, if_neg cb]
        exact hpr a b hb
theorem swC_self {cs : List Int} {f : Nat} {x : Int} (hf : f < cs.length) (hx : gi cs (f : Nat) ≠ x) : gi (swC ns ls cs f x) (f : Nat) = x := by
  rw [swC_gi hf, if_pos ch_self, if_neg hx]
/-- the chain is the same after the exchange -/
theorem ch_back {cs : List Int} {f : Nat} {x : Int} (hf : f < cs.length) (hx : gi cs (f : Nat) ≠ x) : chS ns ls (swC ns ls cs f x) f (gi cs (f : Nat)) = chS ns ls cs f x := by
  have e : alw (swC ns ls cs f x) (f : Nat) (gi cs (f : Nat)) = alw cs (f : Nat) x := by
    funext g
    unfold alw
    rw [swC_self hf hx, swC_gi hf]
    by_cases c : (chS ns ls cs f x).testBit g = true
    · rw [if_pos c]
      have := ch_al hf c
      by_cases c1 : gi cs (g : Nat) = x
      · rw [if_pos c1]; simp [c1]
      · rw [if_neg c1]
        rcases this with h | h
        · simp [h]
        · exact absurd h c1
    · rw [if_neg c, Bool.or_comm]
  unfold chS
  unfold chS at e
  rw [e, swC_len]
theorem sw_back {cs : List Int} {f : Nat} {x : Int} (hf : f < cs.length) (hx : gi cs (f : Nat) ≠ x) : swC ns ls (swC ns ls cs f x) f (gi cs (f : Nat)) = cs := by
  refine gi_ext2 (by rw [swC_len, swC_len]) fun i hi => ?_
  rw [swC_gi (by rw [swC_len]; exact hf), ch_back hf hx, swC_self hf hx, swC_gi hf]
  by_cases c : (chS ns ls cs f x).testBit i = true
  · rw [if_pos c, if_pos c]
    by_cases c1 : gi cs (i : Nat) = x
    · rw [if_pos c1, if_pos rfl, c1]
    · rw [if_neg c1]
      rcases ch_al hf c with h | h
      · rw [if_neg (fun e => hx e.symm), h]
      · exact absurd h c1
  · rw [if_neg c, if_neg c]
theorem sw_diff {cs : List Int} {f : Nat} {x : Int} (hf : f < cs.length) (hx : gi cs (f : Nat) ≠ x) (i : Nat) : (gi (swC ns ls cs f x) (i : Nat) != gi cs (i : Nat)) = (chS ns ls cs f x).testBit i := by
  rw [swC_gi hf]
  cases c : (chS ns ls cs f x).testBit i with
  | true =>
    rw [if_pos rfl, bne_iff_ne]
    by_cases c1 : gi cs (i : Nat) = x
    · rw [if_pos c1, c1]; exact hx
    · rw [if_neg c1]; exact fun e => c1 e.symm
  | false => rw [if_neg (by decide)]; simp
theorem has_bits {S n i : Nat} (hS : S < 2 ^ n) : hsI (bitsL S n) (i : Int) = S.testBit i := by
  unfold hsI
  rw [Bool.eq_iff_iff, List.contains_iff_mem]
  constructor
  · intro hm
    unfold bitsL at hm
    obtain ⟨j, hj, e2⟩ := List.mem_map.1 hm
    obtain ⟨_, h2⟩ := List.mem_filter.1 hj
    obtain rfl : j = i := by omega
    exact h2
  · intro h
    exact bitsL_mem (bitLt2 hS h) h
theorem swap_eq {cs : List Int} (hp : vAreProper ns ls cs = true) {f : Nat} {x : Int} (hf : f < cs.length) (hx : 0 ≤ x ∧ x ≤ 5) : vChainOf ns ls cs (f : Nat) x = bitsL (chS ns ls cs f x) cs.length ∧ vSwapChain ns ls cs (f : Nat) x = if gi cs (f : Nat) = x then (cs, false) else (swC ns ls cs f x, true) := by
  have e := vChainOf_in hp hf (wi_iff.2 hx)
  have hpos := chS_pos (ns := ns) (ls := ls) (x := x) hf
  refine ⟨e, ?_⟩
  unfold vSwapChain
  rw [e]
  by_cases c : gi cs (f : Nat) = x
  · rw [if_pos (.inr c), if_pos c]
  · rw [if_neg (by rintro (h | h); omega; exact c h), if_neg c]
    rfl
/-- a face gets a free color -/
theorem free_ok (hw : whole ns ls = true) {cs : List Int} (hp : vAreProper ns ls cs = true) {f m : Nat} (hf : f < cs.length) (hm : 2 ≤ m ∧ m ≤ 6) :
    ((vFreeFace ns ls cs (f : Nat) (m : Nat)).2 = true → (vFreeFace ns ls cs (f : Nat) (m : Nat)).1.length = cs.length ∧ vAreProper ns ls (vFreeFace ns ls cs (f : Nat) (m : Nat)).1 = true ∧ gi (vFreeFace ns ls cs (f : Nat) (m : Nat)).1 (f : Nat) ≠ gi cs (f : Nat) ∧
      0 ≤ gi (vFreeFace ns ls cs (f : Nat) (m : Nat)).1 (f : Nat) ∧ gi (vFreeFace ns ls cs (f : Nat) (m : Nat)).1 (f : Nat) < m) ∧
    ((vFreeFace ns ls cs (f : Nat) (m : Nat)).2 = false → (vFreeFace ns ls cs (f : Nat) (m : Nat)).1 = cs) := by
  obtain ⟨⟨hl, hbd⟩, hpr⟩ := (proper_iff hw).1 hp
  have hV : vFreeFace ns ls cs (f : Nat) (m : Nat) = ffV ns ls cs f m (fstP (ff1 ns ls cs f) m) (fstP (ff2 ns ls cs f m) (m * m)) := by
    unfold vFreeFace
    rw [if_pos ⟨hp, wi_iff.2 ⟨by omega, by omega⟩, wi_iff.2 ⟨by omega, by omega⟩⟩, Int.toNat_natCast, Int.toNat_natCast]
  -- a color that no face beside f has
  have put : ∀ (T : List Int) (x : Nat), vAreProper ns ls T = true → x < m → (∀ b : Nat, (nbN ns ls f).testBit b = true → gi T (b : Nat) ≠ (x : Int)) → vAreProper ns ls (T.set f (x : Int)) = true := by
    intro T x hT hx hno
    obtain ⟨⟨tl, tb⟩, tp⟩ := (proper_iff hw).1 hT
    refine (proper_iff hw).2 ⟨⟨by rw [List.length_set]; exact tl, fun i hi => ?_⟩, fun a b hb => ?_⟩
    · rw [List.length_set] at hi
      rw [gi_put2 (by omega)]
      have := tb i hi
      split <;> omega
    · obtain ⟨q1, q2, q3⟩ := nb_lt hw hb
      rw [gi_put2 (by omega), gi_put2 (by omega)]
      by_cases c1 : a = f
      · subst c1
        rw [if_pos rfl, if_neg (Ne.symm q3)]
        exact fun e => hno b hb e.symm
      · rw [if_neg c1]
        by_cases c2 : b = f
        · subst c2
          rw [if_pos rfl]
          exact hno a (by rw [nbN_sym hw]; exact hb)
        · rw [if_neg c2]
          exact tp a b hb
  have none_ : ∀ (T : List Int) (x : Int), T.length = cs.length → (fstP (hasC (nbN ns ls f) T x) cs.length).isSome = false → ∀ b : Nat, (nbN ns ls f).testBit b = true → gi T (b : Nat) ≠ x := by
    intro T x hT hn b hb e
    obtain ⟨_, q2, _⟩ := nb_lt hw hb
    have hn2 : fstP (hasC (nbN ns ls f) T x) cs.length = none := by
      cases hq : fstP (hasC (nbN ns ls f) T x) cs.length with
      | none => rfl
      | some g => rw [hq] at hn; cases hn
    have := fstP_none hn2 b (by omega)
    unfold hasC at this
    rw [hb, e] at this
    simp at this
  rw [hV]
  cases h1 : fstP (ff1 ns ls cs f) m with
  | some x =>
    obtain ⟨q1, q2⟩ := fstP_some h1
    unfold ff1 at q2
    rw [Bool.and_eq_true, bne_iff_ne, Bool.not_eq_true'] at q2
    show (true = true → (cs.set f (x : Int)).length = cs.length ∧ vAreProper ns ls (cs.set f (x : Int)) = true ∧ gi (cs.set f (x : Int)) (f : Nat) ≠ gi cs (f : Nat) ∧ 0 ≤ gi (cs.set f (x : Int)) (f : Nat) ∧ gi (cs.set f (x : Int)) (f : Nat) < m) ∧ (true = false → _)
    rw [gi_put2 hf, if_pos rfl]
    exact ⟨fun _ => ⟨List.length_set, put cs x hp q1 (none_ cs x rfl q2.2), q2.1, by omega, by omega⟩, fun e => by cases e⟩
  | none =>
    cases h2 : fstP (ff2 ns ls cs f m) (m * m) with
    | none =>
      refine ⟨fun e => ?_, fun _ => rfl⟩
      have e : false = true := e
      cases e
    | some p =>
      show (true = true → ((ffT ns ls cs f ((p / m : Nat) : Int) ((p % m : Nat) : Int)).set f ((p / m : Nat) : Int)).length = cs.length ∧ vAreProper ns ls ((ffT ns ls cs f ((p / m : Nat) : Int) ((p % m : Nat) : Int)).set f ((p / m : Nat) : Int)) = true ∧ gi ((ffT ns ls cs f ((p / m : Nat) : Int) ((p % m : Nat) : Int)).set f ((p / m : Nat) : Int)) (f : Nat) ≠ gi cs (f : Nat) ∧ 0 ≤ gi ((ffT ns ls cs f ((p / m : Nat) : Int) ((p % m : Nat) : Int)).set f ((p / m : Nat) : Int)) (f : Nat) ∧ gi ((ffT ns ls cs f ((p / m : Nat) : Int) ((p % m : Nat) : Int)).set f ((p / m : Nat) : Int)) (f : Nat) < m) ∧ (true = false → _ = cs)
      obtain ⟨q1, q2⟩ := fstP_some h2
      unfold ff2 ff2x at q2
      have hxm : p / m < m := Nat.div_lt_of_lt_mul q1
      have hym : p % m < m := Nat.mod_lt _ (by omega)
      generalize p / m = x at *
      generalize p % m = y at *
      simp only [Bool.and_eq_true, Bool.not_eq_true', beq_eq_false_iff_ne] at q2
      obtain ⟨q3, q4, q5, q6⟩ := q2
      have hsm := ff_beside h1 hxm q4
      have hsw := swap_val hp (wi_iff.2 (show (0 : Int) ≤ (y : Int) ∧ (y : Int) ≤ 5 by omega)) q3 hsm
      obtain ⟨g1, g2, g3⟩ := ffG_is hsm
      have hT : ffT ns ls cs f (x : Int) (y : Int) = swC ns ls cs (ffG ns ls cs f (x : Int)) (y : Int) := rfl
      have hTp : vAreProper ns ls (ffT ns ls cs f (x : Int) (y : Int)) = true := by rw [hT]; exact swC_proper hw hp g2 (by omega)
      have hTl := ffT_len ns ls cs f (x : Int) (y : Int)
      rw [gi_put2 (by omega), if_pos rfl]
      exact ⟨fun _ => ⟨by rw [List.length_set, hTl], put _ x hTp hxm (none_ _ _ hTl q6), q4, by omega, by omega⟩, fun e => by cases e⟩
theorem cnp_mono2 {P Q : Nat → Bool} (h : ∀ i, P i = true → Q i = true) : ∀ n, cnp P n ≤ cnp Q n
  | 0 => Nat.le_refl _
  | n + 1 => by
    have ih := cnp_mono2 h n
    by_cases c : P n = true
    · rw [cnp_yes c, cnp_yes (h n c)]; omega
    · rw [cnp_no (eq_false_of_ne_true c)]
      show cnp P n ≤ cnp Q n + (if Q n = true then 1 else 0)
      omega
theorem cnp_ge12 {P : Nat → Bool} {i : Nat} (hi : P i = true) : ∀ n, i < n → 1 ≤ cnp P n
  | 0, h => by omega
  | n + 1, h => by
    rcases Nat.lt_succ_iff_lt_or_eq.1 h with c | rfl
    · have := cnp_ge12 hi n c
      show 1 ≤ cnp P n + (if P n = true then 1 else 0)
      omega
    · rw [cnp_yes hi]; omega
/-- how many of the first k faces have color 0 or 1 -/
def usP (cs : List Int) (k : Nat) : Bool := gi cs (k : Nat) == 0 || gi cs (k : Nat) == 1
theorem bits_zero {S : Nat} (h : S.testBit 0 = true) : ∀ n, 0 < n → gi (bitsL S n) ((0 : Nat) : Int) = 0 ∧ 0 < (bitsL S n).length
  | 0, hn => by omega
  | n + 1, _ => by
    rw [bitsL_succ]
    rcases Nat.eq_zero_or_pos n with rfl | hn
    · rw [if_pos h]; exact ⟨rfl, by simp⟩
    · obtain ⟨h1, h2⟩ := bits_zero h n hn
      split
      · refine ⟨?_, by rw [List.length_append]; omega⟩
        have := gi_app (a := (n : Int)) h2
        rw [this]; exact h1
      · exact ⟨h1, h2⟩
/-- the chains of two colors -/
theorem chains_ok (hw : whole ns ls = true) {cs : List Int} (hp : vAreProper ns ls cs = true) (h0 : gi cs ((0 : Nat) : Int) = 0) : 1 ≤ vCountChains ns ls cs 0 1 ∧ vCountChains ns ls cs 0 1 ≤ (cnp (usP cs) cs.length : Nat) ∧ vCountChains ns ls cs 1 0 = vCountChains ns ls cs 0 1 ∧ vCountChains ns ls cs 2 2 = 0 := by
  have hl := (proper_ok hp).2
  have hF := faces_pos hw
  have e1 : vCountChains ns ls cs 0 1 = ((cnp (ccP ns ls cs 0 1) cs.length : Nat) : Int) := by
    unfold vCountChains
    rw [if_pos ⟨hp, by decide, by decide, by decide⟩]
  have e2 : vCountChains ns ls cs 1 0 = ((cnp (ccP ns ls cs 1 0) cs.length : Nat) : Int) := by
    unfold vCountChains
    rw [if_pos ⟨hp, by decide, by decide, by decide⟩]
  have e3 : ccP ns ls cs 1 0 = ccP ns ls cs 0 1 := by
    funext k
    unfold ccP
    rw [Bool.or_comm]
  refine ⟨?_, ?_, by rw [e2, e3, e1], ?_⟩
  · rw [e1]
    have : ccP ns ls cs 0 1 0 = true := by
      unfold ccP chHd
      rw [h0, (bits_zero (ch_self (ns := ns) (ls := ls) (cs := cs) (f := 0) (x := 1)) cs.length (by omega)).1]
      rfl
    have := cnp_ge12 this cs.length (by omega)
    omega
  · rw [e1]
    have := cnp_mono2 (P := ccP ns ls cs 0 1) (Q := usP cs) (fun i hi => by
      unfold ccP at hi
      unfold usP
      cases c1 : gi cs (i : Nat) == 0 <;> cases c2 : gi cs (i : Nat) == 1 <;> simp [c1, c2] at hi ⊢) cs.length
    omega
  · unfold vCountChains
    rw [if_neg (fun e => e.2.1 rfl)]
/-- the first face gets color 0 -/
theorem first_zero (hw : whole ns ls = true) : gi (vColorWith ns ls 4).1 ((0 : Nat) : Int) = 0 := by
  have hF := faces_pos hw
  have hW : vColorWith ns ls 4 = (srL (nbN ns ls) (List.replicate (vFaces ns ls).length (-1)) 4 (vFaces ns ls).length [], srB (nbN ns ls) (List.replicate (vFaces ns ls).length (-1)) 4 (vFaces ns ls).length []) := by
    rw [vColorWith_eq, if_pos ⟨hw, by decide⟩]; rfl
  rw [hW]
  show gi (srL (nbN ns ls) (List.replicate (vFaces ns ls).length (-1)) 4 (vFaces ns ls).length []) ((0 : Nat) : Int) = 0
  obtain ⟨col, h1, h2⟩ := four_fit hw
  -- color 0 and the color of face 0 exchanged
  have hfit := tab_fit hw (k := 4) (col := fun f => if col f = col 0 then 0 else if col f = 0 then col 0 else col f) (fun f hf => by
    have := h1 f hf
    have := h1 0 hF
    show (if col f = col 0 then 0 else if col f = 0 then col 0 else col f) < 4
    split
    · omega
    · split <;> omega) (fun f g hb => by
    have := h2 f g hb
    show (if col f = col 0 then 0 else if col f = 0 then col 0 else col f) ≠ (if col g = col 0 then 0 else if col g = 0 then col 0 else col g)
    generalize col f = a at *
    generalize col g = b at *
    generalize col 0 = c at *
    (repeat' split) <;> omega)
  have hc := (cpl_fit hw).2 hfit
  obtain ⟨d, hd⟩ : ∃ d, (vFaces ns ls).length = d + 1 := ⟨(vFaces ns ls).length - 1, by omega⟩
  have hg0 : gi (tab (vFaces ns ls).length (fun f => ((if col f = col 0 then 0 else if col f = 0 then col 0 else col f : Nat) : Int))) ((0 : Nat) : Int) = 0 := by
    rw [tab_gi _ hF, if_pos rfl]; rfl
  generalize (tab (vFaces ns ls).length (fun f => ((if col f = col 0 then 0 else if col f = 0 then col 0 else col f : Nat) : Int))) = L0 at *
  generalize (List.replicate (vFaces ns ls).length (-1) : List Int) = W at *
  rw [hd] at hc ⊢
  obtain ⟨c, q1, q2, q3⟩ := cpl_succ.1 hc
  have hlen0 := q3.len
  have hpre0 := q3.pre
  have hc0 : (c : Int) = 0 := by
    have e : gi (L0.take 1) ((0 : Nat) : Int) = gi L0 ((0 : Nat) : Int) := gi_take2 (by omega) (by rw [hlen0]; simp)
    have e2 : L0.take 1 = [(c : Int)] := hpre0
    rw [e2, hg0] at e
    exact e
  obtain rfl : c = 0 := by omega
  obtain ⟨L, e1, e2⟩ := sr_zero (s := none) (d := d) (show 0 < 4 by omega) q2 ⟨L0, q3⟩
  have hL : srL (nbN ns ls) W 4 (d + 1) [] = L := by
    unfold srL
    rw [e1]; rfl
  rw [hL]
  have e : gi (L.take 1) ((0 : Nat) : Int) = gi L ((0 : Nat) : Int) := gi_take2 (by omega) (by rw [e2.len]; simp)
  have e3 : L.take 1 = [(0 : Int)] := e2.pre
  rw [← e, e3]
  rfl
/-- all that the law asks of an exchange -/
theorem swap_all (hw : whole ns ls = true) {cs : List Int} (hp : vAreProper ns ls cs = true) {f x : Nat} (hf : f < cs.length) (hx : x ≤ 5) (hne : gi cs (f : Nat) ≠ (x : Int)) : ∃ s : List Int, vSwapChain ns ls cs (f : Nat) (x : Nat) = (s, true) ∧ s.length = cs.length ∧
    vAreProper ns ls s = true ∧ gi s (f : Nat) = (x : Int) ∧ vSwapChain ns ls s (f : Nat) (gi cs (f : Nat)) = (cs, true) ∧ vChainOf ns ls s (f : Nat) (gi cs (f : Nat)) = vChainOf ns ls cs (f : Nat) (x : Nat) ∧
    ∀ i : Nat, (gi s (i : Nat) != gi cs (i : Nat)) = hsI (vChainOf ns ls cs (f : Nat) (x : Nat)) (i : Int) := by
  obtain ⟨⟨hl, hbd⟩, hpr⟩ := (proper_iff hw).1 hp
  obtain ⟨e1, e2⟩ := swap_eq (x := (x : Int)) hp hf (by omega)
  have hp2 := swC_proper hw hp hf (x := (x : Int)) (by omega)
  have hf2 : f < (swC ns ls cs f (x : Int)).length := by rw [swC_len]; exact hf
  obtain ⟨e3, e4⟩ := swap_eq (x := gi cs (f : Nat)) hp2 hf2 (hbd f hf)
  have hs := swC_self (ns := ns) (ls := ls) hf hne
  rw [if_neg hne] at e2
  rw [ch_back hf hne, swC_len] at e3
  rw [hs, if_neg (Ne.symm hne), sw_back hf hne] at e4
  refine ⟨_, e2, swC_len _ _ _, hp2, hs, e4, by rw [e3, e1], fun i => ?_⟩
  rw [e1, has_bits (chS_lt hf), sw_diff hf hne]
theorem swap_no {cs : List Int} (hp : vAreProper ns ls cs = true) {f x : Nat} (hf : f < cs.length) (hx : x ≤ 5) (he : gi cs (f : Nat) = (x : Int)) : vSwapChain ns ls cs (f : Nat) (x : Nat) = (cs, false) := by
  obtain ⟨_, e2⟩ := swap_eq (x := (x : Int)) hp hf (by omega)
  rw [e2, if_pos he]
theorem chain_has {cs : List Int} (hp : vAreProper ns ls cs = true) {f x : Nat} (hf : f < cs.length) (hx : x ≤ 5) : hsI (vChainOf ns ls cs (f : Nat) (x : Nat)) (f : Int) = true := by
  obtain ⟨e1, _⟩ := swap_eq (x := (x : Int)) hp hf (by omega)
  rw [e1, has_bits (chS_lt hf)]
  exact ch_self
theorem free_all (hw : whole ns ls = true) {cs : List Int} (hp : vAreProper ns ls cs = true) {f : Nat} (hf : f < cs.length) : ∃ l b, vFreeFace ns ls cs (f : Nat) 4 = (l, b) ∧ l.length = cs.length ∧
    (b = true → vAreProper ns ls l = true ∧ gi l (f : Nat) ≠ gi cs (f : Nat) ∧ 0 ≤ gi l (f : Nat) ∧ gi l (f : Nat) ≤ 3) ∧ (b = false → l = cs) := by
  obtain ⟨h1, h2⟩ := free_ok hw hp hf (m := 4) ⟨by omega, by omega⟩
  have e : ((4 : Nat) : Int) = 4 := rfl
  rw [e] at h1 h2
  obtain ⟨l, b, e⟩ : ∃ l b, vFreeFace ns ls cs (f : Nat) 4 = (l, b) := ⟨_, _, rfl⟩
  rw [e] at h1 h2
  cases b with
  | true =>
    obtain ⟨a, b, c, d, g⟩ := h1 rfl
    have g' : gi l (f : Nat) < 4 := g
    exact ⟨l, true, e, a, fun _ => ⟨b, c, d, by omega⟩, fun e => by cases e⟩
  | false =>
    have e2 : l = cs := h2 rfl
    exact ⟨l, false, e, by rw [e2], (fun e => by cases e), fun _ => e2⟩
end
end Go.Proofs.YtdhmjhoaegdfjaaGreat.Pl
