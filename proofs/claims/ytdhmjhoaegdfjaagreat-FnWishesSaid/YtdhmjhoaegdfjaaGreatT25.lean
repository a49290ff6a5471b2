import Derived.Test.YtdhmjhoaegdfjaaGreatP11
namespace Go.Proofs.YtdhmjhoaegdfjaaGreat.Pl
open Go.Proofs.YtdhmjhoaegdfjaaGreat
/-! What the search through the lists of colors finds. -/
/-- L goes on from h by d places, each of them admissible -/
structure Cpl (N : Nat → Nat) (wish : List Int) (n : Nat) (h : List Int) (d : Nat) (L : List Int) : Prop where
  len : L.length = h.length + d
  pre : L.take h.length = h
  adm : ∀ i, h.length ≤ i → i < L.length → ∃ c : Nat, c < n ∧ gi L (i : Nat) = (c : Int) ∧ admB N wish (L.take i) c = true
section
variable {N : Nat → Nat} {wish : List Int} {n : Nat} {h : List Int} {d : Nat} {L : List Int}
theorem cpl_zero : Cpl N wish n h 0 L ↔ L = h := by
  constructor
  · intro hc
    have := hc.pre
    rwa [List.take_of_length_le (by rw [hc.len]; omega)] at this
  · rintro rfl
    exact ⟨rfl, List.take_of_length_le (Nat.le_refl _), fun i h1 h2 => by omega⟩
theorem cpl_succ : Cpl N wish n h (d + 1) L ↔ ∃ c : Nat, c < n ∧ admB N wish h c = true ∧ Cpl N wish n (h ++ [(c : Int)]) d L := by
  constructor
  · intro hc
    have hl := hc.len
    obtain ⟨c, h1, h2, h3⟩ := hc.adm h.length (Nat.le_refl _) (by omega)
    rw [hc.pre] at h3
    refine ⟨c, h1, h3, by simp; omega, ?_, fun i h4 h5 => hc.adm i (by simp at h4; omega) h5⟩
    rw [List.length_append, List.length_singleton, List.take_succ_eq_append_getElem (by omega), hc.pre]
    rw [gi_nat _ _ (by omega)] at h2
    rw [h2]
  · rintro ⟨c, h1, h2, hc⟩
    have hl := hc.len
    have hp := hc.pre
    rw [List.length_append, List.length_singleton] at hl hp
    have hp2 : L.take h.length = h := by
      have := congrArg (List.take h.length) hp
      rwa [List.take_take, Nat.min_eq_left (by omega), List.take_append_of_le_length (Nat.le_refl _), List.take_of_length_le (Nat.le_refl _)] at this
    refine ⟨by omega, hp2, fun i h4 h5 => ?_⟩
    rcases Nat.eq_or_lt_of_le h4 with e | e
    · subst e
      refine ⟨c, h1, ?_, by rw [hp2]; exact h2⟩
      rw [gi_nat _ _ h5]
      rw [List.take_succ_eq_append_getElem (by omega), hp2] at hp
      have := List.append_cancel_left hp
      simpa using this
    · exact hc.adm i (by rw [List.length_append, List.length_singleton]; omega) h5
theorem srC_true {rec : Option (List Int) → List Int → Option (List Int) × Bool} (hr : ∀ s h, (rec s h).2 = true ↔ ∃ L, Cpl N wish n h d L) (h : List Int) : ∀ r s, r ≤ n →
    ((srC N wish n rec h r s).2 = true ↔ ∃ c : Nat, n - r ≤ c ∧ c < n ∧ admB N wish h c = true ∧ ∃ L, Cpl N wish n (h ++ [(c : Int)]) d L)
  | 0, s, hn => by
    constructor
    · intro e; cases e
    · rintro ⟨c, h1, h2, _⟩; omega
  | r + 1, s, hn => by
    have hs : ∀ c, n - (r + 1) ≤ c ↔ c = n - (r + 1) ∨ n - r ≤ c := fun c => by omega
    unfold srC
    by_cases c1 : admB N wish h (n - (r + 1)) = true
    · rw [if_pos c1]
      by_cases c2 : (rec s (h ++ [((n - (r + 1) : Nat) : Int)])).2 = true
      · rw [if_pos c2]
        exact ⟨fun _ => ⟨n - (r + 1), Nat.le_refl _, by omega, c1, (hr _ _).1 c2⟩, fun _ => rfl⟩
      · rw [if_neg c2, srC_true hr h r _ (by omega)]
        constructor
        · rintro ⟨c, h1, h2⟩; exact ⟨c, by omega, h2⟩
        · rintro ⟨c, h1, h2, h3, h4⟩
          rcases (hs c).1 h1 with e | e
          · subst e; exact absurd ((hr _ _).2 h4) c2
          · exact ⟨c, e, h2, h3, h4⟩
    · rw [if_neg c1, srC_true hr h r _ (by omega)]
      constructor
      · rintro ⟨c, h1, h2⟩; exact ⟨c, by omega, h2⟩
      · rintro ⟨c, h1, h2, h3, h4⟩
        rcases (hs c).1 h1 with e | e
        · subst e; exact absurd h3 c1
        · exact ⟨c, e, h2, h3, h4⟩
/-- the search finds a list where there is one -/
theorem sr_true : ∀ d s h, (sr tell1 N wish n d s h).2 = true ↔ ∃ L, Cpl N wish n h d L
  | 0, s, h => ⟨fun _ => ⟨h, cpl_zero.2 rfl⟩, fun _ => rfl⟩
  | d + 1, s, h => by
    have := srC_true (fun s h => sr_true d s h) h n s (Nat.le_refl _)
    refine this.trans ?_
    constructor
    · rintro ⟨c, _, h2, h3, L, h4⟩; exact ⟨L, cpl_succ.2 ⟨c, h2, h3, h4⟩⟩
    · rintro ⟨L, h1⟩
      obtain ⟨c, h2, h3, h4⟩ := cpl_succ.1 h1
      exact ⟨c, by omega, h2, h3, L, h4⟩
theorem srC_cpl {rec : Option (List Int) → List Int → Option (List Int) × Bool} (hr : ∀ s h, (rec s h).2 = true → ∃ L, (rec s h).1 = some L ∧ Cpl N wish n h d L) (h : List Int) : ∀ r s, r ≤ n →
    (srC N wish n rec h r s).2 = true → ∃ L, (srC N wish n rec h r s).1 = some L ∧ Cpl N wish n h (d + 1) L
  | 0, _, hn => fun e => by cases e
  | r + 1, s, hn => by
    unfold srC
    by_cases c1 : admB N wish h (n - (r + 1)) = true
    · rw [if_pos c1]
      by_cases c2 : (rec s (h ++ [((n - (r + 1) : Nat) : Int)])).2 = true
      · rw [if_pos c2]
        intro _
        obtain ⟨L, e1, e2⟩ := hr _ _ c2
        exact ⟨L, e1, cpl_succ.2 ⟨_, by omega, c1, e2⟩⟩
      · rw [if_neg c2]
        exact srC_cpl hr h r _ (by omega)
    · rw [if_neg c1]
      exact srC_cpl hr h r _ (by omega)
theorem sr_cpl : ∀ d s h, (sr tell1 N wish n d s h).2 = true → ∃ L, (sr tell1 N wish n d s h).1 = some L ∧ Cpl N wish n h d L
  | 0, _, h => fun _ => ⟨h, rfl, cpl_zero.2 rfl⟩
  | d + 1, s, h => srC_cpl (fun s h => sr_cpl d s h) h n s (Nat.le_refl _)
/-- where a list begins with 0, the search finds such a one -/
theorem sr_zero {s : Option (List Int)} (hn : 0 < n) (ha : admB N wish h 0 = true) (he : ∃ L, Cpl N wish n (h ++ [0]) d L) : ∃ L, (sr tell1 N wish n (d + 1) s h).1 = some L ∧ Cpl N wish n (h ++ [0]) d L := by
  obtain ⟨r, rfl⟩ : ∃ r, n = r + 1 := ⟨n - 1, by omega⟩
  have e0 : ((r + 1 - (r + 1) : Nat) : Int) = 0 := by omega
  have h1 : (sr tell1 N wish (r + 1) d s (h ++ [0])).2 = true := (sr_true d s _).2 he
  obtain ⟨L, e1, e2⟩ := sr_cpl d s _ h1
  refine ⟨L, ?_, e2⟩
  show (srC N wish (r + 1) (sr tell1 N wish (r + 1) d) h (r + 1) s).1 = some L
  unfold srC
  rw [e0, h1, e1, Nat.sub_self, if_pos ha, if_pos rfl]
theorem cnC_pos {rec : List Int → Int} (hr : ∀ h, 0 ≤ rec h ∧ (0 < rec h ↔ ∃ L, Cpl N wish n h d L)) (h : List Int) : ∀ r, r ≤ n →
    0 ≤ cnC N wish n rec h r ∧ (0 < cnC N wish n rec h r ↔ ∃ c : Nat, n - r ≤ c ∧ c < n ∧ admB N wish h c = true ∧ ∃ L, Cpl N wish n (h ++ [(c : Int)]) d L)
  | 0, hn => by
    refine ⟨Int.le_refl _, fun e => ?_, ?_⟩
    · exact absurd e (Int.lt_irrefl 0)
    · rintro ⟨c, h1, h2, _⟩; omega
  | r + 1, hn => by
    have hs : ∀ c, n - (r + 1) ≤ c ↔ c = n - (r + 1) ∨ n - r ≤ c := fun c => by omega
    obtain ⟨i1, i2⟩ := cnC_pos hr h r (by omega)
    obtain ⟨j1, j2⟩ := hr (h ++ [((n - (r + 1) : Nat) : Int)])
    unfold cnC
    by_cases c1 : admB N wish h (n - (r + 1)) = true
    · rw [if_pos c1]
      refine ⟨by omega, ?_⟩
      constructor
      · intro hp
        by_cases c2 : 0 < rec (h ++ [((n - (r + 1) : Nat) : Int)])
        · exact ⟨n - (r + 1), Nat.le_refl _, by omega, c1, j2.1 c2⟩
        · obtain ⟨c, h1, h2⟩ := i2.1 (by omega)
          exact ⟨c, by omega, h2⟩
      · rintro ⟨c, h1, h2, h3, h4⟩
        rcases (hs c).1 h1 with e | e
        · subst e
          have := j2.2 h4
          omega
        · have := i2.2 ⟨c, e, h2, h3, h4⟩
          omega
    · rw [if_neg c1]
      refine ⟨by omega, ?_⟩
      rw [Int.zero_add, i2]
      constructor
      · rintro ⟨c, h1, h2⟩; exact ⟨c, by omega, h2⟩
      · rintro ⟨c, h1, h2, h3, h4⟩
        rcases (hs c).1 h1 with e | e
        · subst e; exact absurd h3 c1
        · exact ⟨c, e, h2, h3, h4⟩
/-- the count of the lists is above 0 where there is one -/
theorem cn_pos : ∀ d h, 0 ≤ cn N wish n d h ∧ (0 < cn N wish n d h ↔ ∃ L, Cpl N wish n h d L)
  | 0, h => ⟨by show (0 : Int) ≤ 1; omega, fun _ => ⟨h, cpl_zero.2 rfl⟩, fun _ => by show (0 : Int) < 1; omega⟩
  | d + 1, h => by
    obtain ⟨h1, h2⟩ := cnC_pos (fun h => cn_pos d h) h n (Nat.le_refl _)
    refine ⟨h1, h2.trans ?_⟩
    constructor
    · rintro ⟨c, _, h2, h3, L, h4⟩; exact ⟨L, cpl_succ.2 ⟨c, h2, h3, h4⟩⟩
    · rintro ⟨L, h1⟩
      obtain ⟨c, h2, h3, h4⟩ := cpl_succ.1 h1
      exact ⟨c, by omega, h2, h3, L, h4⟩
theorem cnC_le {rec : List Int → Int} {b : Int} (hb : 0 ≤ b) (hr : ∀ h, rec h ≤ b) (h : List Int) : ∀ r, cnC N wish n rec h r ≤ r * b
  | 0 => by show (0 : Int) ≤ _; omega
  | r + 1 => by
    have ih := cnC_le hb hr h r
    have := hr (h ++ [((n - (r + 1) : Nat) : Int)])
    have e : ((r + 1 : Nat) : Int) * b = b + r * b := by rw [Int.natCast_succ, Int.add_mul]; omega
    rw [e]
    unfold cnC
    split <;> omega
theorem cn_le4 (hn : n ≤ 4) : ∀ d h, cn N wish n d h ≤ 4 ^ d
  | 0, h => by show (1 : Int) ≤ _; simp
  | d + 1, h => by
    have hp : (0 : Int) ≤ 4 ^ d := Int.pow_nonneg (by decide)
    have := cnC_le hp (fun h => cn_le4 hn d h) h n (N := N) (wish := wish) (n := n)
    have e : ((n : Nat) : Int) * 4 ^ d ≤ 4 * 4 ^ d := Int.mul_le_mul_of_nonneg_right (by omega) hp
    show cnC N wish n (cn N wish n d) h n ≤ 4 ^ (d + 1)
    rw [Int.pow_succ]
    omega
theorem fitB_iff {x : Int} {f : Nat} : ∀ k, fitB N L f x k = true ↔ ∀ j : Nat, j < k → (N f).testBit j = true → gi L (j : Nat) ≠ x
  | 0 => ⟨fun _ j h => by omega, fun _ => rfl⟩
  | k + 1 => by
    have ih := fitB_iff (x := x) (f := f) k
    unfold fitB
    rw [Bool.and_eq_true, ih]
    constructor
    · rintro ⟨h1, h2⟩ j hj hb
      rcases Nat.lt_succ_iff_lt_or_eq.1 hj with g | rfl
      · exact h1 j g hb
      · intro e
        rw [hb, e] at h2
        simp at h2
    · intro h1
      refine ⟨fun j hj => h1 j (by omega), ?_⟩
      cases hb : (N f).testBit k with
      | false => rfl
      | true =>
        have := h1 k (by omega) hb
        simp [this]
theorem gi_take2 {i j : Nat} (hj : j < i) (hi : i ≤ L.length) : gi (L.take i) (j : Nat) = gi L (j : Nat) := by
  rw [gi_nat _ _ (by rw [List.length_take]; omega), gi_nat _ _ (by omega), List.getElem_take]
/-- complete lists -/
theorem cpl_iff {F : Nat} : Cpl N wish n [] F L ↔ L.length = F ∧ ∀ i, i < F → ∃ c : Nat, c < n ∧ gi L (i : Nat) = (c : Int) ∧ (0 ≤ gi wish (i : Nat) → gi wish (i : Nat) = (c : Int)) ∧ ∀ j : Nat, j < i → (N i).testBit j = true → gi L (j : Nat) ≠ (c : Int) := by
  have key : ∀ i c : Nat, i < L.length → (admB N wish (L.take i) c = true ↔ (0 ≤ gi wish (i : Nat) → gi wish (i : Nat) = (c : Int)) ∧ ∀ j : Nat, j < i → (N i).testBit j = true → gi L (j : Nat) ≠ (c : Int)) := by
    intro i c hi
    have hl : (L.take i).length = i := by rw [List.length_take]; omega
    unfold admB
    rw [hl, Bool.and_eq_true, fitB_iff]
    refine and_congr ?_ ?_
    · by_cases c1 : 0 ≤ gi wish (i : Nat)
      · rw [decide_eq_true c1, Bool.true_and]
        simp [c1]
      · rw [decide_eq_false c1]
        simp [c1]
    · constructor
      · intro h1 j hj hb
        rw [← gi_take2 hj (by omega)]
        exact h1 j hj hb
      · intro h1 j hj hb
        rw [gi_take2 hj (by omega)]
        exact h1 j hj hb
  constructor
  · intro hc
    have hl := hc.len
    rw [List.length_nil, Nat.zero_add] at hl
    refine ⟨hl, fun i hi => ?_⟩
    obtain ⟨c, h1, h2, h3⟩ := hc.adm i (Nat.zero_le _) (by omega)
    exact ⟨c, h1, h2, (key i c (by omega)).1 h3⟩
  · rintro ⟨hl, hc⟩
    refine ⟨by rw [List.length_nil]; omega, rfl, fun i _ hi => ?_⟩
    obtain ⟨c, h1, h2, h3⟩ := hc i (by omega)
    exact ⟨c, h1, h2, (key i c hi).2 h3⟩
end
end Go.Proofs.YtdhmjhoaegdfjaaGreat.Pl
