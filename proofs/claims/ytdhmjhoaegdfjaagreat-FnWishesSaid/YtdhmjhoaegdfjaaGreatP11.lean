import Derived.Test.YtdhmjhoaegdfjaaGreatP10
namespace Go.Proofs.YtdhmjhoaegdfjaaGreat
open Go.RowKit Go.Sort Go.BigFrame
/-! Plain words: the search through the proper lists of colors. -/
/-- no face beside f among the first j has color x -/
def fitB (N : Nat → Nat) (L : List Int) (f : Nat) (x : Int) : Nat → Bool
  | 0 => true
  | j + 1 => fitB N L f x j && !((N f).testBit j && gi L j == x)
def admB (N : Nat → Nat) (wish h : List Int) (c : Nat) : Bool := !(decide (0 ≤ gi wish (h.length : Nat)) && gi wish (h.length : Nat) != (c : Int)) && fitB N h h.length c h.length
theorem fitB_congr {N : Nat → Nat} {L L' : List Int} {f : Nat} {x : Int} : ∀ j, (∀ i : Nat, i < j → gi L i = gi L' i) → fitB N L f x j = fitB N L' f x j
  | 0, _ => rfl
  | j + 1, h => by
    have ih := fitB_congr (N := N) (f := f) (x := x) j (fun i hi => h i (by omega))
    show (fitB N L f x j && _) = (fitB N L' f x j && _)
    rw [ih, h j (by omega)]
section
variable {σ : Type} (tell : σ → List Int → σ × Bool) (N : Nat → Nat) (wish : List Int) (n : Nat)
def srC (rec : σ → List Int → σ × Bool) (h : List Int) : Nat → σ → σ × Bool
  | 0, s => (s, false)
  | r + 1, s => if admB N wish h (n - (r + 1)) = true then (if (rec s (h ++ [((n - (r + 1) : Nat) : Int)])).2 = true then ((rec s (h ++ [((n - (r + 1) : Nat) : Int)])).1, true) else srC rec h r (rec s (h ++ [((n - (r + 1) : Nat) : Int)])).1) else srC rec h r s
def sr : Nat → σ → List Int → σ × Bool
  | 0, s, h => tell s h
  | d + 1, s, h => srC N wish n (sr d) h n s
variable {tell N wish n}
theorem srC_step {rec : σ → List Int → σ × Bool} {h : List Int} {c : Nat} {s : σ} (hc : c < n) : srC N wish n rec h (n - c) s =
    if admB N wish h c = true then (if (rec s (h ++ [(c : Int)])).2 = true then ((rec s (h ++ [(c : Int)])).1, true) else srC N wish n rec h (n - (c + 1)) (rec s (h ++ [(c : Int)])).1) else srC N wish n rec h (n - (c + 1)) s := by
  obtain ⟨r, hr⟩ : ∃ r, n - c = r + 1 := ⟨n - c - 1, by omega⟩
  have e : n - (r + 1) = c := by omega
  have e2 : n - (c + 1) = r := by omega
  rw [hr, e2]
  show (if admB N wish h (n - (r + 1)) = true then _ else _) = _
  rw [e]
theorem srC_end {rec : σ → List Int → σ × Bool} {h : List Int} {c : Nat} {s : σ} (hc : n ≤ c) : srC N wish n rec h (n - c) s = (s, false) := by
  rw [Nat.sub_eq_zero_of_le hc]
  rfl
end
def tell1 (_ : Option (List Int)) (L : List Int) : Option (List Int) × Bool := (some L, true)
section
variable {N : Nat → Nat} {wish : List Int} {n : Nat}
theorem srC1 {rec : Option (List Int) → List Int → Option (List Int) × Bool} (hr : ∀ s h, rec s h = (if (rec none h).2 = true then (rec none h).1 else s, (rec none h).2)) (h : List Int) : ∀ r s, srC N wish n rec h r s = (if (srC N wish n rec h r none).2 = true then (srC N wish n rec h r none).1 else s, (srC N wish n rec h r none).2)
  | 0, s => by simp [srC]
  | r + 1, s => by
    have ih := srC1 hr h r
    unfold srC
    by_cases h1 : admB N wish h (n - (r + 1)) = true
    · rw [if_pos h1, if_pos h1, hr s]
      by_cases h2 : (rec none (h ++ [((n - (r + 1) : Nat) : Int)])).2 = true
      · simp [h2]
      · have h2' := eq_false_of_ne_true h2
        have h3 : (rec none (h ++ [((n - (r + 1) : Nat) : Int)])).1 = none := by
          have := hr none (h ++ [((n - (r + 1) : Nat) : Int)])
          rw [if_neg h2] at this
          rw [this]
        simp only [h2', Bool.false_eq_true, if_false, h3]
        exact ih s
    · rw [if_neg h1, if_neg h1]
      exact ih s
theorem sr1 : ∀ d s h, sr tell1 N wish n d s h = (if (sr tell1 N wish n d none h).2 = true then (sr tell1 N wish n d none h).1 else s, (sr tell1 N wish n d none h).2)
  | 0, _, _ => rfl
  | d + 1, s, h => srC1 (fun s h => sr1 d s h) h n s
theorem sr1_none {d : Nat} {h : List Int} (hf : (sr tell1 N wish n d none h).2 = false) : (sr tell1 N wish n d none h).1 = none := by
  have := sr1 (N := N) (wish := wish) (n := n) d none h
  rw [hf, if_neg (by decide)] at this
  rw [this]
theorem srC1_len {rec : Option (List Int) → List Int → Option (List Int) × Bool} {d : Nat} (hr : ∀ s h, (rec s h).2 = true → ∃ L, (rec s h).1 = some L ∧ L.length = h.length + d) (h : List Int) : ∀ r s, (srC N wish n rec h r s).2 = true → ∃ L, (srC N wish n rec h r s).1 = some L ∧ L.length = h.length + (d + 1)
  | 0, s => fun e => by cases e
  | r + 1, s => by
    have ih := srC1_len hr h r
    unfold srC
    split
    · split
      · rename_i h2
        intro _
        obtain ⟨L, e1, e2⟩ := hr _ _ h2
        refine ⟨L, e1, ?_⟩
        rw [e2, List.length_append]
        simp
        omega
      · exact ih _
    · exact ih _
theorem sr1_len : ∀ d s h, (sr tell1 N wish n d s h).2 = true → ∃ L, (sr tell1 N wish n d s h).1 = some L ∧ L.length = h.length + d
  | 0, _, h => fun _ => ⟨h, rfl, rfl⟩
  | d + 1, s, h => srC1_len (fun s h => sr1_len d s h) h n s
end
/-- the number of lists, as a machine word -/
def tell2 (s : Int) (_ : List Int) : Int × Bool := (wrap64 (s + 1), false)
section
variable (N : Nat → Nat) (wish : List Int) (n : Nat)
def cnC (rec : List Int → Int) (h : List Int) : Nat → Int
  | 0 => 0
  | r + 1 => (if admB N wish h (n - (r + 1)) = true then rec (h ++ [((n - (r + 1) : Nat) : Int)]) else 0) + cnC rec h r
def cn : Nat → List Int → Int
  | 0, _ => 1
  | d + 1, h => cnC N wish n (cn d) h n
variable {N wish n}
theorem cnC_step {rec : List Int → Int} {h : List Int} {c : Nat} (hc : c < n) : cnC N wish n rec h (n - c) = (if admB N wish h c = true then rec (h ++ [(c : Int)]) else 0) + cnC N wish n rec h (n - (c + 1)) := by
  obtain ⟨r, hr⟩ : ∃ r, n - c = r + 1 := ⟨n - c - 1, by omega⟩
  have e : n - (r + 1) = c := by omega
  have e2 : n - (c + 1) = r := by omega
  rw [hr, e2]
  show (if admB N wish h (n - (r + 1)) = true then _ else _) + _ = _
  rw [e]
theorem cnC_end {rec : List Int → Int} {h : List Int} {c : Nat} (hc : n ≤ c) : cnC N wish n rec h (n - c) = 0 := by
  rw [Nat.sub_eq_zero_of_le hc]
  rfl
theorem wrap64_add (a b : Int) : wrap64 (wrap64 a + b) = wrap64 (a + b) := by unfold wrap64; omega
theorem wrap64_add' (a b : Int) : wrap64 (a + wrap64 b) = wrap64 (a + b) := by unfold wrap64; omega
theorem wrap64_idem (a : Int) : wrap64 (wrap64 a) = wrap64 a := by unfold wrap64; omega
theorem srC2 {rec : Int → List Int → Int × Bool} {rc : List Int → Int} (hr : ∀ s h, rec (wrap64 s) h = (wrap64 (s + rc h), false)) (h : List Int) : ∀ r s, srC N wish n rec h r (wrap64 s) = (wrap64 (s + cnC N wish n rc h r), false)
  | 0, s => by simp [srC, cnC]
  | r + 1, s => by
    have ih := srC2 hr h r
    unfold srC cnC
    split
    · rw [hr]
      simp only [Bool.false_eq_true, if_false]
      rw [ih, Int.add_assoc]
    · rw [ih, Int.zero_add]
theorem sr2 : ∀ d s h, sr tell2 N wish n d (wrap64 s) h = (wrap64 (s + cn N wish n d h), false)
  | 0, s, h => by simp [sr, tell2, cn, wrap64_add]
  | d + 1, s, h => srC2 (fun s h => sr2 d s h) h n s
end
end Go.Proofs.YtdhmjhoaegdfjaaGreat
