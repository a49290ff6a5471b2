import Derived.Test.YtdcghlklikbfcaaQ1
namespace Go.Proofs.Ytdcghlklikbfcaa.Dt
open Go.RowKit Go.Sort Go.BigFrame
/-! Plain words: the matrix of a window (its first node left out). -/

/-- what lead l puts at row i, column c -/
def oc (l : P2) (i c : Nat) : Int := (if l.1 = (i : Int) + 1 ∧ l.2 = (c : Int) + 1 then 1 else 0) + (if l.2 = (i : Int) + 1 ∧ l.1 = (c : Int) + 1 then 1 else 0)
def dc (l : P2) (i : Nat) : Int := (if l.1 = (i : Int) + 1 then 1 else 0) + (if l.2 = (i : Int) + 1 then 1 else 0)
def lc (l : P2) (i c : Nat) : Int := (if i = c then dc l i else 0) - oc l i c
def lapJ (ls : List P2) (m i c : Nat) : Int := sumN m (fun t => lc (gp ls (t : Nat)) i c)
def lapM (ls : List P2) (i c : Nat) : Int := lapJ ls ls.length i c
/-- the program's way: first the degrees -/
def lapI (ls : List P2) (m i c : Nat) : Int := (if i = c then ((lat ls ((i : Int) + 1) ls.length).length : Int) else 0) - sumN m (fun t => oc (gp ls (t : Nat)) i c)
theorem lat_sum (ls : List P2) (k : Int) : ∀ m, (∀ t, t < m → (gp ls (t : Nat)).1 ≠ (gp ls (t : Nat)).2) → ((lat ls k m).length : Int) = sumN m (fun t => (if (gp ls (t : Nat)).1 = k then 1 else 0) + (if (gp ls (t : Nat)).2 = k then 1 else 0))
  | 0, _ => rfl
  | m + 1, h => by
    have ih := lat_sum ls k m (fun t ht => h t (by omega))
    have hm := h m (by omega)
    show _ = sumN m _ + ((if (gp ls (m : Nat)).1 = k then (1 : Int) else 0) + (if (gp ls (m : Nat)).2 = k then 1 else 0))
    rw [← ih, lat_succ]
    unfold atL
    by_cases h1 : (gp ls (m : Nat)).1 = k
    · have h2 : (gp ls (m : Nat)).2 ≠ k := fun e => hm (by rw [h1, e])
      simp [h1, h2]
    · by_cases h2 : (gp ls (m : Nat)).2 = k
      · simp [h1, h2]
      · simp [h1, h2]
theorem sumN_sub (f g : Nat → Int) (n : Nat) : sumN n (fun i => f i - g i) = sumN n f - sumN n g := by
  have e : (fun i => f i - g i) = fun i => f i + (-1) * g i := by funext i; omega
  rw [e, sumN_add, sumN_mul]
  omega
theorem lapI_all {ls : List P2} (h : ∀ t, t < ls.length → (gp ls (t : Nat)).1 ≠ (gp ls (t : Nat)).2) (i c : Nat) : lapI ls ls.length i c = lapM ls i c := by
  unfold lapI lapM lapJ lc
  rw [sumN_sub]
  congr 1
  by_cases hic : i = c
  · subst hic
    rw [if_pos rfl, lat_sum ls _ _ h]
    exact sumN_congr fun t _ => by rw [if_pos rfl]; rfl
  · rw [if_neg hic]
    exact (sumN_zero fun t _ => if_neg hic).symm
section
variable {N : Nat} {T : Nat → Bool}
def tt (N : Nat) (T : Nat → Bool) (q : Nat) : Int := if 1 ≤ q ∧ q - 1 < N ∧ T (q - 1) = true then 1 else 0
theorem tt_01 (q : Nat) : tt N T q = 0 ∨ tt N T q = 1 := by unfold tt; split <;> omega
theorem pickN (q : Nat) (v : Int) : sT N T (fun c => if (q : Int) = (c : Int) + 1 then v else 0) = tt N T q * v := by
  unfold tt
  by_cases h : 1 ≤ q ∧ q - 1 < N ∧ T (q - 1) = true
  · rw [if_pos h]
    unfold sT
    rw [sumN_one (p := q - 1) h.2.1 (fun i _ hne => by
      split
      · exact if_neg (by omega)
      · rfl), if_pos h.2.2]
    show (if (q : Int) = ((q - 1 : Nat) : Int) + 1 then v else 0) = 1 * v
    rw [if_pos (by omega)]
    omega
  · rw [if_neg h, Int.zero_mul]
    refine sumN_zero fun i hi => ?_
    split
    · rename_i ht
      refine if_neg fun e => h ⟨by omega, by omega, ?_⟩
      rw [show q - 1 = i by omega]
      exact ht
    · rfl
theorem sT_add (f g : Nat → Int) : sT N T (fun i => f i + g i) = sT N T f + sT N T g := by
  have e : (fun i => f i + g i) = fun i => 1 * f i - (-1) * g i := by funext i; omega
  rw [e, sT_lin]
  omega
theorem sT_sub (f g : Nat → Int) : sT N T (fun i => f i - g i) = sT N T f - sT N T g := by
  have e : (fun i => f i - g i) = fun i => 1 * f i - 1 * g i := by funext i; omega
  rw [e, sT_lin]
  omega
theorem sT_swap (F : Nat → Nat → Int) : ∀ m, sT N T (fun c => sumN m (fun t => F t c)) = sumN m (fun t => sT N T (F t))
  | 0 => sumN_zero fun i _ => by split <;> rfl
  | m + 1 => by
    show sT N T (fun c => sumN m (fun t => F t c) + F m c) = sumN m (fun t => sT N T (F t)) + sT N T (F m)
    rw [sT_add, sT_swap F m]
/-- one lead, one row -/
theorem lc_row {p q i : Nat} (hi : i < N) (hT : T i = true) : sT N T (lc ((p : Int), (q : Int)) i) = (if (p : Int) = (i : Int) + 1 then 1 - tt N T q else 0) + (if (q : Int) = (i : Int) + 1 then 1 - tt N T p else 0) := by
  have e1 : sT N T (fun c => if i = c then dc ((p : Int), (q : Int)) i else 0) = dc ((p : Int), (q : Int)) i := by
    unfold sT
    rw [sumN_one (p := i) hi (fun c _ hne => by
      split
      · exact if_neg (by omega)
      · rfl), if_pos hT]
    exact if_pos rfl
  have e2 : sT N T (oc ((p : Int), (q : Int)) i) = (if (p : Int) = (i : Int) + 1 then tt N T q else 0) + (if (q : Int) = (i : Int) + 1 then tt N T p else 0) := by
    have e3 : oc ((p : Int), (q : Int)) i = fun c : Nat => (if (q : Int) = (c : Int) + 1 then (if (p : Int) = (i : Int) + 1 then (1 : Int) else 0) else 0) + (if (p : Int) = (c : Int) + 1 then (if (q : Int) = (i : Int) + 1 then (1 : Int) else 0) else 0) := by
      have e : ∀ (P Q : Prop) [Decidable P] [Decidable Q], (if P ∧ Q then (1 : Int) else 0) = if Q then (if P then 1 else 0) else 0 := fun P Q _ _ => by
        by_cases hP : P <;> by_cases hQ : Q <;> simp [hP, hQ]
      funext c
      unfold oc
      dsimp only
      rw [e, e]
    rw [e3, sT_add, pickN, pickN]
    by_cases h1 : (p : Int) = (i : Int) + 1 <;> by_cases h2 : (q : Int) = (i : Int) + 1 <;> simp [h1, h2]
  have e : lc ((p : Int), (q : Int)) i = fun c => (if i = c then dc ((p : Int), (q : Int)) i else 0) - oc ((p : Int), (q : Int)) i c := rfl
  rw [e, sT_sub, e1, e2]
  unfold dc
  by_cases h1 : (p : Int) = (i : Int) + 1 <;> by_cases h2 : (q : Int) = (i : Int) + 1 <;> simp [h1, h2] <;> omega
theorem lc_all {p q : Nat} : sT N T (fun i => sT N T (lc ((p : Int), (q : Int)) i)) = tt N T p * (1 - tt N T q) + tt N T q * (1 - tt N T p) := by
  rw [sT_congr (g := fun i => (if (p : Int) = (i : Int) + 1 then 1 - tt N T q else 0) + (if (q : Int) = (i : Int) + 1 then 1 - tt N T p else 0)) (fun i hi hT => lc_row hi hT), sT_add, pickN, pickN]
end
theorem sumN_nn {f : Nat → Int} : ∀ {n : Nat}, (∀ i, i < n → 0 ≤ f i) → 0 ≤ sumN n f
  | 0, _ => Int.le_refl _
  | n + 1, h => by
    show 0 ≤ sumN n f + f n
    have h1 := sumN_nn (f := f) (n := n) (fun i hi => h i (by omega))
    have h2 := h n (by omega)
    omega
theorem sumN_pos {f : Nat → Int} : ∀ {n t : Nat}, (∀ i, i < n → 0 ≤ f i) → t < n → 0 < f t → 0 < sumN n f
  | 0, _, _, ht, _ => by omega
  | n + 1, t, h, ht, hp => by
    show 0 < sumN n f + f n
    have h2 := h n (by omega)
    by_cases htn : t = n
    · subst htn
      have h1 := sumN_nn (f := f) (n := t) (fun i hi => h i (by omega))
      omega
    · have := sumN_pos (f := f) (n := n) (fun i hi => h i (by omega)) (show t < n by omega) hp
      omega
theorem lok_nat' {ns : List P2} {l : P2} (h : lok ns l = true) : ∃ a b : Nat, l = ((a : Int), (b : Int)) ∧ a < b ∧ b < ns.length := by
  simp only [lok, Bool.and_eq_true, decide_eq_true_eq] at h
  obtain ⟨⟨⟨⟨⟨h1, h2⟩, h3⟩, _⟩, _⟩, _⟩ := h
  exact ⟨l.1.toNat, l.2.toNat, by ext <;> simp <;> omega, by omega, by omega⟩
theorem whole_cn {ns ls : List P2} (h : whole ns ls = true) {i : Nat} (hi : i < ns.length) : Cn ls 0 i := by
  have hv := vd_of_ok (whole_ok h).1
  simp only [whole, Bool.and_eq_true, decide_eq_true_eq] at h
  have hl := h.2
  unfold partL at hl
  rw [List.length_map] at hl
  have := (filter_all_iff.1 hl) i hi
  rw [decide_eq_true_eq] at this
  exact ((labs_iff hv hi (by omega)).1 this).symm
theorem lap_ok {ns ls : List P2} (h : whole ns ls = true) : Lap (ns.length - 1) 0 (lapM ls) := by
  have hW := (whole_ok h).1
  have hL : ∀ t, t < ls.length → ∃ p q : Nat, gp ls (t : Nat) = ((p : Int), (q : Int)) ∧ p < q ∧ q < ns.length := fun t ht => lok_nat' (hW.ld t ht).1
  have hocS : ∀ l i c, oc l i c = oc l c i := fun l i c => by
    have e : ∀ (P Q : Prop) [Decidable P] [Decidable Q], (if P ∧ Q then (1 : Int) else 0) = if Q ∧ P then 1 else 0 := fun P Q _ _ => by
      by_cases hP : P <;> by_cases hQ : Q <;> simp [hP, hQ]
    unfold oc
    rw [e (l.1 = (i : Int) + 1), e (l.2 = (i : Int) + 1), Int.add_comm]
  refine ⟨fun i j _ _ _ _ => ?_, fun i j _ _ _ _ hij => ?_, fun i _ hi => ?_, fun T hT hne => ?_⟩
  · refine sumN_congr fun t _ => ?_
    unfold lc
    rw [hocS _ i j]
    by_cases hij : i = j
    · subst hij; rfl
    · rw [if_neg hij, if_neg (fun e => hij e.symm)]
  · have : 0 ≤ sumN ls.length (fun t => oc (gp ls (t : Nat)) i j) := sumN_nn fun t _ => by unfold oc; split <;> split <;> omega
    have e : lapM ls i j = sumN ls.length (fun t => 0 - oc (gp ls (t : Nat)) i j) := sumN_congr fun t _ => by unfold lc; rw [if_neg hij]
    rw [e, sumN_sub, sumN_zero (fun _ _ => rfl)]
    omega
  · show 0 ≤ sT _ (Kf 0) (fun c => sumN ls.length (fun t => lc (gp ls (t : Nat)) i c))
    rw [sT_swap (fun t c => lc (gp ls (t : Nat)) i c)]
    refine sumN_nn fun t ht => ?_
    obtain ⟨p, q, e, _, _⟩ := hL t ht
    rw [e, lc_row hi (by unfold Kf; simp)]
    have h1 := tt_01 (N := ns.length - 1) (T := Kf 0) p
    have h2 := tt_01 (N := ns.length - 1) (T := Kf 0) q
    split <;> split <;> omega
  · have e : sT (ns.length - 1) T (fun i => sT (ns.length - 1) T (lapM ls i)) = sumN ls.length (fun t => sT (ns.length - 1) T (fun i => sT (ns.length - 1) T (lc (gp ls (t : Nat)) i))) := by
      rw [← sT_swap]
      exact sT_congr fun i _ _ => sT_swap (fun t c => lc (gp ls (t : Nat)) i c) ls.length
    rw [e]
    have hnn : ∀ t, t < ls.length → 0 ≤ sT (ns.length - 1) T (fun i => sT (ns.length - 1) T (lc (gp ls (t : Nat)) i)) := fun t ht => by
      obtain ⟨p, q, e, _, _⟩ := hL t ht
      rw [e, lc_all]
      rcases tt_01 (N := ns.length - 1) (T := T) p with h1 | h1 <;> rcases tt_01 (N := ns.length - 1) (T := T) q with h2 | h2 <;> rw [h1, h2] <;> decide
    rcases Classical.em (∃ t, t < ls.length ∧ 0 < sT (ns.length - 1) T (fun i => sT (ns.length - 1) T (lc (gp ls (t : Nat)) i))) with ⟨t, ht, hp⟩ | hno
    · exact sumN_pos hnn ht hp
    · exfalso
      have hsame : ∀ p q : Nat, ((p : Int), (q : Int)) ∈ ls → tt (ns.length - 1) T p = tt (ns.length - 1) T q := fun p q hm => by
        obtain ⟨t, ht, e⟩ := List.getElem_of_mem hm
        have e' : gp ls (t : Nat) = ((p : Int), (q : Int)) := by rw [gp_nat ls t ht, e]
        rcases Int.lt_or_le 0 (sT (ns.length - 1) T (fun i => sT (ns.length - 1) T (lc (gp ls (t : Nat)) i))) with h1 | h1
        · exact absurd ⟨t, ht, h1⟩ hno
        · rw [e', lc_all] at h1
          rcases tt_01 (N := ns.length - 1) (T := T) p with h2 | h2 <;> rcases tt_01 (N := ns.length - 1) (T := T) q with h3 | h3 <;> rw [h2, h3] at h1 ⊢ <;> revert h1 <;> decide
      have hz : ∀ x, Cn ls 0 x → tt (ns.length - 1) T x = 0 := fun x hx => by
        induction hx with
        | refl => unfold tt; rw [if_neg (by omega)]
        | fwd _ e ih => rw [← hsame _ _ e]; exact ih
        | bwd _ e ih => rw [hsame _ _ e]; exact ih
      obtain ⟨i, hi⟩ := hne
      have hin := (hT i hi).2
      have := hz (i + 1) (whole_cn h (by omega))
      unfold tt at this
      rw [if_pos ⟨by omega, by omega, by rw [Nat.add_sub_cancel]; exact hi⟩] at this
      omega
theorem lap_sum {ns ls : List P2} (h : whole ns ls = true) : sumN (ns.length - 1) (fun t => lapM ls t t) ≤ 40 := by
  have hW := (whole_ok h).1
  have hm := hW.le
  have e : sumN (ns.length - 1) (fun i => lapM ls i i) = sT (ns.length - 1) (fun _ => true) (fun i => sumN ls.length (fun t => lc (gp ls (t : Nat)) i i)) := sumN_congr fun i _ => by rw [if_pos rfl]; rfl
  rw [e, sT_swap (fun t i => lc (gp ls (t : Nat)) i i)]
  have h2 : sumN ls.length (fun t => sT (ns.length - 1) (fun _ => true) (fun i => lc (gp ls (t : Nat)) i i)) ≤ sumN ls.length (fun _ => 2) := sumN_mono fun t ht => by
    obtain ⟨p, q, e, hpq, _⟩ := lok_nat' (hW.ld t ht).1
    rw [e]
    have e2 : (fun i => lc ((p : Int), (q : Int)) i i) = fun i : Nat => (if (p : Int) = (i : Int) + 1 then (1 : Int) else 0) + (if (q : Int) = (i : Int) + 1 then 1 else 0) := by
      funext i
      have ho : oc ((p : Int), (q : Int)) i i = 0 := by
        show (if (p : Int) = (i : Int) + 1 ∧ (q : Int) = (i : Int) + 1 then (1 : Int) else 0) + (if (q : Int) = (i : Int) + 1 ∧ (p : Int) = (i : Int) + 1 then 1 else 0) = 0
        rw [if_neg (by omega), if_neg (by omega)]
        rfl
      unfold lc
      rw [if_pos rfl, ho, Int.sub_zero]
      rfl
    rw [e2, sT_add, pickN, pickN]
    have h1 := tt_01 (N := ns.length - 1) (T := fun _ => true) p
    have h3 := tt_01 (N := ns.length - 1) (T := fun _ => true) q
    omega
  have h3 : ∀ n, sumN n (fun _ => (2 : Int)) = 2 * n := fun n => by
    induction n with
    | zero => rfl
    | succ n ih => show sumN n _ + 2 = _; rw [ih]; omega
  rw [h3] at h2
  omega
end Go.Proofs.Ytdcghlklikbfcaa.Dt
