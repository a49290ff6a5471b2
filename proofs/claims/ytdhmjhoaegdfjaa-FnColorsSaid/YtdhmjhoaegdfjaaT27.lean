import Derived.Test.YtdhmjhoaegdfjaaT26
import Derived.Test.YtdhmjhoaegdfjaaG13
namespace Go.Proofs.Ytdhmjhoaegdfjaa.Pl
open Go.Proofs.Ytdhmjhoaegdfjaa Go.RowKit Go.Sort Go.BigFrame
/-! What FnColors asks. -/
theorem gcN_stable {N : Nat → Nat} {i : Nat} : ∀ d a, i < a → (gcN N (a + d)).getD i 0 = (gcN N a).getD i 0
  | 0, _, _ => rfl
  | d + 1, a, h => by
    rw [show a + (d + 1) = (a + d) + 1 by omega, gcN_at N (by omega), gcN_stable d a h]
theorem gc_ne {N : Nat → Nat} {F j i : Nat} (hF : F ≤ 64) (hj : j < i) (hi : i < F) (hb : (N i).testBit j = true) : (gcN N F).getD j 0 ≠ (gcN N F).getD i 0 := by
  obtain ⟨d, rfl⟩ : ∃ d, F = (i + 1) + d := ⟨F - (i + 1), by omega⟩
  rw [gcN_stable d (i + 1) (by omega), gcN_stable d (i + 1) (by omega), gcN_at N hj, gcN_last]
  intro e
  have h1 := (gcN_mex N (f := i) (by omega)).1
  rw [← e] at h1
  have := (usd_iff (N := N) (L := gcN N i) (f := i) (n := (gcN N i).getD j 0) i).2 ⟨j, hj, hb, rfl⟩
  rw [this] at h1
  cases h1
/-- the greatest of the first k colors -/
def mostN (G : List Int) : Nat → Int
  | 0 => 0
  | k + 1 => imax (mostN G k) (gi G (k : Nat))
theorem most_ge (G : List Int) : ∀ k : Nat, ∀ i : Nat, i < k → gi G (i : Nat) ≤ mostN G k
  | 0, i, h => by omega
  | k + 1, i, h => by
    have e : mostN G (k + 1) = imax (mostN G k) (gi G (k : Nat)) := rfl
    rw [e]
    unfold imax
    rcases Nat.lt_succ_iff_lt_or_eq.1 h with c | rfl
    · have := most_ge G k i c; omega
    · omega
theorem most_bd {G : List Int} : ∀ k : Nat, (∀ i : Nat, i < k → gi G (i : Nat) ≤ 64) → 0 ≤ mostN G k ∧ mostN G k ≤ 64
  | 0, _ => ⟨Int.le_refl _, by show (0 : Int) ≤ 64; omega⟩
  | k + 1, h => by
    have ih := most_bd k fun i hi => h i (by omega)
    have := h k (by omega)
    have e : mostN G (k + 1) = imax (mostN G k) (gi G (k : Nat)) := rfl
    rw [e]
    unfold imax
    omega
section
variable {ns ls : List P2}
theorem greedy_gi (hw : whole ns ls = true) {i : Nat} (hi : i < (vFaces ns ls).length) : gi (vGreedyColors ns ls) (i : Nat) = ((gcN (nbN ns ls) (vFaces ns ls).length).getD i 0 : Nat) := by
  unfold vGreedyColors
  rw [if_pos hw]
  exact nl_gi _ (by rw [gcN_len]; exact hi)
theorem greedy_len (hw : whole ns ls = true) : (vGreedyColors ns ls).length = (vFaces ns ls).length := by
  unfold vGreedyColors
  rw [if_pos hw, nl_len, gcN_len]
theorem greedy_prp (hw : whole ns ls = true) : Prp ns ls (vGreedyColors ns ls) := by
  intro f g hb
  obtain ⟨h1, h2, h3⟩ := nb_lt hw hb
  have hF := vFaces_len ns ls
  rw [greedy_gi hw h1, greedy_gi hw h2]
  rcases Nat.lt_or_gt_of_ne h3 with c | c
  · have := gc_ne (N := nbN ns ls) (by omega) c h2 (by rw [nbN_sym hw]; exact hb)
    omega
  · have := gc_ne (N := nbN ns ls) (by omega) c h1 hb
    omega
theorem greedy_bd (hw : whole ns ls = true) {i : Nat} (hi : i < (vFaces ns ls).length) : 0 ≤ gi (vGreedyColors ns ls) (i : Nat) ∧ gi (vGreedyColors ns ls) (i : Nat) ≤ 64 := by
  have hF := vFaces_len ns ls
  rw [greedy_gi hw hi]
  have := gcN_le (nbN ns ls) (vFaces ns ls).length (by omega) i hi
  omega
def vMost (ns ls : List P2) : Int := mostN (vGreedyColors ns ls) (vGreedyColors ns ls).length
theorem vMost_bd (hw : whole ns ls = true) (k : Nat) (hk : k ≤ (vGreedyColors ns ls).length) : 0 ≤ mostN (vGreedyColors ns ls) k ∧ mostN (vGreedyColors ns ls) k ≤ 64 :=
  most_bd k fun i hi => (greedy_bd hw (by rw [← greedy_len hw]; omega)).2
/-- greed is not better than the least number, and its colors are proper -/
theorem greedy_ok (hw : whole ns ls = true) {n : Nat} (h4 : n ≤ 4) (hn : ∀ k : Nat, k < n → (vColorWith ns ls k).2 = false) : (n : Int) ≤ vMost ns ls + 1 ∧ (vMost ns ls ≤ 5 → vAreProper ns ls (vGreedyColors ns ls) = true) := by
  have hl := greedy_len (ns := ns) hw
  have hb := vMost_bd hw (vGreedyColors ns ls).length (Nat.le_refl _)
  have hge := most_ge (vGreedyColors ns ls) (vGreedyColors ns ls).length
  refine ⟨?_, fun h5 => (proper_iff hw).2 ⟨⟨hl, fun i hi => ?_⟩, greedy_prp hw⟩⟩
  · apply Classical.byContradiction
    intro hc
    obtain ⟨k, hk⟩ := Int.eq_ofNat_of_zero_le (show 0 ≤ vMost ns ls + 1 by unfold vMost; omega)
    have := hn k (by omega)
    rw [(with_true hw (k := k) (by rw [wi_iff]; unfold vMost at *; omega)).2 ⟨vGreedyColors ns ls, free_fit hl (fun i hi => ?_) (greedy_prp hw)⟩] at this
    · cases this
    · have h1 := greedy_bd hw hi
      have h2 := hge i (by omega)
      unfold vMost at hk
      omega
  · have h1 := greedy_bd hw (i := i) (by omega)
    have h2 := hge i hi
    unfold vMost at h5
    omega
theorem gi_set2 {xs : List Int} {j i : Nat} {c : Int} (hi : i < xs.length) : gi (xs.set j c) (i : Nat) = if i = j then c else gi xs (i : Nat) := by
  rw [gi_nat _ _ (by rw [List.length_set]; exact hi), gi_nat _ _ hi, List.getElem_set]
  by_cases h : i = j
  · rw [if_pos h, if_pos h.symm]
  · rw [if_neg h, if_neg (fun e => h e.symm)]
theorem clash_none {c : List Int} (hp : vAreProper ns ls c = true) : vClashOf ns ls c = -1 := by
  unfold vAreProper at hp
  rw [Bool.and_eq_true, decide_eq_true_eq] at hp
  have h := hp.2
  unfold vClashOf at h ⊢
  rw [if_pos hp.1] at h ⊢
  have := (ffst_lt (p := clP (vSides ns ls) c) (n := ls.length)).2
  omega
theorem sides_eq3 (hw : whole ns ls = true) {k : Nat} (hk : k < ls.length) : vSidesOf ns ls (k : Int) = ((sd (fcs ns ls) (2 * k) : Int), (sd (fcs ns ls) (2 * k + 1) : Int)) := by
  obtain ⟨e1, e2⟩ := vS_gi0 (ns := ns) hw hk
  unfold vSidesOf
  rw [if_pos ⟨hw, wi_iff.2 ⟨by omega, by omega⟩⟩, e1, e2]
/-- a lead's two faces with one color clash -/
theorem clash_ok (hw : whole ns ls = true) {c : List Int} (hc : vAreProper ns ls c = true) {k a b : Nat} (hk : k < ls.length) (ea : sd (fcs ns ls) (2 * k) = a) (eb : sd (fcs ns ls) (2 * k + 1) = b) (hab : a ≠ b) :
    0 ≤ vClashOf ns ls (c.set a (gi c (b : Nat))) ∧ vClashOf ns ls (c.set a (gi c (b : Nat))) ≤ k ∧ vAreProper ns ls (c.set a (gi c (b : Nat))) = false := by
  have h1 := (sd_spec (ns := ns) (ls := ls) (d := 2 * k) (by omega)).1
  have h2 := (sd_spec (ns := ns) (ls := ls) (d := 2 * k + 1) (by omega)).1
  rw [ea, ← vF_eq3 hw] at h1
  rw [eb, ← vF_eq3 hw] at h2
  obtain ⟨⟨hl, hbd⟩, _⟩ := (proper_iff hw).1 hc
  have hok : vColorsOk ns ls (c.set a (gi c (b : Nat))) = true := (colors_iff hw).2 ⟨by rw [List.length_set]; exact hl, fun i hi => by
    rw [List.length_set] at hi
    rw [gi_set2 hi]
    split
    · exact hbd b (by omega)
    · exact hbd i hi⟩
  have hcl : clP (vSides ns ls) (c.set a (gi c (b : Nat))) k = true := by
    obtain ⟨e1, e2⟩ := vS_gi0 (ns := ns) hw hk
    unfold clP
    rw [e1, e2, ea, eb, decide_eq_true (show (a : Int) ≠ (b : Int) by omega), gi_set2 (by omega), if_pos rfl, gi_set2 (by omega), if_neg (Ne.symm hab)]
    simp
  obtain ⟨i, q1, q2, q3, q4⟩ := ffst_spec (p := clP (vSides ns ls) (c.set a (gi c (b : Nat)))) (n := ls.length) ⟨k, hk, hcl⟩
  have hik : i ≤ k := by
    apply Classical.byContradiction
    intro hcn
    have := q4 k (by omega)
    rw [hcl] at this
    cases this
  have hv : vClashOf ns ls (c.set a (gi c (b : Nat))) = (i : Int) := by
    unfold vClashOf
    rw [if_pos hok, q2]
  refine ⟨by omega, by omega, ?_⟩
  unfold vAreProper
  rw [hv, decide_eq_false (by omega), Bool.and_false]
theorem faces_20 (hw : whole ns ls = true) : (vFaces ns ls).length ≤ 20 := by
  have e := euler hw
  obtain ⟨h, hm⟩ := whole_ok hw
  have hle := h.le
  have hk := (h.ld 0 hm).1
  unfold lok at hk
  simp only [Bool.and_eq_true, decide_eq_true_eq] at hk
  rw [vF_eq3 hw]
  omega
theorem cn_word (hw : whole ns ls = true) {wish : List Int} {n : Nat} (hn : n ≤ 4) : wrap64 (cn (nbN ns ls) wish n (vFaces ns ls).length []) = cn (nbN ns ls) wish n (vFaces ns ls).length [] := by
  have h1 := (cn_pos (N := nbN ns ls) (wish := wish) (n := n) (vFaces ns ls).length []).1
  have h2 := cn_le4 (N := nbN ns ls) (wish := wish) hn (vFaces ns ls).length []
  have h3 : (4 : Int) ^ (vFaces ns ls).length ≤ 1099511627776 := by
    have h4 : 4 ^ (vFaces ns ls).length ≤ 4 ^ 20 := Nat.pow_le_pow_right (by omega) (faces_20 hw)
    have h5 : ((4 ^ (vFaces ns ls).length : Nat) : Int) = (4 : Int) ^ (vFaces ns ls).length := by norm_cast
    rw [← h5]
    have h6 : (4 : Nat) ^ 20 = 1099511627776 := by decide
    omega
  unfold wrap64
  omega
theorem count_pos (hw : whole ns ls = true) {n : Nat} (h1 : 1 ≤ n) (h4 : n ≤ 4) : 0 ≤ vCountColorings ns ls (n : Int) ∧ (0 < vCountColorings ns ls (n : Int) ↔ (vColorWith ns ls n).2 = true) := by
  have e : vCountColorings ns ls (n : Int) = cn (nbN ns ls) (List.replicate (vFaces ns ls).length (-1)) n (vFaces ns ls).length [] := by
    unfold vCountColorings
    rw [if_pos ⟨hw, by rw [wi_iff]; omega⟩, Int.toNat_natCast]
    exact cn_word hw h4
  obtain ⟨p1, p2⟩ := cn_pos (N := nbN ns ls) (wish := List.replicate (vFaces ns ls).length (-1)) (n := n) (vFaces ns ls).length []
  rw [e, with_true hw (by rw [wi_iff]; omega)]
  exact ⟨p1, p2.trans (exists_congr fun L => cpl_fit hw)⟩
theorem sample3 : vFewestColors shN0 shL0 = 3 := by decide
end
end Go.Proofs.Ytdhmjhoaegdfjaa.Pl
