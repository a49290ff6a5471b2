import Derived.Test.YtpainmnekgnpeaaP4
namespace Go.Proofs.Ytpainmnekgnpeaa
/-! Plain words: labels. -/
def gi (l : List Int) (i : Int) : Int := l.getD i.toNat 0
theorem gi_nat (l : List Int) (k : Nat) (h : k < l.length) : gi l k = l[k] := by simp [gi, h]
def mrgF (a b x : Int) : Int := if x = imax a b then imin a b else x
def mrg (L : List Int) (l : P2) : List Int := L.map (mrgF (gi L l.1) (gi L l.2))
def ids (n : Nat) : List Int := (List.range n).map (fun i : Nat => (i : Int))
def labs (n : Nat) (ls : List P2) : List Int := ls.foldl mrg (ids n)
theorem ids_length (n : Nat) : (ids n).length = n := by simp [ids]
theorem gi_ids {n i : Nat} (h : i < n) : gi (ids n) i = i := by rw [gi_nat _ _ (by rw [ids_length]; exact h)]; simp [ids]
theorem mrg_length (L : List Int) (l : P2) : (mrg L l).length = L.length := by simp [mrg]
theorem gi_mrg {L : List Int} {l : P2} {i : Nat} (h : i < L.length) : gi (mrg L l) i = mrgF (gi L l.1) (gi L l.2) (gi L i) := by
  rw [gi_nat _ _ (by rw [mrg_length]; exact h), gi_nat _ _ h]
  simp [mrg]
structure LInv (n : Nat) (ms ps : List P2) (L : List Int) : Prop where
  len : L.length = n
  lab : ∀ i : Nat, i < n → ∃ j : Nat, gi L i = j ∧ j ≤ i ∧ Cn ms i j
  eq : ∀ l ∈ ps, gi L l.1 = gi L l.2
theorem LInv.step {n : Nat} {ms ps : List P2} {L : List Int} {l : P2} (h : LInv n ms ps L) (hv : Vd n ms) (hp : ∀ l ∈ ps, l ∈ ms) (hl : l ∈ ms) : LInv n ms (ps ++ [l]) (mrg L l) := by
  obtain ⟨f, t, rfl, hf, ht⟩ := hv l hl
  obtain ⟨a, ha, haf, hca⟩ := h.lab f hf
  obtain ⟨b, hb, hbt, hcb⟩ := h.lab t ht
  have hab : Cn ms a b := hca.symm.trans ((Cn.refl.fwd hl).trans hcb)
  have hg : ∀ i : Nat, i < n → gi (mrg L ((f : Int), (t : Int))) i = mrgF a b (gi L i) := fun i hi => by rw [gi_mrg (by rw [h.len]; exact hi)]; rw [ha, hb]
  refine ⟨by rw [mrg_length]; exact h.len, fun i hi => ?_, fun m hm => ?_⟩
  · obtain ⟨j, hj, hji, hcj⟩ := h.lab i hi
    rw [hg i hi, hj]
    unfold mrgF imax imin
    by_cases hc : (j : Int) = max (a : Int) b
    · rw [if_pos hc]
      rcases Nat.le_total a b with hle | hle
      · have e : j = b := by rw [Int.max_eq_right (by omega)] at hc; omega
        subst e
        exact ⟨a, by rw [Int.min_eq_left (by omega)], by omega, hcj.trans hab.symm⟩
      · have e : j = a := by rw [Int.max_eq_left (by omega)] at hc; omega
        subst e
        exact ⟨b, by rw [Int.min_eq_right (by omega)], by omega, hcj.trans hab⟩
    · rw [if_neg hc]
      exact ⟨j, rfl, hji, hcj⟩
  · rcases List.mem_append.1 hm with hm | hm
    · obtain ⟨f', t', rfl, hf', ht'⟩ := hv m (hp m hm)
      have := h.eq _ hm
      simp only at this ⊢
      rw [hg f' hf', hg t' ht', this]
    · rw [List.mem_singleton] at hm
      subst hm
      simp only
      rw [hg f hf, hg t ht, ha, hb]
      unfold mrgF imax imin
      rcases Nat.le_total a b with hle | hle
      · rw [Int.max_eq_right (by omega), Int.min_eq_left (by omega)]; split <;> split <;> omega
      · rw [Int.max_eq_left (by omega), Int.min_eq_right (by omega)]; split <;> split <;> omega
theorem linv_fold {n : Nat} {ms : List P2} (hv : Vd n ms) : ∀ (qs ps : List P2) (L : List Int), LInv n ms ps L → (∀ l ∈ ps, l ∈ ms) → (∀ l ∈ qs, l ∈ ms) → LInv n ms (ps ++ qs) (qs.foldl mrg L)
  | [], ps, L, h, _, _ => by simpa using h
  | q :: t, ps, L, h, hp, hq => by
    have h1 := h.step hv hp (hq q (List.mem_cons_self ..))
    have := linv_fold hv t (ps ++ [q]) (mrg L q) h1 (by
      intro l hl
      rcases List.mem_append.1 hl with hl | hl
      · exact hp l hl
      · rw [List.mem_singleton] at hl; subst hl; exact hq _ (List.mem_cons_self ..)) (fun l hl => hq l (List.mem_cons_of_mem _ hl))
    simpa [labs] using this
theorem linv_ids (n : Nat) (ms : List P2) : LInv n ms [] (ids n) := ⟨ids_length n, fun i hi => ⟨i, gi_ids hi, Nat.le_refl _, .refl⟩, fun l hl => by cases hl⟩
theorem linv {n : Nat} {ls : List P2} (hv : Vd n ls) : LInv n ls ls (labs n ls) := by
  have := linv_fold hv ls [] (ids n) (linv_ids n ls) (fun l hl => by cases hl) (fun l hl => hl)
  simpa [labs] using this
/-- the first leads: labels are small -/
theorem linv_take {n : Nat} {ls : List P2} (hv : Vd n ls) (k : Nat) : LInv n ls (ls.take k) (labs n (ls.take k)) := by
  have := linv_fold hv (ls.take k) [] (ids n) (linv_ids n ls) (fun l hl => by cases hl) (fun l hl => List.mem_of_mem_take hl)
  simpa [labs] using this
theorem LInv.of_cn {n : Nat} {ls : List P2} {L : List Int} (h : LInv n ls ls L) {i j : Nat} (hc : Cn ls i j) : gi L i = gi L j := by
  induction hc with
  | refl => rfl
  | fwd _ e ih => rw [ih]; exact h.eq _ e
  | bwd _ e ih => rw [ih]; exact (h.eq _ e).symm
theorem labs_iff {n : Nat} {ls : List P2} (hv : Vd n ls) {i j : Nat} (hi : i < n) (hj : j < n) : gi (labs n ls) i = gi (labs n ls) j ↔ Cn ls i j := by
  refine ⟨fun h => ?_, (linv hv).of_cn⟩
  obtain ⟨a, ha, _, hca⟩ := (linv hv).lab i hi
  obtain ⟨b, hb, _, hcb⟩ := (linv hv).lab j hj
  obtain rfl : a = b := by rw [ha, hb] at h; omega
  exact hca.trans hcb.symm
/-- the part of k, as ascending numbers -/
def partL (n : Nat) (ls : List P2) (k : Nat) : List Int := ((List.range n).filter (fun i => decide (gi (labs n ls) (i : Nat) = gi (labs n ls) k))).map (fun i : Nat => (i : Int))
theorem partL_bits {n : Nat} {ls : List P2} (hv : Vd n ls) {k : Nat} (hk : k < n) : ((List.range n).filter ((partS n ls k).testBit ·)).map (fun i : Nat => (i : Int)) = partL n ls k := by
  unfold partL
  congr 1
  apply List.filter_congr
  intro i hi
  rw [List.mem_range] at hi
  rw [Bool.eq_iff_iff, partS_iff hv hk, decide_eq_true_eq, labs_iff hv hi hk]
  exact ⟨Cn.symm, Cn.symm⟩
theorem filt_bits {S a b : Nat} (ha : S < 2 ^ a) (hb : S < 2 ^ b) : (List.range a).filter (S.testBit ·) = (List.range b).filter (S.testBit ·) := by
  have key : ∀ a d, S < 2 ^ a → (List.range (a + d)).filter (S.testBit ·) = (List.range a).filter (S.testBit ·) := by
    intro a d h
    induction d with
    | zero => rfl
    | succ d ih =>
      rw [show a + (d + 1) = (a + d) + 1 by omega, List.range_succ, List.filter_append, ih]
      have : S.testBit (a + d) = false := Nat.testBit_lt_two_pow (Nat.lt_of_lt_of_le h (Nat.pow_le_pow_right (by omega) (by omega)))
      simp [this]
  rcases Nat.le_total a b with h | h
  · have := key a (b - a) ha
    rw [show a + (b - a) = b by omega] at this
    exact this.symm
  · have := key b (a - b) hb
    rwa [show b + (a - b) = a by omega] at this
theorem filter_head {p : Nat → Bool} : ∀ {n k : Nat}, k < n → p k = true → (∀ j, j < k → p j = false) → ((List.range n).filter p).head? = some k
  | n + 1, k, hk, hp, hn => by
    rw [List.range_succ, List.filter_append]
    rcases Nat.lt_or_ge k n with h | h
    · rw [List.head?_append, filter_head h hp hn]; rfl
    · obtain rfl : k = n := by omega
      have : (List.range k).filter p = [] := by
        rw [List.filter_eq_nil_iff]
        intro j hj
        rw [hn j (List.mem_range.1 hj)]; simp
      rw [this]; simp [hp]
/-- the first of k's part is its label -/
theorem partL_head {n : Nat} {ls : List P2} (hv : Vd n ls) {k : Nat} (hk : k < n) : (partL n ls k).head? = some (gi (labs n ls) k) := by
  obtain ⟨j, hj, hjk, hc⟩ := (linv hv).lab k hk
  have h1 : gi (labs n ls) j = gi (labs n ls) k := ((labs_iff hv hk (by omega)).2 hc).symm
  unfold partL
  rw [List.head?_map, filter_head (k := j) (by omega) (by simp [h1]) ?_]
  · rw [hj]; rfl
  · intro i hi
    rw [decide_eq_false_iff_not]
    intro e
    obtain ⟨m, hm, hmi, _⟩ := (linv hv).lab i (by omega)
    rw [hm, hj] at e
    omega
theorem partL_ne {n : Nat} {ls : List P2} (hv : Vd n ls) {k : Nat} (hk : k < n) : partL n ls k ≠ [] := by
  intro h; have := partL_head hv hk; rw [h] at this; cases this
theorem partL_len (n : Nat) (ls : List P2) (k : Nat) : (partL n ls k).length ≤ n := by
  unfold partL
  rw [List.length_map]
  have := List.length_filter_le (fun i => decide (gi (labs n ls) (i : Nat) = gi (labs n ls) k)) (List.range n)
  rwa [List.length_range] at this
/-- how many parts -/
def nparts (n : Nat) (ls : List P2) (k : Nat) : Nat := (List.range k).countP (fun i => decide (gi (labs n ls) (i : Nat) = (i : Nat)))
theorem nparts_le (n : Nat) (ls : List P2) (k : Nat) : nparts n ls k ≤ k := by
  unfold nparts
  have := List.countP_le_length (p := fun i : Nat => decide (gi (labs n ls) (i : Nat) = (i : Nat))) (l := List.range k)
  rwa [List.length_range] at this
theorem nparts_succ (n : Nat) (ls : List P2) (k : Nat) : nparts n ls (k + 1) = nparts n ls k + if gi (labs n ls) k = k then 1 else 0 := by
  unfold nparts
  rw [List.range_succ, List.countP_append]
  simp [List.countP_cons]
theorem vd_of_ok {ns ls : List P2} (h : WOk ns ls) : Vd ns.length ls := by
  intro l hl
  obtain ⟨i, hi, rfl⟩ := List.getElem_of_mem hl
  have := (h.ld i hi).1
  rw [gp_nat ls i hi] at this
  obtain ⟨a, b, h1, h2, _, h4, h5, _⟩ := lok_spec (p := (ls[i]).1) (q := (ls[i]).2) this
  exact ⟨a, b, by rw [← h1, ← h2], h4, h5⟩
end Go.Proofs.Ytpainmnekgnpeaa
