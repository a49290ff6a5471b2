import Derived.Test.YtpainmnekgnpeaaP5
namespace Go.Proofs.Ytpainmnekgnpeaa
/-! Plain words: groups, and trees. -/
/-- put the groups of x and y together -/
def joinF (u v z : Int) : Int := if z = v then u else z
def joinG (G : List Int) (x y : Int) : List Int := G.map (joinF (gi G x) (gi G y))
theorem joinG_len (G : List Int) (x y : Int) : (joinG G x y).length = G.length := by simp [joinG]
theorem joinG_same {G : List Int} {x y : Int} (h : gi G x = gi G y) : joinG G x y = G := by
  unfold joinG
  rw [h]
  have : joinF (gi G y) (gi G y) = id := by
    funext z
    unfold joinF
    split
    · rename_i e; exact e.symm
    · rfl
  rw [this, List.map_id]
/-- the groups behind the first j of the pairs -/
def grp (n : Nat) (ls : List P2) : Nat → List Int
  | 0 => ids n
  | j + 1 => joinG (grp n ls j) (gp ls j).1 (gp ls j).2
theorem grp_len (n : Nat) (ls : List P2) : ∀ j, (grp n ls j).length = n
  | 0 => ids_length n
  | j + 1 => by unfold grp; rw [joinG_len, grp_len n ls j]
/-- does pair i join two groups -/
def joins (n : Nat) (ls : List P2) (i : Nat) : Bool := gi (grp n ls i) (gp ls i).1 != gi (grp n ls i) (gp ls i).2
theorem gi_joinG {G : List Int} {x y : Int} {i : Nat} (h : i < G.length) : gi (joinG G x y) i = joinF (gi G x) (gi G y) (gi G i) := by
  rw [gi_nat _ _ (by rw [joinG_len]; exact h), gi_nat _ _ h]
  simp [joinG]
/-- the groups tell what hangs together -/
structure GInv (n : Nat) (ms : List P2) (j : Nat) : Prop where
  lab : ∀ i : Nat, i < n → ∃ k : Nat, gi (grp n ms j) i = k ∧ k < n ∧ Cn ms i k
  eq : ∀ i, i < j → gi (grp n ms j) (gp ms i).1 = gi (grp n ms j) (gp ms i).2
theorem ginv {n : Nat} {ms : List P2} (hv : Vd n ms) : ∀ j, j ≤ ms.length → GInv n ms j
  | 0, _ => ⟨fun i hi => ⟨i, gi_ids hi, hi, .refl⟩, fun i hi => by omega⟩
  | j + 1, hj => by
    have ih := ginv hv j (by omega)
    have hmem : gp ms j ∈ ms := by rw [gp_nat ms j (by omega)]; exact List.getElem_mem _
    obtain ⟨f, t, e, hf, ht⟩ := hv _ hmem
    have hl := grp_len n ms j
    obtain ⟨a, ha, han, hca⟩ := ih.lab f hf
    obtain ⟨b, hb, hbn, hcb⟩ := ih.lab t ht
    rw [e] at hmem
    have hab : Cn ms b a := hcb.symm.trans ((Cn.trans (Cn.fwd .refl hmem).symm hca))
    have hg : ∀ i : Nat, i < n → gi (grp n ms (j + 1)) i = joinF (a : Int) (b : Int) (gi (grp n ms j) i) := by
      intro i hi
      show gi (joinG (grp n ms j) (gp ms j).1 (gp ms j).2) i = _
      rw [gi_joinG (by rw [hl]; exact hi), e, ha, hb]
    refine ⟨fun i hi => ?_, fun i hi => ?_⟩
    · obtain ⟨k, hk, hkn, hck⟩ := ih.lab i hi
      rw [hg i hi, hk]
      unfold joinF
      split
      · rename_i h
        have : k = b := by omega
        subst this
        exact ⟨a, rfl, han, hck.trans hab⟩
      · exact ⟨k, rfl, hkn, hck⟩
    · obtain ⟨f', t', e', hf', ht'⟩ := hv (gp ms i) (by rw [gp_nat ms i (by omega)]; exact List.getElem_mem _)
      rw [e']
      show gi (grp n ms (j + 1)) (f' : Int) = gi (grp n ms (j + 1)) (t' : Int)
      rw [hg f' hf', hg t' ht']
      rcases Nat.lt_succ_iff_lt_or_eq.1 hi with h | h
      · have := ih.eq i h
        rw [e'] at this
        rw [show gi (grp n ms j) (f' : Int) = gi (grp n ms j) (t' : Int) from this]
      · subst h
        rw [e] at e'
        injection e' with e1 e2
        obtain rfl : f = f' := by omega
        obtain rfl : t = t' := by omega
        rw [ha, hb]
        unfold joinF
        split <;> simp_all
theorem ginv_iff {n : Nat} {ms : List P2} (hv : Vd n ms) {i k : Nat} (hi : i < n) (hk : k < n) : gi (grp n ms ms.length) i = gi (grp n ms ms.length) k ↔ Cn ms i k := by
  have h := ginv hv ms.length (Nat.le_refl _)
  have key : ∀ {a b : Nat}, ((a : Int), (b : Int)) ∈ ms → gi (grp n ms ms.length) a = gi (grp n ms ms.length) b := by
    intro a b hm
    obtain ⟨q, hq, e⟩ := List.getElem_of_mem hm
    have := h.eq q hq
    rw [gp_nat ms q hq, e] at this
    exact this
  constructor
  · intro e
    obtain ⟨a, ha, _, hca⟩ := h.lab i hi
    obtain ⟨b, hb, _, hcb⟩ := h.lab k hk
    have : a = b := by omega
    subst this
    exact hca.trans hcb.symm
  · intro hc
    induction hc with
    | refl => rfl
    | fwd hc' hm ih => exact (ih (hc'.lt hv hi)).trans (key hm)
    | bwd hc' hm ih => exact (ih (hc'.lt hv hi)).trans (key hm).symm

/-! how many groups there are -/
def nlab (n : Nat) (G : List Int) : Nat := (List.range n).countP (fun a : Nat => G.contains (a : Int))
theorem countP_less {p q : Nat → Bool} {v : Nat} : ∀ {n : Nat}, v < n → p v = true → (∀ a, q a = (p a && !(a == v))) → (List.range n).countP q + 1 = (List.range n).countP p
  | 0, h, _, _ => by omega
  | n + 1, h, hv, hq => by
    rw [List.range_succ, List.countP_append, List.countP_append]
    rcases Nat.lt_succ_iff_lt_or_eq.1 h with h' | h'
    · have ih := countP_less h' hv hq
      have : q n = p n := by rw [hq n]; simp; intro _ e; omega
      simp only [List.countP_singleton, this]
      omega
    · subst h'
      have h1 : (List.range v).countP q = (List.range v).countP p := by
        apply List.countP_congr
        intro a ha
        rw [hq a]
        have : a ≠ v := by have := List.mem_range.1 ha; omega
        simp [this]
      simp only [List.countP_singleton, h1, hq v, hv]
      simp
theorem contains_iff_gi {G : List Int} {a : Int} : G.contains a = true ↔ ∃ i : Nat, i < G.length ∧ gi G i = a := by
  rw [List.contains_iff_mem]
  constructor
  · intro h
    obtain ⟨i, hi, e⟩ := List.getElem_of_mem h
    exact ⟨i, hi, by rw [gi_nat _ _ hi, e]⟩
  · rintro ⟨i, hi, e⟩
    rw [gi_nat _ _ hi] at e
    rw [← e]
    exact List.getElem_mem hi
theorem nlab_ids (n : Nat) : nlab n (ids n) = n := by
  unfold nlab
  rw [List.countP_eq_length.2, List.length_range]
  intro a ha
  rw [contains_iff_gi]
  exact ⟨a, by rw [ids_length]; exact List.mem_range.1 ha, gi_ids (List.mem_range.1 ha)⟩
theorem nlab_step {n : Nat} {ms : List P2} (hv : Vd n ms) {j : Nat} (hj : j < ms.length) : nlab n (grp n ms (j + 1)) + (if joins n ms j = true then 1 else 0) = nlab n (grp n ms j) := by
  have ih := ginv hv j (by omega)
  have hl := grp_len n ms j
  obtain ⟨f, t, e, hf, ht⟩ := hv (gp ms j) (by rw [gp_nat ms j hj]; exact List.getElem_mem _)
  obtain ⟨a, ha, han, -⟩ := ih.lab f hf
  obtain ⟨b, hb, hbn, -⟩ := ih.lab t ht
  have eG : grp n ms (j + 1) = joinG (grp n ms j) f t := by show joinG _ (gp ms j).1 (gp ms j).2 = _; rw [e]
  have eJ : joins n ms j = (gi (grp n ms j) f != gi (grp n ms j) t) := by unfold joins; rw [e]
  by_cases h : gi (grp n ms j) f = gi (grp n ms j) t
  · rw [eJ, eG, joinG_same h, h]; simp
  · rw [eJ, if_pos (by simpa using h), eG]
    refine countP_less (v := b) hbn ?_ ?_
    · rw [contains_iff_gi]; exact ⟨t, by omega, hb⟩
    · intro x
      rw [Bool.eq_iff_iff, Bool.and_eq_true, contains_iff_gi, contains_iff_gi]
      rw [ha, hb] at h
      constructor
      · rintro ⟨i, hi, ei⟩
        rw [joinG_len] at hi
        rw [gi_joinG hi, ha, hb] at ei
        unfold joinF at ei
        split at ei
        · exact ⟨⟨f, by omega, by rw [ha, ei]⟩, by simp; omega⟩
        · rename_i hne
          refine ⟨⟨i, hi, ei⟩, ?_⟩
          simp only [Bool.not_eq_true', beq_eq_false_iff_ne]
          intro hx
          subst hx
          exact hne ei
      · rintro ⟨⟨i, hi, ei⟩, hx⟩
        refine ⟨i, by rw [joinG_len]; exact hi, ?_⟩
        rw [gi_joinG hi, ha, hb, ei]
        unfold joinF
        rw [if_neg]
        intro hxx
        simp at hx
        omega
def njoin (n : Nat) (ms : List P2) (j : Nat) : Nat := (List.range j).countP (joins n ms)
theorem nlab_at {n : Nat} {ms : List P2} (hv : Vd n ms) : ∀ j, j ≤ ms.length → nlab n (grp n ms j) + njoin n ms j = n
  | 0, _ => by
    show nlab n (ids n) + 0 = n
    rw [nlab_ids]; rfl
  | j + 1, hj => by
    have ih := nlab_at hv j (by omega)
    have hs := nlab_step hv (j := j) (by omega)
    unfold njoin at *
    rw [List.range_succ, List.countP_append, List.countP_singleton]
    omega
theorem nlab_one {n : Nat} {ms : List P2} (hv : Vd n ms) (hn : 0 < n) : nlab n (grp n ms ms.length) = 1 ↔ ∀ i, i < n → Cn ms 0 i := by
  have h := ginv hv ms.length (Nat.le_refl _)
  have hl := grp_len n ms ms.length
  obtain ⟨a, ha, han, -⟩ := h.lab 0 hn
  have hpa : (fun x : Nat => (grp n ms ms.length).contains (x : Int)) a = true := by
    show (grp n ms ms.length).contains (a : Int) = true
    rw [contains_iff_gi]; exact ⟨0, by omega, ha⟩
  have hless := countP_less (p := fun x : Nat => (grp n ms ms.length).contains (x : Int)) (q := fun x : Nat => (grp n ms ms.length).contains (x : Int) && !(x == a)) han hpa (fun _ => rfl)
  have hz : nlab n (grp n ms ms.length) = 1 ↔ (List.range n).countP (fun x : Nat => (grp n ms ms.length).contains (x : Int) && !(x == a)) = 0 := by unfold nlab; omega
  rw [hz, List.countP_eq_zero]
  constructor
  · intro hc i hi
    obtain ⟨b, hb, hbn, -⟩ := h.lab i hi
    have h1 := hc b (List.mem_range.2 hbn)
    rw [← ginv_iff hv hn hi]
    have h2 : (grp n ms ms.length).contains (b : Int) = true := by rw [contains_iff_gi]; exact ⟨i, by omega, hb⟩
    rw [h2] at h1
    have h0 : gi (grp n ms ms.length) (0 : Nat) = a := ha
    rw [h0, hb]
    have : b = a := by simpa using h1
    rw [this]
  · intro hc x hx
    simp only [Bool.and_eq_true, Bool.not_eq_true', beq_eq_false_iff_ne, not_and]
    intro h1 hne
    obtain ⟨i, hi, e⟩ := contains_iff_gi.1 h1
    have h2 := (ginv_iff hv hn (by omega : i < n)).2 (hc i (by omega))
    have h0 : gi (grp n ms ms.length) (0 : Nat) = a := ha
    rw [h0, e] at h2
    omega
/-- with n - 1 pairs: each joins two groups just if all hangs together -/
theorem tree_iff {n : Nat} {ms : List P2} (hv : Vd n ms) (hn : 0 < n) (hm : ms.length = n - 1) : (∀ j, j < ms.length → joins n ms j = true) ↔ ∀ i, i < n → Cn ms 0 i := by
  rw [← nlab_one hv hn]
  have h1 := nlab_at hv ms.length (Nat.le_refl _)
  have h2 : (∀ j, j < ms.length → joins n ms j = true) ↔ njoin n ms ms.length = ms.length := by
    unfold njoin
    have := List.countP_eq_length (p := joins n ms) (l := List.range ms.length)
    rw [List.length_range] at this
    rw [this]
    simp
  rw [h2]
  omega
theorem itB_all {n : Nat} {ms : List P2} (hv : Vd n ms) (hn : 0 < n) : itB ms (n - 1) (2 ^ 0) = 2 ^ n - 1 ↔ ∀ i, i < n → Cn ms 0 i := by
  have hs := itB_sound hv (2 ^ 0) (a := 0) (fun i h => by rw [Nat.testBit_two_pow, decide_eq_true_eq] at h; subst h; exact .refl) (n - 1)
  constructor
  · intro h i hi
    apply hs
    rw [h, Nat.testBit_two_pow_sub_one]
    simpa using hi
  · intro h
    apply Nat.eq_of_testBit_eq
    intro i
    rw [Nat.testBit_two_pow_sub_one]
    rw [Bool.eq_iff_iff, decide_eq_true_eq]
    constructor
    · intro hi
      exact (hs i hi).lt hv hn
    · intro hi
      rcases itB_closed hv hn (n - 1) with ⟨q, hq, hfix⟩ | hc
      · have e := itB_stay hfix (n - 1 - q)
        rw [show q + (n - 1 - q) = n - 1 by omega] at e
        have e2 := itB_stay hfix (n - q)
        rw [show q + (n - q) = n by omega] at e2
        rw [e, ← e2]
        exact (partS_iff hv hn i).2 (h i hi)
      · have hcl := cnt_le n (itB ms (n - 1) (2 ^ 0))
        unfold cnt at hc hcl
        have : (List.range n).countP ((itB ms (n - 1) (2 ^ 0)).testBit ·) = (List.range n).length := by rw [List.length_range]; omega
        rw [List.countP_eq_length] at this
        exact this i (List.mem_range.2 hi)
end Go.Proofs.Ytpainmnekgnpeaa
