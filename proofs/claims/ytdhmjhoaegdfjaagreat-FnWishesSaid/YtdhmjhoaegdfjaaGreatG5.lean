import Derived.Test.YtdhmjhoaegdfjaaGreatG2
namespace Go.Proofs.YtdhmjhoaegdfjaaGreat
/-! Plain words: the parts of a drawing. Bits (impl) and labels (spec) both say which nodes hang together. -/
def Vd (n : Nat) (ls : List P2) : Prop := ∀ l ∈ ls, ∃ i j : Nat, l = ((i : Int), (j : Int)) ∧ i < n ∧ j < n
inductive Cn (ls : List P2) (a : Nat) : Nat → Prop where
  | refl : Cn ls a a
  | fwd {i j : Nat} : Cn ls a i → ((i : Int), (j : Int)) ∈ ls → Cn ls a j
  | bwd {i j : Nat} : Cn ls a i → ((j : Int), (i : Int)) ∈ ls → Cn ls a j
theorem Cn.trans {ls : List P2} {a b c : Nat} (h : Cn ls a b) (k : Cn ls b c) : Cn ls a c := by
  induction k with
  | refl => exact h
  | fwd _ e ih => exact ih.fwd e
  | bwd _ e ih => exact ih.bwd e
theorem Cn.symm {ls : List P2} {a b : Nat} (h : Cn ls a b) : Cn ls b a := by
  induction h with
  | refl => exact .refl
  | fwd _ e ih => exact (Cn.bwd .refl e).trans ih
  | bwd _ e ih => exact (Cn.fwd .refl e).trans ih
theorem Cn.mono {ls ms : List P2} {a b : Nat} (h : Cn ls a b) (hs : ∀ l ∈ ls, l ∈ ms) : Cn ms a b := by
  induction h with
  | refl => exact .refl
  | fwd _ e ih => exact ih.fwd (hs _ e)
  | bwd _ e ih => exact ih.bwd (hs _ e)
theorem Cn.lt {ls : List P2} {n a b : Nat} (hv : Vd n ls) (ha : a < n) (h : Cn ls a b) : b < n := by
  induction h with
  | refl => exact ha
  | fwd _ e _ => obtain ⟨i, j, e2, _, h2⟩ := hv _ e; injection e2 with e3 e4; omega
  | bwd _ e _ => obtain ⟨i, j, e2, h1, _⟩ := hv _ e; injection e2 with e3 e4; omega

/-! ### bits -/
def stepB (S : Nat) (l : P2) : Nat := if S.testBit l.1.toNat || S.testBit l.2.toNat then S ||| (2 ^ l.1.toNat ||| 2 ^ l.2.toNat) else S
def roundB (ls : List P2) (S : Nat) : Nat := ls.foldl stepB S
def itB (ls : List P2) : Nat → Nat → Nat
  | 0, S => S
  | r + 1, S => roundB ls (itB ls r S)
def partS (n : Nat) (ls : List P2) (k : Nat) : Nat := itB ls n (2 ^ k)

def sub (S T : Nat) : Prop := ∀ i, S.testBit i = true → T.testBit i = true
theorem sub.rfl' {S : Nat} : sub S S := fun _ h => h
theorem sub.trans {S T U : Nat} (h : sub S T) (k : sub T U) : sub S U := fun i hi => k i (h i hi)
theorem sub_antisymm {S T : Nat} (h : sub S T) (k : sub T S) : S = T := by
  apply Nat.eq_of_testBit_eq
  intro i
  cases h1 : S.testBit i <;> cases h2 : T.testBit i
  · rfl
  · rw [k i h2] at h1; cases h1
  · rw [h i h1] at h2; cases h2
  · rfl
theorem stepB_sub (S : Nat) (l : P2) : sub S (stepB S l) := by
  intro i hi
  unfold stepB
  split
  · simp [hi]
  · exact hi
theorem roundB_sub (ls : List P2) (S : Nat) : sub S (roundB ls S) := by
  induction ls generalizing S with
  | nil => exact sub.rfl'
  | cons l t ih => exact (stepB_sub S l).trans (ih (stepB S l))
theorem itB_sub (ls : List P2) (S : Nat) : ∀ r, sub S (itB ls r S)
  | 0 => sub.rfl'
  | r + 1 => (itB_sub ls S r).trans (roundB_sub ls _)
theorem stepB_or (S : Nat) (l : P2) (i : Nat) (h : (stepB S l).testBit i = true) : S.testBit i = true ∨ ((S.testBit l.1.toNat = true ∨ S.testBit l.2.toNat = true) ∧ (i = l.1.toNat ∨ i = l.2.toNat)) := by
  unfold stepB at h
  split at h
  · rename_i hc
    simp only [Bool.or_eq_true] at hc
    simp only [Nat.testBit_or, Nat.testBit_two_pow, Bool.or_eq_true, decide_eq_true_eq] at h
    rcases h with h | h | h
    · exact .inl h
    · exact .inr ⟨hc, .inl h.symm⟩
    · exact .inr ⟨hc, .inr h.symm⟩
  · exact .inl h
theorem roundB_sound {n a : Nat} {ms : List P2} (hv : Vd n ms) : ∀ (ls : List P2) (S : Nat), (∀ l ∈ ls, l ∈ ms) → (∀ i, S.testBit i = true → Cn ms a i) → ∀ i, (roundB ls S).testBit i = true → Cn ms a i
  | [], S, _, h => h
  | l :: t, S, hs, h => by
    refine roundB_sound hv t (stepB S l) (fun x hx => hs x (List.mem_cons_of_mem _ hx)) ?_
    intro i hi
    obtain ⟨f, t', rfl, _, _⟩ := hv l (hs l (List.mem_cons_self ..))
    have hm := hs _ (List.mem_cons_self ..)
    rcases stepB_or S _ i hi with h1 | ⟨h1, h2⟩
    · exact h i h1
    · simp only [Int.toNat_natCast] at h1 h2
      have hf : Cn ms a f := by
        rcases h1 with h1 | h1
        · exact h _ h1
        · exact (h _ h1).bwd hm
      rcases h2 with rfl | rfl
      · exact hf
      · exact hf.fwd hm
theorem itB_sound {n a : Nat} {ls : List P2} (hv : Vd n ls) (S : Nat) (h : ∀ i, S.testBit i = true → Cn ls a i) : ∀ r i, (itB ls r S).testBit i = true → Cn ls a i
  | 0 => h
  | r + 1 => roundB_sound hv ls _ (fun _ h => h) (itB_sound hv S h r)
theorem closed_of_fix {S : Nat} : ∀ {ls : List P2}, roundB ls S = S → ∀ l ∈ ls, stepB S l = S
  | [], _, l, hl => by cases hl
  | m :: t, h, l, hl => by
    have e : stepB S m = S := sub_antisymm (by
      have := roundB_sub t (stepB S m)
      rw [show roundB t (stepB S m) = S from h] at this
      exact this) (stepB_sub S m)
    rcases List.mem_cons.1 hl with rfl | hl
    · exact e
    · exact closed_of_fix (ls := t) (by have := h; unfold roundB at this ⊢; rw [List.foldl_cons, e] at this; exact this) l hl

def cnt (n S : Nat) : Nat := (List.range n).countP (S.testBit ·)
theorem countP_lt {α : Type} {p q : α → Bool} {a : α} : ∀ {l : List α}, (∀ x, p x = true → q x = true) → a ∈ l → p a = false → q a = true → l.countP p < l.countP q
  | b :: t, h, hm, hp, hq => by
    have hle : t.countP p ≤ t.countP q := List.countP_mono_left (fun x _ => h x)
    rcases List.mem_cons.1 hm with rfl | hm
    · rw [List.countP_cons, List.countP_cons, hp, hq]; simp; omega
    · have ih := countP_lt h hm hp hq
      rw [List.countP_cons, List.countP_cons]
      cases hb : p b
      · simp; omega
      · rw [h b hb]; simp; omega
theorem cnt_le (n S : Nat) : cnt n S ≤ n := by
  unfold cnt
  have := List.countP_le_length (p := fun i => S.testBit i) (l := List.range n)
  rwa [List.length_range] at this
theorem cnt_lt {n S T : Nat} (h : sub S T) (hb : ∀ i, T.testBit i = true → i < n) (hne : S ≠ T) : cnt n S < cnt n T := by
  obtain ⟨i, hi⟩ : ∃ i, ¬ (T.testBit i = true → S.testBit i = true) := by
    apply Classical.byContradiction
    intro hn
    exact hne (sub_antisymm h (fun i hi => Classical.byContradiction fun hc => hn ⟨i, fun h' => hc (h' hi)⟩))
  have hT : T.testBit i = true := Classical.byContradiction fun hc => hi fun h' => absurd h' hc
  have hS : S.testBit i = false := Bool.eq_false_iff.2 fun hc => hi fun _ => hc
  exact countP_lt (a := i) h (List.mem_range.2 (hb i hT)) hS hT
theorem itB_closed {n a : Nat} {ls : List P2} (hv : Vd n ls) (ha : a < n) : ∀ r, (∃ q, q ≤ r ∧ roundB ls (itB ls q (2 ^ a)) = itB ls q (2 ^ a)) ∨ r + 1 ≤ cnt n (itB ls r (2 ^ a))
  | 0 => by
    refine .inr ?_
    unfold cnt
    apply Nat.succ_le_of_lt
    rw [List.countP_pos_iff]
    exact ⟨a, List.mem_range.2 ha, by simp [itB]⟩
  | r + 1 => by
    rcases itB_closed hv ha r with ⟨q, hq, h⟩ | h
    · exact .inl ⟨q, by omega, h⟩
    · by_cases he : roundB ls (itB ls r (2 ^ a)) = itB ls r (2 ^ a)
      · exact .inl ⟨r, by omega, he⟩
      · refine .inr ?_
        have hb : ∀ i, (itB ls (r + 1) (2 ^ a)).testBit i = true → i < n := fun i hi =>
          (itB_sound hv (2 ^ a) (a := a) (fun i h => by rw [Nat.testBit_two_pow, decide_eq_true_eq] at h; subst h; exact .refl) (r + 1) i hi).lt hv ha
        have := cnt_lt (n := n) (roundB_sub ls (itB ls r (2 ^ a))) hb (Ne.symm he)
        exact Nat.lt_of_le_of_lt h this
theorem itB_stay {ls : List P2} {S q : Nat} (h : roundB ls (itB ls q S) = itB ls q S) : ∀ d, itB ls (q + d) S = itB ls q S
  | 0 => rfl
  | d + 1 => by show roundB ls (itB ls (q + d) S) = _; rw [itB_stay h d, h]
theorem partS_fix {n a : Nat} {ls : List P2} (hv : Vd n ls) (ha : a < n) : roundB ls (partS n ls a) = partS n ls a := by
  rcases itB_closed hv ha n with ⟨q, hq, h⟩ | h
  · have e := itB_stay h (n - q)
    rw [show q + (n - q) = n by omega] at e
    unfold partS
    rw [e, h]
  · have := cnt_le n (itB ls n (2 ^ a)); omega
/-- the bits of a part are the nodes that hang together with a -/
theorem partS_iff {n a : Nat} {ls : List P2} (hv : Vd n ls) (ha : a < n) (i : Nat) : (partS n ls a).testBit i = true ↔ Cn ls a i := by
  constructor
  · exact itB_sound hv (2 ^ a) (fun i h => by rw [Nat.testBit_two_pow, decide_eq_true_eq] at h; subst h; exact .refl) n i
  · intro h
    have hc := closed_of_fix (partS_fix hv ha)
    induction h with
    | refl => exact itB_sub ls _ n a (by simp)
    | @fwd i j _ e ih =>
      have := hc _ e
      unfold stepB at this
      simp only [Int.toNat_natCast, ih, Bool.true_or, if_true] at this
      rw [← this]; simp
    | @bwd i j _ e ih =>
      have := hc _ e
      unfold stepB at this
      simp only [Int.toNat_natCast, ih, Bool.or_true, if_true] at this
      rw [← this]; simp
theorem partS_bd {n a : Nat} {ls : List P2} (hv : Vd n ls) (ha : a < n) (r : Nat) : itB ls r (2 ^ a) < 2 ^ n := by
  apply Nat.lt_pow_two_of_testBit
  intro i hi
  rw [Bool.eq_false_iff]
  intro h
  have := (itB_sound hv (2 ^ a) (a := a) (fun i h => by rw [Nat.testBit_two_pow, decide_eq_true_eq] at h; subst h; exact .refl) r i h).lt hv ha
  omega
end Go.Proofs.YtdhmjhoaegdfjaaGreat

namespace Go.Proofs.YtdhmjhoaegdfjaaGreat
/-! Plain words: labels. -/
def gi (l : List Int) (i : Int) : Int := l.getD i.toNat 0
theorem gi_nat (l : List Int) (k : Nat) (h : k < l.length) : gi l k = l[k] := by simp [gi, h]
def mrgF (a b x : Int) : Int := if x = imax a b then imin a b else x
def mrg (L : List Int) (l : P2) : List Int := L.map (mrgF (gi L l.1) (gi L l.2))
def ids (n : Nat) : List Int := (List.range n).map (fun i : Nat => (i : Int))
def labs (n : Nat) (ls : List P2) : List Int := ls.foldl mrg (ids n)
theorem ids_length (n : Nat) : (ids n).length = n := by simp [ids]
theorem gi_ids {n i : Nat} (h : i < n) : gi (ids n) i = i := by rw [gi_nat _ _ (by rw [ids_length]; exact h)]; simp [ids]
theorem mrg_length (L : List Int) (l : P2) : (mrg L l).length = L.length := by simp [mrg]
theorem gi_mrg {L : List Int} {l : P2} {i : Nat} (h : i < L.length) : gi (mrg L l) i = mrgF (gi L l.1) (gi L l.2) (gi L i) := by
  rw [gi_nat _ _ (by rw [mrg_length]; exact h), gi_nat _ _ h]
  simp [mrg]
structure LInv (n : Nat) (ms ps : List P2) (L : List Int) : Prop where
  len : L.length = n
  lab : ∀ i : Nat, i < n → ∃ j : Nat, gi L i = j ∧ j ≤ i ∧ Cn ms i j
  eq : ∀ l ∈ ps, gi L l.1 = gi L l.2
theorem LInv.step {n : Nat} {ms ps : List P2} {L : List Int} {l : P2} (h : LInv n ms ps L) (hv : Vd n ms) (hp : ∀ l ∈ ps, l ∈ ms) (hl : l ∈ ms) : LInv n ms (ps ++ [l]) (mrg L l) := by
  obtain ⟨f, t, rfl, hf, ht⟩ := hv l hl
  obtain ⟨a, ha, haf, hca⟩ := h.lab f hf
  obtain ⟨b, hb, hbt, hcb⟩ := h.lab t ht
  have hab : Cn ms a b := hca.symm.trans ((Cn.refl.fwd hl).trans hcb)
  have hg : ∀ i : Nat, i < n → gi (mrg L ((f : Int), (t : Int))) i = mrgF a b (gi L i) := fun i hi => by rw [gi_mrg (by rw [h.len]; exact hi)]; rw [ha, hb]
  refine ⟨by rw [mrg_length]; exact h.len, fun i hi => ?_, fun m hm => ?_⟩
  · obtain ⟨j, hj, hji, hcj⟩ := h.lab i hi
    rw [hg i hi, hj]
    unfold mrgF imax imin
    by_cases hc : (j : Int) = max (a : Int) b
    · rw [if_pos hc]
      rcases Nat.le_total a b with hle | hle
      · have e : j = b := by rw [Int.max_eq_right (by omega)] at hc; omega
        subst e
        exact ⟨a, by rw [Int.min_eq_left (by omega)], by omega, hcj.trans hab.symm⟩
      · have e : j = a := by rw [Int.max_eq_left (by omega)] at hc; omega
        subst e
        exact ⟨b, by rw [Int.min_eq_right (by omega)], by omega, hcj.trans hab⟩
    · rw [if_neg hc]
      exact ⟨j, rfl, hji, hcj⟩
  · rcases List.mem_append.1 hm with hm | hm
    · obtain ⟨f', t', rfl, hf', ht'⟩ := hv m (hp m hm)
      have := h.eq _ hm
      simp only at this ⊢
      rw [hg f' hf', hg t' ht', this]
    · rw [List.mem_singleton] at hm
      subst hm
      simp only
      rw [hg f hf, hg t ht, ha, hb]
      unfold mrgF imax imin
      rcases Nat.le_total a b with hle | hle
      · rw [Int.max_eq_right (by omega), Int.min_eq_left (by omega)]; split <;> split <;> omega
      · rw [Int.max_eq_left (by omega), Int.min_eq_right (by omega)]; split <;> split <;> omega
theorem linv_fold {n : Nat} {ms : List P2} (hv : Vd n ms) : ∀ (qs ps : List P2) (L : List Int), LInv n ms ps L → (∀ l ∈ ps, l ∈ ms) → (∀ l ∈ qs, l ∈ ms) → LInv n ms (ps ++ qs) (qs.foldl mrg L)
  | [], ps, L, h, _, _ => by simpa using h
  | q :: t, ps, L, h, hp, hq => by
    have h1 := h.step hv hp (hq q (List.mem_cons_self ..))
    have := linv_fold hv t (ps ++ [q]) (mrg L q) h1 (by
      intro l hl
      rcases List.mem_append.1 hl with hl | hl
      · exact hp l hl
      · rw [List.mem_singleton] at hl; subst hl; exact hq _ (List.mem_cons_self ..)) (fun l hl => hq l (List.mem_cons_of_mem _ hl))
    simpa [labs] using this
theorem linv_ids (n : Nat) (ms : List P2) : LInv n ms [] (ids n) := ⟨ids_length n, fun i hi => ⟨i, gi_ids hi, Nat.le_refl _, .refl⟩, fun l hl => by cases hl⟩
theorem linv {n : Nat} {ls : List P2} (hv : Vd n ls) : LInv n ls ls (labs n ls) := by
  have := linv_fold hv ls [] (ids n) (linv_ids n ls) (fun l hl => by cases hl) (fun l hl => hl)
  simpa [labs] using this
/-- the first leads: labels are small -/
theorem linv_take {n : Nat} {ls : List P2} (hv : Vd n ls) (k : Nat) : LInv n ls (ls.take k) (labs n (ls.take k)) := by
  have := linv_fold hv (ls.take k) [] (ids n) (linv_ids n ls) (fun l hl => by cases hl) (fun l hl => List.mem_of_mem_take hl)
  simpa [labs] using this
theorem LInv.of_cn {n : Nat} {ls : List P2} {L : List Int} (h : LInv n ls ls L) {i j : Nat} (hc : Cn ls i j) : gi L i = gi L j := by
  induction hc with
  | refl => rfl
  | fwd _ e ih => rw [ih]; exact h.eq _ e
  | bwd _ e ih => rw [ih]; exact (h.eq _ e).symm
theorem labs_iff {n : Nat} {ls : List P2} (hv : Vd n ls) {i j : Nat} (hi : i < n) (hj : j < n) : gi (labs n ls) i = gi (labs n ls) j ↔ Cn ls i j := by
  refine ⟨fun h => ?_, (linv hv).of_cn⟩
  obtain ⟨a, ha, _, hca⟩ := (linv hv).lab i hi
  obtain ⟨b, hb, _, hcb⟩ := (linv hv).lab j hj
  obtain rfl : a = b := by rw [ha, hb] at h; omega
  exact hca.trans hcb.symm
/-- the part of k, as ascending numbers -/
def partL (n : Nat) (ls : List P2) (k : Nat) : List Int := ((List.range n).filter (fun i => decide (gi (labs n ls) (i : Nat) = gi (labs n ls) k))).map (fun i : Nat => (i : Int))
theorem partL_bits {n : Nat} {ls : List P2} (hv : Vd n ls) {k : Nat} (hk : k < n) : ((List.range n).filter ((partS n ls k).testBit ·)).map (fun i : Nat => (i : Int)) = partL n ls k := by
  unfold partL
  congr 1
  apply List.filter_congr
  intro i hi
  rw [List.mem_range] at hi
  rw [Bool.eq_iff_iff, partS_iff hv hk, decide_eq_true_eq, labs_iff hv hi hk]
  exact ⟨Cn.symm, Cn.symm⟩
theorem filt_bits {S a b : Nat} (ha : S < 2 ^ a) (hb : S < 2 ^ b) : (List.range a).filter (S.testBit ·) = (List.range b).filter (S.testBit ·) := by
  have key : ∀ a d, S < 2 ^ a → (List.range (a + d)).filter (S.testBit ·) = (List.range a).filter (S.testBit ·) := by
    intro a d h
    induction d with
    | zero => rfl
    | succ d ih =>
      rw [show a + (d + 1) = (a + d) + 1 by omega, List.range_succ, List.filter_append, ih]
      have : S.testBit (a + d) = false := Nat.testBit_lt_two_pow (Nat.lt_of_lt_of_le h (Nat.pow_le_pow_right (by omega) (by omega)))
      simp [this]
  rcases Nat.le_total a b with h | h
  · have := key a (b - a) ha
    rw [show a + (b - a) = b by omega] at this
    exact this.symm
  · have := key b (a - b) hb
    rwa [show b + (a - b) = a by omega] at this
theorem filter_head {p : Nat → Bool} : ∀ {n k : Nat}, k < n → p k = true → (∀ j, j < k → p j = false) → ((List.range n).filter p).head? = some k
  | n + 1, k, hk, hp, hn => by
    rw [List.range_succ, List.filter_append]
    rcases Nat.lt_or_ge k n with h | h
    · rw [List.head?_append, filter_head h hp hn]; rfl
    · obtain rfl : k = n := by omega
      have : (List.range k).filter p = [] := by
        rw [List.filter_eq_nil_iff]
        intro j hj
        rw [hn j (List.mem_range.1 hj)]; simp
      rw [this]; simp [hp]
/-- the first of k's part is its label -/
theorem partL_head {n : Nat} {ls : List P2} (hv : Vd n ls) {k : Nat} (hk : k < n) : (partL n ls k).head? = some (gi (labs n ls) k) := by
  obtain ⟨j, hj, hjk, hc⟩ := (linv hv).lab k hk
  have h1 : gi (labs n ls) j = gi (labs n ls) k := ((labs_iff hv hk (by omega)).2 hc).symm
  unfold partL
  rw [List.head?_map, filter_head (k := j) (by omega) (by simp [h1]) ?_]
  · rw [hj]; rfl
  · intro i hi
    rw [decide_eq_false_iff_not]
    intro e
    obtain ⟨m, hm, hmi, _⟩ := (linv hv).lab i (by omega)
    rw [hm, hj] at e
    omega
theorem partL_ne {n : Nat} {ls : List P2} (hv : Vd n ls) {k : Nat} (hk : k < n) : partL n ls k ≠ [] := by
  intro h; have := partL_head hv hk; rw [h] at this; cases this
theorem partL_len (n : Nat) (ls : List P2) (k : Nat) : (partL n ls k).length ≤ n := by
  unfold partL
  rw [List.length_map]
  have := List.length_filter_le (fun i => decide (gi (labs n ls) (i : Nat) = gi (labs n ls) k)) (List.range n)
  rwa [List.length_range] at this
/-- how many parts -/
def nparts (n : Nat) (ls : List P2) (k : Nat) : Nat := (List.range k).countP (fun i => decide (gi (labs n ls) (i : Nat) = (i : Nat)))
theorem nparts_le (n : Nat) (ls : List P2) (k : Nat) : nparts n ls k ≤ k := by
  unfold nparts
  have := List.countP_le_length (p := fun i : Nat => decide (gi (labs n ls) (i : Nat) = (i : Nat))) (l := List.range k)
  rwa [List.length_range] at this
theorem nparts_succ (n : Nat) (ls : List P2) (k : Nat) : nparts n ls (k + 1) = nparts n ls k + if gi (labs n ls) k = k then 1 else 0 := by
  unfold nparts
  rw [List.range_succ, List.countP_append]
  simp [List.countP_cons]
theorem vd_of_ok {ns ls : List P2} (h : WOk ns ls) : Vd ns.length ls := by
  intro l hl
  obtain ⟨i, hi, rfl⟩ := List.getElem_of_mem hl
  have := (h.ld i hi).1
  rw [gp_nat ls i hi] at this
  obtain ⟨a, b, h1, h2, _, h4, h5, _⟩ := lok_spec (p := (ls[i]).1) (q := (ls[i]).2) this
  exact ⟨a, b, by rw [← h1, ← h2], h4, h5⟩
end Go.Proofs.YtdhmjhoaegdfjaaGreat

namespace Go.Proofs.YtdhmjhoaegdfjaaGreat

/-- 0: the direction from a to b points up (or to the right) -/
def halfp (a b : P2) : Int := if a.2 < b.2 ∨ (b.2 = a.2 ∧ a.1 < b.1) then 0 else 1
/-- b comes before c around a -/
def bfa (a b c : P2) : Bool := if halfp a b = halfp a c then decide (0 < turn0 a b c) else decide (halfp a b < halfp a c)

/-- the ends of dart d -/
def dEnds (ls : List P2) (d : Nat) : P2 := if d % 2 = 1 then ((gp ls (d / 2 : Nat)).2, (gp ls (d / 2 : Nat)).1) else gp ls (d / 2 : Nat)


/-! ### lists of numbers -/
theorem nperm_range {p : Nat → Bool} (j : Nat) : ((List.range j).filter p).Nodup := List.Pairwise.filter _ List.nodup_range
theorem getD_at (l : List Nat) {i : Nat} (h : i < l.length) : l.getD i 0 = l[i] := by simp [h]
def nl (l : List Nat) : List Int := l.map (fun i : Nat => (i : Int))
theorem nl_len (l : List Nat) : (nl l).length = l.length := by simp [nl]
theorem nl_gi (l : List Nat) {j : Nat} (h : j < l.length) : gi (nl l) j = (l.getD j 0 : Nat) := by
  rw [gi_nat _ _ (by rw [nl_len]; exact h)]
  simp [nl, h]
theorem nl_snoc (l : List Nat) (x : Nat) : nl (l ++ [x]) = nl l ++ [(x : Int)] := by simp [nl]

/-! ### insertion from the right -/
def insPos (lt : Nat → Nat → Bool) (d : Nat) (l : List Nat) : Nat → Nat
  | 0 => 0
  | a + 1 => if lt d (l.getD a 0) = true then insPos lt d l a else a + 1
theorem insPos_le (lt : Nat → Nat → Bool) (d : Nat) (l : List Nat) : ∀ a, insPos lt d l a ≤ a
  | 0 => Nat.le_refl _
  | a + 1 => by
    unfold insPos
    split
    · exact Nat.le_trans (insPos_le lt d l a) (by omega)
    · omega
def ins (lt : Nat → Nat → Bool) (d : Nat) (l : List Nat) : List Nat := l.take (insPos lt d l l.length) ++ d :: l.drop (insPos lt d l l.length)
theorem ins_perm (lt : Nat → Nat → Bool) (d : Nat) (l : List Nat) : (ins lt d l).Perm (d :: l) := by
  unfold ins
  refine List.perm_middle.trans ?_
  rw [List.take_append_drop]

def dAt (ls : List P2) (k : Int) (j : Nat) : List Nat := (List.range j).filter (fun d => decide ((dEnds ls d).1 = k))
def dlt (ns ls : List P2) (k : Int) (d x : Nat) : Bool := bfa (gp ns k) (gp ns (dEnds ls d).2) (gp ns (dEnds ls x).2)
/-- the darts at node k among the first j, in their order -/
def arnN (ns ls : List P2) (k : Int) : Nat → List Nat
  | 0 => []
  | j + 1 => if (dEnds ls j).1 = k then ins (dlt ns ls k) j (arnN ns ls k j) else arnN ns ls k j
def arnd (ns ls : List P2) (k : Int) : List Nat := arnN ns ls k (2 * ls.length)
theorem arnN_perm (ns ls : List P2) (k : Int) : ∀ j, (arnN ns ls k j).Perm (dAt ls k j)
  | 0 => .refl _
  | j + 1 => by
    have ih := arnN_perm ns ls k j
    unfold arnN dAt
    rw [List.range_succ, List.filter_append]
    by_cases h : (dEnds ls j).1 = k
    · rw [if_pos h]
      refine (ins_perm _ _ _).trans ?_
      have : List.filter (fun d => decide ((dEnds ls d).1 = k)) [j] = [j] := by simp [h]
      rw [this]
      exact ((ih.cons j).trans (List.perm_append_singleton j _).symm)
    · rw [if_neg h]
      have : List.filter (fun d => decide ((dEnds ls d).1 = k)) [j] = [] := by simp [h]
      rw [this, List.append_nil]
      exact ih
theorem arnN_mem {ns ls : List P2} {k : Int} {j d : Nat} : d ∈ arnN ns ls k j ↔ d < j ∧ (dEnds ls d).1 = k := by
  rw [(arnN_perm ns ls k j).mem_iff]
  simp [dAt]
theorem arnN_nodup (ns ls : List P2) (k : Int) (j : Nat) : (arnN ns ls k j).Nodup := (arnN_perm ns ls k j).nodup_iff.2 (nperm_range j)
theorem arnN_len (ns ls : List P2) (k : Int) (j : Nat) : (arnN ns ls k j).length ≤ j := by
  rw [(arnN_perm ns ls k j).length_eq]
  unfold dAt
  have := List.length_filter_le (fun d => decide ((dEnds ls d).1 = k)) (List.range j)
  rwa [List.length_range] at this
theorem arnd_mem {ns ls : List P2} {k : Int} {d : Nat} : d ∈ arnd ns ls k ↔ d < 2 * ls.length ∧ (dEnds ls d).1 = k := arnN_mem

/-! ### the dart before -/
def stepL (l : List Nat) (d : Nat) (n : Nat) : Nat := l.getD ((l.idxOf d + n) % l.length) 0
theorem stepL_mem {l : List Nat} {d n : Nat} (h : d ∈ l) : stepL l d n ∈ l := by
  have hl : 0 < l.length := List.length_pos_of_mem h
  have hi : (l.idxOf d + n) % l.length < l.length := Nat.mod_lt _ hl
  unfold stepL
  rw [getD_at _ hi]
  exact List.getElem_mem hi
theorem nodup_getD_inj {l : List Nat} (hn : l.Nodup) {i j : Nat} (hi : i < l.length) (hj : j < l.length) (h : l.getD i 0 = l.getD j 0) : i = j := by
  rw [getD_at _ hi, getD_at _ hj] at h
  have hp := List.pairwise_iff_getElem.1 hn
  rcases Nat.lt_trichotomy i j with hlt | he | hgt
  · exact absurd h (hp i j hi hj hlt)
  · exact he
  · exact absurd h.symm (hp j i hj hi hgt)
theorem stepL_inj {l : List Nat} (hn : l.Nodup) {d e n : Nat} (hd : d ∈ l) (he : e ∈ l) (h : stepL l d n = stepL l e n) : d = e := by
  have hl : 0 < l.length := List.length_pos_of_mem hd
  have h1 := nodup_getD_inj hn (Nat.mod_lt _ hl) (Nat.mod_lt _ hl) h
  have a := List.idxOf_lt_length_of_mem hd
  have b := List.idxOf_lt_length_of_mem he
  have h2 : l.idxOf d = l.idxOf e := by
    have e1 : ((l.idxOf d + n) % l.length : Nat) = ((l.idxOf d) + n % l.length) % l.length := by rw [Nat.add_mod_mod]
    have e2 : ((l.idxOf e + n) % l.length : Nat) = ((l.idxOf e) + n % l.length) % l.length := by rw [Nat.add_mod_mod]
    rw [e1, e2] at h1
    have hm := Nat.mod_lt n hl
    generalize n % l.length = r at *
    generalize l.idxOf d = x at *
    generalize l.idxOf e = y at *
    generalize l.length = N at *
    by_cases hx : x + r < N <;> by_cases hy : y + r < N
    · rw [Nat.mod_eq_of_lt hx, Nat.mod_eq_of_lt hy] at h1; omega
    · rw [Nat.mod_eq_of_lt hx, Nat.mod_eq_sub_mod (by omega), Nat.mod_eq_of_lt (by omega)] at h1; omega
    · rw [Nat.mod_eq_of_lt hy, Nat.mod_eq_sub_mod (by omega), Nat.mod_eq_of_lt (by omega)] at h1; omega
    · rw [Nat.mod_eq_sub_mod (by omega), Nat.mod_eq_of_lt (by omega), Nat.mod_eq_sub_mod (a := y + r) (by omega), Nat.mod_eq_of_lt (by omega)] at h1; omega
  have c := List.getElem_idxOf a
  have d' := List.getElem_idxOf b
  rw [← c, ← d']
  simp only [h2]

/-- the dart n places behind d around its node -/
def besN (ns ls : List P2) (n : Nat → Nat) (d : Nat) : Nat := stepL (arnd ns ls (dEnds ls d).1) d (n (arnd ns ls (dEnds ls d).1).length)
/-- the dart before d around its node -/
def prevD (ns ls : List P2) (d : Nat) : Nat := besN ns ls (fun l => l - 1) d
def nxt (ns ls : List P2) (d : Nat) : Nat := prevD ns ls (d ^^^ 1)
section
variable {ns ls : List P2}
theorem arnd_self {d : Nat} (h : d < 2 * ls.length) : d ∈ arnd ns ls (dEnds ls d).1 := arnd_mem.2 ⟨h, rfl⟩
theorem prevD_ok {d : Nat} (h : d < 2 * ls.length) : prevD ns ls d < 2 * ls.length ∧ (dEnds ls (prevD ns ls d)).1 = (dEnds ls d).1 := arnd_mem.1 (stepL_mem (arnd_self h))
theorem prevD_inj {d e : Nat} (hd : d < 2 * ls.length) (he : e < 2 * ls.length) (h : prevD ns ls d = prevD ns ls e) : d = e := by
  have h1 := (prevD_ok (ns := ns) hd).2
  have h2 := (prevD_ok (ns := ns) he).2
  rw [h, h2] at h1
  unfold prevD besN at h
  rw [← h1] at h
  exact stepL_inj (arnN_nodup ns ls (dEnds ls e).1 _) (by have := arnd_self (ns := ns) hd; rw [← h1] at this; exact this) (arnd_self he) h
theorem xor1_lt {d m : Nat} (h : d < 2 * m) : d ^^^ 1 < 2 * m := by
  have h1 : (d ^^^ 1) / 2 ^ 1 = d / 2 ^ 1 := by
    rw [Nat.xor_div_two_pow]; simp
  omega
theorem xor1_xor1 (d : Nat) : (d ^^^ 1) ^^^ 1 = d := by rw [Nat.xor_assoc, Nat.xor_self, Nat.xor_zero]
theorem nxt_lt {d : Nat} (h : d < 2 * ls.length) : nxt ns ls d < 2 * ls.length := (prevD_ok (xor1_lt h)).1
theorem nxt_inj {d e : Nat} (hd : d < 2 * ls.length) (he : e < 2 * ls.length) (h : nxt ns ls d = nxt ns ls e) : d = e := by
  have := prevD_inj (ns := ns) (xor1_lt hd) (xor1_lt he) h
  rw [← xor1_xor1 d, this, xor1_xor1]
end

/-! ### the walk -/
theorem php : ∀ (N : Nat) (g : Nat → Nat), (∀ i, i ≤ N → g i < N) → ∃ i j, i < j ∧ j ≤ N ∧ g i = g j
  | 0, g, h => absurd (h 0 (Nat.le_refl _)) (by omega)
  | N + 1, g, h => by
    by_cases hc : ∃ i, i ≤ N ∧ g i = g (N + 1)
    · obtain ⟨i, hi, e⟩ := hc
      exact ⟨i, N + 1, by omega, Nat.le_refl _, e⟩
    · have hne : ∀ i, i ≤ N → g i ≠ g (N + 1) := fun i hi e => hc ⟨i, hi, e⟩
      have hl := h (N + 1) (Nat.le_refl _)
      obtain ⟨i, j, hij, hj, e⟩ := php N (fun i => if g i = N then g (N + 1) else g i) (fun i hi => by
        have h1 := h i (by omega)
        have h2 := hne i hi
        show (if g i = N then g (N + 1) else g i) < N
        split <;> omega)
      refine ⟨i, j, hij, by omega, ?_⟩
      have h1 := hne i (by omega)
      have h2 := hne j hj
      (try simp only at e)
      split at e <;> split at e <;> omega
def itr (f : Nat → Nat) : Nat → Nat → Nat
  | 0, d => d
  | r + 1, d => f (itr f r d)
theorem itr_lt {f : Nat → Nat} {N : Nat} (hf : ∀ d, d < N → f d < N) {d : Nat} (hd : d < N) : ∀ r, itr f r d < N
  | 0 => hd
  | r + 1 => hf _ (itr_lt hf hd r)
theorem itr_back {f : Nat → Nat} {N : Nat} (hf : ∀ d, d < N → f d < N) (hi : ∀ d e, d < N → e < N → f d = f e → d = e) {d : Nat} (hd : d < N) (s : Nat) : ∀ r, itr f r d = itr f (r + s) d → d = itr f s d
  | 0, h => by rw [Nat.zero_add] at h; exact h
  | r + 1, h => by
    have e : r + 1 + s = (r + s) + 1 := by omega
    rw [e] at h
    exact itr_back hf hi hd s r (hi _ _ (itr_lt hf hd r) (itr_lt hf hd (r + s)) h)
theorem itr_per {f : Nat → Nat} {N : Nat} (hf : ∀ d, d < N → f d < N) (hi : ∀ d e, d < N → e < N → f d = f e → d = e) {d : Nat} (hd : d < N) : ∃ p, p < N ∧ itr f (p + 1) d = d := by
  obtain ⟨i, j, hij, hj, e⟩ := php N (fun r => itr f r d) (fun r _ => itr_lt hf hd r)
  have h1 : itr f i d = itr f (i + (j - i)) d := by rw [show i + (j - i) = j by omega]; exact e
  refine ⟨j - i - 1, by omega, ?_⟩
  rw [show j - i - 1 + 1 = j - i by omega]
  exact (itr_back hf hi hd _ i h1).symm
/-- how many steps until the dart comes back (at most N) -/
def perd (f : Nat → Nat) (N d : Nat) : Nat := ((List.range N).find? (fun p => itr f (p + 1) d == d)).getD 0 + 1
theorem find_range {p : Nat → Bool} : ∀ {N i : Nat}, (List.range N).find? p = some i → p i = true ∧ i < N ∧ ∀ j, j < i → p j = false := by
  intro N i h
  have h1 := List.find?_some h
  have h2 := List.mem_of_find?_eq_some h
  refine ⟨h1, List.mem_range.1 h2, fun j hj => ?_⟩
  rw [List.find?_range_eq_some] at h
  simpa using h.2.2 j hj
theorem perd_spec {f : Nat → Nat} {N : Nat} (hf : ∀ d, d < N → f d < N) (hi : ∀ d e, d < N → e < N → f d = f e → d = e) {d : Nat} (hd : d < N) :
    1 ≤ perd f N d ∧ perd f N d ≤ N ∧ itr f (perd f N d) d = d ∧ ∀ s, 1 ≤ s → s < perd f N d → itr f s d ≠ d := by
  obtain ⟨p, hp, e⟩ := itr_per hf hi hd
  cases hq : (List.range N).find? (fun p => itr f (p + 1) d == d) with
  | none =>
    rw [List.find?_eq_none] at hq
    exact absurd (by simpa using e) (hq p (List.mem_range.2 hp))
  | some q =>
    obtain ⟨h1, h2, h3⟩ := find_range hq
    have e1 : perd f N d = q + 1 := by unfold perd; rw [hq]; rfl
    rw [e1]
    refine ⟨by omega, by omega, by simpa using h1, fun s hs1 hs2 h => ?_⟩
    have := h3 (s - 1) (by omega)
    rw [show s - 1 + 1 = s by omega, h] at this
    simp at this
/-- the first r darts of the walk from d -/
def wlkR (ns ls : List P2) (d r : Nat) : List Nat := (List.range r).map (fun s => itr (nxt ns ls) s d)
def wlk (ns ls : List P2) (d : Nat) : List Nat := wlkR ns ls d (perd (nxt ns ls) (2 * ls.length) d)
theorem wlkR_succ (ns ls : List P2) (d r : Nat) : wlkR ns ls d (r + 1) = wlkR ns ls d r ++ [itr (nxt ns ls) r d] := by unfold wlkR; rw [List.range_succ, List.map_append]; rfl
theorem wlkR_len (ns ls : List P2) (d r : Nat) : (wlkR ns ls d r).length = r := by simp [wlkR]
section
variable {ns ls : List P2} {d : Nat}
theorem per_ok (hd : d < 2 * ls.length) : 1 ≤ perd (nxt ns ls) (2 * ls.length) d ∧ perd (nxt ns ls) (2 * ls.length) d ≤ 2 * ls.length ∧ itr (nxt ns ls) (perd (nxt ns ls) (2 * ls.length) d) d = d ∧
    ∀ s, 1 ≤ s → s < perd (nxt ns ls) (2 * ls.length) d → itr (nxt ns ls) s d ≠ d := perd_spec (fun _ h => nxt_lt h) (fun _ _ h k e => nxt_inj h k e) hd
theorem itr_nxt_lt (hd : d < 2 * ls.length) (r : Nat) : itr (nxt ns ls) r d < 2 * ls.length := itr_lt (fun _ h => nxt_lt h) hd r
theorem wlk_len (hd : d < 2 * ls.length) : 1 ≤ (wlk ns ls d).length ∧ (wlk ns ls d).length ≤ 2 * ls.length := by
  unfold wlk; rw [wlkR_len]; exact ⟨(per_ok hd).1, (per_ok hd).2.1⟩
theorem wlk_lt (hd : d < 2 * ls.length) : ∀ e ∈ wlk ns ls d, e < 2 * ls.length := by
  intro e he
  unfold wlk wlkR at he
  obtain ⟨s, _, rfl⟩ := List.mem_map.1 he
  exact itr_nxt_lt hd s
end

/-! ### the faces -/
def hasL (L : List (List Nat)) (d : Nat) : Bool := L.any (fun l => l.contains d)
/-- the walks from the first j darts -/
def fcsN (ns ls : List P2) : Nat → List (List Nat)
  | 0 => []
  | j + 1 => if hasL (fcsN ns ls j) j = true then fcsN ns ls j else fcsN ns ls j ++ [wlk ns ls j]
/-- the faces of a whole window -/
def fcs (ns ls : List P2) : List (List Nat) := fcsN ns ls (2 * ls.length)
theorem fcsN_len (ns ls : List P2) : ∀ j, (fcsN ns ls j).length ≤ j
  | 0 => Nat.le_refl _
  | j + 1 => by
    have := fcsN_len ns ls j
    unfold fcsN
    split
    · omega
    · simp; omega
theorem fcsN_mem {ns ls : List P2} : ∀ {j : Nat}, ∀ l ∈ fcsN ns ls j, ∃ d, d < j ∧ l = wlk ns ls d
  | 0, l, h => by cases h
  | j + 1, l, h => by
    unfold fcsN at h
    split at h
    · obtain ⟨d, hd, e⟩ := fcsN_mem l h
      exact ⟨d, by omega, e⟩
    · rcases List.mem_append.1 h with h | h
      · obtain ⟨d, hd, e⟩ := fcsN_mem l h
        exact ⟨d, by omega, e⟩
      · exact ⟨j, by omega, by simpa using h⟩
theorem fcs_mem {ns ls : List P2} {l : List Nat} (h : l ∈ fcs ns ls) : 1 ≤ l.length ∧ l.length ≤ 2 * ls.length ∧ ∀ e ∈ l, e < 2 * ls.length := by
  obtain ⟨d, hd, rfl⟩ := fcsN_mem l h
  exact ⟨(wlk_len hd).1, (wlk_len hd).2, wlk_lt hd⟩
theorem fcs_pos {ns ls : List P2} (h : 0 < ls.length) : 0 < (fcs ns ls).length := by
  have key : ∀ j, 0 < j → 0 < (fcsN ns ls j).length := by
    intro j
    induction j with
    | zero => omega
    | succ j ih =>
      intro _
      unfold fcsN
      split
      · rename_i hh
        rcases Nat.eq_zero_or_pos j with rfl | hp
        · simp [fcsN, hasL] at hh
        · exact ih hp
      · simp
  exact key _ (by omega)
/-- the face of a dart: the last list that holds it -/
def sdN (L : List (List Nat)) (d : Nat) : Nat → Nat
  | 0 => 0
  | f + 1 => if (L.getD f []).contains d = true then f else sdN L d f
def sd (L : List (List Nat)) (d : Nat) : Nat := sdN L d L.length
theorem sdN_lt (L : List (List Nat)) (d : Nat) : ∀ f, sdN L d f < f ∨ f = 0
  | 0 => .inr rfl
  | f + 1 => by
    left
    unfold sdN
    split
    · omega
    · rcases sdN_lt L d f with h | h
      · omega
      · subst h; simp [sdN]
theorem sd_lt {L : List (List Nat)} (h : 0 < L.length) (d : Nat) : sd L d < L.length := by
  rcases sdN_lt L d L.length with h' | h'
  · exact h'
  · omega
end Go.Proofs.YtdhmjhoaegdfjaaGreat

namespace Go.Proofs.YtdhmjhoaegdfjaaGreat
/-! Plain words: groups, and trees. -/
/-- put the groups of x and y together -/
def joinF (u v z : Int) : Int := if z = v then u else z
def joinG (G : List Int) (x y : Int) : List Int := G.map (joinF (gi G x) (gi G y))
theorem joinG_len (G : List Int) (x y : Int) : (joinG G x y).length = G.length := by simp [joinG]
theorem joinG_same {G : List Int} {x y : Int} (h : gi G x = gi G y) : joinG G x y = G := by
  unfold joinG
  rw [h]
  have : joinF (gi G y) (gi G y) = id := by
    funext z
    unfold joinF
    split
    · rename_i e; exact e.symm
    · rfl
  rw [this, List.map_id]
/-- the groups behind the first j of the pairs -/
def grp (n : Nat) (ls : List P2) : Nat → List Int
  | 0 => ids n
  | j + 1 => joinG (grp n ls j) (gp ls j).1 (gp ls j).2
theorem grp_len (n : Nat) (ls : List P2) : ∀ j, (grp n ls j).length = n
  | 0 => ids_length n
  | j + 1 => by unfold grp; rw [joinG_len, grp_len n ls j]
/-- does pair i join two groups -/
def joins (n : Nat) (ls : List P2) (i : Nat) : Bool := gi (grp n ls i) (gp ls i).1 != gi (grp n ls i) (gp ls i).2
theorem gi_joinG {G : List Int} {x y : Int} {i : Nat} (h : i < G.length) : gi (joinG G x y) i = joinF (gi G x) (gi G y) (gi G i) := by
  rw [gi_nat _ _ (by rw [joinG_len]; exact h), gi_nat _ _ h]
  simp [joinG]
/-- the groups tell what hangs together -/
structure GInv (n : Nat) (ms : List P2) (j : Nat) : Prop where
  lab : ∀ i : Nat, i < n → ∃ k : Nat, gi (grp n ms j) i = k ∧ k < n ∧ Cn ms i k
  eq : ∀ i, i < j → gi (grp n ms j) (gp ms i).1 = gi (grp n ms j) (gp ms i).2
theorem ginv {n : Nat} {ms : List P2} (hv : Vd n ms) : ∀ j, j ≤ ms.length → GInv n ms j
  | 0, _ => ⟨fun i hi => ⟨i, gi_ids hi, hi, .refl⟩, fun i hi => by omega⟩
  | j + 1, hj => by
    have ih := ginv hv j (by omega)
    have hmem : gp ms j ∈ ms := by rw [gp_nat ms j (by omega)]; exact List.getElem_mem _
    obtain ⟨f, t, e, hf, ht⟩ := hv _ hmem
    have hl := grp_len n ms j
    obtain ⟨a, ha, han, hca⟩ := ih.lab f hf
    obtain ⟨b, hb, hbn, hcb⟩ := ih.lab t ht
    rw [e] at hmem
    have hab : Cn ms b a := hcb.symm.trans ((Cn.trans (Cn.fwd .refl hmem).symm hca))
    have hg : ∀ i : Nat, i < n → gi (grp n ms (j + 1)) i = joinF (a : Int) (b : Int) (gi (grp n ms j) i) := by
      intro i hi
      show gi (joinG (grp n ms j) (gp ms j).1 (gp ms j).2) i = _
      rw [gi_joinG (by rw [hl]; exact hi), e, ha, hb]
    refine ⟨fun i hi => ?_, fun i hi => ?_⟩
    · obtain ⟨k, hk, hkn, hck⟩ := ih.lab i hi
      rw [hg i hi, hk]
      unfold joinF
      split
      · rename_i h
        have : k = b := by omega
        subst this
        exact ⟨a, rfl, han, hck.trans hab⟩
      · exact ⟨k, rfl, hkn, hck⟩
    · obtain ⟨f', t', e', hf', ht'⟩ := hv (gp ms i) (by rw [gp_nat ms i (by omega)]; exact List.getElem_mem _)
      rw [e']
      show gi (grp n ms (j + 1)) (f' : Int) = gi (grp n ms (j + 1)) (t' : Int)
      rw [hg f' hf', hg t' ht']
      rcases Nat.lt_succ_iff_lt_or_eq.1 hi with h | h
      · have := ih.eq i h
        rw [e'] at this
        rw [show gi (grp n ms j) (f' : Int) = gi (grp n ms j) (t' : Int) from this]
      · subst h
        rw [e] at e'
        injection e' with e1 e2
        obtain rfl : f = f' := by omega
        obtain rfl : t = t' := by omega
        rw [ha, hb]
        unfold joinF
        split <;> simp_all
theorem ginv_iff {n : Nat} {ms : List P2} (hv : Vd n ms) {i k : Nat} (hi : i < n) (hk : k < n) : gi (grp n ms ms.length) i = gi (grp n ms ms.length) k ↔ Cn ms i k := by
  have h := ginv hv ms.length (Nat.le_refl _)
  have key : ∀ {a b : Nat}, ((a : Int), (b : Int)) ∈ ms → gi (grp n ms ms.length) a = gi (grp n ms ms.length) b := by
    intro a b hm
    obtain ⟨q, hq, e⟩ := List.getElem_of_mem hm
    have := h.eq q hq
    rw [gp_nat ms q hq, e] at this
    exact this
  constructor
  · intro e
    obtain ⟨a, ha, _, hca⟩ := h.lab i hi
    obtain ⟨b, hb, _, hcb⟩ := h.lab k hk
    have : a = b := by omega
    subst this
    exact hca.trans hcb.symm
  · intro hc
    induction hc with
    | refl => rfl
    | fwd hc' hm ih => exact (ih (hc'.lt hv hi)).trans (key hm)
    | bwd hc' hm ih => exact (ih (hc'.lt hv hi)).trans (key hm).symm

/-! how many groups there are -/
def nlab (n : Nat) (G : List Int) : Nat := (List.range n).countP (fun a : Nat => G.contains (a : Int))
theorem countP_less {p q : Nat → Bool} {v : Nat} : ∀ {n : Nat}, v < n → p v = true → (∀ a, q a = (p a && !(a == v))) → (List.range n).countP q + 1 = (List.range n).countP p
  | 0, h, _, _ => by omega
  | n + 1, h, hv, hq => by
    rw [List.range_succ, List.countP_append, List.countP_append]
    rcases Nat.lt_succ_iff_lt_or_eq.1 h with h' | h'
    · have ih := countP_less h' hv hq
      have : q n = p n := by rw [hq n]; simp; intro _ e; omega
      simp only [List.countP_singleton, this]
      omega
    · subst h'
      have h1 : (List.range v).countP q = (List.range v).countP p := by
        apply List.countP_congr
        intro a ha
        rw [hq a]
        have : a ≠ v := by have := List.mem_range.1 ha; omega
        simp [this]
      simp only [List.countP_singleton, h1, hq v, hv]
      simp
theorem contains_iff_gi {G : List Int} {a : Int} : G.contains a = true ↔ ∃ i : Nat, i < G.length ∧ gi G i = a := by
  rw [List.contains_iff_mem]
  constructor
  · intro h
    obtain ⟨i, hi, e⟩ := List.getElem_of_mem h
    exact ⟨i, hi, by rw [gi_nat _ _ hi, e]⟩
  · rintro ⟨i, hi, e⟩
    rw [gi_nat _ _ hi] at e
    rw [← e]
    exact List.getElem_mem hi
theorem nlab_ids (n : Nat) : nlab n (ids n) = n := by
  unfold nlab
  rw [List.countP_eq_length.2, List.length_range]
  intro a ha
  rw [contains_iff_gi]
  exact ⟨a, by rw [ids_length]; exact List.mem_range.1 ha, gi_ids (List.mem_range.1 ha)⟩
theorem nlab_step {n : Nat} {ms : List P2} (hv : Vd n ms) {j : Nat} (hj : j < ms.length) : nlab n (grp n ms (j + 1)) + (if joins n ms j = true then 1 else 0) = nlab n (grp n ms j) := by
  have ih := ginv hv j (by omega)
  have hl := grp_len n ms j
  obtain ⟨f, t, e, hf, ht⟩ := hv (gp ms j) (by rw [gp_nat ms j hj]; exact List.getElem_mem _)
  obtain ⟨a, ha, han, -⟩ := ih.lab f hf
  obtain ⟨b, hb, hbn, -⟩ := ih.lab t ht
  have eG : grp n ms (j + 1) = joinG (grp n ms j) f t := by show joinG _ (gp ms j).1 (gp ms j).2 = _; rw [e]
  have eJ : joins n ms j = (gi (grp n ms j) f != gi (grp n ms j) t) := by unfold joins; rw [e]
  by_cases h : gi (grp n ms j) f = gi (grp n ms j) t
  · rw [eJ, eG, joinG_same h, h]; simp
  · rw [eJ, if_pos (by simpa using h), eG]
    refine countP_less (v := b) hbn ?_ ?_
    · rw [contains_iff_gi]; exact ⟨t, by omega, hb⟩
    · intro x
      rw [Bool.eq_iff_iff, Bool.and_eq_true, contains_iff_gi, contains_iff_gi]
      rw [ha, hb] at h
      constructor
      · rintro ⟨i, hi, ei⟩
        rw [joinG_len] at hi
        rw [gi_joinG hi, ha, hb] at ei
        unfold joinF at ei
        split at ei
        · exact ⟨⟨f, by omega, by rw [ha, ei]⟩, by simp; omega⟩
        · rename_i hne
          refine ⟨⟨i, hi, ei⟩, ?_⟩
          simp only [Bool.not_eq_true', beq_eq_false_iff_ne]
          intro hx
          subst hx
          exact hne ei
      · rintro ⟨⟨i, hi, ei⟩, hx⟩
        refine ⟨i, by rw [joinG_len]; exact hi, ?_⟩
        rw [gi_joinG hi, ha, hb, ei]
        unfold joinF
        rw [if_neg]
        intro hxx
        simp at hx
        omega
def njoin (n : Nat) (ms : List P2) (j : Nat) : Nat := (List.range j).countP (joins n ms)
theorem nlab_at {n : Nat} {ms : List P2} (hv : Vd n ms) : ∀ j, j ≤ ms.length → nlab n (grp n ms j) + njoin n ms j = n
  | 0, _ => by
    show nlab n (ids n) + 0 = n
    rw [nlab_ids]; rfl
  | j + 1, hj => by
    have ih := nlab_at hv j (by omega)
    have hs := nlab_step hv (j := j) (by omega)
    unfold njoin at *
    rw [List.range_succ, List.countP_append, List.countP_singleton]
    omega
theorem nlab_one {n : Nat} {ms : List P2} (hv : Vd n ms) (hn : 0 < n) : nlab n (grp n ms ms.length) = 1 ↔ ∀ i, i < n → Cn ms 0 i := by
  have h := ginv hv ms.length (Nat.le_refl _)
  have hl := grp_len n ms ms.length
  obtain ⟨a, ha, han, -⟩ := h.lab 0 hn
  have hpa : (fun x : Nat => (grp n ms ms.length).contains (x : Int)) a = true := by
    show (grp n ms ms.length).contains (a : Int) = true
    rw [contains_iff_gi]; exact ⟨0, by omega, ha⟩
  have hless := countP_less (p := fun x : Nat => (grp n ms ms.length).contains (x : Int)) (q := fun x : Nat => (grp n ms ms.length).contains (x : Int) && !(x == a)) han hpa (fun _ => rfl)
  have hz : nlab n (grp n ms ms.length) = 1 ↔ (List.range n).countP (fun x : Nat => (grp n ms ms.length).contains (x : Int) && !(x == a)) = 0 := by unfold nlab; omega
  rw [hz, List.countP_eq_zero]
  constructor
  · intro hc i hi
    obtain ⟨b, hb, hbn, -⟩ := h.lab i hi
    have h1 := hc b (List.mem_range.2 hbn)
    rw [← ginv_iff hv hn hi]
    have h2 : (grp n ms ms.length).contains (b : Int) = true := by rw [contains_iff_gi]; exact ⟨i, by omega, hb⟩
    rw [h2] at h1
    have h0 : gi (grp n ms ms.length) (0 : Nat) = a := ha
    rw [h0, hb]
    have : b = a := by simpa using h1
    rw [this]
  · intro hc x hx
    simp only [Bool.and_eq_true, Bool.not_eq_true', beq_eq_false_iff_ne, not_and]
    intro h1 hne
    obtain ⟨i, hi, e⟩ := contains_iff_gi.1 h1
    have h2 := (ginv_iff hv hn (by omega : i < n)).2 (hc i (by omega))
    have h0 : gi (grp n ms ms.length) (0 : Nat) = a := ha
    rw [h0, e] at h2
    omega
/-- with n - 1 pairs: each joins two groups just if all hangs together -/
theorem tree_iff {n : Nat} {ms : List P2} (hv : Vd n ms) (hn : 0 < n) (hm : ms.length = n - 1) : (∀ j, j < ms.length → joins n ms j = true) ↔ ∀ i, i < n → Cn ms 0 i := by
  rw [← nlab_one hv hn]
  have h1 := nlab_at hv ms.length (Nat.le_refl _)
  have h2 : (∀ j, j < ms.length → joins n ms j = true) ↔ njoin n ms ms.length = ms.length := by
    unfold njoin
    have := List.countP_eq_length (p := joins n ms) (l := List.range ms.length)
    rw [List.length_range] at this
    rw [this]
    simp
  rw [h2]
  omega
theorem itB_all {n : Nat} {ms : List P2} (hv : Vd n ms) (hn : 0 < n) : itB ms (n - 1) (2 ^ 0) = 2 ^ n - 1 ↔ ∀ i, i < n → Cn ms 0 i := by
  have hs := itB_sound hv (2 ^ 0) (a := 0) (fun i h => by rw [Nat.testBit_two_pow, decide_eq_true_eq] at h; subst h; exact .refl) (n - 1)
  constructor
  · intro h i hi
    apply hs
    rw [h, Nat.testBit_two_pow_sub_one]
    simpa using hi
  · intro h
    apply Nat.eq_of_testBit_eq
    intro i
    rw [Nat.testBit_two_pow_sub_one]
    rw [Bool.eq_iff_iff, decide_eq_true_eq]
    constructor
    · intro hi
      exact (hs i hi).lt hv hn
    · intro hi
      rcases itB_closed hv hn (n - 1) with ⟨q, hq, hfix⟩ | hc
      · have e := itB_stay hfix (n - 1 - q)
        rw [show q + (n - 1 - q) = n - 1 by omega] at e
        have e2 := itB_stay hfix (n - q)
        rw [show q + (n - q) = n by omega] at e2
        rw [e, ← e2]
        exact (partS_iff hv hn i).2 (h i hi)
      · have hcl := cnt_le n (itB ms (n - 1) (2 ^ 0))
        unfold cnt at hc hcl
        have : (List.range n).countP ((itB ms (n - 1) (2 ^ 0)).testBit ·) = (List.range n).length := by rw [List.length_range]; omega
        rw [List.countP_eq_length] at this
        exact this i (List.mem_range.2 hi)
end Go.Proofs.YtdhmjhoaegdfjaaGreat
