import Derived.Test.YtdhmjhoaegdfjaaGreatT26
import Derived.Test.YtdhmjhoaegdfjaaGreatD42
import Derived.Test.YtdhmjhoaegdfjaaGreatG9
namespace Go.Proofs.YtdhmjhoaegdfjaaGreat.Pl
open Go.Proofs.YtdhmjhoaegdfjaaGreat
/-! What FnWishes asks. -/
theorem gi_ext {a b : List Int} (hl : a.length = b.length) (h : ∀ i, i < a.length → gi a (i : Nat) = gi b (i : Nat)) : a = b := by
  apply List.ext_getElem hl
  intro i h1 h2
  have := h i h1
  rwa [gi_nat _ _ h1, gi_nat _ _ h2] at this
/-- a list in which only the wishes of some faces are left -/
def onlyN (xs bad : List Int) : Nat → List Int
  | 0 => List.replicate xs.length (-1)
  | j + 1 => (onlyN xs bad j).set (gi bad (j : Nat)).toNat (gi xs (gi bad (j : Nat)))
theorem onlyN_len (xs bad : List Int) : ∀ j, (onlyN xs bad j).length = xs.length
  | 0 => List.length_replicate
  | j + 1 => by
    have := onlyN_len xs bad j
    show ((onlyN xs bad j).set _ _).length = _
    rw [List.length_set, this]
theorem onlyN_gi {xs bad : List Int} (hb : ∀ j : Nat, j < bad.length → ∃ a : Nat, gi bad (j : Nat) = a ∧ a < xs.length) : ∀ j : Nat, j ≤ bad.length → ∀ i, i < xs.length →
    (gi (onlyN xs bad j) (i : Nat) = gi xs (i : Nat) ∧ ∃ k : Nat, k < j ∧ gi bad (k : Nat) = (i : Int)) ∨ (gi (onlyN xs bad j) (i : Nat) = -1 ∧ ∀ k : Nat, k < j → gi bad (k : Nat) ≠ (i : Int))
  | 0, _, i, hi => .inr ⟨gi_rep hi, fun k hk => by omega⟩
  | j + 1, hj, i, hi => by
    obtain ⟨a, ea, ha⟩ := hb j (by omega)
    have e : onlyN xs bad (j + 1) = (onlyN xs bad j).set a (gi xs (a : Nat)) := by
      show (onlyN xs bad j).set (gi bad (j : Nat)).toNat (gi xs (gi bad (j : Nat))) = _
      rw [ea, Int.toNat_natCast]
    rw [e, gi_put (by rw [onlyN_len]; exact hi)]
    by_cases c : i = a
    · subst c
      rw [if_pos rfl]
      exact .inl ⟨rfl, j, by omega, ea⟩
    · rw [if_neg c]
      rcases onlyN_gi hb j (by omega) i hi with ⟨h1, k, h2, h3⟩ | ⟨h1, h2⟩
      · exact .inl ⟨h1, k, by omega, h3⟩
      · refine .inr ⟨h1, fun k hk => ?_⟩
        rcases Nat.lt_succ_iff_lt_or_eq.1 hk with g | rfl
        · exact h2 k g
        · rw [ea]; omega
theorem cntW_flt (L : List Int) (h : ∀ i, i < L.length → -1 ≤ gi L (i : Nat)) : cntW L = (flt (bwP L) L.length).length := by
  have key : ∀ n, n ≤ L.length → cntW (L.take n) = (flt (bwP L) n).length := by
    intro n
    induction n with
    | zero => intro _; rfl
    | succ n ih =>
      intro hn
      have hg := h n (by omega)
      have hgn : gi L (n : Nat) = L[n] := gi_nat _ _ (by omega)
      rw [List.take_succ_eq_append_getElem (by omega), cntW_snoc, ih (by omega), ← hgn]
      by_cases c : 0 ≤ gi L (n : Nat)
      · rw [flt_yes (by unfold bwP; exact decide_eq_true c), if_pos (by simp; omega), List.length_append]; rfl
      · rw [flt_no (by unfold bwP; exact decide_eq_false c), if_neg (by simp; omega)]; omega
  have := key L.length (Nat.le_refl _)
  rwa [List.take_length] at this
section
variable {ns ls : List P2}
theorem fill_mono {xs ys : List Int} {n : Nat} (hx : vWishesOk ns ls xs = true) (hy : vWishesOk ns ls ys = true) (hn : wi (n : Int) 1 6 = true) (hs : ∀ i, i < xs.length → 0 ≤ gi ys (i : Nat) → gi ys (i : Nat) = gi xs (i : Nat))
    (h : (vFillWishes ns ls xs n).2 = true) : (vFillWishes ns ls ys n).2 = true := by
  obtain ⟨L, hL⟩ := (fill_true hx hn).1 h
  exact (fill_true hy hn).2 ⟨L, hL.mono (Nat.le_refl _) fun i hi => hs i (by rw [(wishes_ok hx).2]; exact hi)⟩
theorem bwR_bit {n : Nat} {xs : List Int} (hx : vWishesOk ns ls xs = true) (hn : wi (n : Int) 1 6 = true) (hf : (vFillWishes ns ls xs n).2 = false) : ∀ r, r ≤ xs.length →
    (vFillWishes ns ls (bwR ns ls n xs r) n).2 = false ∧ (∀ i, i < xs.length → 0 ≤ gi (bwR ns ls n xs r) (i : Nat) → gi (bwR ns ls n xs r) (i : Nat) = gi xs (i : Nat)) ∧
    (∀ i, i < xs.length → xs.length ≤ i + r → 0 ≤ gi (bwR ns ls n xs r) (i : Nat) → (vFillWishes ns ls ((bwR ns ls n xs r).set i (-1)) n).2 = true)
  | 0, _ => ⟨hf, fun _ _ _ => rfl, fun i hi h => by omega⟩
  | r + 1, hr => by
    obtain ⟨h1, h2, h3⟩ := bwR_bit hx hn hf r (by omega)
    have hl := bwR_len ns ls n xs r
    have hok := bwR_ok (n : Int) hx r
    have e : bwR ns ls n xs (r + 1) = bwS ns ls n (bwR ns ls n xs r) (xs.length - 1 - r) := rfl
    rw [e]
    have hfl : xs.length - 1 - r < (bwR ns ls n xs r).length := by omega
    have hff : ∀ i, i < xs.length → xs.length ≤ i + (r + 1) → i = xs.length - 1 - r ∨ xs.length ≤ i + r := fun i hi => by omega
    generalize xs.length - 1 - r = f at *
    generalize bwR ns ls n xs r = L at *
    by_cases c0 : gi L (f : Nat) < 0
    · rw [bwS_neg c0]
      refine ⟨h1, h2, fun i hi hq hp => ?_⟩
      rcases hff i hi hq with rfl | c
      · omega
      · exact h3 i hi c hp
    · by_cases c1 : (vFillWishes ns ls (L.set f (-1)) n).2 = true
      · rw [bwS_yes c1]
        refine ⟨h1, h2, fun i hi hq hp => ?_⟩
        rcases hff i hi hq with rfl | c
        · exact c1
        · exact h3 i hi c hp
      · have c1 := eq_false_of_ne_true c1
        rw [bwS_no c1 hok hfl]
        have hok2 : vWishesOk ns ls (L.set f (-1)) = true := wok_set hok (by decide) (by decide)
        refine ⟨c1, fun i hi hp => ?_, fun i hi hq hp => ?_⟩
        · rw [gi_put (by omega)] at hp ⊢
          by_cases c2 : i = f
          · rw [if_pos c2] at hp; omega
          · rw [if_neg c2] at hp ⊢; exact h2 i hi hp
        · rw [gi_put (by omega)] at hp
          by_cases c2 : i = f
          · rw [if_pos c2] at hp; omega
          · rw [if_neg c2] at hp
            rcases hff i hi hq with e2 | c
            · exact absurd e2 c2
            · refine fill_mono (xs := L.set i (-1)) (wok_set hok (by decide) (by decide)) (wok_set hok2 (by decide) (by decide)) hn (fun j hj => ?_) (h3 i hi c hp)
              rw [List.length_set] at hj
              rw [gi_put (by rw [List.length_set]; exact hj), gi_put hj, gi_put hj]
              by_cases c3 : j = i
              · rw [if_pos c3, if_pos c3]; exact fun _ => rfl
              · rw [if_neg c3, if_neg c3]
                by_cases c4 : j = f
                · rw [if_pos c4]; intro hh; omega
                · rw [if_neg c4]; exact fun _ => rfl
/-- the wishes that contradict each other -/
theorem bad_ok {n : Nat} {xs : List Int} (hx : vWishesOk ns ls xs = true) (hn : wi (n : Int) 1 6 = true) (hf : (vFillWishes ns ls xs n).2 = false) :
    (∀ j : Nat, j < (vBadWishes ns ls xs n).length → ∃ a : Nat, gi (vBadWishes ns ls xs n) (j : Nat) = a ∧ a < xs.length ∧
      (vFillWishes ns ls ((onlyN xs (vBadWishes ns ls xs n) (vBadWishes ns ls xs n).length).set a (-1)) n).2 = true) ∧
    (vFillWishes ns ls (onlyN xs (vBadWishes ns ls xs n) (vBadWishes ns ls xs n).length) n).2 = false ∧
    vWishesOk ns ls (onlyN xs (vBadWishes ns ls xs n) (vBadWishes ns ls xs n).length) = true ∧
    cntW (onlyN xs (vBadWishes ns ls xs n) (vBadWishes ns ls xs n).length) = ((vBadWishes ns ls xs n).length : Nat) ∧
    (n = 4 → 0 < (vBadWishes ns ls xs n).length) := by
  have hw := (wishes_ok hx).1
  have hF := (wishes_ok hx).2
  obtain ⟨h1, h2, h3⟩ := bwR_bit hx hn hf xs.length (Nat.le_refl _)
  have hl := bwR_len ns ls n xs xs.length
  have hok := bwR_ok (n : Int) hx xs.length
  have hB : vBadWishes ns ls xs n = flt (bwP (bwR ns ls n xs xs.length)) xs.length := by
    unfold vBadWishes
    rw [if_pos ⟨hx, hn, hf⟩]
  have hmem : ∀ i : Nat, (i : Int) ∈ vBadWishes ns ls xs n ↔ i < xs.length ∧ 0 ≤ gi (bwR ns ls n xs xs.length) (i : Nat) := by
    intro i
    rw [hB, flt_mem]
    unfold bwP
    constructor
    · rintro ⟨k, e, h4, h5⟩
      obtain rfl : i = k := by omega
      exact ⟨h4, of_decide_eq_true h5⟩
    · rintro ⟨h4, h5⟩
      exact ⟨i, rfl, h4, decide_eq_true h5⟩
  have hgi : ∀ j : Nat, j < (vBadWishes ns ls xs n).length → ∃ a : Nat, gi (vBadWishes ns ls xs n) (j : Nat) = a ∧ a < xs.length ∧ 0 ≤ gi (bwR ns ls n xs xs.length) (a : Nat) := by
    intro j hj
    have hm : (vBadWishes ns ls xs n)[j] ∈ vBadWishes ns ls xs n := List.getElem_mem hj
    rw [← gi_nat _ _ hj] at hm
    have hm2 := hm
    rw [hB, flt_mem] at hm
    obtain ⟨a, e, ha, _⟩ := hm
    rw [← hB] at e
    rw [e] at hm2
    exact ⟨a, e, ha, ((hmem a).1 hm2).2⟩
  have hO : onlyN xs (vBadWishes ns ls xs n) (vBadWishes ns ls xs n).length = bwR ns ls n xs xs.length := by
    refine gi_ext (by rw [onlyN_len, hl]) fun i hi => ?_
    rw [onlyN_len] at hi
    have hge := ((wishes_iff hw).1 hok).2 i (by omega)
    rcases onlyN_gi (fun j hj => by obtain ⟨a, e, ha, _⟩ := hgi j hj; exact ⟨a, e, ha⟩) _ (Nat.le_refl _) i hi with ⟨e, k, hk, ek⟩ | ⟨e, hno⟩
    · obtain ⟨a, ea, _, hp⟩ := hgi k hk
      obtain rfl : a = i := by omega
      rw [e, h2 a hi hp]
    · rw [e]
      by_cases c : 0 ≤ gi (bwR ns ls n xs xs.length) (i : Nat)
      · obtain ⟨k, hk, ek⟩ := List.mem_iff_getElem.1 ((hmem i).2 ⟨hi, c⟩)
        exact absurd (by rw [gi_nat _ _ hk]; exact ek) (hno k hk)
      · omega
  rw [hO]
  refine ⟨fun j hj => ?_, h1, hok, ?_, fun h4 => ?_⟩
  · obtain ⟨a, ea, ha, hp⟩ := hgi j hj
    exact ⟨a, ea, ha, h3 a ha (by omega) hp⟩
  · rw [cntW_flt _ (fun i hi => (((wishes_iff hw).1 hok).2 i hi).1), hl, hB]
  · apply Classical.byContradiction
    intro hc
    obtain ⟨col, q1, q2⟩ := four_fit hw
    have hfit := tab_fit hw q1 q2
    rw [(fill_true hok hn).2 ⟨_, hfit.mono (by omega) fun i hi hp => ?_⟩] at h1
    · cases h1
    · obtain ⟨k, hk, _⟩ := List.mem_iff_getElem.1 ((hmem i).2 ⟨by omega, hp⟩)
      omega
/-- the wishes fulfilled -/
theorem fill_ok3 {n : Nat} {xs : List Int} (h : (vFillWishes ns ls xs n).2 = true) : whole ns ls = true ∧ (vFillWishes ns ls xs n).1.length = xs.length ∧
    (∀ k, k < xs.length → 0 ≤ gi xs (k : Nat) → gi (vFillWishes ns ls xs n).1 (k : Nat) = gi xs (k : Nat)) ∧ (∀ k, k < xs.length → 0 ≤ gi (vFillWishes ns ls xs n).1 (k : Nat) ∧ gi (vFillWishes ns ls xs n).1 (k : Nat) < n) ∧
    vAreProper ns ls (vFillWishes ns ls xs n).1 = true ∧ (vBadWishes ns ls xs n).length = 0 := by
  obtain ⟨h1, h2, h3⟩ := fill_fit h
  obtain ⟨hw, hl⟩ := wishes_ok h1
  have hn := wi_iff.1 h2
  refine ⟨hw, by rw [h3.len, hl], fun k hk hp => (h3.wi_ k (by omega) hp).symm, fun k hk => h3.bd k (by omega), h3.proper hw (by omega), ?_⟩
  unfold vBadWishes
  rw [if_neg (fun e => by rw [h] at e; exact absurd e.2.2 (by decide))]
  rfl
theorem alC_true {q : Nat → Bool} : ∀ m, alC q m = true → ∀ i, i < m → q i = true
  | 0, _, i, hi => by omega
  | m + 1, h, i, hi => by
    have h' : (alC q m && q m) = true := h
    rw [Bool.and_eq_true] at h'
    rcases Nat.lt_succ_iff_lt_or_eq.1 hi with g | rfl
    · exact alC_true m h'.1 i g
    · exact h'.2
/-- a forced face can not be changed -/
theorem forced_ok {n : Nat} {xs : List Int} (hn2 : 2 ≤ n) (h : (vFillWishes ns ls xs n).2 = true) {k : Nat} (hk : k < (vForcedFaces ns ls xs n).length) : ∃ a : Nat, gi (vForcedFaces ns ls xs n) (k : Nat) = a ∧ a < xs.length ∧ gi xs (a : Nat) = -1 ∧
    (vFillWishes ns ls (xs.set a ((gi (vFillWishes ns ls xs n).1 (a : Nat) + 1) % (n : Int))) n).2 = false := by
  obtain ⟨h1, h2, h3⟩ := fill_fit h
  obtain ⟨hw, hl⟩ := wishes_ok h1
  have hm : (vForcedFaces ns ls xs n)[k] ∈ vForcedFaces ns ls xs n := List.getElem_mem hk
  rw [← gi_nat _ _ hk] at hm
  unfold vForcedFaces at hm
  rw [if_pos h, flt_mem] at hm
  obtain ⟨a, e, ha, hp⟩ := hm
  have e' : gi (vForcedFaces ns ls xs n) (k : Nat) = a := by
    unfold vForcedFaces
    rw [if_pos h]; exact e
  unfold ffP at hp
  rw [Bool.and_eq_true, decide_eq_true_eq, Int.toNat_natCast] at hp
  have hge := ((wishes_iff hw).1 h1).2 a ha
  obtain ⟨c0, c1⟩ := h3.bd a (by omega)
  refine ⟨a, e', ha, by omega, ?_⟩
  obtain ⟨c, hc⟩ := Int.eq_ofNat_of_zero_le c0
  have hx : (gi (vFillWishes ns ls xs n).1 (a : Nat) + 1) % (n : Int) = (((c + 1) % n : Nat) : Int) := by rw [hc]; norm_cast
  have hlt : (c + 1) % n < n := Nat.mod_lt _ (by omega)
  have hq := alC_true n hp.2 ((c + 1) % n) hlt
  rw [hx]
  unfold ffQ at hq
  rw [Bool.or_eq_true, beq_iff_eq, hc] at hq
  rcases hq with hq | hq
  · exfalso
    have hcn : c < n := by omega
    rcases Nat.lt_or_ge (c + 1) n with g | g
    · rw [Nat.mod_eq_of_lt g] at hq; omega
    · rw [show c + 1 = n by omega, Nat.mod_self] at hq; omega
  · simpa using hq
theorem forced_none {n : Int} {xs : List Int} (h : (vFillWishes ns ls xs n).2 = false) : (vForcedFaces ns ls xs n).length = 0 := by
  unfold vForcedFaces
  rw [if_neg (by rw [h]; decide)]
  rfl
theorem fill_bad {n : Int} {xs : List Int} (h : vWishesOk ns ls xs = false) : (vFillWishes ns ls xs n).2 = false := by
  unfold vFillWishes
  rw [if_neg (fun e => by rw [h] at e; exact absurd e.1 (by decide))]
end
end Go.Proofs.YtdhmjhoaegdfjaaGreat.Pl
