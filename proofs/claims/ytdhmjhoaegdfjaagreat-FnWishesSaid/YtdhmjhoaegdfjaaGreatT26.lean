import Derived.Test.YtdhmjhoaegdfjaaGreatT25
import Derived.Test.YtdhmjhoaegdfjaaGreatT21
import Derived.Test.YtdhmjhoaegdfjaaGreatD18
import Derived.Test.YtdhmjhoaegdfjaaGreatD40
namespace Go.Proofs.YtdhmjhoaegdfjaaGreat.Pl
open Go.Proofs.YtdhmjhoaegdfjaaGreat
/-! Colors of a whole window: what the search finds. -/
section
variable {ns ls : List P2}
theorem vF_eq3 (hw : whole ns ls = true) : vFaces ns ls = fcs ns ls := by unfold vFaces; rw [if_pos hw]
theorem vS_gi0 (hw : whole ns ls = true) {k : Nat} (hk : k < ls.length) : gi (vSides ns ls) (2 * (k : Int)) = (sd (fcs ns ls) (2 * k) : Int) ∧ gi (vSides ns ls) (2 * (k : Int) + 1) = (sd (fcs ns ls) (2 * k + 1) : Int) := by
  have e1 := vSides_gi hw (d := 2 * k) (by omega)
  have e2 := vSides_gi hw (d := 2 * k + 1) (by omega)
  rw [show ((2 * k : Nat) : Int) = 2 * (k : Int) by omega] at e1
  rw [show ((2 * k + 1 : Nat) : Int) = 2 * (k : Int) + 1 by omega] at e2
  exact ⟨e1, e2⟩
theorem nb_iff (hw : whole ns ls = true) {f g : Nat} : (nbN ns ls f).testBit g = true ↔ ∃ k, k < ls.length ∧ sd (fcs ns ls) (2 * k) ≠ sd (fcs ns ls) (2 * k + 1) ∧
    ((sd (fcs ns ls) (2 * k) = f ∧ sd (fcs ns ls) (2 * k + 1) = g) ∨ (sd (fcs ns ls) (2 * k) = g ∧ sd (fcs ns ls) (2 * k + 1) = f)) := by
  have key := nbS_bit (fun j hj => side_of (ns := ns) (ls := ls) hw hj) f g ls.length (Nat.le_refl _)
  unfold nbN
  rw [key]
  refine exists_congr fun k => and_congr_right fun hk => ?_
  obtain ⟨e1, e2⟩ := vS_gi0 (ns := ns) hw hk
  rw [e1, e2]
  omega
theorem nb_lt (hw : whole ns ls = true) {f g : Nat} (h : (nbN ns ls f).testBit g = true) : f < (vFaces ns ls).length ∧ g < (vFaces ns ls).length ∧ f ≠ g := by
  obtain ⟨k, hk, hne, hc⟩ := (nb_iff hw).1 h
  have h1 := (sd_spec (ns := ns) (ls := ls) (d := 2 * k) (by omega)).1
  have h2 := (sd_spec (ns := ns) (ls := ls) (d := 2 * k + 1) (by omega)).1
  rw [vF_eq3 hw]
  omega
/-- faces beside each other differ -/
def Prp (ns ls : List P2) (L : List Int) : Prop := ∀ f g : Nat, (nbN ns ls f).testBit g = true → gi L (f : Nat) ≠ gi L (g : Nat)
theorem ffst_neg {p : Nat → Bool} {n : Nat} : ffst p n < 0 ↔ ∀ j, j < n → p j = false := by
  constructor
  · intro h j hj
    unfold ffst at h
    cases hq : (List.range n).find? p with
    | none =>
      rw [List.find?_eq_none] at hq
      exact eq_false_of_ne_true (hq j (List.mem_range.2 hj))
    | some i => rw [hq] at h; exact absurd h (by show ¬ ((i : Int) < 0); omega)
  · intro h
    rw [ffst_no h]; omega
theorem ffst_spec {p : Nat → Bool} {n : Nat} (h : ∃ i, i < n ∧ p i = true) : ∃ i, i < n ∧ ffst p n = (i : Int) ∧ p i = true ∧ ∀ j, j < i → p j = false := by
  unfold ffst
  cases hq : (List.range n).find? p with
  | none =>
    rw [List.find?_eq_none] at hq
    obtain ⟨i, h1, h2⟩ := h
    exact absurd h2 (hq i (List.mem_range.2 h1))
  | some i =>
    obtain ⟨h1, h2, h3⟩ := find_range hq
    exact ⟨i, h2, rfl, h1, h3⟩
theorem prp_iff (hw : whole ns ls = true) {L : List Int} : (∀ j, j < ls.length → clP (vSides ns ls) L j = false) ↔ Prp ns ls L := by
  have key : ∀ j, j < ls.length → (clP (vSides ns ls) L j = false ↔ (sd (fcs ns ls) (2 * j) ≠ sd (fcs ns ls) (2 * j + 1) → gi L (sd (fcs ns ls) (2 * j) : Nat) ≠ gi L (sd (fcs ns ls) (2 * j + 1) : Nat))) := by
    intro j hj
    obtain ⟨e1, e2⟩ := vS_gi0 (ns := ns) hw hj
    unfold clP
    rw [e1, e2]
    by_cases c : sd (fcs ns ls) (2 * j) = sd (fcs ns ls) (2 * j + 1)
    · simp [c]
    · rw [decide_eq_true (show (sd (fcs ns ls) (2 * j) : Int) ≠ (sd (fcs ns ls) (2 * j + 1) : Int) by omega), Bool.true_and]
      simp [c]
  constructor
  · intro h f g hb
    obtain ⟨k, hk, hne, hc⟩ := (nb_iff hw).1 hb
    have := (key k hk).1 (h k hk) hne
    rcases hc with ⟨rfl, rfl⟩ | ⟨rfl, rfl⟩
    · exact this
    · exact fun e => this e.symm
  · intro h j hj
    exact (key j hj).2 fun hne => h _ _ ((nb_iff hw).2 ⟨j, hj, hne, .inl ⟨rfl, rfl⟩⟩)
theorem colors_iff (hw : whole ns ls = true) {L : List Int} : vColorsOk ns ls L = true ↔ L.length = (vFaces ns ls).length ∧ ∀ i, i < L.length → 0 ≤ gi L (i : Nat) ∧ gi L (i : Nat) ≤ 5 := by
  unfold vColorsOk
  rw [hw, Bool.true_and, Bool.and_eq_true, decide_eq_true_eq]
  refine and_congr_right fun _ => ?_
  unfold aw
  rw [List.all_eq_true]
  constructor
  · intro h i hi
    have := h i (List.mem_range.2 hi)
    rwa [wi_iff] at this
  · intro h i hi
    rw [wi_iff]
    exact h i (List.mem_range.1 hi)
theorem proper_iff (hw : whole ns ls = true) {L : List Int} : vAreProper ns ls L = true ↔ (L.length = (vFaces ns ls).length ∧ ∀ i, i < L.length → 0 ≤ gi L (i : Nat) ∧ gi L (i : Nat) ≤ 5) ∧ Prp ns ls L := by
  unfold vAreProper
  rw [Bool.and_eq_true, decide_eq_true_eq, ← colors_iff hw]
  refine and_congr_right fun hc => ?_
  unfold vClashOf
  rw [if_pos hc, ffst_neg, prp_iff hw]
/-- L fulfils the wishes with n colors -/
structure Fit (ns ls : List P2) (wish : List Int) (n : Nat) (L : List Int) : Prop where
  len : L.length = (vFaces ns ls).length
  bd : ∀ i, i < (vFaces ns ls).length → 0 ≤ gi L (i : Nat) ∧ gi L (i : Nat) < n
  wi_ : ∀ i, i < (vFaces ns ls).length → 0 ≤ gi wish (i : Nat) → gi wish (i : Nat) = gi L (i : Nat)
  prp : Prp ns ls L
theorem cpl_fit (hw : whole ns ls = true) {wish L : List Int} {n : Nat} : Cpl (nbN ns ls) wish n [] (vFaces ns ls).length L ↔ Fit ns ls wish n L := by
  rw [cpl_iff]
  constructor
  · rintro ⟨hl, h⟩
    refine ⟨hl, fun i hi => ?_, fun i hi hp => ?_, fun f g hb => ?_⟩
    · obtain ⟨c, h1, h2, _⟩ := h i hi
      omega
    · obtain ⟨c, h1, h2, h3, _⟩ := h i hi
      rw [h2]; exact h3 hp
    · obtain ⟨h1, h2, h3⟩ := nb_lt hw hb
      rcases Nat.lt_or_gt_of_ne h3 with c | c
      · obtain ⟨x, _, e, _, h4⟩ := h g h2
        rw [e]
        exact h4 f c (by rw [nbN_sym hw]; exact hb)
      · obtain ⟨x, _, e, _, h4⟩ := h f h1
        rw [e]
        exact fun e2 => h4 g c hb e2.symm
  · rintro ⟨hl, h1, h2, h3⟩
    refine ⟨hl, fun i hi => ?_⟩
    obtain ⟨a, b⟩ := h1 i hi
    obtain ⟨c, hc⟩ := Int.eq_ofNat_of_zero_le a
    refine ⟨c, by omega, hc, fun hp => by rw [← hc]; exact h2 i hi hp, fun j _ hb => ?_⟩
    rw [← hc]
    exact fun e => h3 i j hb e.symm
theorem wishes_iff (hw : whole ns ls = true) {L : List Int} : vWishesOk ns ls L = true ↔ L.length = (vFaces ns ls).length ∧ ∀ i, i < L.length → -1 ≤ gi L (i : Nat) ∧ gi L (i : Nat) ≤ 5 := by
  unfold vWishesOk
  rw [hw, Bool.true_and, Bool.and_eq_true, decide_eq_true_eq]
  refine and_congr_right fun _ => ?_
  unfold aw
  rw [List.all_eq_true]
  constructor
  · intro h i hi
    have := h i (List.mem_range.2 hi)
    rwa [wi_iff] at this
  · intro h i hi
    rw [wi_iff]
    exact h i (List.mem_range.1 hi)
theorem fill_true {xs : List Int} {k : Nat} (hok : vWishesOk ns ls xs = true) (hk : wi (k : Int) 1 6 = true) : (vFillWishes ns ls xs k).2 = true ↔ ∃ L, Fit ns ls xs k L := by
  obtain ⟨hw, hl⟩ := wishes_ok hok
  unfold vFillWishes
  rw [if_pos ⟨hok, hk⟩, Int.toNat_natCast, hl]
  show (sr tell1 (nbN ns ls) xs k (vFaces ns ls).length none []).2 = true ↔ _
  rw [sr_true]
  exact exists_congr fun L => cpl_fit hw
theorem fill_fit {xs : List Int} {k : Nat} (h : (vFillWishes ns ls xs k).2 = true) : vWishesOk ns ls xs = true ∧ wi (k : Int) 1 6 = true ∧ Fit ns ls xs k (vFillWishes ns ls xs k).1 := by
  by_cases c : vWishesOk ns ls xs = true ∧ wi (k : Int) 1 6 = true
  · refine ⟨c.1, c.2, ?_⟩
    obtain ⟨hw, hl⟩ := wishes_ok c.1
    unfold vFillWishes at h ⊢
    rw [if_pos c, Int.toNat_natCast, hl] at h
    rw [if_pos c, Int.toNat_natCast, hl]
    obtain ⟨L, e1, e2⟩ := sr_cpl _ _ _ h
    have e : (srL (nbN ns ls) xs k (vFaces ns ls).length []) = L := by
      unfold srL
      rw [e1]; rfl
    show Fit ns ls xs k (srL (nbN ns ls) xs k (vFaces ns ls).length [])
    rw [e]
    exact (cpl_fit hw).1 e2
  · unfold vFillWishes at h
    rw [if_neg c] at h
    cases h
theorem Fit.mono {xs ys L : List Int} {k k' : Nat} (h : Fit ns ls xs k L) (hk : k ≤ k') (hx : ∀ i, i < (vFaces ns ls).length → 0 ≤ gi ys (i : Nat) → gi ys (i : Nat) = gi xs (i : Nat)) : Fit ns ls ys k' L :=
  ⟨h.len, fun i hi => by have := h.bd i hi; omega, fun i hi hp => by
    have e := hx i hi hp
    rw [e]
    exact h.wi_ i hi (by omega), h.prp⟩
theorem Fit.proper (hw : whole ns ls = true) {xs L : List Int} {k : Nat} (h : Fit ns ls xs k L) (hk : k ≤ 6) : vAreProper ns ls L = true :=
  (proper_iff hw).2 ⟨⟨h.len, fun i hi => by have := h.bd i (by rw [← h.len]; exact hi); omega⟩, h.prp⟩
theorem free_fit {L : List Int} {k : Nat} (h1 : L.length = (vFaces ns ls).length) (h2 : ∀ i, i < (vFaces ns ls).length → 0 ≤ gi L (i : Nat) ∧ gi L (i : Nat) < k) (h3 : Prp ns ls L) : Fit ns ls (List.replicate (vFaces ns ls).length (-1)) k L :=
  ⟨h1, h2, fun i hi hp => by rw [gi_rep hi] at hp; omega, h3⟩
/-- four colors are enough -/
theorem four_fit (hw : whole ns ls = true) : ∃ col : Nat → Nat, (∀ f, f < (vFaces ns ls).length → col f < 4) ∧ ∀ f g : Nat, (nbN ns ls f).testBit g = true → col f ≠ col g := by
  obtain ⟨col, h1, h2⟩ := four_window hw
  refine ⟨col, fun f hf => h1 f (by rw [← vF_eq3 hw]; exact hf), fun f g hb => ?_⟩
  obtain ⟨k, hk, hne, hc⟩ := (nb_iff hw).1 hb
  have := h2 k hk hne
  rcases hc with ⟨rfl, rfl⟩ | ⟨rfl, rfl⟩
  · exact this
  · exact fun e => this e.symm
theorem tab_fit (hw : whole ns ls = true) {col : Nat → Nat} {k : Nat} (h1 : ∀ f, f < (vFaces ns ls).length → col f < k) (h2 : ∀ f g : Nat, (nbN ns ls f).testBit g = true → col f ≠ col g) :
    Fit ns ls (List.replicate (vFaces ns ls).length (-1)) k (tab (vFaces ns ls).length (fun f => (col f : Nat))) :=
  free_fit (tab_len _ _) (fun i hi => by rw [tab_gi _ hi]; have := h1 i hi; omega) (fun f g hb => by
    obtain ⟨a, b, _⟩ := nb_lt hw hb
    rw [tab_gi _ a, tab_gi _ b]
    have := h2 f g hb
    omega)
theorem with_true (hw : whole ns ls = true) {k : Nat} (hk : wi (k : Int) 1 6 = true) : (vColorWith ns ls k).2 = true ↔ ∃ L, Fit ns ls (List.replicate (vFaces ns ls).length (-1)) k L := by
  unfold vColorWith
  exact fill_true (by rw [wok_rep]; exact hw) hk
theorem with_fit {k : Nat} (h : (vColorWith ns ls k).2 = true) : wi (k : Int) 1 6 = true ∧ Fit ns ls (List.replicate (vFaces ns ls).length (-1)) k (vColorWith ns ls k).1 := by
  unfold vColorWith at h ⊢
  exact (fill_fit h).2
theorem with4 (hw : whole ns ls = true) : (vColorWith ns ls 4).2 = true := by
  obtain ⟨col, h1, h2⟩ := four_fit hw
  exact (with_true hw (k := 4) (by decide)).2 ⟨_, tab_fit hw h1 h2⟩
/-- the least number of colors -/
theorem fewest_ok (hw : whole ns ls = true) : ∃ n : Nat, vFewestColors ns ls = n ∧ 1 ≤ n ∧ n ≤ 4 ∧ (vColorWith ns ls n).2 = true ∧ ∀ k : Nat, k < n → (vColorWith ns ls k).2 = false := by
  obtain ⟨i, h1, h2, h3, h4⟩ := ffst_spec (p := fwP ns ls) (n := 6) ⟨3, by omega, with4 hw⟩
  have h5 : i ≤ 3 := by
    apply Classical.byContradiction
    intro hc
    have := h4 3 (by omega)
    have e : fwP ns ls 3 = true := with4 hw
    rw [e] at this
    cases this
  refine ⟨i + 1, ?_, by omega, by omega, ?_, fun k hk => ?_⟩
  · unfold vFewestColors
    rw [h2, if_neg (by omega)]; omega
  · have : (vColorWith ns ls ((i : Int) + 1)).2 = true := h3
    rwa [show ((i + 1 : Nat) : Int) = (i : Int) + 1 by omega]
  · rcases Nat.eq_zero_or_pos k with rfl | c
    · cases hq : (vColorWith ns ls ((0 : Nat) : Int)).2 with
      | false => rfl
      | true => exact absurd (with_fit hq).1 (by decide)
    · have : (vColorWith ns ls (((k - 1 : Nat) : Int) + 1)).2 = false := h4 (k - 1) (by omega)
      rwa [show (((k - 1 : Nat) : Int) + 1) = (k : Int) by omega] at this
end
end Go.Proofs.YtdhmjhoaegdfjaaGreat.Pl
