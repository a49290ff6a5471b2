import Derived.Test.YtpainmnekgnpeaaP5
import Derived.Test.YtpainmnekgnpeaaA4
namespace Go.Proofs.Ytpainmnekgnpeaa

/-- 0: the direction from a to b points up (or to the right) -/
def halfp (a b : P2) : Int := if a.2 < b.2 ∨ (b.2 = a.2 ∧ a.1 < b.1) then 0 else 1
/-- b comes before c around a -/
def bfa (a b c : P2) : Bool := if halfp a b = halfp a c then decide (0 < turn0 a b c) else decide (halfp a b < halfp a c)

/-- the ends of dart d -/
def dEnds (ls : List P2) (d : Nat) : P2 := if d % 2 = 1 then ((gp ls (d / 2 : Nat)).2, (gp ls (d / 2 : Nat)).1) else gp ls (d / 2 : Nat)


/-! ### lists of numbers -/
theorem nperm_range {p : Nat → Bool} (j : Nat) : ((List.range j).filter p).Nodup := List.Pairwise.filter _ List.nodup_range
theorem getD_at (l : List Nat) {i : Nat} (h : i < l.length) : l.getD i 0 = l[i] := by simp [h]
def nl (l : List Nat) : List Int := l.map (fun i : Nat => (i : Int))
theorem nl_len (l : List Nat) : (nl l).length = l.length := by simp [nl]
theorem nl_gi (l : List Nat) {j : Nat} (h : j < l.length) : gi (nl l) j = (l.getD j 0 : Nat) := by
  rw [gi_nat _ _ (by rw [nl_len]; exact h)]
  simp [nl, h]
theorem nl_snoc (l : List Nat) (x : Nat) : nl (l ++ [x]) = nl l ++ [(x : Int)] := by simp [nl]

/-! ### insertion from the right -/
def insPos (lt : Nat → Nat → Bool) (d : Nat) (l : List Nat) : Nat → Nat
  | 0 => 0
  | a + 1 => if lt d (l.getD a 0) = true then insPos lt d l a else a + 1
theorem insPos_le (lt : Nat → Nat → Bool) (d : Nat) (l : List Nat) : ∀ a, insPos lt d l a ≤ a
  | 0 => Nat.le_refl _
  | a + 1 => by
    unfold insPos
    split
    · exact Nat.le_trans (insPos_le lt d l a) (by omega)
    · omega
def ins (lt : Nat → Nat → Bool) (d : Nat) (l : List Nat) : List Nat := l.take (insPos lt d l l.length) ++ d :: l.drop (insPos lt d l l.length)
theorem ins_perm (lt : Nat → Nat → Bool) (d : Nat) (l : List Nat) : (ins lt d l).Perm (d :: l) := by
  unfold ins
  refine List.perm_middle.trans ?_
  rw [List.take_append_drop]

def dAt (ls : List P2) (k : Int) (j : Nat) : List Nat := (List.range j).filter (fun d => decide ((dEnds ls d).1 = k))
def dlt (ns ls : List P2) (k : Int) (d x : Nat) : Bool := bfa (gp ns k) (gp ns (dEnds ls d).2) (gp ns (dEnds ls x).2)
/-- the darts at node k among the first j, in their order -/
def arnN (ns ls : List P2) (k : Int) : Nat → List Nat
  | 0 => []
  | j + 1 => if (dEnds ls j).1 = k then ins (dlt ns ls k) j (arnN ns ls k j) else arnN ns ls k j
def arnd (ns ls : List P2) (k : Int) : List Nat := arnN ns ls k (2 * ls.length)
theorem arnN_perm (ns ls : List P2) (k : Int) : ∀ j, (arnN ns ls k j).Perm (dAt ls k j)
  | 0 => .refl _
  | j + 1 => by
    have ih := arnN_perm ns ls k j
    unfold arnN dAt
    rw [List.range_succ, List.filter_append]
    by_cases h : (dEnds ls j).1 = k
    · rw [if_pos h]
      refine (ins_perm _ _ _).trans ?_
      have : List.filter (fun d => decide ((dEnds ls d).1 = k)) [j] = [j] := by simp [h]
      rw [this]
      exact ((ih.cons j).trans (List.perm_append_singleton j _).symm)
    · rw [if_neg h]
      have : List.filter (fun d => decide ((dEnds ls d).1 = k)) [j] = [] := by simp [h]
      rw [this, List.append_nil]
      exact ih
theorem arnN_mem {ns ls : List P2} {k : Int} {j d : Nat} : d ∈ arnN ns ls k j ↔ d < j ∧ (dEnds ls d).1 = k := by
  rw [(arnN_perm ns ls k j).mem_iff]
  simp [dAt]
theorem arnN_nodup (ns ls : List P2) (k : Int) (j : Nat) : (arnN ns ls k j).Nodup := (arnN_perm ns ls k j).nodup_iff.2 (nperm_range j)
theorem arnN_len (ns ls : List P2) (k : Int) (j : Nat) : (arnN ns ls k j).length ≤ j := by
  rw [(arnN_perm ns ls k j).length_eq]
  unfold dAt
  have := List.length_filter_le (fun d => decide ((dEnds ls d).1 = k)) (List.range j)
  rwa [List.length_range] at this
theorem arnd_mem {ns ls : List P2} {k : Int} {d : Nat} : d ∈ arnd ns ls k ↔ d < 2 * ls.length ∧ (dEnds ls d).1 = k := arnN_mem

/-! ### the dart before -/
def stepL (l : List Nat) (d : Nat) (n : Nat) : Nat := l.getD ((l.idxOf d + n) % l.length) 0
theorem stepL_mem {l : List Nat} {d n : Nat} (h : d ∈ l) : stepL l d n ∈ l := by
  have hl : 0 < l.length := List.length_pos_of_mem h
  have hi : (l.idxOf d + n) % l.length < l.length := Nat.mod_lt _ hl
  unfold stepL
  rw [getD_at _ hi]
  exact List.getElem_mem hi
theorem nodup_getD_inj {l : List Nat} (hn : l.Nodup) {i j : Nat} (hi : i < l.length) (hj : j < l.length) (h : l.getD i 0 = l.getD j 0) : i = j := by
  rw [getD_at _ hi, getD_at _ hj] at h
  have hp := List.pairwise_iff_getElem.1 hn
  rcases Nat.lt_trichotomy i j with hlt | he | hgt
  · exact absurd h (hp i j hi hj hlt)
  · exact he
  · exact absurd h.symm (hp j i hj hi hgt)
theorem stepL_inj {l : List Nat} (hn : l.Nodup) {d e n : Nat} (hd : d ∈ l) (he : e ∈ l) (h : stepL l d n = stepL l e n) : d = e := by
  have hl : 0 < l.length := List.length_pos_of_mem hd
  have h1 := nodup_getD_inj hn (Nat.mod_lt _ hl) (Nat.mod_lt _ hl) h
  have a := List.idxOf_lt_length_of_mem hd
  have b := List.idxOf_lt_length_of_mem he
  have h2 : l.idxOf d = l.idxOf e := by
    have e1 : ((l.idxOf d + n) % l.length : Nat) = ((l.idxOf d) + n % l.length) % l.length := by rw [Nat.add_mod_mod]
    have e2 : ((l.idxOf e + n) % l.length : Nat) = ((l.idxOf e) + n % l.length) % l.length := by rw [Nat.add_mod_mod]
    rw [e1, e2] at h1
    have hm := Nat.mod_lt n hl
    generalize n % l.length = r at *
    generalize l.idxOf d = x at *
    generalize l.idxOf e = y at *
    generalize l.length = N at *
    by_cases hx : x + r < N <;> by_cases hy : y + r < N
    · rw [Nat.mod_eq_of_lt hx, Nat.mod_eq_of_lt hy] at h1; omega
    · rw [Nat.mod_eq_of_lt hx, Nat.mod_eq_sub_mod (by omega), Nat.mod_eq_of_lt (by omega)] at h1; omega
    · rw [Nat.mod_eq_of_lt hy, Nat.mod_eq_sub_mod (by omega), Nat.mod_eq_of_lt (by omega)] at h1; omega
    · rw [Nat.mod_eq_sub_mod (by omega), Nat.mod_eq_of_lt (by omega), Nat.mod_eq_sub_mod (a := y + r) (by omega), Nat.mod_eq_of_lt (by omega)] at h1; omega
  have c := List.getElem_idxOf a
  have d' := List.getElem_idxOf b
  rw [← c, ← d']
  simp only [h2]

/-- the dart n places behind d around its node -/
def besN (ns ls : List P2) (n : Nat → Nat) (d : Nat) : Nat := stepL (arnd ns ls (dEnds ls d).1) d (n (arnd ns ls (dEnds ls d).1).length)
/-- the dart before d around its node -/
def prevD (ns ls : List P2) (d : Nat) : Nat := besN ns ls (fun l => l - 1) d
def nxt (ns ls : List P2) (d : Nat) : Nat := prevD ns ls (d ^^^ 1)
section
variable {ns ls : List P2}
theorem arnd_self {d : Nat} (h : d < 2 * ls.length) : d ∈ arnd ns ls (dEnds ls d).1 := arnd_mem.2 ⟨h, rfl⟩
theorem prevD_ok {d : Nat} (h : d < 2 * ls.length) : prevD ns ls d < 2 * ls.length ∧ (dEnds ls (prevD ns ls d)).1 = (dEnds ls d).1 := arnd_mem.1 (stepL_mem (arnd_self h))
theorem prevD_inj {d e : Nat} (hd : d < 2 * ls.length) (he : e < 2 * ls.length) (h : prevD ns ls d = prevD ns ls e) : d = e := by
  have h1 := (prevD_ok (ns := ns) hd).2
  have h2 := (prevD_ok (ns := ns) he).2
  rw [h, h2] at h1
  unfold prevD besN at h
  rw [← h1] at h
  exact stepL_inj (arnN_nodup ns ls (dEnds ls e).1 _) (by have := arnd_self (ns := ns) hd; rw [← h1] at this; exact this) (arnd_self he) h
theorem xor1_lt {d m : Nat} (h : d < 2 * m) : d ^^^ 1 < 2 * m := by
  have h1 : (d ^^^ 1) / 2 ^ 1 = d / 2 ^ 1 := by
    rw [Nat.xor_div_two_pow]; simp
  omega
theorem xor1_xor1 (d : Nat) : (d ^^^ 1) ^^^ 1 = d := by rw [Nat.xor_assoc, Nat.xor_self, Nat.xor_zero]
theorem nxt_lt {d : Nat} (h : d < 2 * ls.length) : nxt ns ls d < 2 * ls.length := (prevD_ok (xor1_lt h)).1
theorem nxt_inj {d e : Nat} (hd : d < 2 * ls.length) (he : e < 2 * ls.length) (h : nxt ns ls d = nxt ns ls e) : d = e := by
  have := prevD_inj (ns := ns) (xor1_lt hd) (xor1_lt he) h
  rw [← xor1_xor1 d, this, xor1_xor1]
end

/-! ### the walk -/
theorem php : ∀ (N : Nat) (g : Nat → Nat), (∀ i, i ≤ N → g i < N) → ∃ i j, i < j ∧ j ≤ N ∧ g i = g j
  | 0, g, h => absurd (h 0 (Nat.le_refl _)) (by omega)
  | N + 1, g, h => by
    by_cases hc : ∃ i, i ≤ N ∧ g i = g (N + 1)
    · obtain ⟨i, hi, e⟩ := hc
      exact ⟨i, N + 1, by omega, Nat.le_refl _, e⟩
    · have hne : ∀ i, i ≤ N → g i ≠ g (N + 1) := fun i hi e => hc ⟨i, hi, e⟩
      have hl := h (N + 1) (Nat.le_refl _)
      obtain ⟨i, j, hij, hj, e⟩ := php N (fun i => if g i = N then g (N + 1) else g i) (fun i hi => by
        have h1 := h i (by omega)
        have h2 := hne i hi
        show (if g i = N then g (N + 1) else g i) < N
        split <;> omega)
      refine ⟨i, j, hij, by omega, ?_⟩
      have h1 := hne i (by omega)
      have h2 := hne j hj
      (try simp only at e)
      split at e <;> split at e <;> omega
def itr (f : Nat → Nat) : Nat → Nat → Nat
  | 0, d => d
  | r + 1, d => f (itr f r d)
theorem itr_lt {f : Nat → Nat} {N : Nat} (hf : ∀ d, d < N → f d < N) {d : Nat} (hd : d < N) : ∀ r, itr f r d < N
  | 0 => hd
  | r + 1 => hf _ (itr_lt hf hd r)
theorem itr_back {f : Nat → Nat} {N : Nat} (hf : ∀ d, d < N → f d < N) (hi : ∀ d e, d < N → e < N → f d = f e → d = e) {d : Nat} (hd : d < N) (s : Nat) : ∀ r, itr f r d = itr f (r + s) d → d = itr f s d
  | 0, h => by rw [Nat.zero_add] at h; exact h
  | r + 1, h => by
    have e : r + 1 + s = (r + s) + 1 := by omega
    rw [e] at h
    exact itr_back hf hi hd s r (hi _ _ (itr_lt hf hd r) (itr_lt hf hd (r + s)) h)
theorem itr_per {f : Nat → Nat} {N : Nat} (hf : ∀ d, d < N → f d < N) (hi : ∀ d e, d < N → e < N → f d = f e → d = e) {d : Nat} (hd : d < N) : ∃ p, p < N ∧ itr f (p + 1) d = d := by
  obtain ⟨i, j, hij, hj, e⟩ := php N (fun r => itr f r d) (fun r _ => itr_lt hf hd r)
  have h1 : itr f i d = itr f (i + (j - i)) d := by rw [show i + (j - i) = j by omega]; exact e
  refine ⟨j - i - 1, by omega, ?_⟩
  rw [show j - i - 1 + 1 = j - i by omega]
  exact (itr_back hf hi hd _ i h1).symm
/-- how many steps until the dart comes back (at most N) -/
def perd (f : Nat → Nat) (N d : Nat) : Nat := ((List.range N).find? (fun p => itr f (p + 1) d == d)).getD 0 + 1
theorem find_range {p : Nat → Bool} : ∀ {N i : Nat}, (List.range N).find? p = some i → p i = true ∧ i < N ∧ ∀ j, j < i → p j = false := by
  intro N i h
  have h1 := List.find?_some h
  have h2 := List.mem_of_find?_eq_some h
  refine ⟨h1, List.mem_range.1 h2, fun j hj => ?_⟩
  rw [List.find?_range_eq_some] at h
  simpa using h.2.2 j hj
theorem perd_spec {f : Nat → Nat} {N : Nat} (hf : ∀ d, d < N → f d < N) (hi : ∀ d e, d < N → e < N → f d = f e → d = e) {d : Nat} (hd : d < N) :
    1 ≤ perd f N d ∧ perd f N d ≤ N ∧ itr f (perd f N d) d = d ∧ ∀ s, 1 ≤ s → s < perd f N d → itr f s d ≠ d := by
  obtain ⟨p, hp, e⟩ := itr_per hf hi hd
  cases hq : (List.range N).find? (fun p => itr f (p + 1) d == d) with
  | none =>
    rw [List.find?_eq_none] at hq
    exact absurd (by simpa using e) (hq p (List.mem_range.2 hp))
  | some q =>
    obtain ⟨h1, h2, h3⟩ := find_range hq
    have e1 : perd f N d = q + 1 := by unfold perd; rw [hq]; rfl
    rw [e1]
    refine ⟨by omega, by omega, by simpa using h1, fun s hs1 hs2 h => ?_⟩
    have := h3 (s - 1) (by omega)
    rw [show s - 1 + 1 = s by omega, h] at this
    simp at this
/-- the first r darts of the walk from d -/
def wlkR (ns ls : List P2) (d r : Nat) : List Nat := (List.range r).map (fun s => itr (nxt ns ls) s d)
def wlk (ns ls : List P2) (d : Nat) : List Nat := wlkR ns ls d (perd (nxt ns ls) (2 * ls.length) d)
theorem wlkR_succ (ns ls : List P2) (d r : Nat) : wlkR ns ls d (r + 1) = wlkR ns ls d r ++ [itr (nxt ns ls) r d] := by unfold wlkR; rw [List.range_succ, List.map_append]; rfl
theorem wlkR_len (ns ls : List P2) (d r : Nat) : (wlkR ns ls d r).length = r := by simp [wlkR]
section
variable {ns ls : List P2} {d : Nat}
theorem per_ok (hd : d < 2 * ls.length) : 1 ≤ perd (nxt ns ls) (2 * ls.length) d ∧ perd (nxt ns ls) (2 * ls.length) d ≤ 2 * ls.length ∧ itr (nxt ns ls) (perd (nxt ns ls) (2 * ls.length) d) d = d ∧
    ∀ s, 1 ≤ s → s < perd (nxt ns ls) (2 * ls.length) d → itr (nxt ns ls) s d ≠ d := perd_spec (fun _ h => nxt_lt h) (fun _ _ h k e => nxt_inj h k e) hd
theorem itr_nxt_lt (hd : d < 2 * ls.length) (r : Nat) : itr (nxt ns ls) r d < 2 * ls.length := itr_lt (fun _ h => nxt_lt h) hd r
theorem wlk_len (hd : d < 2 * ls.length) : 1 ≤ (wlk ns ls d).length ∧ (wlk ns ls d).length ≤ 2 * ls.length := by
  unfold wlk; rw [wlkR_len]; exact ⟨(per_ok hd).1, (per_ok hd).2.1⟩
theorem wlk_lt (hd : d < 2 * ls.length) : ∀ e ∈ wlk ns ls d, e < 2 * ls.length := by
  intro e he
  unfold wlk wlkR at he
  obtain ⟨s, _, rfl⟩ := List.mem_map.1 he
  exact itr_nxt_lt hd s
end

/-! ### the faces -/
def hasL (L : List (List Nat)) (d : Nat) : Bool := L.any (fun l => l.contains d)
/-- the walks from the first j darts -/
def fcsN (ns ls : List P2) : Nat → List (List Nat)
  | 0 => []
  | j + 1 => if hasL (fcsN ns ls j) j = true then fcsN ns ls j else fcsN ns ls j ++ [wlk ns ls j]
/-- the faces of a whole window -/
def fcs (ns ls : List P2) : List (List Nat) := fcsN ns ls (2 * ls.length)
theorem fcsN_len (ns ls : List P2) : ∀ j, (fcsN ns ls j).length ≤ j
  | 0 => Nat.le_refl _
  | j + 1 => by
    have := fcsN_len ns ls j
    unfold fcsN
    split
    · omega
    · simp; omega
theorem fcsN_mem {ns ls : List P2} : ∀ {j : Nat}, ∀ l ∈ fcsN ns ls j, ∃ d, d < j ∧ l = wlk ns ls d
  | 0, l, h => by cases h
  | j + 1, l, h => by
    unfold fcsN at h
    split at h
    · obtain ⟨d, hd, e⟩ := fcsN_mem l h
      exact ⟨d, by omega, e⟩
    · rcases List.mem_append.1 h with h | h
      · obtain ⟨d, hd, e⟩ := fcsN_mem l h
        exact ⟨d, by omega, e⟩
      · exact ⟨j, by omega, by simpa using h⟩
theorem fcs_mem {ns ls : List P2} {l : List Nat} (h : l ∈ fcs ns ls) : 1 ≤ l.length ∧ l.length ≤ 2 * ls.length ∧ ∀ e ∈ l, e < 2 * ls.length := by
  obtain ⟨d, hd, rfl⟩ := fcsN_mem l h
  exact ⟨(wlk_len hd).1, (wlk_len hd).2, wlk_lt hd⟩
theorem fcs_pos {ns ls : List P2} (h : 0 < ls.length) : 0 < (fcs ns ls).length := by
  have key : ∀ j, 0 < j → 0 < (fcsN ns ls j).length := by
    intro j
    induction j with
    | zero => omega
    | succ j ih =>
      intro _
      unfold fcsN
      split
      · rename_i hh
        rcases Nat.eq_zero_or_pos j with rfl | hp
        · simp [fcsN, hasL] at hh
        · exact ih hp
      · simp
  exact key _ (by omega)
/-- the face of a dart: the last list that holds it -/
def sdN (L : List (List Nat)) (d : Nat) : Nat → Nat
  | 0 => 0
  | f + 1 => if (L.getD f []).contains d = true then f else sdN L d f
def sd (L : List (List Nat)) (d : Nat) : Nat := sdN L d L.length
theorem sdN_lt (L : List (List Nat)) (d : Nat) : ∀ f, sdN L d f < f ∨ f = 0
  | 0 => .inr rfl
  | f + 1 => by
    left
    unfold sdN
    split
    · omega
    · rcases sdN_lt L d f with h | h
      · omega
      · subst h; simp [sdN]
theorem sd_lt {L : List (List Nat)} (h : 0 < L.length) (d : Nat) : sd L d < L.length := by
  rcases sdN_lt L d L.length with h' | h'
  · exact h'
  · omega
end Go.Proofs.Ytpainmnekgnpeaa
