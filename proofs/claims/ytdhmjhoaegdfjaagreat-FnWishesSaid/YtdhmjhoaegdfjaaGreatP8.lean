import Derived.Test.YtdhmjhoaegdfjaaGreatG5
namespace Go.Proofs.YtdhmjhoaegdfjaaGreat
/-! Plain words: tables, first places, sums. -/
def tab (n : Nat) (g : Nat → Int) : List Int := (List.range n).map g
theorem tab_len (n : Nat) (g : Nat → Int) : (tab n g).length = n := by simp [tab]
theorem tab_gi {n : Nat} (g : Nat → Int) {j : Nat} (h : j < n) : gi (tab n g) j = g j := by rw [gi_nat _ _ (by rw [tab_len]; exact h)]; simp [tab]
theorem tab_set {n : Nat} (g : Nat → Int) (e : Nat) (y : Int) : (tab n g).set e y = tab n (fun d => if d = e then y else g d) := by
  apply List.ext_getElem
  · simp [tab]
  · intro i h1 h2
    rw [List.getElem_set]
    simp only [tab, List.getElem_map, List.getElem_range]
    by_cases h : e = i
    · rw [if_pos h, if_pos h.symm]
    · rw [if_neg h, if_neg (fun e' => h e'.symm)]
theorem tab_congr {n : Nat} {g g' : Nat → Int} (h : ∀ d, d < n → g d = g' d) : tab n g = tab n g' := by
  unfold tab
  exact List.map_congr_left (fun d hd => h d (List.mem_range.1 hd))
theorem tab_snoc (n : Nat) (g : Nat → Int) : tab (n + 1) g = tab n g ++ [g n] := by unfold tab; rw [List.range_succ, List.map_append]; rfl
theorem tab_rep (n : Nat) (y : Int) : tab n (fun _ => y) = List.replicate n y := by
  apply List.ext_getElem
  · simp [tab]
  · intro i h1 h2; simp [tab]
def btab (n : Nat) (g : Nat → Bool) : List Bool := (List.range n).map g
theorem btab_len (n : Nat) (g : Nat → Bool) : (btab n g).length = n := by simp [btab]
theorem btab_at {n : Nat} (g : Nat → Bool) {j : Nat} (h : j < n) : (btab n g)[j]? = some (g j) := by simp [btab, h]
theorem btab_set {n : Nat} (g : Nat → Bool) (e : Nat) (y : Bool) : (btab n g).set e y = btab n (fun d => if d = e then y else g d) := by
  apply List.ext_getElem
  · simp [btab]
  · intro i h1 h2
    rw [List.getElem_set]
    simp only [btab, List.getElem_map, List.getElem_range]
    by_cases h : e = i
    · rw [if_pos h, if_pos h.symm]
    · rw [if_neg h, if_neg (fun e' => h e'.symm)]
theorem btab_congr {n : Nat} {g g' : Nat → Bool} (h : ∀ d, d < n → g d = g' d) : btab n g = btab n g' := by
  unfold btab
  exact List.map_congr_left (fun d hd => h d (List.mem_range.1 hd))
theorem btab_rep (n : Nat) : btab n (fun _ => false) = List.replicate n false := by
  apply List.ext_getElem
  · simp [btab]
  · intro i h1 h2; simp [btab]

theorem take_contains {l : List Nat} {i d : Nat} (h : i < l.length) : (l.take (i + 1)).contains d = if d = l.getD i 0 then true else (l.take i).contains d := by
  rw [List.take_succ_eq_append_getElem h, getD_at l h, Bool.eq_iff_iff]
  simp only [List.contains_eq_mem, decide_eq_true_eq, List.mem_append, List.mem_singleton]
  by_cases e : d = l[i]
  · rw [if_pos e]
    exact ⟨fun _ => rfl, fun _ => .inr e⟩
  · rw [if_neg e]
    simp only [decide_eq_true_eq]
    exact ⟨fun h => h.resolve_right e, .inl⟩

/-! ### the faces being made -/
/-- which darts have been seen: those of the first walks, and i of walk j -/
def snS (ns ls : List P2) (j i d : Nat) : Bool := hasL (fcsN ns ls j) d || ((wlk ns ls j).take i).contains d
theorem hasL_snoc (L : List (List Nat)) (l : List Nat) (d : Nat) : hasL (L ++ [l]) d = (hasL L d || l.contains d) := by simp [hasL]
theorem snS_zero (ns ls : List P2) (j d : Nat) : snS ns ls j 0 d = hasL (fcsN ns ls j) d := by simp [snS]
theorem snS_succ {ns ls : List P2} {j i d : Nat} (h : i < (wlk ns ls j).length) : snS ns ls j (i + 1) d = if d = (wlk ns ls j).getD i 0 then true else snS ns ls j i d := by
  unfold snS
  rw [take_contains h]
  split
  · simp
  · rfl
theorem snS_all {ns ls : List P2} {j d : Nat} (h : ¬ hasL (fcsN ns ls j) j = true) : snS ns ls j (wlk ns ls j).length d = hasL (fcsN ns ls (j + 1)) d := by
  have : fcsN ns ls (j + 1) = fcsN ns ls j ++ [wlk ns ls j] := if_neg h
  rw [this, hasL_snoc]
  unfold snS
  rw [List.take_of_length_le (Nat.le_refl _)]
theorem fcsN_yes {ns ls : List P2} {j : Nat} (h : hasL (fcsN ns ls j) j = true) : fcsN ns ls (j + 1) = fcsN ns ls j := if_pos h
theorem fcsN_no {ns ls : List P2} {j : Nat} (h : ¬ hasL (fcsN ns ls j) j = true) : fcsN ns ls (j + 1) = fcsN ns ls j ++ [wlk ns ls j] := if_neg h

/-! ### the faces of all darts being made -/
def sdS (L : List (List Nat)) (f i d : Nat) : Nat := if ((L.getD f []).take i).contains d = true then f else sdN L d f
theorem sdS_zero (L : List (List Nat)) (f d : Nat) : sdS L f 0 d = sdN L d f := by simp [sdS]
theorem sdS_succ {L : List (List Nat)} {f i d : Nat} (h : i < (L.getD f []).length) : sdS L f (i + 1) d = if d = (L.getD f []).getD i 0 then f else sdS L f i d := by
  unfold sdS
  rw [take_contains h]
  split
  · simp
  · rfl
theorem sdS_all (L : List (List Nat)) (f d : Nat) : sdS L f (L.getD f []).length d = sdN L d (f + 1) := by
  unfold sdS
  rw [List.take_of_length_le (Nat.le_refl _)]
  rfl
/-- the table of the faces of m darts; f faces and i darts of the next one are done -/
def sdT (L : List (List Nat)) (m f i : Nat) : List Int := tab m (fun d => (sdS L f i d : Nat))
theorem sdT_len (L : List (List Nat)) (m f i : Nat) : (sdT L m f i).length = m := tab_len _ _
theorem sdT_set {L : List (List Nat)} {m f i : Nat} (h : i < (L.getD f []).length) : (sdT L m f i).set ((L.getD f []).getD i 0) (f : Int) = sdT L m f (i + 1) := by
  unfold sdT
  rw [tab_set]
  refine tab_congr fun d _ => ?_
  rw [sdS_succ h]
  split <;> rfl
theorem sdT_all (L : List (List Nat)) (m f : Nat) : sdT L m f (L.getD f []).length = sdT L m (f + 1) 0 := by
  unfold sdT
  refine tab_congr fun d _ => ?_
  rw [sdS_all, sdS_zero]
theorem sdT_zero (L : List (List Nat)) (m : Nat) : sdT L m 0 0 = List.replicate m 0 := by
  unfold sdT
  rw [← tab_rep]
  refine tab_congr fun d _ => ?_
  rw [sdS_zero]
  rfl
/-- the faces of all darts -/
def sds (L : List (List Nat)) (m : Nat) : List Int := tab m (fun d => (sd L d : Nat))
theorem sdT_end (L : List (List Nat)) (m : Nat) : sdT L m L.length 0 = sds L m := by
  unfold sdT sds
  refine tab_congr fun d _ => ?_
  rw [sdS_zero]
  rfl
theorem sds_len (L : List (List Nat)) (m : Nat) : (sds L m).length = m := tab_len _ _
theorem sds_gi (L : List (List Nat)) {m d : Nat} (h : d < m) : gi (sds L m) d = (sd L d : Nat) := tab_gi _ h

/-! ### the first place -/
def ffst (p : Nat → Bool) (n : Nat) : Int := match (List.range n).find? p with
  | some i => (i : Int)
  | none => -1
theorem ffst_yes {p : Nat → Bool} {n i : Nat} (h : i < n) (hp : p i = true) (hn : ∀ j, j < i → p j = false) : ffst p n = i := by
  unfold ffst
  have : (List.range n).find? p = some i := by
    rw [List.find?_range_eq_some]
    exact ⟨hp, List.mem_range.2 h, fun j hj => by rw [hn j hj]; rfl⟩
  rw [this]
theorem ffst_no {p : Nat → Bool} {n : Nat} (hn : ∀ j, j < n → p j = false) : ffst p n = -1 := by
  unfold ffst
  have : (List.range n).find? p = none := by
    rw [List.find?_eq_none]
    intro j hj
    rw [hn j (List.mem_range.1 hj)]
    simp
  rw [this]
theorem ffst_lt {p : Nat → Bool} {n : Nat} : ffst p n < n ∧ -1 ≤ ffst p n := by
  unfold ffst
  split
  · rename_i i h
    have := List.mem_range.1 (List.mem_of_find?_eq_some h)
    omega
  · omega
theorem first_step {p : Nat → Bool} {j : Nat} (h : ∀ i, i < j → p i = false) (hj : p j = false) : ∀ i, i < j + 1 → p i = false := fun i hi => by
  rcases Nat.lt_succ_iff_lt_or_eq.1 hi with h' | h'
  · exact h i h'
  · subst h'; exact hj

/-! ### counts -/
def cnp (p : Nat → Bool) : Nat → Nat
  | 0 => 0
  | n + 1 => cnp p n + if p n = true then 1 else 0
theorem cnp_le (p : Nat → Bool) : ∀ n, cnp p n ≤ n
  | 0 => Nat.le_refl _
  | n + 1 => by
    have := cnp_le p n
    unfold cnp
    split <;> omega
theorem cnp_yes {p : Nat → Bool} {n : Nat} (h : p n = true) : cnp p (n + 1) = cnp p n + 1 := by
  show cnp p n + (if p n = true then 1 else 0) = cnp p n + 1
  rw [if_pos h]
theorem cnp_no {p : Nat → Bool} {n : Nat} (h : p n = false) : cnp p (n + 1) = cnp p n := by
  show cnp p n + (if p n = true then 1 else 0) = cnp p n
  rw [h]; rfl

/-! ### areas -/
def crs (ns ls : List P2) (d : Nat) : Int := (gp ns (dEnds ls d).1).1 * (gp ns (dEnds ls d).2).2 - (gp ns (dEnds ls d).1).2 * (gp ns (dEnds ls d).2).1
def areaR (ns ls : List P2) (l : List Nat) : Nat → Int
  | 0 => 0
  | j + 1 => areaR ns ls l j + crs ns ls (l.getD j 0)
def area (ns ls : List P2) (l : List Nat) : Int := areaR ns ls l l.length

/-! ### all different -/
def dist (l : List Int) : Bool := (List.range l.length).all (fun k => !((l.take k).contains (gi l (k : Nat))))
theorem dist_yes {l : List Int} (h : ∀ k, k < l.length → (l.take k).contains (gi l (k : Nat)) = false) : dist l = true := by
  unfold dist
  rw [List.all_eq_true]
  intro k hk
  rw [h k (List.mem_range.1 hk)]
  rfl
theorem dist_no {l : List Int} {k : Nat} (hk : k < l.length) (h : (l.take k).contains (gi l (k : Nat)) = true) : dist l = false := by
  rw [Bool.eq_false_iff]
  intro e
  unfold dist at e
  rw [List.all_eq_true] at e
  have := e k (List.mem_range.2 hk)
  rw [h] at this
  cases this
end Go.Proofs.YtdhmjhoaegdfjaaGreat
