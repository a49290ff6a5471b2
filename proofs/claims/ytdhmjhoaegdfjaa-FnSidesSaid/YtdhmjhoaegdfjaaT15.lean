import Derived.Test.YtdhmjhoaegdfjaaG13
import Derived.Test.YtdhmjhoaegdfjaaG12
import Derived.Test.YtdhmjhoaegdfjaaD12
import Derived.Test.YtdhmjhoaegdfjaaD15
import Derived.Test.YtdhmjhoaegdfjaaD16
import Derived.Test.YtdhmjhoaegdfjaaE1
import Derived.Test.YtdhmjhoaegdfjaaG8
namespace Go.Proofs.Ytdhmjhoaegdfjaa.Pl
open Go.Proofs.Ytdhmjhoaegdfjaa
/-! What FnSides asks, in plain words. -/
theorem flt_cnp (p : Nat → Bool) (n : Nat) : (flt p n).length = cnp p n := by
  unfold flt; rw [List.length_map, ← cnp_countP, List.countP_eq_length_filter]
theorem cnp_sm' (p : Nat → Bool) (n : Nat) : ((cnp p n : Nat) : Int) = sm n (fun i => if p i = true then 1 else 0) := cnp_sm p n
section
variable {ns ls : List P2}
theorem vF_eq (hw : whole ns ls = true) : vFaces ns ls = fcs ns ls := by unfold vFaces; rw [if_pos hw]
theorem hasF_nat (hw : whole ns ls = true) {f : Nat} (hf : f < (fcs ns ls).length) : hasF ns ls (f : Int) = true := by
  rw [hasF_iff, vF_eq hw]; omega
theorem shP_iff (hw : whole ns ls = true) {f g k : Nat} (hk : k < ls.length) : shP (vSides ns ls) (f : Int) (g : Int) k = true ↔ (sd (fcs ns ls) (2 * k) = f ∧ sd (fcs ns ls) (2 * k + 1) = g) ∨ (sd (fcs ns ls) (2 * k) = g ∧ sd (fcs ns ls) (2 * k + 1) = f) := by
  have e1 := vSides_gi hw (d := 2 * k) (by omega)
  have e2 := vSides_gi hw (d := 2 * k + 1) (by omega)
  rw [show ((2 * k : Nat) : Int) = 2 * (k : Int) by omega] at e1
  rw [show ((2 * k + 1 : Nat) : Int) = 2 * (k : Int) + 1 by omega] at e2
  unfold shP
  rw [e1, e2]
  simp only [Bool.or_eq_true, Bool.and_eq_true, beq_iff_eq]
  omega
theorem shared_symm (ns ls : List P2) (f g : Int) : vSharedLeads ns ls f g = vSharedLeads ns ls g f := by
  unfold vSharedLeads
  have e : shP (vSides ns ls) f g = shP (vSides ns ls) g f := by
    funext j; unfold shP; exact Bool.or_comm _ _
  rw [e]
  by_cases h1 : hasF ns ls f = true <;> by_cases h2 : hasF ns ls g = true <;> simp [h1, h2]
theorem beside_symm (ns ls : List P2) (f g : Int) : vAreBeside ns ls f g = vAreBeside ns ls g f := by
  unfold vAreBeside
  rw [shared_symm ns ls f g]
  congr 1
  rw [Bool.eq_iff_iff, decide_eq_true_eq, decide_eq_true_eq]
  exact ⟨Ne.symm, Ne.symm⟩
theorem beside_has (hw : whole ns ls = true) {f g : Nat} (hf : f < (fcs ns ls).length) (hg : g < (fcs ns ls).length) : hsI (vBesideOf ns ls (f : Int)) (g : Int) = vAreBeside ns ls (g : Int) (f : Int) := by
  unfold hsI vBesideOf
  rw [if_pos (hasF_nat hw hf), vF_eq hw, beside_symm ns ls (g : Int) (f : Int), Bool.eq_iff_iff, List.contains_iff_mem, flt_mem]
  constructor
  · rintro ⟨i, e, _, h⟩
    obtain rfl : i = g := by omega
    exact h
  · intro h
    exact ⟨g, rfl, hg, h⟩
theorem shared_len (hw : whole ns ls = true) {f g : Nat} (hf : f < (fcs ns ls).length) (hg : g < (fcs ns ls).length) : ((vSharedLeads ns ls (f : Int) (g : Int)).length : Int) = sm ls.length (fun k => if (sd (fcs ns ls) (2 * k) = f ∧ sd (fcs ns ls) (2 * k + 1) = g) ∨ (sd (fcs ns ls) (2 * k) = g ∧ sd (fcs ns ls) (2 * k + 1) = f) then 1 else 0) := by
  unfold vSharedLeads
  rw [if_pos ⟨hasF_nat hw hf, hasF_nat hw hg⟩, flt_cnp, cnp_sm']
  refine sm_congr fun k hk => ?_
  have := shP_iff hw (f := f) (g := g) hk
  by_cases c : shP (vSides ns ls) (f : Int) (g : Int) k = true
  · rw [if_pos c, if_pos (this.1 c)]
  · rw [if_neg c, if_neg fun e => c (this.2 e)]
/-- what has been counted behind f rows and g columns -/
def shv (ns ls : List P2) (f g : Nat) : Int :=
  sm f (fun f => sm (vFaces ns ls).length (fun g => if f ≤ g then ((vSharedLeads ns ls (f : Int) (g : Int)).length : Int) else 0)) + sm g (fun g => if f ≤ g then ((vSharedLeads ns ls (f : Int) (g : Int)).length : Int) else 0)
theorem shv_zero (ns ls : List P2) : shv ns ls 0 0 = 0 := rfl
theorem shv_row (ns ls : List P2) (f : Nat) : shv ns ls f (vFaces ns ls).length = shv ns ls (f + 1) 0 := by unfold shv; rw [sm_succ]; show _ = _ + 0; omega
theorem shv_yes (ns ls : List P2) {f g : Nat} (h : f ≤ g) : shv ns ls f (g + 1) = shv ns ls f g + ((vSharedLeads ns ls (f : Int) (g : Int)).length : Int) := by unfold shv; rw [sm_succ, if_pos h]; omega
theorem shv_no (ns ls : List P2) {f g : Nat} (h : ¬ f ≤ g) : shv ns ls f (g + 1) = shv ns ls f g := by unfold shv; rw [sm_succ, if_neg h]; omega
theorem shv_all (hw : whole ns ls = true) : shv ns ls (vFaces ns ls).length 0 = ls.length := by
  unfold shv
  rw [vF_eq hw]
  show sm _ _ + 0 = _
  rw [Int.add_zero]
  have e1 : sm (fcs ns ls).length (fun f => sm (fcs ns ls).length (fun g => if f ≤ g then ((vSharedLeads ns ls (f : Int) (g : Int)).length : Int) else 0)) =
      sm (fcs ns ls).length (fun f => sm (fcs ns ls).length (fun g => sm ls.length (fun k => (if f = min (sd (fcs ns ls) (2 * k)) (sd (fcs ns ls) (2 * k + 1)) then 1 else 0) * (if g = max (sd (fcs ns ls) (2 * k)) (sd (fcs ns ls) (2 * k + 1)) then 1 else 0)))) := by
    refine sm_congr fun f hf => sm_congr fun g hg => ?_
    by_cases c : f ≤ g
    · rw [if_pos c, shared_len hw hf hg]
      refine sm_congr fun k _ => ?_
      generalize sd (fcs ns ls) (2 * k) = a
      generalize sd (fcs ns ls) (2 * k + 1) = b
      by_cases c1 : f = min a b
      · by_cases c2 : g = max a b
        · rw [if_pos c1, if_pos c2, if_pos (by omega)]; rfl
        · rw [if_pos c1, if_neg c2, if_neg (by omega)]; rfl
      · rw [if_neg c1, if_neg (by omega), Int.zero_mul]
    · rw [if_neg c]
      refine (sm_zero fun k _ => ?_).symm
      generalize sd (fcs ns ls) (2 * k) = a
      generalize sd (fcs ns ls) (2 * k + 1) = b
      by_cases c1 : f = min a b
      · rw [if_neg (show ¬ g = max a b by omega), Int.mul_zero]
      · rw [if_neg c1, Int.zero_mul]
  have e2 : ∀ k, k < ls.length → sm (fcs ns ls).length (fun f => sm (fcs ns ls).length (fun g => (if f = min (sd (fcs ns ls) (2 * k)) (sd (fcs ns ls) (2 * k + 1)) then (1 : Int) else 0) * (if g = max (sd (fcs ns ls) (2 * k)) (sd (fcs ns ls) (2 * k + 1)) then 1 else 0))) = 1 := by
    intro k hk
    have h1 := (sd_spec (ns := ns) (show 2 * k < 2 * ls.length by omega)).1
    have h2 := (sd_spec (ns := ns) (show 2 * k + 1 < 2 * ls.length by omega)).1
    generalize sd (fcs ns ls) (2 * k) = a at *
    generalize sd (fcs ns ls) (2 * k + 1) = b at *
    have e : ∀ f, sm (fcs ns ls).length (fun g => (if f = min a b then (1 : Int) else 0) * (if g = max a b then 1 else 0)) = if f = min a b then 1 else 0 := by
      intro f
      rw [sm_mul, sm_one (p := max a b) (by omega) (fun i _ hne => if_neg hne), if_pos rfl, Int.mul_one]
    rw [sm_congr fun f _ => e f, sm_one (p := min a b) (by omega) (fun i _ hne => if_neg hne), if_pos rfl]
  rw [e1, sm_congr fun f _ => sm_swap (fcs ns ls).length ls.length _, sm_swap, sm_congr e2, sm_const, Int.mul_one]
theorem shv_bd (hw : whole ns ls = true) {f g : Nat} (hf : f < (vFaces ns ls).length) (hg : g ≤ (vFaces ns ls).length) : 0 ≤ shv ns ls f g ∧ shv ns ls f g ≤ ls.length := by
  have nn : ∀ f g : Nat, 0 ≤ (if f ≤ g then ((vSharedLeads ns ls (f : Int) (g : Int)).length : Int) else 0) := fun f g => by split <;> omega
  have mono : ∀ (h : Nat → Int) (a b : Nat), (∀ i, 0 ≤ h i) → a ≤ b → sm a h ≤ sm b h := by
    intro h a b hn hab
    induction b with
    | zero => obtain rfl : a = 0 := by omega
              exact Int.le_refl _
    | succ b ih =>
      rcases Nat.lt_or_ge a (b + 1) with c | c
      · have := ih (by omega)
        have := hn b
        rw [sm_succ]; omega
      · obtain rfl : a = b + 1 := by omega
        exact Int.le_refl _
  have h0 : 0 ≤ shv ns ls f g := by
    unfold shv
    have := sm_nonneg (n := f) (f := fun f => sm (vFaces ns ls).length (fun g => if f ≤ g then ((vSharedLeads ns ls (f : Int) (g : Int)).length : Int) else 0)) fun i _ => sm_nonneg fun j _ => nn i j
    have := sm_nonneg (n := g) (f := fun g => if f ≤ g then ((vSharedLeads ns ls (f : Int) (g : Int)).length : Int) else 0) fun i _ => nn f i
    omega
  refine ⟨h0, ?_⟩
  rw [← shv_all hw]
  have h1 : shv ns ls f g ≤ shv ns ls (f + 1) 0 := by
    rw [← shv_row]
    unfold shv
    have := mono (fun g => if f ≤ g then ((vSharedLeads ns ls (f : Int) (g : Int)).length : Int) else 0) g (vFaces ns ls).length (nn f) hg
    omega
  have h2 : shv ns ls (f + 1) 0 ≤ shv ns ls (vFaces ns ls).length 0 := by
    unfold shv
    have := mono (fun f => sm (vFaces ns ls).length (fun g => if f ≤ g then ((vSharedLeads ns ls (f : Int) (g : Int)).length : Int) else 0)) (f + 1) (vFaces ns ls).length (fun i => sm_nonneg fun j _ => nn i j) (by omega)
    show _ + 0 ≤ _ + 0
    omega
  omega
/-- the degrees of the first faces -/
def dgv (ns ls : List P2) (f : Nat) : Int := sm f (fun f => vDualDegree ns ls (f : Int))
def lzv (ns ls : List P2) (k : Nat) : Int := sm k (fun k => if sd (fcs ns ls) (2 * k) = sd (fcs ns ls) (2 * k + 1) then 1 else 0)
theorem dd_iff (hw : whole ns ls = true) {f d : Nat} (hd : d < 2 * ls.length) : ddP (vSides ns ls) (f : Int) d = true ↔ sd (fcs ns ls) d = f ∧ sd (fcs ns ls) (d ^^^ 1) ≠ f := by
  unfold ddP
  rw [vSides_gi hw hd, vSides_gi hw (xor1_lt hd), Bool.and_eq_true, decide_eq_true_eq, decide_eq_true_eq]
  omega
theorem dgv_all (hw : whole ns ls = true) : dgv ns ls (vFaces ns ls).length = 2 * ((ls.length : Int) - lzv ns ls ls.length) := by
  unfold dgv
  rw [vF_eq hw]
  have e1 : sm (fcs ns ls).length (fun f => vDualDegree ns ls (f : Int)) = sm (fcs ns ls).length (fun f => sm (2 * ls.length) (fun d => if sd (fcs ns ls) d = f then (if sd (fcs ns ls) (d ^^^ 1) = sd (fcs ns ls) d then 0 else 1) else 0)) := by
    refine sm_congr fun f hf => ?_
    unfold vDualDegree
    rw [if_pos (hasF_nat hw hf), cnp_sm']
    refine sm_congr fun d hd => ?_
    have := dd_iff hw (f := f) hd
    by_cases c1 : sd (fcs ns ls) d = f
    · rw [if_pos c1]
      by_cases c2 : sd (fcs ns ls) (d ^^^ 1) = sd (fcs ns ls) d
      · rw [if_pos c2, if_neg fun e => (this.1 e).2 (by rw [c2, c1])]
      · rw [if_neg c2, if_pos (this.2 ⟨c1, fun e => c2 (by rw [e, c1])⟩)]
    · rw [if_neg c1, if_neg fun e => c1 (this.1 e).1]
  rw [e1, sm_swap]
  have e2 : ∀ d, d < 2 * ls.length → sm (fcs ns ls).length (fun f => if sd (fcs ns ls) d = f then (if sd (fcs ns ls) (d ^^^ 1) = sd (fcs ns ls) d then (0 : Int) else 1) else 0) = if sd (fcs ns ls) (d ^^^ 1) = sd (fcs ns ls) d then 0 else 1 := by
    intro d hd
    rw [sm_one (sd_spec (ns := ns) hd).1 (fun i _ hne => if_neg fun e => hne e.symm), if_pos rfl]
  rw [sm_congr e2, sm_two]
  have e3 : sm ls.length (fun k => (2 : Int) * (1 - if sd (fcs ns ls) (2 * k) = sd (fcs ns ls) (2 * k + 1) then 1 else 0)) = 2 * ((ls.length : Int) - lzv ns ls ls.length) := by
    rw [sm_mul, sm_sub, sm_const, Int.mul_one]; rfl
  rw [← e3]
  refine sm_congr fun k _ => ?_
  rw [xor_even, xor_odd]
  by_cases c : sd (fcs ns ls) (2 * k) = sd (fcs ns ls) (2 * k + 1)
  · rw [if_pos c.symm, if_pos c, if_pos c]; rfl
  · rw [if_neg fun e => c e.symm, if_neg c, if_neg c]; rfl
theorem dd_bd (hw : whole ns ls = true) (f : Int) : -1 ≤ vDualDegree ns ls f ∧ vDualDegree ns ls f ≤ 40 := by
  have hm := (whole_ok hw).1.le
  unfold vDualDegree
  split
  · have := cnp_le (ddP (vSides ns ls) f) (2 * ls.length)
    omega
  · omega
theorem dgv_bd (hw : whole ns ls = true) : ∀ f : Nat, -(f : Int) ≤ dgv ns ls f ∧ dgv ns ls f ≤ 40 * f
  | 0 => by unfold dgv; simp [sm]
  | f + 1 => by
    have := dgv_bd hw f
    have := dd_bd hw (f : Int)
    unfold dgv at *
    rw [sm_succ]; omega
theorem lzv_bd (ns ls : List P2) : ∀ k : Nat, 0 ≤ lzv ns ls k ∧ lzv ns ls k ≤ k
  | 0 => by unfold lzv; simp [sm]
  | k + 1 => by
    have := lzv_bd ns ls k
    unfold lzv at *
    rw [sm_succ]; split <;> omega
theorem sidesOf_eq (hw : whole ns ls = true) {k : Nat} (hk : k < ls.length) : vSidesOf ns ls (k : Int) = ((sd (fcs ns ls) (2 * k) : Int), (sd (fcs ns ls) (2 * k + 1) : Int)) := by
  have e1 := vSides_gi hw (d := 2 * k) (by omega)
  have e2 := vSides_gi hw (d := 2 * k + 1) (by omega)
  rw [show ((2 * k : Nat) : Int) = 2 * (k : Int) by omega] at e1
  rw [show ((2 * k + 1 : Nat) : Int) = 2 * (k : Int) + 1 by omega] at e2
  unfold vSidesOf
  rw [if_pos ⟨hw, wi_iff.2 ⟨by omega, by omega⟩⟩, e1, e2]
theorem faceAt_eq (hw : whole ns ls = true) {d : Nat} (hd : d < 2 * ls.length) : vFaceAt ns ls (d : Int) = (sd (fcs ns ls) d : Int) := by
  obtain ⟨h1, h2⟩ := sd_spec (ns := ns) hd
  have hmem : ∀ f : Nat, hsI (nl ((fcs ns ls).getD f [])) (d : Int) = true ↔ d ∈ (fcs ns ls).getD f [] := by
    intro f
    unfold hsI nl
    rw [List.contains_iff_mem, List.mem_map]
    constructor
    · rintro ⟨x, hx, e⟩
      obtain rfl : x = d := by omega
      exact hx
    · intro h; exact ⟨d, h, rfl⟩
  unfold vFaceAt
  rw [vF_eq hw]
  refine ffst_yes h1 ((hmem _).2 h2) fun j hj => ?_
  rw [Bool.eq_false_iff]
  intro e
  have := sd_uniq hd (by omega) ((hmem j).1 e)
  omega
theorem shared_has (hw : whole ns ls = true) {k : Nat} (hk : k < ls.length) : hsI (vSharedLeads ns ls (sd (fcs ns ls) (2 * k) : Int) (sd (fcs ns ls) (2 * k + 1) : Int)) (k : Int) = true := by
  have h1 := (sd_spec (ns := ns) (show 2 * k < 2 * ls.length by omega)).1
  have h2 := (sd_spec (ns := ns) (show 2 * k + 1 < 2 * ls.length by omega)).1
  unfold hsI vSharedLeads
  rw [if_pos ⟨hasF_nat hw h1, hasF_nat hw h2⟩, List.contains_iff_mem, flt_mem]
  exact ⟨k, rfl, hk, (shP_iff hw hk).2 (.inl ⟨rfl, rfl⟩)⟩
theorem around_len (hw : whole ns ls = true) {v : Nat} (hv : v < ns.length) : ((vFacesAround ns ls (v : Int)).length : Int) = degOf ns ls (v : Int) := by
  unfold vFacesAround
  rw [if_pos ⟨hw, wi_iff.2 ⟨by omega, by omega⟩⟩, tab_len]
  exact arnd_len (whole_ok hw).1 v hv
end
end Go.Proofs.Ytdhmjhoaegdfjaa.Pl
