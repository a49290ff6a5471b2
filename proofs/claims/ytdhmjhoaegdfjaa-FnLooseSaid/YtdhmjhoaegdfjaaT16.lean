import Derived.Test.YtdhmjhoaegdfjaaG14
import Derived.Test.YtdhmjhoaegdfjaaG6
import Derived.Test.YtdhmjhoaegdfjaaG8
import Derived.Test.YtdhmjhoaegdfjaaD14
import Derived.Test.YtdhmjhoaegdfjaaG13
namespace Go.Proofs.Ytdhmjhoaegdfjaa.Pl
open Go.Proofs.Ytdhmjhoaegdfjaa
/-! What FnEuler asks. -/
theorem lsm_cnt (l : List Nat) : lsm (fun _ => 1) l = (l.length : Int) := by
  induction l with
  | nil => rfl
  | cons x l ih => show 1 + lsm (fun _ => 1) l = _; rw [ih, List.length_cons]; omega
section
variable {ns ls : List P2}
theorem vF_eq2 (hw : whole ns ls = true) : vFaces ns ls = fcs ns ls := by unfold vFaces; rw [if_pos hw]
theorem np_lower {n : Nat} : ∀ (k : Nat) {ls : List P2}, ls.length = k → Vd n ls → n ≤ nparts n ls n + k
  | 0, ls, h, _ => by
    obtain rfl : ls = [] := List.length_eq_zero_iff.1 h
    rw [np_none]; omega
  | k + 1, ls, h, hv => by
    obtain ⟨l, ms, rfl⟩ : ∃ l ms, ls = l :: ms := by cases ls with | nil => simp at h | cons l ms => exact ⟨l, ms, rfl⟩
    have hv' : Vd n ms := fun x hx => hv x (List.mem_cons_of_mem _ hx)
    have hm : ms.length = k := by simpa using h
    have := np_lower k hm hv'
    obtain ⟨p, q, e, hp, hq⟩ := hv l List.mem_cons_self
    have h2 : ((p : Int), (q : Int)) ∈ l :: ms := by rw [e]; exact List.mem_cons_self
    have ha := np_add hv' hv (p := p) (q := q) (fun x hx => List.mem_cons_of_mem _ hx) h2 (fun x hx => by
      rcases List.mem_cons.1 hx with c | c
      · exact .inr (by rw [c, e])
      · exact .inl c)
    by_cases c : Cn ms p q
    · rw [ha.1 c]; omega
    · have := ha.2 c; omega
theorem cparts_pos (hw : wok ns ls = true) : 1 ≤ cparts ns ls ∧ cparts ns ls ≤ ns.length := by
  have h := wok_iff.1 hw
  have := np_pos (vd_of_ok h) h.lo
  have := nparts_le ns.length ls ns.length
  unfold cparts
  rw [if_pos hw]
  omega
theorem cfaces_eq (hw : wok ns ls = true) : cfaces ns ls = (ls.length : Int) - ns.length + 1 + cparts ns ls := by unfold cfaces; rw [if_pos hw]
theorem cfaces_pos (hw : wok ns ls = true) : 1 ≤ cfaces ns ls := by
  have h := wok_iff.1 hw
  have := np_lower ls.length rfl (vd_of_ok h)
  rw [cfaces_eq hw]
  unfold cparts
  rw [if_pos hw]
  omega
theorem cpanes_eq (hw : wok ns ls = true) : cpanes ns ls = cfaces ns ls - 1 := by
  have := cfaces_pos hw
  unfold cpanes imax
  omega
theorem isfor_eq (hw : wok ns ls = true) : isfor ns ls = (cfaces ns ls == 1) := by unfold isfor; rw [hw, Bool.true_and]
theorem cparts_whole (hw : whole ns ls = true) : cparts ns ls = 1 := by
  obtain ⟨h, _⟩ := whole_ok hw
  have := (np_one (vd_of_ok h) h.lo).2 (whole_cn hw)
  unfold cparts
  rw [if_pos (wok_iff.2 h), this]; rfl
theorem cfaces_whole (hw : whole ns ls = true) : cfaces ns ls = (vFaces ns ls).length := by
  have h := whole_wok hw
  have := euler hw
  rw [cfaces_eq h, cparts_whole hw, vF_eq2 hw]
  omega
/-- the sum of the first faces' degrees -/
def fdv (ns ls : List P2) (k : Nat) : Int := sm k (fun f => gi (vFaceDegrees ns ls) (f : Int))
theorem fd_gi {f : Nat} (hf : f < (vFaces ns ls).length) : gi (vFaceDegrees ns ls) (f : Int) = (((vFaces ns ls).getD f []).length : Nat) := by
  unfold vFaceDegrees
  rw [gi_nat _ _ (by rw [tab_len]; exact hf)]
  simp [tab]
theorem fdv_all (hw : whole ns ls = true) : fdv ns ls (vFaceDegrees ns ls).length = 2 * (ls.length : Int) := by
  have hl : (vFaceDegrees ns ls).length = (fcs ns ls).length := by unfold vFaceDegrees; rw [tab_len, vF_eq2 hw]
  unfold fdv
  rw [hl]
  have e1 : sm (fcs ns ls).length (fun f => gi (vFaceDegrees ns ls) (f : Int)) = sm (fcs ns ls).length (fun f => sm ls.length (fun k => (if sd (fcs ns ls) (2 * k) = f then 1 else 0) + (if sd (fcs ns ls) (2 * k + 1) = f then 1 else 0))) := by
    refine sm_congr fun f hf => ?_
    rw [fd_gi (by rw [vF_eq2 hw]; exact hf), vF_eq2 hw, ← lsm_cnt, lsm_face (fun _ => 1) hf]
  rw [e1, sm_swap]
  have e2 : ∀ k, k < ls.length → sm (fcs ns ls).length (fun f => (if sd (fcs ns ls) (2 * k) = f then (1 : Int) else 0) + (if sd (fcs ns ls) (2 * k + 1) = f then 1 else 0)) = 2 := by
    intro k hk
    have s1 := (sd_spec (ns := ns) (show 2 * k < 2 * ls.length by omega)).1
    have s2 := (sd_spec (ns := ns) (show 2 * k + 1 < 2 * ls.length by omega)).1
    rw [sm_add, sm_one s1 (fun i _ hne => if_neg fun e => hne e.symm), sm_one s2 (fun i _ hne => if_neg fun e => hne e.symm), if_pos rfl, if_pos rfl]; rfl
  rw [sm_congr e2, sm_const]; omega
theorem fd_bd (i : Nat) : 0 ≤ gi (vFaceDegrees ns ls) (i : Int) ∧ gi (vFaceDegrees ns ls) (i : Int) ≤ 40 := by
  by_cases hw : whole ns ls = true
  · by_cases hf : i < (vFaces ns ls).length
    · rw [fd_gi hf]
      have hm := (whole_ok hw).1.le
      have hf' : i < (fcs ns ls).length := by rw [← vF_eq2 hw]; exact hf
      rw [vF_eq2 hw]
      have hin : (fcs ns ls).getD i [] ∈ fcs ns ls := by
        rw [List.getD_eq_getElem?_getD, List.getElem?_eq_getElem hf']; exact List.getElem_mem _
      have := (fcs_mem hin).2.1
      omega
    · have : gi (vFaceDegrees ns ls) (i : Int) = 0 := by
        unfold gi
        rw [List.getD_eq_getElem?_getD, List.getElem?_eq_none (by unfold vFaceDegrees; rw [tab_len]; omega)]; rfl
      omega
  · have : gi (vFaceDegrees ns ls) (i : Int) = 0 := by
      unfold gi
      rw [List.getD_eq_getElem?_getD, List.getElem?_eq_none (by unfold vFaceDegrees vFaces; rw [tab_len, if_neg hw]; exact Nat.zero_le _)]; rfl
    omega
theorem fdv_bd : ∀ k : Nat, 0 ≤ fdv ns ls k ∧ fdv ns ls k ≤ 40 * k
  | 0 => by unfold fdv; simp [sm]
  | k + 1 => by
    have := fdv_bd k
    have := fd_bd (ns := ns) (ls := ls) k
    unfold fdv at *
    rw [sm_succ]
    omega
theorem fdv_succ (k : Nat) : fdv ns ls (k + 1) = fdv ns ls k + gi (vFaceDegrees ns ls) (k : Int) := by unfold fdv; rw [sm_succ]
/-- each that a part holds has that part -/
theorem part_same (hw : wok ns ls = true) {k i : Nat} (hk : k < ns.length) (hi : i < (vPartOf ns ls (k : Int)).length) : vPartOf ns ls (gi (vPartOf ns ls (k : Int)) (i : Int)) = vPartOf ns ls (k : Int) := by
  have hn : ∀ j : Nat, j < ns.length → vPartOf ns ls (j : Int) = partL ns.length ls j := fun j hj => by
    unfold vPartOf
    rw [if_pos (by unfold hasN; simp [hw, wi_iff]; omega)]; rfl
  rw [hn k hk] at hi ⊢
  have hm : gi (partL ns.length ls k) (i : Int) ∈ partL ns.length ls k := by rw [gi_nat _ _ hi]; exact List.getElem_mem _
  generalize gi (partL ns.length ls k) (i : Int) = x at *
  unfold partL at hm
  obtain ⟨a, ha, rfl⟩ := List.mem_map.1 hm
  have ha := List.mem_filter.1 ha
  have hlt := List.mem_range.1 ha.1
  have e := of_decide_eq_true ha.2
  rw [hn a hlt]
  unfold partL
  rw [e]
theorem part_has (hw : wok ns ls = true) {k : Nat} (hk : k < ns.length) : hsI (vPartOf ns ls (k : Int)) (k : Int) = true := by
  unfold hsI vPartOf
  rw [if_pos (by unfold hasN; simp [hw, wi_iff]; omega), List.contains_iff_mem]
  unfold partL
  refine List.mem_map.2 ⟨k, List.mem_filter.2 ⟨List.mem_range.2 hk, ?_⟩, rfl⟩
  simp
theorem part_whole (hw : whole ns ls = true) {k : Nat} (hk : k < ns.length) : (vPartOf ns ls (k : Int)).length = ns.length := by
  obtain ⟨h, _⟩ := whole_ok hw
  have hv := vd_of_ok h
  unfold vPartOf
  rw [if_pos (by unfold hasN; simp [whole_wok hw, wi_iff]; omega)]
  show (partL ns.length ls k).length = _
  unfold partL
  rw [List.length_map, List.filter_eq_self.2, List.length_range]
  intro i hi
  have hi := List.mem_range.1 hi
  have c := whole_cn hw
  exact decide_eq_true ((labs_iff hv hi hk).2 ((c i hi).symm.trans (c k hk)))
end
end Go.Proofs.Ytdhmjhoaegdfjaa.Pl
