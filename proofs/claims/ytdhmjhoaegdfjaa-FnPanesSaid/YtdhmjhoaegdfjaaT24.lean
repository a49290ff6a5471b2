import Derived.Test.YtdhmjhoaegdfjaaT23
import Derived.Test.YtdhmjhoaegdfjaaD26
import Derived.Test.YtdhmjhoaegdfjaaD27
namespace Go.Proofs.Ytdhmjhoaegdfjaa.Pl
open Go.Proofs.Ytdhmjhoaegdfjaa
/-! What FnPanes asks, third part: boxes, the widest pane, how many panes. -/
section
variable {ns ls : List P2}
theorem outer_eq (hw : whole ns ls = true) : ∃ o : Nat, o < (fcs ns ls).length ∧ vOuter ns ls = (o : Int) := by
  have hF : vFaces ns ls = fcs ns ls := by unfold vFaces; rw [if_pos hw]
  obtain ⟨o, ho, ho1, ho2, _⟩ := face_signs hw
  refine ⟨o, ho, ?_⟩
  unfold vOuter
  rw [hF]
  refine ffst_yes ho (decide_eq_true ho1) fun j hj => decide_eq_false ?_
  have := ho2 j (by omega) (by omega)
  omega
theorem has_pane {f : Nat} (hf : f < (vFaces ns ls).length) : hsI (vPanesOf ns ls) (f : Int) = vIsPane ns ls (f : Int) := by
  unfold hsI vPanesOf
  rw [Bool.eq_iff_iff, List.contains_iff_mem, flt_mem]
  constructor
  · rintro ⟨i, e, _, h⟩
    obtain rfl : f = i := by omega
    exact h
  · intro h; exact ⟨f, rfl, hf, h⟩
theorem pane_len {f : Nat} (hf : f < (vFaces ns ls).length) : (vPaneNodes ns ls (f : Int)).length = ((vFaces ns ls).getD f []).length := by
  unfold vPaneNodes
  rw [if_pos (hasF_iff.2 ⟨by omega, by omega⟩), tab_len, Int.toNat_natCast]
theorem bx_mem (ns : List P2) (V : List Int) : ∀ j i : Nat, i < j → ((bxN ns V j).1.1 ≤ (gp ns (gi V (i : Nat))).1 ∧ (bxN ns V j).1.2 ≤ (gp ns (gi V (i : Nat))).2) ∧ (gp ns (gi V (i : Nat))).1 ≤ (bxN ns V j).2.1 ∧ (gp ns (gi V (i : Nat))).2 ≤ (bxN ns V j).2.2
  | 0, i, h => by omega
  | j + 1, i, h => by
    have e : bxN ns V (j + 1) = ((imin (bxN ns V j).1.1 (gp ns (gi V (j : Nat))).1, imin (bxN ns V j).1.2 (gp ns (gi V (j : Nat))).2), (imax (bxN ns V j).2.1 (gp ns (gi V (j : Nat))).1, imax (bxN ns V j).2.2 (gp ns (gi V (j : Nat))).2)) := rfl
    rw [e]
    show (imin _ _ ≤ _ ∧ imin _ _ ≤ _) ∧ _ ≤ imax _ _ ∧ _ ≤ imax _ _
    unfold imin imax
    rcases Nat.lt_succ_iff_lt_or_eq.1 h with c | rfl
    · have := bx_mem ns V j i c; omega
    · omega
theorem bx_bd {ns : List P2} {V : List Int} (h0 : nok (gp ns (gi V (0 : Nat))) = true) : ∀ j : Nat, (∀ i, i < j → nok (gp ns (gi V (i : Nat))) = true) → (0 ≤ (bxN ns V j).1.1 ∧ 0 ≤ (bxN ns V j).1.2 ∧ (bxN ns V j).2.1 ≤ 20 ∧ (bxN ns V j).2.2 ≤ 20) ∧ (bxN ns V j).1.1 ≤ (bxN ns V j).2.1 ∧ (bxN ns V j).1.2 ≤ (bxN ns V j).2.2
  | 0, _ => by
    have := nok_bd h0
    show (0 ≤ (gp ns (gi V (0 : Nat))).1 ∧ 0 ≤ (gp ns (gi V (0 : Nat))).2 ∧ (gp ns (gi V (0 : Nat))).1 ≤ 20 ∧ (gp ns (gi V (0 : Nat))).2 ≤ 20) ∧ (gp ns (gi V (0 : Nat))).1 ≤ (gp ns (gi V (0 : Nat))).1 ∧ (gp ns (gi V (0 : Nat))).2 ≤ (gp ns (gi V (0 : Nat))).2
    omega
  | j + 1, h => by
    have e : bxN ns V (j + 1) = ((imin (bxN ns V j).1.1 (gp ns (gi V (j : Nat))).1, imin (bxN ns V j).1.2 (gp ns (gi V (j : Nat))).2), (imax (bxN ns V j).2.1 (gp ns (gi V (j : Nat))).1, imax (bxN ns V j).2.2 (gp ns (gi V (j : Nat))).2)) := rfl
    have ih := bx_bd h0 j fun i hi => h i (by omega)
    have := nok_bd (h j (by omega))
    rw [e]
    show (0 ≤ imin _ _ ∧ 0 ≤ imin _ _ ∧ imax _ _ ≤ 20 ∧ imax _ _ ≤ 20) ∧ imin _ _ ≤ imax _ _ ∧ imin _ _ ≤ imax _ _
    unfold imin imax
    omega
theorem pane_nok (hw : whole ns ls = true) {f : Nat} {i : Nat} (hi : i < (vPaneNodes ns ls (f : Int)).length) : nok (gp ns (gi (vPaneNodes ns ls (f : Int)) (i : Nat))) = true := by
  obtain ⟨a, e, ha⟩ := pane_node hi
  rw [e]
  exact (whole_ok hw).1.ok a ha
/-- no face is greater than its box -/
theorem pane_box (hw : whole ns ls = true) {f : Nat} (hf : f < (vFaces ns ls).length) :
    vAreaOf ns ls (f : Int) ≤ 2 * ((vPaneBox ns ls (f : Int)).2.1 - (vPaneBox ns ls (f : Int)).1.1) * ((vPaneBox ns ls (f : Int)).2.2 - (vPaneBox ns ls (f : Int)).1.2) ∧
    (0 ≤ (vPaneBox ns ls (f : Int)).1.1 ∧ (vPaneBox ns ls (f : Int)).1.1 ≤ (vPaneBox ns ls (f : Int)).2.1 ∧ (vPaneBox ns ls (f : Int)).2.1 ≤ 20) ∧
    (0 ≤ (vPaneBox ns ls (f : Int)).1.2 ∧ (vPaneBox ns ls (f : Int)).1.2 ≤ (vPaneBox ns ls (f : Int)).2.2 ∧ (vPaneBox ns ls (f : Int)).2.2 ≤ 20) ∧
    ∀ i, i < (vPaneNodes ns ls (f : Int)).length → (vPaneBox ns ls (f : Int)).1.1 ≤ (gp ns (gi (vPaneNodes ns ls (f : Int)) (i : Nat))).1 ∧ (gp ns (gi (vPaneNodes ns ls (f : Int)) (i : Nat))).2 ≤ (vPaneBox ns ls (f : Int)).2.2 := by
  have hF : vFaces ns ls = fcs ns ls := by unfold vFaces; rw [if_pos hw]
  have hh : hasF ns ls (f : Int) = true := hasF_iff.2 ⟨by omega, by omega⟩
  have hpos := pane_pos hh
  have hB : vPaneBox ns ls (f : Int) = bxN ns (vPaneNodes ns ls (f : Int)) (vPaneNodes ns ls (f : Int)).length := by unfold vPaneBox; rw [if_pos hh]
  have hmem := bx_mem ns (vPaneNodes ns ls (f : Int)) (vPaneNodes ns ls (f : Int)).length
  have hbd := bx_bd (pane_nok hw hpos) (vPaneNodes ns ls (f : Int)).length (fun i hi => pane_nok hw hi)
  rw [← hB] at hmem hbd
  have hlen := pane_len hf
  have hV : ∀ i, i < ((fcs ns ls).getD f []).length → gi (vPaneNodes ns ls (f : Int)) (i : Nat) = (dEnds ls (((fcs ns ls).getD f []).getD i 0)).1 := fun i hi => by
    unfold vPaneNodes
    rw [if_pos hh, hF, Int.toNat_natCast]
    exact tab_gi _ hi
  have hfl : f < (fcs ns ls).length := by rw [← hF]; exact hf
  obtain ⟨o, _, _, _, how, _⟩ := face_signs hw
  have key := face_area hw (o := o) how hfl (lx := (vPaneBox ns ls (f : Int)).1.1) (ly := (vPaneBox ns ls (f : Int)).1.2) (hx := (vPaneBox ns ls (f : Int)).2.1) (hy := (vPaneBox ns ls (f : Int)).2.2)
    (fun d hd e => by
      have hm := (face_mem (ns := ns) (d := d) hfl).2 ⟨hd, e⟩
      obtain ⟨i, hi, ei⟩ := List.mem_iff_getElem.1 hm
      have e1 := hV i hi
      rw [getD_at _ hi, ei] at e1
      have := hmem i (by rw [hlen, hF]; exact hi)
      rw [e1] at this
      exact ⟨this.1.1, this.1.2, this.2.1, this.2.2⟩) (by omega) (by omega)
  refine ⟨?_, by omega, by omega, fun i hi => ⟨(hmem i hi).1.1, (hmem i hi).2.2⟩⟩
  have hA : vAreaOf ns ls (f : Int) = imax (area ns ls ((fcs ns ls).getD f [])) (-(area ns ls ((fcs ns ls).getD f []))) := by
    unfold vAreaOf
    rw [if_pos hh, hF, Int.toNat_natCast]
  rw [hA, Int.mul_assoc]
  unfold imax
  omega
theorem ar_bd (f : Int) : -1 ≤ vAreaOf ns ls f := by
  unfold vAreaOf
  split
  · unfold imax; omega
  · omega
/-- the widest pane -/
theorem wd_inv : ∀ j, j ≤ (vPanesOf ns ls).length → (0 < j → 0 ≤ wdN ns ls j) ∧ (j = 0 → wdN ns ls j = -1) ∧ ∀ i, i < j → vAreaOf ns ls (gi (vPanesOf ns ls) (i : Nat)) ≤ vAreaOf ns ls (wdN ns ls j)
  | 0, _ => ⟨fun h => by omega, fun _ => rfl, fun i hi => by omega⟩
  | j + 1, h => by
    obtain ⟨h1, h2, h3⟩ := wd_inv j (by omega)
    have hj : 0 ≤ gi (vPanesOf ns ls) (j : Nat) := by
      rw [gi_nat _ _ (by omega)]
      have hm : (vPanesOf ns ls)[j] ∈ vPanesOf ns ls := List.getElem_mem _
      unfold vPanesOf at hm
      rw [flt_mem] at hm
      obtain ⟨i, e, _⟩ := hm
      have : (vPanesOf ns ls)[j] = (i : Int) := e
      omega
    have e : wdN ns ls (j + 1) = if wdN ns ls j < 0 ∨ vAreaOf ns ls (wdN ns ls j) < vAreaOf ns ls (gi (vPanesOf ns ls) (j : Nat)) then gi (vPanesOf ns ls) (j : Nat) else wdN ns ls j := rfl
    rw [e]
    by_cases c : wdN ns ls j < 0 ∨ vAreaOf ns ls (wdN ns ls j) < vAreaOf ns ls (gi (vPanesOf ns ls) (j : Nat))
    · rw [if_pos c]
      refine ⟨fun _ => hj, fun h => by omega, fun i hi => ?_⟩
      rcases Nat.lt_succ_iff_lt_or_eq.1 hi with g | rfl
      · have := h3 i g
        have := h1 (by omega)
        omega
      · exact Int.le_refl _
    · rw [if_neg c]
      refine ⟨fun _ => by omega, fun h => by omega, fun i hi => ?_⟩
      rcases Nat.lt_succ_iff_lt_or_eq.1 hi with g | rfl
      · exact h3 i g
      · omega
theorem best_ok {f : Nat} (hf : f < (vFaces ns ls).length) (hp : vIsPane ns ls (f : Int) = true) : 0 ≤ vWidestPane ns ls ∧ vAreaOf ns ls (f : Int) ≤ vAreaOf ns ls (vWidestPane ns ls) := by
  have hm : (f : Int) ∈ vPanesOf ns ls := by unfold vPanesOf; exact flt_mem.2 ⟨f, rfl, hf, hp⟩
  obtain ⟨i, hi, e⟩ := List.mem_iff_getElem.1 hm
  obtain ⟨h1, _, h3⟩ := wd_inv (vPanesOf ns ls).length (Nat.le_refl _)
  have := h3 i hi
  rw [gi_nat _ _ hi, e] at this
  exact ⟨h1 (by omega), this⟩
theorem best_iff : decide (0 ≤ vWidestPane ns ls) = decide (0 < (vPanesOf ns ls).length) := by
  obtain ⟨h1, h2, _⟩ := wd_inv (ns := ns) (ls := ls) (vPanesOf ns ls).length (Nat.le_refl _)
  rw [Bool.eq_iff_iff, decide_eq_true_eq, decide_eq_true_eq]
  unfold vWidestPane
  constructor
  · intro h
    rcases Nat.eq_zero_or_pos (vPanesOf ns ls).length with c | c
    · have := h2 c; omega
    · exact c
  · exact h1
theorem cnp_less {P : Nat → Bool} {o : Nat} (h : P o = false) : ∀ n, o < n → cnp P n + 1 ≤ n
  | 0, h => by omega
  | n + 1, hn => by
    rcases Nat.lt_succ_iff_lt_or_eq.1 hn with g | rfl
    · have := cnp_less h n g
      by_cases c : P n = true
      · rw [cnp_yes c]; omega
      · rw [cnp_no (eq_false_of_ne_true c)]; omega
    · rw [cnp_no h]; have := cnp_le P o; omega
theorem flt_cnp2 (p : Nat → Bool) (n : Nat) : (flt p n).length = cnp p n := by
  induction n with
  | zero => rfl
  | succ n ih =>
    cases c : p n with
    | true => rw [flt_yes c, cnp_yes c, List.length_append, ih]; rfl
    | false => rw [flt_no c, cnp_no c, ih]
theorem panes_less (hw : whole ns ls = true) : (vPanesOf ns ls).length + 1 ≤ (vFaces ns ls).length := by
  have hF : vFaces ns ls = fcs ns ls := by unfold vFaces; rw [if_pos hw]
  obtain ⟨o, ho, e⟩ := outer_eq hw
  unfold vPanesOf
  rw [flt_cnp2]
  refine cnp_less (o := o) ?_ _ (by rw [hF]; exact ho)
  show vIsPane ns ls (o : Int) = false
  unfold vIsPane
  rw [e]
  simp
theorem pane_out {f : Int} (hp : vIsPane ns ls f = true) : f ≠ vOuter ns ls := by
  unfold vIsPane at hp
  simp only [Bool.and_eq_true, decide_eq_true_eq] at hp
  exact hp.1.2
theorem convex_pane {f : Int} (hp : vIsPane ns ls f = false) : vIsConvexPane ns ls f = false := by
  unfold vIsConvexPane
  rw [hp, Bool.false_and]
end
end Go.Proofs.Ytdhmjhoaegdfjaa.Pl
