import Derived.Test.YtdhmjhoaegdfjaaD13
namespace Go.Proofs.Ytdhmjhoaegdfjaa
open Go.RowKit Go.Sort Go.BigFrame


def vFaceDegrees (ns ls : List P2) : List Int := tab (vFaces ns ls).length (fun f => (((vFaces ns ls).getD f []).length : Nat))
theorem vFaceDegrees_len (ns ls : List P2) : (vFaceDegrees ns ls).length ≤ 1000 := by unfold vFaceDegrees; rw [tab_len]; have := vFaces_len ns ls; omega
set_option maxRecDepth 100000 in
set_option maxHeartbeats 2000000 in
theorem FaceDegrees_i (A B : Option Addr) (c d : Nat) (ns ls : List P2) (w : World) (h : Wn w A c B d ns ls) :
    Calls Try.prog 26 #[.agg #[.slice A ns.length c, .slice B ls.length d]] w fun e w' => ∃ v, e = .returned v ∧ OwI w' w.heap.size v (vFaceDegrees ns ls) ∧ Ext w w' := by
  have HV : Hid (vFaceDegrees ns ls = tab (vFaces ns ls).length (fun f => (((vFaces ns ls).getD f []).length : Nat))) := Lib.hid rfl
  have hFl := vFaces_len ns ls
  go_enter Try.func26, Try.ntmps26
  go_wp2_with fail
  have k0 : (w.alloc (.cells #[.slice A ns.length c, .slice B ls.length d] 27)).cell? ⟨w.heap.size, 0, none⟩ = some (.slice A ns.length c) := by go_simp
  have k1 : (w.alloc (.cells #[.slice A ns.length c, .slice B ls.length d] 27)).cell? ⟨w.heap.size, 1, none⟩ = some (.slice B ls.length d) := by go_simp
  have hx : Ext w (w.alloc (.cells #[.slice A ns.length c, .slice B ls.length d] 27)) := (by repeat first | exact Ext.refl _ | assumption | refine Ext.drew ?_ | refine Ext.alloc ?_ _ | refine Ext.setCell ?_ (by simp) | refine Ext.setCell ?_ (by simp; omega) | refine Ext.trans ?_ (by assumption))
  have hsz1 : w.heap.size + 1 = (w.alloc (.cells #[.slice A ns.length c, .slice B ls.length d] 27)).heap.size := by simp
  generalize (w.alloc (.cells #[.slice A ns.length c, .slice B ls.length d] 27)) = w0 at *
  (try rw [hsz1])
  refine (FacesOf_i _ _ _ _ ns ls _ (h.ext hx)).mono ?_
  rintro e w1 ⟨v, rfl, hF, -, hb⟩
  have k0 := hb.lit k0
  have k1 := hb.lit k1
  have hx := hx.trans hb
  clear hb
  generalize vFaces ns ls = L at *
  obtain ⟨A1, c1, rfl, -⟩ := hF.shape
  have HT : Hid (∀ j, tab (j + 1) (fun f => ((L.getD f []).length : Nat)) = tab j (fun f => ((L.getD f []).length : Nat)) ++ [((L.getD j []).length : Int)]) := Lib.hid (fun j => tab_snoc _ _)
  have HTL0 : Hid (∀ j, (tab j (fun f => ((L.getD f []).length : Nat))).length = j) := Lib.hid (fun j => tab_len _ _)
  have HT0 : Hid (tab 0 (fun f => ((L.getD f []).length : Nat)) = []) := Lib.hid rfl
  generalize (fun f => (((L.getD f []).length : Nat) : Int)) = G at *
  go_wp2_with fail
  go_loopw [3, 5, 9] (fun v _ i wr => ∃ j : Nat, j ≤ L.length ∧ i = .int .i64 j ∧ OzI wr w.heap.size w1.heap.size v (tab j G) ∧ Ext w1 wr) (fun _ _ i _ => L.length - (intOf i).toNat)
  case atStart => exact ⟨0, by omega, rfl, .of (by rw [HT0.out]; exact OwI.nil _ _), Ext.refl _⟩
  case round =>
    obtain ⟨j, hj, rfl, hv, hxr⟩ := hrel
    obtain ⟨w3, rfl⟩ : ∃ x : World, x = wr := ⟨_, rfl⟩
    by_cases hlt : j < L.length
    · obtain ⟨g, c0, A', c', e, e1, e2⟩ := (hF.ext hxr).at_ hlt
      obtain ⟨rfl, rfl⟩ : A1 = some ⟨g, 0, none⟩ ∧ c1 = c0 := by simpa using e
      clear e e2
      have HTS := Lib.hid (HT.out j)
      have HTL := Lib.hid (HTL0.out j)
      have hji : (j : Int) < L.length := by omega
      generalize (L.getD j []).length = y at *
      have hsz := hxr.size
      go_wp2_with (at_builtin; refine az_int _ _ rfl rfl rfl (hv.ext (by repeat first | exact Ext.refl _ | assumption | refine Ext.drew ?_ | refine Ext.alloc ?_ _ | refine Ext.setCell ?_ (by simp) | refine Ext.setCell ?_ (by simp; omega) | refine Ext.trans ?_ (by assumption))) (g := w3.heap.size) (y := y) (by first | rfl | simp) (by go_simp) (by rw [HTL.out]; omega) (by simp; omega) ?_)
      intro v' w' h1 h3
      go_wp2
      go_roundw
      case rel => exact ⟨j + 1, by omega, by go_num, by rw [HTS.out]; exact h1, h3 _ (hxr.trans (by repeat first | exact Ext.refl _ | assumption | refine Ext.drew ?_ | refine Ext.alloc ?_ _ | refine Ext.setCell ?_ (by simp) | refine Ext.setCell ?_ (by simp; omega) | refine Ext.trans ?_ (by assumption))) (Nat.le_refl _)⟩
      case measure => first | (simp [intOf]; done) | (simp [intOf]; omega)
    · obtain rfl : j = L.length := by omega
      have hww := hx.size
      go_wp2
      go_ret
      exact ⟨_, rfl, by rw [HV.out]; exact hv.own (by omega), hx.trans hxr⟩

/-! ### the nodes of a face -/
def vPaneNodes (ns ls : List P2) (f : Int) : List Int := if hasF ns ls f = true then tab ((vFaces ns ls).getD f.toNat []).length (fun i => (dEnds ls (((vFaces ns ls).getD f.toNat []).getD i 0)).1) else []
theorem row_facts {ns ls : List P2} {f : Nat} (hf : f < (vFaces ns ls).length) : WOk ns ls ∧ 1 ≤ ((vFaces ns ls).getD f []).length ∧ ((vFaces ns ls).getD f []).length ≤ 2 * ls.length ∧ ∀ i, i < ((vFaces ns ls).getD f []).length → ((vFaces ns ls).getD f []).getD i 0 < 2 * ls.length := by
  have hw : whole ns ls = true := by
    unfold vFaces at hf
    split at hf
    · assumption
    · simp at hf
  have hV : vFaces ns ls = fcs ns ls := by unfold vFaces; rw [if_pos hw]
  rw [hV] at hf ⊢
  have hmem : (fcs ns ls).getD f [] ∈ fcs ns ls := by
    rw [List.getD_eq_getElem?_getD, List.getElem?_eq_getElem hf]
    exact List.getElem_mem hf
  obtain ⟨h1, h2, h3⟩ := fcs_mem hmem
  exact ⟨(whole_ok hw).1, h1, h2, fun i hi => h3 _ (by rw [getD_at _ hi]; exact List.getElem_mem hi)⟩
theorem vPaneNodes_len (ns ls : List P2) (f : Int) : (vPaneNodes ns ls f).length ≤ 1000 := by
  unfold vPaneNodes
  split
  · rename_i h
    rw [hasF_iff] at h
    have := row_facts (ns := ns) (ls := ls) (f := f.toNat) (by omega)
    have := this.1.le
    rw [tab_len]; omega
  · simp

set_option maxRecDepth 100000 in
set_option maxHeartbeats 2000000 in
theorem PaneNodes_i0 (A B : Option Addr) (c d : Nat) (ns ls : List P2) (f : Int) (w : World) (h : Wn w A c B d ns ls) :
    Calls Try.prog 41 #[.agg #[.slice A ns.length c, .slice B ls.length d], .int .i64 f] w fun e w' => ∃ v, e = .returned v ∧ OwI w' w.heap.size v (vPaneNodes ns ls f) ∧ (hasF ns ls f = false → v = .slice none 0 0) ∧ Ext w w' := by
  have HV : Hid (vPaneNodes ns ls f = if hasF ns ls f = true then tab ((vFaces ns ls).getD f.toNat []).length (fun i => (dEnds ls (((vFaces ns ls).getD f.toNat []).getD i 0)).1) else []) := Lib.hid rfl
  have HH : Hid (wi f 0 ((vFaces ns ls).length - 1) = hasF ns ls f) := Lib.hid rfl
  have hFl := vFaces_len ns ls
  by_cases hf : hasF ns ls f = true
  · have HQ := Lib.hid hf
    go_enter Try.func41, Try.ntmps41
    go_wp2_with fail
    have k0 : (w.alloc (.cells #[.slice A ns.length c, .slice B ls.length d] 27)).cell? ⟨w.heap.size, 0, none⟩ = some (.slice A ns.length c) := by go_simp
    have k1 : (w.alloc (.cells #[.slice A ns.length c, .slice B ls.length d] 27)).cell? ⟨w.heap.size, 1, none⟩ = some (.slice B ls.length d) := by go_simp
    have hx : Ext w (w.alloc (.cells #[.slice A ns.length c, .slice B ls.length d] 27)) := (by repeat first | exact Ext.refl _ | assumption | refine Ext.drew ?_ | refine Ext.alloc ?_ _ | refine Ext.setCell ?_ (by simp) | refine Ext.setCell ?_ (by simp; omega) | refine Ext.trans ?_ (by assumption))
    have hsz1 : w.heap.size + 1 = (w.alloc (.cells #[.slice A ns.length c, .slice B ls.length d] 27)).heap.size := by simp
    generalize (w.alloc (.cells #[.slice A ns.length c, .slice B ls.length d] 27)) = w0 at *
    (try rw [hsz1])
    refine (FacesOf_i _ _ _ _ ns ls _ (h.ext hx)).mono ?_
    rintro e w1 ⟨v, rfl, hF, -, hb⟩
    have k0 := hb.lit k0
    have k1 := hb.lit k1
    have hx := hx.trans hb
    clear hb
    obtain ⟨A1, c1, rfl, -⟩ := hF.shape
    go_wp2_with fail
    refine (within_c _ _ _ _).mono ?_
    rw [HH.out]
    rintro e w2 ⟨rfl, rfl⟩
    rw [hf]
    obtain ⟨q1, q2⟩ := hasF_iff.1 hf
    obtain ⟨f, rfl⟩ := Int.eq_ofNat_of_zero_le q1
    have hfL : f < (vFaces ns ls).length := by omega
    obtain ⟨hW, r1, r2, r3⟩ := row_facts hfL
    have hm := hW.le
    have HW := Lib.hid hW
    have HR3 := Lib.hid r3
    clear hW r3
    rw [if_pos hf] at HV
    have ht : (f : Int).toNat = f := by omega
    rw [ht] at HV
    obtain ⟨g, c0, A', c', e, e1, e2⟩ := hF.at_ hfL
    have e2 := e2.in'
    obtain ⟨rfl, rfl⟩ : A1 = some ⟨g, 0, none⟩ ∧ c1 = c0 := by simpa using e
    clear e hF ht
    generalize vFaces ns ls = L at *
    generalize L.getD f [] = row at *
    have HNL := Lib.hid (nl_len row)
    have HT : Hid (∀ j, tab (j + 1) (fun i => (dEnds ls (row.getD i 0)).1) = tab j (fun i => (dEnds ls (row.getD i 0)).1) ++ [(dEnds ls (row.getD j 0)).1]) := Lib.hid (fun j => tab_snoc _ _)
    have HTL0 : Hid (∀ j, (tab j (fun i => (dEnds ls (row.getD i 0)).1)).length = j) := Lib.hid (fun j => tab_len _ _)
    have HT0 : Hid (tab 0 (fun i => (dEnds ls (row.getD i 0)).1) = []) := Lib.hid rfl
    generalize (fun i => (dEnds ls (row.getD i 0)).1) = G at *
    have hfi : (f : Int) < L.length := by omega
    go_wp2_with fail
    go_loopw [6, 8, 22] (fun v _ i wr => ∃ j : Nat, j ≤ row.length ∧ i = .int .i64 j ∧ OzI wr w.heap.size w1.heap.size v (tab j G) ∧ Ext w1 wr) (fun _ _ i _ => row.length - (intOf i).toNat)
    case atStart => exact ⟨0, by omega, rfl, .of (by rw [HT0.out]; exact OwI.nil _ _), Ext.refl _⟩
    case round =>
      obtain ⟨j, hj, rfl, hv, hxr⟩ := hrel
      obtain ⟨wo, rfl⟩ : ∃ x : World, x = wr := ⟨_, rfl⟩
      have k0 := hxr.lit k0
      have k1 := hxr.lit k1
      by_cases hlt : j < row.length
      · obtain ⟨gb, off, rfl, hbb, c3⟩ := (e2.ext hxr).gi_ (k := j) (by rw [HNL.out]; exact hlt)
        rw [nl_gi row hlt] at c3
        have HTS := Lib.hid (HT.out j)
        have HTL := Lib.hid (HTL0.out j)
        have hxm := HR3.out j hlt
        generalize row.getD j 0 = x at *
        go_wp2_with fail
        refine (dartFrom_c A B c d ns ls x _ (h.ext (hx.trans hxr)) hxm).mono ?_
        rintro e w3 ⟨rfl, hb⟩
        have hxr := hxr.trans hb
        have hv := hv.ext hb
        clear hb
        generalize (dEnds ls x).1 = y at *
        have hsz := hxr.size
        go_wp2_with (at_builtin; refine az_int _ _ rfl rfl rfl (hv.ext (by repeat first | exact Ext.refl _ | assumption | refine Ext.drew ?_ | refine Ext.alloc ?_ _ | refine Ext.setCell ?_ (by simp) | refine Ext.setCell ?_ (by simp; omega) | refine Ext.trans ?_ (by assumption))) (g := w3.heap.size) (y := y) (by first | rfl | simp) (by go_simp) (by rw [HTL.out]; omega) (by simp; omega) ?_)
        intro v' w' h1 h3
        go_wp2
        go_roundw
        case rel => exact ⟨j + 1, by omega, by go_num, by rw [HTS.out]; exact h1, h3 _ (hxr.trans (by repeat first | exact Ext.refl _ | assumption | refine Ext.drew ?_ | refine Ext.alloc ?_ _ | refine Ext.setCell ?_ (by simp) | refine Ext.setCell ?_ (by simp; omega) | refine Ext.trans ?_ (by assumption))) (Nat.le_refl _)⟩
        case measure => first | (simp [intOf]; done) | (simp [intOf]; omega)
      · obtain rfl : j = row.length := by omega
        have hww := hx.size
        go_wp2
        go_ret
        exact ⟨_, rfl, by rw [HV.out]; exact hv.own (by omega), fun e => (by rw [HQ.out] at e; cases e), hx.trans hxr⟩
  · have hf' := eq_false_of_ne_true hf
    rw [if_neg hf] at HV
    go_enter Try.func41, Try.ntmps41
    go_wp2_with fail
    have k0 : (w.alloc (.cells #[.slice A ns.length c, .slice B ls.length d] 27)).cell? ⟨w.heap.size, 0, none⟩ = some (.slice A ns.length c) := by go_simp
    have k1 : (w.alloc (.cells #[.slice A ns.length c, .slice B ls.length d] 27)).cell? ⟨w.heap.size, 1, none⟩ = some (.slice B ls.length d) := by go_simp
    have hx : Ext w (w.alloc (.cells #[.slice A ns.length c, .slice B ls.length d] 27)) := (by repeat first | exact Ext.refl _ | assumption | refine Ext.drew ?_ | refine Ext.alloc ?_ _ | refine Ext.setCell ?_ (by simp) | refine Ext.setCell ?_ (by simp; omega) | refine Ext.trans ?_ (by assumption))
    have hsz1 : w.heap.size + 1 = (w.alloc (.cells #[.slice A ns.length c, .slice B ls.length d] 27)).heap.size := by simp
    generalize (w.alloc (.cells #[.slice A ns.length c, .slice B ls.length d] 27)) = w0 at *
    (try rw [hsz1])
    refine (FacesOf_i _ _ _ _ ns ls _ (h.ext hx)).mono ?_
    rintro e w1 ⟨v, rfl, hF, -, hb⟩
    have k0 := hb.lit k0
    have k1 := hb.lit k1
    have hx := hx.trans hb
    clear hb
    obtain ⟨A1, c1, rfl, -⟩ := hF.shape
    go_wp2_with fail
    refine (within_c _ _ _ _).mono ?_
    rw [HH.out]
    rintro e w2 ⟨rfl, rfl⟩
    rw [hf']
    go_wp2
    go_ret
    exact ⟨_, rfl, by rw [HV.out]; exact OwI.nil _ _, fun _ => rfl, hx⟩

end Go.Proofs.Ytdhmjhoaegdfjaa
