import Derived.Test.YtdhmjhoaegdfjaaD21
namespace Go.Proofs.Ytdhmjhoaegdfjaa
open Go.RowKit Go.Sort Go.BigFrame

theorem size_c (n : Int) (w : World) (h0 : -100000 ≤ n) (h1 : n ≤ 100000) : Calls Try.prog 119 #[.int .i64 n] w fun e w' => e = .returned (.int .i64 (imax n (-n))) ∧ w = w' := by
  by_cases h : n < 0
  · have HE : Hid (imax n (-n) = -n) := Lib.hid (by unfold imax; omega)
    go_enter Try.func119, Try.ntmps119
    go_wp2
    go_ret
    exact ⟨ret_i (by rw [HE.out]), rfl⟩
  · have HE : Hid (imax n (-n) = n) := Lib.hid (by unfold imax; omega)
    go_enter Try.func119, Try.ntmps119
    go_wp2
    go_ret
    exact ⟨ret_i (by rw [HE.out]), rfl⟩

def vAreaOf (ns ls : List P2) (f : Int) : Int := if hasF ns ls f = true then imax (area ns ls ((vFaces ns ls).getD f.toNat [])) (-(area ns ls ((vFaces ns ls).getD f.toNat []))) else -1
set_option maxRecDepth 100000 in
set_option maxHeartbeats 2000000 in
theorem AreaOf_i (A B : Option Addr) (c d : Nat) (ns ls : List P2) (f : Int) (w : World) (h : Wn w A c B d ns ls) :
    Calls Try.prog 84 #[.agg #[.slice A ns.length c, .slice B ls.length d], .int .i64 f] w fun e w' => e = .returned (.int .i64 (vAreaOf ns ls f)) ∧ Ext w w' := by
  have HV : Hid (vAreaOf ns ls f = if hasF ns ls f = true then imax (area ns ls ((vFaces ns ls).getD f.toNat [])) (-(area ns ls ((vFaces ns ls).getD f.toNat []))) else -1) := Lib.hid rfl
  have HH : Hid (wi f 0 ((vFaces ns ls).length - 1) = hasF ns ls f) := Lib.hid rfl
  have hFl := vFaces_len ns ls
  by_cases hf : hasF ns ls f = true
  · skip
    go_enter Try.func84, Try.ntmps84
    go_wp2_with fail
    have k0 : (w.alloc (.cells #[.slice A ns.length c, .slice B ls.length d] 27)).cell? ⟨w.heap.size, 0, none⟩ = some (.slice A ns.length c) := by go_simp
    have k1 : (w.alloc (.cells #[.slice A ns.length c, .slice B ls.length d] 27)).cell? ⟨w.heap.size, 1, none⟩ = some (.slice B ls.length d) := by go_simp
    have hx : Ext w (w.alloc (.cells #[.slice A ns.length c, .slice B ls.length d] 27)) := (by repeat first | exact Ext.refl _ | assumption | refine Ext.drew ?_ | refine Ext.alloc ?_ _ | refine Ext.setCell ?_ (by simp) | refine Ext.setCell ?_ (by simp; omega) | refine Ext.trans ?_ (by assumption))
    have hsz1 : w.heap.size + 1 = (w.alloc (.cells #[.slice A ns.length c, .slice B ls.length d] 27)).heap.size := by simp
    generalize (w.alloc (.cells #[.slice A ns.length c, .slice B ls.length d] 27)) = w0 at *
    (try rw [hsz1])
    refine (FacesOf_i _ _ _ _ ns ls _ (h.ext hx)).mono ?_
    rintro e w1 ⟨v, rfl, hF, -, hb⟩
    have k0 := hb.lit k0
    have k1 := hb.lit k1
    have hx := hx.trans hb
    clear hb
    obtain ⟨A1, c1, rfl, -⟩ := hF.shape
    go_wp2_with fail
    refine (within_c _ _ _ _).mono ?_
    rw [HH.out]
    rintro e w2 ⟨rfl, rfl⟩
    rw [hf]
    obtain ⟨q1, q2⟩ := hasF_iff.1 hf
    obtain ⟨f, rfl⟩ := Int.eq_ofNat_of_zero_le q1
    have hfL : f < (vFaces ns ls).length := by omega
    obtain ⟨hW, r1, r2, r3⟩ := row_facts hfL
    have hm := hW.le
    have HW := Lib.hid hW
    have HR3 := Lib.hid r3
    have hab := areaR_bd hW r3 _ (Nat.le_refl _)
    have HA : Hid (area ns ls ((vFaces ns ls).getD f []) = areaR ns ls ((vFaces ns ls).getD f []) ((vFaces ns ls).getD f []).length) := Lib.hid rfl
    rw [← HA.out] at hab
    clear hW r3
    rw [if_pos hf] at HV
    have ht : (f : Int).toNat = f := by omega
    rw [ht] at HV
    obtain ⟨g, c0, A', c', e, e1, e2⟩ := hF.at_ hfL
    have e2 := e2.in'
    obtain ⟨rfl, rfl⟩ : A1 = some ⟨g, 0, none⟩ ∧ c1 = c0 := by simpa using e
    clear e hF ht HA
    generalize vFaces ns ls = L at *
    generalize L.getD f [] = row at *
    have hrow : row.length ≤ 40 := by omega
    have hfi : (f : Int) < L.length := by omega
    generalize hQ : area ns ls row = q at *
    have HQ := Lib.hid hQ
    clear hQ
    have hq1 : -100000 ≤ q := by omega
    have hq2 : q ≤ 100000 := by omega
    clear hab
    go_wp2_with fail
    have d0 := cell_regrown k0
    have d1 := cell_regrown k1
    have d2 := cell_regrown e1
    refine rx_open [(true, 0, some 14, 4), (true, 0, some 15, 32), (true, 0, some 16, 2), (true, 6, some 17, 98304), (true, 8, some 18, 131072), (false, 17, some 19, 278528), (false, 32, some 20, 524288), (true, 127, some 4, 1048576)] 0 8 mixd rfl (by kernel_rfl) (by kernel_rfl) (by kernel_rfl) ?_
    refine rx_run (run := [0, 1, 2, 3, 4]) (k := 3) (m' := 31) rfl (by kernel_rfl) (by kernel_rfl) (by kernel_rfl) (fm_cons rfl <| fm_cons rfl <| fm_cons rfl <| fm_cons rfl <| fm_cons rfl <| List.filterMap_nil) (by repeat first | exact Ext.refl _ | assumption | refine Ext.drew ?_ | refine Ext.alloc ?_ _ | refine Ext.setCell ?_ (by simp) | refine Ext.setCell ?_ (by simp; omega) | refine Ext.trans ?_ (by assumption)) ?_
    repeat (go_big_quiet_step ((fail)))
    refine wpQuiet_nil ?_
    refine rx_op 5 (k := 2) (m' := 63) rfl rfl (by kernel_rfl) (by kernel_rfl) ?_
    go_wp2_with (first | (go_at_call 120; refine (areaOf_c A B c d ns ls A' c' row _ (h.ext (hx.trans (by repeat first | exact Ext.refl _ | assumption | refine Ext.drew ?_ | refine Ext.alloc ?_ _ | refine Ext.setCell ?_ (by simp) | refine Ext.setCell ?_ (by simp; omega) | refine Ext.trans ?_ (by assumption)))) HW.out (e2.ext (by repeat first | exact Ext.refl _ | assumption | refine Ext.drew ?_ | refine Ext.alloc ?_ _ | refine Ext.setCell ?_ (by simp) | refine Ext.setCell ?_ (by simp; omega) | refine Ext.trans ?_ (by assumption))) HR3.out hrow).mono ?_; rw [HQ.out]; rintro e w5 ⟨rfl, hb5⟩) | (go_at_call 119; refine (size_c q _ hq1 hq2).mono ?_; rintro e w6 ⟨rfl, rfl⟩))
    refine rx_on (by repeat first | exact Ext.refl _ | assumption | refine Ext.drew ?_ | refine Ext.alloc ?_ _ | refine Ext.setCell ?_ (by simp) | refine Ext.setCell ?_ (by simp; omega) | refine Ext.trans ?_ (by assumption)) ?_
    refine rx_op 6 (k := 1) (m' := 127) rfl rfl (by kernel_rfl) (by kernel_rfl) ?_
    go_wp2_with (first | (go_at_call 120; refine (areaOf_c A B c d ns ls A' c' row _ (h.ext (hx.trans (by repeat first | exact Ext.refl _ | assumption | refine Ext.drew ?_ | refine Ext.alloc ?_ _ | refine Ext.setCell ?_ (by simp) | refine Ext.setCell ?_ (by simp; omega) | refine Ext.trans ?_ (by assumption)))) HW.out (e2.ext (by repeat first | exact Ext.refl _ | assumption | refine Ext.drew ?_ | refine Ext.alloc ?_ _ | refine Ext.setCell ?_ (by simp) | refine Ext.setCell ?_ (by simp; omega) | refine Ext.trans ?_ (by assumption))) HR3.out hrow).mono ?_; rw [HQ.out]; rintro e w5 ⟨rfl, hb5⟩) | (go_at_call 119; refine (size_c q _ hq1 hq2).mono ?_; rintro e w6 ⟨rfl, rfl⟩))
    refine rx_on (by repeat first | exact Ext.refl _ | assumption | refine Ext.drew ?_ | refine Ext.alloc ?_ _ | refine Ext.setCell ?_ (by simp) | refine Ext.setCell ?_ (by simp; omega) | refine Ext.trans ?_ (by assumption)) ?_
    refine rx_run (run := [7]) (k := 0) (m' := 255) rfl (by kernel_rfl) (by kernel_rfl) (by kernel_rfl) (fm_cons rfl <| List.filterMap_nil) (by repeat first | exact Ext.refl _ | assumption | refine Ext.drew ?_ | refine Ext.alloc ?_ _ | refine Ext.setCell ?_ (by simp) | refine Ext.setCell ?_ (by simp; omega) | refine Ext.trans ?_ (by assumption)) ?_
    repeat (go_big_quiet_step ((fail)))
    refine wpQuiet_nil ?_
    refine rx_end (by kernel_rfl) ?_
    go_wp2
    go_ret
    exact ⟨ret_i (by rw [HV.out]), hx.trans (by repeat first | exact Ext.refl _ | assumption | refine Ext.drew ?_ | refine Ext.alloc ?_ _ | refine Ext.setCell ?_ (by simp) | refine Ext.setCell ?_ (by simp; omega) | refine Ext.trans ?_ (by assumption))⟩
  · have hf' := eq_false_of_ne_true hf
    rw [if_neg hf] at HV
    go_enter Try.func84, Try.ntmps84
    go_wp2_with fail
    have k0 : (w.alloc (.cells #[.slice A ns.length c, .slice B ls.length d] 27)).cell? ⟨w.heap.size, 0, none⟩ = some (.slice A ns.length c) := by go_simp
    have k1 : (w.alloc (.cells #[.slice A ns.length c, .slice B ls.length d] 27)).cell? ⟨w.heap.size, 1, none⟩ = some (.slice B ls.length d) := by go_simp
    have hx : Ext w (w.alloc (.cells #[.slice A ns.length c, .slice B ls.length d] 27)) := (by repeat first | exact Ext.refl _ | assumption | refine Ext.drew ?_ | refine Ext.alloc ?_ _ | refine Ext.setCell ?_ (by simp) | refine Ext.setCell ?_ (by simp; omega) | refine Ext.trans ?_ (by assumption))
    have hsz1 : w.heap.size + 1 = (w.alloc (.cells #[.slice A ns.length c, .slice B ls.length d] 27)).heap.size := by simp
    generalize (w.alloc (.cells #[.slice A ns.length c, .slice B ls.length d] 27)) = w0 at *
    (try rw [hsz1])
    refine (FacesOf_i _ _ _ _ ns ls _ (h.ext hx)).mono ?_
    rintro e w1 ⟨v, rfl, hF, -, hb⟩
    have k0 := hb.lit k0
    have k1 := hb.lit k1
    have hx := hx.trans hb
    clear hb
    obtain ⟨A1, c1, rfl, -⟩ := hF.shape
    go_wp2_with fail
    refine (within_c _ _ _ _).mono ?_
    rw [HH.out]
    rintro e w2 ⟨rfl, rfl⟩
    rw [hf']
    go_wp2
    go_ret
    exact ⟨ret_i (by rw [HV.out]), hx⟩
set_option maxRecDepth 100000 in
set_option maxHeartbeats 2000000 in
theorem AreaOf_s (A B : Option Addr) (c d : Nat) (ns ls : List P2) (f : Int) (w : World) (h : Wn w A c B d ns ls) :
    Calls Try.prog 44 #[.agg #[.slice A ns.length c, .slice B ls.length d], .int .i64 f] w fun e w' => e = .returned (.int .i64 (vAreaOf ns ls f)) ∧ Ext w w' := by
  have HV : Hid (vAreaOf ns ls f = if hasF ns ls f = true then imax (area ns ls ((vFaces ns ls).getD f.toNat [])) (-(area ns ls ((vFaces ns ls).getD f.toNat []))) else -1) := Lib.hid rfl
  have HH : Hid (wi f 0 ((vFaces ns ls).length - 1) = hasF ns ls f) := Lib.hid rfl
  have hFl := vFaces_len ns ls
  by_cases hf : hasF ns ls f = true
  · skip
    go_enter Try.func44, Try.ntmps44
    go_wp2_with fail
    have k0 : (w.alloc (.cells #[.slice A ns.length c, .slice B ls.length d] 27)).cell? ⟨w.heap.size, 0, none⟩ = some (.slice A ns.length c) := by go_simp
    have k1 : (w.alloc (.cells #[.slice A ns.length c, .slice B ls.length d] 27)).cell? ⟨w.heap.size, 1, none⟩ = some (.slice B ls.length d) := by go_simp
    have hx : Ext w (w.alloc (.cells #[.slice A ns.length c, .slice B ls.length d] 27)) := (by repeat first | exact Ext.refl _ | assumption | refine Ext.drew ?_ | refine Ext.alloc ?_ _ | refine Ext.setCell ?_ (by simp) | refine Ext.setCell ?_ (by simp; omega) | refine Ext.trans ?_ (by assumption))
    have hsz1 : w.heap.size + 1 = (w.alloc (.cells #[.slice A ns.length c, .slice B ls.length d] 27)).heap.size := by simp
    generalize (w.alloc (.cells #[.slice A ns.length c, .slice B ls.length d] 27)) = w0 at *
    (try rw [hsz1])
    refine (FacesOf_s _ _ _ _ ns ls _ (h.ext hx)).mono ?_
    rintro e w1 ⟨v, rfl, hF, hb⟩
    have k0 := hb.lit k0
    have k1 := hb.lit k1
    have hx := hx.trans hb
    clear hb
    obtain ⟨A1, c1, rfl, -⟩ := hF.shape
    go_wp2_with fail
    refine (l01In_c _ _ _ _).mono ?_
    rw [HH.out]
    rintro e w2 ⟨rfl, rfl⟩
    rw [hf]
    obtain ⟨q1, q2⟩ := hasF_iff.1 hf
    obtain ⟨f, rfl⟩ := Int.eq_ofNat_of_zero_le q1
    have hfL : f < (vFaces ns ls).length := by omega
    obtain ⟨hW, r1, r2, r3⟩ := row_facts hfL
    have hm := hW.le
    have HW := Lib.hid hW
    have HR3 := Lib.hid r3
    have hab := areaR_bd hW r3 _ (Nat.le_refl _)
    have HA : Hid (area ns ls ((vFaces ns ls).getD f []) = areaR ns ls ((vFaces ns ls).getD f []) ((vFaces ns ls).getD f []).length) := Lib.hid rfl
    rw [← HA.out] at hab
    clear hW r3
    rw [if_pos hf] at HV
    have ht : (f : Int).toNat = f := by omega
    rw [ht] at HV
    obtain ⟨g, c0, A', c', e, e1, e2⟩ := hF.at_ hfL
    have e2 := e2.in'
    obtain ⟨rfl, rfl⟩ : A1 = some ⟨g, 0, none⟩ ∧ c1 = c0 := by simpa using e
    clear e hF ht HA
    generalize vFaces ns ls = L at *
    generalize L.getD f [] = row at *
    have hrow : row.length ≤ 40 := by omega
    have hfi : (f : Int) < L.length := by omega
    generalize hQ : area ns ls row = q at *
    have HQ := Lib.hid hQ
    clear hQ
    have hq1 : -100000 ≤ q := by omega
    have hq2 : q ≤ 100000 := by omega
    clear hab
    go_wp2_with fail
    have d0 := cell_regrown k0
    have d1 := cell_regrown k1
    have d2 := cell_regrown e1
    refine rx_open [(true, 0, some 15, 4), (true, 0, some 16, 32), (true, 0, some 17, 2), (true, 6, some 18, 196608), (true, 8, some 19, 262144), (false, 17, some 20, 557056), (true, 63, some 6, 1048576)] 0 7 mixd rfl (by kernel_rfl) (by kernel_rfl) (by kernel_rfl) ?_
    refine rx_run (run := [0, 1, 2, 3, 4]) (k := 2) (m' := 31) rfl (by kernel_rfl) (by kernel_rfl) (by kernel_rfl) (fm_cons rfl <| fm_cons rfl <| fm_cons rfl <| fm_cons rfl <| fm_cons rfl <| List.filterMap_nil) (by repeat first | exact Ext.refl _ | assumption | refine Ext.drew ?_ | refine Ext.alloc ?_ _ | refine Ext.setCell ?_ (by simp) | refine Ext.setCell ?_ (by simp; omega) | refine Ext.trans ?_ (by assumption)) ?_
    repeat (go_big_quiet_step ((fail)))
    refine wpQuiet_nil ?_
    refine rx_op 5 (k := 1) (m' := 63) rfl rfl (by kernel_rfl) (by kernel_rfl) ?_
    go_wp2_with ((go_at_call 88; refine (l06Area_c A B c d ns ls A' c' row _ (h.ext (hx.trans (by repeat first | exact Ext.refl _ | assumption | refine Ext.drew ?_ | refine Ext.alloc ?_ _ | refine Ext.setCell ?_ (by simp) | refine Ext.setCell ?_ (by simp; omega) | refine Ext.trans ?_ (by assumption)))) HW.out (e2.ext (by repeat first | exact Ext.refl _ | assumption | refine Ext.drew ?_ | refine Ext.alloc ?_ _ | refine Ext.setCell ?_ (by simp) | refine Ext.setCell ?_ (by simp; omega) | refine Ext.trans ?_ (by assumption))) HR3.out hrow).mono ?_; rw [HQ.out]; rintro e w5 ⟨rfl, hb5⟩))
    refine rx_on (by repeat first | exact Ext.refl _ | assumption | refine Ext.drew ?_ | refine Ext.alloc ?_ _ | refine Ext.setCell ?_ (by simp) | refine Ext.setCell ?_ (by simp; omega) | refine Ext.trans ?_ (by assumption)) ?_
    refine rx_run (run := [6]) (k := 0) (m' := 127) rfl (by kernel_rfl) (by kernel_rfl) (by kernel_rfl) (fm_cons rfl <| List.filterMap_nil) (by repeat first | exact Ext.refl _ | assumption | refine Ext.drew ?_ | refine Ext.alloc ?_ _ | refine Ext.setCell ?_ (by simp) | refine Ext.setCell ?_ (by simp; omega) | refine Ext.trans ?_ (by assumption)) ?_
    repeat (go_big_quiet_step ((fail)))
    refine wpQuiet_nil ?_
    refine rx_end (by kernel_rfl) ?_
    go_wp2
    go_ret
    exact ⟨ret_i (by rw [HV.out]), hx.trans (by repeat first | exact Ext.refl _ | assumption | refine Ext.drew ?_ | refine Ext.alloc ?_ _ | refine Ext.setCell ?_ (by simp) | refine Ext.setCell ?_ (by simp; omega) | refine Ext.trans ?_ (by assumption))⟩
  · have hf' := eq_false_of_ne_true hf
    rw [if_neg hf] at HV
    go_enter Try.func44, Try.ntmps44
    go_wp2_with fail
    have k0 : (w.alloc (.cells #[.slice A ns.length c, .slice B ls.length d] 27)).cell? ⟨w.heap.size, 0, none⟩ = some (.slice A ns.length c) := by go_simp
    have k1 : (w.alloc (.cells #[.slice A ns.length c, .slice B ls.length d] 27)).cell? ⟨w.heap.size, 1, none⟩ = some (.slice B ls.length d) := by go_simp
    have hx : Ext w (w.alloc (.cells #[.slice A ns.length c, .slice B ls.length d] 27)) := (by repeat first | exact Ext.refl _ | assumption | refine Ext.drew ?_ | refine Ext.alloc ?_ _ | refine Ext.setCell ?_ (by simp) | refine Ext.setCell ?_ (by simp; omega) | refine Ext.trans ?_ (by assumption))
    have hsz1 : w.heap.size + 1 = (w.alloc (.cells #[.slice A ns.length c, .slice B ls.length d] 27)).heap.size := by simp
    generalize (w.alloc (.cells #[.slice A ns.length c, .slice B ls.length d] 27)) = w0 at *
    (try rw [hsz1])
    refine (FacesOf_s _ _ _ _ ns ls _ (h.ext hx)).mono ?_
    rintro e w1 ⟨v, rfl, hF, hb⟩
    have k0 := hb.lit k0
    have k1 := hb.lit k1
    have hx := hx.trans hb
    clear hb
    obtain ⟨A1, c1, rfl, -⟩ := hF.shape
    go_wp2_with fail
    refine (l01In_c _ _ _ _).mono ?_
    rw [HH.out]
    rintro e w2 ⟨rfl, rfl⟩
    rw [hf']
    go_wp2
    go_ret
    exact ⟨ret_i (by rw [HV.out]), hx⟩

/-! ### the widest pane -/
def wdN (ns ls : List P2) : Nat → Int
  | 0 => -1
  | j + 1 => if wdN ns ls j < 0 ∨ vAreaOf ns ls (wdN ns ls j) < vAreaOf ns ls (gi (vPanesOf ns ls) (j : Nat)) then gi (vPanesOf ns ls) (j : Nat) else wdN ns ls j
def vWidestPane (ns ls : List P2) : Int := wdN ns ls (vPanesOf ns ls).length
set_option maxRecDepth 100000 in
set_option maxHeartbeats 4000000 in
theorem WidestPane_i (A B : Option Addr) (c d : Nat) (ns ls : List P2) (w : World) (h : Wn w A c B d ns ls) :
    Calls Try.prog 40 #[.agg #[.slice A ns.length c, .slice B ls.length d]] w fun e w' => e = .returned (.int .i64 (vWidestPane ns ls)) ∧ Ext w w' := by
  have HV : Hid (vWidestPane ns ls = wdN ns ls (vPanesOf ns ls).length) := Lib.hid rfl
  have HS : Hid (∀ j : Nat, wdN ns ls (j + 1) = if wdN ns ls j < 0 ∨ vAreaOf ns ls (wdN ns ls j) < vAreaOf ns ls (gi (vPanesOf ns ls) (j : Nat)) then gi (vPanesOf ns ls) (j : Nat) else wdN ns ls j) := Lib.hid (fun _ => rfl)
  have H0 : Hid (wdN ns ls 0 = -1) := Lib.hid rfl
  have hpl := vPanesOf_len ns ls
  go_enter Try.func40, Try.ntmps40
  go_wp2_with fail
  have k0 : (w.alloc (.cells #[.slice A ns.length c, .slice B ls.length d] 27)).cell? ⟨w.heap.size, 0, none⟩ = some (.slice A ns.length c) := by go_simp
  have k1 : (w.alloc (.cells #[.slice A ns.length c, .slice B ls.length d] 27)).cell? ⟨w.heap.size, 1, none⟩ = some (.slice B ls.length d) := by go_simp
  have hx : Ext w (w.alloc (.cells #[.slice A ns.length c, .slice B ls.length d] 27)) := (by repeat first | exact Ext.refl _ | assumption | refine Ext.drew ?_ | refine Ext.alloc ?_ _ | refine Ext.setCell ?_ (by simp) | refine Ext.setCell ?_ (by simp; omega) | refine Ext.trans ?_ (by assumption))
  have hsz1 : w.heap.size + 1 = (w.alloc (.cells #[.slice A ns.length c, .slice B ls.length d] 27)).heap.size := by simp
  generalize (w.alloc (.cells #[.slice A ns.length c, .slice B ls.length d] 27)) = w0 at *
  (try rw [hsz1])
  refine (PanesOf_i _ _ _ _ ns ls _ (h.ext hx)).mono ?_
  rintro e w1 ⟨v, rfl, hv, hb⟩
  have k0 := hb.lit k0
  have k1 := hb.lit k1
  have hx := hx.trans hb
  clear hb
  obtain ⟨A1, c1, rfl, -, -, -⟩ := hv.shape
  generalize vPanesOf ns ls = l at *
  go_wp2_with fail
  go_loopw [3, 5, 9] (fun q _ i wr => ∃ j : Nat, j ≤ l.length ∧ i = .int .i64 j ∧ q = .int .i64 (wdN ns ls j) ∧ Ext w1 wr) (fun _ _ i _ => l.length - (intOf i).toNat)
  case atStart => exact ⟨0, by omega, rfl, by rw [H0.out], Ext.refl _⟩
  case round =>
    obtain ⟨j, hj, rfl, rfl, hxr⟩ := hrel
    obtain ⟨wo, rfl⟩ : ∃ x : World, x = wr := ⟨_, rfl⟩
    have hx0 := hx.trans hxr
    have k0 := hxr.lit k0
    have k1 := hxr.lit k1
    by_cases hlt : j < l.length
    · skip
      have c2 := ((hv.ext hxr).gi_ (j := j) hlt)
      obtain ⟨g, c0, e, -, -, -, c2, -⟩ := c2
      obtain ⟨rfl, rfl⟩ : A1 = some ⟨g, 0, none⟩ ∧ c1 = c0 := by simpa using e
      clear e
      have HSj := Lib.hid (HS.out j)
      have hji : (j : Int) < l.length := by omega
      generalize gi l (j : Nat) = x at *
      generalize wdN ns ls j = b at *
      by_cases hb0 : b < 0
      · have hd : decide (b < 0) = true := decide_eq_true hb0
        have Hs : Hid (wdN ns ls (j + 1) = x) := Lib.hid (by rw [HSj.out, if_pos (.inl hb0)])
        clear HSj
        go_wp2_with fail
        have d0 := cell_regrown k0
        have d1 := cell_regrown k1
        refine rx_open [(true, 0, some 13, 8), (true, 1, some 14, 8192), (true, 2, some 15, 16384), (true, 4, some 16, 32770), (true, 4, some 17, 32800), (false, 28, some 18, 229376), (true, 4, some 19, 32770), (true, 4, some 20, 32776), (false, 228, some 21, 1605632), (true, 292, some 22, 2392064), (true, 516, some 23, 4227072)] 0 11 mixd rfl (by kernel_rfl) (by kernel_rfl) (by kernel_rfl) ?_
        refine rx_run (run := [0, 1, 2, 3, 4, 6, 7]) (k := 4) (m' := 223) rfl (by kernel_rfl) (by kernel_rfl) (by kernel_rfl) (fm_cons rfl <| fm_cons rfl <| fm_cons rfl <| fm_cons rfl <| fm_cons rfl <| fm_cons rfl <| fm_cons rfl <| List.filterMap_nil) (by repeat first | exact Ext.refl _ | assumption | refine Ext.drew ?_ | refine Ext.alloc ?_ _ | refine Ext.setCell ?_ (by simp) | refine Ext.setCell ?_ (by simp; omega) | refine Ext.trans ?_ (by assumption)) ?_
        repeat (go_big_quiet_step ((fail)))
        refine wpQuiet_nil ?_
        refine rx_op 5 (k := 3) (m' := 255) rfl rfl (by kernel_rfl) (by kernel_rfl) ?_
        go_wp2_with (fail)
        refine rx_on (by repeat first | exact Ext.refl _ | assumption | refine Ext.drew ?_ | refine Ext.alloc ?_ _ | refine Ext.setCell ?_ (by simp) | refine Ext.setCell ?_ (by simp; omega) | refine Ext.trans ?_ (by assumption)) ?_
        refine rx_op 8 (k := 2) (m' := 511) rfl rfl (by kernel_rfl) (by kernel_rfl) ?_
        go_wp2_with (fail)
        refine rx_on (by repeat first | exact Ext.refl _ | assumption | refine Ext.drew ?_ | refine Ext.alloc ?_ _ | refine Ext.setCell ?_ (by simp) | refine Ext.setCell ?_ (by simp; omega) | refine Ext.trans ?_ (by assumption)) ?_
        refine rx_run (run := [9, 10]) (k := 0) (m' := 2047) rfl (by kernel_rfl) (by kernel_rfl) (by kernel_rfl) (fm_cons rfl <| fm_cons rfl <| List.filterMap_nil) (by repeat first | exact Ext.refl _ | assumption | refine Ext.drew ?_ | refine Ext.alloc ?_ _ | refine Ext.setCell ?_ (by simp) | refine Ext.setCell ?_ (by simp; omega) | refine Ext.trans ?_ (by assumption)) ?_
        repeat (go_big_quiet_step ((fail)))
        refine wpQuiet_nil ?_
        refine rx_end (by kernel_rfl) ?_
        go_wp2
        go_roundw
        case rel => exact ⟨j + 1, by omega, by go_num, by rw [Hs.out], hxr.trans (by repeat first | exact Ext.refl _ | assumption | refine Ext.drew ?_ | refine Ext.alloc ?_ _ | refine Ext.setCell ?_ (by simp) | refine Ext.setCell ?_ (by simp; omega) | refine Ext.trans ?_ (by assumption))⟩
        case measure => first | (simp [intOf]; done) | (simp [intOf]; omega)
      · have hd : decide (b < 0) = false := decide_eq_false hb0
        by_cases hgt : vAreaOf ns ls b < vAreaOf ns ls x
        · have hd2 : decide (vAreaOf ns ls b < vAreaOf ns ls x) = true := decide_eq_true hgt
          have Hs : Hid (wdN ns ls (j + 1) = x) := Lib.hid (by rw [HSj.out, if_pos (.inr hgt)])
          clear HSj
          go_wp2_with fail
          have d0 := cell_regrown k0
          have d1 := cell_regrown k1
          refine rx_open [(true, 0, some 13, 8), (true, 1, some 14, 8192), (true, 2, some 15, 16384), (true, 4, some 16, 32770), (true, 4, some 17, 32800), (false, 28, some 18, 229376), (true, 4, some 19, 32770), (true, 4, some 20, 32776), (false, 228, some 21, 1605632), (true, 292, some 22, 2392064), (true, 516, some 23, 4227072)] 0 11 mixd rfl (by kernel_rfl) (by kernel_rfl) (by kernel_rfl) ?_
          refine rx_run (run := [0, 1, 2, 3, 4, 6, 7]) (k := 4) (m' := 223) rfl (by kernel_rfl) (by kernel_rfl) (by kernel_rfl) (fm_cons rfl <| fm_cons rfl <| fm_cons rfl <| fm_cons rfl <| fm_cons rfl <| fm_cons rfl <| fm_cons rfl <| List.filterMap_nil) (by repeat first | exact Ext.refl _ | assumption | refine Ext.drew ?_ | refine Ext.alloc ?_ _ | refine Ext.setCell ?_ (by simp) | refine Ext.setCell ?_ (by simp; omega) | refine Ext.trans ?_ (by assumption)) ?_
          repeat (go_big_quiet_step ((fail)))
          refine wpQuiet_nil ?_
          refine rx_op 5 (k := 3) (m' := 255) rfl rfl (by kernel_rfl) (by kernel_rfl) ?_
          go_wp2_with ((go_at_call 84; refine (AreaOf_i _ _ _ _ ns ls _ _ (h.ext (hx0.trans (by repeat first | exact Ext.refl _ | assumption | refine Ext.drew ?_ | refine Ext.alloc ?_ _ | refine Ext.setCell ?_ (by simp) | refine Ext.setCell ?_ (by simp; omega) | refine Ext.trans ?_ (by assumption))))).mono ?_; rintro e w5 ⟨rfl, hb5⟩))
          refine rx_on (by repeat first | exact Ext.refl _ | assumption | refine Ext.drew ?_ | refine Ext.alloc ?_ _ | refine Ext.setCell ?_ (by simp) | refine Ext.setCell ?_ (by simp; omega) | refine Ext.trans ?_ (by assumption)) ?_
          refine rx_op 8 (k := 2) (m' := 511) rfl rfl (by kernel_rfl) (by kernel_rfl) ?_
          go_wp2_with ((go_at_call 84; refine (AreaOf_i _ _ _ _ ns ls _ _ (h.ext (hx0.trans (by repeat first | exact Ext.refl _ | assumption | refine Ext.drew ?_ | refine Ext.alloc ?_ _ | refine Ext.setCell ?_ (by simp) | refine Ext.setCell ?_ (by simp; omega) | refine Ext.trans ?_ (by assumption))))).mono ?_; rintro e w5 ⟨rfl, hb5⟩))
          refine rx_on (by repeat first | exact Ext.refl _ | assumption | refine Ext.drew ?_ | refine Ext.alloc ?_ _ | refine Ext.setCell ?_ (by simp) | refine Ext.setCell ?_ (by simp; omega) | refine Ext.trans ?_ (by assumption)) ?_
          refine rx_run (run := [9, 10]) (k := 0) (m' := 2047) rfl (by kernel_rfl) (by kernel_rfl) (by kernel_rfl) (fm_cons rfl <| fm_cons rfl <| List.filterMap_nil) (by repeat first | exact Ext.refl _ | assumption | refine Ext.drew ?_ | refine Ext.alloc ?_ _ | refine Ext.setCell ?_ (by simp) | refine Ext.setCell ?_ (by simp; omega) | refine Ext.trans ?_ (by assumption)) ?_
          repeat (go_big_quiet_step ((fail)))
          refine wpQuiet_nil ?_
          refine rx_end (by kernel_rfl) ?_
          go_wp2
          go_roundw
          case rel => exact ⟨j + 1, by omega, by go_num, by rw [Hs.out], hxr.trans (by repeat first | exact Ext.refl _ | assumption | refine Ext.drew ?_ | refine Ext.alloc ?_ _ | refine Ext.setCell ?_ (by simp) | refine Ext.setCell ?_ (by simp; omega) | refine Ext.trans ?_ (by assumption))⟩
          case measure => first | (simp [intOf]; done) | (simp [intOf]; omega)
        · have hd2 : decide (vAreaOf ns ls b < vAreaOf ns ls x) = false := decide_eq_false hgt
          have Hs : Hid (wdN ns ls (j + 1) = b) := Lib.hid (by rw [HSj.out, if_neg (by omega)])
          clear HSj
          go_wp2_with fail
          have d0 := cell_regrown k0
          have d1 := cell_regrown k1
          refine rx_open [(true, 0, some 13, 8), (true, 1, some 14, 8192), (true, 2, some 15, 16384), (true, 4, some 16, 32770), (true, 4, some 17, 32800), (false, 28, some 18, 229376), (true, 4, some 19, 32770), (true, 4, some 20, 32776), (false, 228, some 21, 1605632), (true, 292, some 22, 2392064), (true, 516, some 23, 4227072)] 0 11 mixd rfl (by kernel_rfl) (by kernel_rfl) (by kernel_rfl) ?_
          refine rx_run (run := [0, 1, 2, 3, 4, 6, 7]) (k := 4) (m' := 223) rfl (by kernel_rfl) (by kernel_rfl) (by kernel_rfl) (fm_cons rfl <| fm_cons rfl <| fm_cons rfl <| fm_cons rfl <| fm_cons rfl <| fm_cons rfl <| fm_cons rfl <| List.filterMap_nil) (by repeat first | exact Ext.refl _ | assumption | refine Ext.drew ?_ | refine Ext.alloc ?_ _ | refine Ext.setCell ?_ (by simp) | refine Ext.setCell ?_ (by simp; omega) | refine Ext.trans ?_ (by assumption)) ?_
          repeat (go_big_quiet_step ((fail)))
          refine wpQuiet_nil ?_
          refine rx_op 5 (k := 3) (m' := 255) rfl rfl (by kernel_rfl) (by kernel_rfl) ?_
          go_wp2_with ((go_at_call 84; refine (AreaOf_i _ _ _ _ ns ls _ _ (h.ext (hx0.trans (by repeat first | exact Ext.refl _ | assumption | refine Ext.drew ?_ | refine Ext.alloc ?_ _ | refine Ext.setCell ?_ (by simp) | refine Ext.setCell ?_ (by simp; omega) | refine Ext.trans ?_ (by assumption))))).mono ?_; rintro e w5 ⟨rfl, hb5⟩))
          refine rx_on (by repeat first | exact Ext.refl _ | assumption | refine Ext.drew ?_ | refine Ext.alloc ?_ _ | refine Ext.setCell ?_ (by simp) | refine Ext.setCell ?_ (by simp; omega) | refine Ext.trans ?_ (by assumption)) ?_
          refine rx_op 8 (k := 2) (m' := 511) rfl rfl (by kernel_rfl) (by kernel_rfl) ?_
          go_wp2_with ((go_at_call 84; refine (AreaOf_i _ _ _ _ ns ls _ _ (h.ext (hx0.trans (by repeat first | exact Ext.refl _ | assumption | refine Ext.drew ?_ | refine Ext.alloc ?_ _ | refine Ext.setCell ?_ (by simp) | refine Ext.setCell ?_ (by simp; omega) | refine Ext.trans ?_ (by assumption))))).mono ?_; rintro e w5 ⟨rfl, hb5⟩))
          refine rx_on (by repeat first | exact Ext.refl _ | assumption | refine Ext.drew ?_ | refine Ext.alloc ?_ _ | refine Ext.setCell ?_ (by simp) | refine Ext.setCell ?_ (by simp; omega) | refine Ext.trans ?_ (by assumption)) ?_
          refine rx_run (run := [9, 10]) (k := 0) (m' := 2047) rfl (by kernel_rfl) (by kernel_rfl) (by kernel_rfl) (fm_cons rfl <| fm_cons rfl <| List.filterMap_nil) (by repeat first | exact Ext.refl _ | assumption | refine Ext.drew ?_ | refine Ext.alloc ?_ _ | refine Ext.setCell ?_ (by simp) | refine Ext.setCell ?_ (by simp; omega) | refine Ext.trans ?_ (by assumption)) ?_
          repeat (go_big_quiet_step ((fail)))
          refine wpQuiet_nil ?_
          refine rx_end (by kernel_rfl) ?_
          go_wp2
          go_roundw
          case rel => exact ⟨j + 1, by omega, by go_num, by rw [Hs.out], hxr.trans (by repeat first | exact Ext.refl _ | assumption | refine Ext.drew ?_ | refine Ext.alloc ?_ _ | refine Ext.setCell ?_ (by simp) | refine Ext.setCell ?_ (by simp; omega) | refine Ext.trans ?_ (by assumption))⟩
          case measure => first | (simp [intOf]; done) | (simp [intOf]; omega)
    · obtain rfl : j = l.length := by omega
      go_wp2
      go_ret
      exact ⟨ret_i (by rw [HV.out]), hx0⟩
end Go.Proofs.Ytdhmjhoaegdfjaa
