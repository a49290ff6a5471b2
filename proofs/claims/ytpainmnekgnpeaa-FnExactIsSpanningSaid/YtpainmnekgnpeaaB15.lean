import Derived.Test.YtpainmnekgnpeaaB10
import Derived.Test.YtpainmnekgnpeaaR1
namespace Go.Proofs.Ytpainmnekgnpeaa
open Go.RowKit Go.Sort Go.BigFrame

def whole (ns ls : List P2) : Bool := wok ns ls && decide (0 < ls.length) && decide ((partL ns.length ls 0).length = ns.length)
theorem whole_ok {ns ls : List P2} (h : whole ns ls = true) : WOk ns ls ∧ 0 < ls.length := by
  simp only [whole, Bool.and_eq_true, decide_eq_true_eq] at h
  exact ⟨wok_iff.1 h.1.1, h.1.2⟩
theorem filter_all_iff {p : Nat → Bool} {n : Nat} : ((List.range n).filter p).length = n ↔ ∀ i, i < n → p i = true := by
  have h := List.length_filter_eq_length_iff (p := p) (l := List.range n)
  rw [List.length_range] at h
  rw [h]
  simp
theorem partL_all {n : Nat} {ls : List P2} (hv : Vd n ls) (hn : 0 < n) : (partL n ls 0).length = n ↔ ∀ i : Nat, i < n → gi (labs n ls) i = 0 := by
  obtain ⟨j, hj, hj0, -⟩ := (linv hv).lab 0 hn
  obtain rfl : j = 0 := by omega
  unfold partL
  rw [List.length_map, filter_all_iff]
  constructor
  · intro h i hi
    have := h i hi
    rw [decide_eq_true_eq, hj] at this
    simpa using this
  · intro h i hi
    rw [decide_eq_true_eq, hj, h i hi]; rfl

set_option maxRecDepth 100000 in
set_option maxHeartbeats 2000000 in
theorem IsWhole_i (A B : Option Addr) (c d : Nat) (ns ls : List P2) (w : World) (h : Wn w A c B d ns ls) :
    Calls Try.prog 82 #[.agg #[.slice A ns.length c, .slice B ls.length d]] w fun e w' => e = .returned (.bool (whole ns ls)) ∧ Ext w w' := by
  have HV : Hid (whole ns ls = (wok ns ls && decide (0 < ls.length) && decide ((partL ns.length ls 0).length = ns.length))) := Lib.hid rfl
  by_cases hw : wok ns ls = true
  · have HW := Lib.hid (wok_iff.1 hw)
    have hn0 := HW.out.lo
    by_cases hm : 0 < ls.length
    · have hm' : (0 : Int) < ls.length := by omega
      have hd : decide ((0 : Int) < (ls.length : Int)) = true := by simp; omega
      go_enter Try.func82, Try.ntmps82
      go_wp2_with fail
      have k0 : (w.alloc (.cells #[.slice A ns.length c, .slice B ls.length d] 36)).cell? ⟨w.heap.size, 0, none⟩ = some (.slice A ns.length c) := by go_simp
      have k1 : (w.alloc (.cells #[.slice A ns.length c, .slice B ls.length d] 36)).cell? ⟨w.heap.size, 1, none⟩ = some (.slice B ls.length d) := by go_simp
      have hx : Ext w (w.alloc (.cells #[.slice A ns.length c, .slice B ls.length d] 36)) := (by repeat first | exact Ext.refl _ | assumption | refine Ext.drew ?_ | refine Ext.alloc ?_ _ | refine Ext.setCell ?_ (by simp) | refine Ext.setCell ?_ (by simp; omega) | refine Ext.trans ?_ (by assumption))
      have hsz1 : w.heap.size + 1 = (w.alloc (.cells #[.slice A ns.length c, .slice B ls.length d] 36)).heap.size := by simp
      generalize (w.alloc (.cells #[.slice A ns.length c, .slice B ls.length d] 36)) = w1 at *
      (try rw [hsz1])
      have d0 := cell_regrown k0
      have d1 := cell_regrown k1
      refine rx_open [(true, 0, some 3, 2), (false, 1, some 4, 8), (true, 2, some 5, 16), (true, 4, some 6, 34), (true, 12, some 7, 96), (true, 20, some 8, 160), (true, 36, some 9, 288), (true, 68, some 10, 544), (true, 132, some 11, 1024), (true, 256, some 12, 2050), (false, 768, some 13, 6144), (true, 1280, some 14, 10240), (true, 256, some 15, 2050), (true, 4352, some 16, 34816), (true, 8448, some 17, 67584), (true, 18688, some 18, 149504), (true, 33024, some 19, 264192), (true, 131071, some 2, 524288)] 0 18 mixd rfl (by kernel_rfl) (by kernel_rfl) (by kernel_rfl) ?_
      refine rx_run (run := [0]) (k := 17) (m' := 1) rfl (by kernel_rfl) (by kernel_rfl) (by kernel_rfl) (fm_cons rfl <| List.filterMap_nil) (by repeat first | exact Ext.refl _ | assumption | refine Ext.drew ?_ | refine Ext.alloc ?_ _ | refine Ext.setCell ?_ (by simp) | refine Ext.setCell ?_ (by simp; omega) | refine Ext.trans ?_ (by assumption)) ?_
      repeat (go_big_quiet_step ((fail)))
      refine wpQuiet_nil ?_
      refine rx_op 1 (k := 16) (m' := 3) rfl rfl (by kernel_rfl) (by kernel_rfl) ?_
      go_wp2_with (first | (go_at_call 58; refine (WindowOk_i' (h.ext (hx.trans (by repeat first | exact Ext.refl _ | assumption | refine Ext.drew ?_ | refine Ext.alloc ?_ _ | refine Ext.setCell ?_ (by simp) | refine Ext.setCell ?_ (by simp; omega) | refine Ext.trans ?_ (by assumption))))).mono ?_; rw [hw]; rintro e w5 ⟨rfl, hb5⟩) | (go_at_call 76; refine (partOf_c' (k := 0) (h.ext (hx.trans (by repeat first | exact Ext.refl _ | assumption | refine Ext.drew ?_ | refine Ext.alloc ?_ _ | refine Ext.setCell ?_ (by simp) | refine Ext.setCell ?_ (by simp; omega) | refine Ext.trans ?_ (by assumption)))) HW.out (by omega)).mono ?_; rintro e w6 ⟨v, rfl, hv, hb6⟩; obtain ⟨A1, c1, rfl, -, -, -⟩ := hv.shape))
      refine rx_on (by repeat first | exact Ext.refl _ | assumption | refine Ext.drew ?_ | refine Ext.alloc ?_ _ | refine Ext.setCell ?_ (by simp) | refine Ext.setCell ?_ (by simp; omega) | refine Ext.trans ?_ (by assumption)) ?_
      refine rx_run (run := [2, 3, 4, 5, 6, 7, 8, 9, 12, 13, 14]) (k := 5) (m' := 29695) rfl (by kernel_rfl) (by kernel_rfl) (by kernel_rfl) (fm_cons rfl <| fm_cons rfl <| fm_cons rfl <| fm_cons rfl <| fm_cons rfl <| fm_cons rfl <| fm_cons rfl <| fm_cons rfl <| fm_cons rfl <| fm_cons rfl <| fm_cons rfl <| List.filterMap_nil) (by repeat first | exact Ext.refl _ | assumption | refine Ext.drew ?_ | refine Ext.alloc ?_ _ | refine Ext.setCell ?_ (by simp) | refine Ext.setCell ?_ (by simp; omega) | refine Ext.trans ?_ (by assumption)) ?_
      repeat (go_big_quiet_step ((fail)))
      refine wpQuiet_nil ?_
      refine rx_op 10 (k := 4) (m' := 30719) rfl rfl (by kernel_rfl) (by kernel_rfl) ?_
      go_wp2_with (first | (go_at_call 58; refine (WindowOk_i' (h.ext (hx.trans (by repeat first | exact Ext.refl _ | assumption | refine Ext.drew ?_ | refine Ext.alloc ?_ _ | refine Ext.setCell ?_ (by simp) | refine Ext.setCell ?_ (by simp; omega) | refine Ext.trans ?_ (by assumption))))).mono ?_; rw [hw]; rintro e w5 ⟨rfl, hb5⟩) | (go_at_call 76; refine (partOf_c' (k := 0) (h.ext (hx.trans (by repeat first | exact Ext.refl _ | assumption | refine Ext.drew ?_ | refine Ext.alloc ?_ _ | refine Ext.setCell ?_ (by simp) | refine Ext.setCell ?_ (by simp; omega) | refine Ext.trans ?_ (by assumption)))) HW.out (by omega)).mono ?_; rintro e w6 ⟨v, rfl, hv, hb6⟩; obtain ⟨A1, c1, rfl, -, -, -⟩ := hv.shape))
      refine rx_on (by repeat first | exact Ext.refl _ | assumption | refine Ext.drew ?_ | refine Ext.alloc ?_ _ | refine Ext.setCell ?_ (by simp) | refine Ext.setCell ?_ (by simp; omega) | refine Ext.trans ?_ (by assumption)) ?_
      refine rx_run (run := [11, 15, 16, 17]) (k := 0) (m' := 262143) rfl (by kernel_rfl) (by kernel_rfl) (by kernel_rfl) (fm_cons rfl <| fm_cons rfl <| fm_cons rfl <| fm_cons rfl <| List.filterMap_nil) (by repeat first | exact Ext.refl _ | assumption | refine Ext.drew ?_ | refine Ext.alloc ?_ _ | refine Ext.setCell ?_ (by simp) | refine Ext.setCell ?_ (by simp; omega) | refine Ext.trans ?_ (by assumption)) ?_
      repeat (go_big_quiet_step ((fail)))
      refine wpQuiet_nil ?_
      refine rx_end (by kernel_rfl) ?_
      all_goals (go_wp2; go_ret; exact ⟨ret_b (by rw [HV.out, hw]; simp [hm]; rw [Bool.eq_iff_iff, beq_iff_eq, decide_eq_true_eq]; exact ⟨fun hq => Int.ofNat.inj hq, fun hq => by rw [hq]⟩), hx.trans (by repeat first | exact Ext.refl _ | assumption | refine Ext.drew ?_ | refine Ext.alloc ?_ _ | refine Ext.setCell ?_ (by simp) | refine Ext.setCell ?_ (by simp; omega) | refine Ext.trans ?_ (by assumption))⟩)
    · have hd : decide ((0 : Int) < (ls.length : Int)) = false := decide_eq_false (by omega)
      go_enter Try.func82, Try.ntmps82
      go_wp2_with fail
      have k0 : (w.alloc (.cells #[.slice A ns.length c, .slice B ls.length d] 36)).cell? ⟨w.heap.size, 0, none⟩ = some (.slice A ns.length c) := by go_simp
      have k1 : (w.alloc (.cells #[.slice A ns.length c, .slice B ls.length d] 36)).cell? ⟨w.heap.size, 1, none⟩ = some (.slice B ls.length d) := by go_simp
      have hx : Ext w (w.alloc (.cells #[.slice A ns.length c, .slice B ls.length d] 36)) := (by repeat first | exact Ext.refl _ | assumption | refine Ext.drew ?_ | refine Ext.alloc ?_ _ | refine Ext.setCell ?_ (by simp) | refine Ext.setCell ?_ (by simp; omega) | refine Ext.trans ?_ (by assumption))
      have hsz1 : w.heap.size + 1 = (w.alloc (.cells #[.slice A ns.length c, .slice B ls.length d] 36)).heap.size := by simp
      generalize (w.alloc (.cells #[.slice A ns.length c, .slice B ls.length d] 36)) = w1 at *
      (try rw [hsz1])
      have d0 := cell_regrown k0
      have d1 := cell_regrown k1
      refine rx_open [(true, 0, some 3, 2), (false, 1, some 4, 8), (true, 2, some 5, 16), (true, 4, some 6, 34), (true, 12, some 7, 96), (true, 20, some 8, 160), (true, 36, some 9, 288), (true, 68, some 10, 544), (true, 132, some 11, 1024), (true, 256, some 12, 2050), (false, 768, some 13, 6144), (true, 1280, some 14, 10240), (true, 256, some 15, 2050), (true, 4352, some 16, 34816), (true, 8448, some 17, 67584), (true, 18688, some 18, 149504), (true, 33024, some 19, 264192), (true, 131071, some 2, 524288)] 0 18 mixd rfl (by kernel_rfl) (by kernel_rfl) (by kernel_rfl) ?_
      refine rx_run (run := [0]) (k := 17) (m' := 1) rfl (by kernel_rfl) (by kernel_rfl) (by kernel_rfl) (fm_cons rfl <| List.filterMap_nil) (by repeat first | exact Ext.refl _ | assumption | refine Ext.drew ?_ | refine Ext.alloc ?_ _ | refine Ext.setCell ?_ (by simp) | refine Ext.setCell ?_ (by simp; omega) | refine Ext.trans ?_ (by assumption)) ?_
      repeat (go_big_quiet_step ((fail)))
      refine wpQuiet_nil ?_
      refine rx_op 1 (k := 16) (m' := 3) rfl rfl (by kernel_rfl) (by kernel_rfl) ?_
      go_wp2_with (first | (go_at_call 58; refine (WindowOk_i' (h.ext (hx.trans (by repeat first | exact Ext.refl _ | assumption | refine Ext.drew ?_ | refine Ext.alloc ?_ _ | refine Ext.setCell ?_ (by simp) | refine Ext.setCell ?_ (by simp; omega) | refine Ext.trans ?_ (by assumption))))).mono ?_; rw [hw]; rintro e w5 ⟨rfl, hb5⟩))
      refine rx_on (by repeat first | exact Ext.refl _ | assumption | refine Ext.drew ?_ | refine Ext.alloc ?_ _ | refine Ext.setCell ?_ (by simp) | refine Ext.setCell ?_ (by simp; omega) | refine Ext.trans ?_ (by assumption)) ?_
      refine rx_run (run := [2, 3, 4, 5, 6, 7, 8, 9, 12, 13, 14]) (k := 5) (m' := 29695) rfl (by kernel_rfl) (by kernel_rfl) (by kernel_rfl) (fm_cons rfl <| fm_cons rfl <| fm_cons rfl <| fm_cons rfl <| fm_cons rfl <| fm_cons rfl <| fm_cons rfl <| fm_cons rfl <| fm_cons rfl <| fm_cons rfl <| fm_cons rfl <| List.filterMap_nil) (by repeat first | exact Ext.refl _ | assumption | refine Ext.drew ?_ | refine Ext.alloc ?_ _ | refine Ext.setCell ?_ (by simp) | refine Ext.setCell ?_ (by simp; omega) | refine Ext.trans ?_ (by assumption)) ?_
      repeat (go_big_quiet_step ((fail)))
      refine wpQuiet_nil ?_
      refine rx_op 10 (k := 4) (m' := 30719) rfl rfl (by kernel_rfl) (by kernel_rfl) ?_
      go_wp2_with (first | (go_at_call 58; refine (WindowOk_i' (h.ext (hx.trans (by repeat first | exact Ext.refl _ | assumption | refine Ext.drew ?_ | refine Ext.alloc ?_ _ | refine Ext.setCell ?_ (by simp) | refine Ext.setCell ?_ (by simp; omega) | refine Ext.trans ?_ (by assumption))))).mono ?_; rw [hw]; rintro e w5 ⟨rfl, hb5⟩))
      refine rx_on (by repeat first | exact Ext.refl _ | assumption | refine Ext.drew ?_ | refine Ext.alloc ?_ _ | refine Ext.setCell ?_ (by simp) | refine Ext.setCell ?_ (by simp; omega) | refine Ext.trans ?_ (by assumption)) ?_
      refine rx_run (run := [11, 15, 16, 17]) (k := 0) (m' := 262143) rfl (by kernel_rfl) (by kernel_rfl) (by kernel_rfl) (fm_cons rfl <| fm_cons rfl <| fm_cons rfl <| fm_cons rfl <| List.filterMap_nil) (by repeat first | exact Ext.refl _ | assumption | refine Ext.drew ?_ | refine Ext.alloc ?_ _ | refine Ext.setCell ?_ (by simp) | refine Ext.setCell ?_ (by simp; omega) | refine Ext.trans ?_ (by assumption)) ?_
      repeat (go_big_quiet_step ((fail)))
      refine wpQuiet_nil ?_
      refine rx_end (by kernel_rfl) ?_
      all_goals (go_wp2; go_ret; exact ⟨ret_b (by rw [HV.out, hw]; simp [hm]), hx.trans (by repeat first | exact Ext.refl _ | assumption | refine Ext.drew ?_ | refine Ext.alloc ?_ _ | refine Ext.setCell ?_ (by simp) | refine Ext.setCell ?_ (by simp; omega) | refine Ext.trans ?_ (by assumption))⟩)
  · have hw' := eq_false_of_ne_true hw
    go_enter Try.func82, Try.ntmps82
    go_wp2_with fail
    have k0 : (w.alloc (.cells #[.slice A ns.length c, .slice B ls.length d] 36)).cell? ⟨w.heap.size, 0, none⟩ = some (.slice A ns.length c) := by go_simp
    have k1 : (w.alloc (.cells #[.slice A ns.length c, .slice B ls.length d] 36)).cell? ⟨w.heap.size, 1, none⟩ = some (.slice B ls.length d) := by go_simp
    have hx : Ext w (w.alloc (.cells #[.slice A ns.length c, .slice B ls.length d] 36)) := (by repeat first | exact Ext.refl _ | assumption | refine Ext.drew ?_ | refine Ext.alloc ?_ _ | refine Ext.setCell ?_ (by simp) | refine Ext.setCell ?_ (by simp; omega) | refine Ext.trans ?_ (by assumption))
    have hsz1 : w.heap.size + 1 = (w.alloc (.cells #[.slice A ns.length c, .slice B ls.length d] 36)).heap.size := by simp
    generalize (w.alloc (.cells #[.slice A ns.length c, .slice B ls.length d] 36)) = w1 at *
    (try rw [hsz1])
    have d0 := cell_regrown k0
    have d1 := cell_regrown k1
    refine rx_open [(true, 0, some 3, 2), (false, 1, some 4, 8), (true, 2, some 5, 16), (true, 4, some 6, 34), (true, 12, some 7, 96), (true, 20, some 8, 160), (true, 36, some 9, 288), (true, 68, some 10, 544), (true, 132, some 11, 1024), (true, 256, some 12, 2050), (false, 768, some 13, 6144), (true, 1280, some 14, 10240), (true, 256, some 15, 2050), (true, 4352, some 16, 34816), (true, 8448, some 17, 67584), (true, 18688, some 18, 149504), (true, 33024, some 19, 264192), (true, 131071, some 2, 524288)] 0 18 mixd rfl (by kernel_rfl) (by kernel_rfl) (by kernel_rfl) ?_
    refine rx_run (run := [0]) (k := 17) (m' := 1) rfl (by kernel_rfl) (by kernel_rfl) (by kernel_rfl) (fm_cons rfl <| List.filterMap_nil) (by repeat first | exact Ext.refl _ | assumption | refine Ext.drew ?_ | refine Ext.alloc ?_ _ | refine Ext.setCell ?_ (by simp) | refine Ext.setCell ?_ (by simp; omega) | refine Ext.trans ?_ (by assumption)) ?_
    repeat (go_big_quiet_step ((fail)))
    refine wpQuiet_nil ?_
    refine rx_op 1 (k := 16) (m' := 3) rfl rfl (by kernel_rfl) (by kernel_rfl) ?_
    go_wp2_with (first | (go_at_call 58; refine (WindowOk_i' (h.ext (hx.trans (by repeat first | exact Ext.refl _ | assumption | refine Ext.drew ?_ | refine Ext.alloc ?_ _ | refine Ext.setCell ?_ (by simp) | refine Ext.setCell ?_ (by simp; omega) | refine Ext.trans ?_ (by assumption))))).mono ?_; rw [hw']; rintro e w5 ⟨rfl, hb5⟩))
    refine rx_on (by repeat first | exact Ext.refl _ | assumption | refine Ext.drew ?_ | refine Ext.alloc ?_ _ | refine Ext.setCell ?_ (by simp) | refine Ext.setCell ?_ (by simp; omega) | refine Ext.trans ?_ (by assumption)) ?_
    refine rx_run (run := [2, 3, 4, 5, 6, 7, 8, 9, 12, 13, 14]) (k := 5) (m' := 29695) rfl (by kernel_rfl) (by kernel_rfl) (by kernel_rfl) (fm_cons rfl <| fm_cons rfl <| fm_cons rfl <| fm_cons rfl <| fm_cons rfl <| fm_cons rfl <| fm_cons rfl <| fm_cons rfl <| fm_cons rfl <| fm_cons rfl <| fm_cons rfl <| List.filterMap_nil) (by repeat first | exact Ext.refl _ | assumption | refine Ext.drew ?_ | refine Ext.alloc ?_ _ | refine Ext.setCell ?_ (by simp) | refine Ext.setCell ?_ (by simp; omega) | refine Ext.trans ?_ (by assumption)) ?_
    repeat (go_big_quiet_step ((fail)))
    refine wpQuiet_nil ?_
    refine rx_op 10 (k := 4) (m' := 30719) rfl rfl (by kernel_rfl) (by kernel_rfl) ?_
    go_wp2_with (first | (go_at_call 58; refine (WindowOk_i' (h.ext (hx.trans (by repeat first | exact Ext.refl _ | assumption | refine Ext.drew ?_ | refine Ext.alloc ?_ _ | refine Ext.setCell ?_ (by simp) | refine Ext.setCell ?_ (by simp; omega) | refine Ext.trans ?_ (by assumption))))).mono ?_; rw [hw']; rintro e w5 ⟨rfl, hb5⟩))
    refine rx_on (by repeat first | exact Ext.refl _ | assumption | refine Ext.drew ?_ | refine Ext.alloc ?_ _ | refine Ext.setCell ?_ (by simp) | refine Ext.setCell ?_ (by simp; omega) | refine Ext.trans ?_ (by assumption)) ?_
    refine rx_run (run := [11, 15, 16, 17]) (k := 0) (m' := 262143) rfl (by kernel_rfl) (by kernel_rfl) (by kernel_rfl) (fm_cons rfl <| fm_cons rfl <| fm_cons rfl <| fm_cons rfl <| List.filterMap_nil) (by repeat first | exact Ext.refl _ | assumption | refine Ext.drew ?_ | refine Ext.alloc ?_ _ | refine Ext.setCell ?_ (by simp) | refine Ext.setCell ?_ (by simp; omega) | refine Ext.trans ?_ (by assumption)) ?_
    repeat (go_big_quiet_step ((fail)))
    refine wpQuiet_nil ?_
    refine rx_end (by kernel_rfl) ?_
    all_goals (go_wp2; go_ret; exact ⟨ret_b (by rw [HV.out, hw']; simp), hx.trans (by repeat first | exact Ext.refl _ | assumption | refine Ext.drew ?_ | refine Ext.alloc ?_ _ | refine Ext.setCell ?_ (by simp) | refine Ext.setCell ?_ (by simp; omega) | refine Ext.trans ?_ (by assumption))⟩)

set_option maxRecDepth 100000 in
set_option maxHeartbeats 2000000 in
theorem IsWhole_s (A B : Option Addr) (c d : Nat) (ns ls : List P2) (w : World) (h : Wn w A c B d ns ls) :
    Calls Try.prog 78 #[.agg #[.slice A ns.length c, .slice B ls.length d]] w fun e w' => e = .returned (.bool (whole ns ls)) ∧ Ext w w' := by
  have HV : Hid (whole ns ls = (wok ns ls && decide (0 < ls.length) && decide ((partL ns.length ls 0).length = ns.length))) := Lib.hid rfl
  have hml := h.hm
  by_cases hw : wok ns ls = true
  · have HW := Lib.hid (wok_iff.1 hw)
    have hn0 := HW.out.lo
    by_cases hm : 0 < ls.length
    · have hm' : ((ls.length : Int) == 0) = false := beq_eq_false_iff_ne.2 (by omega)
      have hn := HW.out.hi
      go_enter Try.func78, Try.ntmps78
      go_wp2_with fail
      have k0 : (w.alloc (.cells #[.slice A ns.length c, .slice B ls.length d] 36)).cell? ⟨w.heap.size, 0, none⟩ = some (.slice A ns.length c) := by go_simp
      have k1 : (w.alloc (.cells #[.slice A ns.length c, .slice B ls.length d] 36)).cell? ⟨w.heap.size, 1, none⟩ = some (.slice B ls.length d) := by go_simp
      have hx : Ext w (w.alloc (.cells #[.slice A ns.length c, .slice B ls.length d] 36)) := (by repeat first | exact Ext.refl _ | assumption | refine Ext.drew ?_ | refine Ext.alloc ?_ _ | refine Ext.setCell ?_ (by simp) | refine Ext.setCell ?_ (by simp; omega) | refine Ext.trans ?_ (by assumption))
      have hsz1 : w.heap.size + 1 = (w.alloc (.cells #[.slice A ns.length c, .slice B ls.length d] 36)).heap.size := by simp
      generalize (w.alloc (.cells #[.slice A ns.length c, .slice B ls.length d] 36)) = w0 at *
      (try rw [hsz1])
      refine (WindowOk_s' (h.ext hx)).mono ?_
      rintro e w1 ⟨rfl, hb⟩
      have k0 := hb.lit k0
      have k1 := hb.lit k1
      have hx := hx.trans hb
      clear hb
      rw [hw]
      go_wp2_with fail
      refine (l07Parts_c' (h.ext hx) HW.out).mono ?_
      rintro e w2 ⟨v, rfl, hv, hb⟩
      have HLl : Hid ((labs ns.length ls).length = ns.length) := Lib.hid (linv (vd_of_ok HW.out)).len
      have HA : Hid ((partL ns.length ls 0).length = ns.length ↔ ∀ i : Nat, i < ns.length → gi (labs ns.length ls) i = 0) := Lib.hid (partL_all (vd_of_ok HW.out) hn0)
      have hx := hx.trans hb
      clear hb k0 k1
      generalize labs ns.length ls = L at *
      obtain ⟨g, cp, rfl, hcap, hgB, hgw, -, -⟩ := hv.gi_ (j := 0) (by rw [HLl.out]; omega)
      rw [HLl.out]
      rw [HLl.out] at hv
      go_wp2_with fail
      go_loop [4] (fun i => ∃ j : Nat, j ≤ ns.length ∧ i = .int .i64 j ∧ Hid (∀ i : Nat, i < j → gi L i = 0)) (fun i => ns.length - (intOf i).toNat)
      case atStart => exact ⟨0, by omega, rfl, Lib.hid (fun i hi => by omega)⟩
      case round =>
        obtain ⟨j, hj, rfl, ha⟩ := hrel
        by_cases hlt : j < ns.length
        · have c1 := (hv.cel (j := j) (by rw [HLl.out]; omega)).1
          by_cases hz : gi L j = 0
          · have hz' : (gi L j != 0) = false := by simp [hz]
            have Hz := Lib.hid hz
            clear hz
            go_wp2
            go_round
            case rel => exact ⟨j + 1, by omega, by go_num, Lib.hid (fun i hi => by
              rcases Nat.lt_succ_iff_lt_or_eq.1 hi with h | h
              · exact ha.out i h
              · subst h; exact Hz.out)⟩
            case measure => simp [intOf]; omega
          · have hz' : (gi L j != 0) = true := by simp [hz]
            go_wp2
            go_ret
            refine ⟨ret_b ?_, hx⟩
            rw [HV.out, hw]
            symm
            simp only [hm, decide_true, Bool.true_and, decide_eq_false_iff_not]
            exact fun e => hz (HA.out.1 e j hlt)
        · obtain rfl : j = ns.length := by omega
          go_wp2
          go_ret
          refine ⟨ret_b ?_, hx⟩
          rw [HV.out, hw]
          symm
          simp only [hm, decide_true, Bool.true_and, decide_eq_true_eq]
          exact HA.out.2 ha.out
    · have hm' : ((ls.length : Int) == 0) = true := beq_iff_eq.2 (by omega)
      go_enter Try.func78, Try.ntmps78
      go_wp2_with fail
      have k0 : (w.alloc (.cells #[.slice A ns.length c, .slice B ls.length d] 36)).cell? ⟨w.heap.size, 0, none⟩ = some (.slice A ns.length c) := by go_simp
      have k1 : (w.alloc (.cells #[.slice A ns.length c, .slice B ls.length d] 36)).cell? ⟨w.heap.size, 1, none⟩ = some (.slice B ls.length d) := by go_simp
      have hx : Ext w (w.alloc (.cells #[.slice A ns.length c, .slice B ls.length d] 36)) := (by repeat first | exact Ext.refl _ | assumption | refine Ext.drew ?_ | refine Ext.alloc ?_ _ | refine Ext.setCell ?_ (by simp) | refine Ext.setCell ?_ (by simp; omega) | refine Ext.trans ?_ (by assumption))
      have hsz1 : w.heap.size + 1 = (w.alloc (.cells #[.slice A ns.length c, .slice B ls.length d] 36)).heap.size := by simp
      generalize (w.alloc (.cells #[.slice A ns.length c, .slice B ls.length d] 36)) = w0 at *
      (try rw [hsz1])
      refine (WindowOk_s' (h.ext hx)).mono ?_
      rintro e w1 ⟨rfl, hb⟩
      have k0 := hb.lit k0
      have k1 := hb.lit k1
      have hx := hx.trans hb
      clear hb
      rw [hw]
      go_wp2
      go_ret
      exact ⟨ret_b (by rw [HV.out, hw]; simp [hm]), hx⟩
  · have hw' := eq_false_of_ne_true hw
    go_enter Try.func78, Try.ntmps78
    go_wp2_with fail
    have k0 : (w.alloc (.cells #[.slice A ns.length c, .slice B ls.length d] 36)).cell? ⟨w.heap.size, 0, none⟩ = some (.slice A ns.length c) := by go_simp
    have k1 : (w.alloc (.cells #[.slice A ns.length c, .slice B ls.length d] 36)).cell? ⟨w.heap.size, 1, none⟩ = some (.slice B ls.length d) := by go_simp
    have hx : Ext w (w.alloc (.cells #[.slice A ns.length c, .slice B ls.length d] 36)) := (by repeat first | exact Ext.refl _ | assumption | refine Ext.drew ?_ | refine Ext.alloc ?_ _ | refine Ext.setCell ?_ (by simp) | refine Ext.setCell ?_ (by simp; omega) | refine Ext.trans ?_ (by assumption))
    have hsz1 : w.heap.size + 1 = (w.alloc (.cells #[.slice A ns.length c, .slice B ls.length d] 36)).heap.size := by simp
    generalize (w.alloc (.cells #[.slice A ns.length c, .slice B ls.length d] 36)) = w0 at *
    (try rw [hsz1])
    refine (WindowOk_s' (h.ext hx)).mono ?_
    rintro e w1 ⟨rfl, hb⟩
    have k0 := hb.lit k0
    have k1 := hb.lit k1
    have hx := hx.trans hb
    clear hb
    rw [hw']
    go_wp2
    go_ret
    exact ⟨ret_b (by rw [HV.out, hw']; simp), hx⟩
end Go.Proofs.Ytpainmnekgnpeaa
