import Derived.Test.YtpainmnekgnpeaaB5
import Derived.Test.YtpainmnekgnpeaaP6
namespace Go.Proofs.Ytpainmnekgnpeaa
open Go.RowKit Go.Sort Go.BigFrame

set_option maxHeartbeats 1000000 in
theorem HalfPlane_s (ax ay bx by' : Int) (w : World) :
    Calls Try.prog 115 #[.agg #[.int .i64 ax, .int .i64 ay], .agg #[.int .i64 bx, .int .i64 by']] w fun e w' => e = .returned (.int .i64 (halfp (ax, ay) (bx, by'))) ∧ Ext w w' := by
  have HH : Hid (halfp (ax, ay) (bx, by') = if ay < by' ∨ (by' = ay ∧ ax < bx) then 0 else 1) := Lib.hid rfl
  by_cases h1 : ay < by'
  · skip
    go_enter Try.func115, Try.ntmps115
    go_wp2
    go_ret
    exact ⟨ret_i (by rw [HH.out, if_pos (.inl h1)]), (by repeat first | exact Ext.refl _ | assumption | refine Ext.drew ?_ | refine Ext.alloc ?_ _ | refine Ext.setCell ?_ (by simp) | refine Ext.setCell ?_ (by simp; omega) | refine Ext.trans ?_ (by assumption))⟩
  · by_cases h2 : by' = ay
    · subst h2
      by_cases h3 : ax < bx
      · skip
        go_enter Try.func115, Try.ntmps115
        go_wp2
        go_ret
        exact ⟨ret_i (by rw [HH.out, if_pos (.inr (by simp [h3]))]), (by repeat first | exact Ext.refl _ | assumption | refine Ext.drew ?_ | refine Ext.alloc ?_ _ | refine Ext.setCell ?_ (by simp) | refine Ext.setCell ?_ (by simp; omega) | refine Ext.trans ?_ (by assumption))⟩
      · skip
        go_enter Try.func115, Try.ntmps115
        go_wp2
        go_ret
        exact ⟨ret_i (by rw [HH.out, if_neg (by omega)]), (by repeat first | exact Ext.refl _ | assumption | refine Ext.drew ?_ | refine Ext.alloc ?_ _ | refine Ext.setCell ?_ (by simp) | refine Ext.setCell ?_ (by simp; omega) | refine Ext.trans ?_ (by assumption))⟩
    · have h2' : (by' == ay) = false := beq_eq_false_iff_ne.2 h2
      go_enter Try.func115, Try.ntmps115
      go_wp2
      go_ret
      exact ⟨ret_i (by rw [HH.out, if_neg (by omega)]), (by repeat first | exact Ext.refl _ | assumption | refine Ext.drew ?_ | refine Ext.alloc ?_ _ | refine Ext.setCell ?_ (by simp) | refine Ext.setCell ?_ (by simp; omega) | refine Ext.trans ?_ (by assumption))⟩

set_option maxRecDepth 100000 in
set_option maxHeartbeats 2000000 in
theorem IsBeforeAround_s (ax ay bx by' cx cy : Int) (w : World) (n1 : nok (ax, ay) = true) (n2 : nok (bx, by') = true) (n3 : nok (cx, cy) = true) :
    Calls Try.prog 111 #[.agg #[.int .i64 ax, .int .i64 ay], .agg #[.int .i64 bx, .int .i64 by'], .agg #[.int .i64 cx, .int .i64 cy]] w fun e w' => e = .returned (.bool (bfa (ax, ay) (bx, by') (cx, cy))) ∧ Ext w w' := by
  have HB : Hid (bfa (ax, ay) (bx, by') (cx, cy) = if halfp (ax, ay) (bx, by') = halfp (ax, ay) (cx, cy) then decide (0 < turn0 (ax, ay) (bx, by') (cx, cy)) else decide (halfp (ax, ay) (bx, by') < halfp (ax, ay) (cx, cy))) := Lib.hid rfl
  go_enter Try.func111, Try.ntmps111
  go_wp2_with fail
  refine (NodeOk_s ax ay _).mono ?_
  rintro e w1 ⟨rfl, hb⟩
  have k0 := hb.lit (b := w.heap.size) (o := 0) (v := .int .i64 ax) (by go_simp)
  have k1 := hb.lit (b := w.heap.size) (o := 1) (v := .int .i64 ay) (by go_simp)
  have k2 := hb.lit (b := w.heap.size + 1) (o := 0) (v := .int .i64 bx) (by go_simp)
  have k3 := hb.lit (b := w.heap.size + 1) (o := 1) (v := .int .i64 by') (by go_simp)
  have k4 := hb.lit (b := w.heap.size + 1 + 1) (o := 0) (v := .int .i64 cx) (by go_simp)
  have k5 := hb.lit (b := w.heap.size + 1 + 1) (o := 1) (v := .int .i64 cy) (by go_simp)
  have hx : Ext w w1 := (by repeat first | exact Ext.refl _ | assumption | refine Ext.drew ?_ | refine Ext.alloc ?_ _ | refine Ext.setCell ?_ (by simp) | refine Ext.setCell ?_ (by simp; omega) | refine Ext.trans ?_ (by assumption))
  clear hb
  rw [n1]
  go_wp2_with fail
  refine (NodeOk_s bx by' _).mono ?_
  rintro e w2 ⟨rfl, hb⟩
  have k0 := hb.lit k0
  have k1 := hb.lit k1
  have k2 := hb.lit k2
  have k3 := hb.lit k3
  have k4 := hb.lit k4
  have k5 := hb.lit k5
  have hx := hx.trans hb
  clear hb
  rw [n2]
  go_wp2_with fail
  refine (NodeOk_s cx cy _).mono ?_
  rintro e w3 ⟨rfl, hb⟩
  have k0 := hb.lit k0
  have k1 := hb.lit k1
  have k2 := hb.lit k2
  have k3 := hb.lit k3
  have k4 := hb.lit k4
  have k5 := hb.lit k5
  have hx := hx.trans hb
  clear hb
  rw [n3]
  by_cases hq : halfp (ax, ay) (bx, by') = halfp (ax, ay) (cx, cy)
  · have hne : (halfp (ax, ay) (bx, by') != halfp (ax, ay) (cx, cy)) = false := by simp [hq]
    have HB2 : Hid (bfa (ax, ay) (bx, by') (cx, cy) = decide (0 < turn0 (ax, ay) (bx, by') (cx, cy))) := Lib.hid (by rw [HB.out, if_pos hq])
    clear hq HB
    go_wp2_with fail
    go_cut [26] (fun s wx => s = .bool false ∧ Ext w3 wx)
    case first =>
      have d0 := cell_regrown k0
      have d1 := cell_regrown k1
      have d2 := cell_regrown k2
      have d3 := cell_regrown k3
      have d4 := cell_regrown k4
      have d5 := cell_regrown k5
      refine rx_open [(true, 0, some 20, 8), (true, 0, some 21, 16), (false, 3, some 22, 3145728), (true, 0, some 23, 8), (true, 0, some 24, 32), (false, 28, some 25, 25165824), (true, 36, some 26, 37748736)] 7 7 mixd rfl (by kernel_rfl) (by kernel_rfl) (by kernel_rfl) ?_
      refine rx_run (run := [0, 1, 3, 4]) (k := 3) (m' := 27) rfl (by kernel_rfl) (by kernel_rfl) (by kernel_rfl) (fm_cons rfl <| fm_cons rfl <| fm_cons rfl <| fm_cons rfl <| List.filterMap_nil) (by repeat first | exact Ext.refl _ | assumption | refine Ext.drew ?_ | refine Ext.alloc ?_ _ | refine Ext.setCell ?_ (by simp) | refine Ext.setCell ?_ (by simp; omega) | refine Ext.trans ?_ (by assumption)) ?_
      repeat (go_big_quiet_step ((fail)))
      refine wpQuiet_nil ?_
      refine rx_op 2 (k := 2) (m' := 31) rfl rfl (by kernel_rfl) (by kernel_rfl) ?_
      go_wp2_with ((go_at_call 115; refine (HalfPlane_s _ _ _ _ _).mono ?_; rintro e w5 ⟨rfl, hb5⟩))
      refine rx_on (by repeat first | exact Ext.refl _ | assumption | refine Ext.drew ?_ | refine Ext.alloc ?_ _ | refine Ext.setCell ?_ (by simp) | refine Ext.setCell ?_ (by simp; omega) | refine Ext.trans ?_ (by assumption)) ?_
      refine rx_op 5 (k := 1) (m' := 63) rfl rfl (by kernel_rfl) (by kernel_rfl) ?_
      go_wp2_with ((go_at_call 115; refine (HalfPlane_s _ _ _ _ _).mono ?_; rintro e w5 ⟨rfl, hb5⟩))
      refine rx_on (by repeat first | exact Ext.refl _ | assumption | refine Ext.drew ?_ | refine Ext.alloc ?_ _ | refine Ext.setCell ?_ (by simp) | refine Ext.setCell ?_ (by simp; omega) | refine Ext.trans ?_ (by assumption)) ?_
      refine rx_run (run := [6]) (k := 0) (m' := 127) rfl (by kernel_rfl) (by kernel_rfl) (by kernel_rfl) (fm_cons rfl <| List.filterMap_nil) (by repeat first | exact Ext.refl _ | assumption | refine Ext.drew ?_ | refine Ext.alloc ?_ _ | refine Ext.setCell ?_ (by simp) | refine Ext.setCell ?_ (by simp; omega) | refine Ext.trans ?_ (by assumption)) ?_
      repeat (go_big_quiet_step ((fail)))
      refine wpQuiet_nil ?_
      refine rx_end (by kernel_rfl) ?_
      all_goals (go_wp2; go_meet; first | exact ⟨rfl, (by repeat first | exact Ext.refl _ | assumption | refine Ext.drew ?_ | refine Ext.alloc ?_ _ | refine Ext.setCell ?_ (by simp) | refine Ext.setCell ?_ (by simp; omega) | refine Ext.trans ?_ (by assumption))⟩ | exact ⟨by rw [hne], (by repeat first | exact Ext.refl _ | assumption | refine Ext.drew ?_ | refine Ext.alloc ?_ _ | refine Ext.setCell ?_ (by simp) | refine Ext.setCell ?_ (by simp; omega) | refine Ext.trans ?_ (by assumption))⟩)
    case rest =>
      obtain ⟨rfl, hb⟩ := hcut
      have k0 := hb.lit k0
      have k1 := hb.lit k1
      have k2 := hb.lit k2
      have k3 := hb.lit k3
      have k4 := hb.lit k4
      have k5 := hb.lit k5
      have hx := hx.trans hb
      clear hb
      obtain ⟨w4, rfl⟩ : ∃ w4 : World, w4 = wc := ⟨_, rfl⟩
      go_wp2_with fail
      refine (l02Turn_s _ _ _ _ _ _ n1 n2 n3 _).mono ?_
      rintro e w5 ⟨rfl, hb⟩
      go_wp2
      go_ret
      exact ⟨ret_b (by rw [HB2.out]), hx.trans hb⟩
  · have hne : (halfp (ax, ay) (bx, by') != halfp (ax, ay) (cx, cy)) = true := by simpa using hq
    have HB2 : Hid (bfa (ax, ay) (bx, by') (cx, cy) = decide (halfp (ax, ay) (bx, by') < halfp (ax, ay) (cx, cy))) := Lib.hid (by rw [HB.out, if_neg hq])
    clear hq HB
    go_wp2_with fail
    go_cut [26] (fun s wx => s = .bool true ∧ Ext w3 wx)
    case first =>
      have d0 := cell_regrown k0
      have d1 := cell_regrown k1
      have d2 := cell_regrown k2
      have d3 := cell_regrown k3
      have d4 := cell_regrown k4
      have d5 := cell_regrown k5
      refine rx_open [(true, 0, some 20, 8), (true, 0, some 21, 16), (false, 3, some 22, 3145728), (true, 0, some 23, 8), (true, 0, some 24, 32), (false, 28, some 25, 25165824), (true, 36, some 26, 37748736)] 7 7 mixd rfl (by kernel_rfl) (by kernel_rfl) (by kernel_rfl) ?_
      refine rx_run (run := [0, 1, 3, 4]) (k := 3) (m' := 27) rfl (by kernel_rfl) (by kernel_rfl) (by kernel_rfl) (fm_cons rfl <| fm_cons rfl <| fm_cons rfl <| fm_cons rfl <| List.filterMap_nil) (by repeat first | exact Ext.refl _ | assumption | refine Ext.drew ?_ | refine Ext.alloc ?_ _ | refine Ext.setCell ?_ (by simp) | refine Ext.setCell ?_ (by simp; omega) | refine Ext.trans ?_ (by assumption)) ?_
      repeat (go_big_quiet_step ((fail)))
      refine wpQuiet_nil ?_
      refine rx_op 2 (k := 2) (m' := 31) rfl rfl (by kernel_rfl) (by kernel_rfl) ?_
      go_wp2_with ((go_at_call 115; refine (HalfPlane_s _ _ _ _ _).mono ?_; rintro e w5 ⟨rfl, hb5⟩))
      refine rx_on (by repeat first | exact Ext.refl _ | assumption | refine Ext.drew ?_ | refine Ext.alloc ?_ _ | refine Ext.setCell ?_ (by simp) | refine Ext.setCell ?_ (by simp; omega) | refine Ext.trans ?_ (by assumption)) ?_
      refine rx_op 5 (k := 1) (m' := 63) rfl rfl (by kernel_rfl) (by kernel_rfl) ?_
      go_wp2_with ((go_at_call 115; refine (HalfPlane_s _ _ _ _ _).mono ?_; rintro e w5 ⟨rfl, hb5⟩))
      refine rx_on (by repeat first | exact Ext.refl _ | assumption | refine Ext.drew ?_ | refine Ext.alloc ?_ _ | refine Ext.setCell ?_ (by simp) | refine Ext.setCell ?_ (by simp; omega) | refine Ext.trans ?_ (by assumption)) ?_
      refine rx_run (run := [6]) (k := 0) (m' := 127) rfl (by kernel_rfl) (by kernel_rfl) (by kernel_rfl) (fm_cons rfl <| List.filterMap_nil) (by repeat first | exact Ext.refl _ | assumption | refine Ext.drew ?_ | refine Ext.alloc ?_ _ | refine Ext.setCell ?_ (by simp) | refine Ext.setCell ?_ (by simp; omega) | refine Ext.trans ?_ (by assumption)) ?_
      repeat (go_big_quiet_step ((fail)))
      refine wpQuiet_nil ?_
      refine rx_end (by kernel_rfl) ?_
      all_goals (go_wp2; go_meet; first | exact ⟨rfl, (by repeat first | exact Ext.refl _ | assumption | refine Ext.drew ?_ | refine Ext.alloc ?_ _ | refine Ext.setCell ?_ (by simp) | refine Ext.setCell ?_ (by simp; omega) | refine Ext.trans ?_ (by assumption))⟩ | exact ⟨by rw [hne], (by repeat first | exact Ext.refl _ | assumption | refine Ext.drew ?_ | refine Ext.alloc ?_ _ | refine Ext.setCell ?_ (by simp) | refine Ext.setCell ?_ (by simp; omega) | refine Ext.trans ?_ (by assumption))⟩)
    case rest =>
      obtain ⟨rfl, hb⟩ := hcut
      have k0 := hb.lit k0
      have k1 := hb.lit k1
      have k2 := hb.lit k2
      have k3 := hb.lit k3
      have k4 := hb.lit k4
      have k5 := hb.lit k5
      have hx := hx.trans hb
      clear hb
      obtain ⟨w4, rfl⟩ : ∃ w4 : World, w4 = wc := ⟨_, rfl⟩
      go_wp2_with fail
      have d0 := cell_regrown k0
      have d1 := cell_regrown k1
      have d2 := cell_regrown k2
      have d3 := cell_regrown k3
      have d4 := cell_regrown k4
      have d5 := cell_regrown k5
      refine rx_open [(true, 0, some 27, 8), (true, 0, some 28, 16), (false, 3, some 29, 402653184), (true, 0, some 30, 8), (true, 0, some 31, 32), (false, 28, some 32, 3221225472), (true, 36, some 33, 4831838208), (true, 127, some 6, 8589934592)] 8 8 mixd rfl (by kernel_rfl) (by kernel_rfl) (by kernel_rfl) ?_
      refine rx_run (run := [0, 1, 3, 4]) (k := 4) (m' := 27) rfl (by kernel_rfl) (by kernel_rfl) (by kernel_rfl) (fm_cons rfl <| fm_cons rfl <| fm_cons rfl <| fm_cons rfl <| List.filterMap_nil) (by repeat first | exact Ext.refl _ | assumption | refine Ext.drew ?_ | refine Ext.alloc ?_ _ | refine Ext.setCell ?_ (by simp) | refine Ext.setCell ?_ (by simp; omega) | refine Ext.trans ?_ (by assumption)) ?_
      repeat (go_big_quiet_step ((fail)))
      refine wpQuiet_nil ?_
      refine rx_op 2 (k := 3) (m' := 31) rfl rfl (by kernel_rfl) (by kernel_rfl) ?_
      go_wp2_with ((go_at_call 115; refine (HalfPlane_s _ _ _ _ _).mono ?_; rintro e w5 ⟨rfl, hb5⟩))
      refine rx_on (by repeat first | exact Ext.refl _ | assumption | refine Ext.drew ?_ | refine Ext.alloc ?_ _ | refine Ext.setCell ?_ (by simp) | refine Ext.setCell ?_ (by simp; omega) | refine Ext.trans ?_ (by assumption)) ?_
      refine rx_op 5 (k := 2) (m' := 63) rfl rfl (by kernel_rfl) (by kernel_rfl) ?_
      go_wp2_with ((go_at_call 115; refine (HalfPlane_s _ _ _ _ _).mono ?_; rintro e w5 ⟨rfl, hb5⟩))
      refine rx_on (by repeat first | exact Ext.refl _ | assumption | refine Ext.drew ?_ | refine Ext.alloc ?_ _ | refine Ext.setCell ?_ (by simp) | refine Ext.setCell ?_ (by simp; omega) | refine Ext.trans ?_ (by assumption)) ?_
      refine rx_run (run := [6, 7]) (k := 0) (m' := 255) rfl (by kernel_rfl) (by kernel_rfl) (by kernel_rfl) (fm_cons rfl <| fm_cons rfl <| List.filterMap_nil) (by repeat first | exact Ext.refl _ | assumption | refine Ext.drew ?_ | refine Ext.alloc ?_ _ | refine Ext.setCell ?_ (by simp) | refine Ext.setCell ?_ (by simp; omega) | refine Ext.trans ?_ (by assumption)) ?_
      repeat (go_big_quiet_step ((fail)))
      refine wpQuiet_nil ?_
      refine rx_end (by kernel_rfl) ?_
      all_goals (go_wp2; go_ret; exact ⟨ret_b (by rw [HB2.out]), hx.trans (by repeat first | exact Ext.refl _ | assumption | refine Ext.drew ?_ | refine Ext.alloc ?_ _ | refine Ext.setCell ?_ (by simp) | refine Ext.setCell ?_ (by simp; omega) | refine Ext.trans ?_ (by assumption))⟩)

set_option maxRecDepth 100000 in
set_option maxHeartbeats 1000000 in
theorem l05Ends_s (A B : Option Addr) (c d : Nat) (ns ls : List P2) (k : Nat) (w : World) (h : Wn w A c B d ns ls) (hk : k < 2 * ls.length) :
    Calls Try.prog 110 #[.agg #[.slice A ns.length c, .slice B ls.length d], .int .i64 (k : Int)] w fun e w' => e = .returned (.tuple #[.int .i64 (dEnds ls k).1, .int .i64 (dEnds ls k).2]) ∧ Ext w w' := by
  have hm := h.hm
  have HE : Hid (dEnds ls k = if k % 2 = 1 then ((gp ls (k / 2 : Nat)).2, (gp ls (k / 2 : Nat)).1) else gp ls (k / 2 : Nat)) := Lib.hid rfl
  have hk2 : k / 2 < ls.length := by omega
  have hdv : ((k : Int) / 2).toNat = k / 2 := by omega
  have hdl : (k : Int) / 2 < ls.length := by omega
  have hd0 : 0 ≤ (k : Int) / 2 := by omega
  obtain ⟨b, off, rfl, hbb, c1, c2⟩ := h.g.gp_ hk2
  generalize gp ls (k / 2 : Nat) = L at *
  obtain ⟨p, q⟩ := L
  by_cases ho : k % 2 = 1
  · have hmd : (k : Int) % 2 = 1 := by omega
    rw [if_pos ho] at HE
    clear ho
    go_enter Try.func110, Try.ntmps110
    go_wp2_with fail
    have d0 := cell_regrown (w := (w.alloc (.cells #[.slice A ns.length c, .slice (some ⟨b, off, none⟩) ls.length d] 36)).alloc (.cells #[.int .i64 p, .int .i64 q] 65)) (a := ⟨w.heap.size + 1, 0, none⟩) (v := .int .i64 p) (by go_simp)
    have d1 := cell_regrown (w := (w.alloc (.cells #[.slice A ns.length c, .slice (some ⟨b, off, none⟩) ls.length d] 36)).alloc (.cells #[.int .i64 p, .int .i64 q] 65)) (a := ⟨w.heap.size + 1, 1, none⟩) (v := .int .i64 q) (by go_simp)
    refine rx_open [(true, 0, some 16, 64), (true, 1, some 17, 65536), (true, 0, some 18, 64), (true, 4, some 19, 262144), (true, 3, some 4, 131072), (true, 31, some 5, 524288)] 6 6 mixd rfl (by kernel_rfl) (by kernel_rfl) (by kernel_rfl) ?_
    refine rx_run (run := [0, 1, 2, 3, 4, 5]) (k := 0) (m' := 63) rfl (by kernel_rfl) (by kernel_rfl) (by kernel_rfl) (fm_cons rfl <| fm_cons rfl <| fm_cons rfl <| fm_cons rfl <| fm_cons rfl <| fm_cons rfl <| List.filterMap_nil) (by repeat first | exact Ext.refl _ | assumption | refine Ext.drew ?_ | refine Ext.alloc ?_ _ | refine Ext.setCell ?_ (by simp) | refine Ext.setCell ?_ (by simp; omega) | refine Ext.trans ?_ (by assumption)) ?_
    repeat (go_big_quiet_step ((fail)))
    refine wpQuiet_nil ?_
    refine rx_end (by kernel_rfl) ?_
    go_wp2
    go_ret2
    exact ⟨by rw [HE.out]; rfl, (by repeat first | exact Ext.refl _ | assumption | refine Ext.drew ?_ | refine Ext.alloc ?_ _ | refine Ext.setCell ?_ (by simp) | refine Ext.setCell ?_ (by simp; omega) | refine Ext.trans ?_ (by assumption))⟩
  · have hmd : ¬ (k : Int) % 2 = 1 := by omega
    have hmd' : ((k : Int) % 2 == 1) = false := beq_eq_false_iff_ne.2 hmd
    rw [if_neg ho] at HE
    clear ho
    go_enter Try.func110, Try.ntmps110
    go_wp2_with fail
    have d0 := cell_regrown (w := (w.alloc (.cells #[.slice A ns.length c, .slice (some ⟨b, off, none⟩) ls.length d] 36)).alloc (.cells #[.int .i64 p, .int .i64 q] 65)) (a := ⟨w.heap.size + 1, 0, none⟩) (v := .int .i64 p) (by go_simp)
    have d1 := cell_regrown (w := (w.alloc (.cells #[.slice A ns.length c, .slice (some ⟨b, off, none⟩) ls.length d] 36)).alloc (.cells #[.int .i64 p, .int .i64 q] 65)) (a := ⟨w.heap.size + 1, 1, none⟩) (v := .int .i64 q) (by go_simp)
    refine rx_open [(true, 0, some 20, 64), (true, 1, some 21, 1048576), (true, 0, some 22, 64), (true, 4, some 23, 4194304), (true, 3, some 4, 2097152), (true, 31, some 5, 8388608)] 6 6 mixd rfl (by kernel_rfl) (by kernel_rfl) (by kernel_rfl) ?_
    refine rx_run (run := [0, 1, 2, 3, 4, 5]) (k := 0) (m' := 63) rfl (by kernel_rfl) (by kernel_rfl) (by kernel_rfl) (fm_cons rfl <| fm_cons rfl <| fm_cons rfl <| fm_cons rfl <| fm_cons rfl <| fm_cons rfl <| List.filterMap_nil) (by repeat first | exact Ext.refl _ | assumption | refine Ext.drew ?_ | refine Ext.alloc ?_ _ | refine Ext.setCell ?_ (by simp) | refine Ext.setCell ?_ (by simp; omega) | refine Ext.trans ?_ (by assumption)) ?_
    repeat (go_big_quiet_step ((fail)))
    refine wpQuiet_nil ?_
    refine rx_end (by kernel_rfl) ?_
    go_wp2
    go_ret2
    exact ⟨by rw [HE.out]; rfl, (by repeat first | exact Ext.refl _ | assumption | refine Ext.drew ?_ | refine Ext.alloc ?_ _ | refine Ext.setCell ?_ (by simp) | refine Ext.setCell ?_ (by simp; omega) | refine Ext.trans ?_ (by assumption))⟩
end Go.Proofs.Ytpainmnekgnpeaa
