import Derived.Test.YtdhmjhoaegdfjaaGreatG6
import Derived.Test.YtdhmjhoaegdfjaaGreatG5
import Derived.Test.YtdhmjhoaegdfjaaGreatG1
import Derived.Deep.DeepCutAuto
import Derived.Test.YtdhmjhoaegdfjaaGreatG7
namespace Go.Proofs.YtdhmjhoaegdfjaaGreat
open Go.RowKit Go.Sort Go.BigFrame

set_option maxHeartbeats 1000000 in
theorem HalfPlane_s (ax ay bx by' : Int) (w : World) :
    Calls Tryz.prog 108 #[.agg #[.int .i64 ax, .int .i64 ay], .agg #[.int .i64 bx, .int .i64 by']] w fun e w' => e = .returned (.int .i64 (halfp (ax, ay) (bx, by'))) ∧ Ext w w' := by
  have HH : Hid (halfp (ax, ay) (bx, by') = if ay < by' ∨ (by' = ay ∧ ax < bx) then 0 else 1) := Lib.hid rfl
  by_cases h1 : ay < by'
  · skip
    go_enter Tryz.func108, Tryz.ntmps108
    go_wp2
    go_ret
    exact ⟨ret_i (by rw [HH.out, if_pos (.inl h1)]), (by repeat first | exact Ext.refl _ | assumption | refine Ext.drew ?_ | refine Ext.alloc ?_ _ | refine Ext.setCell ?_ (by simp) | refine Ext.setCell ?_ (by simp; omega) | refine Ext.trans ?_ (by assumption))⟩
  · by_cases h2 : by' = ay
    · subst h2
      by_cases h3 : ax < bx
      · skip
        go_enter Tryz.func108, Tryz.ntmps108
        go_wp2
        go_ret
        exact ⟨ret_i (by rw [HH.out, if_pos (.inr (by simp [h3]))]), (by repeat first | exact Ext.refl _ | assumption | refine Ext.drew ?_ | refine Ext.alloc ?_ _ | refine Ext.setCell ?_ (by simp) | refine Ext.setCell ?_ (by simp; omega) | refine Ext.trans ?_ (by assumption))⟩
      · skip
        go_enter Tryz.func108, Tryz.ntmps108
        go_wp2
        go_ret
        exact ⟨ret_i (by rw [HH.out, if_neg (by omega)]), (by repeat first | exact Ext.refl _ | assumption | refine Ext.drew ?_ | refine Ext.alloc ?_ _ | refine Ext.setCell ?_ (by simp) | refine Ext.setCell ?_ (by simp; omega) | refine Ext.trans ?_ (by assumption))⟩
    · have h2' : (by' == ay) = false := beq_eq_false_iff_ne.2 h2
      go_enter Tryz.func108, Tryz.ntmps108
      go_wp2
      go_ret
      exact ⟨ret_i (by rw [HH.out, if_neg (by omega)]), (by repeat first | exact Ext.refl _ | assumption | refine Ext.drew ?_ | refine Ext.alloc ?_ _ | refine Ext.setCell ?_ (by simp) | refine Ext.setCell ?_ (by simp; omega) | refine Ext.trans ?_ (by assumption))⟩

set_option maxRecDepth 100000 in
set_option maxHeartbeats 2000000 in
theorem IsBeforeAround_s (ax ay bx by' cx cy : Int) (w : World) (n1 : nok (ax, ay) = true) (n2 : nok (bx, by') = true) (n3 : nok (cx, cy) = true) :
    Calls Tryz.prog 104 #[.agg #[.int .i64 ax, .int .i64 ay], .agg #[.int .i64 bx, .int .i64 by'], .agg #[.int .i64 cx, .int .i64 cy]] w fun e w' => e = .returned (.bool (bfa (ax, ay) (bx, by') (cx, cy))) ∧ Ext w w' := by
  have HB : Hid (bfa (ax, ay) (bx, by') (cx, cy) = if halfp (ax, ay) (bx, by') = halfp (ax, ay) (cx, cy) then decide (0 < turn0 (ax, ay) (bx, by') (cx, cy)) else decide (halfp (ax, ay) (bx, by') < halfp (ax, ay) (cx, cy))) := Lib.hid rfl
  go_enter Tryz.func104, Tryz.ntmps104
  go_wp2_with fail
  refine (NodeOk_s ax ay _).mono ?_
  rintro e w1 ⟨rfl, hb⟩
  have k0 := hb.lit (b := w.heap.size) (o := 0) (v := .int .i64 ax) (by go_simp)
  have k1 := hb.lit (b := w.heap.size) (o := 1) (v := .int .i64 ay) (by go_simp)
  have k2 := hb.lit (b := w.heap.size + 1) (o := 0) (v := .int .i64 bx) (by go_simp)
  have k3 := hb.lit (b := w.heap.size + 1) (o := 1) (v := .int .i64 by') (by go_simp)
  have k4 := hb.lit (b := w.heap.size + 1 + 1) (o := 0) (v := .int .i64 cx) (by go_simp)
  have k5 := hb.lit (b := w.heap.size + 1 + 1) (o := 1) (v := .int .i64 cy) (by go_simp)
  have hx : Ext w w1 := (by repeat first | exact Ext.refl _ | assumption | refine Ext.drew ?_ | refine Ext.alloc ?_ _ | refine Ext.setCell ?_ (by simp) | refine Ext.setCell ?_ (by simp; omega) | refine Ext.trans ?_ (by assumption))
  clear hb
  rw [n1]
  go_wp2_with fail
  refine (NodeOk_s bx by' _).mono ?_
  rintro e w2 ⟨rfl, hb⟩
  have k0 := hb.lit k0
  have k1 := hb.lit k1
  have k2 := hb.lit k2
  have k3 := hb.lit k3
  have k4 := hb.lit k4
  have k5 := hb.lit k5
  have hx := hx.trans hb
  clear hb
  rw [n2]
  go_wp2_with fail
  refine (NodeOk_s cx cy _).mono ?_
  rintro e w3 ⟨rfl, hb⟩
  have k0 := hb.lit k0
  have k1 := hb.lit k1
  have k2 := hb.lit k2
  have k3 := hb.lit k3
  have k4 := hb.lit k4
  have k5 := hb.lit k5
  have hx := hx.trans hb
  clear hb
  rw [n3]
  by_cases hq : halfp (ax, ay) (bx, by') = halfp (ax, ay) (cx, cy)
  · have hne : (halfp (ax, ay) (bx, by') != halfp (ax, ay) (cx, cy)) = false := by simp [hq]
    have HB2 : Hid (bfa (ax, ay) (bx, by') (cx, cy) = decide (0 < turn0 (ax, ay) (bx, by') (cx, cy))) := Lib.hid (by rw [HB.out, if_pos hq])
    clear hq HB
    go_wp2_with fail
    go_cut [26] (fun s wx => s = .bool false ∧ Ext w3 wx)
    case first =>
      have d0 := cell_regrown k0
      have d1 := cell_regrown k1
      have d2 := cell_regrown k2
      have d3 := cell_regrown k3
      have d4 := cell_regrown k4
      have d5 := cell_regrown k5
      refine rx_open [(true, 0, some 20, 8), (true, 0, some 21, 16), (false, 3, some 22, 3145728), (true, 0, some 23, 8), (true, 0, some 24, 32), (false, 28, some 25, 25165824), (true, 36, some 26, 37748736)] 0 7 mixd rfl (by kernel_rfl) (by kernel_rfl) (by kernel_rfl) ?_
      refine rx_run (run := [0, 1, 3, 4]) (k := 3) (m' := 27) rfl (by kernel_rfl) (by kernel_rfl) (by kernel_rfl) (fm_cons rfl <| fm_cons rfl <| fm_cons rfl <| fm_cons rfl <| List.filterMap_nil) (by repeat first | exact Ext.refl _ | assumption | refine Ext.drew ?_ | refine Ext.alloc ?_ _ | refine Ext.setCell ?_ (by simp) | refine Ext.setCell ?_ (by simp; omega) | refine Ext.trans ?_ (by assumption)) ?_
      repeat (go_big_quiet_step ((fail)))
      refine wpQuiet_nil ?_
      refine rx_op 2 (k := 2) (m' := 31) rfl rfl (by kernel_rfl) (by kernel_rfl) ?_
      go_wp2_with ((go_at_call 108; refine (HalfPlane_s _ _ _ _ _).mono ?_; rintro e w5 ⟨rfl, hb5⟩))
      refine rx_on (by repeat first | exact Ext.refl _ | assumption | refine Ext.drew ?_ | refine Ext.alloc ?_ _ | refine Ext.setCell ?_ (by simp) | refine Ext.setCell ?_ (by simp; omega) | refine Ext.trans ?_ (by assumption)) ?_
      refine rx_op 5 (k := 1) (m' := 63) rfl rfl (by kernel_rfl) (by kernel_rfl) ?_
      go_wp2_with ((go_at_call 108; refine (HalfPlane_s _ _ _ _ _).mono ?_; rintro e w5 ⟨rfl, hb5⟩))
      refine rx_on (by repeat first | exact Ext.refl _ | assumption | refine Ext.drew ?_ | refine Ext.alloc ?_ _ | refine Ext.setCell ?_ (by simp) | refine Ext.setCell ?_ (by simp; omega) | refine Ext.trans ?_ (by assumption)) ?_
      refine rx_run (run := [6]) (k := 0) (m' := 127) rfl (by kernel_rfl) (by kernel_rfl) (by kernel_rfl) (fm_cons rfl <| List.filterMap_nil) (by repeat first | exact Ext.refl _ | assumption | refine Ext.drew ?_ | refine Ext.alloc ?_ _ | refine Ext.setCell ?_ (by simp) | refine Ext.setCell ?_ (by simp; omega) | refine Ext.trans ?_ (by assumption)) ?_
      repeat (go_big_quiet_step ((fail)))
      refine wpQuiet_nil ?_
      refine rx_end (by kernel_rfl) ?_
      all_goals (go_wp2; go_meet; first | exact ⟨rfl, (by repeat first | exact Ext.refl _ | assumption | refine Ext.drew ?_ | refine Ext.alloc ?_ _ | refine Ext.setCell ?_ (by simp) | refine Ext.setCell ?_ (by simp; omega) | refine Ext.trans ?_ (by assumption))⟩ | exact ⟨by rw [hne], (by repeat first | exact Ext.refl _ | assumption | refine Ext.drew ?_ | refine Ext.alloc ?_ _ | refine Ext.setCell ?_ (by simp) | refine Ext.setCell ?_ (by simp; omega) | refine Ext.trans ?_ (by assumption))⟩)
    case rest =>
      obtain ⟨rfl, hb⟩ := hcut
      have k0 := hb.lit k0
      have k1 := hb.lit k1
      have k2 := hb.lit k2
      have k3 := hb.lit k3
      have k4 := hb.lit k4
      have k5 := hb.lit k5
      have hx := hx.trans hb
      clear hb
      obtain ⟨w4, rfl⟩ : ∃ w4 : World, w4 = wc := ⟨_, rfl⟩
      go_wp2_with fail
      refine (l02Turn_s _ _ _ _ _ _ n1 n2 n3 _).mono ?_
      rintro e w5 ⟨rfl, hb⟩
      go_wp2
      go_ret
      exact ⟨ret_b (by rw [HB2.out]), hx.trans hb⟩
  · have hne : (halfp (ax, ay) (bx, by') != halfp (ax, ay) (cx, cy)) = true := by simpa using hq
    have HB2 : Hid (bfa (ax, ay) (bx, by') (cx, cy) = decide (halfp (ax, ay) (bx, by') < halfp (ax, ay) (cx, cy))) := Lib.hid (by rw [HB.out, if_neg hq])
    clear hq HB
    go_wp2_with fail
    go_cut [26] (fun s wx => s = .bool true ∧ Ext w3 wx)
    case first =>
      have d0 := cell_regrown k0
      have d1 := cell_regrown k1
      have d2 := cell_regrown k2
      have d3 := cell_regrown k3
      have d4 := cell_regrown k4
      have d5 := cell_regrown k5
      refine rx_open [(true, 0, some 20, 8), (true, 0, some 21, 16), (false, 3, some 22, 3145728), (true, 0, some 23, 8), (true, 0, some 24, 32), (false, 28, some 25, 25165824), (true, 36, some 26, 37748736)] 0 7 mixd rfl (by kernel_rfl) (by kernel_rfl) (by kernel_rfl) ?_
      refine rx_run (run := [0, 1, 3, 4]) (k := 3) (m' := 27) rfl (by kernel_rfl) (by kernel_rfl) (by kernel_rfl) (fm_cons rfl <| fm_cons rfl <| fm_cons rfl <| fm_cons rfl <| List.filterMap_nil) (by repeat first | exact Ext.refl _ | assumption | refine Ext.drew ?_ | refine Ext.alloc ?_ _ | refine Ext.setCell ?_ (by simp) | refine Ext.setCell ?_ (by simp; omega) | refine Ext.trans ?_ (by assumption)) ?_
      repeat (go_big_quiet_step ((fail)))
      refine wpQuiet_nil ?_
      refine rx_op 2 (k := 2) (m' := 31) rfl rfl (by kernel_rfl) (by kernel_rfl) ?_
      go_wp2_with ((go_at_call 108; refine (HalfPlane_s _ _ _ _ _).mono ?_; rintro e w5 ⟨rfl, hb5⟩))
      refine rx_on (by repeat first | exact Ext.refl _ | assumption | refine Ext.drew ?_ | refine Ext.alloc ?_ _ | refine Ext.setCell ?_ (by simp) | refine Ext.setCell ?_ (by simp; omega) | refine Ext.trans ?_ (by assumption)) ?_
      refine rx_op 5 (k := 1) (m' := 63) rfl rfl (by kernel_rfl) (by kernel_rfl) ?_
      go_wp2_with ((go_at_call 108; refine (HalfPlane_s _ _ _ _ _).mono ?_; rintro e w5 ⟨rfl, hb5⟩))
      refine rx_on (by repeat first | exact Ext.refl _ | assumption | refine Ext.drew ?_ | refine Ext.alloc ?_ _ | refine Ext.setCell ?_ (by simp) | refine Ext.setCell ?_ (by simp; omega) | refine Ext.trans ?_ (by assumption)) ?_
      refine rx_run (run := [6]) (k := 0) (m' := 127) rfl (by kernel_rfl) (by kernel_rfl) (by kernel_rfl) (fm_cons rfl <| List.filterMap_nil) (by repeat first | exact Ext.refl _ | assumption | refine Ext.drew ?_ | refine Ext.alloc ?_ _ | refine Ext.setCell ?_ (by simp) | refine Ext.setCell ?_ (by simp; omega) | refine Ext.trans ?_ (by assumption)) ?_
      repeat (go_big_quiet_step ((fail)))
      refine wpQuiet_nil ?_
      refine rx_end (by kernel_rfl) ?_
      all_goals (go_wp2; go_meet; first | exact ⟨rfl, (by repeat first | exact Ext.refl _ | assumption | refine Ext.drew ?_ | refine Ext.alloc ?_ _ | refine Ext.setCell ?_ (by simp) | refine Ext.setCell ?_ (by simp; omega) | refine Ext.trans ?_ (by assumption))⟩ | exact ⟨by rw [hne], (by repeat first | exact Ext.refl _ | assumption | refine Ext.drew ?_ | refine Ext.alloc ?_ _ | refine Ext.setCell ?_ (by simp) | refine Ext.setCell ?_ (by simp; omega) | refine Ext.trans ?_ (by assumption))⟩)
    case rest =>
      obtain ⟨rfl, hb⟩ := hcut
      have k0 := hb.lit k0
      have k1 := hb.lit k1
      have k2 := hb.lit k2
      have k3 := hb.lit k3
      have k4 := hb.lit k4
      have k5 := hb.lit k5
      have hx := hx.trans hb
      clear hb
      obtain ⟨w4, rfl⟩ : ∃ w4 : World, w4 = wc := ⟨_, rfl⟩
      go_wp2_with fail
      have d0 := cell_regrown k0
      have d1 := cell_regrown k1
      have d2 := cell_regrown k2
      have d3 := cell_regrown k3
      have d4 := cell_regrown k4
      have d5 := cell_regrown k5
      refine rx_open [(true, 0, some 27, 8), (true, 0, some 28, 16), (false, 3, some 29, 402653184), (true, 0, some 30, 8), (true, 0, some 31, 32), (false, 28, some 32, 3221225472), (true, 36, some 33, 4831838208), (true, 127, some 6, 8589934592)] 0 8 mixd rfl (by kernel_rfl) (by kernel_rfl) (by kernel_rfl) ?_
      refine rx_run (run := [0, 1, 3, 4]) (k := 4) (m' := 27) rfl (by kernel_rfl) (by kernel_rfl) (by kernel_rfl) (fm_cons rfl <| fm_cons rfl <| fm_cons rfl <| fm_cons rfl <| List.filterMap_nil) (by repeat first | exact Ext.refl _ | assumption | refine Ext.drew ?_ | refine Ext.alloc ?_ _ | refine Ext.setCell ?_ (by simp) | refine Ext.setCell ?_ (by simp; omega) | refine Ext.trans ?_ (by assumption)) ?_
      repeat (go_big_quiet_step ((fail)))
      refine wpQuiet_nil ?_
      refine rx_op 2 (k := 3) (m' := 31) rfl rfl (by kernel_rfl) (by kernel_rfl) ?_
      go_wp2_with ((go_at_call 108; refine (HalfPlane_s _ _ _ _ _).mono ?_; rintro e w5 ⟨rfl, hb5⟩))
      refine rx_on (by repeat first | exact Ext.refl _ | assumption | refine Ext.drew ?_ | refine Ext.alloc ?_ _ | refine Ext.setCell ?_ (by simp) | refine Ext.setCell ?_ (by simp; omega) | refine Ext.trans ?_ (by assumption)) ?_
      refine rx_op 5 (k := 2) (m' := 63) rfl rfl (by kernel_rfl) (by kernel_rfl) ?_
      go_wp2_with ((go_at_call 108; refine (HalfPlane_s _ _ _ _ _).mono ?_; rintro e w5 ⟨rfl, hb5⟩))
      refine rx_on (by repeat first | exact Ext.refl _ | assumption | refine Ext.drew ?_ | refine Ext.alloc ?_ _ | refine Ext.setCell ?_ (by simp) | refine Ext.setCell ?_ (by simp; omega) | refine Ext.trans ?_ (by assumption)) ?_
      refine rx_run (run := [6, 7]) (k := 0) (m' := 255) rfl (by kernel_rfl) (by kernel_rfl) (by kernel_rfl) (fm_cons rfl <| fm_cons rfl <| List.filterMap_nil) (by repeat first | exact Ext.refl _ | assumption | refine Ext.drew ?_ | refine Ext.alloc ?_ _ | refine Ext.setCell ?_ (by simp) | refine Ext.setCell ?_ (by simp; omega) | refine Ext.trans ?_ (by assumption)) ?_
      repeat (go_big_quiet_step ((fail)))
      refine wpQuiet_nil ?_
      refine rx_end (by kernel_rfl) ?_
      all_goals (go_wp2; go_ret; exact ⟨ret_b (by rw [HB2.out]), hx.trans (by repeat first | exact Ext.refl _ | assumption | refine Ext.drew ?_ | refine Ext.alloc ?_ _ | refine Ext.setCell ?_ (by simp) | refine Ext.setCell ?_ (by simp; omega) | refine Ext.trans ?_ (by assumption))⟩)

set_option maxRecDepth 100000 in
set_option maxHeartbeats 1000000 in
theorem l05Ends_s (A B : Option Addr) (c d : Nat) (ns ls : List P2) (k : Nat) (w : World) (h : Wn w A c B d ns ls) (hk : k < 2 * ls.length) :
    Calls Tryz.prog 99 #[.agg #[.slice A ns.length c, .slice B ls.length d], .int .i64 (k : Int)] w fun e w' => e = .returned (.tuple #[.int .i64 (dEnds ls k).1, .int .i64 (dEnds ls k).2]) ∧ Ext w w' := by
  have hm := h.hm
  have HE : Hid (dEnds ls k = if k % 2 = 1 then ((gp ls (k / 2 : Nat)).2, (gp ls (k / 2 : Nat)).1) else gp ls (k / 2 : Nat)) := Lib.hid rfl
  have hk2 : k / 2 < ls.length := by omega
  have hdv : ((k : Int) / 2).toNat = k / 2 := by omega
  have hdl : (k : Int) / 2 < ls.length := by omega
  have hd0 : 0 ≤ (k : Int) / 2 := by omega
  obtain ⟨b, off, rfl, hbb, c1, c2⟩ := h.g.gp_ hk2
  generalize gp ls (k / 2 : Nat) = L at *
  obtain ⟨p, q⟩ := L
  by_cases ho : k % 2 = 1
  · have hmd : (k : Int) % 2 = 1 := by omega
    rw [if_pos ho] at HE
    clear ho
    go_enter Tryz.func99, Tryz.ntmps99
    go_wp2_with fail
    have d0 := cell_regrown (w := (w.alloc (.cells #[.slice A ns.length c, .slice (some ⟨b, off, none⟩) ls.length d] 27)).alloc (.cells #[.int .i64 p, .int .i64 q] 81)) (a := ⟨w.heap.size + 1, 0, none⟩) (v := .int .i64 p) (by go_simp)
    have d1 := cell_regrown (w := (w.alloc (.cells #[.slice A ns.length c, .slice (some ⟨b, off, none⟩) ls.length d] 27)).alloc (.cells #[.int .i64 p, .int .i64 q] 81)) (a := ⟨w.heap.size + 1, 1, none⟩) (v := .int .i64 q) (by go_simp)
    refine rx_open [(true, 0, some 16, 64), (true, 1, some 17, 65536), (true, 0, some 18, 64), (true, 4, some 19, 262144), (true, 3, some 4, 131072), (true, 31, some 5, 524288)] 0 6 mixd rfl (by kernel_rfl) (by kernel_rfl) (by kernel_rfl) ?_
    refine rx_run (run := [0, 1, 2, 3, 4, 5]) (k := 0) (m' := 63) rfl (by kernel_rfl) (by kernel_rfl) (by kernel_rfl) (fm_cons rfl <| fm_cons rfl <| fm_cons rfl <| fm_cons rfl <| fm_cons rfl <| fm_cons rfl <| List.filterMap_nil) (by repeat first | exact Ext.refl _ | assumption | refine Ext.drew ?_ | refine Ext.alloc ?_ _ | refine Ext.setCell ?_ (by simp) | refine Ext.setCell ?_ (by simp; omega) | refine Ext.trans ?_ (by assumption)) ?_
    repeat (go_big_quiet_step ((fail)))
    refine wpQuiet_nil ?_
    refine rx_end (by kernel_rfl) ?_
    go_wp2
    go_ret2
    exact ⟨by rw [HE.out]; rfl, (by repeat first | exact Ext.refl _ | assumption | refine Ext.drew ?_ | refine Ext.alloc ?_ _ | refine Ext.setCell ?_ (by simp) | refine Ext.setCell ?_ (by simp; omega) | refine Ext.trans ?_ (by assumption))⟩
  · have hmd : ¬ (k : Int) % 2 = 1 := by omega
    have hmd' : ((k : Int) % 2 == 1) = false := beq_eq_false_iff_ne.2 hmd
    rw [if_neg ho] at HE
    clear ho
    go_enter Tryz.func99, Tryz.ntmps99
    go_wp2_with fail
    have d0 := cell_regrown (w := (w.alloc (.cells #[.slice A ns.length c, .slice (some ⟨b, off, none⟩) ls.length d] 27)).alloc (.cells #[.int .i64 p, .int .i64 q] 81)) (a := ⟨w.heap.size + 1, 0, none⟩) (v := .int .i64 p) (by go_simp)
    have d1 := cell_regrown (w := (w.alloc (.cells #[.slice A ns.length c, .slice (some ⟨b, off, none⟩) ls.length d] 27)).alloc (.cells #[.int .i64 p, .int .i64 q] 81)) (a := ⟨w.heap.size + 1, 1, none⟩) (v := .int .i64 q) (by go_simp)
    refine rx_open [(true, 0, some 20, 64), (true, 1, some 21, 1048576), (true, 0, some 22, 64), (true, 4, some 23, 4194304), (true, 3, some 4, 2097152), (true, 31, some 5, 8388608)] 0 6 mixd rfl (by kernel_rfl) (by kernel_rfl) (by kernel_rfl) ?_
    refine rx_run (run := [0, 1, 2, 3, 4, 5]) (k := 0) (m' := 63) rfl (by kernel_rfl) (by kernel_rfl) (by kernel_rfl) (fm_cons rfl <| fm_cons rfl <| fm_cons rfl <| fm_cons rfl <| fm_cons rfl <| fm_cons rfl <| List.filterMap_nil) (by repeat first | exact Ext.refl _ | assumption | refine Ext.drew ?_ | refine Ext.alloc ?_ _ | refine Ext.setCell ?_ (by simp) | refine Ext.setCell ?_ (by simp; omega) | refine Ext.trans ?_ (by assumption)) ?_
    repeat (go_big_quiet_step ((fail)))
    refine wpQuiet_nil ?_
    refine rx_end (by kernel_rfl) ?_
    go_wp2
    go_ret2
    exact ⟨by rw [HE.out]; rfl, (by repeat first | exact Ext.refl _ | assumption | refine Ext.drew ?_ | refine Ext.alloc ?_ _ | refine Ext.setCell ?_ (by simp) | refine Ext.setCell ?_ (by simp; omega) | refine Ext.trans ?_ (by assumption))⟩
end Go.Proofs.YtdhmjhoaegdfjaaGreat

namespace Go.Proofs.YtdhmjhoaegdfjaaGreat
open Go.RowKit Go.Sort Go.BigFrame

theorem dEnds_ok {ns ls : List P2} (h : WOk ns ls) {d : Nat} (hd : d < 2 * ls.length) : ∃ i j : Nat, dEnds ls d = ((i : Int), (j : Int)) ∧ i < ns.length ∧ j < ns.length := by
  obtain ⟨i, j, e, hi, hj⟩ := vd_of_ok h (gp ls (d / 2 : Nat)) (by rw [gp_nat ls (d / 2) (by omega)]; exact List.getElem_mem _)
  unfold dEnds
  rw [e]
  by_cases h2 : d % 2 = 1
  · rw [if_pos h2]; exact ⟨j, i, rfl, hj, hi⟩
  · rw [if_neg h2]; exact ⟨i, j, rfl, hi, hj⟩
theorem nok_at {ns ls : List P2} (h : WOk ns ls) {i : Nat} (hi : i < ns.length) : nok (gp ns i) = true := h.ok i hi

def mid (l : List Nat) (a : Nat) (y : Int) : List Int := nl (l.take a) ++ y :: nl (l.drop a)
section
variable {l : List Nat} {a : Nat} {y : Int}
theorem mid_len (h : a ≤ l.length) : (mid l a y).length = l.length + 1 := by simp [mid, nl]; omega
theorem mid_at (h : a ≤ l.length) : gi (mid l a y) a = y := by
  rw [gi_nat _ _ (by rw [mid_len h]; omega)]
  unfold mid
  rw [List.getElem_append_right (by rw [nl_len, List.length_take]; omega)]
  simp [nl_len, List.length_take, Nat.min_eq_left h]
theorem mid_lt (h : a < l.length) : gi (mid l (a + 1) y) a = (l.getD a 0 : Nat) := by
  rw [gi_nat _ _ (by rw [mid_len h]; omega)]
  unfold mid
  rw [List.getElem_append_left (by rw [nl_len, List.length_take]; omega)]
  simp [nl, h]
theorem mid_set (h : a ≤ l.length) (z : Int) : (mid l a y).set a z = mid l a z := by
  unfold mid
  rw [List.set_append_right _ _ (by rw [nl_len, List.length_take]; omega), nl_len, List.length_take, Nat.min_eq_left h, Nat.sub_self, List.set_cons_zero]
theorem mid_shift (h : a < l.length) : (mid l (a + 1) y).set (a + 1) (l.getD a 0 : Nat) = mid l a (l.getD a 0 : Nat) := by
  rw [mid_set h]
  unfold mid
  rw [List.take_succ_eq_append_getElem h, List.drop_eq_getElem_cons (i := a) h, getD_at l h]
  unfold nl
  rw [List.map_append, List.append_assoc]
  rfl
theorem mid_start (j : Int) : mid l l.length j = nl l ++ [j] := by simp [mid, nl]
end
theorem mid_ins {lt : Nat → Nat → Bool} {d : Nat} {l : List Nat} {a : Nat} (h : insPos lt d l l.length = a) : mid l a d = nl (ins lt d l) := by
  unfold ins mid
  rw [h]
  simp [nl]

set_option maxRecDepth 100000 in
set_option maxHeartbeats 4000000 in
theorem l05Around_s (A B : Option Addr) (c d : Nat) (ns ls : List P2) (k : Nat) (w : World) (h : Wn w A c B d ns ls) (hW : WOk ns ls) (hk : k < ns.length) :
    Calls Tryz.prog 100 #[.agg #[.slice A ns.length c, .slice B ls.length d], .int .i64 (k : Int)] w fun e w' => ∃ v, e = .returned v ∧ OwI w' w.heap.size v (nl (arnd ns ls k)) ∧ Ext w w' := by
  have hn := hW.hi
  have hm := hW.le
  have HW := Lib.hid hW
  have HV : Hid (arnd ns ls k = arnN ns ls k (2 * ls.length)) := Lib.hid rfl
  clear hW
  go_enter Tryz.func100, Tryz.ntmps100
  go_wp2_with fail
  have k0 : (w.alloc (.cells #[.slice A ns.length c, .slice B ls.length d] 27)).cell? ⟨w.heap.size, 0, none⟩ = some (.slice A ns.length c) := by go_simp
  have k1 : (w.alloc (.cells #[.slice A ns.length c, .slice B ls.length d] 27)).cell? ⟨w.heap.size, 1, none⟩ = some (.slice B ls.length d) := by go_simp
  have hx : Ext w (w.alloc (.cells #[.slice A ns.length c, .slice B ls.length d] 27)) := (by repeat first | exact Ext.refl _ | assumption | refine Ext.drew ?_ | refine Ext.alloc ?_ _ | refine Ext.setCell ?_ (by simp) | refine Ext.setCell ?_ (by simp; omega) | refine Ext.trans ?_ (by assumption))
  have hsz1 : w.heap.size + 1 = (w.alloc (.cells #[.slice A ns.length c, .slice B ls.length d] 27)).heap.size := by simp
  generalize (w.alloc (.cells #[.slice A ns.length c, .slice B ls.length d] 27)) = w1 at *
  (try rw [hsz1])
  have hv0 : OzI (w1.alloc (.cells #[] 3)) w.heap.size w1.heap.size (.slice (some ⟨w1.heap.size, 0, none⟩) 0 0) (nl (arnN ns ls k 0)) := OzI.zero _ (by omega) rfl
  have hx2 : Ext w1 (w1.alloc (.cells #[] 3)) := (by repeat first | exact Ext.refl _ | assumption | refine Ext.drew ?_ | refine Ext.alloc ?_ _ | refine Ext.setCell ?_ (by simp) | refine Ext.setCell ?_ (by simp; omega) | refine Ext.trans ?_ (by assumption))
  generalize (w1.alloc (.cells #[] 3)) = w2 at *
  have kk0 := k0
  have kk1 := k1
  go_loopw [5, 6, 7, 8, 9, 10, 11] (fun v i _ _ _ _ _ wr => ∃ j : Nat, j ≤ 2 * ls.length ∧ i = .int .i64 j ∧ OzI wr w.heap.size w1.heap.size v (nl (arnN ns ls k j)) ∧ Ext w1 wr) (fun _ i _ _ _ _ _ _ => 2 * ls.length - (intOf i).toNat)
  case atStart => exact ⟨0, by omega, rfl, hv0, hx2⟩
  case round =>
    clear hv0 hx2
    obtain ⟨j, hj, rfl, hv, hxr⟩ := hrel
    obtain ⟨wo, rfl⟩ : ∃ x : World, x = wr := ⟨_, rfl⟩
    have hx0 := hx.trans hxr
    have k0 := hxr.lit k0
    have k1 := hxr.lit k1
    by_cases hlt : j < 2 * ls.length
    · have hji : (j : Int) < 2 * (ls.length : Int) := by omega
      go_wp2_with fail
      refine (l05Ends_s A B c d ns ls j _ (h.ext hx0) hlt).mono ?_
      rintro e w3 ⟨rfl, hb⟩
      obtain ⟨f, t, hft, hf, ht⟩ := dEnds_ok HW.out hlt
      rw [hft]
      have hx0 := hx0.trans hb
      have hxr := hxr.trans hb
      have hv := hv.ext hb
      have k0 := hb.lit k0
      have k1 := hb.lit k1
      clear hb
      by_cases hfk : f = k
      · obtain rfl := hfk
        have hs : arnN ns ls f (j + 1) = ins (dlt ns ls f) j (arnN ns ls f j) := by
          show (if (dEnds ls j).1 = (f : Int) then _ else _) = _
          rw [if_pos (by rw [hft])]
        have hmem : ∀ x ∈ arnN ns ls f j, x < j := fun x hx => (arnN_mem.1 hx).1
        have hln := arnN_len ns ls f j
        have hft2 : (dEnds ls j).2 = (t : Int) := by rw [hft]
        have Hs := Lib.hid hs
        have Hmem := Lib.hid hmem
        clear hs hft hmem
        generalize hl : arnN ns ls f j = l at *
        clear hl
        have HL : Hid ((nl l).length = l.length) := Lib.hid (nl_len l)
        have hsz := hxr.size
        obtain ⟨A5, c5, rfl⟩ := hv.shape HL.out
        go_wp2_with (at_builtin; refine az_int2 _ _ rfl rfl rfl (hv.ext ((Ext.refl w3).alloc _)) (g := w3.heap.size) (y := j) (by first | rfl | simp) (by go_simp) (by rw [HL.out]; omega) (by simp; omega) ?_)
        intro v' w4 h1 h3
        have hxr := h3 _ (hxr.trans (by repeat first | exact Ext.refl _ | assumption | refine Ext.drew ?_ | refine Ext.alloc ?_ _ | refine Ext.setCell ?_ (by simp) | refine Ext.setCell ?_ (by simp; omega) | refine Ext.trans ?_ (by assumption))) (Nat.le_refl _)
        clear h3 k0 k1 hx0
        have hx0 := hx.trans hxr
        obtain ⟨gb, cp, rfl, hcap, hgB, hgw, -, -⟩ := h1.gi_ (j := 0) (by simp)
        have HL2 : Hid ((nl l ++ [(j : Int)]).length = l.length + 1) := Lib.hid (by rw [List.length_append, HL.out]; rfl)
        rw [HL2.out] at hcap h1
        rw [HL2.out]
        rw [← mid_start] at h1
        have HP : Hid (∀ x : Nat, dlt ns ls f j x = bfa (gp ns f) (gp ns t) (gp ns (dEnds ls x).2)) := Lib.hid (fun x => by rw [← hft2]; rfl)
        generalize dlt ns ls f = P at *
        go_wp2_with fail
        go_loopw [9, 10, 11] (fun i _ _ wr => ∃ (a : Nat) (y : Int), a ≤ l.length ∧ i = .int .i64 a ∧ OwI wr w1.heap.size (.slice (some ⟨gb, 0, none⟩) (l.length + 1) cp) (mid l a y) ∧ insPos P j l l.length = insPos P j l a ∧ Ext w1 wr) (fun i _ _ _ => (intOf i).toNat)
        case atStart => exact ⟨l.length, j, Nat.le_refl _, rfl, h1, rfl, hxr⟩
        case round =>
          clear h1 hx0 hxr
          obtain ⟨a, y, ha, rfl, hv, hpos, hxj⟩ := hrel
          obtain ⟨w5, rfl⟩ : ∃ x : World, x = wr := ⟨_, rfl⟩
          have hx0 := hx.trans hxj
          have k0 := hxj.lit kk0
          have k1 := hxj.lit kk1
          have Hpos := Lib.hid hpos
          clear hpos
          rcases a with _ | a
          · skip
            obtain ⟨e1, e2⟩ := hv.cel (j := 0) (by rw [mid_len ha]; omega)
            have hset := hv.set_ (by rw [mid_len ha]) 0 (j : Int)
            rw [mid_set ha, mid_ins (a := 0) Hpos.out] at hset
            have Hset := Lib.hid hset
            clear hset hv
            go_wp2
            go_roundw
            case rel => exact ⟨j + 1, by omega, by go_num, .of (by rw [Hs.out]; exact Hset.out), hxj.setCell (by simpa using hgB)⟩
            case measure => first | (simp [intOf]; done) | (simp [intOf]; omega)
          · have hal : a < l.length := by omega
            have c1 := (hv.cel (j := a) (by rw [mid_len ha]; omega)).1
            rw [mid_lt hal] at c1
            have hxm : l.getD a 0 ∈ l := by rw [getD_at l hal]; exact List.getElem_mem hal
            have hxl : l.getD a 0 < 2 * ls.length := by have := Hmem.out _ hxm; omega
            have Hsh : Hid ((mid l (a + 1) y).set (a + 1) (l.getD a 0 : Nat) = mid l a (l.getD a 0 : Nat)) := Lib.hid (mid_shift hal)
            have Hps : Hid (insPos P j l (a + 1) = if P j (l.getD a 0) = true then insPos P j l a else a + 1) := Lib.hid rfl
            generalize l.getD a 0 = x at *
            obtain ⟨f2, t2, hft', hf2, ht2⟩ := dEnds_ok HW.out hxl
            have HFT := Lib.hid hft'
            have HPx : Hid (P j x = bfa (gp ns f) (gp ns t) (gp ns t2)) := Lib.hid (by rw [HP.out, hft'])
            clear hft' hxm
            go_upto_region 10 with fail
            go_cut [11] (fun s wx => s = .int .i64 t2 ∧ Ext w5 wx)
            case first =>
              have d0 := cell_regrown k0
              have d1 := cell_regrown k1
              have d2 := cell_regrown c1
              refine rx_open [(true, 0, some 39, 4), (true, 0, some 40, 32), (true, 0, some 41, 512), (true, 4, some 42, 2199023255552), (true, 10, some 43, 5497558138880), (true, 16, some 44, 8796093022208), (false, 33, some 45, 18141941858304), (true, 64, some 38, 35184372088832), (true, 128, some 46, 274877906944), (true, 128, some 47, 274877906944), (true, 511, some 10, 70368744177664), (true, 2047, some 11, 140737488355328)] 0 12 mixd rfl (by kernel_rfl) (by kernel_rfl) (by kernel_rfl) ?_
              refine rx_run (run := [0, 1, 2, 3, 4, 5]) (k := 6) (m' := 63) rfl (by kernel_rfl) (by kernel_rfl) (by kernel_rfl) (fm_cons rfl <| fm_cons rfl <| fm_cons rfl <| fm_cons rfl <| fm_cons rfl <| fm_cons rfl <| List.filterMap_nil) (by repeat first | exact Ext.refl _ | assumption | refine Ext.drew ?_ | refine Ext.alloc ?_ _ | refine Ext.setCell ?_ (by simp) | refine Ext.setCell ?_ (by simp; omega) | refine Ext.trans ?_ (by assumption)) ?_
              repeat (go_big_quiet_step ((fail)))
              refine wpQuiet_nil ?_
              refine rx_op 6 (k := 5) (m' := 127) rfl rfl (by kernel_rfl) (by kernel_rfl) ?_
              go_wp2_with ((go_at_call 99; refine (l05Ends_s A B c d ns ls x _ (h.ext (hx0.trans (by repeat first | exact Ext.refl _ | assumption | refine Ext.drew ?_ | refine Ext.alloc ?_ _ | refine Ext.setCell ?_ (by simp) | refine Ext.setCell ?_ (by simp; omega) | refine Ext.trans ?_ (by assumption)))) hxl).mono ?_; rw [HFT.out]; rintro e w6 ⟨rfl, hb6⟩))
              refine rx_on (by repeat first | exact Ext.refl _ | assumption | refine Ext.drew ?_ | refine Ext.alloc ?_ _ | refine Ext.setCell ?_ (by simp) | refine Ext.setCell ?_ (by simp; omega) | refine Ext.trans ?_ (by assumption)) ?_
              refine rx_run (run := [7, 8, 9, 10, 11]) (k := 0) (m' := 4095) rfl (by kernel_rfl) (by kernel_rfl) (by kernel_rfl) (fm_cons rfl <| fm_cons rfl <| fm_cons rfl <| fm_cons rfl <| fm_cons rfl <| List.filterMap_nil) (by repeat first | exact Ext.refl _ | assumption | refine Ext.drew ?_ | refine Ext.alloc ?_ _ | refine Ext.setCell ?_ (by simp) | refine Ext.setCell ?_ (by simp; omega) | refine Ext.trans ?_ (by assumption)) ?_
              repeat (go_big_quiet_step ((fail)))
              refine wpQuiet_nil ?_
              refine rx_end (by kernel_rfl) ?_
              all_goals (go_wp2; go_meet; exact ⟨rfl, (by repeat first | exact Ext.refl _ | assumption | refine Ext.drew ?_ | refine Ext.alloc ?_ _ | refine Ext.setCell ?_ (by simp) | refine Ext.setCell ?_ (by simp; omega) | refine Ext.trans ?_ (by assumption))⟩)
            case rest =>
              obtain ⟨rfl, hb⟩ := hcut
              obtain ⟨w6, rfl⟩ : ∃ x : World, x = wc := ⟨_, rfl⟩
              have hx0 := hx0.trans hb
              have hxj := hxj.trans hb
              have k0 := hb.lit k0
              have k1 := hb.lit k1
              have c1 := hb.lit c1
              have hv := hv.ext hb
              clear hb
              obtain ⟨bb, off, rfl, hbb, n1, n2⟩ := (h.ext hx0).h.gp_ hf
              obtain ⟨b', off', he, hbb', n3, n4⟩ := (h.ext hx0).h.gp_ ht
              obtain ⟨rfl, rfl⟩ : bb = b' ∧ off = off' := by simpa using he
              clear he hbb'
              obtain ⟨b', off', he, hbb', n5, n6⟩ := (h.ext hx0).h.gp_ ht2
              obtain ⟨rfl, rfl⟩ : bb = b' ∧ off = off' := by simpa using he
              clear he hbb'
              have q1 := nok_at HW.out hf
              have q2 := nok_at HW.out ht
              have q3 := nok_at HW.out ht2
              have u1 : (f : Int) < ns.length := by omega
              have u2 : (t : Int) < ns.length := by omega
              have u3 : (t2 : Int) < ns.length := by omega
              generalize gp ns f = X at *
              generalize gp ns t = Y at *
              generalize gp ns t2 = Z at *
              obtain ⟨ax, ay⟩ := X
              obtain ⟨bx, by'⟩ := Y
              obtain ⟨cx, cy⟩ := Z
              go_upto_region 11 with fail
              go_cut [64] (fun s wx => s = .bool (!P j x) ∧ Ext w6 wx)
              case first =>
                have d0 := cell_regrown k0
                have d1 := cell_regrown n1
                have d2 := cell_regrown n2
                have d3 := cell_regrown n3
                have d4 := cell_regrown n4
                have d5 := cell_regrown n5
                have d6 := cell_regrown n6
                refine rx_open [(true, 0, some 48, 4), (true, 1, some 49, 281474976710656), (true, 0, some 50, 2), (true, 6, some 51, 1688849860263936), (true, 8, some 52, 2251799813685248), (true, 0, some 53, 4), (true, 32, some 54, 9007199254740992), (true, 0, some 55, 256), (true, 192, some 56, 54043195528445952), (true, 256, some 57, 72057594037927936), (true, 0, some 58, 4), (true, 1024, some 59, 288230376151711744), (true, 0, some 60, 2048), (true, 6144, some 61, 1729382256910270464), (true, 8192, some 62, 2305843009213693952), (false, 16912, some 63, 4760304806130614272), (true, 32768, some 64, 9223372036854775808)] 0 17 mixd rfl (by kernel_rfl) (by kernel_rfl) (by kernel_rfl) ?_
                refine rx_run (run := [0, 1, 2, 3, 4, 5, 6, 7, 8, 9, 10, 11, 12, 13, 14]) (k := 2) (m' := 32767) rfl (by kernel_rfl) (by kernel_rfl) (by kernel_rfl) (fm_cons rfl <| fm_cons rfl <| fm_cons rfl <| fm_cons rfl <| fm_cons rfl <| fm_cons rfl <| fm_cons rfl <| fm_cons rfl <| fm_cons rfl <| fm_cons rfl <| fm_cons rfl <| fm_cons rfl <| fm_cons rfl <| fm_cons rfl <| fm_cons rfl <| List.filterMap_nil) (by repeat first | exact Ext.refl _ | assumption | refine Ext.drew ?_ | refine Ext.alloc ?_ _ | refine Ext.setCell ?_ (by simp) | refine Ext.setCell ?_ (by simp; omega) | refine Ext.trans ?_ (by assumption)) ?_
                repeat (go_big_quiet_step ((fail)))
                refine wpQuiet_nil ?_
                refine rx_op 15 (k := 1) (m' := 65535) rfl rfl (by kernel_rfl) (by kernel_rfl) ?_
                go_wp2_with ((go_at_call 104; refine (IsBeforeAround_s _ _ _ _ _ _ _ q1 q2 q3).mono ?_; rw [← HPx.out]; rintro e w7 ⟨rfl, hb7⟩))
                refine rx_on (by repeat first | exact Ext.refl _ | assumption | refine Ext.drew ?_ | refine Ext.alloc ?_ _ | refine Ext.setCell ?_ (by simp) | refine Ext.setCell ?_ (by simp; omega) | refine Ext.trans ?_ (by assumption)) ?_
                refine rx_run (run := [16]) (k := 0) (m' := 131071) rfl (by kernel_rfl) (by kernel_rfl) (by kernel_rfl) (fm_cons rfl <| List.filterMap_nil) (by repeat first | exact Ext.refl _ | assumption | refine Ext.drew ?_ | refine Ext.alloc ?_ _ | refine Ext.setCell ?_ (by simp) | refine Ext.setCell ?_ (by simp; omega) | refine Ext.trans ?_ (by assumption)) ?_
                repeat (go_big_quiet_step ((fail)))
                refine wpQuiet_nil ?_
                refine rx_end (by kernel_rfl) ?_
                all_goals (go_wp2; go_meet; exact ⟨rfl, (by repeat first | exact Ext.refl _ | assumption | refine Ext.drew ?_ | refine Ext.alloc ?_ _ | refine Ext.setCell ?_ (by simp) | refine Ext.setCell ?_ (by simp; omega) | refine Ext.trans ?_ (by assumption))⟩)
              case rest =>
                obtain ⟨rfl, hb⟩ := hcut
                obtain ⟨w7, rfl⟩ : ∃ x : World, x = wc := ⟨_, rfl⟩
                have hx0 := hx0.trans hb
                have hxj := hxj.trans hb
                have k0 := hb.lit k0
                have k1 := hb.lit k1
                have c1 := hb.lit c1
                have hv := hv.ext hb
                clear hb
                obtain ⟨e1, e2⟩ := hv.cel (j := a + 1) (by rw [mid_len ha]; omega)
                by_cases hP : P j x = true
                · rw [hP]
                  have hset := hv.set_ (by rw [mid_len ha]) (a + 1) (x : Int)
                  rw [Hsh.out] at hset
                  have Hset := Lib.hid hset
                  have Hp2 : Hid (insPos P j l l.length = insPos P j l a) := Lib.hid (by rw [Hpos.out, Hps.out, if_pos hP])
                  clear hset hv
                  go_wp2
                  go_roundw
                  case rel => exact ⟨a, x, by omega, by first | rfl | go_num, Hset.out, Hp2.out, hxj.setCell (by simpa using hgB)⟩
                  case measure => first | (simp [intOf]; done) | (simp [intOf]; omega)
                · have hP' := eq_false_of_ne_true hP
                  have Hpos : Hid (insPos P j l l.length = a + 1) := Lib.hid (by rw [Hpos.out, Hps.out, if_neg hP])
                  rw [hP']
                  have hset := hv.set_ (by rw [mid_len ha]) (a + 1) (j : Int)
                  rw [mid_set ha, mid_ins Hpos.out] at hset
                  have Hset := Lib.hid hset
                  clear hset hv
                  go_wp2
                  go_roundw
                  case rel => exact ⟨j + 1, by omega, by go_num, .of (by rw [Hs.out]; exact Hset.out), hxj.setCell (by simpa using hgB)⟩
                  case measure => first | (simp [intOf]; done) | (simp [intOf]; omega)
      · have hs : arnN ns ls k (j + 1) = arnN ns ls k j := by
          show (if (dEnds ls j).1 = (k : Int) then _ else _) = _
          rw [if_neg (by rw [hft]; simp; omega)]
        have Hs := Lib.hid hs
        have hfk' : ((f : Int) != (k : Int)) = true := by simp; omega
        clear hs hft
        go_wp2
        go_roundw
        case rel => exact ⟨j + 1, by omega, by go_num, by rw [Hs.out]; exact hv, hxr⟩
        case measure => first | (simp [intOf]; done) | (simp [intOf]; omega)
    · obtain rfl : j = 2 * ls.length := by omega
      go_wp2
      go_ret
      exact ⟨_, rfl, by rw [HV.out]; exact hv.own (by omega), hx0⟩
end Go.Proofs.YtdhmjhoaegdfjaaGreat

namespace Go.Proofs.YtdhmjhoaegdfjaaGreat
open Go.RowKit Go.Sort Go.BigFrame

theorem dAt_len {ns ls : List P2} (h : WOk ns ls) (k : Int) : ∀ j, j ≤ ls.length → (dAt ls k (2 * j)).length = (lat ls k j).length
  | 0, _ => rfl
  | j + 1, hj => by
    have ih := dAt_len h k j (by omega)
    obtain ⟨hl, -, -⟩ := h.ld j (by omega)
    have e0 : dEnds ls (2 * j) = gp ls j := by
      unfold dEnds; rw [if_neg (by omega), show 2 * j / 2 = j by omega]
    have e1 : dEnds ls (2 * j + 1) = ((gp ls j).2, (gp ls j).1) := by
      unfold dEnds; rw [if_pos (by omega), show (2 * j + 1) / 2 = j by omega]
    have hs := lat_succ ls k j
    generalize gp ls j = L at *
    obtain ⟨p, q⟩ := L
    obtain ⟨i0, i1, rfl, rfl, hlt, -⟩ := lok_spec hl
    unfold dAt at *
    rw [show 2 * (j + 1) = 2 * j + 1 + 1 by omega, List.range_succ, List.range_succ, List.filter_append, List.filter_append, List.length_append, List.length_append, ih, hs]
    unfold atL
    by_cases a : (i0 : Int) = k
    · have b : ¬ (i1 : Int) = k := by omega
      simp [e0, e1, a, b]
    · by_cases b : (i1 : Int) = k
      · simp [e0, e1, a, b]
      · simp [e0, e1, a, b]
theorem arnd_len {ns ls : List P2} (h : WOk ns ls) (k : Nat) (hk : k < ns.length) : ((arnd ns ls k).length : Int) = degOf ns ls k := by
  have h1 : (arnd ns ls k).length = (lat ls k ls.length).length := by
    unfold arnd
    rw [(arnN_perm ns ls k _).length_eq, dAt_len h k _ (Nat.le_refl _)]
  have hh : hasN ns ls k = true := by
    simp only [hasN, wi, Bool.and_eq_true, decide_eq_true_eq]
    exact ⟨wok_iff.2 h, by omega, by omega⟩
  rw [h1]
  unfold degOf leadsAt
  rw [if_pos hh, if_pos hh]

end Go.Proofs.YtdhmjhoaegdfjaaGreat

namespace Go.Proofs.YtdhmjhoaegdfjaaGreat
open Go.RowKit Go.Sort Go.BigFrame

def vPartOf (ns ls : List P2) (k : Int) : List Int := if hasN ns ls k = true then partL ns.length ls k.toNat else []
theorem vPartOf_len (ns ls : List P2) (k : Int) : (vPartOf ns ls k).length ≤ 1000 := by
  unfold vPartOf
  split
  · rename_i h
    have := (hasN_ok h).1.hi
    have := partL_len ns.length ls k.toNat
    omega
  · simp

def prt (L : List Int) (k j : Nat) : List Int := ((List.range j).filter (fun i => decide (gi L (i : Nat) = gi L k))).map (fun i : Nat => (i : Int))
theorem prt_succ (L : List Int) (k j : Nat) : prt L k (j + 1) = if gi L j = gi L k then prt L k j ++ [(j : Int)] else prt L k j := by
  unfold prt
  rw [List.range_succ, List.filter_append]
  split
  · rename_i h; simp [h]
  · rename_i h; simp [h]
theorem prt_len (L : List Int) (k j : Nat) : (prt L k j).length ≤ j := by
  unfold prt
  rw [List.length_map]
  have := List.length_filter_le (fun i => decide (gi L (i : Nat) = gi L k)) (List.range j)
  rwa [List.length_range] at this

end Go.Proofs.YtdhmjhoaegdfjaaGreat

namespace Go.Proofs.YtdhmjhoaegdfjaaGreat
open Go.RowKit Go.Sort Go.BigFrame

def whole (ns ls : List P2) : Bool := wok ns ls && decide (0 < ls.length) && decide ((partL ns.length ls 0).length = ns.length)
theorem whole_ok {ns ls : List P2} (h : whole ns ls = true) : WOk ns ls ∧ 0 < ls.length := by
  simp only [whole, Bool.and_eq_true, decide_eq_true_eq] at h
  exact ⟨wok_iff.1 h.1.1, h.1.2⟩
theorem filter_all_iff {p : Nat → Bool} {n : Nat} : ((List.range n).filter p).length = n ↔ ∀ i, i < n → p i = true := by
  have h := List.length_filter_eq_length_iff (p := p) (l := List.range n)
  rw [List.length_range] at h
  rw [h]
  simp
theorem partL_all {n : Nat} {ls : List P2} (hv : Vd n ls) (hn : 0 < n) : (partL n ls 0).length = n ↔ ∀ i : Nat, i < n → gi (labs n ls) i = 0 := by
  obtain ⟨j, hj, hj0, -⟩ := (linv hv).lab 0 hn
  obtain rfl : j = 0 := by omega
  unfold partL
  rw [List.length_map, filter_all_iff]
  constructor
  · intro h i hi
    have := h i hi
    rw [decide_eq_true_eq, hj] at this
    simpa using this
  · intro h i hi
    rw [decide_eq_true_eq, hj, h i hi]; rfl

set_option maxRecDepth 100000 in
set_option maxHeartbeats 2000000 in
theorem IsWhole_i (A B : Option Addr) (c d : Nat) (ns ls : List P2) (w : World) (h : Wn w A c B d ns ls) :
    Calls Tryz.prog 35 #[.agg #[.slice A ns.length c, .slice B ls.length d]] w fun e w' => e = .returned (.bool (whole ns ls)) ∧ Ext w w' := by
  have HV : Hid (whole ns ls = (wok ns ls && decide (0 < ls.length) && decide ((partL ns.length ls 0).length = ns.length))) := Lib.hid rfl
  by_cases hw : wok ns ls = true
  · have HW := Lib.hid (wok_iff.1 hw)
    have hn0 := HW.out.lo
    by_cases hm : 0 < ls.length
    · have hm' : (0 : Int) < ls.length := by omega
      have hd : decide ((0 : Int) < (ls.length : Int)) = true := by simp; omega
      go_enter Tryz.func35, Tryz.ntmps35
      go_wp2_with fail
      have k0 : (w.alloc (.cells #[.slice A ns.length c, .slice B ls.length d] 27)).cell? ⟨w.heap.size, 0, none⟩ = some (.slice A ns.length c) := by go_simp
      have k1 : (w.alloc (.cells #[.slice A ns.length c, .slice B ls.length d] 27)).cell? ⟨w.heap.size, 1, none⟩ = some (.slice B ls.length d) := by go_simp
      have hx : Ext w (w.alloc (.cells #[.slice A ns.length c, .slice B ls.length d] 27)) := (by repeat first | exact Ext.refl _ | assumption | refine Ext.drew ?_ | refine Ext.alloc ?_ _ | refine Ext.setCell ?_ (by simp) | refine Ext.setCell ?_ (by simp; omega) | refine Ext.trans ?_ (by assumption))
      have hsz1 : w.heap.size + 1 = (w.alloc (.cells #[.slice A ns.length c, .slice B ls.length d] 27)).heap.size := by simp
      generalize (w.alloc (.cells #[.slice A ns.length c, .slice B ls.length d] 27)) = w1 at *
      (try rw [hsz1])
      have d0 := cell_regrown k0
      have d1 := cell_regrown k1
      refine rx_open [(true, 0, some 3, 2), (false, 1, some 4, 8), (true, 2, some 5, 16), (true, 4, some 6, 34), (true, 12, some 7, 96), (true, 20, some 8, 160), (true, 36, some 9, 288), (true, 68, some 10, 544), (true, 132, some 11, 1024), (true, 256, some 12, 2050), (false, 768, some 13, 6144), (true, 1280, some 14, 10240), (true, 256, some 15, 2050), (true, 4352, some 16, 34816), (true, 8448, some 17, 67584), (true, 18688, some 18, 149504), (true, 33024, some 19, 264192), (true, 131071, some 2, 524288)] 0 18 mixd rfl (by kernel_rfl) (by kernel_rfl) (by kernel_rfl) ?_
      refine rx_run (run := [0]) (k := 17) (m' := 1) rfl (by kernel_rfl) (by kernel_rfl) (by kernel_rfl) (fm_cons rfl <| List.filterMap_nil) (by repeat first | exact Ext.refl _ | assumption | refine Ext.drew ?_ | refine Ext.alloc ?_ _ | refine Ext.setCell ?_ (by simp) | refine Ext.setCell ?_ (by simp; omega) | refine Ext.trans ?_ (by assumption)) ?_
      repeat (go_big_quiet_step ((fail)))
      refine wpQuiet_nil ?_
      refine rx_op 1 (k := 16) (m' := 3) rfl rfl (by kernel_rfl) (by kernel_rfl) ?_
      go_wp2_with (first | (go_at_call 57; refine (WindowOk_i' (h.ext (hx.trans (by repeat first | exact Ext.refl _ | assumption | refine Ext.drew ?_ | refine Ext.alloc ?_ _ | refine Ext.setCell ?_ (by simp) | refine Ext.setCell ?_ (by simp; omega) | refine Ext.trans ?_ (by assumption))))).mono ?_; rw [hw]; rintro e w5 ⟨rfl, hb5⟩) | (go_at_call 58; refine (partOf_c' (k := 0) (h.ext (hx.trans (by repeat first | exact Ext.refl _ | assumption | refine Ext.drew ?_ | refine Ext.alloc ?_ _ | refine Ext.setCell ?_ (by simp) | refine Ext.setCell ?_ (by simp; omega) | refine Ext.trans ?_ (by assumption)))) HW.out (by omega)).mono ?_; rintro e w6 ⟨v, rfl, hv, hb6⟩; obtain ⟨A1, c1, rfl, -, -, -⟩ := hv.shape))
      refine rx_on (by repeat first | exact Ext.refl _ | assumption | refine Ext.drew ?_ | refine Ext.alloc ?_ _ | refine Ext.setCell ?_ (by simp) | refine Ext.setCell ?_ (by simp; omega) | refine Ext.trans ?_ (by assumption)) ?_
      refine rx_run (run := [2, 3, 4, 5, 6, 7, 8, 9, 12, 13, 14]) (k := 5) (m' := 29695) rfl (by kernel_rfl) (by kernel_rfl) (by kernel_rfl) (fm_cons rfl <| fm_cons rfl <| fm_cons rfl <| fm_cons rfl <| fm_cons rfl <| fm_cons rfl <| fm_cons rfl <| fm_cons rfl <| fm_cons rfl <| fm_cons rfl <| fm_cons rfl <| List.filterMap_nil) (by repeat first | exact Ext.refl _ | assumption | refine Ext.drew ?_ | refine Ext.alloc ?_ _ | refine Ext.setCell ?_ (by simp) | refine Ext.setCell ?_ (by simp; omega) | refine Ext.trans ?_ (by assumption)) ?_
      repeat (go_big_quiet_step ((fail)))
      refine wpQuiet_nil ?_
      refine rx_op 10 (k := 4) (m' := 30719) rfl rfl (by kernel_rfl) (by kernel_rfl) ?_
      go_wp2_with (first | (go_at_call 57; refine (WindowOk_i' (h.ext (hx.trans (by repeat first | exact Ext.refl _ | assumption | refine Ext.drew ?_ | refine Ext.alloc ?_ _ | refine Ext.setCell ?_ (by simp) | refine Ext.setCell ?_ (by simp; omega) | refine Ext.trans ?_ (by assumption))))).mono ?_; rw [hw]; rintro e w5 ⟨rfl, hb5⟩) | (go_at_call 58; refine (partOf_c' (k := 0) (h.ext (hx.trans (by repeat first | exact Ext.refl _ | assumption | refine Ext.drew ?_ | refine Ext.alloc ?_ _ | refine Ext.setCell ?_ (by simp) | refine Ext.setCell ?_ (by simp; omega) | refine Ext.trans ?_ (by assumption)))) HW.out (by omega)).mono ?_; rintro e w6 ⟨v, rfl, hv, hb6⟩; obtain ⟨A1, c1, rfl, -, -, -⟩ := hv.shape))
      refine rx_on (by repeat first | exact Ext.refl _ | assumption | refine Ext.drew ?_ | refine Ext.alloc ?_ _ | refine Ext.setCell ?_ (by simp) | refine Ext.setCell ?_ (by simp; omega) | refine Ext.trans ?_ (by assumption)) ?_
      refine rx_run (run := [11, 15, 16, 17]) (k := 0) (m' := 262143) rfl (by kernel_rfl) (by kernel_rfl) (by kernel_rfl) (fm_cons rfl <| fm_cons rfl <| fm_cons rfl <| fm_cons rfl <| List.filterMap_nil) (by repeat first | exact Ext.refl _ | assumption | refine Ext.drew ?_ | refine Ext.alloc ?_ _ | refine Ext.setCell ?_ (by simp) | refine Ext.setCell ?_ (by simp; omega) | refine Ext.trans ?_ (by assumption)) ?_
      repeat (go_big_quiet_step ((fail)))
      refine wpQuiet_nil ?_
      refine rx_end (by kernel_rfl) ?_
      all_goals (go_wp2; go_ret; exact ⟨ret_b (by rw [HV.out, hw]; simp [hm]; rw [Bool.eq_iff_iff, beq_iff_eq, decide_eq_true_eq]; exact ⟨fun hq => Int.ofNat.inj hq, fun hq => by rw [hq]⟩), hx.trans (by repeat first | exact Ext.refl _ | assumption | refine Ext.drew ?_ | refine Ext.alloc ?_ _ | refine Ext.setCell ?_ (by simp) | refine Ext.setCell ?_ (by simp; omega) | refine Ext.trans ?_ (by assumption))⟩)
    · have hd : decide ((0 : Int) < (ls.length : Int)) = false := decide_eq_false (by omega)
      go_enter Tryz.func35, Tryz.ntmps35
      go_wp2_with fail
      have k0 : (w.alloc (.cells #[.slice A ns.length c, .slice B ls.length d] 27)).cell? ⟨w.heap.size, 0, none⟩ = some (.slice A ns.length c) := by go_simp
      have k1 : (w.alloc (.cells #[.slice A ns.length c, .slice B ls.length d] 27)).cell? ⟨w.heap.size, 1, none⟩ = some (.slice B ls.length d) := by go_simp
      have hx : Ext w (w.alloc (.cells #[.slice A ns.length c, .slice B ls.length d] 27)) := (by repeat first | exact Ext.refl _ | assumption | refine Ext.drew ?_ | refine Ext.alloc ?_ _ | refine Ext.setCell ?_ (by simp) | refine Ext.setCell ?_ (by simp; omega) | refine Ext.trans ?_ (by assumption))
      have hsz1 : w.heap.size + 1 = (w.alloc (.cells #[.slice A ns.length c, .slice B ls.length d] 27)).heap.size := by simp
      generalize (w.alloc (.cells #[.slice A ns.length c, .slice B ls.length d] 27)) = w1 at *
      (try rw [hsz1])
      have d0 := cell_regrown k0
      have d1 := cell_regrown k1
      refine rx_open [(true, 0, some 3, 2), (false, 1, some 4, 8), (true, 2, some 5, 16), (true, 4, some 6, 34), (true, 12, some 7, 96), (true, 20, some 8, 160), (true, 36, some 9, 288), (true, 68, some 10, 544), (true, 132, some 11, 1024), (true, 256, some 12, 2050), (false, 768, some 13, 6144), (true, 1280, some 14, 10240), (true, 256, some 15, 2050), (true, 4352, some 16, 34816), (true, 8448, some 17, 67584), (true, 18688, some 18, 149504), (true, 33024, some 19, 264192), (true, 131071, some 2, 524288)] 0 18 mixd rfl (by kernel_rfl) (by kernel_rfl) (by kernel_rfl) ?_
      refine rx_run (run := [0]) (k := 17) (m' := 1) rfl (by kernel_rfl) (by kernel_rfl) (by kernel_rfl) (fm_cons rfl <| List.filterMap_nil) (by repeat first | exact Ext.refl _ | assumption | refine Ext.drew ?_ | refine Ext.alloc ?_ _ | refine Ext.setCell ?_ (by simp) | refine Ext.setCell ?_ (by simp; omega) | refine Ext.trans ?_ (by assumption)) ?_
      repeat (go_big_quiet_step ((fail)))
      refine wpQuiet_nil ?_
      refine rx_op 1 (k := 16) (m' := 3) rfl rfl (by kernel_rfl) (by kernel_rfl) ?_
      go_wp2_with (first | (go_at_call 57; refine (WindowOk_i' (h.ext (hx.trans (by repeat first | exact Ext.refl _ | assumption | refine Ext.drew ?_ | refine Ext.alloc ?_ _ | refine Ext.setCell ?_ (by simp) | refine Ext.setCell ?_ (by simp; omega) | refine Ext.trans ?_ (by assumption))))).mono ?_; rw [hw]; rintro e w5 ⟨rfl, hb5⟩))
      refine rx_on (by repeat first | exact Ext.refl _ | assumption | refine Ext.drew ?_ | refine Ext.alloc ?_ _ | refine Ext.setCell ?_ (by simp) | refine Ext.setCell ?_ (by simp; omega) | refine Ext.trans ?_ (by assumption)) ?_
      refine rx_run (run := [2, 3, 4, 5, 6, 7, 8, 9, 12, 13, 14]) (k := 5) (m' := 29695) rfl (by kernel_rfl) (by kernel_rfl) (by kernel_rfl) (fm_cons rfl <| fm_cons rfl <| fm_cons rfl <| fm_cons rfl <| fm_cons rfl <| fm_cons rfl <| fm_cons rfl <| fm_cons rfl <| fm_cons rfl <| fm_cons rfl <| fm_cons rfl <| List.filterMap_nil) (by repeat first | exact Ext.refl _ | assumption | refine Ext.drew ?_ | refine Ext.alloc ?_ _ | refine Ext.setCell ?_ (by simp) | refine Ext.setCell ?_ (by simp; omega) | refine Ext.trans ?_ (by assumption)) ?_
      repeat (go_big_quiet_step ((fail)))
      refine wpQuiet_nil ?_
      refine rx_op 10 (k := 4) (m' := 30719) rfl rfl (by kernel_rfl) (by kernel_rfl) ?_
      go_wp2_with (first | (go_at_call 57; refine (WindowOk_i' (h.ext (hx.trans (by repeat first | exact Ext.refl _ | assumption | refine Ext.drew ?_ | refine Ext.alloc ?_ _ | refine Ext.setCell ?_ (by simp) | refine Ext.setCell ?_ (by simp; omega) | refine Ext.trans ?_ (by assumption))))).mono ?_; rw [hw]; rintro e w5 ⟨rfl, hb5⟩))
      refine rx_on (by repeat first | exact Ext.refl _ | assumption | refine Ext.drew ?_ | refine Ext.alloc ?_ _ | refine Ext.setCell ?_ (by simp) | refine Ext.setCell ?_ (by simp; omega) | refine Ext.trans ?_ (by assumption)) ?_
      refine rx_run (run := [11, 15, 16, 17]) (k := 0) (m' := 262143) rfl (by kernel_rfl) (by kernel_rfl) (by kernel_rfl) (fm_cons rfl <| fm_cons rfl <| fm_cons rfl <| fm_cons rfl <| List.filterMap_nil) (by repeat first | exact Ext.refl _ | assumption | refine Ext.drew ?_ | refine Ext.alloc ?_ _ | refine Ext.setCell ?_ (by simp) | refine Ext.setCell ?_ (by simp; omega) | refine Ext.trans ?_ (by assumption)) ?_
      repeat (go_big_quiet_step ((fail)))
      refine wpQuiet_nil ?_
      refine rx_end (by kernel_rfl) ?_
      all_goals (go_wp2; go_ret; exact ⟨ret_b (by rw [HV.out, hw]; simp [hm]), hx.trans (by repeat first | exact Ext.refl _ | assumption | refine Ext.drew ?_ | refine Ext.alloc ?_ _ | refine Ext.setCell ?_ (by simp) | refine Ext.setCell ?_ (by simp; omega) | refine Ext.trans ?_ (by assumption))⟩)
  · have hw' := eq_false_of_ne_true hw
    go_enter Tryz.func35, Tryz.ntmps35
    go_wp2_with fail
    have k0 : (w.alloc (.cells #[.slice A ns.length c, .slice B ls.length d] 27)).cell? ⟨w.heap.size, 0, none⟩ = some (.slice A ns.length c) := by go_simp
    have k1 : (w.alloc (.cells #[.slice A ns.length c, .slice B ls.length d] 27)).cell? ⟨w.heap.size, 1, none⟩ = some (.slice B ls.length d) := by go_simp
    have hx : Ext w (w.alloc (.cells #[.slice A ns.length c, .slice B ls.length d] 27)) := (by repeat first | exact Ext.refl _ | assumption | refine Ext.drew ?_ | refine Ext.alloc ?_ _ | refine Ext.setCell ?_ (by simp) | refine Ext.setCell ?_ (by simp; omega) | refine Ext.trans ?_ (by assumption))
    have hsz1 : w.heap.size + 1 = (w.alloc (.cells #[.slice A ns.length c, .slice B ls.length d] 27)).heap.size := by simp
    generalize (w.alloc (.cells #[.slice A ns.length c, .slice B ls.length d] 27)) = w1 at *
    (try rw [hsz1])
    have d0 := cell_regrown k0
    have d1 := cell_regrown k1
    refine rx_open [(true, 0, some 3, 2), (false, 1, some 4, 8), (true, 2, some 5, 16), (true, 4, some 6, 34), (true, 12, some 7, 96), (true, 20, some 8, 160), (true, 36, some 9, 288), (true, 68, some 10, 544), (true, 132, some 11, 1024), (true, 256, some 12, 2050), (false, 768, some 13, 6144), (true, 1280, some 14, 10240), (true, 256, some 15, 2050), (true, 4352, some 16, 34816), (true, 8448, some 17, 67584), (true, 18688, some 18, 149504), (true, 33024, some 19, 264192), (true, 131071, some 2, 524288)] 0 18 mixd rfl (by kernel_rfl) (by kernel_rfl) (by kernel_rfl) ?_
    refine rx_run (run := [0]) (k := 17) (m' := 1) rfl (by kernel_rfl) (by kernel_rfl) (by kernel_rfl) (fm_cons rfl <| List.filterMap_nil) (by repeat first | exact Ext.refl _ | assumption | refine Ext.drew ?_ | refine Ext.alloc ?_ _ | refine Ext.setCell ?_ (by simp) | refine Ext.setCell ?_ (by simp; omega) | refine Ext.trans ?_ (by assumption)) ?_
    repeat (go_big_quiet_step ((fail)))
    refine wpQuiet_nil ?_
    refine rx_op 1 (k := 16) (m' := 3) rfl rfl (by kernel_rfl) (by kernel_rfl) ?_
    go_wp2_with (first | (go_at_call 57; refine (WindowOk_i' (h.ext (hx.trans (by repeat first | exact Ext.refl _ | assumption | refine Ext.drew ?_ | refine Ext.alloc ?_ _ | refine Ext.setCell ?_ (by simp) | refine Ext.setCell ?_ (by simp; omega) | refine Ext.trans ?_ (by assumption))))).mono ?_; rw [hw']; rintro e w5 ⟨rfl, hb5⟩))
    refine rx_on (by repeat first | exact Ext.refl _ | assumption | refine Ext.drew ?_ | refine Ext.alloc ?_ _ | refine Ext.setCell ?_ (by simp) | refine Ext.setCell ?_ (by simp; omega) | refine Ext.trans ?_ (by assumption)) ?_
    refine rx_run (run := [2, 3, 4, 5, 6, 7, 8, 9, 12, 13, 14]) (k := 5) (m' := 29695) rfl (by kernel_rfl) (by kernel_rfl) (by kernel_rfl) (fm_cons rfl <| fm_cons rfl <| fm_cons rfl <| fm_cons rfl <| fm_cons rfl <| fm_cons rfl <| fm_cons rfl <| fm_cons rfl <| fm_cons rfl <| fm_cons rfl <| fm_cons rfl <| List.filterMap_nil) (by repeat first | exact Ext.refl _ | assumption | refine Ext.drew ?_ | refine Ext.alloc ?_ _ | refine Ext.setCell ?_ (by simp) | refine Ext.setCell ?_ (by simp; omega) | refine Ext.trans ?_ (by assumption)) ?_
    repeat (go_big_quiet_step ((fail)))
    refine wpQuiet_nil ?_
    refine rx_op 10 (k := 4) (m' := 30719) rfl rfl (by kernel_rfl) (by kernel_rfl) ?_
    go_wp2_with (first | (go_at_call 57; refine (WindowOk_i' (h.ext (hx.trans (by repeat first | exact Ext.refl _ | assumption | refine Ext.drew ?_ | refine Ext.alloc ?_ _ | refine Ext.setCell ?_ (by simp) | refine Ext.setCell ?_ (by simp; omega) | refine Ext.trans ?_ (by assumption))))).mono ?_; rw [hw']; rintro e w5 ⟨rfl, hb5⟩))
    refine rx_on (by repeat first | exact Ext.refl _ | assumption | refine Ext.drew ?_ | refine Ext.alloc ?_ _ | refine Ext.setCell ?_ (by simp) | refine Ext.setCell ?_ (by simp; omega) | refine Ext.trans ?_ (by assumption)) ?_
    refine rx_run (run := [11, 15, 16, 17]) (k := 0) (m' := 262143) rfl (by kernel_rfl) (by kernel_rfl) (by kernel_rfl) (fm_cons rfl <| fm_cons rfl <| fm_cons rfl <| fm_cons rfl <| List.filterMap_nil) (by repeat first | exact Ext.refl _ | assumption | refine Ext.drew ?_ | refine Ext.alloc ?_ _ | refine Ext.setCell ?_ (by simp) | refine Ext.setCell ?_ (by simp; omega) | refine Ext.trans ?_ (by assumption)) ?_
    repeat (go_big_quiet_step ((fail)))
    refine wpQuiet_nil ?_
    refine rx_end (by kernel_rfl) ?_
    all_goals (go_wp2; go_ret; exact ⟨ret_b (by rw [HV.out, hw']; simp), hx.trans (by repeat first | exact Ext.refl _ | assumption | refine Ext.drew ?_ | refine Ext.alloc ?_ _ | refine Ext.setCell ?_ (by simp) | refine Ext.setCell ?_ (by simp; omega) | refine Ext.trans ?_ (by assumption))⟩)

set_option maxRecDepth 100000 in
set_option maxHeartbeats 2000000 in
theorem IsWhole_s (A B : Option Addr) (c d : Nat) (ns ls : List P2) (w : World) (h : Wn w A c B d ns ls) :
    Calls Tryz.prog 29 #[.agg #[.slice A ns.length c, .slice B ls.length d]] w fun e w' => e = .returned (.bool (whole ns ls)) ∧ Ext w w' := by
  have HV : Hid (whole ns ls = (wok ns ls && decide (0 < ls.length) && decide ((partL ns.length ls 0).length = ns.length))) := Lib.hid rfl
  have hml := h.hm
  by_cases hw : wok ns ls = true
  · have HW := Lib.hid (wok_iff.1 hw)
    have hn0 := HW.out.lo
    by_cases hm : 0 < ls.length
    · have hm' : ((ls.length : Int) == 0) = false := beq_eq_false_iff_ne.2 (by omega)
      have hn := HW.out.hi
      go_enter Tryz.func29, Tryz.ntmps29
      go_wp2_with fail
      have k0 : (w.alloc (.cells #[.slice A ns.length c, .slice B ls.length d] 27)).cell? ⟨w.heap.size, 0, none⟩ = some (.slice A ns.length c) := by go_simp
      have k1 : (w.alloc (.cells #[.slice A ns.length c, .slice B ls.length d] 27)).cell? ⟨w.heap.size, 1, none⟩ = some (.slice B ls.length d) := by go_simp
      have hx : Ext w (w.alloc (.cells #[.slice A ns.length c, .slice B ls.length d] 27)) := (by repeat first | exact Ext.refl _ | assumption | refine Ext.drew ?_ | refine Ext.alloc ?_ _ | refine Ext.setCell ?_ (by simp) | refine Ext.setCell ?_ (by simp; omega) | refine Ext.trans ?_ (by assumption))
      have hsz1 : w.heap.size + 1 = (w.alloc (.cells #[.slice A ns.length c, .slice B ls.length d] 27)).heap.size := by simp
      generalize (w.alloc (.cells #[.slice A ns.length c, .slice B ls.length d] 27)) = w0 at *
      (try rw [hsz1])
      refine (WindowOk_s' (h.ext hx)).mono ?_
      rintro e w1 ⟨rfl, hb⟩
      have k0 := hb.lit k0
      have k1 := hb.lit k1
      have hx := hx.trans hb
      clear hb
      rw [hw]
      go_wp2_with fail
      refine (l07Parts_c' (h.ext hx) HW.out).mono ?_
      rintro e w2 ⟨v, rfl, hv, hb⟩
      have HLl : Hid ((labs ns.length ls).length = ns.length) := Lib.hid (linv (vd_of_ok HW.out)).len
      have HA : Hid ((partL ns.length ls 0).length = ns.length ↔ ∀ i : Nat, i < ns.length → gi (labs ns.length ls) i = 0) := Lib.hid (partL_all (vd_of_ok HW.out) hn0)
      have hx := hx.trans hb
      clear hb k0 k1
      generalize labs ns.length ls = L at *
      obtain ⟨g, cp, rfl, hcap, hgB, hgw, -, -⟩ := hv.gi_ (j := 0) (by rw [HLl.out]; omega)
      rw [HLl.out]
      rw [HLl.out] at hv
      go_wp2_with fail
      go_loop [4] (fun i => ∃ j : Nat, j ≤ ns.length ∧ i = .int .i64 j ∧ Hid (∀ i : Nat, i < j → gi L i = 0)) (fun i => ns.length - (intOf i).toNat)
      case atStart => exact ⟨0, by omega, rfl, Lib.hid (fun i hi => by omega)⟩
      case round =>
        obtain ⟨j, hj, rfl, ha⟩ := hrel
        by_cases hlt : j < ns.length
        · have c1 := (hv.cel (j := j) (by rw [HLl.out]; omega)).1
          by_cases hz : gi L j = 0
          · have hz' : (gi L j != 0) = false := by simp [hz]
            have Hz := Lib.hid hz
            clear hz
            go_wp2
            go_round
            case rel => exact ⟨j + 1, by omega, by go_num, Lib.hid (fun i hi => by
              rcases Nat.lt_succ_iff_lt_or_eq.1 hi with h | h
              · exact ha.out i h
              · subst h; exact Hz.out)⟩
            case measure => simp [intOf]; omega
          · have hz' : (gi L j != 0) = true := by simp [hz]
            go_wp2
            go_ret
            refine ⟨ret_b ?_, hx⟩
            rw [HV.out, hw]
            symm
            simp only [hm, decide_true, Bool.true_and, decide_eq_false_iff_not]
            exact fun e => hz (HA.out.1 e j hlt)
        · obtain rfl : j = ns.length := by omega
          go_wp2
          go_ret
          refine ⟨ret_b ?_, hx⟩
          rw [HV.out, hw]
          symm
          simp only [hm, decide_true, Bool.true_and, decide_eq_true_eq]
          exact HA.out.2 ha.out
    · have hm' : ((ls.length : Int) == 0) = true := beq_iff_eq.2 (by omega)
      go_enter Tryz.func29, Tryz.ntmps29
      go_wp2_with fail
      have k0 : (w.alloc (.cells #[.slice A ns.length c, .slice B ls.length d] 27)).cell? ⟨w.heap.size, 0, none⟩ = some (.slice A ns.length c) := by go_simp
      have k1 : (w.alloc (.cells #[.slice A ns.length c, .slice B ls.length d] 27)).cell? ⟨w.heap.size, 1, none⟩ = some (.slice B ls.length d) := by go_simp
      have hx : Ext w (w.alloc (.cells #[.slice A ns.length c, .slice B ls.length d] 27)) := (by repeat first | exact Ext.refl _ | assumption | refine Ext.drew ?_ | refine Ext.alloc ?_ _ | refine Ext.setCell ?_ (by simp) | refine Ext.setCell ?_ (by simp; omega) | refine Ext.trans ?_ (by assumption))
      have hsz1 : w.heap.size + 1 = (w.alloc (.cells #[.slice A ns.length c, .slice B ls.length d] 27)).heap.size := by simp
      generalize (w.alloc (.cells #[.slice A ns.length c, .slice B ls.length d] 27)) = w0 at *
      (try rw [hsz1])
      refine (WindowOk_s' (h.ext hx)).mono ?_
      rintro e w1 ⟨rfl, hb⟩
      have k0 := hb.lit k0
      have k1 := hb.lit k1
      have hx := hx.trans hb
      clear hb
      rw [hw]
      go_wp2
      go_ret
      exact ⟨ret_b (by rw [HV.out, hw]; simp [hm]), hx⟩
  · have hw' := eq_false_of_ne_true hw
    go_enter Tryz.func29, Tryz.ntmps29
    go_wp2_with fail
    have k0 : (w.alloc (.cells #[.slice A ns.length c, .slice B ls.length d] 27)).cell? ⟨w.heap.size, 0, none⟩ = some (.slice A ns.length c) := by go_simp
    have k1 : (w.alloc (.cells #[.slice A ns.length c, .slice B ls.length d] 27)).cell? ⟨w.heap.size, 1, none⟩ = some (.slice B ls.length d) := by go_simp
    have hx : Ext w (w.alloc (.cells #[.slice A ns.length c, .slice B ls.length d] 27)) := (by repeat first | exact Ext.refl _ | assumption | refine Ext.drew ?_ | refine Ext.alloc ?_ _ | refine Ext.setCell ?_ (by simp) | refine Ext.setCell ?_ (by simp; omega) | refine Ext.trans ?_ (by assumption))
    have hsz1 : w.heap.size + 1 = (w.alloc (.cells #[.slice A ns.length c, .slice B ls.length d] 27)).heap.size := by simp
    generalize (w.alloc (.cells #[.slice A ns.length c, .slice B ls.length d] 27)) = w0 at *
    (try rw [hsz1])
    refine (WindowOk_s' (h.ext hx)).mono ?_
    rintro e w1 ⟨rfl, hb⟩
    have k0 := hb.lit k0
    have k1 := hb.lit k1
    have hx := hx.trans hb
    clear hb
    rw [hw']
    go_wp2
    go_ret
    exact ⟨ret_b (by rw [HV.out, hw']; simp), hx⟩
end Go.Proofs.YtdhmjhoaegdfjaaGreat
