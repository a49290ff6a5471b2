import Derived.Test.YtdhmjhoaegdfjaaGreatG2
import Derived.Deep.DeepCutAuto
import Derived.Lib.Hide
namespace Go.Proofs.YtdhmjhoaegdfjaaGreat
open Go.RowKit Go.Sort Go.BigFrame

set_option maxRecDepth 100000 in
set_option maxHeartbeats 4000000 in
theorem DoCross_i (A : Option Addr) (c : Nat) (ns : List (Int × Int)) (p q r s : Int) (w : World) (hl : ns.length ≤ 2000000) (h : Pr w w.heap.size A ns) :
    Calls Tryz.prog 78 #[.slice A ns.length c, .agg #[.int .i64 p, .int .i64 q], .agg #[.int .i64 r, .int .i64 s]] w fun e w' => e = .returned (.bool (dox ns (p, q) (r, s))) ∧ Ext w w' := by
  by_cases h1 : lok ns (p, q) = true
  · by_cases h2 : lok ns (r, s) = true
    · obtain ⟨i, j, rfl, rfl, hij, hi, hj, n1, n2, -⟩ := lok_spec h1
      obtain ⟨k, m, rfl, rfl, hkm, hk, hm, n3, n4, -⟩ := lok_spec h2
      go_enter Tryz.func78, Tryz.ntmps78
      go_wp2_with fail
      refine (LeadOk_i A c ns _ _ _ hl (h.ext (by repeat first | exact Ext.refl _ | assumption | refine Ext.drew ?_ | refine Ext.alloc ?_ _ | refine Ext.setCell ?_ (by simp) | refine Ext.setCell ?_ (by simp; omega) | refine Ext.trans ?_ (by assumption)))).mono ?_
      rintro e w1 ⟨rfl, hb⟩
      have k0 := hb.lit (b := w.heap.size) (o := 0) (v := .int .i64 i) (by go_simp)
      have k1 := hb.lit (b := w.heap.size) (o := 1) (v := .int .i64 j) (by go_simp)
      have k2 := hb.lit (b := w.heap.size + 1) (o := 0) (v := .int .i64 k) (by go_simp)
      have k3 := hb.lit (b := w.heap.size + 1) (o := 1) (v := .int .i64 m) (by go_simp)
      have hx : Ext w w1 := (by repeat first | exact Ext.refl _ | assumption | refine Ext.drew ?_ | refine Ext.alloc ?_ _ | refine Ext.setCell ?_ (by simp) | refine Ext.setCell ?_ (by simp; omega) | refine Ext.trans ?_ (by assumption))
      rw [h1]
      clear hb
      go_wp2_with fail
      refine (LeadOk_i A c ns _ _ _ hl (h.ext hx)).mono ?_
      rintro e w2 ⟨rfl, hb⟩
      have k0 := hb.lit k0
      have k1 := hb.lit k1
      have k2 := hb.lit k2
      have k3 := hb.lit k3
      have hx := hx.trans hb
      rw [h2]
      clear hb
      obtain ⟨b, off, rfl, hbb, c1, c2⟩ := (h.ext hx).gp_ hi
      obtain ⟨b', off', he, hbb', c3, c4⟩ := (h.ext hx).gp_ hj
      obtain ⟨rfl, rfl⟩ : b = b' ∧ off = off' := by simpa using he
      clear he hbb'
      obtain ⟨b', off', he, hbb', c5, c6⟩ := (h.ext hx).gp_ hk
      obtain ⟨rfl, rfl⟩ : b = b' ∧ off = off' := by simpa using he
      clear he hbb'
      obtain ⟨b', off', he, hbb', c7, c8⟩ := (h.ext hx).gp_ hm
      obtain ⟨rfl, rfl⟩ : b = b' ∧ off = off' := by simpa using he
      clear he hbb'
      have hbs := hx.size
      go_upto_region 3 with fail
      go_cut [7, 8] (fun s7 s8 wx => ∃ g7 g8, s7 = .pointer (some ⟨g7, 0, none⟩) ∧ s8 = .pointer (some ⟨g8, 0, none⟩) ∧ wx.cell? ⟨g7, 0, none⟩ = some (.int .i64 (gp ns i).1) ∧ wx.cell? ⟨g7, 1, none⟩ = some (.int .i64 (gp ns i).2) ∧ wx.cell? ⟨g8, 0, none⟩ = some (.int .i64 (gp ns j).1) ∧ wx.cell? ⟨g8, 1, none⟩ = some (.int .i64 (gp ns j).2) ∧ Ext w2 wx)
      case first =>
        have d0 := cell_regrown k0
        have d1 := cell_regrown k1
        have d2 := cell_regrown c1
        have d3 := cell_regrown c2
        have d4 := cell_regrown c3
        have d5 := cell_regrown c4
        refine rx_open [(true, 0, some 21, 1), (true, 0, some 22, 16), (true, 2, some 23, 4194304), (true, 5, some 24, 10485760), (true, 8, some 25, 16777216), (true, 0, some 26, 1), (true, 0, some 27, 16), (true, 64, some 28, 134217728), (true, 160, some 29, 335544320), (true, 256, some 30, 536870912), (false, 0, some 7, 0), (false, 0, some 8, 0), (false, 3103, none, 33554560), (false, 8191, none, 1073742080)] 8192 14 mixd rfl (by kernel_rfl) (by kernel_rfl) (by kernel_rfl) ?_
        refine rx_run (run := [0, 1, 2, 3, 4, 5, 6, 7, 8, 9]) (k := 4) (m' := 1023) rfl (by kernel_rfl) (by kernel_rfl) (by kernel_rfl) (fm_cons rfl <| fm_cons rfl <| fm_cons rfl <| fm_cons rfl <| fm_cons rfl <| fm_cons rfl <| fm_cons rfl <| fm_cons rfl <| fm_cons rfl <| fm_cons rfl <| List.filterMap_nil) (by repeat first | exact Ext.refl _ | assumption | refine Ext.drew ?_ | refine Ext.alloc ?_ _ | refine Ext.setCell ?_ (by simp) | refine Ext.setCell ?_ (by simp; omega) | refine Ext.trans ?_ (by assumption)) ?_
        repeat (go_big_quiet_step ((fail)))
        refine wpQuiet_nil ?_
        refine rx_two 10 11 (k := 3) (mi := 2047) (mj := 3071) rfl rfl rfl (by kernel_rfl) (by kernel_rfl) (by kernel_rfl) ?_ ?_
        go_wp2
        refine rx_on (by repeat first | exact Ext.refl _ | assumption | refine Ext.drew ?_ | refine Ext.alloc ?_ _ | refine Ext.setCell ?_ (by simp) | refine Ext.setCell ?_ (by simp; omega) | refine Ext.trans ?_ (by assumption)) ?_
        refine rx_op 11 (k := 2) (m' := 4095) rfl rfl (by kernel_rfl) (by kernel_rfl) ?_
        go_wp2
        refine rx_on (by repeat first | exact Ext.refl _ | assumption | refine Ext.drew ?_ | refine Ext.alloc ?_ _ | refine Ext.setCell ?_ (by simp) | refine Ext.setCell ?_ (by simp; omega) | refine Ext.trans ?_ (by assumption)) ?_
        refine rx_op 12 (k := 1) (m' := 8191) rfl rfl (by kernel_rfl) (by kernel_rfl) ?_
        go_wp2
        refine rx_on (by repeat first | exact Ext.refl _ | assumption | refine Ext.drew ?_ | refine Ext.alloc ?_ _ | refine Ext.setCell ?_ (by simp) | refine Ext.setCell ?_ (by simp; omega) | refine Ext.trans ?_ (by assumption)) ?_
        refine rx_op 13 (k := 0) (m' := 16383) rfl rfl (by kernel_rfl) (by kernel_rfl) ?_
        go_wp2
        refine rx_lst (by decide) ?_
        refine rx_end (by kernel_rfl) ?_
        rotate_left
        go_wp2
        refine rx_on (by repeat first | exact Ext.refl _ | assumption | refine Ext.drew ?_ | refine Ext.alloc ?_ _ | refine Ext.setCell ?_ (by simp) | refine Ext.setCell ?_ (by simp; omega) | refine Ext.trans ?_ (by assumption)) ?_
        refine rx_op 10 (k := 2) (m' := 4095) rfl rfl (by kernel_rfl) (by kernel_rfl) ?_
        go_wp2
        refine rx_on (by repeat first | exact Ext.refl _ | assumption | refine Ext.drew ?_ | refine Ext.alloc ?_ _ | refine Ext.setCell ?_ (by simp) | refine Ext.setCell ?_ (by simp; omega) | refine Ext.trans ?_ (by assumption)) ?_
        refine rx_op 12 (k := 1) (m' := 8191) rfl rfl (by kernel_rfl) (by kernel_rfl) ?_
        go_wp2
        refine rx_on (by repeat first | exact Ext.refl _ | assumption | refine Ext.drew ?_ | refine Ext.alloc ?_ _ | refine Ext.setCell ?_ (by simp) | refine Ext.setCell ?_ (by simp; omega) | refine Ext.trans ?_ (by assumption)) ?_
        refine rx_op 13 (k := 0) (m' := 16383) rfl rfl (by kernel_rfl) (by kernel_rfl) ?_
        go_wp2
        refine rx_lst (by decide) ?_
        refine rx_end (by kernel_rfl) ?_
        rotate_left
        all_goals (go_wp2; go_meet; exact ⟨_, _, rfl, rfl, by go_simp, by go_simp, by go_simp, by go_simp, (by repeat first | exact Ext.refl _ | assumption | refine Ext.drew ?_ | refine Ext.alloc ?_ _ | refine Ext.setCell ?_ (by simp) | refine Ext.setCell ?_ (by simp; omega) | refine Ext.trans ?_ (by assumption))⟩)
      case rest =>
        obtain ⟨g7, g8, rfl, rfl, e1, e2, e3, e4, hx7⟩ := hcut
        have k2 := hx7.lit k2
        have k3 := hx7.lit k3
        have c5 := hx7.lit c5
        have c6 := hx7.lit c6
        have c7 := hx7.lit c7
        have c8 := hx7.lit c8
        have hx := hx.trans hx7
        clear c1 c2 c3 c4 k0 k1 hx7 hbs
        obtain ⟨w3, rfl⟩ : ∃ w3 : World, w3 = wc := ⟨_, rfl⟩
        go_upto_region 4 with fail
        go_cut [9, 10] (fun s7 s8 wx => ∃ g7 g8, s7 = .pointer (some ⟨g7, 0, none⟩) ∧ s8 = .pointer (some ⟨g8, 0, none⟩) ∧ wx.cell? ⟨g7, 0, none⟩ = some (.int .i64 (gp ns k).1) ∧ wx.cell? ⟨g7, 1, none⟩ = some (.int .i64 (gp ns k).2) ∧ wx.cell? ⟨g8, 0, none⟩ = some (.int .i64 (gp ns m).1) ∧ wx.cell? ⟨g8, 1, none⟩ = some (.int .i64 (gp ns m).2) ∧ Ext w3 wx)
        case first =>
          have d0 := cell_regrown k2
          have d1 := cell_regrown k3
          have d2 := cell_regrown c5
          have d3 := cell_regrown c6
          have d4 := cell_regrown c7
          have d5 := cell_regrown c8
          have hbs := hx.size
          refine rx_open [(true, 0, some 31, 1), (true, 0, some 32, 32), (true, 2, some 33, 4294967296), (true, 5, some 34, 10737418240), (true, 8, some 35, 17179869184), (true, 0, some 36, 1), (true, 0, some 37, 32), (true, 64, some 38, 137438953472), (true, 160, some 39, 343597383680), (true, 256, some 40, 549755813888), (false, 0, some 9, 0), (false, 0, some 10, 0), (false, 3103, none, 34359738880), (false, 8191, none, 1099511628800)] 8192 14 mixd rfl (by kernel_rfl) (by kernel_rfl) (by kernel_rfl) ?_
          refine rx_run (run := [0, 1, 2, 3, 4, 5, 6, 7, 8, 9]) (k := 4) (m' := 1023) rfl (by kernel_rfl) (by kernel_rfl) (by kernel_rfl) (fm_cons rfl <| fm_cons rfl <| fm_cons rfl <| fm_cons rfl <| fm_cons rfl <| fm_cons rfl <| fm_cons rfl <| fm_cons rfl <| fm_cons rfl <| fm_cons rfl <| List.filterMap_nil) (by repeat first | exact Ext.refl _ | assumption | refine Ext.drew ?_ | refine Ext.alloc ?_ _ | refine Ext.setCell ?_ (by simp) | refine Ext.setCell ?_ (by simp; omega) | refine Ext.trans ?_ (by assumption)) ?_
          repeat (go_big_quiet_step ((fail)))
          refine wpQuiet_nil ?_
          refine rx_two 10 11 (k := 3) (mi := 2047) (mj := 3071) rfl rfl rfl (by kernel_rfl) (by kernel_rfl) (by kernel_rfl) ?_ ?_
          go_wp2
          refine rx_on (by repeat first | exact Ext.refl _ | assumption | refine Ext.drew ?_ | refine Ext.alloc ?_ _ | refine Ext.setCell ?_ (by simp) | refine Ext.setCell ?_ (by simp; omega) | refine Ext.trans ?_ (by assumption)) ?_
          refine rx_op 11 (k := 2) (m' := 4095) rfl rfl (by kernel_rfl) (by kernel_rfl) ?_
          go_wp2
          refine rx_on (by repeat first | exact Ext.refl _ | assumption | refine Ext.drew ?_ | refine Ext.alloc ?_ _ | refine Ext.setCell ?_ (by simp) | refine Ext.setCell ?_ (by simp; omega) | refine Ext.trans ?_ (by assumption)) ?_
          refine rx_op 12 (k := 1) (m' := 8191) rfl rfl (by kernel_rfl) (by kernel_rfl) ?_
          go_wp2
          refine rx_on (by repeat first | exact Ext.refl _ | assumption | refine Ext.drew ?_ | refine Ext.alloc ?_ _ | refine Ext.setCell ?_ (by simp) | refine Ext.setCell ?_ (by simp; omega) | refine Ext.trans ?_ (by assumption)) ?_
          refine rx_op 13 (k := 0) (m' := 16383) rfl rfl (by kernel_rfl) (by kernel_rfl) ?_
          go_wp2
          refine rx_lst (by decide) ?_
          refine rx_end (by kernel_rfl) ?_
          rotate_left
          go_wp2
          refine rx_on (by repeat first | exact Ext.refl _ | assumption | refine Ext.drew ?_ | refine Ext.alloc ?_ _ | refine Ext.setCell ?_ (by simp) | refine Ext.setCell ?_ (by simp; omega) | refine Ext.trans ?_ (by assumption)) ?_
          refine rx_op 10 (k := 2) (m' := 4095) rfl rfl (by kernel_rfl) (by kernel_rfl) ?_
          go_wp2
          refine rx_on (by repeat first | exact Ext.refl _ | assumption | refine Ext.drew ?_ | refine Ext.alloc ?_ _ | refine Ext.setCell ?_ (by simp) | refine Ext.setCell ?_ (by simp; omega) | refine Ext.trans ?_ (by assumption)) ?_
          refine rx_op 12 (k := 1) (m' := 8191) rfl rfl (by kernel_rfl) (by kernel_rfl) ?_
          go_wp2
          refine rx_on (by repeat first | exact Ext.refl _ | assumption | refine Ext.drew ?_ | refine Ext.alloc ?_ _ | refine Ext.setCell ?_ (by simp) | refine Ext.setCell ?_ (by simp; omega) | refine Ext.trans ?_ (by assumption)) ?_
          refine rx_op 13 (k := 0) (m' := 16383) rfl rfl (by kernel_rfl) (by kernel_rfl) ?_
          go_wp2
          refine rx_lst (by decide) ?_
          refine rx_end (by kernel_rfl) ?_
          rotate_left
          all_goals (go_wp2; go_meet; exact ⟨_, _, rfl, rfl, by go_simp, by go_simp, by go_simp, by go_simp, (by repeat first | exact Ext.refl _ | assumption | refine Ext.drew ?_ | refine Ext.alloc ?_ _ | refine Ext.setCell ?_ (by simp) | refine Ext.setCell ?_ (by simp; omega) | refine Ext.trans ?_ (by assumption))⟩)
        case rest =>
          obtain ⟨g9, g10, rfl, rfl, e5, e6, e7, e8, hx7⟩ := hcut
          have e1 := hx7.lit e1
          have e2 := hx7.lit e2
          have e3 := hx7.lit e3
          have e4 := hx7.lit e4
          have hx := hx.trans hx7
          clear c5 c6 c7 c8 k2 k3 hx7
          obtain ⟨w4, rfl⟩ : ∃ w4 : World, w4 = wc := ⟨_, rfl⟩
          have hd : dox ns (↑i, ↑j) (↑k, ↑m) = dox4 (gp ns i) (gp ns j) (gp ns k) (gp ns m) := by simp only [dox, h1, h2, Bool.true_and]
          have Hd := Lib.hid hd
          clear hd
          generalize gp ns i = a at *
          generalize gp ns j = b at *
          generalize gp ns k = c at *
          generalize gp ns m = d at *
          obtain ⟨ax, ay⟩ := a
          obtain ⟨bx, by'⟩ := b
          obtain ⟨cx, cy⟩ := c
          obtain ⟨dx, dy⟩ := d
          go_upto_region 5 with fail
          go_cut [58] (fun s wx => s = .bool (peq (ax, ay) (cx, cy) && peq (bx, by') (dx, dy) || (peq (ax, ay) (dx, dy) && peq (bx, by') (cx, cy))) ∧ w4 = wx)
          case first =>
            go_wp2
            all_goals (go_meet; refine ⟨congrArg Value.bool ?_, rfl⟩; simp_all)
          case rest =>
            obtain ⟨rfl, rfl⟩ := hcut
            by_cases hX : (peq (ax, ay) (cx, cy) && peq (bx, by') (dx, dy) || (peq (ax, ay) (dx, dy) && peq (bx, by') (cx, cy))) = true
            · rw [hX]
              go_wp2
              go_ret
              exact ⟨ret_b (by rw [Hd.out, dox4, hX]; rfl), hx⟩
            · have hX' := eq_false_of_ne_true hX
              rw [hX']
              clear hX
              go_upto_region 7 with fail
              go_cut [80] (fun s wx => s = .bool (btw (ax, ay) (bx, by') (cx, cy) || btw (ax, ay) (bx, by') (dx, dy) || btw (cx, cy) (dx, dy) (ax, ay) || btw (cx, cy) (dx, dy) (bx, by')) ∧ Ext w4 wx)
              case first =>
                have hx : Ext w4 w4 := Ext.refl _
                go_wp2_with (go_at_call 94; refine (IsBetween_i _ _ _ _ _ _ _).mono ?_; rintro e w2 ⟨rfl, hb2⟩; have hx := hx.trans hb2; have e1 := hb2.lit e1; have e2 := hb2.lit e2; have e3 := hb2.lit e3; have e4 := hb2.lit e4; have e5 := hb2.lit e5; have e6 := hb2.lit e6; have e7 := hb2.lit e7; have e8 := hb2.lit e8; clear hb2)
                all_goals (go_meet; refine ⟨congrArg Value.bool ?_, (by assumption)⟩; simp_all)
              case rest =>
                obtain ⟨rfl, hx7⟩ := hcut
                have e1 := hx7.lit e1
                have e2 := hx7.lit e2
                have e3 := hx7.lit e3
                have e4 := hx7.lit e4
                have e5 := hx7.lit e5
                have e6 := hx7.lit e6
                have e7 := hx7.lit e7
                have e8 := hx7.lit e8
                have hx := hx.trans hx7
                clear hx7
                obtain ⟨w5, rfl⟩ : ∃ w5 : World, w5 = wc := ⟨_, rfl⟩
                by_cases hY : (btw (ax, ay) (bx, by') (cx, cy) || btw (ax, ay) (bx, by') (dx, dy) || btw (cx, cy) (dx, dy) (ax, ay) || btw (cx, cy) (dx, dy) (bx, by')) = true
                · rw [hY]
                  go_wp2
                  go_ret
                  exact ⟨ret_b (by rw [Hd.out, dox4, hX', hY]; rfl), hx⟩
                · have hY' := eq_false_of_ne_true hY
                  rw [hY']
                  clear hY
                  have t1 := turn_eq n1 n2 n3
                  have t2 := turn_eq n1 n2 n4
                  have t3 := turn_eq n3 n4 n1
                  have t4 := turn_eq n3 n4 n2
                  have m1 := mul_bd8 (turn0_bd n1 n2 n3) (turn0_bd n1 n2 n4)
                  have m2 := mul_bd8 (turn0_bd n3 n4 n1) (turn0_bd n3 n4 n2)
                  have hv : dox ns (↑i, ↑j) (↑k, ↑m) = sgn (ax, ay) (bx, by') (cx, cy) (dx, dy) := by rw [Hd.out, dox4, hX', hY']; rfl
                  unfold sgn at hv
                  have Hv := Lib.hid hv
                  clear hv
                  go_wp2_with fail
                  have d1 := cell_regrown e1
                  have d2 := cell_regrown e2
                  have d3 := cell_regrown e3
                  have d4 := cell_regrown e4
                  have d5 := cell_regrown e5
                  have d6 := cell_regrown e6
                  have d7 := cell_regrown e7
                  have d8 := cell_regrown e8
                  clear e1 e2 e3 e4 e5 e6 e7 e8 hX' hY' Hd
                  generalize turn0 (ax, ay) (bx, by') (cx, cy) = T1 at *
                  generalize turn0 (ax, ay) (bx, by') (dx, dy) = T2 at *
                  generalize turn0 (cx, cy) (dx, dy) (ax, ay) = T3 at *
                  generalize turn0 (cx, cy) (dx, dy) (bx, by') = T4 at *
                  have u1 := Lib.hid t1
                  have u2 := Lib.hid t2
                  have u3 := Lib.hid t3
                  have u4 := Lib.hid t4
                  clear t1 t2 t3 t4
                  by_cases hs : T1 * T2 < 0
                  · have g1 : decide (T1 * T2 < 0) = true := decide_eq_true hs
                    refine rx_open [(true, 0, some 81, 128), (true, 0, some 82, 256), (true, 0, some 83, 512), (false, 7, some 84, 16924961474604808445886464), (true, 0, some 85, 128), (true, 0, some 86, 256), (true, 0, some 87, 1024), (false, 120, some 88, 270799383593676935134183424), (true, 136, some 89, 328827822935179135520079872), (true, 256, some 90, 618970019642690137449562112), (true, 640, some 91, 1237940039285380274899124224), (true, 1024, some 92, 2475880078570760549798248960), (true, 1024, some 93, 2475880078570760549798249472), (true, 1024, some 94, 2475880078570760549798248576), (false, 15360, some 95, 37138201178561408246973726720), (true, 1024, some 96, 2475880078570760549798248960), (true, 1024, some 97, 2475880078570760549798249472), (true, 1024, some 98, 2475880078570760549798248704), (false, 246784, some 99, 557073017678421123704605900800), (true, 279552, some 100, 675915261449817630094921826304), (true, 525312, some 101, 1270126480306800162046501453824), (true, 1049600, some 102, 2537777080535029563543204659200), (true, 4194303, some 6, 5070602400912917605986812821504)] 0 23 mixd rfl (by kernel_rfl) (by kernel_rfl) (by kernel_rfl) ?_
                    refine rx_run (run := [0, 1, 2, 4, 5, 6]) (k := 17) (m' := 119) rfl (by kernel_rfl) (by kernel_rfl) (by kernel_rfl) (fm_cons rfl <| fm_cons rfl <| fm_cons rfl <| fm_cons rfl <| fm_cons rfl <| fm_cons rfl <| List.filterMap_nil) (by repeat first | exact Ext.refl _ | assumption | refine Ext.drew ?_ | refine Ext.alloc ?_ _ | refine Ext.setCell ?_ (by simp) | refine Ext.setCell ?_ (by simp; omega) | refine Ext.trans ?_ (by assumption)) ?_
                    repeat (go_big_quiet_step ((fail)))
                    refine wpQuiet_nil ?_
                    refine rx_op 3 (k := 16) (m' := 127) rfl rfl (by kernel_rfl) (by kernel_rfl) ?_
                    go_wp2_with (go_at_call 95; first | (with_reducible refine (TurnOf_i' ax ay bx by' cx cy _).mono ?_; rw [u1.out]; rintro e w6 ⟨rfl, hb6⟩) | (with_reducible refine (TurnOf_i' ax ay bx by' dx dy _).mono ?_; rw [u2.out]; rintro e w6 ⟨rfl, hb6⟩) | (with_reducible refine (TurnOf_i' cx cy dx dy ax ay _).mono ?_; rw [u3.out]; rintro e w6 ⟨rfl, hb6⟩) | (with_reducible refine (TurnOf_i' cx cy dx dy bx by' _).mono ?_; rw [u4.out]; rintro e w6 ⟨rfl, hb6⟩))
                    refine rx_on (by repeat first | exact Ext.refl _ | assumption | refine Ext.drew ?_ | refine Ext.alloc ?_ _ | refine Ext.setCell ?_ (by simp) | refine Ext.setCell ?_ (by simp; omega) | refine Ext.trans ?_ (by assumption)) ?_
                    refine rx_op 7 (k := 15) (m' := 255) rfl rfl (by kernel_rfl) (by kernel_rfl) ?_
                    go_wp2_with (go_at_call 95; first | (with_reducible refine (TurnOf_i' ax ay bx by' cx cy _).mono ?_; rw [u1.out]; rintro e w6 ⟨rfl, hb6⟩) | (with_reducible refine (TurnOf_i' ax ay bx by' dx dy _).mono ?_; rw [u2.out]; rintro e w6 ⟨rfl, hb6⟩) | (with_reducible refine (TurnOf_i' cx cy dx dy ax ay _).mono ?_; rw [u3.out]; rintro e w6 ⟨rfl, hb6⟩) | (with_reducible refine (TurnOf_i' cx cy dx dy bx by' _).mono ?_; rw [u4.out]; rintro e w6 ⟨rfl, hb6⟩))
                    refine rx_on (by repeat first | exact Ext.refl _ | assumption | refine Ext.drew ?_ | refine Ext.alloc ?_ _ | refine Ext.setCell ?_ (by simp) | refine Ext.setCell ?_ (by simp; omega) | refine Ext.trans ?_ (by assumption)) ?_
                    refine rx_run (run := [8, 9, 10, 11, 12, 13, 15, 16, 17]) (k := 6) (m' := 245759) rfl (by kernel_rfl) (by kernel_rfl) (by kernel_rfl) (fm_cons rfl <| fm_cons rfl <| fm_cons rfl <| fm_cons rfl <| fm_cons rfl <| fm_cons rfl <| fm_cons rfl <| fm_cons rfl <| fm_cons rfl <| List.filterMap_nil) (by repeat first | exact Ext.refl _ | assumption | refine Ext.drew ?_ | refine Ext.alloc ?_ _ | refine Ext.setCell ?_ (by simp) | refine Ext.setCell ?_ (by simp; omega) | refine Ext.trans ?_ (by assumption)) ?_
                    repeat (go_big_quiet_step ((fail)))
                    refine wpQuiet_nil ?_
                    refine rx_op 14 (k := 5) (m' := 262143) rfl rfl (by kernel_rfl) (by kernel_rfl) ?_
                    go_wp2_with (go_at_call 95; first | (with_reducible refine (TurnOf_i' ax ay bx by' cx cy _).mono ?_; rw [u1.out]; rintro e w6 ⟨rfl, hb6⟩) | (with_reducible refine (TurnOf_i' ax ay bx by' dx dy _).mono ?_; rw [u2.out]; rintro e w6 ⟨rfl, hb6⟩) | (with_reducible refine (TurnOf_i' cx cy dx dy ax ay _).mono ?_; rw [u3.out]; rintro e w6 ⟨rfl, hb6⟩) | (with_reducible refine (TurnOf_i' cx cy dx dy bx by' _).mono ?_; rw [u4.out]; rintro e w6 ⟨rfl, hb6⟩))
                    refine rx_on (by repeat first | exact Ext.refl _ | assumption | refine Ext.drew ?_ | refine Ext.alloc ?_ _ | refine Ext.setCell ?_ (by simp) | refine Ext.setCell ?_ (by simp; omega) | refine Ext.trans ?_ (by assumption)) ?_
                    refine rx_op 18 (k := 4) (m' := 524287) rfl rfl (by kernel_rfl) (by kernel_rfl) ?_
                    go_wp2_with (go_at_call 95; first | (with_reducible refine (TurnOf_i' ax ay bx by' cx cy _).mono ?_; rw [u1.out]; rintro e w6 ⟨rfl, hb6⟩) | (with_reducible refine (TurnOf_i' ax ay bx by' dx dy _).mono ?_; rw [u2.out]; rintro e w6 ⟨rfl, hb6⟩) | (with_reducible refine (TurnOf_i' cx cy dx dy ax ay _).mono ?_; rw [u3.out]; rintro e w6 ⟨rfl, hb6⟩) | (with_reducible refine (TurnOf_i' cx cy dx dy bx by' _).mono ?_; rw [u4.out]; rintro e w6 ⟨rfl, hb6⟩))
                    refine rx_on (by repeat first | exact Ext.refl _ | assumption | refine Ext.drew ?_ | refine Ext.alloc ?_ _ | refine Ext.setCell ?_ (by simp) | refine Ext.setCell ?_ (by simp; omega) | refine Ext.trans ?_ (by assumption)) ?_
                    refine rx_run (run := [19, 20, 21, 22]) (k := 0) (m' := 8388607) rfl (by kernel_rfl) (by kernel_rfl) (by kernel_rfl) (fm_cons rfl <| fm_cons rfl <| fm_cons rfl <| fm_cons rfl <| List.filterMap_nil) (by repeat first | exact Ext.refl _ | assumption | refine Ext.drew ?_ | refine Ext.alloc ?_ _ | refine Ext.setCell ?_ (by simp) | refine Ext.setCell ?_ (by simp; omega) | refine Ext.trans ?_ (by assumption)) ?_
                    repeat (go_big_quiet_step ((fail)))
                    refine wpQuiet_nil ?_
                    refine rx_end (by kernel_rfl) ?_
                    go_wp2
                    go_ret
                    exact ⟨ret_b (by rw [Hv.out, g1]; simp), hx.trans (by repeat first | exact Ext.refl _ | assumption | refine Ext.drew ?_ | refine Ext.alloc ?_ _ | refine Ext.setCell ?_ (by simp) | refine Ext.setCell ?_ (by simp; omega) | refine Ext.trans ?_ (by assumption))⟩
                  · have g1 : decide (T1 * T2 < 0) = false := decide_eq_false hs
                    refine rx_open [(true, 0, some 81, 128), (true, 0, some 82, 256), (true, 0, some 83, 512), (false, 7, some 84, 16924961474604808445886464), (true, 0, some 85, 128), (true, 0, some 86, 256), (true, 0, some 87, 1024), (false, 120, some 88, 270799383593676935134183424), (true, 136, some 89, 328827822935179135520079872), (true, 256, some 90, 618970019642690137449562112), (true, 640, some 91, 1237940039285380274899124224), (true, 1024, some 92, 2475880078570760549798248960), (true, 1024, some 93, 2475880078570760549798249472), (true, 1024, some 94, 2475880078570760549798248576), (false, 15360, some 95, 37138201178561408246973726720), (true, 1024, some 96, 2475880078570760549798248960), (true, 1024, some 97, 2475880078570760549798249472), (true, 1024, some 98, 2475880078570760549798248704), (false, 246784, some 99, 557073017678421123704605900800), (true, 279552, some 100, 675915261449817630094921826304), (true, 525312, some 101, 1270126480306800162046501453824), (true, 1049600, some 102, 2537777080535029563543204659200), (true, 4194303, some 6, 5070602400912917605986812821504)] 0 23 mixd rfl (by kernel_rfl) (by kernel_rfl) (by kernel_rfl) ?_
                    refine rx_run (run := [0, 1, 2, 4, 5, 6]) (k := 17) (m' := 119) rfl (by kernel_rfl) (by kernel_rfl) (by kernel_rfl) (fm_cons rfl <| fm_cons rfl <| fm_cons rfl <| fm_cons rfl <| fm_cons rfl <| fm_cons rfl <| List.filterMap_nil) (by repeat first | exact Ext.refl _ | assumption | refine Ext.drew ?_ | refine Ext.alloc ?_ _ | refine Ext.setCell ?_ (by simp) | refine Ext.setCell ?_ (by simp; omega) | refine Ext.trans ?_ (by assumption)) ?_
                    repeat (go_big_quiet_step ((fail)))
                    refine wpQuiet_nil ?_
                    refine rx_op 3 (k := 16) (m' := 127) rfl rfl (by kernel_rfl) (by kernel_rfl) ?_
                    go_wp2_with (go_at_call 95; first | (with_reducible refine (TurnOf_i' ax ay bx by' cx cy _).mono ?_; rw [u1.out]; rintro e w6 ⟨rfl, hb6⟩) | (with_reducible refine (TurnOf_i' ax ay bx by' dx dy _).mono ?_; rw [u2.out]; rintro e w6 ⟨rfl, hb6⟩) | (with_reducible refine (TurnOf_i' cx cy dx dy ax ay _).mono ?_; rw [u3.out]; rintro e w6 ⟨rfl, hb6⟩) | (with_reducible refine (TurnOf_i' cx cy dx dy bx by' _).mono ?_; rw [u4.out]; rintro e w6 ⟨rfl, hb6⟩))
                    refine rx_on (by repeat first | exact Ext.refl _ | assumption | refine Ext.drew ?_ | refine Ext.alloc ?_ _ | refine Ext.setCell ?_ (by simp) | refine Ext.setCell ?_ (by simp; omega) | refine Ext.trans ?_ (by assumption)) ?_
                    refine rx_op 7 (k := 15) (m' := 255) rfl rfl (by kernel_rfl) (by kernel_rfl) ?_
                    go_wp2_with (go_at_call 95; first | (with_reducible refine (TurnOf_i' ax ay bx by' cx cy _).mono ?_; rw [u1.out]; rintro e w6 ⟨rfl, hb6⟩) | (with_reducible refine (TurnOf_i' ax ay bx by' dx dy _).mono ?_; rw [u2.out]; rintro e w6 ⟨rfl, hb6⟩) | (with_reducible refine (TurnOf_i' cx cy dx dy ax ay _).mono ?_; rw [u3.out]; rintro e w6 ⟨rfl, hb6⟩) | (with_reducible refine (TurnOf_i' cx cy dx dy bx by' _).mono ?_; rw [u4.out]; rintro e w6 ⟨rfl, hb6⟩))
                    refine rx_on (by repeat first | exact Ext.refl _ | assumption | refine Ext.drew ?_ | refine Ext.alloc ?_ _ | refine Ext.setCell ?_ (by simp) | refine Ext.setCell ?_ (by simp; omega) | refine Ext.trans ?_ (by assumption)) ?_
                    refine rx_run (run := [8, 9, 10, 11, 12, 13, 15, 16, 17]) (k := 6) (m' := 245759) rfl (by kernel_rfl) (by kernel_rfl) (by kernel_rfl) (fm_cons rfl <| fm_cons rfl <| fm_cons rfl <| fm_cons rfl <| fm_cons rfl <| fm_cons rfl <| fm_cons rfl <| fm_cons rfl <| fm_cons rfl <| List.filterMap_nil) (by repeat first | exact Ext.refl _ | assumption | refine Ext.drew ?_ | refine Ext.alloc ?_ _ | refine Ext.setCell ?_ (by simp) | refine Ext.setCell ?_ (by simp; omega) | refine Ext.trans ?_ (by assumption)) ?_
                    repeat (go_big_quiet_step ((fail)))
                    refine wpQuiet_nil ?_
                    refine rx_op 14 (k := 5) (m' := 262143) rfl rfl (by kernel_rfl) (by kernel_rfl) ?_
                    go_wp2_with (go_at_call 95; first | (with_reducible refine (TurnOf_i' ax ay bx by' cx cy _).mono ?_; rw [u1.out]; rintro e w6 ⟨rfl, hb6⟩) | (with_reducible refine (TurnOf_i' ax ay bx by' dx dy _).mono ?_; rw [u2.out]; rintro e w6 ⟨rfl, hb6⟩) | (with_reducible refine (TurnOf_i' cx cy dx dy ax ay _).mono ?_; rw [u3.out]; rintro e w6 ⟨rfl, hb6⟩) | (with_reducible refine (TurnOf_i' cx cy dx dy bx by' _).mono ?_; rw [u4.out]; rintro e w6 ⟨rfl, hb6⟩))
                    refine rx_on (by repeat first | exact Ext.refl _ | assumption | refine Ext.drew ?_ | refine Ext.alloc ?_ _ | refine Ext.setCell ?_ (by simp) | refine Ext.setCell ?_ (by simp; omega) | refine Ext.trans ?_ (by assumption)) ?_
                    refine rx_op 18 (k := 4) (m' := 524287) rfl rfl (by kernel_rfl) (by kernel_rfl) ?_
                    go_wp2_with (go_at_call 95; first | (with_reducible refine (TurnOf_i' ax ay bx by' cx cy _).mono ?_; rw [u1.out]; rintro e w6 ⟨rfl, hb6⟩) | (with_reducible refine (TurnOf_i' ax ay bx by' dx dy _).mono ?_; rw [u2.out]; rintro e w6 ⟨rfl, hb6⟩) | (with_reducible refine (TurnOf_i' cx cy dx dy ax ay _).mono ?_; rw [u3.out]; rintro e w6 ⟨rfl, hb6⟩) | (with_reducible refine (TurnOf_i' cx cy dx dy bx by' _).mono ?_; rw [u4.out]; rintro e w6 ⟨rfl, hb6⟩))
                    refine rx_on (by repeat first | exact Ext.refl _ | assumption | refine Ext.drew ?_ | refine Ext.alloc ?_ _ | refine Ext.setCell ?_ (by simp) | refine Ext.setCell ?_ (by simp; omega) | refine Ext.trans ?_ (by assumption)) ?_
                    refine rx_run (run := [19, 20, 21, 22]) (k := 0) (m' := 8388607) rfl (by kernel_rfl) (by kernel_rfl) (by kernel_rfl) (fm_cons rfl <| fm_cons rfl <| fm_cons rfl <| fm_cons rfl <| List.filterMap_nil) (by repeat first | exact Ext.refl _ | assumption | refine Ext.drew ?_ | refine Ext.alloc ?_ _ | refine Ext.setCell ?_ (by simp) | refine Ext.setCell ?_ (by simp; omega) | refine Ext.trans ?_ (by assumption)) ?_
                    repeat (go_big_quiet_step ((fail)))
                    refine wpQuiet_nil ?_
                    refine rx_end (by kernel_rfl) ?_
                    go_wp2
                    go_ret
                    exact ⟨ret_b (by rw [Hv.out, g1]; simp), hx.trans (by repeat first | exact Ext.refl _ | assumption | refine Ext.drew ?_ | refine Ext.alloc ?_ _ | refine Ext.setCell ?_ (by simp) | refine Ext.setCell ?_ (by simp; omega) | refine Ext.trans ?_ (by assumption))⟩
    · have h2' := eq_false_of_ne_true h2
      have hd : dox ns (p, q) (r, s) = false := by simp only [dox, h2', Bool.and_false, Bool.false_and]
      clear h2
      go_enter Tryz.func78, Tryz.ntmps78
      go_wp2_with fail
      refine (LeadOk_i A c ns _ _ _ hl (h.ext (by repeat first | exact Ext.refl _ | assumption | refine Ext.drew ?_ | refine Ext.alloc ?_ _ | refine Ext.setCell ?_ (by simp) | refine Ext.setCell ?_ (by simp; omega) | refine Ext.trans ?_ (by assumption)))).mono ?_
      rintro e w1 ⟨rfl, hb⟩
      have k2 := hb.lit (b := w.heap.size + 1) (o := 0) (v := .int .i64 r) (by go_simp)
      have k3 := hb.lit (b := w.heap.size + 1) (o := 1) (v := .int .i64 s) (by go_simp)
      have hx : Ext w w1 := (by repeat first | exact Ext.refl _ | assumption | refine Ext.drew ?_ | refine Ext.alloc ?_ _ | refine Ext.setCell ?_ (by simp) | refine Ext.setCell ?_ (by simp; omega) | refine Ext.trans ?_ (by assumption))
      rw [h1]
      clear hb
      go_wp2_with fail
      refine (LeadOk_i A c ns _ _ _ hl (h.ext hx)).mono ?_
      rintro e w2 ⟨rfl, hb⟩
      rw [h2']
      have hx := hx.trans hb
      clear hb
      go_wp2
      go_ret
      exact ⟨ret_b hd.symm, hx⟩
  · have h1' := eq_false_of_ne_true h1
    have hd : dox ns (p, q) (r, s) = false := by simp only [dox, h1', Bool.false_and]
    clear h1
    go_enter Tryz.func78, Tryz.ntmps78
    go_wp2_with fail
    refine (LeadOk_i A c ns _ _ _ hl (h.ext (by repeat first | exact Ext.refl _ | assumption | refine Ext.drew ?_ | refine Ext.alloc ?_ _ | refine Ext.setCell ?_ (by simp) | refine Ext.setCell ?_ (by simp; omega) | refine Ext.trans ?_ (by assumption)))).mono ?_
    rintro e w1 ⟨rfl, hb⟩
    have k2 := hb.lit (b := w.heap.size + 1) (o := 0) (v := .int .i64 r) (by go_simp)
    have k3 := hb.lit (b := w.heap.size + 1) (o := 1) (v := .int .i64 s) (by go_simp)
    have hx : Ext w w1 := (by repeat first | exact Ext.refl _ | assumption | refine Ext.drew ?_ | refine Ext.alloc ?_ _ | refine Ext.setCell ?_ (by simp) | refine Ext.setCell ?_ (by simp; omega) | refine Ext.trans ?_ (by assumption))
    rw [h1']
    clear hb
    go_wp2
    go_ret
    exact ⟨ret_b hd.symm, hx⟩
end Go.Proofs.YtdhmjhoaegdfjaaGreat

namespace Go.Proofs.YtdhmjhoaegdfjaaGreat
open Go.RowKit Go.Sort Go.BigFrame

def isgn (n : Int) : Int := if n < 0 then -1 else if 0 < n then 1 else 0
theorem l03Sign_s (n : Int) (w : World) : Calls Tryz.prog 89 #[.int .i64 n] w fun e w' => e = .returned (.int .i64 (isgn n)) ∧ Ext w w' := by
  go_enter Tryz.func89, Tryz.ntmps89
  go_wp2
  all_goals go_ret
  all_goals refine ⟨ret_i ?_, Ext.refl _⟩
  all_goals (unfold isgn; first | (rw [if_pos (by omega)]; done) | (rw [if_neg (by omega), if_pos (by omega)]; done) | (rw [if_neg (by omega), if_neg (by omega)]; done))
theorem isgn_mul (x y : Int) : (isgn x * isgn y < 0) ↔ (x * y < 0) := by
  have key : ∀ {a b : Int}, 0 < a → 0 < b → 0 < a * b := fun h1 h2 => Int.mul_pos h1 h2
  rcases Int.lt_trichotomy x 0 with hx | hx | hx
  · have e1 : isgn x = -1 := by simp [isgn, hx]
    rcases Int.lt_trichotomy y 0 with hy | hy | hy
    · have e2 : isgn y = -1 := by simp [isgn, hy]
      have := key (show 0 < -x by omega) (show 0 < -y by omega)
      rw [Int.neg_mul_neg] at this
      rw [e1, e2]; omega
    · subst hy; simp [isgn]
    · have e2 : isgn y = 1 := by unfold isgn; rw [if_neg (by omega), if_pos hy]
      have := key (show 0 < -x by omega) hy
      rw [Int.neg_mul] at this
      rw [e1, e2]; omega
  · subst hx; simp [isgn]
  · have e1 : isgn x = 1 := by unfold isgn; rw [if_neg (by omega), if_pos hx]
    rcases Int.lt_trichotomy y 0 with hy | hy | hy
    · have e2 : isgn y = -1 := by simp [isgn, hy]
      have := key hx (show 0 < -y by omega)
      rw [Int.mul_neg] at this
      rw [e1, e2]; omega
    · subst hy; simp [isgn]
    · have e2 : isgn y = 1 := by unfold isgn; rw [if_neg (by omega), if_pos hy]
      have := key hx hy
      rw [e1, e2]; omega
theorem isgn_mul_bd (x y : Int) : -1 ≤ isgn x * isgn y ∧ isgn x * isgn y ≤ 1 := by
  unfold isgn
  split <;> split <;> (try split) <;> (try split) <;> omega

theorem sgn_t {x y u v : Int} (h : isgn x * isgn y < 0) : decide (isgn u * isgn v < 0) = (decide (x * y < 0) && decide (u * v < 0)) := by
  have h1 := (isgn_mul x y).1 h
  rw [decide_eq_true h1, Bool.true_and]
  exact decide_eq_decide.2 (isgn_mul u v)
theorem sgn_f {x y u v : Int} (h : ¬ isgn x * isgn y < 0) : false = (decide (x * y < 0) && decide (u * v < 0)) := by
  have h1 : ¬ x * y < 0 := fun e => h ((isgn_mul x y).2 e)
  rw [decide_eq_false h1, Bool.false_and]
def shr4 (a b c d : P2) : Bool := peq a c || peq a d || peq b c || peq b d
theorem sgn_shared {a b c d : P2} (h : shr4 a b c d = true) : sgn a b c d = false := by
  simp only [shr4, Bool.or_eq_true, peq_iff] at h
  have t1 : ∀ x y : P2, turn0 x y x = 0 := fun x y => by simp [turn0]
  have t2 : ∀ x y : P2, turn0 x y y = 0 := fun x y => by simp only [turn0]; rw [Int.mul_comm]; omega
  rcases h with ((rfl | rfl) | rfl) | rfl <;> simp [sgn, t1, t2]

set_option maxRecDepth 100000 in
set_option maxHeartbeats 4000000 in
theorem DoCross_s (A : Option Addr) (c : Nat) (ns : List (Int × Int)) (p q r s : Int) (w : World) (hl : ns.length ≤ 2000000) (h : Pr w w.heap.size A ns) :
    Calls Tryz.prog 71 #[.slice A ns.length c, .agg #[.int .i64 p, .int .i64 q], .agg #[.int .i64 r, .int .i64 s]] w fun e w' => e = .returned (.bool (dox ns (p, q) (r, s))) ∧ Ext w w' := by
  by_cases h1 : lok ns (p, q) = true
  · by_cases h2 : lok ns (r, s) = true
    · obtain ⟨i, j, rfl, rfl, hij, hi, hj, n1, n2, -⟩ := lok_spec h1
      obtain ⟨k, m, rfl, rfl, hkm, hk, hm, n3, n4, -⟩ := lok_spec h2
      go_enter Tryz.func71, Tryz.ntmps71
      go_wp2_with fail
      refine (LeadOk_s A c ns _ _ _ hl (h.ext (by repeat first | exact Ext.refl _ | assumption | refine Ext.drew ?_ | refine Ext.alloc ?_ _ | refine Ext.setCell ?_ (by simp) | refine Ext.setCell ?_ (by simp; omega) | refine Ext.trans ?_ (by assumption)))).mono ?_
      rintro e w1 ⟨rfl, hb⟩
      have k0 := hb.lit (b := w.heap.size) (o := 0) (v := .int .i64 i) (by go_simp)
      have k1 := hb.lit (b := w.heap.size) (o := 1) (v := .int .i64 j) (by go_simp)
      have k2 := hb.lit (b := w.heap.size + 1) (o := 0) (v := .int .i64 k) (by go_simp)
      have k3 := hb.lit (b := w.heap.size + 1) (o := 1) (v := .int .i64 m) (by go_simp)
      have hx : Ext w w1 := (by repeat first | exact Ext.refl _ | assumption | refine Ext.drew ?_ | refine Ext.alloc ?_ _ | refine Ext.setCell ?_ (by simp) | refine Ext.setCell ?_ (by simp; omega) | refine Ext.trans ?_ (by assumption))
      rw [h1]
      clear hb
      go_wp2_with fail
      refine (LeadOk_s A c ns _ _ _ hl (h.ext hx)).mono ?_
      rintro e w2 ⟨rfl, hb⟩
      have k0 := hb.lit k0
      have k1 := hb.lit k1
      have k2 := hb.lit k2
      have k3 := hb.lit k3
      have hx := hx.trans hb
      rw [h2]
      clear hb
      obtain ⟨b, off, rfl, hbb, c1, c2⟩ := (h.ext hx).gp_ hi
      obtain ⟨b', off', he, hbb', c3, c4⟩ := (h.ext hx).gp_ hj
      obtain ⟨rfl, rfl⟩ : b = b' ∧ off = off' := by simpa using he
      clear he hbb'
      obtain ⟨b', off', he, hbb', c5, c6⟩ := (h.ext hx).gp_ hk
      obtain ⟨rfl, rfl⟩ : b = b' ∧ off = off' := by simpa using he
      clear he hbb'
      obtain ⟨b', off', he, hbb', c7, c8⟩ := (h.ext hx).gp_ hm
      obtain ⟨rfl, rfl⟩ : b = b' ∧ off = off' := by simpa using he
      clear he hbb'
      go_upto_region 3 with fail
      go_cut [7] (fun s wx => ∃ g, s = .pointer (some ⟨g, 0, none⟩) ∧ wx.cell? ⟨g, 0, none⟩ = some (.int .i64 (gp ns i).1) ∧ wx.cell? ⟨g, 1, none⟩ = some (.int .i64 (gp ns i).2) ∧ Ext w2 wx)
      case first =>
        go_wp2
        go_meet
        exact ⟨_, rfl, by go_simp, by go_simp, (by repeat first | exact Ext.refl _ | assumption | refine Ext.drew ?_ | refine Ext.alloc ?_ _ | refine Ext.setCell ?_ (by simp) | refine Ext.setCell ?_ (by simp; omega) | refine Ext.trans ?_ (by assumption))⟩
      case rest =>
        obtain ⟨g7, rfl, e1, e2, hx7⟩ := hcut
        have k0 := hx7.lit k0
        have k1 := hx7.lit k1
        have k2 := hx7.lit k2
        have k3 := hx7.lit k3
        have c1 := hx7.lit c1
        have c2 := hx7.lit c2
        have c3 := hx7.lit c3
        have c4 := hx7.lit c4
        have c5 := hx7.lit c5
        have c6 := hx7.lit c6
        have c7 := hx7.lit c7
        have c8 := hx7.lit c8
        have hx := hx.trans hx7
        clear hx7
        obtain ⟨w3, rfl⟩ : ∃ x : World, x = wc := ⟨_, rfl⟩
        go_upto_region 4 with fail
        go_cut [8] (fun s wx => ∃ g, s = .pointer (some ⟨g, 0, none⟩) ∧ wx.cell? ⟨g, 0, none⟩ = some (.int .i64 (gp ns j).1) ∧ wx.cell? ⟨g, 1, none⟩ = some (.int .i64 (gp ns j).2) ∧ Ext w3 wx)
        case first =>
          go_wp2
          go_meet
          exact ⟨_, rfl, by go_simp, by go_simp, (by repeat first | exact Ext.refl _ | assumption | refine Ext.drew ?_ | refine Ext.alloc ?_ _ | refine Ext.setCell ?_ (by simp) | refine Ext.setCell ?_ (by simp; omega) | refine Ext.trans ?_ (by assumption))⟩
        case rest =>
          obtain ⟨g8, rfl, e3, e4, hx7⟩ := hcut
          have k0 := hx7.lit k0
          have k1 := hx7.lit k1
          have k2 := hx7.lit k2
          have k3 := hx7.lit k3
          have c1 := hx7.lit c1
          have c2 := hx7.lit c2
          have c3 := hx7.lit c3
          have c4 := hx7.lit c4
          have c5 := hx7.lit c5
          have c6 := hx7.lit c6
          have c7 := hx7.lit c7
          have c8 := hx7.lit c8
          have e1 := hx7.lit e1
          have e2 := hx7.lit e2
          have hx := hx.trans hx7
          clear hx7
          obtain ⟨w4, rfl⟩ : ∃ x : World, x = wc := ⟨_, rfl⟩
          go_upto_region 5 with fail
          go_cut [9] (fun s wx => ∃ g, s = .pointer (some ⟨g, 0, none⟩) ∧ wx.cell? ⟨g, 0, none⟩ = some (.int .i64 (gp ns k).1) ∧ wx.cell? ⟨g, 1, none⟩ = some (.int .i64 (gp ns k).2) ∧ Ext w4 wx)
          case first =>
            go_wp2
            go_meet
            exact ⟨_, rfl, by go_simp, by go_simp, (by repeat first | exact Ext.refl _ | assumption | refine Ext.drew ?_ | refine Ext.alloc ?_ _ | refine Ext.setCell ?_ (by simp) | refine Ext.setCell ?_ (by simp; omega) | refine Ext.trans ?_ (by assumption))⟩
          case rest =>
            obtain ⟨g9, rfl, e5, e6, hx7⟩ := hcut
            have k0 := hx7.lit k0
            have k1 := hx7.lit k1
            have k2 := hx7.lit k2
            have k3 := hx7.lit k3
            have c1 := hx7.lit c1
            have c2 := hx7.lit c2
            have c3 := hx7.lit c3
            have c4 := hx7.lit c4
            have c5 := hx7.lit c5
            have c6 := hx7.lit c6
            have c7 := hx7.lit c7
            have c8 := hx7.lit c8
            have e1 := hx7.lit e1
            have e2 := hx7.lit e2
            have e3 := hx7.lit e3
            have e4 := hx7.lit e4
            have hx := hx.trans hx7
            clear hx7
            obtain ⟨w5, rfl⟩ : ∃ x : World, x = wc := ⟨_, rfl⟩
            go_upto_region 6 with fail
            go_cut [10] (fun s wx => ∃ g, s = .pointer (some ⟨g, 0, none⟩) ∧ wx.cell? ⟨g, 0, none⟩ = some (.int .i64 (gp ns m).1) ∧ wx.cell? ⟨g, 1, none⟩ = some (.int .i64 (gp ns m).2) ∧ Ext w5 wx)
            case first =>
              go_wp2
              go_meet
              exact ⟨_, rfl, by go_simp, by go_simp, (by repeat first | exact Ext.refl _ | assumption | refine Ext.drew ?_ | refine Ext.alloc ?_ _ | refine Ext.setCell ?_ (by simp) | refine Ext.setCell ?_ (by simp; omega) | refine Ext.trans ?_ (by assumption))⟩
            case rest =>
              obtain ⟨g10, rfl, e7, e8, hx7⟩ := hcut
              have k0 := hx7.lit k0
              have k1 := hx7.lit k1
              have k2 := hx7.lit k2
              have k3 := hx7.lit k3
              have c1 := hx7.lit c1
              have c2 := hx7.lit c2
              have c3 := hx7.lit c3
              have c4 := hx7.lit c4
              have c5 := hx7.lit c5
              have c6 := hx7.lit c6
              have c7 := hx7.lit c7
              have c8 := hx7.lit c8
              have e1 := hx7.lit e1
              have e2 := hx7.lit e2
              have e3 := hx7.lit e3
              have e4 := hx7.lit e4
              have e5 := hx7.lit e5
              have e6 := hx7.lit e6
              have hx := hx.trans hx7
              clear hx7
              obtain ⟨w6, rfl⟩ : ∃ x : World, x = wc := ⟨_, rfl⟩
              clear c1 c2 c3 c4 c5 c6 c7 c8 k0 k1 k2 k3
              have Hd : Hid (dox ns (↑i, ↑j) (↑k, ↑m) = dox4 (gp ns i) (gp ns j) (gp ns k) (gp ns m)) := Lib.hid (by simp only [dox, h1, h2, Bool.true_and])
              generalize gp ns i = a at *
              generalize gp ns j = b at *
              generalize gp ns k = c at *
              generalize gp ns m = d at *
              obtain ⟨ax, ay⟩ := a
              obtain ⟨bx, by'⟩ := b
              obtain ⟨cx, cy⟩ := c
              obtain ⟨dx, dy⟩ := d
              go_upto_region 7 with fail
              go_cut [62] (fun s wx => s = .bool (btw (ax, ay) (bx, by') (cx, cy) || btw (ax, ay) (bx, by') (dx, dy) || btw (cx, cy) (dx, dy) (ax, ay) || btw (cx, cy) (dx, dy) (bx, by')) ∧ Ext w6 wx)
              case first =>
                have hx : Ext w6 w6 := Ext.refl _
                go_wp2_with (go_at_call 88; refine (IsBetween_s _ _ _ _ _ _ _).mono ?_; rintro e w2 ⟨rfl, hb2⟩; have hx := hx.trans hb2; have e1 := hb2.lit e1; have e2 := hb2.lit e2; have e3 := hb2.lit e3; have e4 := hb2.lit e4; have e5 := hb2.lit e5; have e6 := hb2.lit e6; have e7 := hb2.lit e7; have e8 := hb2.lit e8; clear hb2)
                all_goals (go_meet; refine ⟨congrArg Value.bool ?_, (by assumption)⟩; simp_all)
              case rest =>
                obtain ⟨rfl, hx7⟩ := hcut
                have e1 := hx7.lit e1
                have e2 := hx7.lit e2
                have e3 := hx7.lit e3
                have e4 := hx7.lit e4
                have e5 := hx7.lit e5
                have e6 := hx7.lit e6
                have e7 := hx7.lit e7
                have e8 := hx7.lit e8
                have hx := hx.trans hx7
                clear hx7
                obtain ⟨w7, rfl⟩ : ∃ x : World, x = wc := ⟨_, rfl⟩
                by_cases hY : (btw (ax, ay) (bx, by') (cx, cy) || btw (ax, ay) (bx, by') (dx, dy) || btw (cx, cy) (dx, dy) (ax, ay) || btw (cx, cy) (dx, dy) (bx, by')) = true
                · rw [hY]
                  go_wp2
                  go_ret
                  exact ⟨ret_b (by rw [Hd.out, dox4, hY]; simp), hx⟩
                · have hY' := eq_false_of_ne_true hY
                  rw [hY']
                  clear hY
                  go_upto_region 9 with fail
                  go_cut [80] (fun s wx => s = .bool (peq (ax, ay) (cx, cy) && peq (bx, by') (dx, dy) || (peq (ax, ay) (dx, dy) && peq (bx, by') (cx, cy))) ∧ w7 = wx)
                  case first =>
                    go_wp2
                    all_goals (go_meet; refine ⟨congrArg Value.bool ?_, rfl⟩; simp_all)
                  case rest =>
                    obtain ⟨rfl, rfl⟩ := hcut
                    by_cases hX : (peq (ax, ay) (cx, cy) && peq (bx, by') (dx, dy) || (peq (ax, ay) (dx, dy) && peq (bx, by') (cx, cy))) = true
                    · rw [hX]
                      go_wp2
                      go_ret
                      exact ⟨ret_b (by rw [Hd.out, dox4, hX]; rfl), hx⟩
                    · have hX' := eq_false_of_ne_true hX
                      rw [hX']
                      clear hX
                      go_upto_region 11 with fail
                      go_cut [98] (fun s wx => s = .bool (peq (ax, ay) (cx, cy) || peq (ax, ay) (dx, dy) || peq (bx, by') (cx, cy) || peq (bx, by') (dx, dy)) ∧ w7 = wx)
                      case first =>
                        go_wp2
                        all_goals (go_meet; refine ⟨congrArg Value.bool ?_, rfl⟩; simp_all)
                      case rest =>
                        obtain ⟨rfl, rfl⟩ := hcut
                        have Hv : Hid (dox ns (↑i, ↑j) (↑k, ↑m) = sgn (ax, ay) (bx, by') (cx, cy) (dx, dy)) := Lib.hid (by rw [Hd.out, dox4, hX', hY']; rfl)
                        clear hX' hY' Hd
                        by_cases hS : (peq (ax, ay) (cx, cy) || peq (ax, ay) (dx, dy) || peq (bx, by') (cx, cy) || peq (bx, by') (dx, dy)) = true
                        · rw [hS]
                          go_wp2
                          go_ret
                          exact ⟨ret_b (by rw [Hv.out, sgn_shared hS]), hx⟩
                        · have hS' := eq_false_of_ne_true hS
                          rw [hS']
                          clear hS hS'
                          go_wp2_with fail
                          have d1 := cell_regrown e1
                          have d2 := cell_regrown e2
                          have d3 := cell_regrown e3
                          have d4 := cell_regrown e4
                          have d5 := cell_regrown e5
                          have d6 := cell_regrown e6
                          have d7 := cell_regrown e7
                          have d8 := cell_regrown e8
                          clear e1 e2 e3 e4 e5 e6 e7 e8
                          unfold sgn at Hv
                          have m1 := isgn_mul_bd (turn0 (ax, ay) (bx, by') (cx, cy)) (turn0 (ax, ay) (bx, by') (dx, dy))
                          have m2 := isgn_mul_bd (turn0 (cx, cy) (dx, dy) (ax, ay)) (turn0 (cx, cy) (dx, dy) (bx, by'))
                          by_cases hs : isgn (turn0 (ax, ay) (bx, by') (cx, cy)) * isgn (turn0 (ax, ay) (bx, by') (dx, dy)) < 0
                          · have g1 : decide (isgn (turn0 (ax, ay) (bx, by') (cx, cy)) * isgn (turn0 (ax, ay) (bx, by') (dx, dy)) < 0) = true := decide_eq_true hs
                            refine rx_open [(true, 0, some 99, 128), (true, 0, some 100, 256), (true, 0, some 101, 512), (false, 7, some 102, 4436777100798802905238461218816), (false, 8, some 103, 5070602400912917605986812821504), (true, 0, some 104, 128), (true, 0, some 105, 256), (true, 0, some 106, 1024), (false, 240, some 107, 141976867225561692967630759002112), (false, 256, some 108, 162259276829213363391578010288128), (true, 528, some 109, 334659758460252561995129646219264), (true, 1024, some 110, 649037107316853453566312041152512), (true, 2560, some 111, 1298074214633706907132624082305024), (true, 4096, some 112, 2596148429267413814265248164610560), (true, 4096, some 113, 2596148429267413814265248164611072), (true, 4096, some 114, 2596148429267413814265248164610176), (false, 61440, some 115, 38942226439011207213978722469150720), (false, 69632, some 116, 44134523297546034842509218798370816), (true, 4096, some 117, 2596148429267413814265248164610560), (true, 4096, some 118, 2596148429267413814265248164611072), (true, 4096, some 119, 2596148429267413814265248164610304), (false, 1970176, some 120, 1165670644741068802605096425909911552), (false, 2101248, some 121, 1331824144214183286718072308444954624), (true, 4329472, some 122, 2744128889735656401678367309992820736), (true, 8392704, some 123, 5319508131568930905429493489285988352), (true, 16781312, some 124, 10636420114708594397044721730407366656), (true, 67108863, some 6, 21267647932558653966460912964485513216)] 0 27 mixd rfl (by kernel_rfl) (by kernel_rfl) (by kernel_rfl) ?_
                            refine rx_run (run := [0, 1, 2, 5, 6, 7]) (k := 21) (m' := 231) rfl (by kernel_rfl) (by kernel_rfl) (by kernel_rfl) (fm_cons rfl <| fm_cons rfl <| fm_cons rfl <| fm_cons rfl <| fm_cons rfl <| fm_cons rfl <| List.filterMap_nil) (by repeat first | exact Ext.refl _ | assumption | refine Ext.drew ?_ | refine Ext.alloc ?_ _ | refine Ext.setCell ?_ (by simp) | refine Ext.setCell ?_ (by simp; omega) | refine Ext.trans ?_ (by assumption)) ?_
                            repeat (go_big_quiet_step ((fail)))
                            refine wpQuiet_nil ?_
                            refine rx_op 3 (k := 20) (m' := 239) rfl rfl (by kernel_rfl) (by kernel_rfl) ?_
                            go_wp2_with (first | (go_at_call 89; refine (l03Sign_s _ _).mono ?_; rintro e w8 ⟨rfl, hb6⟩) | (go_at_call 90; refine (l02Turn_s _ _ _ _ _ _ (by assumption) (by assumption) (by assumption) _).mono ?_; rintro e w8 ⟨rfl, hb6⟩))
                            refine rx_on (by repeat first | exact Ext.refl _ | assumption | refine Ext.drew ?_ | refine Ext.alloc ?_ _ | refine Ext.setCell ?_ (by simp) | refine Ext.setCell ?_ (by simp; omega) | refine Ext.trans ?_ (by assumption)) ?_
                            refine rx_op 4 (k := 19) (m' := 255) rfl rfl (by kernel_rfl) (by kernel_rfl) ?_
                            go_wp2_with (first | (go_at_call 89; refine (l03Sign_s _ _).mono ?_; rintro e w8 ⟨rfl, hb6⟩) | (go_at_call 90; refine (l02Turn_s _ _ _ _ _ _ (by assumption) (by assumption) (by assumption) _).mono ?_; rintro e w8 ⟨rfl, hb6⟩))
                            refine rx_on (by repeat first | exact Ext.refl _ | assumption | refine Ext.drew ?_ | refine Ext.alloc ?_ _ | refine Ext.setCell ?_ (by simp) | refine Ext.setCell ?_ (by simp; omega) | refine Ext.trans ?_ (by assumption)) ?_
                            refine rx_op 8 (k := 18) (m' := 511) rfl rfl (by kernel_rfl) (by kernel_rfl) ?_
                            go_wp2_with (first | (go_at_call 89; refine (l03Sign_s _ _).mono ?_; rintro e w8 ⟨rfl, hb6⟩) | (go_at_call 90; refine (l02Turn_s _ _ _ _ _ _ (by assumption) (by assumption) (by assumption) _).mono ?_; rintro e w8 ⟨rfl, hb6⟩))
                            refine rx_on (by repeat first | exact Ext.refl _ | assumption | refine Ext.drew ?_ | refine Ext.alloc ?_ _ | refine Ext.setCell ?_ (by simp) | refine Ext.setCell ?_ (by simp; omega) | refine Ext.trans ?_ (by assumption)) ?_
                            refine rx_op 9 (k := 17) (m' := 1023) rfl rfl (by kernel_rfl) (by kernel_rfl) ?_
                            go_wp2_with (first | (go_at_call 89; refine (l03Sign_s _ _).mono ?_; rintro e w8 ⟨rfl, hb6⟩) | (go_at_call 90; refine (l02Turn_s _ _ _ _ _ _ (by assumption) (by assumption) (by assumption) _).mono ?_; rintro e w8 ⟨rfl, hb6⟩))
                            refine rx_on (by repeat first | exact Ext.refl _ | assumption | refine Ext.drew ?_ | refine Ext.alloc ?_ _ | refine Ext.setCell ?_ (by simp) | refine Ext.setCell ?_ (by simp; omega) | refine Ext.trans ?_ (by assumption)) ?_
                            refine rx_run (run := [10, 11, 12, 13, 14, 15, 18, 19, 20]) (k := 8) (m' := 1900543) rfl (by kernel_rfl) (by kernel_rfl) (by kernel_rfl) (fm_cons rfl <| fm_cons rfl <| fm_cons rfl <| fm_cons rfl <| fm_cons rfl <| fm_cons rfl <| fm_cons rfl <| fm_cons rfl <| fm_cons rfl <| List.filterMap_nil) (by repeat first | exact Ext.refl _ | assumption | refine Ext.drew ?_ | refine Ext.alloc ?_ _ | refine Ext.setCell ?_ (by simp) | refine Ext.setCell ?_ (by simp; omega) | refine Ext.trans ?_ (by assumption)) ?_
                            repeat (go_big_quiet_step ((fail)))
                            refine wpQuiet_nil ?_
                            refine rx_op 16 (k := 7) (m' := 1966079) rfl rfl (by kernel_rfl) (by kernel_rfl) ?_
                            go_wp2_with (first | (go_at_call 89; refine (l03Sign_s _ _).mono ?_; rintro e w8 ⟨rfl, hb6⟩) | (go_at_call 90; refine (l02Turn_s _ _ _ _ _ _ (by assumption) (by assumption) (by assumption) _).mono ?_; rintro e w8 ⟨rfl, hb6⟩))
                            refine rx_on (by repeat first | exact Ext.refl _ | assumption | refine Ext.drew ?_ | refine Ext.alloc ?_ _ | refine Ext.setCell ?_ (by simp) | refine Ext.setCell ?_ (by simp; omega) | refine Ext.trans ?_ (by assumption)) ?_
                            refine rx_op 17 (k := 6) (m' := 2097151) rfl rfl (by kernel_rfl) (by kernel_rfl) ?_
                            go_wp2_with (first | (go_at_call 89; refine (l03Sign_s _ _).mono ?_; rintro e w8 ⟨rfl, hb6⟩) | (go_at_call 90; refine (l02Turn_s _ _ _ _ _ _ (by assumption) (by assumption) (by assumption) _).mono ?_; rintro e w8 ⟨rfl, hb6⟩))
                            refine rx_on (by repeat first | exact Ext.refl _ | assumption | refine Ext.drew ?_ | refine Ext.alloc ?_ _ | refine Ext.setCell ?_ (by simp) | refine Ext.setCell ?_ (by simp; omega) | refine Ext.trans ?_ (by assumption)) ?_
                            refine rx_op 21 (k := 5) (m' := 4194303) rfl rfl (by kernel_rfl) (by kernel_rfl) ?_
                            go_wp2_with (first | (go_at_call 89; refine (l03Sign_s _ _).mono ?_; rintro e w8 ⟨rfl, hb6⟩) | (go_at_call 90; refine (l02Turn_s _ _ _ _ _ _ (by assumption) (by assumption) (by assumption) _).mono ?_; rintro e w8 ⟨rfl, hb6⟩))
                            refine rx_on (by repeat first | exact Ext.refl _ | assumption | refine Ext.drew ?_ | refine Ext.alloc ?_ _ | refine Ext.setCell ?_ (by simp) | refine Ext.setCell ?_ (by simp; omega) | refine Ext.trans ?_ (by assumption)) ?_
                            refine rx_op 22 (k := 4) (m' := 8388607) rfl rfl (by kernel_rfl) (by kernel_rfl) ?_
                            go_wp2_with (first | (go_at_call 89; refine (l03Sign_s _ _).mono ?_; rintro e w8 ⟨rfl, hb6⟩) | (go_at_call 90; refine (l02Turn_s _ _ _ _ _ _ (by assumption) (by assumption) (by assumption) _).mono ?_; rintro e w8 ⟨rfl, hb6⟩))
                            refine rx_on (by repeat first | exact Ext.refl _ | assumption | refine Ext.drew ?_ | refine Ext.alloc ?_ _ | refine Ext.setCell ?_ (by simp) | refine Ext.setCell ?_ (by simp; omega) | refine Ext.trans ?_ (by assumption)) ?_
                            refine rx_run (run := [23, 24, 25, 26]) (k := 0) (m' := 134217727) rfl (by kernel_rfl) (by kernel_rfl) (by kernel_rfl) (fm_cons rfl <| fm_cons rfl <| fm_cons rfl <| fm_cons rfl <| List.filterMap_nil) (by repeat first | exact Ext.refl _ | assumption | refine Ext.drew ?_ | refine Ext.alloc ?_ _ | refine Ext.setCell ?_ (by simp) | refine Ext.setCell ?_ (by simp; omega) | refine Ext.trans ?_ (by assumption)) ?_
                            repeat (go_big_quiet_step ((fail)))
                            refine wpQuiet_nil ?_
                            refine rx_end (by kernel_rfl) ?_
                            go_wp2
                            go_ret
                            exact ⟨ret_b (by rw [Hv.out]; exact sgn_t hs), hx.trans (by repeat first | exact Ext.refl _ | assumption | refine Ext.drew ?_ | refine Ext.alloc ?_ _ | refine Ext.setCell ?_ (by simp) | refine Ext.setCell ?_ (by simp; omega) | refine Ext.trans ?_ (by assumption))⟩
                          · have g1 : decide (isgn (turn0 (ax, ay) (bx, by') (cx, cy)) * isgn (turn0 (ax, ay) (bx, by') (dx, dy)) < 0) = false := decide_eq_false hs
                            refine rx_open [(true, 0, some 99, 128), (true, 0, some 100, 256), (true, 0, some 101, 512), (false, 7, some 102, 4436777100798802905238461218816), (false, 8, some 103, 5070602400912917605986812821504), (true, 0, some 104, 128), (true, 0, some 105, 256), (true, 0, some 106, 1024), (false, 240, some 107, 141976867225561692967630759002112), (false, 256, some 108, 162259276829213363391578010288128), (true, 528, some 109, 334659758460252561995129646219264), (true, 1024, some 110, 649037107316853453566312041152512), (true, 2560, some 111, 1298074214633706907132624082305024), (true, 4096, some 112, 2596148429267413814265248164610560), (true, 4096, some 113, 2596148429267413814265248164611072), (true, 4096, some 114, 2596148429267413814265248164610176), (false, 61440, some 115, 38942226439011207213978722469150720), (false, 69632, some 116, 44134523297546034842509218798370816), (true, 4096, some 117, 2596148429267413814265248164610560), (true, 4096, some 118, 2596148429267413814265248164611072), (true, 4096, some 119, 2596148429267413814265248164610304), (false, 1970176, some 120, 1165670644741068802605096425909911552), (false, 2101248, some 121, 1331824144214183286718072308444954624), (true, 4329472, some 122, 2744128889735656401678367309992820736), (true, 8392704, some 123, 5319508131568930905429493489285988352), (true, 16781312, some 124, 10636420114708594397044721730407366656), (true, 67108863, some 6, 21267647932558653966460912964485513216)] 0 27 mixd rfl (by kernel_rfl) (by kernel_rfl) (by kernel_rfl) ?_
                            refine rx_run (run := [0, 1, 2, 5, 6, 7]) (k := 21) (m' := 231) rfl (by kernel_rfl) (by kernel_rfl) (by kernel_rfl) (fm_cons rfl <| fm_cons rfl <| fm_cons rfl <| fm_cons rfl <| fm_cons rfl <| fm_cons rfl <| List.filterMap_nil) (by repeat first | exact Ext.refl _ | assumption | refine Ext.drew ?_ | refine Ext.alloc ?_ _ | refine Ext.setCell ?_ (by simp) | refine Ext.setCell ?_ (by simp; omega) | refine Ext.trans ?_ (by assumption)) ?_
                            repeat (go_big_quiet_step ((fail)))
                            refine wpQuiet_nil ?_
                            refine rx_op 3 (k := 20) (m' := 239) rfl rfl (by kernel_rfl) (by kernel_rfl) ?_
                            go_wp2_with (first | (go_at_call 89; refine (l03Sign_s _ _).mono ?_; rintro e w8 ⟨rfl, hb6⟩) | (go_at_call 90; refine (l02Turn_s _ _ _ _ _ _ (by assumption) (by assumption) (by assumption) _).mono ?_; rintro e w8 ⟨rfl, hb6⟩))
                            refine rx_on (by repeat first | exact Ext.refl _ | assumption | refine Ext.drew ?_ | refine Ext.alloc ?_ _ | refine Ext.setCell ?_ (by simp) | refine Ext.setCell ?_ (by simp; omega) | refine Ext.trans ?_ (by assumption)) ?_
                            refine rx_op 4 (k := 19) (m' := 255) rfl rfl (by kernel_rfl) (by kernel_rfl) ?_
                            go_wp2_with (first | (go_at_call 89; refine (l03Sign_s _ _).mono ?_; rintro e w8 ⟨rfl, hb6⟩) | (go_at_call 90; refine (l02Turn_s _ _ _ _ _ _ (by assumption) (by assumption) (by assumption) _).mono ?_; rintro e w8 ⟨rfl, hb6⟩))
                            refine rx_on (by repeat first | exact Ext.refl _ | assumption | refine Ext.drew ?_ | refine Ext.alloc ?_ _ | refine Ext.setCell ?_ (by simp) | refine Ext.setCell ?_ (by simp; omega) | refine Ext.trans ?_ (by assumption)) ?_
                            refine rx_op 8 (k := 18) (m' := 511) rfl rfl (by kernel_rfl) (by kernel_rfl) ?_
                            go_wp2_with (first | (go_at_call 89; refine (l03Sign_s _ _).mono ?_; rintro e w8 ⟨rfl, hb6⟩) | (go_at_call 90; refine (l02Turn_s _ _ _ _ _ _ (by assumption) (by assumption) (by assumption) _).mono ?_; rintro e w8 ⟨rfl, hb6⟩))
                            refine rx_on (by repeat first | exact Ext.refl _ | assumption | refine Ext.drew ?_ | refine Ext.alloc ?_ _ | refine Ext.setCell ?_ (by simp) | refine Ext.setCell ?_ (by simp; omega) | refine Ext.trans ?_ (by assumption)) ?_
                            refine rx_op 9 (k := 17) (m' := 1023) rfl rfl (by kernel_rfl) (by kernel_rfl) ?_
                            go_wp2_with (first | (go_at_call 89; refine (l03Sign_s _ _).mono ?_; rintro e w8 ⟨rfl, hb6⟩) | (go_at_call 90; refine (l02Turn_s _ _ _ _ _ _ (by assumption) (by assumption) (by assumption) _).mono ?_; rintro e w8 ⟨rfl, hb6⟩))
                            refine rx_on (by repeat first | exact Ext.refl _ | assumption | refine Ext.drew ?_ | refine Ext.alloc ?_ _ | refine Ext.setCell ?_ (by simp) | refine Ext.setCell ?_ (by simp; omega) | refine Ext.trans ?_ (by assumption)) ?_
                            refine rx_run (run := [10, 11, 12, 13, 14, 15, 18, 19, 20]) (k := 8) (m' := 1900543) rfl (by kernel_rfl) (by kernel_rfl) (by kernel_rfl) (fm_cons rfl <| fm_cons rfl <| fm_cons rfl <| fm_cons rfl <| fm_cons rfl <| fm_cons rfl <| fm_cons rfl <| fm_cons rfl <| fm_cons rfl <| List.filterMap_nil) (by repeat first | exact Ext.refl _ | assumption | refine Ext.drew ?_ | refine Ext.alloc ?_ _ | refine Ext.setCell ?_ (by simp) | refine Ext.setCell ?_ (by simp; omega) | refine Ext.trans ?_ (by assumption)) ?_
                            repeat (go_big_quiet_step ((fail)))
                            refine wpQuiet_nil ?_
                            refine rx_op 16 (k := 7) (m' := 1966079) rfl rfl (by kernel_rfl) (by kernel_rfl) ?_
                            go_wp2_with (first | (go_at_call 89; refine (l03Sign_s _ _).mono ?_; rintro e w8 ⟨rfl, hb6⟩) | (go_at_call 90; refine (l02Turn_s _ _ _ _ _ _ (by assumption) (by assumption) (by assumption) _).mono ?_; rintro e w8 ⟨rfl, hb6⟩))
                            refine rx_on (by repeat first | exact Ext.refl _ | assumption | refine Ext.drew ?_ | refine Ext.alloc ?_ _ | refine Ext.setCell ?_ (by simp) | refine Ext.setCell ?_ (by simp; omega) | refine Ext.trans ?_ (by assumption)) ?_
                            refine rx_op 17 (k := 6) (m' := 2097151) rfl rfl (by kernel_rfl) (by kernel_rfl) ?_
                            go_wp2_with (first | (go_at_call 89; refine (l03Sign_s _ _).mono ?_; rintro e w8 ⟨rfl, hb6⟩) | (go_at_call 90; refine (l02Turn_s _ _ _ _ _ _ (by assumption) (by assumption) (by assumption) _).mono ?_; rintro e w8 ⟨rfl, hb6⟩))
                            refine rx_on (by repeat first | exact Ext.refl _ | assumption | refine Ext.drew ?_ | refine Ext.alloc ?_ _ | refine Ext.setCell ?_ (by simp) | refine Ext.setCell ?_ (by simp; omega) | refine Ext.trans ?_ (by assumption)) ?_
                            refine rx_op 21 (k := 5) (m' := 4194303) rfl rfl (by kernel_rfl) (by kernel_rfl) ?_
                            go_wp2_with (first | (go_at_call 89; refine (l03Sign_s _ _).mono ?_; rintro e w8 ⟨rfl, hb6⟩) | (go_at_call 90; refine (l02Turn_s _ _ _ _ _ _ (by assumption) (by assumption) (by assumption) _).mono ?_; rintro e w8 ⟨rfl, hb6⟩))
                            refine rx_on (by repeat first | exact Ext.refl _ | assumption | refine Ext.drew ?_ | refine Ext.alloc ?_ _ | refine Ext.setCell ?_ (by simp) | refine Ext.setCell ?_ (by simp; omega) | refine Ext.trans ?_ (by assumption)) ?_
                            refine rx_op 22 (k := 4) (m' := 8388607) rfl rfl (by kernel_rfl) (by kernel_rfl) ?_
                            go_wp2_with (first | (go_at_call 89; refine (l03Sign_s _ _).mono ?_; rintro e w8 ⟨rfl, hb6⟩) | (go_at_call 90; refine (l02Turn_s _ _ _ _ _ _ (by assumption) (by assumption) (by assumption) _).mono ?_; rintro e w8 ⟨rfl, hb6⟩))
                            refine rx_on (by repeat first | exact Ext.refl _ | assumption | refine Ext.drew ?_ | refine Ext.alloc ?_ _ | refine Ext.setCell ?_ (by simp) | refine Ext.setCell ?_ (by simp; omega) | refine Ext.trans ?_ (by assumption)) ?_
                            refine rx_run (run := [23, 24, 25, 26]) (k := 0) (m' := 134217727) rfl (by kernel_rfl) (by kernel_rfl) (by kernel_rfl) (fm_cons rfl <| fm_cons rfl <| fm_cons rfl <| fm_cons rfl <| List.filterMap_nil) (by repeat first | exact Ext.refl _ | assumption | refine Ext.drew ?_ | refine Ext.alloc ?_ _ | refine Ext.setCell ?_ (by simp) | refine Ext.setCell ?_ (by simp; omega) | refine Ext.trans ?_ (by assumption)) ?_
                            repeat (go_big_quiet_step ((fail)))
                            refine wpQuiet_nil ?_
                            refine rx_end (by kernel_rfl) ?_
                            go_wp2
                            go_ret
                            exact ⟨ret_b (by rw [Hv.out]; exact sgn_f (Int.not_lt.2 hs)), hx.trans (by repeat first | exact Ext.refl _ | assumption | refine Ext.drew ?_ | refine Ext.alloc ?_ _ | refine Ext.setCell ?_ (by simp) | refine Ext.setCell ?_ (by simp; omega) | refine Ext.trans ?_ (by assumption))⟩
    · have h2' := eq_false_of_ne_true h2
      have hd : dox ns (p, q) (r, s) = false := by simp only [dox, h2', Bool.and_false, Bool.false_and]
      clear h2
      go_enter Tryz.func71, Tryz.ntmps71
      go_wp2_with fail
      refine (LeadOk_s A c ns _ _ _ hl (h.ext (by repeat first | exact Ext.refl _ | assumption | refine Ext.drew ?_ | refine Ext.alloc ?_ _ | refine Ext.setCell ?_ (by simp) | refine Ext.setCell ?_ (by simp; omega) | refine Ext.trans ?_ (by assumption)))).mono ?_
      rintro e w1 ⟨rfl, hb⟩
      have k2 := hb.lit (b := w.heap.size + 1) (o := 0) (v := .int .i64 r) (by go_simp)
      have k3 := hb.lit (b := w.heap.size + 1) (o := 1) (v := .int .i64 s) (by go_simp)
      have hx : Ext w w1 := (by repeat first | exact Ext.refl _ | assumption | refine Ext.drew ?_ | refine Ext.alloc ?_ _ | refine Ext.setCell ?_ (by simp) | refine Ext.setCell ?_ (by simp; omega) | refine Ext.trans ?_ (by assumption))
      rw [h1]
      clear hb
      go_wp2_with fail
      refine (LeadOk_s A c ns _ _ _ hl (h.ext hx)).mono ?_
      rintro e w2 ⟨rfl, hb⟩
      rw [h2']
      have hx := hx.trans hb
      clear hb
      go_wp2
      go_ret
      exact ⟨ret_b hd.symm, hx⟩
  · have h1' := eq_false_of_ne_true h1
    have hd : dox ns (p, q) (r, s) = false := by simp only [dox, h1', Bool.false_and]
    clear h1
    go_enter Tryz.func71, Tryz.ntmps71
    go_wp2_with fail
    refine (LeadOk_s A c ns _ _ _ hl (h.ext (by repeat first | exact Ext.refl _ | assumption | refine Ext.drew ?_ | refine Ext.alloc ?_ _ | refine Ext.setCell ?_ (by simp) | refine Ext.setCell ?_ (by simp; omega) | refine Ext.trans ?_ (by assumption)))).mono ?_
    rintro e w1 ⟨rfl, hb⟩
    have k2 := hb.lit (b := w.heap.size + 1) (o := 0) (v := .int .i64 r) (by go_simp)
    have k3 := hb.lit (b := w.heap.size + 1) (o := 1) (v := .int .i64 s) (by go_simp)
    have hx : Ext w w1 := (by repeat first | exact Ext.refl _ | assumption | refine Ext.drew ?_ | refine Ext.alloc ?_ _ | refine Ext.setCell ?_ (by simp) | refine Ext.setCell ?_ (by simp; omega) | refine Ext.trans ?_ (by assumption))
    rw [h1']
    clear hb
    go_wp2
    go_ret
    exact ⟨ret_b hd.symm, hx⟩
end Go.Proofs.YtdhmjhoaegdfjaaGreat
