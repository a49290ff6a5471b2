import Derived.Test.YtdhmjhoaegdfjaaD1
import Derived.Deep.DeepCutAuto
import Derived.Outline
namespace Go.Proofs.Ytdhmjhoaegdfjaa
open Go.RowKit Go.Sort Go.BigFrame

/-- what the comparison hands back -/
def cmpv (ns ls : List P2) (k : Int) (x y : Nat) : Int := if dlt ns ls k x y = true then -1 else 1

set_option maxRecDepth 100000 in
set_option maxHeartbeats 40000000 in
theorem cmp_c (gw gk : Nat) (A B : Option Addr) (c d : Nat) (ns ls : List P2) (k x y : Nat) (w : World) (h : Wn w A c B d ns ls) (hW : WOk ns ls) (hk : k < ns.length) (hx : x < 2 * ls.length) (hy : y < 2 * ls.length) (hxy : x ≠ y)
    (k0 : w.cell? ⟨gw, 0, none⟩ = some (.slice A ns.length c)) (k1 : w.cell? ⟨gw, 1, none⟩ = some (.slice B ls.length d)) (kk : w.cell? ⟨gk, 0, none⟩ = some (.int .i64 (k : Int))) :
    Calls Try.prog 117 #[.int .i64 (x : Int), .int .i64 (y : Int), .pointer (some ⟨gw, 0, none⟩), .pointer (some ⟨gk, 0, none⟩)] w fun e w' => e = .returned (.int .i64 (cmpv ns ls k x y)) ∧ Ext w w' := by
  have hn := hW.hi
  have hm := hW.le
  have hne : ((x : Int) == (y : Int)) = false := beq_eq_false_iff_ne.2 (by omega)
  obtain ⟨f1, t1, e1, -, ht1⟩ := dEnds_ok hW hx
  obtain ⟨f2, t2, e2, -, ht2⟩ := dEnds_ok hW hy
  have HX : Hid ((dEnds ls (x ^^^ 1)).1 = (t1 : Int)) := Lib.hid (by rw [dEnds_xor, e1])
  have HY : Hid ((dEnds ls (y ^^^ 1)).1 = (t2 : Int)) := Lib.hid (by rw [dEnds_xor, e2])
  have HC : Hid (cmpv ns ls k x y = if bfa (gp ns k) (gp ns t1) (gp ns t2) = true then -1 else 1) := Lib.hid (by unfold cmpv dlt; rw [e1, e2])
  have hx1 := xor1_lt hx
  have hy1 := xor1_lt hy
  have xx := xor1_w x (by omega)
  have xy := xor1_w y (by omega)
  have q1 := nok_at hW hk
  have q2 := nok_at hW ht1
  have q3 := nok_at hW ht2
  obtain ⟨bb, off, rfl, hbb, n1, n2⟩ := h.h.gp_ hk
  obtain ⟨b', off', he, hbb', n3, n4⟩ := h.h.gp_ ht1
  obtain ⟨rfl, rfl⟩ : bb = b' ∧ off = off' := by simpa using he
  clear he hbb'
  obtain ⟨b', off', he, hbb', n5, n6⟩ := h.h.gp_ ht2
  obtain ⟨rfl, rfl⟩ : bb = b' ∧ off = off' := by simpa using he
  clear he hbb' hW e1 e2
  have u1 : (k : Int) < ns.length := by omega
  have u2 : (t1 : Int) < ns.length := by omega
  have u3 : (t2 : Int) < ns.length := by omega
  generalize gp ns k = X at *
  generalize gp ns t1 = Y at *
  generalize gp ns t2 = Z at *
  obtain ⟨ax, ay⟩ := X
  obtain ⟨bx, by'⟩ := Y
  obtain ⟨cx, cy⟩ := Z
  generalize x ^^^ 1 = x1 at *
  generalize y ^^^ 1 = y1 at *
  go_enter Try.func117, Try.ntmps117
  go_wp2_with fail
  go_cut [7, 8, 9] (fun s7 s8 s9 wx => ∃ g7 g8 g9, s7 = .pointer (some ⟨g7, 0, none⟩) ∧ s8 = .pointer (some ⟨g8, 0, none⟩) ∧ s9 = .pointer (some ⟨g9, 0, none⟩) ∧ wx.cell? ⟨g7, 0, none⟩ = some (.int .i64 ax) ∧ wx.cell? ⟨g7, 1, none⟩ = some (.int .i64 ay) ∧
    wx.cell? ⟨g8, 0, none⟩ = some (.int .i64 bx) ∧ wx.cell? ⟨g8, 1, none⟩ = some (.int .i64 by') ∧ wx.cell? ⟨g9, 0, none⟩ = some (.int .i64 cx) ∧ wx.cell? ⟨g9, 1, none⟩ = some (.int .i64 cy) ∧ Ext w wx)
  case first =>
    have d0 := cell_regrown k0
    have d1 := cell_regrown k1
    have d2 := cell_regrown kk
    have d3 := cell_regrown n1
    have d4 := cell_regrown n2
    have d5 := cell_regrown n3
    have d6 := cell_regrown n4
    have d7 := cell_regrown n5
    have d8 := cell_regrown n6
    refine rx_open [(true, 0, some 10, 4), (true, 1, some 11, 1024), (true, 0, some 12, 8), (true, 6, some 13, 6144), (true, 8, some 14, 8192), (true, 0, some 15, 4), (true, 32, some 16, 32768), (true, 0, some 17, 4), (true, 0, some 18, 1), (true, 256, some 19, 262144), (false, 640, some 20, 655360), (true, 1088, some 21, 1114112), (true, 2048, some 22, 2097152), (true, 0, some 23, 4), (true, 8192, some 24, 8388608), (true, 0, some 25, 4), (true, 0, some 26, 2), (true, 65536, some 27, 67108864), (false, 164864, some 28, 167772160), (true, 278528, some 29, 285212672), (true, 524288, some 30, 536870912), (false, 0, some 7, 0), (false, 0, some 8, 0), (false, 0, some 9, 0), (false, 14942239, none, 16512), (false, 31465471, none, 4194560), (false, 67108863, none, 1073742336)] 67108864 27 mixd rfl (by kernel_rfl) (by kernel_rfl) (by kernel_rfl) ?_
    have hxc := Ext.drew (Ext.refl w)
    obtain ⟨wz, hwz⟩ : ∃ x : World, x = w.drew := ⟨_, rfl⟩
    rw [← hwz]
    rw [← hwz] at hxc
    clear hwz
    apply rx_memo
    intro M23
    apply rx_memo
    intro M22
    apply rx_memo
    intro M21
    apply rx_memo
    intro M20
    apply rx_memo
    intro M19
    apply rx_memo
    intro M18
    apply rx_memo
    intro M17
    apply rx_memo
    intro M16
    apply rx_memo
    intro M15
    apply rx_memo
    intro M14
    apply rx_memo
    intro M13
    apply rx_memo
    intro M12
    apply rx_memo
    intro M11
    apply rx_memo
    intro M10
    apply rx_memo
    intro M9
    apply rx_memo
    intro M8
    apply rx_memo
    intro M7
    apply rx_memo
    intro M6
    apply rx_memo
    intro M5
    apply rx_memo
    intro M4
    apply rx_memo
    intro M3
    apply rx_memo
    intro M2
    apply rx_memo
    intro M1
    · skip
      refine rx_run (run := [0, 1, 2, 3, 4, 5, 6, 7, 8, 9, 13, 14, 15, 16, 17]) (k := 12) (m' := 254975) rfl (by kernel_rfl) (by kernel_rfl) (by kernel_rfl) (fm_cons rfl <| fm_cons rfl <| fm_cons rfl <| fm_cons rfl <| fm_cons rfl <| fm_cons rfl <| fm_cons rfl <| fm_cons rfl <| fm_cons rfl <| fm_cons rfl <| fm_cons rfl <| fm_cons rfl <| fm_cons rfl <| fm_cons rfl <| fm_cons rfl <| List.filterMap_nil) hxc ?_
      repeat (go_big_quiet_step ((fail)))
      refine wpQuiet_nil ?_
      refine rx_four 10 21 22 23 (k := 11) (mi := 255999) (mj := 2352127) (mk := 4449279) (ml := 8643583) rfl rfl rfl rfl rfl (by kernel_rfl) (by kernel_rfl) (by kernel_rfl) (by kernel_rfl) (by kernel_rfl) ?_ ?_ ?_ ?_
      · skip
        go_wp2_with (go_at_call 85; ((with_reducible refine (dartFrom_c _ _ _ _ ns ls x1 _ (h.ext hxc) hx1).mono ?_); rw [HX.out]; rintro e w5 ⟨rfl, hb5⟩); replace hxc := Ext.trans hxc hb5; clear hb5)
        refine rx_on hxc ?_
        refine rx_run (run := [11, 12]) (k := 9) (m' := 262143) rfl (by kernel_rfl) (by kernel_rfl) (by kernel_rfl) (fm_cons rfl <| fm_cons rfl <| List.filterMap_nil) hxc ?_
        repeat (go_big_quiet_step ((fail)))
        refine wpQuiet_nil ?_
        revert hxc
        revert w5
        exact M7
      · skip
        go_wp2
        refine rx_on (Ext.alloc hxc _) ?_
        generalize hg : (wz).heap.size = g7
        refine rx_gen3 hxc hg ?_
        intro wn hbn hxn v7
        clear hg hbn
        replace hxc := hxn
        clear hxn
        revert v7
        revert hxc
        revert wn
        revert g7
        exact M1
      · skip
        go_wp2
        refine rx_on (Ext.alloc hxc _) ?_
        generalize hg : (wz).heap.size = g8
        refine rx_gen3 hxc hg ?_
        intro wn hbn hxn v8
        clear hg hbn
        replace hxc := hxn
        clear hxn
        revert v8
        revert hxc
        revert wn
        revert g8
        exact M2
      · skip
        go_wp2
        refine rx_on (Ext.alloc hxc _) ?_
        generalize hg : (wz).heap.size = g9
        refine rx_gen3 hxc hg ?_
        intro wn hbn hxn v9
        clear hg hbn
        replace hxc := hxn
        clear hxn
        revert v9
        revert hxc
        revert wn
        revert g9
        exact M3
    · skip
      intro g7 wz hxc v7
      refine rx_three 10 22 23 (k := 10) (mi := 2353151) (mj := 6546431) (mk := 10740735) rfl rfl rfl rfl (by kernel_rfl) (by kernel_rfl) (by kernel_rfl) (by kernel_rfl) ?_ ?_ ?_
      · skip
        go_wp2_with (go_at_call 85; ((with_reducible refine (dartFrom_c _ _ _ _ ns ls x1 _ (h.ext hxc) hx1).mono ?_); rw [HX.out]; rintro e w5 ⟨rfl, hb5⟩); replace hxc := Ext.trans hxc hb5; replace v7 := v7.ext hb5; clear hb5)
        refine rx_on hxc ?_
        refine rx_run (run := [11, 12]) (k := 8) (m' := 2359295) rfl (by kernel_rfl) (by kernel_rfl) (by kernel_rfl) (fm_cons rfl <| fm_cons rfl <| List.filterMap_nil) hxc ?_
        repeat (go_big_quiet_step ((fail)))
        refine wpQuiet_nil ?_
        revert v7
        revert hxc
        revert w5
        revert g7
        exact M9
      · skip
        go_wp2
        refine rx_on (Ext.alloc hxc _) ?_
        generalize hg : (wz).heap.size = g8
        refine rx_gen3 hxc hg ?_
        intro wn hbn hxn v8
        have n7_8 : g7 ≠ g8 := by have := v7.2.2.2.2.1; omega
        have n8_7 := Ne.symm n7_8
        replace v7 := v7.ext hbn
        clear hg hbn
        replace hxc := hxn
        clear hxn
        revert n8_7
        revert n7_8
        revert v8
        revert v7
        revert hxc
        revert wn
        revert g8
        revert g7
        exact M4
      · skip
        go_wp2
        refine rx_on (Ext.alloc hxc _) ?_
        generalize hg : (wz).heap.size = g9
        refine rx_gen3 hxc hg ?_
        intro wn hbn hxn v9
        have n7_9 : g7 ≠ g9 := by have := v7.2.2.2.2.1; omega
        have n9_7 := Ne.symm n7_9
        replace v7 := v7.ext hbn
        clear hg hbn
        replace hxc := hxn
        clear hxn
        revert n9_7
        revert n7_9
        revert v9
        revert v7
        revert hxc
        revert wn
        revert g9
        revert g7
        exact M5
    · skip
      intro g8 wz hxc v8
      refine rx_three 10 21 23 (k := 10) (mi := 4450303) (mj := 6546431) (mk := 12837887) rfl rfl rfl rfl (by kernel_rfl) (by kernel_rfl) (by kernel_rfl) (by kernel_rfl) ?_ ?_ ?_
      · skip
        go_wp2_with (go_at_call 85; ((with_reducible refine (dartFrom_c _ _ _ _ ns ls x1 _ (h.ext hxc) hx1).mono ?_); rw [HX.out]; rintro e w5 ⟨rfl, hb5⟩); replace hxc := Ext.trans hxc hb5; replace v8 := v8.ext hb5; clear hb5)
        refine rx_on hxc ?_
        refine rx_run (run := [11, 12]) (k := 8) (m' := 4456447) rfl (by kernel_rfl) (by kernel_rfl) (by kernel_rfl) (fm_cons rfl <| fm_cons rfl <| List.filterMap_nil) hxc ?_
        repeat (go_big_quiet_step ((fail)))
        refine wpQuiet_nil ?_
        revert v8
        revert hxc
        revert w5
        revert g8
        exact M10
      · skip
        go_wp2
        refine rx_on (Ext.alloc hxc _) ?_
        generalize hg : (wz).heap.size = g7
        refine rx_gen3 hxc hg ?_
        intro wn hbn hxn v7
        have n8_7 : g8 ≠ g7 := by have := v8.2.2.2.2.1; omega
        have n7_8 := Ne.symm n8_7
        replace v8 := v8.ext hbn
        clear hg hbn
        replace hxc := hxn
        clear hxn
        revert n8_7
        revert n7_8
        revert v8
        revert v7
        revert hxc
        revert wn
        revert g8
        revert g7
        exact M4
      · skip
        go_wp2
        refine rx_on (Ext.alloc hxc _) ?_
        generalize hg : (wz).heap.size = g9
        refine rx_gen3 hxc hg ?_
        intro wn hbn hxn v9
        have n8_9 : g8 ≠ g9 := by have := v8.2.2.2.2.1; omega
        have n9_8 := Ne.symm n8_9
        replace v8 := v8.ext hbn
        clear hg hbn
        replace hxc := hxn
        clear hxn
        revert n9_8
        revert n8_9
        revert v9
        revert v8
        revert hxc
        revert wn
        revert g9
        revert g8
        exact M6
    · skip
      intro g9 wz hxc v9
      refine rx_three 10 21 22 (k := 10) (mi := 8644607) (mj := 10740735) (mk := 12837887) rfl rfl rfl rfl (by kernel_rfl) (by kernel_rfl) (by kernel_rfl) (by kernel_rfl) ?_ ?_ ?_
      · skip
        go_wp2_with (go_at_call 85; ((with_reducible refine (dartFrom_c _ _ _ _ ns ls x1 _ (h.ext hxc) hx1).mono ?_); rw [HX.out]; rintro e w5 ⟨rfl, hb5⟩); replace hxc := Ext.trans hxc hb5; replace v9 := v9.ext hb5; clear hb5)
        refine rx_on hxc ?_
        refine rx_run (run := [11, 12]) (k := 8) (m' := 8650751) rfl (by kernel_rfl) (by kernel_rfl) (by kernel_rfl) (fm_cons rfl <| fm_cons rfl <| List.filterMap_nil) hxc ?_
        repeat (go_big_quiet_step ((fail)))
        refine wpQuiet_nil ?_
        revert v9
        revert hxc
        revert w5
        revert g9
        exact M11
      · skip
        go_wp2
        refine rx_on (Ext.alloc hxc _) ?_
        generalize hg : (wz).heap.size = g7
        refine rx_gen3 hxc hg ?_
        intro wn hbn hxn v7
        have n9_7 : g9 ≠ g7 := by have := v9.2.2.2.2.1; omega
        have n7_9 := Ne.symm n9_7
        replace v9 := v9.ext hbn
        clear hg hbn
        replace hxc := hxn
        clear hxn
        revert n9_7
        revert n7_9
        revert v9
        revert v7
        revert hxc
        revert wn
        revert g9
        revert g7
        exact M5
      · skip
        go_wp2
        refine rx_on (Ext.alloc hxc _) ?_
        generalize hg : (wz).heap.size = g8
        refine rx_gen3 hxc hg ?_
        intro wn hbn hxn v8
        have n9_8 : g9 ≠ g8 := by have := v9.2.2.2.2.1; omega
        have n8_9 := Ne.symm n9_8
        replace v9 := v9.ext hbn
        clear hg hbn
        replace hxc := hxn
        clear hxn
        revert n9_8
        revert n8_9
        revert v9
        revert v8
        revert hxc
        revert wn
        revert g9
        revert g8
        exact M6
    · skip
      intro g7 g8 wz hxc v7 v8 n7_8 n8_7
      refine rx_two 10 23 (k := 9) (mi := 6547455) (mj := 14935039) rfl rfl rfl (by kernel_rfl) (by kernel_rfl) (by kernel_rfl) ?_ ?_
      · skip
        go_wp2_with (go_at_call 85; ((with_reducible refine (dartFrom_c _ _ _ _ ns ls x1 _ (h.ext hxc) hx1).mono ?_); rw [HX.out]; rintro e w5 ⟨rfl, hb5⟩); replace hxc := Ext.trans hxc hb5; replace v7 := v7.ext hb5; replace v8 := v8.ext hb5; clear hb5)
        refine rx_on hxc ?_
        refine rx_run (run := [11, 12]) (k := 7) (m' := 6553599) rfl (by kernel_rfl) (by kernel_rfl) (by kernel_rfl) (fm_cons rfl <| fm_cons rfl <| List.filterMap_nil) hxc ?_
        repeat (go_big_quiet_step ((fail)))
        refine wpQuiet_nil ?_
        revert n8_7
        revert n7_8
        revert v8
        revert v7
        revert hxc
        revert w5
        revert g8
        revert g7
        exact M12
      · skip
        go_wp2
        refine rx_on (Ext.alloc hxc _) ?_
        generalize hg : (wz).heap.size = g9
        refine rx_gen3 hxc hg ?_
        intro wn hbn hxn v9
        have n7_9 : g7 ≠ g9 := by have := v7.2.2.2.2.1; omega
        have n9_7 := Ne.symm n7_9
        replace v7 := v7.ext hbn
        have n8_9 : g8 ≠ g9 := by have := v8.2.2.2.2.1; omega
        have n9_8 := Ne.symm n8_9
        replace v8 := v8.ext hbn
        clear hg hbn
        replace hxc := hxn
        clear hxn
        revert n9_8
        revert n9_7
        revert n8_9
        revert n8_7
        revert n7_9
        revert n7_8
        revert v9
        revert v8
        revert v7
        revert hxc
        revert wn
        revert g9
        revert g8
        revert g7
        exact M8
    · skip
      intro g7 g9 wz hxc v7 v9 n7_9 n9_7
      refine rx_two 10 22 (k := 9) (mi := 10741759) (mj := 14935039) rfl rfl rfl (by kernel_rfl) (by kernel_rfl) (by kernel_rfl) ?_ ?_
      · skip
        go_wp2_with (go_at_call 85; ((with_reducible refine (dartFrom_c _ _ _ _ ns ls x1 _ (h.ext hxc) hx1).mono ?_); rw [HX.out]; rintro e w5 ⟨rfl, hb5⟩); replace hxc := Ext.trans hxc hb5; replace v7 := v7.ext hb5; replace v9 := v9.ext hb5; clear hb5)
        refine rx_on hxc ?_
        refine rx_run (run := [11, 12]) (k := 7) (m' := 10747903) rfl (by kernel_rfl) (by kernel_rfl) (by kernel_rfl) (fm_cons rfl <| fm_cons rfl <| List.filterMap_nil) hxc ?_
        repeat (go_big_quiet_step ((fail)))
        refine wpQuiet_nil ?_
        revert n9_7
        revert n7_9
        revert v9
        revert v7
        revert hxc
        revert w5
        revert g9
        revert g7
        exact M13
      · skip
        go_wp2
        refine rx_on (Ext.alloc hxc _) ?_
        generalize hg : (wz).heap.size = g8
        refine rx_gen3 hxc hg ?_
        intro wn hbn hxn v8
        have n7_8 : g7 ≠ g8 := by have := v7.2.2.2.2.1; omega
        have n8_7 := Ne.symm n7_8
        replace v7 := v7.ext hbn
        have n9_8 : g9 ≠ g8 := by have := v9.2.2.2.2.1; omega
        have n8_9 := Ne.symm n9_8
        replace v9 := v9.ext hbn
        clear hg hbn
        replace hxc := hxn
        clear hxn
        revert n9_8
        revert n9_7
        revert n8_9
        revert n8_7
        revert n7_9
        revert n7_8
        revert v9
        revert v8
        revert v7
        revert hxc
        revert wn
        revert g9
        revert g8
        revert g7
        exact M8
    · skip
      intro g8 g9 wz hxc v8 v9 n8_9 n9_8
      refine rx_two 10 21 (k := 9) (mi := 12838911) (mj := 14935039) rfl rfl rfl (by kernel_rfl) (by kernel_rfl) (by kernel_rfl) ?_ ?_
      · skip
        go_wp2_with (go_at_call 85; ((with_reducible refine (dartFrom_c _ _ _ _ ns ls x1 _ (h.ext hxc) hx1).mono ?_); rw [HX.out]; rintro e w5 ⟨rfl, hb5⟩); replace hxc := Ext.trans hxc hb5; replace v8 := v8.ext hb5; replace v9 := v9.ext hb5; clear hb5)
        refine rx_on hxc ?_
        refine rx_run (run := [11, 12]) (k := 7) (m' := 12845055) rfl (by kernel_rfl) (by kernel_rfl) (by kernel_rfl) (fm_cons rfl <| fm_cons rfl <| List.filterMap_nil) hxc ?_
        repeat (go_big_quiet_step ((fail)))
        refine wpQuiet_nil ?_
        revert n9_8
        revert n8_9
        revert v9
        revert v8
        revert hxc
        revert w5
        revert g9
        revert g8
        exact M14
      · skip
        go_wp2
        refine rx_on (Ext.alloc hxc _) ?_
        generalize hg : (wz).heap.size = g7
        refine rx_gen3 hxc hg ?_
        intro wn hbn hxn v7
        have n8_7 : g8 ≠ g7 := by have := v8.2.2.2.2.1; omega
        have n7_8 := Ne.symm n8_7
        replace v8 := v8.ext hbn
        have n9_7 : g9 ≠ g7 := by have := v9.2.2.2.2.1; omega
        have n7_9 := Ne.symm n9_7
        replace v9 := v9.ext hbn
        clear hg hbn
        replace hxc := hxn
        clear hxn
        revert n9_8
        revert n9_7
        revert n8_9
        revert n8_7
        revert n7_9
        revert n7_8
        revert v9
        revert v8
        revert v7
        revert hxc
        revert wn
        revert g9
        revert g8
        revert g7
        exact M8
    · skip
      intro wz hxc
      refine rx_four 18 21 22 23 (k := 8) (mi := 524287) (mj := 2359295) (mk := 4456447) (ml := 8650751) rfl rfl rfl rfl rfl (by kernel_rfl) (by kernel_rfl) (by kernel_rfl) (by kernel_rfl) (by kernel_rfl) ?_ ?_ ?_ ?_
      · skip
        go_wp2_with (go_at_call 85; ((with_reducible refine (dartFrom_c _ _ _ _ ns ls y1 _ (h.ext hxc) hy1).mono ?_); rw [HY.out]; rintro e w5 ⟨rfl, hb5⟩); replace hxc := Ext.trans hxc hb5; clear hb5)
        refine rx_on hxc ?_
        refine rx_run (run := [19, 20]) (k := 6) (m' := 2097151) rfl (by kernel_rfl) (by kernel_rfl) (by kernel_rfl) (fm_cons rfl <| fm_cons rfl <| List.filterMap_nil) hxc ?_
        repeat (go_big_quiet_step ((fail)))
        refine wpQuiet_nil ?_
        revert hxc
        revert w5
        exact M15
      · skip
        go_wp2
        refine rx_on (Ext.alloc hxc _) ?_
        generalize hg : (wz).heap.size = g7
        refine rx_gen3 hxc hg ?_
        intro wn hbn hxn v7
        clear hg hbn
        replace hxc := hxn
        clear hxn
        revert v7
        revert hxc
        revert wn
        revert g7
        exact M9
      · skip
        go_wp2
        refine rx_on (Ext.alloc hxc _) ?_
        generalize hg : (wz).heap.size = g8
        refine rx_gen3 hxc hg ?_
        intro wn hbn hxn v8
        clear hg hbn
        replace hxc := hxn
        clear hxn
        revert v8
        revert hxc
        revert wn
        revert g8
        exact M10
      · skip
        go_wp2
        refine rx_on (Ext.alloc hxc _) ?_
        generalize hg : (wz).heap.size = g9
        refine rx_gen3 hxc hg ?_
        intro wn hbn hxn v9
        clear hg hbn
        replace hxc := hxn
        clear hxn
        revert v9
        revert hxc
        revert wn
        revert g9
        exact M11
    · skip
      intro g7 g8 g9 wz hxc v7 v8 v9 n7_8 n7_9 n8_7 n8_9 n9_7 n9_8
      refine rx_op 10 (k := 8) (m' := 14936063) rfl rfl (by kernel_rfl) (by kernel_rfl) ?_
      go_wp2_with (go_at_call 85; ((with_reducible refine (dartFrom_c _ _ _ _ ns ls x1 _ (h.ext hxc) hx1).mono ?_); rw [HX.out]; rintro e w5 ⟨rfl, hb5⟩); replace hxc := Ext.trans hxc hb5; replace v7 := v7.ext hb5; replace v8 := v8.ext hb5; replace v9 := v9.ext hb5; clear hb5)
      refine rx_on hxc ?_
      refine rx_run (run := [11, 12]) (k := 6) (m' := 14942207) rfl (by kernel_rfl) (by kernel_rfl) (by kernel_rfl) (fm_cons rfl <| fm_cons rfl <| List.filterMap_nil) hxc ?_
      repeat (go_big_quiet_step ((fail)))
      refine wpQuiet_nil ?_
      revert n9_8
      revert n9_7
      revert n8_9
      revert n8_7
      revert n7_9
      revert n7_8
      revert v9
      revert v8
      revert v7
      revert hxc
      revert w5
      revert g9
      revert g8
      revert g7
      exact M16
    · skip
      intro g7 wz hxc v7
      refine rx_three 18 22 23 (k := 7) (mi := 2621439) (mj := 6553599) (mk := 10747903) rfl rfl rfl rfl (by kernel_rfl) (by kernel_rfl) (by kernel_rfl) (by kernel_rfl) ?_ ?_ ?_
      · skip
        go_wp2_with (go_at_call 85; ((with_reducible refine (dartFrom_c _ _ _ _ ns ls y1 _ (h.ext hxc) hy1).mono ?_); rw [HY.out]; rintro e w5 ⟨rfl, hb5⟩); replace hxc := Ext.trans hxc hb5; replace v7 := v7.ext hb5; clear hb5)
        refine rx_on hxc ?_
        refine rx_run (run := [19, 20]) (k := 5) (m' := 4194303) rfl (by kernel_rfl) (by kernel_rfl) (by kernel_rfl) (fm_cons rfl <| fm_cons rfl <| List.filterMap_nil) hxc ?_
        repeat (go_big_quiet_step ((fail)))
        refine wpQuiet_nil ?_
        revert v7
        revert hxc
        revert w5
        revert g7
        exact M17
      · skip
        go_wp2
        refine rx_on (Ext.alloc hxc _) ?_
        generalize hg : (wz).heap.size = g8
        refine rx_gen3 hxc hg ?_
        intro wn hbn hxn v8
        have n7_8 : g7 ≠ g8 := by have := v7.2.2.2.2.1; omega
        have n8_7 := Ne.symm n7_8
        replace v7 := v7.ext hbn
        clear hg hbn
        replace hxc := hxn
        clear hxn
        revert n8_7
        revert n7_8
        revert v8
        revert v7
        revert hxc
        revert wn
        revert g8
        revert g7
        exact M12
      · skip
        go_wp2
        refine rx_on (Ext.alloc hxc _) ?_
        generalize hg : (wz).heap.size = g9
        refine rx_gen3 hxc hg ?_
        intro wn hbn hxn v9
        have n7_9 : g7 ≠ g9 := by have := v7.2.2.2.2.1; omega
        have n9_7 := Ne.symm n7_9
        replace v7 := v7.ext hbn
        clear hg hbn
        replace hxc := hxn
        clear hxn
        revert n9_7
        revert n7_9
        revert v9
        revert v7
        revert hxc
        revert wn
        revert g9
        revert g7
        exact M13
    · skip
      intro g8 wz hxc v8
      refine rx_three 18 21 23 (k := 7) (mi := 4718591) (mj := 6553599) (mk := 12845055) rfl rfl rfl rfl (by kernel_rfl) (by kernel_rfl) (by kernel_rfl) (by kernel_rfl) ?_ ?_ ?_
      · skip
        go_wp2_with (go_at_call 85; ((with_reducible refine (dartFrom_c _ _ _ _ ns ls y1 _ (h.ext hxc) hy1).mono ?_); rw [HY.out]; rintro e w5 ⟨rfl, hb5⟩); replace hxc := Ext.trans hxc hb5; replace v8 := v8.ext hb5; clear hb5)
        refine rx_on hxc ?_
        refine rx_run (run := [19, 20]) (k := 5) (m' := 6291455) rfl (by kernel_rfl) (by kernel_rfl) (by kernel_rfl) (fm_cons rfl <| fm_cons rfl <| List.filterMap_nil) hxc ?_
        repeat (go_big_quiet_step ((fail)))
        refine wpQuiet_nil ?_
        revert v8
        revert hxc
        revert w5
        revert g8
        exact M18
      · skip
        go_wp2
        refine rx_on (Ext.alloc hxc _) ?_
        generalize hg : (wz).heap.size = g7
        refine rx_gen3 hxc hg ?_
        intro wn hbn hxn v7
        have n8_7 : g8 ≠ g7 := by have := v8.2.2.2.2.1; omega
        have n7_8 := Ne.symm n8_7
        replace v8 := v8.ext hbn
        clear hg hbn
        replace hxc := hxn
        clear hxn
        revert n8_7
        revert n7_8
        revert v8
        revert v7
        revert hxc
        revert wn
        revert g8
        revert g7
        exact M12
      · skip
        go_wp2
        refine rx_on (Ext.alloc hxc _) ?_
        generalize hg : (wz).heap.size = g9
        refine rx_gen3 hxc hg ?_
        intro wn hbn hxn v9
        have n8_9 : g8 ≠ g9 := by have := v8.2.2.2.2.1; omega
        have n9_8 := Ne.symm n8_9
        replace v8 := v8.ext hbn
        clear hg hbn
        replace hxc := hxn
        clear hxn
        revert n9_8
        revert n8_9
        revert v9
        revert v8
        revert hxc
        revert wn
        revert g9
        revert g8
        exact M14
    · skip
      intro g9 wz hxc v9
      refine rx_three 18 21 22 (k := 7) (mi := 8912895) (mj := 10747903) (mk := 12845055) rfl rfl rfl rfl (by kernel_rfl) (by kernel_rfl) (by kernel_rfl) (by kernel_rfl) ?_ ?_ ?_
      · skip
        go_wp2_with (go_at_call 85; ((with_reducible refine (dartFrom_c _ _ _ _ ns ls y1 _ (h.ext hxc) hy1).mono ?_); rw [HY.out]; rintro e w5 ⟨rfl, hb5⟩); replace hxc := Ext.trans hxc hb5; replace v9 := v9.ext hb5; clear hb5)
        refine rx_on hxc ?_
        refine rx_run (run := [19, 20]) (k := 5) (m' := 10485759) rfl (by kernel_rfl) (by kernel_rfl) (by kernel_rfl) (fm_cons rfl <| fm_cons rfl <| List.filterMap_nil) hxc ?_
        repeat (go_big_quiet_step ((fail)))
        refine wpQuiet_nil ?_
        revert v9
        revert hxc
        revert w5
        revert g9
        exact M19
      · skip
        go_wp2
        refine rx_on (Ext.alloc hxc _) ?_
        generalize hg : (wz).heap.size = g7
        refine rx_gen3 hxc hg ?_
        intro wn hbn hxn v7
        have n9_7 : g9 ≠ g7 := by have := v9.2.2.2.2.1; omega
        have n7_9 := Ne.symm n9_7
        replace v9 := v9.ext hbn
        clear hg hbn
        replace hxc := hxn
        clear hxn
        revert n9_7
        revert n7_9
        revert v9
        revert v7
        revert hxc
        revert wn
        revert g9
        revert g7
        exact M13
      · skip
        go_wp2
        refine rx_on (Ext.alloc hxc _) ?_
        generalize hg : (wz).heap.size = g8
        refine rx_gen3 hxc hg ?_
        intro wn hbn hxn v8
        have n9_8 : g9 ≠ g8 := by have := v9.2.2.2.2.1; omega
        have n8_9 := Ne.symm n9_8
        replace v9 := v9.ext hbn
        clear hg hbn
        replace hxc := hxn
        clear hxn
        revert n9_8
        revert n8_9
        revert v9
        revert v8
        revert hxc
        revert wn
        revert g9
        revert g8
        exact M14
    · skip
      intro g7 g8 wz hxc v7 v8 n7_8 n8_7
      refine rx_two 18 23 (k := 6) (mi := 6815743) (mj := 14942207) rfl rfl rfl (by kernel_rfl) (by kernel_rfl) (by kernel_rfl) ?_ ?_
      · skip
        go_wp2_with (go_at_call 85; ((with_reducible refine (dartFrom_c _ _ _ _ ns ls y1 _ (h.ext hxc) hy1).mono ?_); rw [HY.out]; rintro e w5 ⟨rfl, hb5⟩); replace hxc := Ext.trans hxc hb5; replace v7 := v7.ext hb5; replace v8 := v8.ext hb5; clear hb5)
        refine rx_on hxc ?_
        refine rx_run (run := [19, 20]) (k := 4) (m' := 8388607) rfl (by kernel_rfl) (by kernel_rfl) (by kernel_rfl) (fm_cons rfl <| fm_cons rfl <| List.filterMap_nil) hxc ?_
        repeat (go_big_quiet_step ((fail)))
        refine wpQuiet_nil ?_
        revert n8_7
        revert n7_8
        revert v8
        revert v7
        revert hxc
        revert w5
        revert g8
        revert g7
        exact M20
      · skip
        go_wp2
        refine rx_on (Ext.alloc hxc _) ?_
        generalize hg : (wz).heap.size = g9
        refine rx_gen3 hxc hg ?_
        intro wn hbn hxn v9
        have n7_9 : g7 ≠ g9 := by have := v7.2.2.2.2.1; omega
        have n9_7 := Ne.symm n7_9
        replace v7 := v7.ext hbn
        have n8_9 : g8 ≠ g9 := by have := v8.2.2.2.2.1; omega
        have n9_8 := Ne.symm n8_9
        replace v8 := v8.ext hbn
        clear hg hbn
        replace hxc := hxn
        clear hxn
        revert n9_8
        revert n9_7
        revert n8_9
        revert n8_7
        revert n7_9
        revert n7_8
        revert v9
        revert v8
        revert v7
        revert hxc
        revert wn
        revert g9
        revert g8
        revert g7
        exact M16
    · skip
      intro g7 g9 wz hxc v7 v9 n7_9 n9_7
      refine rx_two 18 22 (k := 6) (mi := 11010047) (mj := 14942207) rfl rfl rfl (by kernel_rfl) (by kernel_rfl) (by kernel_rfl) ?_ ?_
      · skip
        go_wp2_with (go_at_call 85; ((with_reducible refine (dartFrom_c _ _ _ _ ns ls y1 _ (h.ext hxc) hy1).mono ?_); rw [HY.out]; rintro e w5 ⟨rfl, hb5⟩); replace hxc := Ext.trans hxc hb5; replace v7 := v7.ext hb5; replace v9 := v9.ext hb5; clear hb5)
        refine rx_on hxc ?_
        refine rx_run (run := [19, 20]) (k := 4) (m' := 12582911) rfl (by kernel_rfl) (by kernel_rfl) (by kernel_rfl) (fm_cons rfl <| fm_cons rfl <| List.filterMap_nil) hxc ?_
        repeat (go_big_quiet_step ((fail)))
        refine wpQuiet_nil ?_
        revert n9_7
        revert n7_9
        revert v9
        revert v7
        revert hxc
        revert w5
        revert g9
        revert g7
        exact M21
      · skip
        go_wp2
        refine rx_on (Ext.alloc hxc _) ?_
        generalize hg : (wz).heap.size = g8
        refine rx_gen3 hxc hg ?_
        intro wn hbn hxn v8
        have n7_8 : g7 ≠ g8 := by have := v7.2.2.2.2.1; omega
        have n8_7 := Ne.symm n7_8
        replace v7 := v7.ext hbn
        have n9_8 : g9 ≠ g8 := by have := v9.2.2.2.2.1; omega
        have n8_9 := Ne.symm n9_8
        replace v9 := v9.ext hbn
        clear hg hbn
        replace hxc := hxn
        clear hxn
        revert n9_8
        revert n9_7
        revert n8_9
        revert n8_7
        revert n7_9
        revert n7_8
        revert v9
        revert v8
        revert v7
        revert hxc
        revert wn
        revert g9
        revert g8
        revert g7
        exact M16
    · skip
      intro g8 g9 wz hxc v8 v9 n8_9 n9_8
      refine rx_two 18 21 (k := 6) (mi := 13107199) (mj := 14942207) rfl rfl rfl (by kernel_rfl) (by kernel_rfl) (by kernel_rfl) ?_ ?_
      · skip
        go_wp2_with (go_at_call 85; ((with_reducible refine (dartFrom_c _ _ _ _ ns ls y1 _ (h.ext hxc) hy1).mono ?_); rw [HY.out]; rintro e w5 ⟨rfl, hb5⟩); replace hxc := Ext.trans hxc hb5; replace v8 := v8.ext hb5; replace v9 := v9.ext hb5; clear hb5)
        refine rx_on hxc ?_
        refine rx_run (run := [19, 20]) (k := 4) (m' := 14680063) rfl (by kernel_rfl) (by kernel_rfl) (by kernel_rfl) (fm_cons rfl <| fm_cons rfl <| List.filterMap_nil) hxc ?_
        repeat (go_big_quiet_step ((fail)))
        refine wpQuiet_nil ?_
        revert n9_8
        revert n8_9
        revert v9
        revert v8
        revert hxc
        revert w5
        revert g9
        revert g8
        exact M22
      · skip
        go_wp2
        refine rx_on (Ext.alloc hxc _) ?_
        generalize hg : (wz).heap.size = g7
        refine rx_gen3 hxc hg ?_
        intro wn hbn hxn v7
        have n8_7 : g8 ≠ g7 := by have := v8.2.2.2.2.1; omega
        have n7_8 := Ne.symm n8_7
        replace v8 := v8.ext hbn
        have n9_7 : g9 ≠ g7 := by have := v9.2.2.2.2.1; omega
        have n7_9 := Ne.symm n9_7
        replace v9 := v9.ext hbn
        clear hg hbn
        replace hxc := hxn
        clear hxn
        revert n9_8
        revert n9_7
        revert n8_9
        revert n8_7
        revert n7_9
        revert n7_8
        revert v9
        revert v8
        revert v7
        revert hxc
        revert wn
        revert g9
        revert g8
        revert g7
        exact M16
    · skip
      intro wz hxc
      refine rx_three 21 22 23 (k := 5) (mi := 4194303) (mj := 6291455) (mk := 10485759) rfl rfl rfl rfl (by kernel_rfl) (by kernel_rfl) (by kernel_rfl) (by kernel_rfl) ?_ ?_ ?_
      · skip
        go_wp2
        refine rx_on (Ext.alloc hxc _) ?_
        generalize hg : (wz).heap.size = g7
        refine rx_gen3 hxc hg ?_
        intro wn hbn hxn v7
        clear hg hbn
        replace hxc := hxn
        clear hxn
        revert v7
        revert hxc
        revert wn
        revert g7
        exact M17
      · skip
        go_wp2
        refine rx_on (Ext.alloc hxc _) ?_
        generalize hg : (wz).heap.size = g8
        refine rx_gen3 hxc hg ?_
        intro wn hbn hxn v8
        clear hg hbn
        replace hxc := hxn
        clear hxn
        revert v8
        revert hxc
        revert wn
        revert g8
        exact M18
      · skip
        go_wp2
        refine rx_on (Ext.alloc hxc _) ?_
        generalize hg : (wz).heap.size = g9
        refine rx_gen3 hxc hg ?_
        intro wn hbn hxn v9
        clear hg hbn
        replace hxc := hxn
        clear hxn
        revert v9
        revert hxc
        revert wn
        revert g9
        exact M19
    · skip
      intro g7 g8 g9 wz hxc v7 v8 v9 n7_8 n7_9 n8_7 n8_9 n9_7 n9_8
      refine rx_op 18 (k := 5) (m' := 15204351) rfl rfl (by kernel_rfl) (by kernel_rfl) ?_
      go_wp2_with (go_at_call 85; ((with_reducible refine (dartFrom_c _ _ _ _ ns ls y1 _ (h.ext hxc) hy1).mono ?_); rw [HY.out]; rintro e w5 ⟨rfl, hb5⟩); replace hxc := Ext.trans hxc hb5; replace v7 := v7.ext hb5; replace v8 := v8.ext hb5; replace v9 := v9.ext hb5; clear hb5)
      refine rx_on hxc ?_
      refine rx_run (run := [19, 20]) (k := 3) (m' := 16777215) rfl (by kernel_rfl) (by kernel_rfl) (by kernel_rfl) (fm_cons rfl <| fm_cons rfl <| List.filterMap_nil) hxc ?_
      repeat (go_big_quiet_step ((fail)))
      refine wpQuiet_nil ?_
      revert n9_8
      revert n9_7
      revert n8_9
      revert n8_7
      revert n7_9
      revert n7_8
      revert v9
      revert v8
      revert v7
      revert hxc
      revert w5
      revert g9
      revert g8
      revert g7
      exact M23
    · skip
      intro g7 wz hxc v7
      refine rx_two 22 23 (k := 4) (mi := 8388607) (mj := 12582911) rfl rfl rfl (by kernel_rfl) (by kernel_rfl) (by kernel_rfl) ?_ ?_
      · skip
        go_wp2
        refine rx_on (Ext.alloc hxc _) ?_
        generalize hg : (wz).heap.size = g8
        refine rx_gen3 hxc hg ?_
        intro wn hbn hxn v8
        have n7_8 : g7 ≠ g8 := by have := v7.2.2.2.2.1; omega
        have n8_7 := Ne.symm n7_8
        replace v7 := v7.ext hbn
        clear hg hbn
        replace hxc := hxn
        clear hxn
        revert n8_7
        revert n7_8
        revert v8
        revert v7
        revert hxc
        revert wn
        revert g8
        revert g7
        exact M20
      · skip
        go_wp2
        refine rx_on (Ext.alloc hxc _) ?_
        generalize hg : (wz).heap.size = g9
        refine rx_gen3 hxc hg ?_
        intro wn hbn hxn v9
        have n7_9 : g7 ≠ g9 := by have := v7.2.2.2.2.1; omega
        have n9_7 := Ne.symm n7_9
        replace v7 := v7.ext hbn
        clear hg hbn
        replace hxc := hxn
        clear hxn
        revert n9_7
        revert n7_9
        revert v9
        revert v7
        revert hxc
        revert wn
        revert g9
        revert g7
        exact M21
    · skip
      intro g8 wz hxc v8
      refine rx_two 21 23 (k := 4) (mi := 8388607) (mj := 14680063) rfl rfl rfl (by kernel_rfl) (by kernel_rfl) (by kernel_rfl) ?_ ?_
      · skip
        go_wp2
        refine rx_on (Ext.alloc hxc _) ?_
        generalize hg : (wz).heap.size = g7
        refine rx_gen3 hxc hg ?_
        intro wn hbn hxn v7
        have n8_7 : g8 ≠ g7 := by have := v8.2.2.2.2.1; omega
        have n7_8 := Ne.symm n8_7
        replace v8 := v8.ext hbn
        clear hg hbn
        replace hxc := hxn
        clear hxn
        revert n8_7
        revert n7_8
        revert v8
        revert v7
        revert hxc
        revert wn
        revert g8
        revert g7
        exact M20
      · skip
        go_wp2
        refine rx_on (Ext.alloc hxc _) ?_
        generalize hg : (wz).heap.size = g9
        refine rx_gen3 hxc hg ?_
        intro wn hbn hxn v9
        have n8_9 : g8 ≠ g9 := by have := v8.2.2.2.2.1; omega
        have n9_8 := Ne.symm n8_9
        replace v8 := v8.ext hbn
        clear hg hbn
        replace hxc := hxn
        clear hxn
        revert n9_8
        revert n8_9
        revert v9
        revert v8
        revert hxc
        revert wn
        revert g9
        revert g8
        exact M22
    · skip
      intro g9 wz hxc v9
      refine rx_two 21 22 (k := 4) (mi := 12582911) (mj := 14680063) rfl rfl rfl (by kernel_rfl) (by kernel_rfl) (by kernel_rfl) ?_ ?_
      · skip
        go_wp2
        refine rx_on (Ext.alloc hxc _) ?_
        generalize hg : (wz).heap.size = g7
        refine rx_gen3 hxc hg ?_
        intro wn hbn hxn v7
        have n9_7 : g9 ≠ g7 := by have := v9.2.2.2.2.1; omega
        have n7_9 := Ne.symm n9_7
        replace v9 := v9.ext hbn
        clear hg hbn
        replace hxc := hxn
        clear hxn
        revert n9_7
        revert n7_9
        revert v9
        revert v7
        revert hxc
        revert wn
        revert g9
        revert g7
        exact M21
      · skip
        go_wp2
        refine rx_on (Ext.alloc hxc _) ?_
        generalize hg : (wz).heap.size = g8
        refine rx_gen3 hxc hg ?_
        intro wn hbn hxn v8
        have n9_8 : g9 ≠ g8 := by have := v9.2.2.2.2.1; omega
        have n8_9 := Ne.symm n9_8
        replace v9 := v9.ext hbn
        clear hg hbn
        replace hxc := hxn
        clear hxn
        revert n9_8
        revert n8_9
        revert v9
        revert v8
        revert hxc
        revert wn
        revert g9
        revert g8
        exact M22
    · skip
      intro g7 g8 wz hxc v7 v8 n7_8 n8_7
      refine rx_op 23 (k := 3) (m' := 16777215) rfl rfl (by kernel_rfl) (by kernel_rfl) ?_
      go_wp2
      refine rx_on (Ext.alloc hxc _) ?_
      generalize hg : (wz).heap.size = g9
      refine rx_gen3 hxc hg ?_
      intro wn hbn hxn v9
      have n7_9 : g7 ≠ g9 := by have := v7.2.2.2.2.1; omega
      have n9_7 := Ne.symm n7_9
      replace v7 := v7.ext hbn
      have n8_9 : g8 ≠ g9 := by have := v8.2.2.2.2.1; omega
      have n9_8 := Ne.symm n8_9
      replace v8 := v8.ext hbn
      clear hg hbn
      replace hxc := hxn
      clear hxn
      revert n9_8
      revert n9_7
      revert n8_9
      revert n8_7
      revert n7_9
      revert n7_8
      revert v9
      revert v8
      revert v7
      revert hxc
      revert wn
      revert g9
      revert g8
      revert g7
      exact M23
    · skip
      intro g7 g9 wz hxc v7 v9 n7_9 n9_7
      refine rx_op 22 (k := 3) (m' := 16777215) rfl rfl (by kernel_rfl) (by kernel_rfl) ?_
      go_wp2
      refine rx_on (Ext.alloc hxc _) ?_
      generalize hg : (wz).heap.size = g8
      refine rx_gen3 hxc hg ?_
      intro wn hbn hxn v8
      have n7_8 : g7 ≠ g8 := by have := v7.2.2.2.2.1; omega
      have n8_7 := Ne.symm n7_8
      replace v7 := v7.ext hbn
      have n9_8 : g9 ≠ g8 := by have := v9.2.2.2.2.1; omega
      have n8_9 := Ne.symm n9_8
      replace v9 := v9.ext hbn
      clear hg hbn
      replace hxc := hxn
      clear hxn
      revert n9_8
      revert n9_7
      revert n8_9
      revert n8_7
      revert n7_9
      revert n7_8
      revert v9
      revert v8
      revert v7
      revert hxc
      revert wn
      revert g9
      revert g8
      revert g7
      exact M23
    · skip
      intro g8 g9 wz hxc v8 v9 n8_9 n9_8
      refine rx_op 21 (k := 3) (m' := 16777215) rfl rfl (by kernel_rfl) (by kernel_rfl) ?_
      go_wp2
      refine rx_on (Ext.alloc hxc _) ?_
      generalize hg : (wz).heap.size = g7
      refine rx_gen3 hxc hg ?_
      intro wn hbn hxn v7
      have n8_7 : g8 ≠ g7 := by have := v8.2.2.2.2.1; omega
      have n7_8 := Ne.symm n8_7
      replace v8 := v8.ext hbn
      have n9_7 : g9 ≠ g7 := by have := v9.2.2.2.2.1; omega
      have n7_9 := Ne.symm n9_7
      replace v9 := v9.ext hbn
      clear hg hbn
      replace hxc := hxn
      clear hxn
      revert n9_8
      revert n9_7
      revert n8_9
      revert n8_7
      revert n7_9
      revert n7_8
      revert v9
      revert v8
      revert v7
      revert hxc
      revert wn
      revert g9
      revert g8
      revert g7
      exact M23
    · skip
      intro g7 g8 g9 wz hxc v7 v8 v9 n7_8 n7_9 n8_7 n8_9 n9_7 n9_8
      obtain ⟨a7_0, a7_1, f7_0, f7_1, s7, l7⟩ := v7
      obtain ⟨a8_0, a8_1, f8_0, f8_1, s8, l8⟩ := v8
      obtain ⟨a9_0, a9_1, f9_0, f9_1, s9, l9⟩ := v9
      refine rx_op 24 (k := 2) (m' := 33554431) rfl rfl (by kernel_rfl) (by kernel_rfl) ?_
      go_wp2
      refine rx_on (by repeat first | exact Ext.refl _ | assumption | refine Ext.setCell ?_ (by assumption)) ?_
      refine rx_op 25 (k := 1) (m' := 67108863) rfl rfl (by kernel_rfl) (by kernel_rfl) ?_
      go_wp2
      refine rx_on (by repeat first | exact Ext.refl _ | assumption | refine Ext.setCell ?_ (by assumption)) ?_
      refine rx_op 26 (k := 0) (m' := 134217727) rfl rfl (by kernel_rfl) (by kernel_rfl) ?_
      go_wp2
      refine rx_lst (by decide) ?_
      refine rx_end (by kernel_rfl) ?_
      (go_wp2; go_meet; exact ⟨_, _, _, rfl, rfl, rfl, by go_simp, by go_simp, by go_simp, by go_simp, by go_simp, by go_simp, (by repeat first | exact Ext.refl _ | assumption | refine Ext.setCell ?_ (by assumption) | refine Ext.drew ?_ | refine Ext.alloc ?_ _ | refine Ext.trans ?_ (by assumption))⟩)
  case rest =>
    obtain ⟨g7, g8, g9, rfl, rfl, rfl, a0, a1, a2, a3, a4, a5, hb⟩ := hcut
    obtain ⟨w2, rfl⟩ : ∃ x : World, x = wc := ⟨_, rfl⟩
    clear k0 k1 kk n1 n2 n3 n4 n5 n6 xx xy
    go_wp2_with fail
    refine (IsBeforeAround_i _ _ _ _ _ _ _ q1 q2 q3).mono ?_
    rintro e w3 ⟨rfl, hb3⟩
    generalize bfa (ax, ay) (bx, by') (cx, cy) = r at *
    by_cases hr : r = true
    · subst hr
      go_wp2
      go_ret
      exact ⟨ret_i (by rw [HC.out]; rfl), hb.trans hb3⟩
    · have hr' := eq_false_of_ne_true hr
      subst hr'
      go_wp2
      go_ret
      exact ⟨ret_i (by rw [HC.out]; rfl), hb.trans hb3⟩
end Go.Proofs.Ytdhmjhoaegdfjaa
