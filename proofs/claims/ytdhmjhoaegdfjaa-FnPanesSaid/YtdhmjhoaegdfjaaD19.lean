import Derived.Test.YtdhmjhoaegdfjaaD16
import Derived.Test.YtdhmjhoaegdfjaaG17
import Derived.Deep.DeepCutAuto
namespace Go.Proofs.Ytdhmjhoaegdfjaa
open Go.RowKit Go.Sort Go.BigFrame

theorem crs_bd {ns ls : List P2} (hW : WOk ns ls) {x : Nat} (hx : x < 2 * ls.length) : -400 ≤ crs ns ls x ∧ crs ns ls x ≤ 400 := by
  obtain ⟨i, j, e, hi, hj⟩ := dEnds_ok hW hx
  have b1 := nok_bd (nok_at hW hi)
  have b2 := nok_bd (nok_at hW hj)
  unfold crs
  rw [e]
  have m1 := mul_bd (x := (gp ns i).1) (y := (gp ns j).2) (by omega) (by omega) (by omega) (by omega)
  have m2 := mul_bd (x := (gp ns i).2) (y := (gp ns j).1) (by omega) (by omega) (by omega) (by omega)
  have p1 := Int.mul_nonneg b1.1 b2.2.2.1
  have p2 := Int.mul_nonneg b1.2.2.1 b2.1
  simp only
  omega
theorem areaR_bd {ns ls : List P2} (hW : WOk ns ls) {row : List Nat} (hr : ∀ i, i < row.length → row.getD i 0 < 2 * ls.length) : ∀ j, j ≤ row.length → -400 * (j : Int) ≤ areaR ns ls row j ∧ areaR ns ls row j ≤ 400 * (j : Int)
  | 0, _ => by simp [areaR]
  | j + 1, hj => by
    have ih := areaR_bd hW hr j (by omega)
    have h := crs_bd hW (hr j (by omega))
    show _ ≤ areaR ns ls row j + crs ns ls (row.getD j 0) ∧ areaR ns ls row j + crs ns ls (row.getD j 0) ≤ _
    omega

set_option maxRecDepth 100000 in
set_option maxHeartbeats 40000000 in
theorem areaOf_c (A B : Option Addr) (c d : Nat) (ns ls : List P2) (X : Option Addr) (xc : Nat) (row : List Nat) (w : World) (h : Wn w A c B d ns ls) (hW : WOk ns ls) (hX : In w w.heap.size X (nl row)) (hr : ∀ i, i < row.length → row.getD i 0 < 2 * ls.length) (hl : row.length ≤ 40) :
    Calls Try.prog 120 #[.agg #[.slice A ns.length c, .slice B ls.length d], .slice X row.length xc] w fun e w' => e = .returned (.int .i64 (area ns ls row)) ∧ Ext w w' := by
  have hn := hW.hi
  have hm := hW.le
  have HW := Lib.hid hW
  have HRB := Lib.hid (areaR_bd hW hr)
  have HR := Lib.hid hr
  have HA : Hid (area ns ls row = areaR ns ls row row.length) := Lib.hid rfl
  have HAS : Hid (∀ j, areaR ns ls row (j + 1) = areaR ns ls row j + crs ns ls (row.getD j 0)) := Lib.hid (fun _ => rfl)
  have HC : Hid (∀ x, crs ns ls x = (gp ns (dEnds ls x).1).1 * (gp ns (dEnds ls x).2).2 - (gp ns (dEnds ls x).1).2 * (gp ns (dEnds ls x).2).1) := Lib.hid (fun _ => rfl)
  have HNL := Lib.hid (nl_len row)
  have HA0 : Hid (areaR ns ls row 0 = 0) := Lib.hid rfl
  clear hW hr
  go_enter Try.func120, Try.ntmps120
  go_wp2_with fail
  have k0 : (w.alloc (.cells #[.slice A ns.length c, .slice B ls.length d] 27)).cell? ⟨w.heap.size, 0, none⟩ = some (.slice A ns.length c) := by go_simp
  have k1 : (w.alloc (.cells #[.slice A ns.length c, .slice B ls.length d] 27)).cell? ⟨w.heap.size, 1, none⟩ = some (.slice B ls.length d) := by go_simp
  have hx : Ext w (w.alloc (.cells #[.slice A ns.length c, .slice B ls.length d] 27)) := (by repeat first | exact Ext.refl _ | assumption | refine Ext.drew ?_ | refine Ext.alloc ?_ _ | refine Ext.setCell ?_ (by simp) | refine Ext.setCell ?_ (by simp; omega) | refine Ext.trans ?_ (by assumption))
  have hsz1 : w.heap.size + 1 = (w.alloc (.cells #[.slice A ns.length c, .slice B ls.length d] 27)).heap.size := by simp
  generalize (w.alloc (.cells #[.slice A ns.length c, .slice B ls.length d] 27)) = w1 at *
  (try rw [hsz1])
  go_loopw [5, 7, 8, 9, 12] (fun n _ _ _ i wr => ∃ j : Nat, j ≤ row.length ∧ i = .int .i64 j ∧ n = .int .i64 (areaR ns ls row j) ∧ Ext w1 wr) (fun _ _ _ _ i _ => row.length - (intOf i).toNat)
  case atStart => exact ⟨0, by omega, rfl, by rw [HA0.out], Ext.refl _⟩
  case round =>
    obtain ⟨j, hj, rfl, rfl, hxr⟩ := hrel
    obtain ⟨wo, rfl⟩ : ∃ x : World, x = wr := ⟨_, rfl⟩
    have hx0 := hx.trans hxr
    have k0 := hxr.lit k0
    have k1 := hxr.lit k1
    by_cases hlt : j < row.length
    · skip
      obtain ⟨xb, xo, rfl, hxb, c1⟩ := (hX.ext hx0).gi_ (k := j) (by rw [HNL.out]; exact hlt)
      rw [nl_gi row hlt] at c1
      have hxd := HR.out j hlt
      have HSj := Lib.hid (HAS.out j)
      have hbd := HRB.out j (by omega)
      generalize areaR ns ls row j = q at *
      have HCx := Lib.hid (HC.out (row.getD j 0))
      generalize row.getD j 0 = x at *
      obtain ⟨f, t, hft, hf, ht⟩ := dEnds_ok HW.out hxd
      have HFT := Lib.hid hft
      have q1 := nok_bd (nok_at HW.out hf)
      have q2 := nok_bd (nok_at HW.out ht)
      rw [hft] at HCx
      obtain ⟨bb, off, rfl, hbb, n1, n2⟩ := (h.ext hx0).h.gp_ hf
      obtain ⟨b', off', hA', hbb', n3, n4⟩ := (h.ext hx0).h.gp_ ht
      obtain ⟨rfl, rfl⟩ : bb = b' ∧ off = off' := by simpa using hA'
      have u1 : (f : Int) < ns.length := by omega
      have u2 : (t : Int) < ns.length := by omega
      generalize gp ns f = Y at *
      generalize gp ns t = Z at *
      obtain ⟨ax, ay⟩ := Y
      obtain ⟨bx, by'⟩ := Z
      have m1 := mul_bd (x := ax) (y := by') (by simp at *; omega) (by simp at *; omega) (by simp at *; omega) (by simp at *; omega)
      have m2 := mul_bd (x := ay) (y := bx) (by simp at *; omega) (by simp at *; omega) (by simp at *; omega) (by simp at *; omega)
      have hqb : -16000 ≤ q ∧ q ≤ 16000 := by omega
      rw [HCx.out] at HSj
      clear hA' hft q1 q2 hbd HCx hbb' 
      have HX1 : Hid ((dEnds ls (x ^^^ 1)).1 = (t : Int)) := Lib.hid (by rw [dEnds_xor, HFT.out])
      have HX0 : Hid ((dEnds ls x).1 = (f : Int)) := Lib.hid (by rw [HFT.out])
      have hx1 := xor1_lt hxd
      have xx := xor1_w x (by omega)
      generalize x ^^^ 1 = x1 at *
      go_upto_region 5 with fail
      go_cut [8, 9] (fun s8 s9 wx => ∃ g8 g9, s8 = .pointer (some ⟨g8, 0, none⟩) ∧ s9 = .pointer (some ⟨g9, 0, none⟩) ∧ wx.cell? ⟨g8, 0, none⟩ = some (.int .i64 ax) ∧ wx.cell? ⟨g8, 1, none⟩ = some (.int .i64 ay) ∧
        wx.cell? ⟨g9, 0, none⟩ = some (.int .i64 bx) ∧ wx.cell? ⟨g9, 1, none⟩ = some (.int .i64 by') ∧ Ext wo wx)
      case first =>
        have d0 := cell_regrown k0
        have d1 := cell_regrown k1
        have d3 := cell_regrown n1
        have d4 := cell_regrown n2
        have d5 := cell_regrown n3
        have d6 := cell_regrown n4
        refine rx_open [(true, 0, some 16, 4), (true, 1, some 17, 65536), (true, 0, some 18, 4), (true, 0, some 19, 128), (false, 12, some 20, 786432), (true, 18, some 21, 1179648), (true, 32, some 22, 2097152), (true, 0, some 23, 4), (true, 128, some 24, 8388608), (true, 0, some 25, 4), (true, 0, some 26, 128), (true, 1024, some 27, 67108864), (false, 2576, some 28, 167772160), (true, 4352, some 29, 285212672), (true, 8192, some 30, 536870912), (false, 0, some 8, 0), (false, 0, some 9, 0), (false, 102527, none, 4194560), (false, 262143, none, 1073742336)] 262144 19 mixd rfl (by kernel_rfl) (by kernel_rfl) (by kernel_rfl) ?_
        have hxc := Ext.drew (Ext.refl wo)
        obtain ⟨wz, hwz⟩ : ∃ x : World, x = wo.drew := ⟨_, rfl⟩
        rw [← hwz]
        rw [← hwz] at hxc
        clear hwz
        apply rx_memo
        intro M11
        apply rx_memo
        intro M10
        apply rx_memo
        intro M9
        apply rx_memo
        intro M8
        apply rx_memo
        intro M7
        apply rx_memo
        intro M6
        apply rx_memo
        intro M5
        apply rx_memo
        intro M4
        apply rx_memo
        intro M3
        apply rx_memo
        intro M2
        apply rx_memo
        intro M1
        · skip
          refine rx_run (run := [0, 1, 2, 3, 7, 8, 9, 10, 11]) (k := 10) (m' := 3983) rfl (by kernel_rfl) (by kernel_rfl) (by kernel_rfl) (fm_cons rfl <| fm_cons rfl <| fm_cons rfl <| fm_cons rfl <| fm_cons rfl <| fm_cons rfl <| fm_cons rfl <| fm_cons rfl <| fm_cons rfl <| List.filterMap_nil) hxc ?_
          repeat (go_big_quiet_step ((fail)))
          refine wpQuiet_nil ?_
          refine rx_three 4 15 16 (k := 9) (mi := 3999) (mj := 36751) (mk := 69519) rfl rfl rfl rfl (by kernel_rfl) (by kernel_rfl) (by kernel_rfl) (by kernel_rfl) ?_ ?_ ?_
          · skip
            go_wp2_with (go_at_call 85; ((with_reducible refine (dartFrom_c _ _ _ _ ns ls x _ (h.ext (hx0.trans hxc)) hxd).mono ?_); rw [HX0.out]; rintro e w5 ⟨rfl, hb5⟩); replace hxc := Ext.trans hxc hb5; clear hb5)
            refine rx_on hxc ?_
            refine rx_run (run := [5, 6]) (k := 7) (m' := 4095) rfl (by kernel_rfl) (by kernel_rfl) (by kernel_rfl) (fm_cons rfl <| fm_cons rfl <| List.filterMap_nil) hxc ?_
            repeat (go_big_quiet_step ((fail)))
            refine wpQuiet_nil ?_
            revert hxc
            revert w5
            exact M4
          · skip
            go_wp2
            refine rx_on (Ext.alloc hxc _) ?_
            generalize hg : (wz).heap.size = g8
            refine rx_gen3 hxc hg ?_
            intro wn hbn hxn v8
            clear hg hbn
            replace hxc := hxn
            clear hxn
            revert v8
            revert hxc
            revert wn
            revert g8
            exact M1
          · skip
            go_wp2
            refine rx_on (Ext.alloc hxc _) ?_
            generalize hg : (wz).heap.size = g9
            refine rx_gen3 hxc hg ?_
            intro wn hbn hxn v9
            clear hg hbn
            replace hxc := hxn
            clear hxn
            revert v9
            revert hxc
            revert wn
            revert g9
            exact M2
        · skip
          intro g8 wz hxc v8
          refine rx_two 4 16 (k := 8) (mi := 36767) (mj := 102287) rfl rfl rfl (by kernel_rfl) (by kernel_rfl) (by kernel_rfl) ?_ ?_
          · skip
            go_wp2_with (go_at_call 85; ((with_reducible refine (dartFrom_c _ _ _ _ ns ls x _ (h.ext (hx0.trans hxc)) hxd).mono ?_); rw [HX0.out]; rintro e w5 ⟨rfl, hb5⟩); replace hxc := Ext.trans hxc hb5; replace v8 := v8.ext hb5; clear hb5)
            refine rx_on hxc ?_
            refine rx_run (run := [5, 6]) (k := 6) (m' := 36863) rfl (by kernel_rfl) (by kernel_rfl) (by kernel_rfl) (fm_cons rfl <| fm_cons rfl <| List.filterMap_nil) hxc ?_
            repeat (go_big_quiet_step ((fail)))
            refine wpQuiet_nil ?_
            revert v8
            revert hxc
            revert w5
            revert g8
            exact M5
          · skip
            go_wp2
            refine rx_on (Ext.alloc hxc _) ?_
            generalize hg : (wz).heap.size = g9
            refine rx_gen3 hxc hg ?_
            intro wn hbn hxn v9
            have n8_9 : g8 ≠ g9 := by have := v8.2.2.2.2.1; omega
            have n9_8 := Ne.symm n8_9
            replace v8 := v8.ext hbn
            clear hg hbn
            replace hxc := hxn
            clear hxn
            revert n9_8
            revert n8_9
            revert v9
            revert v8
            revert hxc
            revert wn
            revert g9
            revert g8
            exact M3
        · skip
          intro g9 wz hxc v9
          refine rx_two 4 15 (k := 8) (mi := 69535) (mj := 102287) rfl rfl rfl (by kernel_rfl) (by kernel_rfl) (by kernel_rfl) ?_ ?_
          · skip
            go_wp2_with (go_at_call 85; ((with_reducible refine (dartFrom_c _ _ _ _ ns ls x _ (h.ext (hx0.trans hxc)) hxd).mono ?_); rw [HX0.out]; rintro e w5 ⟨rfl, hb5⟩); replace hxc := Ext.trans hxc hb5; replace v9 := v9.ext hb5; clear hb5)
            refine rx_on hxc ?_
            refine rx_run (run := [5, 6]) (k := 6) (m' := 69631) rfl (by kernel_rfl) (by kernel_rfl) (by kernel_rfl) (fm_cons rfl <| fm_cons rfl <| List.filterMap_nil) hxc ?_
            repeat (go_big_quiet_step ((fail)))
            refine wpQuiet_nil ?_
            revert v9
            revert hxc
            revert w5
            revert g9
            exact M6
          · skip
            go_wp2
            refine rx_on (Ext.alloc hxc _) ?_
            generalize hg : (wz).heap.size = g8
            refine rx_gen3 hxc hg ?_
            intro wn hbn hxn v8
            have n9_8 : g9 ≠ g8 := by have := v9.2.2.2.2.1; omega
            have n8_9 := Ne.symm n9_8
            replace v9 := v9.ext hbn
            clear hg hbn
            replace hxc := hxn
            clear hxn
            revert n9_8
            revert n8_9
            revert v9
            revert v8
            revert hxc
            revert wn
            revert g9
            revert g8
            exact M3
        · skip
          intro g8 g9 wz hxc v8 v9 n8_9 n9_8
          refine rx_op 4 (k := 7) (m' := 102303) rfl rfl (by kernel_rfl) (by kernel_rfl) ?_
          go_wp2_with (go_at_call 85; ((with_reducible refine (dartFrom_c _ _ _ _ ns ls x _ (h.ext (hx0.trans hxc)) hxd).mono ?_); rw [HX0.out]; rintro e w5 ⟨rfl, hb5⟩); replace hxc := Ext.trans hxc hb5; replace v8 := v8.ext hb5; replace v9 := v9.ext hb5; clear hb5)
          refine rx_on hxc ?_
          refine rx_run (run := [5, 6]) (k := 5) (m' := 102399) rfl (by kernel_rfl) (by kernel_rfl) (by kernel_rfl) (fm_cons rfl <| fm_cons rfl <| List.filterMap_nil) hxc ?_
          repeat (go_big_quiet_step ((fail)))
          refine wpQuiet_nil ?_
          revert n9_8
          revert n8_9
          revert v9
          revert v8
          revert hxc
          revert w5
          revert g9
          revert g8
          exact M7
        · skip
          intro wz hxc
          refine rx_three 12 15 16 (k := 6) (mi := 8191) (mj := 36863) (mk := 69631) rfl rfl rfl rfl (by kernel_rfl) (by kernel_rfl) (by kernel_rfl) (by kernel_rfl) ?_ ?_ ?_
          · skip
            go_wp2_with (go_at_call 85; ((with_reducible refine (dartFrom_c _ _ _ _ ns ls x1 _ (h.ext (hx0.trans hxc)) hx1).mono ?_); rw [HX1.out]; rintro e w5 ⟨rfl, hb5⟩); replace hxc := Ext.trans hxc hb5; clear hb5)
            refine rx_on hxc ?_
            refine rx_run (run := [13, 14]) (k := 4) (m' := 32767) rfl (by kernel_rfl) (by kernel_rfl) (by kernel_rfl) (fm_cons rfl <| fm_cons rfl <| List.filterMap_nil) hxc ?_
            repeat (go_big_quiet_step ((fail)))
            refine wpQuiet_nil ?_
            revert hxc
            revert w5
            exact M8
          · skip
            go_wp2
            refine rx_on (Ext.alloc hxc _) ?_
            generalize hg : (wz).heap.size = g8
            refine rx_gen3 hxc hg ?_
            intro wn hbn hxn v8
            clear hg hbn
            replace hxc := hxn
            clear hxn
            revert v8
            revert hxc
            revert wn
            revert g8
            exact M5
          · skip
            go_wp2
            refine rx_on (Ext.alloc hxc _) ?_
            generalize hg : (wz).heap.size = g9
            refine rx_gen3 hxc hg ?_
            intro wn hbn hxn v9
            clear hg hbn
            replace hxc := hxn
            clear hxn
            revert v9
            revert hxc
            revert wn
            revert g9
            exact M6
        · skip
          intro g8 wz hxc v8
          refine rx_two 12 16 (k := 5) (mi := 40959) (mj := 102399) rfl rfl rfl (by kernel_rfl) (by kernel_rfl) (by kernel_rfl) ?_ ?_
          · skip
            go_wp2_with (go_at_call 85; ((with_reducible refine (dartFrom_c _ _ _ _ ns ls x1 _ (h.ext (hx0.trans hxc)) hx1).mono ?_); rw [HX1.out]; rintro e w5 ⟨rfl, hb5⟩); replace hxc := Ext.trans hxc hb5; replace v8 := v8.ext hb5; clear hb5)
            refine rx_on hxc ?_
            refine rx_run (run := [13, 14]) (k := 3) (m' := 65535) rfl (by kernel_rfl) (by kernel_rfl) (by kernel_rfl) (fm_cons rfl <| fm_cons rfl <| List.filterMap_nil) hxc ?_
            repeat (go_big_quiet_step ((fail)))
            refine wpQuiet_nil ?_
            revert v8
            revert hxc
            revert w5
            revert g8
            exact M9
          · skip
            go_wp2
            refine rx_on (Ext.alloc hxc _) ?_
            generalize hg : (wz).heap.size = g9
            refine rx_gen3 hxc hg ?_
            intro wn hbn hxn v9
            have n8_9 : g8 ≠ g9 := by have := v8.2.2.2.2.1; omega
            have n9_8 := Ne.symm n8_9
            replace v8 := v8.ext hbn
            clear hg hbn
            replace hxc := hxn
            clear hxn
            revert n9_8
            revert n8_9
            revert v9
            revert v8
            revert hxc
            revert wn
            revert g9
            revert g8
            exact M7
        · skip
          intro g9 wz hxc v9
          refine rx_two 12 15 (k := 5) (mi := 73727) (mj := 102399) rfl rfl rfl (by kernel_rfl) (by kernel_rfl) (by kernel_rfl) ?_ ?_
          · skip
            go_wp2_with (go_at_call 85; ((with_reducible refine (dartFrom_c _ _ _ _ ns ls x1 _ (h.ext (hx0.trans hxc)) hx1).mono ?_); rw [HX1.out]; rintro e w5 ⟨rfl, hb5⟩); replace hxc := Ext.trans hxc hb5; replace v9 := v9.ext hb5; clear hb5)
            refine rx_on hxc ?_
            refine rx_run (run := [13, 14]) (k := 3) (m' := 98303) rfl (by kernel_rfl) (by kernel_rfl) (by kernel_rfl) (fm_cons rfl <| fm_cons rfl <| List.filterMap_nil) hxc ?_
            repeat (go_big_quiet_step ((fail)))
            refine wpQuiet_nil ?_
            revert v9
            revert hxc
            revert w5
            revert g9
            exact M10
          · skip
            go_wp2
            refine rx_on (Ext.alloc hxc _) ?_
            generalize hg : (wz).heap.size = g8
            refine rx_gen3 hxc hg ?_
            intro wn hbn hxn v8
            have n9_8 : g9 ≠ g8 := by have := v9.2.2.2.2.1; omega
            have n8_9 := Ne.symm n9_8
            replace v9 := v9.ext hbn
            clear hg hbn
            replace hxc := hxn
            clear hxn
            revert n9_8
            revert n8_9
            revert v9
            revert v8
            revert hxc
            revert wn
            revert g9
            revert g8
            exact M7
        · skip
          intro g8 g9 wz hxc v8 v9 n8_9 n9_8
          refine rx_op 12 (k := 4) (m' := 106495) rfl rfl (by kernel_rfl) (by kernel_rfl) ?_
          go_wp2_with (go_at_call 85; ((with_reducible refine (dartFrom_c _ _ _ _ ns ls x1 _ (h.ext (hx0.trans hxc)) hx1).mono ?_); rw [HX1.out]; rintro e w5 ⟨rfl, hb5⟩); replace hxc := Ext.trans hxc hb5; replace v8 := v8.ext hb5; replace v9 := v9.ext hb5; clear hb5)
          refine rx_on hxc ?_
          refine rx_run (run := [13, 14]) (k := 2) (m' := 131071) rfl (by kernel_rfl) (by kernel_rfl) (by kernel_rfl) (fm_cons rfl <| fm_cons rfl <| List.filterMap_nil) hxc ?_
          repeat (go_big_quiet_step ((fail)))
          refine wpQuiet_nil ?_
          revert n9_8
          revert n8_9
          revert v9
          revert v8
          revert hxc
          revert w5
          revert g9
          revert g8
          exact M11
        · skip
          intro wz hxc
          refine rx_two 15 16 (k := 3) (mi := 65535) (mj := 98303) rfl rfl rfl (by kernel_rfl) (by kernel_rfl) (by kernel_rfl) ?_ ?_
          · skip
            go_wp2
            refine rx_on (Ext.alloc hxc _) ?_
            generalize hg : (wz).heap.size = g8
            refine rx_gen3 hxc hg ?_
            intro wn hbn hxn v8
            clear hg hbn
            replace hxc := hxn
            clear hxn
            revert v8
            revert hxc
            revert wn
            revert g8
            exact M9
          · skip
            go_wp2
            refine rx_on (Ext.alloc hxc _) ?_
            generalize hg : (wz).heap.size = g9
            refine rx_gen3 hxc hg ?_
            intro wn hbn hxn v9
            clear hg hbn
            replace hxc := hxn
            clear hxn
            revert v9
            revert hxc
            revert wn
            revert g9
            exact M10
        · skip
          intro g8 wz hxc v8
          refine rx_op 16 (k := 2) (m' := 131071) rfl rfl (by kernel_rfl) (by kernel_rfl) ?_
          go_wp2
          refine rx_on (Ext.alloc hxc _) ?_
          generalize hg : (wz).heap.size = g9
          refine rx_gen3 hxc hg ?_
          intro wn hbn hxn v9
          have n8_9 : g8 ≠ g9 := by have := v8.2.2.2.2.1; omega
          have n9_8 := Ne.symm n8_9
          replace v8 := v8.ext hbn
          clear hg hbn
          replace hxc := hxn
          clear hxn
          revert n9_8
          revert n8_9
          revert v9
          revert v8
          revert hxc
          revert wn
          revert g9
          revert g8
          exact M11
        · skip
          intro g9 wz hxc v9
          refine rx_op 15 (k := 2) (m' := 131071) rfl rfl (by kernel_rfl) (by kernel_rfl) ?_
          go_wp2
          refine rx_on (Ext.alloc hxc _) ?_
          generalize hg : (wz).heap.size = g8
          refine rx_gen3 hxc hg ?_
          intro wn hbn hxn v8
          have n9_8 : g9 ≠ g8 := by have := v9.2.2.2.2.1; omega
          have n8_9 := Ne.symm n9_8
          replace v9 := v9.ext hbn
          clear hg hbn
          replace hxc := hxn
          clear hxn
          revert n9_8
          revert n8_9
          revert v9
          revert v8
          revert hxc
          revert wn
          revert g9
          revert g8
          exact M11
        · skip
          intro g8 g9 wz hxc v8 v9 n8_9 n9_8
          obtain ⟨a8_0, a8_1, f8_0, f8_1, s8, l8⟩ := v8
          obtain ⟨a9_0, a9_1, f9_0, f9_1, s9, l9⟩ := v9
          refine rx_op 17 (k := 1) (m' := 262143) rfl rfl (by kernel_rfl) (by kernel_rfl) ?_
          go_wp2
          refine rx_on (by repeat first | exact Ext.refl _ | assumption | refine Ext.setCell ?_ (by assumption)) ?_
          refine rx_op 18 (k := 0) (m' := 524287) rfl rfl (by kernel_rfl) (by kernel_rfl) ?_
          go_wp2
          refine rx_lst (by decide) ?_
          refine rx_end (by kernel_rfl) ?_
          (go_wp2; go_meet; exact ⟨_, _, rfl, rfl, by go_simp, by go_simp, by go_simp, by go_simp, (by repeat first | exact Ext.refl _ | assumption | refine Ext.setCell ?_ (by assumption))⟩)
      case rest =>
        obtain ⟨g8, g9, rfl, rfl, a0, a1, a2, a3, hb⟩ := hcut
        obtain ⟨w3, rfl⟩ : ∃ x : World, x = wc := ⟨_, rfl⟩
        have hxr := hxr.trans hb
        clear hb k0 k1 n1 n2 n3 n4 c1
        go_wp2
        go_roundw
        case rel => exact ⟨j + 1, by omega, by go_num, by rw [HSj.out], hxr⟩
        case measure => first | (simp [intOf]; done) | (simp [intOf]; omega)
    · obtain rfl : j = row.length := by omega
      go_wp2
      go_ret
      exact ⟨ret_i (by rw [HA.out]), hx0⟩
end Go.Proofs.Ytdhmjhoaegdfjaa
