import Derived.Test.YtdhmjhoaegdfjaaD25
import Derived.RegionTactic
import Derived.ChangeAlike
namespace Go.Proofs.Ytdhmjhoaegdfjaa
open Go.RowKit Go.Sort Go.BigFrame

def bxN (ns : List P2) (l : List Int) : Nat → P2 × P2
  | 0 => (gp ns (gi l (0 : Nat)), gp ns (gi l (0 : Nat)))
  | j + 1 => ((imin (bxN ns l j).1.1 (gp ns (gi l (j : Nat))).1, imin (bxN ns l j).1.2 (gp ns (gi l (j : Nat))).2), (imax (bxN ns l j).2.1 (gp ns (gi l (j : Nat))).1, imax (bxN ns l j).2.2 (gp ns (gi l (j : Nat))).2))
def vPaneBox (ns ls : List P2) (f : Int) : P2 × P2 := if hasF ns ls f = true then bxN ns (vPaneNodes ns ls f) (vPaneNodes ns ls f).length else ((0, 0), (0, 0))

theorem st2 {w : World} {g4 g5 : Nat} {x0 x1 y0 y1 u0 u1 u2 u3 : Value} (hne : g4 ≠ g5) (a0 : w.cell? ⟨g4, 0, none⟩ = some u0) (a1 : w.cell? ⟨g4, 1, none⟩ = some u1) (b0 : w.cell? ⟨g5, 0, none⟩ = some u2) (b1 : w.cell? ⟨g5, 1, none⟩ = some u3) :
    ((((w.setCell ⟨g4, 0, none⟩ x0).setCell ⟨g4, 1, none⟩ x1).setCell ⟨g5, 0, none⟩ y0).setCell ⟨g5, 1, none⟩ y1).cell? ⟨g4, 0, none⟩ = some x0 ∧
    ((((w.setCell ⟨g4, 0, none⟩ x0).setCell ⟨g4, 1, none⟩ x1).setCell ⟨g5, 0, none⟩ y0).setCell ⟨g5, 1, none⟩ y1).cell? ⟨g4, 1, none⟩ = some x1 ∧
    ((((w.setCell ⟨g4, 0, none⟩ x0).setCell ⟨g4, 1, none⟩ x1).setCell ⟨g5, 0, none⟩ y0).setCell ⟨g5, 1, none⟩ y1).cell? ⟨g5, 0, none⟩ = some y0 ∧
    ((((w.setCell ⟨g4, 0, none⟩ x0).setCell ⟨g4, 1, none⟩ x1).setCell ⟨g5, 0, none⟩ y0).setCell ⟨g5, 1, none⟩ y1).cell? ⟨g5, 1, none⟩ = some y1 := by
  have hne' := Ne.symm hne
  refine ⟨by go_simp, by go_simp, by go_simp, by go_simp⟩
set_option maxRecDepth 100000 in
set_option maxHeartbeats 4000000 in
theorem PaneBox_i (A B : Option Addr) (c d : Nat) (ns ls : List P2) (f : Int) (w : World) (h : Wn w A c B d ns ls) :
    Calls Try.prog 43 #[.agg #[.slice A ns.length c, .slice B ls.length d], .int .i64 f] w fun e w' => e = .returned (.tuple #[pv (vPaneBox ns ls f).1, pv (vPaneBox ns ls f).2]) ∧ Ext w w' := by
  have HV : Hid (vPaneBox ns ls f = if hasF ns ls f = true then bxN ns (vPaneNodes ns ls f) (vPaneNodes ns ls f).length else ((0, 0), (0, 0))) := Lib.hid rfl
  have hpl := vPaneNodes_len ns ls f
  by_cases hf : hasF ns ls f = true
  · have hpp := pane_pos hf
    rw [if_pos hf] at HV
    have HW : Hid (WOk ns ls) := Lib.hid (pane_wok hf)
    have HNN : Hid (∀ i, i < (vPaneNodes ns ls f).length → ∃ a : Nat, gi (vPaneNodes ns ls f) (i : Nat) = a ∧ a < ns.length) := Lib.hid (fun i hi => pane_node hi)
    go_enter Try.func43, Try.ntmps43
    go_wp2_with fail
    refine (PaneNodes_i0 _ _ _ _ ns ls f _ (h.ext (by repeat first | exact Ext.refl _ | assumption | refine Ext.drew ?_ | refine Ext.alloc ?_ _ | refine Ext.setCell ?_ (by simp) | refine Ext.setCell ?_ (by simp; omega) | refine Ext.trans ?_ (by assumption)))).mono ?_
    rintro e w1 ⟨v, rfl, hv, hnil, hb⟩
    have v4 : Av w w1 (w.heap.size + 1) (.int .i64 0) (.int .i64 0) := Av.ext (W := w) ⟨by go_simp, by go_simp, by go_simp, by go_simp, by simp, by omega⟩ hb
    have v5 : Av w w1 (w.heap.size + 1 + 1) (.int .i64 0) (.int .i64 0) := Av.ext (W := w) ⟨by go_simp, by go_simp, by go_simp, by go_simp, by simp, by omega⟩ hb
    have k0 := hb.lit (b := w.heap.size) (o := 0) (v := .slice A ns.length c) (by go_simp)
    have k1 := hb.lit (b := w.heap.size) (o := 1) (v := .slice B ls.length d) (by go_simp)
    have hx : Ext w w1 := (by repeat first | exact Ext.refl _ | assumption | refine Ext.drew ?_ | refine Ext.alloc ?_ _ | refine Ext.setCell ?_ (by simp) | refine Ext.setCell ?_ (by simp; omega) | refine Ext.trans ?_ (by assumption))
    have v40 := v4.2.2.2.2.1
    have v50 := v5.2.2.2.2.1
    clear hb
    clear hnil
    obtain ⟨g, c9, rfl, -, -, -, -, -⟩ := hv.gi_ (j := 0) hpp
    generalize vPaneNodes ns ls f = l at *
    have H0 : Hid (bxN ns l 0 = (gp ns (gi l (0 : Nat)), gp ns (gi l (0 : Nat)))) := Lib.hid rfl
    have HS : Hid (∀ j : Nat, bxN ns l (j + 1) = ((imin (bxN ns l j).1.1 (gp ns (gi l (j : Nat))).1, imin (bxN ns l j).1.2 (gp ns (gi l (j : Nat))).2), (imax (bxN ns l j).2.1 (gp ns (gi l (j : Nat))).1, imax (bxN ns l j).2.2 (gp ns (gi l (j : Nat))).2))) := Lib.hid (fun _ => rfl)
    obtain ⟨a, ea, ha⟩ := HNN.out 0 hpp
    have c1 := (hv.cel (j := 0) hpp).1
    rw [ea] at c1 H0
    obtain ⟨bb, off, rfl, hbb, n1, n2⟩ := (h.ext hx).h.gp_ ha
    have u1 : (a : Int) < ns.length := by omega
    have hl0 : (0 : Int) < l.length := by omega
    have HAA : Hid (∀ i (hi : i < ns.length) (w' : World), Ext w w' → w'.cell? ⟨bb, off + i * 2, none⟩ = some (.int .i64 (gp ns (i : Nat)).1) ∧ w'.cell? ⟨bb, off + i * 2 + 1, none⟩ = some (.int .i64 (gp ns (i : Nat)).2)) := Lib.hid (fun i hi w' hx' => by
      obtain ⟨b', o', e', -, m1, m2⟩ := (h.ext hx').h.gp_ hi
      obtain ⟨rfl, rfl⟩ : bb = b' ∧ off = o' := by simpa using e'
      exact ⟨m1, m2⟩)
    generalize hY : gp ns (a : Int) = Y at *
    obtain ⟨ax, ay⟩ := Y
    clear ea hY
    go_wp2_with fail
    go_cut [7, 8] (fun s7 s8 wx => ∃ g7 g8, s7 = .pointer (some ⟨g7, 0, none⟩) ∧ s8 = .pointer (some ⟨g8, 0, none⟩) ∧ Av w1 wx g7 (.int .i64 ax) (.int .i64 ay) ∧ Av w1 wx g8 (.int .i64 ax) (.int .i64 ay) ∧ g7 ≠ g8 ∧ Ext w1 wx)
    case first =>
      have d0 := cell_regrown k0
      have d1 := cell_regrown c1
      have d2 := cell_regrown n1
      have d3 := cell_regrown n2
      refine rx_open [(true, 0, some 19, 4), (true, 1, some 20, 524288), (true, 0, some 21, 64), (true, 4, some 22, 2097152), (true, 8, some 23, 4194304), (true, 18, some 24, 9437184), (true, 32, some 25, 16777216), (true, 0, some 26, 4), (true, 128, some 27, 67108864), (true, 0, some 28, 64), (true, 512, some 29, 268435456), (true, 1024, some 30, 536870912), (true, 2304, some 31, 1207959552), (true, 4096, some 32, 2147483648), (false, 0, some 7, 0), (false, 0, some 8, 0), (false, 49279, none, 33554560), (false, 131071, none, 4294967552)] 131072 18 mixd rfl (by kernel_rfl) (by kernel_rfl) (by kernel_rfl) ?_
      have hxc := Ext.drew (Ext.refl w1)
      obtain ⟨wz, hwz⟩ : ∃ x : World, x = w1.drew := ⟨_, rfl⟩
      rw [← hwz]
      rw [← hwz] at hxc
      clear hwz
      apply rx_memo
      intro M3
      apply rx_memo
      intro M2
      apply rx_memo
      intro M1
      · skip
        refine rx_run (run := [0, 1, 2, 3, 4, 5, 6, 7, 8, 9, 10, 11, 12, 13]) (k := 4) (m' := 16383) rfl (by kernel_rfl) (by kernel_rfl) (by kernel_rfl) (fm_cons rfl <| fm_cons rfl <| fm_cons rfl <| fm_cons rfl <| fm_cons rfl <| fm_cons rfl <| fm_cons rfl <| fm_cons rfl <| fm_cons rfl <| fm_cons rfl <| fm_cons rfl <| fm_cons rfl <| fm_cons rfl <| fm_cons rfl <| List.filterMap_nil) hxc ?_
        repeat (go_big_quiet_step ((fail)))
        refine wpQuiet_nil ?_
        refine rx_two 14 15 (k := 3) (mi := 32767) (mj := 49151) rfl rfl rfl (by kernel_rfl) (by kernel_rfl) (by kernel_rfl) ?_ ?_
        · skip
          go_wp2
          refine rx_on (Ext.alloc hxc _) ?_
          generalize hg : (wz).heap.size = g7
          refine rx_gen3 hxc hg ?_
          intro wn hbn hxn v7
          clear hg hbn
          replace hxc := hxn
          clear hxn
          revert v7
          revert hxc
          revert wn
          revert g7
          exact M1
        · skip
          go_wp2
          refine rx_on (Ext.alloc hxc _) ?_
          generalize hg : (wz).heap.size = g8
          refine rx_gen3 hxc hg ?_
          intro wn hbn hxn v8
          clear hg hbn
          replace hxc := hxn
          clear hxn
          revert v8
          revert hxc
          revert wn
          revert g8
          exact M2
      · skip
        intro g7 wz hxc v7
        refine rx_op 15 (k := 2) (m' := 65535) rfl rfl (by kernel_rfl) (by kernel_rfl) ?_
        go_wp2
        refine rx_on (Ext.alloc hxc _) ?_
        generalize hg : (wz).heap.size = g8
        refine rx_gen3 hxc hg ?_
        intro wn hbn hxn v8
        have n7_8 : g7 ≠ g8 := by have := v7.2.2.2.2.1; omega
        have n8_7 := Ne.symm n7_8
        replace v7 := v7.ext hbn
        clear hg hbn
        replace hxc := hxn
        clear hxn
        revert n8_7
        revert n7_8
        revert v8
        revert v7
        revert hxc
        revert wn
        revert g8
        revert g7
        exact M3
      · skip
        intro g8 wz hxc v8
        refine rx_op 14 (k := 2) (m' := 65535) rfl rfl (by kernel_rfl) (by kernel_rfl) ?_
        go_wp2
        refine rx_on (Ext.alloc hxc _) ?_
        generalize hg : (wz).heap.size = g7
        refine rx_gen3 hxc hg ?_
        intro wn hbn hxn v7
        have n8_7 : g8 ≠ g7 := by have := v8.2.2.2.2.1; omega
        have n7_8 := Ne.symm n8_7
        replace v8 := v8.ext hbn
        clear hg hbn
        replace hxc := hxn
        clear hxn
        revert n8_7
        revert n7_8
        revert v8
        revert v7
        revert hxc
        revert wn
        revert g8
        revert g7
        exact M3
      · skip
        intro g7 g8 wz hxc v7 v8 n7_8 n8_7
        obtain ⟨a7_0, a7_1, f7_0, f7_1, s7, l7⟩ := v7
        obtain ⟨a8_0, a8_1, f8_0, f8_1, s8, l8⟩ := v8
        refine rx_op 16 (k := 1) (m' := 131071) rfl rfl (by kernel_rfl) (by kernel_rfl) ?_
        go_wp2
        refine rx_on (by repeat first | exact Ext.refl _ | assumption | refine Ext.setCell ?_ (by assumption)) ?_
        refine rx_op 17 (k := 0) (m' := 262143) rfl rfl (by kernel_rfl) (by kernel_rfl) ?_
        go_wp2
        refine rx_lst (by decide) ?_
        refine rx_end (by kernel_rfl) ?_
        (go_wp2; go_meet; exact ⟨_, _, rfl, rfl, ⟨by go_simp, by go_simp, by go_simp, by go_simp, by simpa using s7, l7⟩, ⟨by go_simp, by go_simp, by go_simp, by go_simp, by simpa using s8, l8⟩, n7_8, (by repeat first | exact Ext.refl _ | assumption | refine Ext.setCell ?_ (by assumption))⟩)
    case rest =>
      obtain ⟨g7, g8, rfl, rfl, w7, w8, hne, hxr⟩ := hcut
      obtain ⟨w2, rfl⟩ : ∃ x : World, x = wc := ⟨_, rfl⟩
      have hne' := Ne.symm hne
      clear n1 n2 c1
      go_wp2_with fail
      go_loopw [10, 11, 35] (fun _ _ i wr => ∃ j : Nat, j ≤ l.length ∧ i = .int .i64 j ∧ Av w1 wr g7 (.int .i64 (bxN ns l j).1.1) (.int .i64 (bxN ns l j).1.2) ∧ Av w1 wr g8 (.int .i64 (bxN ns l j).2.1) (.int .i64 (bxN ns l j).2.2) ∧ Ext w1 wr) (fun _ _ i _ => l.length - (intOf i).toNat)
      case atStart => exact ⟨0, by omega, rfl, by rw [H0.out]; exact w7, by rw [H0.out]; exact w8, hxr⟩
      case round =>
        clear w7 w8 hxr
        obtain ⟨j, hj, rfl, w7, w8, hxr⟩ := hrel
        obtain ⟨wo, rfl⟩ : ∃ x : World, x = wr := ⟨_, rfl⟩
        have k0 := hxr.lit k0
        by_cases hlt : j < l.length
        · obtain ⟨a, ea, ha⟩ := HNN.out j hlt
          have c1 := ((hv.ext hxr).cel (j := j) hlt).1
          obtain ⟨n1, n2⟩ := HAA.out a ha wo (hx.trans hxr)
          have HSj := Lib.hid (HS.out j)
          rw [ea] at c1 HSj
          have u1 : (a : Int) < ns.length := by omega
          generalize bxN ns l j = Q at *
          generalize gp ns (a : Int) = Y at *
          obtain ⟨⟨lx, ly⟩, ⟨hx', hy'⟩⟩ := Q
          obtain ⟨ax, ay⟩ := Y
          clear ea
          go_upto_region 8 with fail
          go_cut [11] (fun s wx => ∃ g11, s = .pointer (some ⟨g11, 0, none⟩) ∧ wx.cell? ⟨g11, 0, none⟩ = some (.int .i64 ax) ∧ wx.cell? ⟨g11, 1, none⟩ = some (.int .i64 ay) ∧ g7 ≠ g11 ∧ g8 ≠ g11 ∧ Ext wo wx)
          case first =>
            go_wp2
            go_meet
            exact ⟨_, rfl, by go_simp, by go_simp, Nat.ne_of_lt w7.2.2.2.2.1, Nat.ne_of_lt w8.2.2.2.2.1, (by repeat first | exact Ext.refl _ | assumption | refine Ext.drew ?_ | refine Ext.alloc ?_ _ | refine Ext.setCell ?_ (by simp) | refine Ext.setCell ?_ (by simp; omega) | refine Ext.trans ?_ (by assumption))⟩
          case rest =>
            obtain ⟨g11, rfl, m1, m2, e7, e8, hb⟩ := hcut
            obtain ⟨w3, rfl⟩ : ∃ x : World, x = wc := ⟨_, rfl⟩
            have w7 := w7.ext hb
            have w8 := w8.ext hb
            have hxr := hxr.trans hb
            clear hb n1 n2 c1 k0
            have e7' := Ne.symm e7
            have e8' := Ne.symm e8
            obtain ⟨a70, a71, f70, f71, s7, l7⟩ := w7
            obtain ⟨a80, a81, f80, f81, s8, l8⟩ := w8
            go_wp2
            go_roundw
            case rel => exact ⟨j + 1, by omega, by go_num, by rw [HSj.out]; exact ⟨by go_simp, by go_simp, by go_simp, by go_simp, by simpa using s7, l7⟩, by rw [HSj.out]; exact ⟨by go_simp, by go_simp, by go_simp, by go_simp, by simpa using s8, l8⟩, (by repeat first | exact Ext.refl _ | assumption | refine Ext.setCell ?_ (by assumption))⟩
            case measure => first | (simp [intOf]; done) | (simp [intOf]; omega)
        · obtain rfl : j = l.length := by omega
          have v4 := v4.ext hxr
          have v5 := v5.ext hxr
          have n47 := Nat.ne_of_lt (Nat.lt_of_lt_of_le v40 w7.2.2.2.2.2)
          have n48 := Nat.ne_of_lt (Nat.lt_of_lt_of_le v40 w8.2.2.2.2.2)
          have n57 := Nat.ne_of_lt (Nat.lt_of_lt_of_le v50 w7.2.2.2.2.2)
          have n58 := Nat.ne_of_lt (Nat.lt_of_lt_of_le v50 w8.2.2.2.2.2)
          obtain ⟨a0, a1, fa0, fa1, -, -⟩ := v4
          obtain ⟨b0, b1, fb0, fb1, -, -⟩ := v5
          obtain ⟨a70, a71, f70, f71, -, -⟩ := w7
          obtain ⟨a80, a81, f80, f81, -, -⟩ := w8
          have hxx := hx.trans hxr
          obtain ⟨q1, q2, q3, q4⟩ := st2 (w := wo) (g4 := w.heap.size + 1) (g5 := w.heap.size + 1 + 1) (x0 := .int .i64 (bxN ns l l.length).1.1) (x1 := .int .i64 (bxN ns l l.length).1.2) (y0 := .int .i64 (bxN ns l l.length).2.1) (y1 := .int .i64 (bxN ns l l.length).2.2) (by omega) a0 a1 b0 b1
          go_wp2
          go_region
          simp only [Exit.then]
          go_wp2
          (try simp only [Exit.inBlock, Exit.then])
          refine bodyPost_ret (by simp [results, Try.results43, go_sem, q1, q2, q3, q4]; try rfl) rfl ?_
          exact ⟨by rw [HV.out]; rfl, Ext.drew ((((hxx.setCell (p := ⟨w.heap.size + 1, 0, none⟩) (Nat.le_add_right _ _)).setCell (p := ⟨w.heap.size + 1, 1, none⟩) (Nat.le_add_right _ _)).setCell (p := ⟨w.heap.size + 1 + 1, 0, none⟩) (Nat.le_add_right _ 2)).setCell (p := ⟨w.heap.size + 1 + 1, 1, none⟩) (Nat.le_add_right _ 2))⟩
  · have hf' := eq_false_of_ne_true hf
    rw [if_neg hf] at HV
    go_enter Try.func43, Try.ntmps43
    go_wp2_with fail
    refine (PaneNodes_i0 _ _ _ _ ns ls f _ (h.ext (by repeat first | exact Ext.refl _ | assumption | refine Ext.drew ?_ | refine Ext.alloc ?_ _ | refine Ext.setCell ?_ (by simp) | refine Ext.setCell ?_ (by simp; omega) | refine Ext.trans ?_ (by assumption)))).mono ?_
    rintro e w1 ⟨v, rfl, hv, hnil, hb⟩
    have v4 : Av w w1 (w.heap.size + 1) (.int .i64 0) (.int .i64 0) := Av.ext (W := w) ⟨by go_simp, by go_simp, by go_simp, by go_simp, by simp, by omega⟩ hb
    have v5 : Av w w1 (w.heap.size + 1 + 1) (.int .i64 0) (.int .i64 0) := Av.ext (W := w) ⟨by go_simp, by go_simp, by go_simp, by go_simp, by simp, by omega⟩ hb
    have k0 := hb.lit (b := w.heap.size) (o := 0) (v := .slice A ns.length c) (by go_simp)
    have k1 := hb.lit (b := w.heap.size) (o := 1) (v := .slice B ls.length d) (by go_simp)
    have hx : Ext w w1 := (by repeat first | exact Ext.refl _ | assumption | refine Ext.drew ?_ | refine Ext.alloc ?_ _ | refine Ext.setCell ?_ (by simp) | refine Ext.setCell ?_ (by simp; omega) | refine Ext.trans ?_ (by assumption))
    have v40 := v4.2.2.2.2.1
    have v50 := v5.2.2.2.2.1
    clear hb
    obtain rfl := hnil hf'
    obtain ⟨a0, a1, fa0, fa1, -, -⟩ := v4
    obtain ⟨b0, b1, fb0, fb1, -, -⟩ := v5
    obtain ⟨q1, q2, q3, q4⟩ := st2 (w := w1) (g4 := w.heap.size + 1) (g5 := w.heap.size + 1 + 1) (x0 := .int .i64 0) (x1 := .int .i64 0) (y0 := .int .i64 0) (y1 := .int .i64 0) (by omega) a0 a1 b0 b1
    go_wp2
    (try simp only [Exit.inBlock, Exit.then])
    refine bodyPost_ret (by simp [results, Try.results43, go_sem, q1, q2, q3, q4]; try rfl) rfl ?_
    exact ⟨by rw [HV.out]; rfl, ((((hx.setCell (p := ⟨w.heap.size + 1, 0, none⟩) (Nat.le_add_right _ _)).setCell (p := ⟨w.heap.size + 1, 1, none⟩) (Nat.le_add_right _ _)).setCell (p := ⟨w.heap.size + 1 + 1, 0, none⟩) (Nat.le_add_right _ 2)).setCell (p := ⟨w.heap.size + 1 + 1, 1, none⟩) (Nat.le_add_right _ 2))⟩
end Go.Proofs.Ytdhmjhoaegdfjaa
