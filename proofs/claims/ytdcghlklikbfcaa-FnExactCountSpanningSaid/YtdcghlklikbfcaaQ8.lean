import Derived.Test.YtdcghlklikbfcaaQ7
namespace Go.Proofs.Ytdcghlklikbfcaa.Dt
open Go.RowKit Go.Sort Go.BigFrame

set_option maxRecDepth 100000 in
set_option maxHeartbeats 8000000 in
theorem CountSpanning_s (A B : Option Addr) (c d : Nat) (ns ls : List P2) (w : World) (h : Wn w A c B d ns ls) :
    Calls Try.prog 6 #[.agg #[.slice A ns.length c, .slice B ls.length d]] w fun e w' => e = .returned (.int .i64 (vCountSpanning ns ls)) ∧ Ext w w' := by
  have hnl := h.hl
  have hml := h.hm
  cases hwh : whole ns ls with
  | false =>
    have HV : Hid (vCountSpanning ns ls = 0) := Lib.hid (by unfold vCountSpanning; rw [hwh]; rfl)
    go_enter Try.func6, Try.ntmps6
    go_wp2_with fail
    refine (IsWhole_s _ _ _ _ ns ls _ (h.ext (by repeat first | exact Ext.refl _ | assumption | refine Ext.drew ?_ | refine Ext.alloc ?_ _ | refine Ext.setCell ?_ (by simp) | refine Ext.setCell ?_ (by simp; omega) | refine Ext.trans ?_ (by assumption)))).mono ?_
    rw [hwh]
    rintro e w1 ⟨rfl, hb⟩
    go_wp2
    go_ret
    exact ⟨by rw [HV.out]; rfl, (by repeat first | exact Ext.refl _ | assumption | refine Ext.drew ?_ | refine Ext.alloc ?_ _ | refine Ext.setCell ?_ (by simp) | refine Ext.setCell ?_ (by simp; omega) | refine Ext.trans ?_ (by assumption))⟩
  | true =>
    have HW := Lib.hid (whole_ok hwh).1
    have hle := HW.out.le
    have hl0 := (whole_ok hwh).2
    obtain ⟨N, hN, hN0, hN11⟩ := whole_two hwh
    have HLP := Lib.hid (lap_okN hwh hN)
    have HV : Hid (vCountSpanning ns ls = prv (lapM ls) N) := Lib.hid (by unfold vCountSpanning; rw [hwh, if_pos rfl, show ns.length - 1 = N by omega])
    have HN := Lib.hid hN
    clear hN
    go_enter Try.func6, Try.ntmps6
    go_upto_region 1 with fail
    have k0 : (w.alloc (.cells #[.slice A ns.length c, .slice B ls.length d] 31)).cell? ⟨w.heap.size, 0, none⟩ = some (.slice A ns.length c) := by go_simp
    have k1 : (w.alloc (.cells #[.slice A ns.length c, .slice B ls.length d] 31)).cell? ⟨w.heap.size, 1, none⟩ = some (.slice B ls.length d) := by go_simp
    have hx : Ext w (w.alloc (.cells #[.slice A ns.length c, .slice B ls.length d] 31)) := (by repeat first | exact Ext.refl _ | assumption | refine Ext.drew ?_ | refine Ext.alloc ?_ _ | refine Ext.setCell ?_ (by simp) | refine Ext.setCell ?_ (by simp; omega) | refine Ext.trans ?_ (by assumption))
    have hsz1 : w.heap.size + 1 = (w.alloc (.cells #[.slice A ns.length c, .slice B ls.length d] 31)).heap.size := by simp
    generalize (w.alloc (.cells #[.slice A ns.length c, .slice B ls.length d] 31)) = w0 at *
    (try rw [hsz1])
    go_wp2_with fail
    refine (IsWhole_s _ _ _ _ ns ls _ (h.ext hx)).mono ?_
    rw [hwh]
    rintro e w1 ⟨rfl, hb⟩
    have k0 := hb.lit k0
    have k1 := hb.lit k1
    have hx := hx.trans hb
    clear hb
    go_upto_region 4 with fail
    have HM : Hid (Mx (w1.alloc (.cells #[] 41)) w1.heap.size w1.heap.size (.slice (some ⟨w1.heap.size, 0, none⟩) 0 0) 0 2 0 (fun _ => 0) (prM ls)) := Lib.hid (Mx.zero _ _ _ (Nat.le_refl _) rfl)
    have hx2 : Ext w1 (w1.alloc (.cells #[] 41)) := (Ext.refl _).alloc _
    generalize w1.alloc (.cells #[] 41) = w2 at *
    go_wp2_with fail
    go_loopw [3, 4] (fun v3 i wr => ∃ (t : Nat) (rb : Nat → Nat) (v : Value), v = v3 ∧ t ≤ ls.length ∧ i = .int .i64 t ∧ Hid (Mx wr w1.heap.size w1.heap.size v t 2 t rb (prM ls)) ∧ Ext w1 wr) (fun _ i _ => ls.length - (intOf i).toNat)
    case atStart => exact ⟨0, _, _, rfl, by omega, rfl, HM, hx2⟩
    case round =>
      clear HM hx2
      obtain ⟨t, rb, v, rfl, ht, rfl, HM, hx2⟩ := hrel
      obtain ⟨w3, rfl⟩ : ∃ x : World, x = wr := ⟨_, rfl⟩
      have hs3 := hx2.size
      have j0 := hx2.lit k0
      have j1 := hx2.lit k1
      by_cases htl : t < ls.length
      · have hti : (t : Int) < ls.length := by omega
        obtain ⟨bL, oL, eB, -, x0, x1⟩ := h.g.gp_ htl
        obtain ⟨px, py, hg⟩ : ∃ x y, gp ls (t : Nat) = (x, y) := ⟨_, _, rfl⟩
        rw [hg] at x0 x1
        subst eB
        have x0 := (hx.trans hx2).lit x0
        have x1 := (hx.trans hx2).lit x1
        have HG := Lib.hid hg
        have HNEW : Hid (∀ i, i < t → rb i < w3.heap.size) := Lib.hid (fun i hi => (World.ownsRow.lt (HM.out.rw_ i hi) (rb i) rfl).2)
        clear hg
        go_upto_region 7 with fail
        have d0 := cell_regrown j1
        have d1 := cell_regrown x0
        have d2 := cell_regrown x1
        refine rx_open [(true, 0, some 16, 8), (true, 0, some 17, 2), (true, 2, some 18, 131072), (true, 0, some 19, 16), (true, 12, some 20, 786432), (true, 16, some 21, 1048576), (true, 32, some 22, 2097152), (true, 0, some 23, 2), (true, 128, some 24, 8388608), (true, 0, some 25, 16), (true, 768, some 26, 50331648), (true, 1024, some 27, 67108864), (true, 2048, some 28, 134217728), (false, 4160, some 29, 272629760), (false, 8192, some 30, 536870912), (false, 16385, some 31, 1073807360), (true, 65535, some 3, 2147483648)] 98304 17 mixd rfl (by kernel_rfl) (by kernel_rfl) (by kernel_rfl) ?_
        have hxc := Ext.drew (Ext.refl w3)
        obtain ⟨wz, hwz⟩ : ∃ x : World, x = w3.drew := ⟨_, rfl⟩
        rw [← hwz]
        rw [← hwz] at hxc
        clear hwz
        refine rx_run (run := [0, 1, 2, 3, 4, 5, 6, 7, 8, 9, 10, 11, 12]) (k := 4) (m' := 8191) rfl (by kernel_rfl) (by kernel_rfl) (by kernel_rfl) (fm_cons rfl <| fm_cons rfl <| fm_cons rfl <| fm_cons rfl <| fm_cons rfl <| fm_cons rfl <| fm_cons rfl <| fm_cons rfl <| fm_cons rfl <| fm_cons rfl <| fm_cons rfl <| fm_cons rfl <| fm_cons rfl <| List.filterMap_nil) (by repeat first | exact Ext.refl _ | assumption | refine Ext.drew ?_ | refine Ext.alloc ?_ _ | refine Ext.setCell ?_ (by simp) | refine Ext.setCell ?_ (by simp; omega) | refine Ext.trans ?_ (by assumption)) ?_
        repeat (go_big_quiet_step ((fail)))
        refine wpQuiet_nil ?_
        refine rx_op 13 (k := 3) (m' := 16383) rfl rfl (by kernel_rfl) (by kernel_rfl) ?_
        go_wp2
        refine rx_on (by repeat first | exact Ext.refl _ | assumption | refine Ext.drew ?_ | refine Ext.alloc ?_ _ | refine Ext.setCell ?_ (by simp) | refine Ext.setCell ?_ (by simp; omega) | refine Ext.trans ?_ (by assumption)) ?_
        refine rx_op 14 (k := 2) (m' := 32767) rfl rfl (by kernel_rfl) (by kernel_rfl) ?_
        go_wp2
        refine rx_on (by repeat first | exact Ext.refl _ | assumption | refine Ext.drew ?_ | refine Ext.alloc ?_ _ | refine Ext.setCell ?_ (by simp) | refine Ext.setCell ?_ (by simp; omega) | refine Ext.trans ?_ (by assumption)) ?_
        refine rx_op 15 (k := 1) (m' := 65535) rfl rfl (by kernel_rfl) (by kernel_rfl) ?_
        go_wp2_with ((at_builtin; have hxa : Ext wz (wz.alloc (.cells #[.int .i64 px, .int .i64 py] 3)) := (Ext.refl _).alloc _; have hxb : Ext (wz.alloc (.cells #[.int .i64 px, .int .i64 py] 3)) ((wz.alloc (.cells #[.int .i64 px, .int .i64 py] 3)).alloc (.cells #[.slice (some ⟨wz.heap.size, 0, none⟩) 2 2] 41)) := (Ext.refl _).alloc _; refine az_irow _ _ rfl rfl rfl (((HM.out.ext hxc).ext hxa).ext hxb) (g := wz.heap.size + 1) (g1 := wz.heap.size) (by first | rfl | (simp; done)) (by go_simp) ((row2_new HG.out (Nat.le_trans hs3 hxc.size) rfl).ext hxb) (fun i hi => Nat.lt_of_lt_of_le (HNEW.out i hi) hxc.size) (by omega) (Nat.le_trans (Nat.le_trans hs3 hxc.size) (hxa.trans hxb).size) ?_; intro v' w9 h9 h9e; have hx9 := h9e w1 (hx2.trans (hxc.trans (hxa.trans hxb))) (Nat.le_refl _); have HM9 := Lib.hid h9; clear h9 h9e))
        refine rx_lst (by decide) ?_
        refine rx_op 16 (k := 0) (m' := 131071) rfl rfl (by kernel_rfl) (by kernel_rfl) ?_
        go_wp2
        refine rx_lst (by decide) ?_
        refine rx_end (by kernel_rfl) ?_
        go_wp2
        go_roundw
        case rel => first | exact ⟨t + 1, _, _, rfl, by omega, by go_num, HM9, hx9⟩ | ((repeat apply Exists.intro); exact ⟨⟨t + 1, _, _, rfl, by omega, by go_num, HM9, hx9⟩, rfl⟩)
        case measure => first | (simp [intOf]; done) | (simp [intOf]; omega)
      · have et : t = ls.length := by omega
        have hti : (ls.length : Int) ≤ t := by omega
        have HMP : Hid (Mx w3 w1.heap.size w1.heap.size v ls.length 2 ls.length rb (prM ls)) := Lib.hid (by have := HM.out; rw [et] at this; exact this)
        obtain ⟨gP, cP, rfl, -, -, -⟩ := HMP.out.shape hl0
        have HLL : Hid (∀ t, t < ls.length → ∃ p q : Nat, gp ls (t : Nat) = ((p : Int), (q : Int)) ∧ p < q ∧ q < ns.length) := Lib.hid (fun t ht => lok_nat' (HW.out.ld t ht).1)
        have etl : (t : Int) = ls.length := by omega
        clear HM
        subst et
        go_wp2_with fail
        refine (l16Matrix_s gP cP ns.length N _ rb ls _ HMP.out hle hl0 HN.out hN0 hN11 HLL.out).mono ?_
        rintro e w4 ⟨g, cc, rb2, rfl, hM4, hb4⟩
        have HM4 := Lib.hid hM4
        clear hM4
        go_wp2_with fail
        refine (l16Det_s g cc N rb2 (lapM ls) _ _ _ w3 HM4.out hN0 (by omega) HLP.out.1 HLP.out.2 hb4 (Nat.le_refl _)).mono ?_
        rintro e w9 ⟨rfl, hb9⟩
        go_wp2
        go_ret
        exact ⟨by rw [HV.out]; rfl, hx.trans (hx2.trans hb9)⟩
end Go.Proofs.Ytdcghlklikbfcaa.Dt
