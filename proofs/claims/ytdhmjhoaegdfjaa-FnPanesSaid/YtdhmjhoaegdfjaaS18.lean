import Derived.Test.YtdhmjhoaegdfjaaT24
import Derived.Test.YtdhmjhoaegdfjaaS14
import Derived.Test.YtdhmjhoaegdfjaaS11
namespace Go.Proofs.Ytdhmjhoaegdfjaa
open Go.RowKit Go.Sort Go.BigFrame Pl
theorem sh_convex : vIsConvexPane shN0 shL0 0 = true := by decide +kernel
set_option maxRecDepth 100000 in
set_option maxHeartbeats 16000000 in
theorem FnPanes_t (w : World) (A : Option Addr) (n c : Nat) (hn : n ≤ 9223372036854775807) (xs : List Int) (_hby : ∀ x ∈ xs, 0 ≤ x ∧ x < 256) (hs : Sl w w.heap.size 1 A n (xs.map (Value.int .u8))) :
    Calls Try.prog 6 #[.slice A n c] w fun e w' => e = .returned (.bool true) ∧ Ext w w' := by
  by_cases hbig : (1048576 : Int) < n
  · skip
    go_enter Try.func6, Try.ntmps6
    go_wp2_with fail
    refine (big_c A n c _).mono ?_
    rw [decide_eq_true (show (1048576 : Int) < (n : Int) by omega)]
    rintro e w' ⟨rfl, rfl⟩
    go_wp2
    go_ret
    exact ⟨rfl, Ext.refl _⟩
  · have HSL := Lib.hid hs
    clear hs
    go_enter Try.func6, Try.ntmps6
    go_wp2_with fail
    refine (big_c A n c _).mono ?_
    rw [decide_eq_false (show ¬ (1048576 : Int) < (n : Int) by omega)]
    rintro e w' ⟨rfl, rfl⟩
    go_wp2_with fail
    refine (DrawWhole_s _ A n c hn xs HSL.out).mono ?_
    rintro e w1 ⟨v1, v2, ns, ls, rfl, o1, o2, hwh, hb⟩
    have hlk := wok_len (whole_wok hwh)
    obtain ⟨A1, c1, rfl, -, -, -⟩ := o1.shape
    obtain ⟨A2, c2, rfl, -, -, -⟩ := o2.shape
    go_upto_region 4 with fail
    have hb2 := (Ext.refl w1).alloc (.cells #[.slice A1 ns.length c1, .slice A2 ls.length c2] 27)
    have HB : Hid (Bk (w1.alloc (.cells #[.slice A1 ns.length c1, .slice A2 ls.length c2] 27)) w1.heap.size 27 [.slice A1 ns.length c1, .slice A2 ls.length c2]) := Lib.hid (Bk.new _ _ rfl)
    have hwn : Wn (w1.alloc (.cells #[.slice A1 ns.length c1, .slice A2 ls.length c2] 27)) A1 c1 A2 c2 ns ls := wn_own (OwP.ext2 o1 hb2) (OwP.ext2 o2 hb2) (by omega) (by omega)
    have HWN := Lib.hid hwn
    have HX0 := Lib.hid (hb.trans hb2)
    clear o1 o2 hb hb2 hwn
    generalize (w1.alloc (.cells #[.slice A1 ns.length c1, .slice A2 ls.length c2] 27)) = w2 at *
    generalize w1.heap.size = g3 at *
    have k0 := HB.out.cell 0
    have k1 := HB.out.cell 1
    simp only [List.getElem?_cons_zero, List.getElem?_cons_succ] at k0 k1
    clear HB HSL
    have HWH := Lib.hid hwh
    have hFl := vFaces_len ns ls
    have hless := panes_less hwh
    have hbi := best_iff (ns := ns) (ls := ls)
    clear hwh
    go_wp2_with fail
    refine (FacesOf_s _ _ _ _ ns ls _ HWN.out).mono ?_
    rintro e w3 ⟨vF, rfl, hF, hb⟩
    obtain ⟨AF, cF, rfl, -⟩ := hF.shape
    clear hF
    have HNF : Hid ((vFaces ns ls).length = (vFaces ns ls).length) := Lib.hid rfl
    have hFp := faces_pos HWH.out
    have HHP : Hid (∀ f : Nat, f < (vFaces ns ls).length → hsI (vPanesOf ns ls) (f : Int) = vIsPane ns ls (f : Int)) := Lib.hid (fun f hf => has_pane hf)
    have HPL : Hid (∀ f : Nat, f < (vFaces ns ls).length → (vPaneNodes ns ls (f : Int)).length = ((vFaces ns ls).getD f []).length) := Lib.hid (fun f hf => pane_len hf)
    have HBX := Lib.hid (fun (f : Nat) (hf : f < (vFaces ns ls).length) => pane_box HWH.out hf)
    have HBE := Lib.hid (fun (f : Nat) (hf : f < (vFaces ns ls).length) (hp : vIsPane ns ls (f : Int) = true) => best_ok hf hp)
    have HFF : Hid (∀ f : Nat, f < (vFaces ns ls).length → f < (vFaces ns ls).length) := Lib.hid (fun f hf => hf)
    have k0 := hb.lit k0
    have k1 := hb.lit k1
    have HWN := Lib.hid (HWN.out.ext hb)
    have HX0 := Lib.hid (HX0.out.trans hb)
    clear hb
    generalize hNN : (vFaces ns ls).length = N at HHP HPL HBX HBE hFp hless hFl ⊢
    have HN := Lib.hid hNN
    clear hNN HNF HFF
    go_wp2_with fail
    refine (PanesOf_i _ _ _ _ ns ls _ HWN.out).mono ?_
    rintro e w4 ⟨v4, rfl, h4, hb⟩
    have hl4 := vPanesOf_len ns ls
    obtain ⟨AL, cL, rfl, -, -, hinL⟩ := h4.shape
    replace HX0 := Lib.hid (HX0.out.trans hb)
    replace HWN := Lib.hid (HWN.out.ext hb)
    replace k0 := hb.lit k0
    replace k1 := hb.lit k1
    clear hb h4
    go_wp2_with fail
    refine (WidestPane_i _ _ _ _ ns ls _ HWN.out).mono ?_
    rintro e w5 ⟨rfl, hb⟩
    replace HX0 := Lib.hid (HX0.out.trans hb)
    replace HWN := Lib.hid (HWN.out.ext hb)
    replace k0 := hb.lit k0
    replace k1 := hb.lit k1
    replace hinL := hinL.ext hb
    clear hb
    have HBI := Lib.hid hbi
    clear hbi
    generalize hBV : vWidestPane ns ls = best at *
    have HBV := Lib.hid hBV
    clear hBV
    go_wp2_with fail
    go_loopw [7] (fun i wr => ∃ f : Nat, f ≤ N ∧ i = .int .i64 f ∧ Ext w5 wr) (fun i _ => N - (intOf i).toNat)
    case atStart => exact ⟨0, by omega, rfl, Ext.refl _⟩
    case round =>
      obtain ⟨f, hf, rfl, hxr⟩ := hrel
      obtain ⟨w6, rfl⟩ : ∃ x : World, x = wr := ⟨_, rfl⟩
      by_cases hlt : f < N
      · have hfi : (f : Int) < N := by omega
        have j0 := hxr.lit k0
        have j1 := hxr.lit k1
        have HH := Lib.hid (HHP.out f hlt)
        have HL := Lib.hid (HPL.out f hlt)
        obtain ⟨b1, b2, b3, b4⟩ := HBX.out f hlt
        have HBE1 := Lib.hid (HBE.out f hlt)
        have HPN : Hid (∀ i, i < (vPaneNodes ns ls (f : Int)).length → ∃ a : Nat, gi (vPaneNodes ns ls (f : Int)) (i : Nat) = a ∧ a < ns.length) := Lib.hid (fun i hi => pane_node hi)
        have hpl := vPaneNodes_len ns ls (f : Int)
        have HPC : Hid (vIsPane ns ls (f : Int) = true → 3 ≤ vCornersOf ns ls (f : Int) ∧ vCornersOf ns ls (f : Int) ≤ ((vPaneNodes ns ls (f : Int)).length : Int)) := Lib.hid (fun h => pane_corners h)
        have HPO : Hid (vIsPane ns ls (f : Int) = true → (f : Int) ≠ vOuter ns ls) := Lib.hid (fun h => pane_out h)
        have HCX : Hid (vIsPane ns ls (f : Int) = false → vIsConvexPane ns ls (f : Int) = false) := Lib.hid (fun h => convex_pane h)
        go_wp2_with fail
        refine (PaneNodes_i _ _ _ _ ns ls (f : Int) _ (HWN.out.ext hxr)).mono ?_
        rintro e w7 ⟨v7, rfl, h7, hb⟩
        obtain ⟨AP, cP, rfl, -, -, hinP⟩ := h7.shape
        replace hxr := hxr.trans hb
        replace j0 := hb.lit j0
        replace j1 := hb.lit j1
        clear hb h7
        go_wp2_with fail
        refine (IsPane_i _ _ _ _ ns ls (f : Int) _ (HWN.out.ext hxr)).mono ?_
        rintro e w8 ⟨rfl, hb⟩
        replace hxr := hxr.trans hb
        replace j0 := hb.lit j0
        replace j1 := hb.lit j1
        replace hinP := hinP.ext hb
        clear hb
        have q1 : (vIsPane ns ls (f : Int) != vIsPane ns ls (f : Int)) = false := bne_self_eq_false _
        have q2 : (((vPaneNodes ns ls (f : Int)).length : Int) != (((vFaces ns ls).getD f []).length : Int)) = false := by rw [HL.out, bne_self_eq_false]
        go_upto_region 12 with fail
        go_cut [50] (fun s wx => s = .bool false ∧ Ext w8 wx)
        case first =>
          go_wp2_with fail
          refine (has_c _ _ (vPanesOf ns ls) (f : Int) _ (by omega) (hinL.ext hxr)).mono ?_
          rw [HH.out]
          rintro e wb ⟨rfl, rfl⟩
          go_wp2_with fail
          refine (FacesOf_s _ _ _ _ ns ls _ (HWN.out.ext hxr)).mono ?_
          rintro e w9 ⟨vF, rfl, hF, hb⟩
          obtain ⟨g, c0, A', c', e, e1, e2⟩ := hF.at_ (j := f) (by rw [HN.out]; exact hlt)
          subst e
          clear hF e2 HL
          rw [HN.out]
          generalize (vFaces ns ls).getD f [] = row at *
          go_wp2
          go_meet
          exact ⟨rfl, hb⟩
        case rest =>
          obtain ⟨rfl, hb⟩ := hcut
          obtain ⟨w9, rfl⟩ : ∃ x : World, x = wc := ⟨_, rfl⟩
          replace hxr := hxr.trans hb
          replace j0 := hb.lit j0
          replace j1 := hb.lit j1
          replace hinP := hinP.ext hb
          clear hb q1 q2
          go_wp2_with fail
          refine (PaneBox_i _ _ _ _ ns ls (f : Int) _ (HWN.out.ext hxr)).mono ?_
          rintro e wa ⟨he, hb⟩
          obtain rfl : e = .returned (.tuple #[.agg #[.int .i64 (vPaneBox ns ls (f : Int)).1.1, .int .i64 (vPaneBox ns ls (f : Int)).1.2], .agg #[.int .i64 (vPaneBox ns ls (f : Int)).2.1, .int .i64 (vPaneBox ns ls (f : Int)).2.2]]) := he
          replace hxr := hxr.trans hb
          replace j0 := hb.lit j0
          replace j1 := hb.lit j1
          replace hinP := hinP.ext hb
          clear hb
          generalize vPaneBox ns ls (f : Int) = BX at *
          have a0 : ((wa.alloc (.cells #[.int .i64 0, .int .i64 0] 52)).alloc (.cells #[.int .i64 0, .int .i64 0] 52)).cell? ⟨wa.heap.size, 0, none⟩ = some (.int .i64 0) := by go_simp
          have a1 : ((wa.alloc (.cells #[.int .i64 0, .int .i64 0] 52)).alloc (.cells #[.int .i64 0, .int .i64 0] 52)).cell? ⟨wa.heap.size, 1, none⟩ = some (.int .i64 0) := by go_simp
          have a2 : ((wa.alloc (.cells #[.int .i64 0, .int .i64 0] 52)).alloc (.cells #[.int .i64 0, .int .i64 0] 52)).frozen? ⟨wa.heap.size, 0, none⟩ = false := by go_simp
          have a3 : ((wa.alloc (.cells #[.int .i64 0, .int .i64 0] 52)).alloc (.cells #[.int .i64 0, .int .i64 0] 52)).frozen? ⟨wa.heap.size, 1, none⟩ = false := by go_simp
          go_upto_region 15 with fail
          clear a0 a1 a2 a3
          have hb2 := ((Ext.refl wa).alloc (.cells #[.int .i64 BX.1.1, .int .i64 BX.1.2] 52)).alloc (.cells #[.int .i64 BX.2.1, .int .i64 BX.2.2] 52)
          have hBA : Bk (wa.alloc (.cells #[.int .i64 BX.1.1, .int .i64 BX.1.2] 52)) wa.heap.size 52 [.int .i64 BX.1.1, .int .i64 BX.1.2] := Bk.new _ _ rfl
          replace hBA := hBA.ext ((Ext.refl _).alloc (.cells #[.int .i64 BX.2.1, .int .i64 BX.2.2] 52))
          have hBB : Bk ((wa.alloc (.cells #[.int .i64 BX.1.1, .int .i64 BX.1.2] 52)).alloc (.cells #[.int .i64 BX.2.1, .int .i64 BX.2.2] 52)) (wa.heap.size + 1) 52 [.int .i64 BX.2.1, .int .i64 BX.2.2] := Bk.new _ _ (by simp)
          replace hxr := hxr.trans hb2
          replace j0 := hb2.lit j0
          replace j1 := hb2.lit j1
          replace hinP := hinP.ext hb2
          generalize (wa.alloc (.cells #[.int .i64 BX.1.1, .int .i64 BX.1.2] 52)).alloc (.cells #[.int .i64 BX.2.1, .int .i64 BX.2.2] 52) = wb at *
          generalize wa.heap.size + 1 = g11 at *
          generalize wa.heap.size = g10 at *
          have m0 := hBA.cell 0
          have m1 := hBA.cell 1
          have m2 := hBB.cell 0
          have m3 := hBB.cell 1
          simp only [List.getElem?_cons_zero, List.getElem?_cons_succ] at m0 m1 m2 m3
          clear hb2 hBA hBB
          have HBX4 := Lib.hid b4
          clear b4
          obtain ⟨⟨lx, ly⟩, ⟨hx, hy⟩⟩ := BX
          simp only at b1 b2 b3 m0 m1 m2 m3
          have hq0 := Int.mul_nonneg (show 0 ≤ hx - lx by omega) (show 0 ≤ hy - ly by omega)
          have hq1 := mul_bd (x := hx - lx) (y := hy - ly) (by omega) (by omega) (by omega) (by omega)
          have hq2 : 2 * (hx - lx) * (hy - ly) = 2 * ((hx - lx) * (hy - ly)) := Int.mul_assoc _ _ _
          have har := ar_bd (ns := ns) (ls := ls) (f : Int)
          have q3 : decide (vAreaOf ns ls (f : Int) > 2 * (hx - lx) * (hy - ly)) = false := decide_eq_false (by omega)
          have hq3 : -800 ≤ 2 * (hx - lx) * (hy - ly) := by omega
          have hq4 : 2 * (hx - lx) * (hy - ly) ≤ 800 := by omega
          clear hq0 hq1 hq2
          go_cut [72] (fun s wx => s = .bool false ∧ Ext wb wx)
          case first =>
            have d0 := cell_regrown j0
            have d1 := cell_regrown j1
            have d2 := cell_regrown m0
            have d3 := cell_regrown m1
            have d4 := cell_regrown m2
            have d5 := cell_regrown m3
            refine rx_open [(true, 0, some 57, 8), (true, 0, some 58, 128), (false, 3, some 59, 432345564227567616), (true, 0, some 60, 2048), (true, 8, some 61, 1152921504606846976), (true, 0, some 62, 1024), (true, 32, some 63, 4611686018427387904), (true, 80, some 64, 11529215046068469760), (true, 128, some 65, 18446744073709551616), (true, 0, some 66, 2048), (true, 512, some 67, 73786976294838206464), (true, 0, some 68, 1024), (true, 2048, some 69, 295147905179352825856), (true, 5120, some 70, 737869762948382064640), (true, 8448, some 71, 1217485108864830406656), (true, 16388, some 72, 2361759702187126030336)] 0 16 mixd rfl (by kernel_rfl) (by kernel_rfl) (by kernel_rfl) ?_
            refine rx_run (run := [0, 1, 3, 4, 5, 6, 7, 8, 9, 10, 11, 12, 13, 14]) (k := 2) (m' := 32763) rfl (by kernel_rfl) (by kernel_rfl) (by kernel_rfl) (fm_cons rfl <| fm_cons rfl <| fm_cons rfl <| fm_cons rfl <| fm_cons rfl <| fm_cons rfl <| fm_cons rfl <| fm_cons rfl <| fm_cons rfl <| fm_cons rfl <| fm_cons rfl <| fm_cons rfl <| fm_cons rfl <| fm_cons rfl <| List.filterMap_nil) (by repeat first | exact Ext.refl _ | assumption | refine Ext.drew ?_ | refine Ext.alloc ?_ _ | refine Ext.setCell ?_ (by simp) | refine Ext.setCell ?_ (by simp; omega) | refine Ext.trans ?_ (by assumption)) ?_
            repeat (go_big_quiet_step ((fail)))
            refine wpQuiet_nil ?_
            refine rx_op 2 (k := 1) (m' := 32767) rfl rfl (by kernel_rfl) (by kernel_rfl) ?_
            go_wp2_with ((go_at_call 44; refine (AreaOf_s _ _ _ _ ns ls (f : Int) _ (HWN.out.ext (hxr.trans (by repeat first | exact Ext.refl _ | assumption | refine Ext.drew ?_ | refine Ext.alloc ?_ _ | refine Ext.setCell ?_ (by simp) | refine Ext.setCell ?_ (by simp; omega) | refine Ext.trans ?_ (by assumption))))).mono ?_; rintro e wd ⟨rfl, hbd⟩))
            refine rx_on (by repeat first | exact Ext.refl _ | assumption | refine Ext.drew ?_ | refine Ext.alloc ?_ _ | refine Ext.setCell ?_ (by simp) | refine Ext.setCell ?_ (by simp; omega) | refine Ext.trans ?_ (by assumption)) ?_
            refine rx_run (run := [15]) (k := 0) (m' := 65535) rfl (by kernel_rfl) (by kernel_rfl) (by kernel_rfl) (fm_cons rfl <| List.filterMap_nil) (by repeat first | exact Ext.refl _ | assumption | refine Ext.drew ?_ | refine Ext.alloc ?_ _ | refine Ext.setCell ?_ (by simp) | refine Ext.setCell ?_ (by simp; omega) | refine Ext.trans ?_ (by assumption)) ?_
            repeat (go_big_quiet_step ((fail)))
            refine wpQuiet_nil ?_
            refine rx_end (by kernel_rfl) ?_
            trace_state
            go_wp2
            go_meet
            exact ⟨rfl, (by repeat first | exact Ext.refl _ | assumption | refine Ext.drew ?_ | refine Ext.alloc ?_ _ | refine Ext.setCell ?_ (by simp) | refine Ext.setCell ?_ (by simp; omega) | refine Ext.trans ?_ (by assumption))⟩
          case rest =>
            obtain ⟨rfl, hb⟩ := hcut
            obtain ⟨wd, rfl⟩ : ∃ x : World, x = wc := ⟨_, rfl⟩
            replace hxr := hxr.trans hb
            replace j0 := hb.lit j0
            replace j1 := hb.lit j1
            replace m0 := hb.lit m0
            replace m1 := hb.lit m1
            replace m2 := hb.lit m2
            replace m3 := hb.lit m3
            replace hinP := hinP.ext hb
            clear hb q3 hq3 hq4 har b1 b2 b3
            have HWH2 := HWH
            go_wp2_with fail
            go_loopw [12] (fun i wr => ∃ k : Nat, k ≤ (vPaneNodes ns ls (f : Int)).length ∧ i = .int .i64 k ∧ Ext wd wr) (fun i _ => (vPaneNodes ns ls (f : Int)).length - (intOf i).toNat)
            case atStart => exact ⟨0, by omega, rfl, Ext.refl _⟩
            case round =>
              obtain ⟨k, hk, rfl, hxs⟩ := hrel
              obtain ⟨we, rfl⟩ : ∃ x : World, x = wr := ⟨_, rfl⟩
              by_cases hlk2 : k < (vPaneNodes ns ls (f : Int)).length
              · obtain ⟨a, ea, ha⟩ := HPN.out k hlk2
                obtain ⟨p1, p2⟩ := HBX4.out k hlk2
                obtain ⟨bb, off, hAP, hbb, x1⟩ := (hinP.ext hxs).gi_ hlk2
                rw [ea] at x1 p1 p2
                obtain ⟨bn, on, hA1, hbn, n1, n2⟩ := (HWN.out.ext (hxr.trans hxs)).h.gp_ ha
                subst hAP hA1
                generalize gp ns (a : Nat) = pt at *
                obtain ⟨px, py⟩ := pt
                simp only at p1 p2 n1 n2
                have hki : (k : Int) < (vPaneNodes ns ls (f : Int)).length := by omega
                have hai : (a : Int) < ns.length := by omega
                have r1 : decide ((a : Int) < 0) = false := decide_eq_false (by omega)
                have r2 : decide (ns.length ≤ a) = false := decide_eq_false (by omega)
                have r3 : decide (px < lx) = false := decide_eq_false (by omega)
                have r4 : decide (py > hy) = false := decide_eq_false (by omega)
                go_upto_region 20 with fail
                go_cut [121] (fun s wx => s = .bool false ∧ Ext we wx)
                case first =>
                  have d0 := cell_regrown (hxs.lit j0)
                  have d2 := cell_regrown (hxs.lit m0)
                  have d3 := cell_regrown (hxs.lit m1)
                  have d4 := cell_regrown (hxs.lit m2)
                  have d5 := cell_regrown (hxs.lit m3)
                  have d6 := cell_regrown x1
                  have d7 := cell_regrown n1
                  have d8 := cell_regrown n2
                  refine rx_open [(true, 0, some 79, 256), (true, 0, some 80, 4096), (true, 3, some 81, 1813388729421943762059264), (true, 4, some 82, 2417851639229258349412352), (true, 8, some 83, 4835703278458516698824704), (true, 16, some 84, 9671406556917033397649408), (true, 32, some 85, 19342813113834066795299072), (true, 32, some 86, 19342813113834066795302912), (true, 224, some 87, 135399691796838467567091712), (true, 288, some 88, 174085318024506601157689344), (true, 32, some 89, 19342813113834066795298824), (true, 1056, some 90, 638312832756524204244860928), (true, 2080, some 91, 1257282852399214341694423040), (true, 4640, some 92, 2804707901505939685318328320), (true, 8224, some 93, 4971102970255355166391795712), (true, 16416, some 94, 9903520314283042199192993792), (true, 32768, some 95, 19807040628566084398385987592), (true, 98304, some 96, 59421121885698253195157962752), (true, 32768, some 97, 19807040628566084398385987840), (true, 32768, some 98, 19807040628566084398385991680), (true, 819200, some 99, 495176015714152109959649689600), (true, 1081344, some 100, 653632340742680785146737590272), (true, 2260992, some 101, 1366685803371059823488633143296), (true, 4227072, some 102, 2555108241085024887391792398336), (true, 8421376, some 103, 5090409441541483690385198809088), (true, 32768, some 104, 19807040628566084398385988608), (true, 33587200, some 105, 20302216644280236508345637273600), (true, 83918848, some 106, 50725831049757742144266514202624), (true, 134250496, some 107, 81149445455235247780187391131648), (true, 268468224, some 108, 162259276829213363391578010288128), (true, 536870912, some 109, 324518553658426726783156020576264), (true, 1610612736, some 110, 973555660975280180349468061728768), (true, 536870912, some 111, 324518553658426726783156020576512), (true, 536870912, some 112, 324518553658426726783156020580352), (true, 13421772800, some 113, 8112963841460668169578900514406400), (true, 17716740096, some 114, 10709112270728081983844148679016448), (true, 37044092928, some 115, 22391780202431444148037765419761664), (true, 69256347648, some 116, 41862893421937047755027126654337024), (true, 137975824384, some 117, 83401268290215668783271097288097792), (true, 536870912, some 118, 324518553658426726783156020578304), (true, 550292684800, some 119, 332631517499887394952734921090662400), (true, 1374926405632, some 120, 831092015919230847291662568695791616), (true, 2199560126464, some 121, 1329552514338574299630590216300920832)] 0 43 mixd rfl (by kernel_rfl) (by kernel_rfl) (by kernel_rfl) ?_
                  refine rx_run (run := [0, 1, 2, 3, 4, 5, 6, 7, 8, 9, 10, 11, 12, 13, 14, 15, 16, 17, 18, 19, 20, 21, 22, 23, 24, 25, 26, 27, 28, 29, 30, 31, 32, 33, 34, 35, 36, 37, 38, 39, 40, 41, 42]) (k := 0) (m' := 8796093022207) rfl (by kernel_rfl) (by kernel_rfl) (by kernel_rfl) (fm_cons rfl <| fm_cons rfl <| fm_cons rfl <| fm_cons rfl <| fm_cons rfl <| fm_cons rfl <| fm_cons rfl <| fm_cons rfl <| fm_cons rfl <| fm_cons rfl <| fm_cons rfl <| fm_cons rfl <| fm_cons rfl <| fm_cons rfl <| fm_cons rfl <| fm_cons rfl <| fm_cons rfl <| fm_cons rfl <| fm_cons rfl <| fm_cons rfl <| fm_cons rfl <| fm_cons rfl <| fm_cons rfl <| fm_cons rfl <| fm_cons rfl <| fm_cons rfl <| fm_cons rfl <| fm_cons rfl <| fm_cons rfl <| fm_cons rfl <| fm_cons rfl <| fm_cons rfl <| fm_cons rfl <| fm_cons rfl <| fm_cons rfl <| fm_cons rfl <| fm_cons rfl <| fm_cons rfl <| fm_cons rfl <| fm_cons rfl <| fm_cons rfl <| fm_cons rfl <| fm_cons rfl <| List.filterMap_nil) (by repeat first | exact Ext.refl _ | assumption | refine Ext.drew ?_ | refine Ext.alloc ?_ _ | refine Ext.setCell ?_ (by simp) | refine Ext.setCell ?_ (by simp; omega) | refine Ext.trans ?_ (by assumption)) ?_
                  repeat (go_big_quiet_step ((fail)))
                  refine wpQuiet_nil ?_
                  refine rx_end (by kernel_rfl) ?_
                  go_wp2
                  go_meet
                  exact ⟨rfl, (by repeat first | exact Ext.refl _ | assumption | refine Ext.drew ?_ | refine Ext.alloc ?_ _ | refine Ext.setCell ?_ (by simp) | refine Ext.setCell ?_ (by simp; omega) | refine Ext.trans ?_ (by assumption))⟩
                case rest =>
                  obtain ⟨rfl, hb⟩ := hcut
                  replace hxs := hxs.trans hb
                  clear hb
                  go_wp2
                  go_roundw
                  case rel => exact ⟨k + 1, by omega, by go_num, hxs⟩
                  case measure => first | (simp [intOf]; done) | (simp [intOf]; omega)
              · obtain rfl : k = (vPaneNodes ns ls (f : Int)).length := by omega
                clear hk hlk2 hinP HPN HBX4
                replace hxr := hxr.trans hxs
                replace j0 := hxs.lit j0
                replace j1 := hxs.lit j1
                clear hxs m0 m1 m2 m3
                generalize hip : vIsPane ns ls (f : Int) = ip at *
                have HIP := Lib.hid hip
                clear hip
                cases ip with
                | false =>
                  have HCV := Lib.hid (HCX.out rfl)
                  clear HCX HPC HPO HBE1
                  go_upto_region 22 with fail
                  go_cut [155] (fun s wx => s = .bool false ∧ Ext we wx)
                  case first =>
                    have d0 := cell_regrown j0
                    have d1 := cell_regrown j1
                    refine rx_open [(true, 0, some 122, 512), (true, 1, some 123, 5316911983139663491615228241121378304), (true, 2, some 124, 10633823966279326983230456482242756736), (true, 2, some 125, 10633823966279326983230456482242756616), (false, 10, some 126, 53169119831396634916152282411213783040), (true, 22, some 127, 116972063629072596815535021304670322688), (true, 50, some 128, 180775007426748558714917760198126862336), (true, 64, some 129, 340282366920938463463374607431768211464), (true, 64, some 130, 340282366920938463463374607431768211584), (false, 448, some 131, 2381976568446569244243622252022377480192), (true, 576, some 132, 3062541302288446171170371466885913903104), (true, 1090, some 133, 5795434061622233205860598782822302351360), (true, 2562, some 134, 10899669565436310157811217894298825523200), (true, 4096, some 135, 21778071482940061661655974875633165533192), (true, 4096, some 136, 21778071482940061661655974875633165533312), (false, 28672, some 137, 152446500380580431631591824129432158732288), (true, 4096, some 138, 21778071482940061661655974875633165533440), (true, 69632, some 139, 370227215209981048248151572885763814064128), (true, 167936, some 140, 892900930800542528127894969900959786860544), (true, 266242, some 141, 1415585280215070287334621597372638002413568), (true, 557058, some 142, 2787603783640294172018948014537527431004160), (true, 1048576, some 143, 5575186299632655785383929568162090376495168), (true, 3145728, some 144, 16725558898897967356151788704486271129485312), (true, 5242882, some 145, 27875942131987245206246631071266934125232128), (true, 9437186, some 146, 44601501030885212562398419775753205254717440), (true, 16777216, some 147, 89202980794122492566142873090593446023921672), (true, 16777216, some 148, 89202980794122492566142873090593446023921728), (false, 117440512, some 149, 624420865558857447963000111634154122167451648), (true, 16777216, some 150, 89202980794122492566142873090593446023921672), (true, 16777216, some 151, 89202980794122492566142873090593446023921792), (false, 956301312, some 152, 4370946058912002135741000781439078855172161536), (true, 1224736768, some 153, 6511817597970941957328429735613321559746281472), (true, 2164260866, some 154, 11507184533075625507311757611917011019328651264), (true, 4294967298, some 155, 22835963093929182063211902494422378664366702592)] 0 34 mixd rfl (by kernel_rfl) (by kernel_rfl) (by kernel_rfl) ?_
                    refine rx_run (run := [0, 1, 2, 3]) (k := 30) (m' := 15) rfl (by kernel_rfl) (by kernel_rfl) (by kernel_rfl) (fm_cons rfl <| fm_cons rfl <| fm_cons rfl <| fm_cons rfl <| List.filterMap_nil) (by repeat first | exact Ext.refl _ | assumption | refine Ext.drew ?_ | refine Ext.alloc ?_ _ | refine Ext.setCell ?_ (by simp) | refine Ext.setCell ?_ (by simp; omega) | refine Ext.trans ?_ (by assumption)) ?_
                    repeat (go_big_quiet_step ((fail)))
                    refine wpQuiet_nil ?_
                    refine rx_op 4 (k := 29) (m' := 31) rfl rfl (by kernel_rfl) (by kernel_rfl) ?_
                    go_wp2_with ((go_at_call 45; refine (OuterFace_s _ _ _ _ ns ls _ (HWN.out.ext (hxr.trans (by repeat first | exact Ext.refl _ | assumption | refine Ext.drew ?_ | refine Ext.alloc ?_ _ | refine Ext.setCell ?_ (by simp) | refine Ext.setCell ?_ (by simp; omega) | refine Ext.trans ?_ (by assumption))))).mono ?_; rintro e wf ⟨rfl, hbf⟩))
                    refine rx_on (by repeat first | exact Ext.refl _ | assumption | refine Ext.drew ?_ | refine Ext.alloc ?_ _ | refine Ext.setCell ?_ (by simp) | refine Ext.setCell ?_ (by simp; omega) | refine Ext.trans ?_ (by assumption)) ?_
                    refine rx_run (run := [5, 6, 7, 8]) (k := 25) (m' := 511) rfl (by kernel_rfl) (by kernel_rfl) (by kernel_rfl) (fm_cons rfl <| fm_cons rfl <| fm_cons rfl <| fm_cons rfl <| List.filterMap_nil) (by repeat first | exact Ext.refl _ | assumption | refine Ext.drew ?_ | refine Ext.alloc ?_ _ | refine Ext.setCell ?_ (by simp) | refine Ext.setCell ?_ (by simp; omega) | refine Ext.trans ?_ (by assumption)) ?_
                    repeat (go_big_quiet_step ((fail)))
                    refine wpQuiet_nil ?_
                    refine rx_op 9 (k := 24) (m' := 1023) rfl rfl (by kernel_rfl) (by kernel_rfl) ?_
                    go_wp2_with ((go_at_call 46; refine (CornersOf_i _ _ _ _ ns ls (f : Int) _ (HWN.out.ext (hxr.trans (by repeat first | exact Ext.refl _ | assumption | refine Ext.drew ?_ | refine Ext.alloc ?_ _ | refine Ext.setCell ?_ (by simp) | refine Ext.setCell ?_ (by simp; omega) | refine Ext.trans ?_ (by assumption))))).mono ?_; rintro e wg ⟨rfl, hbg⟩))
                    refine rx_on (by repeat first | exact Ext.refl _ | assumption | refine Ext.drew ?_ | refine Ext.alloc ?_ _ | refine Ext.setCell ?_ (by simp) | refine Ext.setCell ?_ (by simp; omega) | refine Ext.trans ?_ (by assumption)) ?_
                    refine rx_run (run := [10, 11, 12, 13, 14, 16, 17]) (k := 17) (m' := 229375) rfl (by kernel_rfl) (by kernel_rfl) (by kernel_rfl) (fm_cons rfl <| fm_cons rfl <| fm_cons rfl <| fm_cons rfl <| fm_cons rfl <| fm_cons rfl <| fm_cons rfl <| List.filterMap_nil) (by repeat first | exact Ext.refl _ | assumption | refine Ext.drew ?_ | refine Ext.alloc ?_ _ | refine Ext.setCell ?_ (by simp) | refine Ext.setCell ?_ (by simp; omega) | refine Ext.trans ?_ (by assumption)) ?_
                    repeat (go_big_quiet_step ((fail)))
                    refine wpQuiet_nil ?_
                    refine rx_op 15 (k := 16) (m' := 262143) rfl rfl (by kernel_rfl) (by kernel_rfl) ?_
                    go_wp2_with ((go_at_call 46; refine (CornersOf_i _ _ _ _ ns ls (f : Int) _ (HWN.out.ext (hxr.trans (by repeat first | exact Ext.refl _ | assumption | refine Ext.drew ?_ | refine Ext.alloc ?_ _ | refine Ext.setCell ?_ (by simp) | refine Ext.setCell ?_ (by simp; omega) | refine Ext.trans ?_ (by assumption))))).mono ?_; rintro e wh ⟨rfl, hbh⟩))
                    refine rx_on (by repeat first | exact Ext.refl _ | assumption | refine Ext.drew ?_ | refine Ext.alloc ?_ _ | refine Ext.setCell ?_ (by simp) | refine Ext.setCell ?_ (by simp; omega) | refine Ext.trans ?_ (by assumption)) ?_
                    refine rx_run (run := [18, 19, 20, 21, 22, 23, 24, 25, 26, 28, 29]) (k := 5) (m' := 939524095) rfl (by kernel_rfl) (by kernel_rfl) (by kernel_rfl) (fm_cons rfl <| fm_cons rfl <| fm_cons rfl <| fm_cons rfl <| fm_cons rfl <| fm_cons rfl <| fm_cons rfl <| fm_cons rfl <| fm_cons rfl <| fm_cons rfl <| fm_cons rfl <| List.filterMap_nil) (by repeat first | exact Ext.refl _ | assumption | refine Ext.drew ?_ | refine Ext.alloc ?_ _ | refine Ext.setCell ?_ (by simp) | refine Ext.setCell ?_ (by simp; omega) | refine Ext.trans ?_ (by assumption)) ?_
                    repeat (go_big_quiet_step ((fail)))
                    refine wpQuiet_nil ?_
                    refine rx_op 27 (k := 4) (m' := 1073741823) rfl rfl (by kernel_rfl) (by kernel_rfl) ?_
                    go_wp2_with ((go_at_call 44; refine (AreaOf_s _ _ _ _ ns ls best _ (HWN.out.ext (hxr.trans (by repeat first | exact Ext.refl _ | assumption | refine Ext.drew ?_ | refine Ext.alloc ?_ _ | refine Ext.setCell ?_ (by simp) | refine Ext.setCell ?_ (by simp; omega) | refine Ext.trans ?_ (by assumption))))).mono ?_; rintro e wi ⟨rfl, hbi⟩))
                    refine rx_on (by repeat first | exact Ext.refl _ | assumption | refine Ext.drew ?_ | refine Ext.alloc ?_ _ | refine Ext.setCell ?_ (by simp) | refine Ext.setCell ?_ (by simp; omega) | refine Ext.trans ?_ (by assumption)) ?_
                    refine rx_op 30 (k := 3) (m' := 2147483647) rfl rfl (by kernel_rfl) (by kernel_rfl) ?_
                    go_wp2_with ((go_at_call 44; refine (AreaOf_s _ _ _ _ ns ls (f : Int) _ (HWN.out.ext (hxr.trans (by repeat first | exact Ext.refl _ | assumption | refine Ext.drew ?_ | refine Ext.alloc ?_ _ | refine Ext.setCell ?_ (by simp) | refine Ext.setCell ?_ (by simp; omega) | refine Ext.trans ?_ (by assumption))))).mono ?_; rintro e wj ⟨rfl, hbj⟩))
                    refine rx_on (by repeat first | exact Ext.refl _ | assumption | refine Ext.drew ?_ | refine Ext.alloc ?_ _ | refine Ext.setCell ?_ (by simp) | refine Ext.setCell ?_ (by simp; omega) | refine Ext.trans ?_ (by assumption)) ?_
                    refine rx_run (run := [31, 32, 33]) (k := 0) (m' := 17179869183) rfl (by kernel_rfl) (by kernel_rfl) (by kernel_rfl) (fm_cons rfl <| fm_cons rfl <| fm_cons rfl <| List.filterMap_nil) (by repeat first | exact Ext.refl _ | assumption | refine Ext.drew ?_ | refine Ext.alloc ?_ _ | refine Ext.setCell ?_ (by simp) | refine Ext.setCell ?_ (by simp; omega) | refine Ext.trans ?_ (by assumption)) ?_
                    repeat (go_big_quiet_step ((fail)))
                    refine wpQuiet_nil ?_
                    refine rx_end (by kernel_rfl) ?_
                    go_wp2
                    go_meet
                    exact ⟨rfl, (by repeat first | exact Ext.refl _ | assumption | refine Ext.drew ?_ | refine Ext.alloc ?_ _ | refine Ext.setCell ?_ (by simp) | refine Ext.setCell ?_ (by simp; omega) | refine Ext.trans ?_ (by assumption))⟩
                  case rest =>
                    obtain ⟨rfl, hb⟩ := hcut
                    obtain ⟨wf, rfl⟩ : ∃ x : World, x = wc := ⟨_, rfl⟩
                    replace hxr := hxr.trans hb
                    replace j0 := hb.lit j0
                    replace j1 := hb.lit j1
                    clear hb
                    go_upto_region 24 with fail
                    go_cut [162] (fun s wx => s = .bool false ∧ Ext wf wx)
                    case first =>
                      go_wp2_with fail
                      refine (IsConvexPane_i _ _ _ _ ns ls (f : Int) _ (HWN.out.ext hxr)).mono ?_
                      rw [HCV.out]
                      rintro e wg ⟨rfl, hb⟩
                      go_wp2
                      go_meet
                      exact ⟨rfl, hb⟩
                    case rest =>
                      obtain ⟨rfl, hb⟩ := hcut
                      replace hxr := hxr.trans hb
                      clear hb
                      go_wp2
                      go_roundw
                      case rel => exact ⟨f + 1, by omega, by go_num, hxr⟩
                      case measure => first | (simp [intOf]; done) | (simp [intOf]; omega)
                | true =>
                  obtain ⟨u1, u2⟩ := HPC.out rfl
                  have u3 := HPO.out rfl
                  obtain ⟨u4, u5⟩ := HBE1.out rfl
                  have s1 : ((f : Int) == vOuter ns ls) = false := by rw [beq_eq_false_iff_ne]; exact u3
                  have s2 : decide (vCornersOf ns ls (f : Int) < 3) = false := decide_eq_false (by omega)
                  have s3 : decide (vCornersOf ns ls (f : Int) > ((vPaneNodes ns ls (f : Int)).length : Int)) = false := decide_eq_false (by omega)
                  have s4 : decide (best < 0) = false := decide_eq_false (by omega)
                  have s5 : decide (vAreaOf ns ls best < vAreaOf ns ls (f : Int)) = false := decide_eq_false (by omega)
                  obtain ⟨cx, hcx⟩ : ∃ cx : Bool, vIsConvexPane ns ls (f : Int) = cx := ⟨_, rfl⟩
                  have HCV := Lib.hid hcx
                  clear HCX HPC HPO HBE1 u1 u2 u3 u4 u5 hcx
                  cases cx with
                  | false =>
                    go_upto_region 22 with fail
                    go_cut [155] (fun s wx => s = .bool false ∧ Ext we wx)
                    case first =>
                      have d0 := cell_regrown j0
                      have d1 := cell_regrown j1
                      refine rx_open [(true, 0, some 122, 512), (true, 1, some 123, 5316911983139663491615228241121378304), (true, 2, some 124, 10633823966279326983230456482242756736), (true, 2, some 125, 10633823966279326983230456482242756616), (false, 10, some 126, 53169119831396634916152282411213783040), (true, 22, some 127, 116972063629072596815535021304670322688), (true, 50, some 128, 180775007426748558714917760198126862336), (true, 64, some 129, 340282366920938463463374607431768211464), (true, 64, some 130, 340282366920938463463374607431768211584), (false, 448, some 131, 2381976568446569244243622252022377480192), (true, 576, some 132, 3062541302288446171170371466885913903104), (true, 1090, some 133, 5795434061622233205860598782822302351360), (true, 2562, some 134, 10899669565436310157811217894298825523200), (true, 4096, some 135, 21778071482940061661655974875633165533192), (true, 4096, some 136, 21778071482940061661655974875633165533312), (false, 28672, some 137, 152446500380580431631591824129432158732288), (true, 4096, some 138, 21778071482940061661655974875633165533440), (true, 69632, some 139, 370227215209981048248151572885763814064128), (true, 167936, some 140, 892900930800542528127894969900959786860544), (true, 266242, some 141, 1415585280215070287334621597372638002413568), (true, 557058, some 142, 2787603783640294172018948014537527431004160), (true, 1048576, some 143, 5575186299632655785383929568162090376495168), (true, 3145728, some 144, 16725558898897967356151788704486271129485312), (true, 5242882, some 145, 27875942131987245206246631071266934125232128), (true, 9437186, some 146, 44601501030885212562398419775753205254717440), (true, 16777216, some 147, 89202980794122492566142873090593446023921672), (true, 16777216, some 148, 89202980794122492566142873090593446023921728), (false, 117440512, some 149, 624420865558857447963000111634154122167451648), (true, 16777216, some 150, 89202980794122492566142873090593446023921672), (true, 16777216, some 151, 89202980794122492566142873090593446023921792), (false, 956301312, some 152, 4370946058912002135741000781439078855172161536), (true, 1224736768, some 153, 6511817597970941957328429735613321559746281472), (true, 2164260866, some 154, 11507184533075625507311757611917011019328651264), (true, 4294967298, some 155, 22835963093929182063211902494422378664366702592)] 0 34 mixd rfl (by kernel_rfl) (by kernel_rfl) (by kernel_rfl) ?_
                      refine rx_run (run := [0, 1, 2, 3]) (k := 30) (m' := 15) rfl (by kernel_rfl) (by kernel_rfl) (by kernel_rfl) (fm_cons rfl <| fm_cons rfl <| fm_cons rfl <| fm_cons rfl <| List.filterMap_nil) (by repeat first | exact Ext.refl _ | assumption | refine Ext.drew ?_ | refine Ext.alloc ?_ _ | refine Ext.setCell ?_ (by simp) | refine Ext.setCell ?_ (by simp; omega) | refine Ext.trans ?_ (by assumption)) ?_
                      repeat (go_big_quiet_step ((fail)))
                      refine wpQuiet_nil ?_
                      refine rx_op 4 (k := 29) (m' := 31) rfl rfl (by kernel_rfl) (by kernel_rfl) ?_
                      go_wp2_with ((go_at_call 45; refine (OuterFace_s _ _ _ _ ns ls _ (HWN.out.ext (hxr.trans (by repeat first | exact Ext.refl _ | assumption | refine Ext.drew ?_ | refine Ext.alloc ?_ _ | refine Ext.setCell ?_ (by simp) | refine Ext.setCell ?_ (by simp; omega) | refine Ext.trans ?_ (by assumption))))).mono ?_; rintro e wf ⟨rfl, hbf⟩))
                      refine rx_on (by repeat first | exact Ext.refl _ | assumption | refine Ext.drew ?_ | refine Ext.alloc ?_ _ | refine Ext.setCell ?_ (by simp) | refine Ext.setCell ?_ (by simp; omega) | refine Ext.trans ?_ (by assumption)) ?_
                      refine rx_run (run := [5, 6, 7, 8]) (k := 25) (m' := 511) rfl (by kernel_rfl) (by kernel_rfl) (by kernel_rfl) (fm_cons rfl <| fm_cons rfl <| fm_cons rfl <| fm_cons rfl <| List.filterMap_nil) (by repeat first | exact Ext.refl _ | assumption | refine Ext.drew ?_ | refine Ext.alloc ?_ _ | refine Ext.setCell ?_ (by simp) | refine Ext.setCell ?_ (by simp; omega) | refine Ext.trans ?_ (by assumption)) ?_
                      repeat (go_big_quiet_step ((fail)))
                      refine wpQuiet_nil ?_
                      refine rx_op 9 (k := 24) (m' := 1023) rfl rfl (by kernel_rfl) (by kernel_rfl) ?_
                      go_wp2_with ((go_at_call 46; refine (CornersOf_i _ _ _ _ ns ls (f : Int) _ (HWN.out.ext (hxr.trans (by repeat first | exact Ext.refl _ | assumption | refine Ext.drew ?_ | refine Ext.alloc ?_ _ | refine Ext.setCell ?_ (by simp) | refine Ext.setCell ?_ (by simp; omega) | refine Ext.trans ?_ (by assumption))))).mono ?_; rintro e wg ⟨rfl, hbg⟩))
                      refine rx_on (by repeat first | exact Ext.refl _ | assumption | refine Ext.drew ?_ | refine Ext.alloc ?_ _ | refine Ext.setCell ?_ (by simp) | refine Ext.setCell ?_ (by simp; omega) | refine Ext.trans ?_ (by assumption)) ?_
                      refine rx_run (run := [10, 11, 12, 13, 14, 16, 17]) (k := 17) (m' := 229375) rfl (by kernel_rfl) (by kernel_rfl) (by kernel_rfl) (fm_cons rfl <| fm_cons rfl <| fm_cons rfl <| fm_cons rfl <| fm_cons rfl <| fm_cons rfl <| fm_cons rfl <| List.filterMap_nil) (by repeat first | exact Ext.refl _ | assumption | refine Ext.drew ?_ | refine Ext.alloc ?_ _ | refine Ext.setCell ?_ (by simp) | refine Ext.setCell ?_ (by simp; omega) | refine Ext.trans ?_ (by assumption)) ?_
                      repeat (go_big_quiet_step ((fail)))
                      refine wpQuiet_nil ?_
                      refine rx_op 15 (k := 16) (m' := 262143) rfl rfl (by kernel_rfl) (by kernel_rfl) ?_
                      go_wp2_with ((go_at_call 46; refine (CornersOf_i _ _ _ _ ns ls (f : Int) _ (HWN.out.ext (hxr.trans (by repeat first | exact Ext.refl _ | assumption | refine Ext.drew ?_ | refine Ext.alloc ?_ _ | refine Ext.setCell ?_ (by simp) | refine Ext.setCell ?_ (by simp; omega) | refine Ext.trans ?_ (by assumption))))).mono ?_; rintro e wh ⟨rfl, hbh⟩))
                      refine rx_on (by repeat first | exact Ext.refl _ | assumption | refine Ext.drew ?_ | refine Ext.alloc ?_ _ | refine Ext.setCell ?_ (by simp) | refine Ext.setCell ?_ (by simp; omega) | refine Ext.trans ?_ (by assumption)) ?_
                      refine rx_run (run := [18, 19, 20, 21, 22, 23, 24, 25, 26, 28, 29]) (k := 5) (m' := 939524095) rfl (by kernel_rfl) (by kernel_rfl) (by kernel_rfl) (fm_cons rfl <| fm_cons rfl <| fm_cons rfl <| fm_cons rfl <| fm_cons rfl <| fm_cons rfl <| fm_cons rfl <| fm_cons rfl <| fm_cons rfl <| fm_cons rfl <| fm_cons rfl <| List.filterMap_nil) (by repeat first | exact Ext.refl _ | assumption | refine Ext.drew ?_ | refine Ext.alloc ?_ _ | refine Ext.setCell ?_ (by simp) | refine Ext.setCell ?_ (by simp; omega) | refine Ext.trans ?_ (by assumption)) ?_
                      repeat (go_big_quiet_step ((fail)))
                      refine wpQuiet_nil ?_
                      refine rx_op 27 (k := 4) (m' := 1073741823) rfl rfl (by kernel_rfl) (by kernel_rfl) ?_
                      go_wp2_with ((go_at_call 44; refine (AreaOf_s _ _ _ _ ns ls best _ (HWN.out.ext (hxr.trans (by repeat first | exact Ext.refl _ | assumption | refine Ext.drew ?_ | refine Ext.alloc ?_ _ | refine Ext.setCell ?_ (by simp) | refine Ext.setCell ?_ (by simp; omega) | refine Ext.trans ?_ (by assumption))))).mono ?_; rintro e wi ⟨rfl, hbi⟩))
                      refine rx_on (by repeat first | exact Ext.refl _ | assumption | refine Ext.drew ?_ | refine Ext.alloc ?_ _ | refine Ext.setCell ?_ (by simp) | refine Ext.setCell ?_ (by simp; omega) | refine Ext.trans ?_ (by assumption)) ?_
                      refine rx_op 30 (k := 3) (m' := 2147483647) rfl rfl (by kernel_rfl) (by kernel_rfl) ?_
                      go_wp2_with ((go_at_call 44; refine (AreaOf_s _ _ _ _ ns ls (f : Int) _ (HWN.out.ext (hxr.trans (by repeat first | exact Ext.refl _ | assumption | refine Ext.drew ?_ | refine Ext.alloc ?_ _ | refine Ext.setCell ?_ (by simp) | refine Ext.setCell ?_ (by simp; omega) | refine Ext.trans ?_ (by assumption))))).mono ?_; rintro e wj ⟨rfl, hbj⟩))
                      refine rx_on (by repeat first | exact Ext.refl _ | assumption | refine Ext.drew ?_ | refine Ext.alloc ?_ _ | refine Ext.setCell ?_ (by simp) | refine Ext.setCell ?_ (by simp; omega) | refine Ext.trans ?_ (by assumption)) ?_
                      refine rx_run (run := [31, 32, 33]) (k := 0) (m' := 17179869183) rfl (by kernel_rfl) (by kernel_rfl) (by kernel_rfl) (fm_cons rfl <| fm_cons rfl <| fm_cons rfl <| List.filterMap_nil) (by repeat first | exact Ext.refl _ | assumption | refine Ext.drew ?_ | refine Ext.alloc ?_ _ | refine Ext.setCell ?_ (by simp) | refine Ext.setCell ?_ (by simp; omega) | refine Ext.trans ?_ (by assumption)) ?_
                      repeat (go_big_quiet_step ((fail)))
                      refine wpQuiet_nil ?_
                      refine rx_end (by kernel_rfl) ?_
                      go_wp2
                      go_meet
                      exact ⟨rfl, (by repeat first | exact Ext.refl _ | assumption | refine Ext.drew ?_ | refine Ext.alloc ?_ _ | refine Ext.setCell ?_ (by simp) | refine Ext.setCell ?_ (by simp; omega) | refine Ext.trans ?_ (by assumption))⟩
                    case rest =>
                      obtain ⟨rfl, hb⟩ := hcut
                      obtain ⟨wf, rfl⟩ : ∃ x : World, x = wc := ⟨_, rfl⟩
                      replace hxr := hxr.trans hb
                      replace j0 := hb.lit j0
                      replace j1 := hb.lit j1
                      clear hb
                      go_upto_region 24 with fail
                      go_cut [162] (fun s wx => s = .bool false ∧ Ext wf wx)
                      case first =>
                        go_wp2_with fail
                        refine (IsConvexPane_i _ _ _ _ ns ls (f : Int) _ (HWN.out.ext hxr)).mono ?_
                        rw [HCV.out]
                        rintro e wg ⟨rfl, hb⟩
                        go_wp2
                        go_meet
                        exact ⟨rfl, hb⟩
                      case rest =>
                        obtain ⟨rfl, hb⟩ := hcut
                        replace hxr := hxr.trans hb
                        clear hb
                        go_wp2
                        go_roundw
                        case rel => exact ⟨f + 1, by omega, by go_num, hxr⟩
                        case measure => first | (simp [intOf]; done) | (simp [intOf]; omega)
                  | true =>
                    go_upto_region 22 with fail
                    go_cut [155] (fun s wx => s = .bool false ∧ Ext we wx)
                    case first =>
                      have d0 := cell_regrown j0
                      have d1 := cell_regrown j1
                      refine rx_open [(true, 0, some 122, 512), (true, 1, some 123, 5316911983139663491615228241121378304), (true, 2, some 124, 10633823966279326983230456482242756736), (true, 2, some 125, 10633823966279326983230456482242756616), (false, 10, some 126, 53169119831396634916152282411213783040), (true, 22, some 127, 116972063629072596815535021304670322688), (true, 50, some 128, 180775007426748558714917760198126862336), (true, 64, some 129, 340282366920938463463374607431768211464), (true, 64, some 130, 340282366920938463463374607431768211584), (false, 448, some 131, 2381976568446569244243622252022377480192), (true, 576, some 132, 3062541302288446171170371466885913903104), (true, 1090, some 133, 5795434061622233205860598782822302351360), (true, 2562, some 134, 10899669565436310157811217894298825523200), (true, 4096, some 135, 21778071482940061661655974875633165533192), (true, 4096, some 136, 21778071482940061661655974875633165533312), (false, 28672, some 137, 152446500380580431631591824129432158732288), (true, 4096, some 138, 21778071482940061661655974875633165533440), (true, 69632, some 139, 370227215209981048248151572885763814064128), (true, 167936, some 140, 892900930800542528127894969900959786860544), (true, 266242, some 141, 1415585280215070287334621597372638002413568), (true, 557058, some 142, 2787603783640294172018948014537527431004160), (true, 1048576, some 143, 5575186299632655785383929568162090376495168), (true, 3145728, some 144, 16725558898897967356151788704486271129485312), (true, 5242882, some 145, 27875942131987245206246631071266934125232128), (true, 9437186, some 146, 44601501030885212562398419775753205254717440), (true, 16777216, some 147, 89202980794122492566142873090593446023921672), (true, 16777216, some 148, 89202980794122492566142873090593446023921728), (false, 117440512, some 149, 624420865558857447963000111634154122167451648), (true, 16777216, some 150, 89202980794122492566142873090593446023921672), (true, 16777216, some 151, 89202980794122492566142873090593446023921792), (false, 956301312, some 152, 4370946058912002135741000781439078855172161536), (true, 1224736768, some 153, 6511817597970941957328429735613321559746281472), (true, 2164260866, some 154, 11507184533075625507311757611917011019328651264), (true, 4294967298, some 155, 22835963093929182063211902494422378664366702592)] 0 34 mixd rfl (by kernel_rfl) (by kernel_rfl) (by kernel_rfl) ?_
                      refine rx_run (run := [0, 1, 2, 3]) (k := 30) (m' := 15) rfl (by kernel_rfl) (by kernel_rfl) (by kernel_rfl) (fm_cons rfl <| fm_cons rfl <| fm_cons rfl <| fm_cons rfl <| List.filterMap_nil) (by repeat first | exact Ext.refl _ | assumption | refine Ext.drew ?_ | refine Ext.alloc ?_ _ | refine Ext.setCell ?_ (by simp) | refine Ext.setCell ?_ (by simp; omega) | refine Ext.trans ?_ (by assumption)) ?_
                      repeat (go_big_quiet_step ((fail)))
                      refine wpQuiet_nil ?_
                      refine rx_op 4 (k := 29) (m' := 31) rfl rfl (by kernel_rfl) (by kernel_rfl) ?_
                      go_wp2_with ((go_at_call 45; refine (OuterFace_s _ _ _ _ ns ls _ (HWN.out.ext (hxr.trans (by repeat first | exact Ext.refl _ | assumption | refine Ext.drew ?_ | refine Ext.alloc ?_ _ | refine Ext.setCell ?_ (by simp) | refine Ext.setCell ?_ (by simp; omega) | refine Ext.trans ?_ (by assumption))))).mono ?_; rintro e wf ⟨rfl, hbf⟩))
                      refine rx_on (by repeat first | exact Ext.refl _ | assumption | refine Ext.drew ?_ | refine Ext.alloc ?_ _ | refine Ext.setCell ?_ (by simp) | refine Ext.setCell ?_ (by simp; omega) | refine Ext.trans ?_ (by assumption)) ?_
                      refine rx_run (run := [5, 6, 7, 8]) (k := 25) (m' := 511) rfl (by kernel_rfl) (by kernel_rfl) (by kernel_rfl) (fm_cons rfl <| fm_cons rfl <| fm_cons rfl <| fm_cons rfl <| List.filterMap_nil) (by repeat first | exact Ext.refl _ | assumption | refine Ext.drew ?_ | refine Ext.alloc ?_ _ | refine Ext.setCell ?_ (by simp) | refine Ext.setCell ?_ (by simp; omega) | refine Ext.trans ?_ (by assumption)) ?_
                      repeat (go_big_quiet_step ((fail)))
                      refine wpQuiet_nil ?_
                      refine rx_op 9 (k := 24) (m' := 1023) rfl rfl (by kernel_rfl) (by kernel_rfl) ?_
                      go_wp2_with ((go_at_call 46; refine (CornersOf_i _ _ _ _ ns ls (f : Int) _ (HWN.out.ext (hxr.trans (by repeat first | exact Ext.refl _ | assumption | refine Ext.drew ?_ | refine Ext.alloc ?_ _ | refine Ext.setCell ?_ (by simp) | refine Ext.setCell ?_ (by simp; omega) | refine Ext.trans ?_ (by assumption))))).mono ?_; rintro e wg ⟨rfl, hbg⟩))
                      refine rx_on (by repeat first | exact Ext.refl _ | assumption | refine Ext.drew ?_ | refine Ext.alloc ?_ _ | refine Ext.setCell ?_ (by simp) | refine Ext.setCell ?_ (by simp; omega) | refine Ext.trans ?_ (by assumption)) ?_
                      refine rx_run (run := [10, 11, 12, 13, 14, 16, 17]) (k := 17) (m' := 229375) rfl (by kernel_rfl) (by kernel_rfl) (by kernel_rfl) (fm_cons rfl <| fm_cons rfl <| fm_cons rfl <| fm_cons rfl <| fm_cons rfl <| fm_cons rfl <| fm_cons rfl <| List.filterMap_nil) (by repeat first | exact Ext.refl _ | assumption | refine Ext.drew ?_ | refine Ext.alloc ?_ _ | refine Ext.setCell ?_ (by simp) | refine Ext.setCell ?_ (by simp; omega) | refine Ext.trans ?_ (by assumption)) ?_
                      repeat (go_big_quiet_step ((fail)))
                      refine wpQuiet_nil ?_
                      refine rx_op 15 (k := 16) (m' := 262143) rfl rfl (by kernel_rfl) (by kernel_rfl) ?_
                      go_wp2_with ((go_at_call 46; refine (CornersOf_i _ _ _ _ ns ls (f : Int) _ (HWN.out.ext (hxr.trans (by repeat first | exact Ext.refl _ | assumption | refine Ext.drew ?_ | refine Ext.alloc ?_ _ | refine Ext.setCell ?_ (by simp) | refine Ext.setCell ?_ (by simp; omega) | refine Ext.trans ?_ (by assumption))))).mono ?_; rintro e wh ⟨rfl, hbh⟩))
                      refine rx_on (by repeat first | exact Ext.refl _ | assumption | refine Ext.drew ?_ | refine Ext.alloc ?_ _ | refine Ext.setCell ?_ (by simp) | refine Ext.setCell ?_ (by simp; omega) | refine Ext.trans ?_ (by assumption)) ?_
                      refine rx_run (run := [18, 19, 20, 21, 22, 23, 24, 25, 26, 28, 29]) (k := 5) (m' := 939524095) rfl (by kernel_rfl) (by kernel_rfl) (by kernel_rfl) (fm_cons rfl <| fm_cons rfl <| fm_cons rfl <| fm_cons rfl <| fm_cons rfl <| fm_cons rfl <| fm_cons rfl <| fm_cons rfl <| fm_cons rfl <| fm_cons rfl <| fm_cons rfl <| List.filterMap_nil) (by repeat first | exact Ext.refl _ | assumption | refine Ext.drew ?_ | refine Ext.alloc ?_ _ | refine Ext.setCell ?_ (by simp) | refine Ext.setCell ?_ (by simp; omega) | refine Ext.trans ?_ (by assumption)) ?_
                      repeat (go_big_quiet_step ((fail)))
                      refine wpQuiet_nil ?_
                      refine rx_op 27 (k := 4) (m' := 1073741823) rfl rfl (by kernel_rfl) (by kernel_rfl) ?_
                      go_wp2_with ((go_at_call 44; refine (AreaOf_s _ _ _ _ ns ls best _ (HWN.out.ext (hxr.trans (by repeat first | exact Ext.refl _ | assumption | refine Ext.drew ?_ | refine Ext.alloc ?_ _ | refine Ext.setCell ?_ (by simp) | refine Ext.setCell ?_ (by simp; omega) | refine Ext.trans ?_ (by assumption))))).mono ?_; rintro e wi ⟨rfl, hbi⟩))
                      refine rx_on (by repeat first | exact Ext.refl _ | assumption | refine Ext.drew ?_ | refine Ext.alloc ?_ _ | refine Ext.setCell ?_ (by simp) | refine Ext.setCell ?_ (by simp; omega) | refine Ext.trans ?_ (by assumption)) ?_
                      refine rx_op 30 (k := 3) (m' := 2147483647) rfl rfl (by kernel_rfl) (by kernel_rfl) ?_
                      go_wp2_with ((go_at_call 44; refine (AreaOf_s _ _ _ _ ns ls (f : Int) _ (HWN.out.ext (hxr.trans (by repeat first | exact Ext.refl _ | assumption | refine Ext.drew ?_ | refine Ext.alloc ?_ _ | refine Ext.setCell ?_ (by simp) | refine Ext.setCell ?_ (by simp; omega) | refine Ext.trans ?_ (by assumption))))).mono ?_; rintro e wj ⟨rfl, hbj⟩))
                      refine rx_on (by repeat first | exact Ext.refl _ | assumption | refine Ext.drew ?_ | refine Ext.alloc ?_ _ | refine Ext.setCell ?_ (by simp) | refine Ext.setCell ?_ (by simp; omega) | refine Ext.trans ?_ (by assumption)) ?_
                      refine rx_run (run := [31, 32, 33]) (k := 0) (m' := 17179869183) rfl (by kernel_rfl) (by kernel_rfl) (by kernel_rfl) (fm_cons rfl <| fm_cons rfl <| fm_cons rfl <| List.filterMap_nil) (by repeat first | exact Ext.refl _ | assumption | refine Ext.drew ?_ | refine Ext.alloc ?_ _ | refine Ext.setCell ?_ (by simp) | refine Ext.setCell ?_ (by simp; omega) | refine Ext.trans ?_ (by assumption)) ?_
                      repeat (go_big_quiet_step ((fail)))
                      refine wpQuiet_nil ?_
                      refine rx_end (by kernel_rfl) ?_
                      go_wp2
                      go_meet
                      exact ⟨rfl, (by repeat first | exact Ext.refl _ | assumption | refine Ext.drew ?_ | refine Ext.alloc ?_ _ | refine Ext.setCell ?_ (by simp) | refine Ext.setCell ?_ (by simp; omega) | refine Ext.trans ?_ (by assumption))⟩
                    case rest =>
                      obtain ⟨rfl, hb⟩ := hcut
                      obtain ⟨wf, rfl⟩ : ∃ x : World, x = wc := ⟨_, rfl⟩
                      replace hxr := hxr.trans hb
                      replace j0 := hb.lit j0
                      replace j1 := hb.lit j1
                      clear hb
                      go_upto_region 24 with fail
                      go_cut [162] (fun s wx => s = .bool false ∧ Ext wf wx)
                      case first =>
                        go_wp2_with fail
                        refine (IsConvexPane_i _ _ _ _ ns ls (f : Int) _ (HWN.out.ext hxr)).mono ?_
                        rw [HCV.out]
                        rintro e wg ⟨rfl, hb⟩
                        go_wp2
                        go_meet
                        exact ⟨rfl, hb⟩
                      case rest =>
                        obtain ⟨rfl, hb⟩ := hcut
                        replace hxr := hxr.trans hb
                        clear hb
                        go_wp2
                        go_roundw
                        case rel => exact ⟨f + 1, by omega, by go_num, hxr⟩
                        case measure => first | (simp [intOf]; done) | (simp [intOf]; omega)
      · obtain rfl : f = N := by omega
        clear hf hlt
        replace HX0 := Lib.hid (HX0.out.trans hxr)
        have t1 : ((vPanesOf ns ls).length : Int) ≤ (f : Int) - 1 := by omega
        have HBJ : (0 ≤ best ∧ 0 < (vPanesOf ns ls).length) ∨ (best < 0 ∧ (vPanesOf ns ls).length = 0) := by
          have := HBI.out
          rw [Bool.eq_iff_iff, decide_eq_true_eq, decide_eq_true_eq] at this
          omega
        clear HBI HHP HPL HBX HBE
        rcases HBJ with ⟨hj1, hj2⟩ | ⟨hj1, hj2⟩
        · skip
          go_wp2_with fail
          refine (SampleWindow_i _).mono ?_
          rintro e wf ⟨u1, u2, rfl, p1, p2, hb2⟩
          obtain ⟨Ap, cp, rfl, -, -, -⟩ := p1.shape
          obtain ⟨Aq, cq, rfl, -, -, -⟩ := p2.shape
          have hsn := wn_own p1 p2 (by decide) (by decide)
          go_wp2_with fail
          refine (IsConvexPane_i _ _ _ _ shN0 shL0 0 _ hsn).mono ?_
          rw [sh_convex]
          rintro e wg ⟨rfl, hb3⟩
          go_wp2
          go_ret
          exact ⟨rfl, HX0.out.trans (hb2.trans hb3)⟩
        · have hj3 : ¬ 0 < (vPanesOf ns ls).length := by omega
          have hj4 : ¬ 0 ≤ best := by omega
          have HJ2 := Lib.hid hj2
          clear hj2
          go_wp2_with fail
          refine (SampleWindow_i _).mono ?_
          rintro e wf ⟨u1, u2, rfl, p1, p2, hb2⟩
          obtain ⟨Ap, cp, rfl, -, -, -⟩ := p1.shape
          obtain ⟨Aq, cq, rfl, -, -, -⟩ := p2.shape
          have hsn := wn_own p1 p2 (by decide) (by decide)
          go_wp2_with fail
          refine (IsConvexPane_i _ _ _ _ shN0 shL0 0 _ hsn).mono ?_
          rw [sh_convex]
          rintro e wg ⟨rfl, hb3⟩
          go_wp2
          go_ret
          exact ⟨rfl, HX0.out.trans (hb2.trans hb3)⟩
end Go.Proofs.Ytdhmjhoaegdfjaa
