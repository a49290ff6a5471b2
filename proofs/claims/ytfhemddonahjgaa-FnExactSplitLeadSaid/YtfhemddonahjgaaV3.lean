import Derived.Test.YtfhemddonahjgaaV1
namespace Go.Proofs.Ytfhemddonahjgaa
open Go.RowKit Go.Sort Go.BigFrame

set_option maxRecDepth 100000 in
set_option maxHeartbeats 8000000 in
theorem SplitLead_s (A B : Option Addr) (c d : Nat) (ns ls : List P2) (k px py : Int) (w : World) (h : Wn w A c B d ns ls) :
    Calls Try.prog 9 #[.agg #[.slice A ns.length c, .slice B ls.length d], .int .i64 k, .agg #[.int .i64 px, .int .i64 py]] w fun e w' => ∃ v1 v2, e = .returned (.tuple #[.agg #[v1, v2], .bool (vSplitLead ns ls k (px, py)).2]) ∧ OwP w' w.heap.size 36 v1 (vSplitLead ns ls k (px, py)).1.1 ∧ OwP w' w.heap.size 52 v2 (vSplitLead ns ls k (px, py)).1.2 ∧ Ext w w' := by
  have HV : Hid (vSplitLead ns ls k (px, py) = if spOk ns ls k (px, py) = true then ((ns ++ [(px, py)], spLs ns ls k.toNat), true) else ((ns, ls), false)) := Lib.hid rfl
  have HSP : Hid (spOk ns ls k (px, py) = (hsLd ns ls k && (btw (gp ns (gp ls k).1) (gp ns (gp ls k).2) (px, py) && wok (ns ++ [(px, py)]) (spLs ns ls k.toNat)))) := Lib.hid rfl
  have hnl := h.hl
  have hml := h.hm
  by_cases hwo : wok ns ls = true
  · by_cases hwi : wi k 0 (ls.length - 1) = true
    · obtain ⟨q1, q2⟩ := wi_iffV.1 hwi
      obtain ⟨kk, rfl⟩ := Int.eq_ofNat_of_zero_le q1
      have hkl : kk < ls.length := by omega
      have hki : (kk : Int) < ls.length := by omega
      obtain ⟨a, b, eab, ha, hb⟩ := wok_lead hwo hkl
      have hai : (a : Int) < ns.length := by omega
      have hbi : (b : Int) < ns.length := by omega
      have hW := wok_iff.1 hwo
      have hn12 := hW.hi
      have hl20 := hW.le
      have HSP := Lib.hid HSP.out
      rw [show hsLd ns ls (kk : Int) = true by unfold hsLd; rw [hwo, hwi]; rfl, eab, Int.toNat_natCast, Bool.true_and] at HSP
      have HEB := Lib.hid eab
      clear q1 q2 hW
      obtain ⟨ax, ay, hga⟩ : ∃ x y, gp ns (a : Nat) = (x, y) := ⟨_, _, rfl⟩
      obtain ⟨bx, by', hgb⟩ : ∃ x y, gp ns (b : Nat) = (x, y) := ⟨_, _, rfl⟩
      rw [hga, hgb] at HSP
      have HGA := Lib.hid hga
      have HGB := Lib.hid hgb
      clear hga hgb eab
      by_cases hB : btw (ax, ay) (bx, by') (px, py) = true
      · skip
        go_enter Try.func9, Try.ntmps9
        go_upto_region 1 with fail
        have k0 : (((w.alloc (.cells #[.slice A ns.length c, .slice B ls.length d] 32)).alloc (.cells #[.int .i64 px, .int .i64 py] 36)).alloc (.cells #[.slice none 0 0, .slice none 0 0] 32)).cell? ⟨w.heap.size, 0, none⟩ = some (.slice A ns.length c) := by go_simp
        have k1 : (((w.alloc (.cells #[.slice A ns.length c, .slice B ls.length d] 32)).alloc (.cells #[.int .i64 px, .int .i64 py] 36)).alloc (.cells #[.slice none 0 0, .slice none 0 0] 32)).cell? ⟨w.heap.size, 1, none⟩ = some (.slice B ls.length d) := by go_simp
        have n0 : (((w.alloc (.cells #[.slice A ns.length c, .slice B ls.length d] 32)).alloc (.cells #[.int .i64 px, .int .i64 py] 36)).alloc (.cells #[.slice none 0 0, .slice none 0 0] 32)).cell? ⟨w.heap.size + 1, 0, none⟩ = some (.int .i64 px) := by go_simp
        have n1 : (((w.alloc (.cells #[.slice A ns.length c, .slice B ls.length d] 32)).alloc (.cells #[.int .i64 px, .int .i64 py] 36)).alloc (.cells #[.slice none 0 0, .slice none 0 0] 32)).cell? ⟨w.heap.size + 1, 1, none⟩ = some (.int .i64 py) := by go_simp
        have r0 : (((w.alloc (.cells #[.slice A ns.length c, .slice B ls.length d] 32)).alloc (.cells #[.int .i64 px, .int .i64 py] 36)).alloc (.cells #[.slice none 0 0, .slice none 0 0] 32)).cell? ⟨w.heap.size + 1 + 1, 0, none⟩ = some (.slice none 0 0) := by go_simp
        have r1 : (((w.alloc (.cells #[.slice A ns.length c, .slice B ls.length d] 32)).alloc (.cells #[.int .i64 px, .int .i64 py] 36)).alloc (.cells #[.slice none 0 0, .slice none 0 0] 32)).cell? ⟨w.heap.size + 1 + 1, 1, none⟩ = some (.slice none 0 0) := by go_simp
        have f0 : (((w.alloc (.cells #[.slice A ns.length c, .slice B ls.length d] 32)).alloc (.cells #[.int .i64 px, .int .i64 py] 36)).alloc (.cells #[.slice none 0 0, .slice none 0 0] 32)).frozen? ⟨w.heap.size + 1 + 1, 0, none⟩ = false := by go_simp
        have f1 : (((w.alloc (.cells #[.slice A ns.length c, .slice B ls.length d] 32)).alloc (.cells #[.int .i64 px, .int .i64 py] 36)).alloc (.cells #[.slice none 0 0, .slice none 0 0] 32)).frozen? ⟨w.heap.size + 1 + 1, 1, none⟩ = false := by go_simp
        have hx : Ext w (((w.alloc (.cells #[.slice A ns.length c, .slice B ls.length d] 32)).alloc (.cells #[.int .i64 px, .int .i64 py] 36)).alloc (.cells #[.slice none 0 0, .slice none 0 0] 32)) := (((Ext.refl _).alloc _).alloc _).alloc _
        have hs0 : (((w.alloc (.cells #[.slice A ns.length c, .slice B ls.length d] 32)).alloc (.cells #[.int .i64 px, .int .i64 py] 36)).alloc (.cells #[.slice none 0 0, .slice none 0 0] 32)).heap.size = w.heap.size + 1 + 1 + 1 := by simp
        generalize (((w.alloc (.cells #[.slice A ns.length c, .slice B ls.length d] 32)).alloc (.cells #[.int .i64 px, .int .i64 py] 36)).alloc (.cells #[.slice none 0 0, .slice none 0 0] 32)) = w0 at *
        generalize hb1 : w.heap.size + 1 = b1 at *
        generalize hb2 : b1 + 1 = b2 at *
        have HS0 := Lib.hid hs0
        clear hs0
        go_wp2_with fail
        refine (copy_s_l04Copy _ _ _ _ ns ls _ (h.ext hx)).mono ?_
        rintro e w1 ⟨v1, v2, rfl, oa1, oa2, -, hb⟩
        have hbb1 := fun q hq => (oa1.blk q hq).2
        have hbb2 := fun q hq => (oa2.blk q hq).2
        obtain ⟨A1, c1, rfl, -, -, -⟩ := oa1.shape
        obtain ⟨A2, c2, rfl, -, -, -⟩ := oa2.shape
        have hs01 := hb.size
        go_upto_region 2 with fail
        have bt : Bk (w1.alloc (.cells #[.slice A1 ns.length c1, .slice A2 ls.length c2] 32)) w1.heap.size 32 [.slice A1 ns.length c1, .slice A2 ls.length c2] := Bk.new _ _ rfl
        have hx12 : Ext w1 (w1.alloc (.cells #[.slice A1 ns.length c1, .slice A2 ls.length c2] 32)) := (Ext.refl _).alloc _
        generalize (w1.alloc (.cells #[.slice A1 ns.length c1, .slice A2 ls.length c2] 32)) = w2 at *
        generalize hgs : w1.heap.size = gs at *
        have o1 := oa1.ext hx12
        have o2 := oa2.ext hx12
        have hx02 := hb.trans hx12
        have HBT := Lib.hid bt
        have HB1 := Lib.hid hbb1
        have HB2 := Lib.hid hbb2
        clear oa1 oa2 hb bt hx12 hbb1 hbb2
        have d0 := cell_regrown (hx02.lit k0)
        have d1 := cell_regrown (hx02.lit k1)
        have d2 := cell_regrown (hx02.lit n0)
        have d3 := cell_regrown (hx02.lit n1)
        obtain ⟨bL, oL, rfl, -, l0, l1⟩ := h.g.gp_ hkl
        obtain ⟨bN, oN, rfl, -, x0, x1⟩ := h.h.gp_ ha
        obtain ⟨bN', oN', e', -, y0, y1⟩ := h.h.gp_ hb
        obtain ⟨rfl, rfl⟩ : bN = bN' ∧ oN = oN' := by simpa using e'
        rw [HEB.out] at l0 l1
        rw [HGA.out] at x0 x1
        rw [HGB.out] at y0 y1
        clear e'
        have hx2 := hx.trans hx02
        have d4 := cell_regrown (hx2.lit l0)
        have d5 := cell_regrown (hx2.lit l1)
        have d6 := cell_regrown (hx2.lit x0)
        have d7 := cell_regrown (hx2.lit x1)
        have d8 := cell_regrown (hx2.lit y0)
        have d9 := cell_regrown (hx2.lit y1)
        go_wp2_with fail
        refine rx_open [(true, 0, some 12, 8), (false, 1, some 13, 4096), (true, 2, some 14, 8192), (true, 6, some 15, 16384), (true, 8, some 16, 32770), (true, 8, some 17, 32776), (true, 40, some 18, 163840), (true, 72, some 19, 294912), (true, 136, some 20, 557056), (false, 280, some 21, 1146880), (true, 520, some 22, 2129920), (true, 1032, some 23, 4227072), (true, 2560, some 24, 8388608), (true, 4096, some 25, 16777224), (true, 12288, some 26, 50331648), (true, 4096, some 27, 16777224), (true, 36864, some 28, 150994944), (true, 4096, some 29, 16777218), (true, 200704, some 30, 822083584), (true, 266240, some 31, 1090519040), (true, 528384, some 32, 2164260864), (true, 1069056, some 33, 4378853376), (true, 2101248, some 34, 8606711808), (true, 4096, some 35, 16777224), (true, 8392704, some 36, 34376515584), (true, 4096, some 37, 16777224), (true, 33558528, some 38, 137455730688), (true, 4096, some 39, 16777218), (true, 201330688, some 40, 824650498048), (true, 268439552, some 41, 1099528404992), (true, 536875008, some 42, 2199040032768), (true, 1090523136, some 43, 4466782765056), (true, 2147487744, some 44, 8796109799424), (true, 4096, some 45, 16777248), (false, 12889100288, some 46, 52793754779648), (true, 17179873280, some 47, 70368760954880), (true, 34359742464, some 48, 140737505132544)] 0 37 mixd rfl (by kernel_rfl) (by kernel_rfl) (by kernel_rfl) ?_
        refine rx_run (run := [0]) (k := 36) (m' := 1) rfl (by kernel_rfl) (by kernel_rfl) (by kernel_rfl) (fm_cons rfl <| List.filterMap_nil) (by repeat first | exact Ext.refl _ | assumption | refine Ext.drew ?_ | refine Ext.alloc ?_ _ | refine Ext.setCell ?_ (by simp) | refine Ext.setCell ?_ (by simp; omega) | refine Ext.trans ?_ (by assumption)) ?_
        repeat (go_big_quiet_step ((fail)))
        refine wpQuiet_nil ?_
        refine rx_op 1 (k := 35) (m' := 3) rfl rfl (by kernel_rfl) (by kernel_rfl) ?_
        go_wp2_with (first | (go_at_call 27; refine (WindowOk_s' (h.ext (hx2.trans (by repeat first | exact Ext.refl _ | assumption | refine Ext.drew ?_ | refine Ext.alloc ?_ _ | refine Ext.setCell ?_ (by simp) | refine Ext.setCell ?_ (by simp; omega) | refine Ext.trans ?_ (by assumption))))).mono ?_; rw [hwo]; rintro e w4 ⟨rfl, hb4⟩) | (go_at_call 28; refine (l01In_c _ _ _ _).mono ?_; rw [hwi]; rintro e w5 ⟨rfl, rfl⟩) | (go_at_call 29; refine (IsBetween_s ax ay bx by' px py _).mono ?_; rw [hB]; rintro e w6 ⟨rfl, hb6⟩))
        refine rx_on (by repeat first | exact Ext.refl _ | assumption | refine Ext.drew ?_ | refine Ext.alloc ?_ _ | refine Ext.setCell ?_ (by simp) | refine Ext.setCell ?_ (by simp; omega) | refine Ext.trans ?_ (by assumption)) ?_
        refine rx_run (run := [2, 3, 4, 5, 6, 7, 8]) (k := 28) (m' := 511) rfl (by kernel_rfl) (by kernel_rfl) (by kernel_rfl) (fm_cons rfl <| fm_cons rfl <| fm_cons rfl <| fm_cons rfl <| fm_cons rfl <| fm_cons rfl <| fm_cons rfl <| List.filterMap_nil) (by repeat first | exact Ext.refl _ | assumption | refine Ext.drew ?_ | refine Ext.alloc ?_ _ | refine Ext.setCell ?_ (by simp) | refine Ext.setCell ?_ (by simp; omega) | refine Ext.trans ?_ (by assumption)) ?_
        repeat (go_big_quiet_step ((fail)))
        refine wpQuiet_nil ?_
        refine rx_op 9 (k := 27) (m' := 1023) rfl rfl (by kernel_rfl) (by kernel_rfl) ?_
        go_wp2_with (first | (go_at_call 27; refine (WindowOk_s' (h.ext (hx2.trans (by repeat first | exact Ext.refl _ | assumption | refine Ext.drew ?_ | refine Ext.alloc ?_ _ | refine Ext.setCell ?_ (by simp) | refine Ext.setCell ?_ (by simp; omega) | refine Ext.trans ?_ (by assumption))))).mono ?_; rw [hwo]; rintro e w4 ⟨rfl, hb4⟩) | (go_at_call 28; refine (l01In_c _ _ _ _).mono ?_; rw [hwi]; rintro e w5 ⟨rfl, rfl⟩) | (go_at_call 29; refine (IsBetween_s ax ay bx by' px py _).mono ?_; rw [hB]; rintro e w6 ⟨rfl, hb6⟩))
        refine rx_on (by repeat first | exact Ext.refl _ | assumption | refine Ext.drew ?_ | refine Ext.alloc ?_ _ | refine Ext.setCell ?_ (by simp) | refine Ext.setCell ?_ (by simp; omega) | refine Ext.trans ?_ (by assumption)) ?_
        refine rx_run (run := [10, 11, 12, 13, 14, 15, 16, 17, 18, 19, 20, 21, 22, 23, 24, 25, 26, 27, 28, 29, 30, 31, 32, 33]) (k := 3) (m' := 17179869183) rfl (by kernel_rfl) (by kernel_rfl) (by kernel_rfl) (fm_cons rfl <| fm_cons rfl <| fm_cons rfl <| fm_cons rfl <| fm_cons rfl <| fm_cons rfl <| fm_cons rfl <| fm_cons rfl <| fm_cons rfl <| fm_cons rfl <| fm_cons rfl <| fm_cons rfl <| fm_cons rfl <| fm_cons rfl <| fm_cons rfl <| fm_cons rfl <| fm_cons rfl <| fm_cons rfl <| fm_cons rfl <| fm_cons rfl <| fm_cons rfl <| fm_cons rfl <| fm_cons rfl <| fm_cons rfl <| List.filterMap_nil) (by repeat first | exact Ext.refl _ | assumption | refine Ext.drew ?_ | refine Ext.alloc ?_ _ | refine Ext.setCell ?_ (by simp) | refine Ext.setCell ?_ (by simp; omega) | refine Ext.trans ?_ (by assumption)) ?_
        repeat (go_big_quiet_step ((fail)))
        refine wpQuiet_nil ?_
        refine rx_op 34 (k := 2) (m' := 34359738367) rfl rfl (by kernel_rfl) (by kernel_rfl) ?_
        go_wp2_with (first | (go_at_call 27; refine (WindowOk_s' (h.ext (hx2.trans (by repeat first | exact Ext.refl _ | assumption | refine Ext.drew ?_ | refine Ext.alloc ?_ _ | refine Ext.setCell ?_ (by simp) | refine Ext.setCell ?_ (by simp; omega) | refine Ext.trans ?_ (by assumption))))).mono ?_; rw [hwo]; rintro e w4 ⟨rfl, hb4⟩) | (go_at_call 28; refine (l01In_c _ _ _ _).mono ?_; rw [hwi]; rintro e w5 ⟨rfl, rfl⟩) | (go_at_call 29; refine (IsBetween_s ax ay bx by' px py _).mono ?_; rw [hB]; rintro e w6 ⟨rfl, hb6⟩))
        refine rx_on (by repeat first | exact Ext.refl _ | assumption | refine Ext.drew ?_ | refine Ext.alloc ?_ _ | refine Ext.setCell ?_ (by simp) | refine Ext.setCell ?_ (by simp; omega) | refine Ext.trans ?_ (by assumption)) ?_
        refine rx_run (run := [35, 36]) (k := 0) (m' := 137438953471) rfl (by kernel_rfl) (by kernel_rfl) (by kernel_rfl) (fm_cons rfl <| fm_cons rfl <| List.filterMap_nil) (by repeat first | exact Ext.refl _ | assumption | refine Ext.drew ?_ | refine Ext.alloc ?_ _ | refine Ext.setCell ?_ (by simp) | refine Ext.setCell ?_ (by simp; omega) | refine Ext.trans ?_ (by assumption)) ?_
        repeat (go_big_quiet_step ((fail)))
        refine wpQuiet_nil ?_
        refine rx_end (by kernel_rfl) ?_
        have hxq : Ext w2 w6 := (by repeat first | exact Ext.refl _ | assumption | refine Ext.drew ?_ | refine Ext.alloc ?_ _ | refine Ext.setCell ?_ (by simp) | refine Ext.setCell ?_ (by simp; omega) | refine Ext.trans ?_ (by assumption))
        have hx06 := hx02.trans hxq
        have j0 := hx06.lit k0
        have j1 := hx06.lit k1
        have m0 := hx06.lit n0
        have m1 := hx06.lit n1
        have o1 := o1.ext hxq
        have o2 := o2.ext hxq
        have bt := HBT.out.ext hxq
        have t0 : w6.cell? ⟨gs, 0, none⟩ = some (.slice A1 ns.length c1) := bt.cell 0
        have HBU := Lib.hid bt
        have hs06 := hx06.size
        have hgl : (0 : Nat) < 1 := Nat.one_pos
        clear d0 d1 d2 d3 d4 d5 d6 d7 d8 d9 hb4 hb6 bt HBT hx2
        go_wp2_with (at_builtin; refine az_src 29 36 Try.underlying29 infoN _ _ rfl rfl (v := .slice A1 ns.length c1) rfl (o1.ext ((Ext.refl w6).alloc _)) (l := [(px, py)]) rfl rfl (pr_oneg (by first | rfl | omega) px py) (by omega) (by simp) (by simp; omega) ?_)
        intro v5 w9 r9 h5 h5e h5g h5r
        have hx09 := h5e w0 (hx06.alloc _) (Nat.le_refl _)
        have hr9 : r9 ≠ some gs := fun e => by have := HB1.out gs (h5r gs e); omega
        have bt9 := gb_bk (HBU.out.ext ((Ext.refl w6).alloc (.cells #[.int .i64 px, .int .i64 py] 36))) h5g hr9
        have o29 := (o2.ext ((Ext.refl w6).alloc (.cells #[.int .i64 px, .int .i64 py] 36))).gb h5g (fun q hq e => OwP.dj o1 o2 (by decide) q (h5r q e) hq)
        have t0 : w9.cell? ⟨gs, 0, none⟩ = some (.slice A1 ns.length c1) := bt9.cell 0
        have ft0 := bt9.froz 0
        have h5x := h5.far bt9 (by decide) 0 v5
        have o2x := o29.far bt9 (by decide) 0 v5
        have btx := bt9.set_ 0 v5
        have hxx := Ext.setCell (p := ⟨gs, 0, none⟩) (v := v5) hx09 (by show w0.heap.size ≤ gs; exact hs01)
        obtain ⟨A5, c5, e5, hc5, hm5, -⟩ := h5x.shape
        rw [show (ns ++ [(px, py)]).length = ns.length + 1 by simp] at e5
        have HBX := Lib.hid btx
        have H5 := Lib.hid h5x
        have O2 := Lib.hid o2x
        subst e5
        clear h5 h5e h5g h5r o1 o2 o29 bt9 btx h5x o2x m0 m1 HBU HB1 hr9 hx09 hx06 j0 j1
        go_upto_region 6 with fail
        clear t0 ft0
        generalize w9.setCell ⟨gs, 0, none⟩ (.slice A5 (ns.length + 1) c5) = w10 at *
        have t0 : w10.cell? ⟨gs, 0, none⟩ = some (.slice A5 (ns.length + 1) c5) := HBX.out.cell 0
        have t1 : w10.cell? ⟨gs, 1, none⟩ = some (.slice A2 ls.length c2) := HBX.out.cell 1
        obtain ⟨g4, c4', e4, -, -, -, -, -, -, -⟩ := O2.out.at_ hkl
        obtain ⟨rfl, rfl⟩ : A2 = some ⟨g4, 0, none⟩ ∧ c2 = c4' := by simpa using e4
        have hg4 : g4 < gs := HB2.out g4 rfl
        have z1 := (hx.trans hxx).lit l1
        have j1 := hxx.lit k1
        clear e4 HB2
        have hs010 := hxx.size
        have d1 := cell_regrown t1
        have d2 := cell_regrown z1
        have d3 := cell_regrown j1
        refine rx_open [(true, 0, some 59, 256), (true, 1, some 60, 576460752303423488), (true, 0, some 61, 8), (true, 4, some 62, 2305843009213693952), (true, 0, some 63, 2), (true, 24, some 64, 13835058055282163712), (true, 32, some 65, 18446744073709551616), (true, 64, some 66, 36893488147419103232), (true, 0, some 67, 512), (false, 384, some 68, 221360928884514619392), (false, 512, some 69, 295147905179352825856), (false, 1026, some 70, 591448731863312498688), (true, 4095, some 71, 256), (false, 8191, none, 3541774862152233910272)] 14336 14 mixd rfl (by kernel_rfl) (by kernel_rfl) (by kernel_rfl) ?_
        refine rx_run (run := [0, 1, 2, 3, 4, 5, 6, 7, 8]) (k := 5) (m' := 511) rfl (by kernel_rfl) (by kernel_rfl) (by kernel_rfl) (fm_cons rfl <| fm_cons rfl <| fm_cons rfl <| fm_cons rfl <| fm_cons rfl <| fm_cons rfl <| fm_cons rfl <| fm_cons rfl <| fm_cons rfl <| List.filterMap_nil) (by repeat first | exact Ext.refl _ | assumption | refine Ext.drew ?_ | refine Ext.alloc ?_ _ | refine Ext.setCell ?_ (by simp) | refine Ext.setCell ?_ (by simp; omega) | refine Ext.trans ?_ (by assumption)) ?_
        repeat (go_big_quiet_step ((fail)))
        refine wpQuiet_nil ?_
        refine rx_op 9 (k := 4) (m' := 1023) rfl rfl (by kernel_rfl) (by kernel_rfl) ?_
        go_wp2
        refine rx_on (by repeat first | exact Ext.refl _ | assumption | refine Ext.drew ?_ | refine Ext.alloc ?_ _ | refine Ext.setCell ?_ (by simp) | refine Ext.setCell ?_ (by simp; omega) | refine Ext.trans ?_ (by assumption)) ?_
        refine rx_op 10 (k := 3) (m' := 2047) rfl rfl (by kernel_rfl) (by kernel_rfl) ?_
        go_wp2
        refine rx_on (by repeat first | exact Ext.refl _ | assumption | refine Ext.drew ?_ | refine Ext.alloc ?_ _ | refine Ext.setCell ?_ (by simp) | refine Ext.setCell ?_ (by simp; omega) | refine Ext.trans ?_ (by assumption)) ?_
        refine rx_op 11 (k := 2) (m' := 4095) rfl rfl (by kernel_rfl) (by kernel_rfl) ?_
        go_wp2_with ((at_builtin; refine az_src 30 52 Try.underlying30 infoL _ _ rfl rfl (v := .slice (some ⟨g4, 0, none⟩) ls.length c2) rfl (O2.out.ext (by repeat first | exact Ext.refl _ | assumption | refine Ext.drew ?_ | refine Ext.alloc ?_ _ | refine Ext.setCell ?_ (by simp) | refine Ext.setCell ?_ (by simp; omega) | refine Ext.trans ?_ (by assumption))) (l := [((b : Int), (ns.length : Int))]) rfl rfl (pr_cells (Nat.lt_succ_self _) (by go_simp) (by go_simp)) (by omega) (by simp) (by simp; omega) ?_; intro v6 w12 r12 h6 h6e h6g h6r; have hx12 := h6e w0 (hxx.trans (by repeat first | exact Ext.refl _ | assumption | refine Ext.drew ?_ | refine Ext.alloc ?_ _ | refine Ext.setCell ?_ (by simp) | refine Ext.setCell ?_ (by simp; omega) | refine Ext.trans ?_ (by assumption))) (Nat.le_refl _); have bt12 := gb_bk (HBX.out.ext (by repeat first | exact Ext.refl _ | assumption | refine Ext.drew ?_ | refine Ext.alloc ?_ _ | refine Ext.setCell ?_ (by simp) | refine Ext.setCell ?_ (by simp; omega) | refine Ext.trans ?_ (by assumption))) h6g (fun e => by have := h6r gs e; simp [Value.ownBlock] at this; omega); have h512 := (H5.out.ext (by repeat first | exact Ext.refl _ | assumption | refine Ext.drew ?_ | refine Ext.alloc ?_ _ | refine Ext.setCell ?_ (by simp) | refine Ext.setCell ?_ (by simp; omega) | refine Ext.trans ?_ (by assumption))).gb h6g (fun q hq e => OwP.dj H5.out O2.out (by decide) q hq (h6r q e)); have t1c : w12.cell? ⟨gs, 1, none⟩ = some (.slice (some ⟨g4, 0, none⟩) ls.length c2) := bt12.cell 1; have ft1c := bt12.froz 1; obtain ⟨A6, c6, e6, hc6, hm6, -⟩ := h6.shape; rw [show (ls ++ [((b : Int), (ns.length : Int))]).length = ls.length + 1 by simp] at e6; subst e6))
        refine rx_lst (by decide) ?_
        refine rx_op 12 (k := 1) (m' := 8191) rfl rfl (by kernel_rfl) (by kernel_rfl) ?_
        go_wp2
        refine rx_lst (by decide) ?_
        refine rx_op 13 (k := 0) (m' := 16383) rfl rfl (by kernel_rfl) (by kernel_rfl) ?_
        go_wp2
        refine rx_lst (by decide) ?_
        refine rx_end (by kernel_rfl) ?_
        have h5x := h512.far bt12 (by decide) 1 (.slice A6 (ls.length + 1) c6)
        have h6x := h6.far bt12 (by decide) 1 (.slice A6 (ls.length + 1) c6)
        have btx := bt12.set_ 1 (.slice A6 (ls.length + 1) c6)
        have hx13 := Ext.setCell (p := ⟨gs, 1, none⟩) (v := .slice A6 (ls.length + 1) c6) hx12 (by show w0.heap.size ≤ gs; exact hs01)
        have HBY := Lib.hid btx
        have H52 := Lib.hid h5x
        have H62 := Lib.hid h6x
        clear h5x h6x btx hx12 bt12 h512 h6 h6e h6g h6r t1c ft1c t0 t1 d1 d2 d3 z1 j1 HBX H5 O2 hxx hs010
        go_upto_region 7 with fail
        generalize w12.setCell ⟨gs, 1, none⟩ (.slice A6 (ls.length + 1) c6) = w13 at *
        have t0 : w13.cell? ⟨gs, 0, none⟩ = some (.slice A5 (ns.length + 1) c5) := HBY.out.cell 0
        have t1 : w13.cell? ⟨gs, 1, none⟩ = some (.slice A6 (ls.length + 1) c6) := HBY.out.cell 1
        obtain ⟨g6, c6', e6, -, hg6, -, -, y1', -, fy1⟩ := H62.out.at_ (j := kk) (by simp; omega)
        obtain ⟨rfl, rfl⟩ : A6 = some ⟨g6, 0, none⟩ ∧ c6 = c6' := by simpa using e6
        clear e6
        have hset := H62.out.set2 (by simp) (j := kk) (by simp; omega) (ns.length : Int)
        rw [gp_app hkl, HEB.out] at hset
        have HS6 : Hid (OwP (w13.setCell ⟨g6, kk * 2 + 1, none⟩ (.int .i64 (ns.length : Int))) w0.heap.size 52 (.slice (some ⟨g6, 0, none⟩) (ls.length + 1) c6) (spLs ns ls kk)) := Lib.hid (by unfold spLs; rw [HEB.out]; exact hset)
        have HS5 := Lib.hid (H52.out.gb (gb_set (gb_refl w13 (some g6)) (kk * 2 + 1) (.int .i64 (ns.length : Int))) (fun q hq e => OwP.dj H52.out H62.out (by decide) q hq (by rw [← e]; rfl)))
        have HBZ := Lib.hid (gb_bk HBY.out (gb_set (gb_refl w13 (some g6)) (kk * 2 + 1) (.int .i64 (ns.length : Int))) (fun e => OwP.nebk H62.out HBY.out (by decide) (by rw [← e]; rfl)))
        have hx14 := Ext.setCell (p := ⟨g6, kk * 2 + 1, none⟩) (v := .int .i64 (ns.length : Int)) hx13 hg6
        have hk1 : (kk : Int) < (ls.length : Int) + 1 := by omega
        clear hset
        generalize (gp (ls ++ [((b : Int), (ns.length : Int))]) (kk : Nat)).2 = u6 at *
        go_upto_region 8 with fail
        clear t0 t1 y1' fy1 HBY H52 H62 hx13
        generalize w13.setCell ⟨g6, kk * 2 + 1, none⟩ (.int .i64 (ns.length : Int)) = w14 at *
        have t0 : w14.cell? ⟨gs, 0, none⟩ = some (.slice A5 (ns.length + 1) c5) := HBZ.out.cell 0
        have t1 : w14.cell? ⟨gs, 1, none⟩ = some (.slice (some ⟨g6, 0, none⟩) (ls.length + 1) c6) := HBZ.out.cell 1
        have HWN := Lib.hid (wn_own HS5.out HS6.out (by simp; omega) (by simp [spLs]; omega))
        go_wp2_with fail
        refine (WindowOk_sL HWN.out (by simp) (by simp [spLs])).mono ?_
        rintro e w15 ⟨rfl, hb15⟩
        have hx0q := hx14.trans hb15
        cases hok : wok (ns ++ [(px, py)]) (spLs ns ls kk) with
        | false =>
          have HNO : Hid (spOk ns ls kk (px, py) = false) := Lib.hid (by rw [HSP.out, hB, hok]; rfl)
          have j0 := hx0q.lit k0
          have j1 := hx0q.lit k1
          clear hok hB t0 t1
          go_wp2_with fail
          refine (copy_s_l04Copy _ _ _ _ ns ls _ (h.ext (hx.trans hx0q))).mono ?_
          rintro e w16 ⟨v7, v8, rfl, o7, o8, -, hb16⟩
          have hs15 := hx0q.size
          have hx0q := hx0q.trans hb16
          have r0 := hx0q.lit r0
          have r1 := hx0q.lit r1
          have f0 := hx0q.frz (by rw [HS0.out]; omega) f0
          have f1 := hx0q.frz (by rw [HS0.out]; omega) f1
          obtain ⟨A7, c7, rfl, -, -, -⟩ := o7.shape
          obtain ⟨A8, c8, rfl, -, -, -⟩ := o8.shape
          have hb215 : b2 < w15.heap.size := Nat.lt_of_lt_of_le (by rw [HS0.out]; omega) hs15
          have hww := Nat.le_trans hx.size hs15
          go_wp2
          (try simp only [Exit.inBlock, Exit.then])
          refine bodyPost_ret (by simp [results, Try.results9, go_sem, r0, r1]; try rfl) rfl ?_
          exact ⟨_, _, ret_wb (by rw [HV.out, if_neg (by rw [HNO.out]; decide)]), by rw [HV.out, if_neg (by rw [HNO.out]; decide)]; exact (o7.gb2 (gb_set (gb_set (gb_refl _ (some b2)) 0 _) 1 _) hb215).more hww, by rw [HV.out, if_neg (by rw [HNO.out]; decide)]; exact (o8.gb2 (gb_set (gb_set (gb_refl _ (some b2)) 0 _) 1 _) hb215).more hww, Ext.setCell (p := ⟨b2, 1, none⟩) (Ext.setCell (p := ⟨b2, 0, none⟩) (hx.trans hx0q) (by show w.heap.size ≤ b2; omega)) (by show w.heap.size ≤ b2; omega)⟩
        | true =>
          have HYE : Hid (spOk ns ls kk (px, py) = true) := Lib.hid (by rw [HSP.out, hB, hok]; rfl)
          have r0 := hx0q.lit r0
          have r1 := hx0q.lit r1
          have f0 := hx0q.frz (by rw [HS0.out]; omega) f0
          have f1 := hx0q.frz (by rw [HS0.out]; omega) f1
          have t0 := hb15.lit t0
          have t1 := hb15.lit t1
          have HF5 := Lib.hid (HS5.out.ext hb15)
          have HF6 := Lib.hid (HS6.out.ext hb15)
          have hb20 : b2 < w0.heap.size := by rw [HS0.out]; omega
          clear hok hB
          go_wp2
          (try simp only [Exit.inBlock, Exit.then])
          refine bodyPost_ret (by simp [results, Try.results9, go_sem, r0, r1]; try rfl) rfl ?_
          exact ⟨_, _, ret_wb (by rw [HV.out, if_pos HYE.out]), by rw [HV.out, if_pos HYE.out]; exact (HF5.out.gb2 (gb_set (gb_set (gb_refl _ (some b2)) 0 _) 1 _) hb20).more hx.size, by rw [HV.out, if_pos HYE.out]; exact (HF6.out.gb2 (gb_set (gb_set (gb_refl _ (some b2)) 0 _) 1 _) hb20).more hx.size, Ext.setCell (p := ⟨b2, 1, none⟩) (Ext.setCell (p := ⟨b2, 0, none⟩) (hx.trans hx0q) (by show w.heap.size ≤ b2; omega)) (by show w.heap.size ≤ b2; omega)⟩
      · have hB := eq_false_of_ne_true hB
        have HNO : Hid (spOk ns ls kk (px, py) = false) := Lib.hid (by rw [HSP.out, hB]; rfl)
        go_enter Try.func9, Try.ntmps9
        go_upto_region 1 with fail
        have k0 : (((w.alloc (.cells #[.slice A ns.length c, .slice B ls.length d] 32)).alloc (.cells #[.int .i64 px, .int .i64 py] 36)).alloc (.cells #[.slice none 0 0, .slice none 0 0] 32)).cell? ⟨w.heap.size, 0, none⟩ = some (.slice A ns.length c) := by go_simp
        have k1 : (((w.alloc (.cells #[.slice A ns.length c, .slice B ls.length d] 32)).alloc (.cells #[.int .i64 px, .int .i64 py] 36)).alloc (.cells #[.slice none 0 0, .slice none 0 0] 32)).cell? ⟨w.heap.size, 1, none⟩ = some (.slice B ls.length d) := by go_simp
        have n0 : (((w.alloc (.cells #[.slice A ns.length c, .slice B ls.length d] 32)).alloc (.cells #[.int .i64 px, .int .i64 py] 36)).alloc (.cells #[.slice none 0 0, .slice none 0 0] 32)).cell? ⟨w.heap.size + 1, 0, none⟩ = some (.int .i64 px) := by go_simp
        have n1 : (((w.alloc (.cells #[.slice A ns.length c, .slice B ls.length d] 32)).alloc (.cells #[.int .i64 px, .int .i64 py] 36)).alloc (.cells #[.slice none 0 0, .slice none 0 0] 32)).cell? ⟨w.heap.size + 1, 1, none⟩ = some (.int .i64 py) := by go_simp
        have r0 : (((w.alloc (.cells #[.slice A ns.length c, .slice B ls.length d] 32)).alloc (.cells #[.int .i64 px, .int .i64 py] 36)).alloc (.cells #[.slice none 0 0, .slice none 0 0] 32)).cell? ⟨w.heap.size + 1 + 1, 0, none⟩ = some (.slice none 0 0) := by go_simp
        have r1 : (((w.alloc (.cells #[.slice A ns.length c, .slice B ls.length d] 32)).alloc (.cells #[.int .i64 px, .int .i64 py] 36)).alloc (.cells #[.slice none 0 0, .slice none 0 0] 32)).cell? ⟨w.heap.size + 1 + 1, 1, none⟩ = some (.slice none 0 0) := by go_simp
        have f0 : (((w.alloc (.cells #[.slice A ns.length c, .slice B ls.length d] 32)).alloc (.cells #[.int .i64 px, .int .i64 py] 36)).alloc (.cells #[.slice none 0 0, .slice none 0 0] 32)).frozen? ⟨w.heap.size + 1 + 1, 0, none⟩ = false := by go_simp
        have f1 : (((w.alloc (.cells #[.slice A ns.length c, .slice B ls.length d] 32)).alloc (.cells #[.int .i64 px, .int .i64 py] 36)).alloc (.cells #[.slice none 0 0, .slice none 0 0] 32)).frozen? ⟨w.heap.size + 1 + 1, 1, none⟩ = false := by go_simp
        have hx : Ext w (((w.alloc (.cells #[.slice A ns.length c, .slice B ls.length d] 32)).alloc (.cells #[.int .i64 px, .int .i64 py] 36)).alloc (.cells #[.slice none 0 0, .slice none 0 0] 32)) := (((Ext.refl _).alloc _).alloc _).alloc _
        have hs0 : (((w.alloc (.cells #[.slice A ns.length c, .slice B ls.length d] 32)).alloc (.cells #[.int .i64 px, .int .i64 py] 36)).alloc (.cells #[.slice none 0 0, .slice none 0 0] 32)).heap.size = w.heap.size + 1 + 1 + 1 := by simp
        generalize (((w.alloc (.cells #[.slice A ns.length c, .slice B ls.length d] 32)).alloc (.cells #[.int .i64 px, .int .i64 py] 36)).alloc (.cells #[.slice none 0 0, .slice none 0 0] 32)) = w0 at *
        generalize hb1 : w.heap.size + 1 = b1 at *
        generalize hb2 : b1 + 1 = b2 at *
        have HS0 := Lib.hid hs0
        clear hs0
        go_wp2_with fail
        refine (copy_s_l04Copy _ _ _ _ ns ls _ (h.ext hx)).mono ?_
        rintro e w1 ⟨v1, v2, rfl, oa1, oa2, -, hb⟩
        have hbb1 := fun q hq => (oa1.blk q hq).2
        have hbb2 := fun q hq => (oa2.blk q hq).2
        obtain ⟨A1, c1, rfl, -, -, -⟩ := oa1.shape
        obtain ⟨A2, c2, rfl, -, -, -⟩ := oa2.shape
        have hs01 := hb.size
        go_upto_region 2 with fail
        have bt : Bk (w1.alloc (.cells #[.slice A1 ns.length c1, .slice A2 ls.length c2] 32)) w1.heap.size 32 [.slice A1 ns.length c1, .slice A2 ls.length c2] := Bk.new _ _ rfl
        have hx12 : Ext w1 (w1.alloc (.cells #[.slice A1 ns.length c1, .slice A2 ls.length c2] 32)) := (Ext.refl _).alloc _
        generalize (w1.alloc (.cells #[.slice A1 ns.length c1, .slice A2 ls.length c2] 32)) = w2 at *
        generalize hgs : w1.heap.size = gs at *
        have o1 := oa1.ext hx12
        have o2 := oa2.ext hx12
        have hx02 := hb.trans hx12
        have HBT := Lib.hid bt
        have HB1 := Lib.hid hbb1
        have HB2 := Lib.hid hbb2
        clear oa1 oa2 hb bt hx12 hbb1 hbb2
        have d0 := cell_regrown (hx02.lit k0)
        have d1 := cell_regrown (hx02.lit k1)
        have d2 := cell_regrown (hx02.lit n0)
        have d3 := cell_regrown (hx02.lit n1)
        obtain ⟨bL, oL, rfl, -, l0, l1⟩ := h.g.gp_ hkl
        obtain ⟨bN, oN, rfl, -, x0, x1⟩ := h.h.gp_ ha
        obtain ⟨bN', oN', e', -, y0, y1⟩ := h.h.gp_ hb
        obtain ⟨rfl, rfl⟩ : bN = bN' ∧ oN = oN' := by simpa using e'
        rw [HEB.out] at l0 l1
        rw [HGA.out] at x0 x1
        rw [HGB.out] at y0 y1
        clear e'
        have hx2 := hx.trans hx02
        have d4 := cell_regrown (hx2.lit l0)
        have d5 := cell_regrown (hx2.lit l1)
        have d6 := cell_regrown (hx2.lit x0)
        have d7 := cell_regrown (hx2.lit x1)
        have d8 := cell_regrown (hx2.lit y0)
        have d9 := cell_regrown (hx2.lit y1)
        go_wp2_with fail
        refine rx_open [(true, 0, some 12, 8), (false, 1, some 13, 4096), (true, 2, some 14, 8192), (true, 6, some 15, 16384), (true, 8, some 16, 32770), (true, 8, some 17, 32776), (true, 40, some 18, 163840), (true, 72, some 19, 294912), (true, 136, some 20, 557056), (false, 280, some 21, 1146880), (true, 520, some 22, 2129920), (true, 1032, some 23, 4227072), (true, 2560, some 24, 8388608), (true, 4096, some 25, 16777224), (true, 12288, some 26, 50331648), (true, 4096, some 27, 16777224), (true, 36864, some 28, 150994944), (true, 4096, some 29, 16777218), (true, 200704, some 30, 822083584), (true, 266240, some 31, 1090519040), (true, 528384, some 32, 2164260864), (true, 1069056, some 33, 4378853376), (true, 2101248, some 34, 8606711808), (true, 4096, some 35, 16777224), (true, 8392704, some 36, 34376515584), (true, 4096, some 37, 16777224), (true, 33558528, some 38, 137455730688), (true, 4096, some 39, 16777218), (true, 201330688, some 40, 824650498048), (true, 268439552, some 41, 1099528404992), (true, 536875008, some 42, 2199040032768), (true, 1090523136, some 43, 4466782765056), (true, 2147487744, some 44, 8796109799424), (true, 4096, some 45, 16777248), (false, 12889100288, some 46, 52793754779648), (true, 17179873280, some 47, 70368760954880), (true, 34359742464, some 48, 140737505132544)] 0 37 mixd rfl (by kernel_rfl) (by kernel_rfl) (by kernel_rfl) ?_
        refine rx_run (run := [0]) (k := 36) (m' := 1) rfl (by kernel_rfl) (by kernel_rfl) (by kernel_rfl) (fm_cons rfl <| List.filterMap_nil) (by repeat first | exact Ext.refl _ | assumption | refine Ext.drew ?_ | refine Ext.alloc ?_ _ | refine Ext.setCell ?_ (by simp) | refine Ext.setCell ?_ (by simp; omega) | refine Ext.trans ?_ (by assumption)) ?_
        repeat (go_big_quiet_step ((fail)))
        refine wpQuiet_nil ?_
        refine rx_op 1 (k := 35) (m' := 3) rfl rfl (by kernel_rfl) (by kernel_rfl) ?_
        go_wp2_with (first | (go_at_call 27; refine (WindowOk_s' (h.ext (hx2.trans (by repeat first | exact Ext.refl _ | assumption | refine Ext.drew ?_ | refine Ext.alloc ?_ _ | refine Ext.setCell ?_ (by simp) | refine Ext.setCell ?_ (by simp; omega) | refine Ext.trans ?_ (by assumption))))).mono ?_; rw [hwo]; rintro e w4 ⟨rfl, hb4⟩) | (go_at_call 28; refine (l01In_c _ _ _ _).mono ?_; rw [hwi]; rintro e w5 ⟨rfl, rfl⟩) | (go_at_call 29; refine (IsBetween_s ax ay bx by' px py _).mono ?_; rw [hB]; rintro e w6 ⟨rfl, hb6⟩))
        refine rx_on (by repeat first | exact Ext.refl _ | assumption | refine Ext.drew ?_ | refine Ext.alloc ?_ _ | refine Ext.setCell ?_ (by simp) | refine Ext.setCell ?_ (by simp; omega) | refine Ext.trans ?_ (by assumption)) ?_
        refine rx_run (run := [2, 3, 4, 5, 6, 7, 8]) (k := 28) (m' := 511) rfl (by kernel_rfl) (by kernel_rfl) (by kernel_rfl) (fm_cons rfl <| fm_cons rfl <| fm_cons rfl <| fm_cons rfl <| fm_cons rfl <| fm_cons rfl <| fm_cons rfl <| List.filterMap_nil) (by repeat first | exact Ext.refl _ | assumption | refine Ext.drew ?_ | refine Ext.alloc ?_ _ | refine Ext.setCell ?_ (by simp) | refine Ext.setCell ?_ (by simp; omega) | refine Ext.trans ?_ (by assumption)) ?_
        repeat (go_big_quiet_step ((fail)))
        refine wpQuiet_nil ?_
        refine rx_op 9 (k := 27) (m' := 1023) rfl rfl (by kernel_rfl) (by kernel_rfl) ?_
        go_wp2_with (first | (go_at_call 27; refine (WindowOk_s' (h.ext (hx2.trans (by repeat first | exact Ext.refl _ | assumption | refine Ext.drew ?_ | refine Ext.alloc ?_ _ | refine Ext.setCell ?_ (by simp) | refine Ext.setCell ?_ (by simp; omega) | refine Ext.trans ?_ (by assumption))))).mono ?_; rw [hwo]; rintro e w4 ⟨rfl, hb4⟩) | (go_at_call 28; refine (l01In_c _ _ _ _).mono ?_; rw [hwi]; rintro e w5 ⟨rfl, rfl⟩) | (go_at_call 29; refine (IsBetween_s ax ay bx by' px py _).mono ?_; rw [hB]; rintro e w6 ⟨rfl, hb6⟩))
        refine rx_on (by repeat first | exact Ext.refl _ | assumption | refine Ext.drew ?_ | refine Ext.alloc ?_ _ | refine Ext.setCell ?_ (by simp) | refine Ext.setCell ?_ (by simp; omega) | refine Ext.trans ?_ (by assumption)) ?_
        refine rx_run (run := [10, 11, 12, 13, 14, 15, 16, 17, 18, 19, 20, 21, 22, 23, 24, 25, 26, 27, 28, 29, 30, 31, 32, 33]) (k := 3) (m' := 17179869183) rfl (by kernel_rfl) (by kernel_rfl) (by kernel_rfl) (fm_cons rfl <| fm_cons rfl <| fm_cons rfl <| fm_cons rfl <| fm_cons rfl <| fm_cons rfl <| fm_cons rfl <| fm_cons rfl <| fm_cons rfl <| fm_cons rfl <| fm_cons rfl <| fm_cons rfl <| fm_cons rfl <| fm_cons rfl <| fm_cons rfl <| fm_cons rfl <| fm_cons rfl <| fm_cons rfl <| fm_cons rfl <| fm_cons rfl <| fm_cons rfl <| fm_cons rfl <| fm_cons rfl <| fm_cons rfl <| List.filterMap_nil) (by repeat first | exact Ext.refl _ | assumption | refine Ext.drew ?_ | refine Ext.alloc ?_ _ | refine Ext.setCell ?_ (by simp) | refine Ext.setCell ?_ (by simp; omega) | refine Ext.trans ?_ (by assumption)) ?_
        repeat (go_big_quiet_step ((fail)))
        refine wpQuiet_nil ?_
        refine rx_op 34 (k := 2) (m' := 34359738367) rfl rfl (by kernel_rfl) (by kernel_rfl) ?_
        go_wp2_with (first | (go_at_call 27; refine (WindowOk_s' (h.ext (hx2.trans (by repeat first | exact Ext.refl _ | assumption | refine Ext.drew ?_ | refine Ext.alloc ?_ _ | refine Ext.setCell ?_ (by simp) | refine Ext.setCell ?_ (by simp; omega) | refine Ext.trans ?_ (by assumption))))).mono ?_; rw [hwo]; rintro e w4 ⟨rfl, hb4⟩) | (go_at_call 28; refine (l01In_c _ _ _ _).mono ?_; rw [hwi]; rintro e w5 ⟨rfl, rfl⟩) | (go_at_call 29; refine (IsBetween_s ax ay bx by' px py _).mono ?_; rw [hB]; rintro e w6 ⟨rfl, hb6⟩))
        refine rx_on (by repeat first | exact Ext.refl _ | assumption | refine Ext.drew ?_ | refine Ext.alloc ?_ _ | refine Ext.setCell ?_ (by simp) | refine Ext.setCell ?_ (by simp; omega) | refine Ext.trans ?_ (by assumption)) ?_
        refine rx_run (run := [35, 36]) (k := 0) (m' := 137438953471) rfl (by kernel_rfl) (by kernel_rfl) (by kernel_rfl) (fm_cons rfl <| fm_cons rfl <| List.filterMap_nil) (by repeat first | exact Ext.refl _ | assumption | refine Ext.drew ?_ | refine Ext.alloc ?_ _ | refine Ext.setCell ?_ (by simp) | refine Ext.setCell ?_ (by simp; omega) | refine Ext.trans ?_ (by assumption)) ?_
        repeat (go_big_quiet_step ((fail)))
        refine wpQuiet_nil ?_
        refine rx_end (by kernel_rfl) ?_
        have hxq : Ext w2 w6 := (by repeat first | exact Ext.refl _ | assumption | refine Ext.drew ?_ | refine Ext.alloc ?_ _ | refine Ext.setCell ?_ (by simp) | refine Ext.setCell ?_ (by simp; omega) | refine Ext.trans ?_ (by assumption))
        have hx0q := hx02.trans hxq
        have r0 := hx0q.lit r0
        have r1 := hx0q.lit r1
        have f0 := hx0q.frz (by rw [HS0.out]; omega) f0
        have f1 := hx0q.frz (by rw [HS0.out]; omega) f1
        have s0 : w6.cell? ⟨gs, 0, none⟩ = some (.slice A1 ns.length c1) := (HBT.out.ext hxq).cell 0
        have s1 : w6.cell? ⟨gs, 1, none⟩ = some (.slice A2 ls.length c2) := (HBT.out.ext hxq).cell 1
        have o1 := o1.ext hxq
        have o2 := o2.ext hxq
        go_wp2
        (try simp only [Exit.inBlock, Exit.then])
        refine bodyPost_ret (by simp [results, Try.results9, go_sem, r0, r1]; try rfl) rfl ?_
        exact ⟨_, _, ret_wb (by rw [HV.out, if_neg (by rw [HNO.out]; decide)]), by rw [HV.out, if_neg (by rw [HNO.out]; decide)]; exact (o1.gb2 (gb_set (gb_set (gb_refl _ (some b2)) 0 _) 1 _) (by rw [HS0.out]; omega)).more hx.size, by rw [HV.out, if_neg (by rw [HNO.out]; decide)]; exact (o2.gb2 (gb_set (gb_set (gb_refl _ (some b2)) 0 _) 1 _) (by rw [HS0.out]; omega)).more hx.size, Ext.setCell (p := ⟨b2, 1, none⟩) (Ext.setCell (p := ⟨b2, 0, none⟩) (hx.trans hx0q) (by show w.heap.size ≤ b2; omega)) (by show w.heap.size ≤ b2; omega)⟩
    · have hwi := eq_false_of_ne_true hwi
      have HNO : Hid (spOk ns ls k (px, py) = false) := Lib.hid (by rw [HSP.out]; unfold hsLd; rw [hwo, hwi]; rfl)
      go_enter Try.func9, Try.ntmps9
      go_upto_region 1 with fail
      have k0 : (((w.alloc (.cells #[.slice A ns.length c, .slice B ls.length d] 32)).alloc (.cells #[.int .i64 px, .int .i64 py] 36)).alloc (.cells #[.slice none 0 0, .slice none 0 0] 32)).cell? ⟨w.heap.size, 0, none⟩ = some (.slice A ns.length c) := by go_simp
      have k1 : (((w.alloc (.cells #[.slice A ns.length c, .slice B ls.length d] 32)).alloc (.cells #[.int .i64 px, .int .i64 py] 36)).alloc (.cells #[.slice none 0 0, .slice none 0 0] 32)).cell? ⟨w.heap.size, 1, none⟩ = some (.slice B ls.length d) := by go_simp
      have n0 : (((w.alloc (.cells #[.slice A ns.length c, .slice B ls.length d] 32)).alloc (.cells #[.int .i64 px, .int .i64 py] 36)).alloc (.cells #[.slice none 0 0, .slice none 0 0] 32)).cell? ⟨w.heap.size + 1, 0, none⟩ = some (.int .i64 px) := by go_simp
      have n1 : (((w.alloc (.cells #[.slice A ns.length c, .slice B ls.length d] 32)).alloc (.cells #[.int .i64 px, .int .i64 py] 36)).alloc (.cells #[.slice none 0 0, .slice none 0 0] 32)).cell? ⟨w.heap.size + 1, 1, none⟩ = some (.int .i64 py) := by go_simp
      have r0 : (((w.alloc (.cells #[.slice A ns.length c, .slice B ls.length d] 32)).alloc (.cells #[.int .i64 px, .int .i64 py] 36)).alloc (.cells #[.slice none 0 0, .slice none 0 0] 32)).cell? ⟨w.heap.size + 1 + 1, 0, none⟩ = some (.slice none 0 0) := by go_simp
      have r1 : (((w.alloc (.cells #[.slice A ns.length c, .slice B ls.length d] 32)).alloc (.cells #[.int .i64 px, .int .i64 py] 36)).alloc (.cells #[.slice none 0 0, .slice none 0 0] 32)).cell? ⟨w.heap.size + 1 + 1, 1, none⟩ = some (.slice none 0 0) := by go_simp
      have f0 : (((w.alloc (.cells #[.slice A ns.length c, .slice B ls.length d] 32)).alloc (.cells #[.int .i64 px, .int .i64 py] 36)).alloc (.cells #[.slice none 0 0, .slice none 0 0] 32)).frozen? ⟨w.heap.size + 1 + 1, 0, none⟩ = false := by go_simp
      have f1 : (((w.alloc (.cells #[.slice A ns.length c, .slice B ls.length d] 32)).alloc (.cells #[.int .i64 px, .int .i64 py] 36)).alloc (.cells #[.slice none 0 0, .slice none 0 0] 32)).frozen? ⟨w.heap.size + 1 + 1, 1, none⟩ = false := by go_simp
      have hx : Ext w (((w.alloc (.cells #[.slice A ns.length c, .slice B ls.length d] 32)).alloc (.cells #[.int .i64 px, .int .i64 py] 36)).alloc (.cells #[.slice none 0 0, .slice none 0 0] 32)) := (((Ext.refl _).alloc _).alloc _).alloc _
      have hs0 : (((w.alloc (.cells #[.slice A ns.length c, .slice B ls.length d] 32)).alloc (.cells #[.int .i64 px, .int .i64 py] 36)).alloc (.cells #[.slice none 0 0, .slice none 0 0] 32)).heap.size = w.heap.size + 1 + 1 + 1 := by simp
      generalize (((w.alloc (.cells #[.slice A ns.length c, .slice B ls.length d] 32)).alloc (.cells #[.int .i64 px, .int .i64 py] 36)).alloc (.cells #[.slice none 0 0, .slice none 0 0] 32)) = w0 at *
      generalize hb1 : w.heap.size + 1 = b1 at *
      generalize hb2 : b1 + 1 = b2 at *
      have HS0 := Lib.hid hs0
      clear hs0
      go_wp2_with fail
      refine (copy_s_l04Copy _ _ _ _ ns ls _ (h.ext hx)).mono ?_
      rintro e w1 ⟨v1, v2, rfl, oa1, oa2, -, hb⟩
      have hbb1 := fun q hq => (oa1.blk q hq).2
      have hbb2 := fun q hq => (oa2.blk q hq).2
      obtain ⟨A1, c1, rfl, -, -, -⟩ := oa1.shape
      obtain ⟨A2, c2, rfl, -, -, -⟩ := oa2.shape
      have hs01 := hb.size
      go_upto_region 2 with fail
      have bt : Bk (w1.alloc (.cells #[.slice A1 ns.length c1, .slice A2 ls.length c2] 32)) w1.heap.size 32 [.slice A1 ns.length c1, .slice A2 ls.length c2] := Bk.new _ _ rfl
      have hx12 : Ext w1 (w1.alloc (.cells #[.slice A1 ns.length c1, .slice A2 ls.length c2] 32)) := (Ext.refl _).alloc _
      generalize (w1.alloc (.cells #[.slice A1 ns.length c1, .slice A2 ls.length c2] 32)) = w2 at *
      generalize hgs : w1.heap.size = gs at *
      have o1 := oa1.ext hx12
      have o2 := oa2.ext hx12
      have hx02 := hb.trans hx12
      have HBT := Lib.hid bt
      have HB1 := Lib.hid hbb1
      have HB2 := Lib.hid hbb2
      clear oa1 oa2 hb bt hx12 hbb1 hbb2
      have d0 := cell_regrown (hx02.lit k0)
      have d1 := cell_regrown (hx02.lit k1)
      have d2 := cell_regrown (hx02.lit n0)
      have d3 := cell_regrown (hx02.lit n1)
      have hx2 := hx.trans hx02
      go_wp2_with fail
      refine rx_open [(true, 0, some 12, 8), (false, 1, some 13, 4096), (true, 2, some 14, 8192), (true, 6, some 15, 16384), (true, 8, some 16, 32770), (true, 8, some 17, 32776), (true, 40, some 18, 163840), (true, 72, some 19, 294912), (true, 136, some 20, 557056), (false, 280, some 21, 1146880), (true, 520, some 22, 2129920), (true, 1032, some 23, 4227072), (true, 2560, some 24, 8388608), (true, 4096, some 25, 16777224), (true, 12288, some 26, 50331648), (true, 4096, some 27, 16777224), (true, 36864, some 28, 150994944), (true, 4096, some 29, 16777218), (true, 200704, some 30, 822083584), (true, 266240, some 31, 1090519040), (true, 528384, some 32, 2164260864), (true, 1069056, some 33, 4378853376), (true, 2101248, some 34, 8606711808), (true, 4096, some 35, 16777224), (true, 8392704, some 36, 34376515584), (true, 4096, some 37, 16777224), (true, 33558528, some 38, 137455730688), (true, 4096, some 39, 16777218), (true, 201330688, some 40, 824650498048), (true, 268439552, some 41, 1099528404992), (true, 536875008, some 42, 2199040032768), (true, 1090523136, some 43, 4466782765056), (true, 2147487744, some 44, 8796109799424), (true, 4096, some 45, 16777248), (false, 12889100288, some 46, 52793754779648), (true, 17179873280, some 47, 70368760954880), (true, 34359742464, some 48, 140737505132544)] 0 37 mixd rfl (by kernel_rfl) (by kernel_rfl) (by kernel_rfl) ?_
      refine rx_run (run := [0]) (k := 36) (m' := 1) rfl (by kernel_rfl) (by kernel_rfl) (by kernel_rfl) (fm_cons rfl <| List.filterMap_nil) (by repeat first | exact Ext.refl _ | assumption | refine Ext.drew ?_ | refine Ext.alloc ?_ _ | refine Ext.setCell ?_ (by simp) | refine Ext.setCell ?_ (by simp; omega) | refine Ext.trans ?_ (by assumption)) ?_
      repeat (go_big_quiet_step ((fail)))
      refine wpQuiet_nil ?_
      refine rx_op 1 (k := 35) (m' := 3) rfl rfl (by kernel_rfl) (by kernel_rfl) ?_
      go_wp2_with (first | (go_at_call 27; refine (WindowOk_s' (h.ext (hx2.trans (by repeat first | exact Ext.refl _ | assumption | refine Ext.drew ?_ | refine Ext.alloc ?_ _ | refine Ext.setCell ?_ (by simp) | refine Ext.setCell ?_ (by simp; omega) | refine Ext.trans ?_ (by assumption))))).mono ?_; rw [hwo]; rintro e w6 ⟨rfl, hb4⟩) | (go_at_call 28; refine (l01In_c _ _ _ _).mono ?_; rw [hwi]; rintro e w5 ⟨rfl, rfl⟩))
      refine rx_on (by repeat first | exact Ext.refl _ | assumption | refine Ext.drew ?_ | refine Ext.alloc ?_ _ | refine Ext.setCell ?_ (by simp) | refine Ext.setCell ?_ (by simp; omega) | refine Ext.trans ?_ (by assumption)) ?_
      refine rx_run (run := [2, 3, 4, 5, 6, 7, 8]) (k := 28) (m' := 511) rfl (by kernel_rfl) (by kernel_rfl) (by kernel_rfl) (fm_cons rfl <| fm_cons rfl <| fm_cons rfl <| fm_cons rfl <| fm_cons rfl <| fm_cons rfl <| fm_cons rfl <| List.filterMap_nil) (by repeat first | exact Ext.refl _ | assumption | refine Ext.drew ?_ | refine Ext.alloc ?_ _ | refine Ext.setCell ?_ (by simp) | refine Ext.setCell ?_ (by simp; omega) | refine Ext.trans ?_ (by assumption)) ?_
      repeat (go_big_quiet_step ((fail)))
      refine wpQuiet_nil ?_
      refine rx_op 9 (k := 27) (m' := 1023) rfl rfl (by kernel_rfl) (by kernel_rfl) ?_
      go_wp2_with (first | (go_at_call 27; refine (WindowOk_s' (h.ext (hx2.trans (by repeat first | exact Ext.refl _ | assumption | refine Ext.drew ?_ | refine Ext.alloc ?_ _ | refine Ext.setCell ?_ (by simp) | refine Ext.setCell ?_ (by simp; omega) | refine Ext.trans ?_ (by assumption))))).mono ?_; rw [hwo]; rintro e w6 ⟨rfl, hb4⟩) | (go_at_call 28; refine (l01In_c _ _ _ _).mono ?_; rw [hwi]; rintro e w5 ⟨rfl, rfl⟩))
      refine rx_on (by repeat first | exact Ext.refl _ | assumption | refine Ext.drew ?_ | refine Ext.alloc ?_ _ | refine Ext.setCell ?_ (by simp) | refine Ext.setCell ?_ (by simp; omega) | refine Ext.trans ?_ (by assumption)) ?_
      refine rx_run (run := [10, 11, 12, 13, 14, 15, 16, 17, 18, 19, 20, 21, 22, 23, 24, 25, 26, 27, 28, 29, 30, 31, 32, 33]) (k := 3) (m' := 17179869183) rfl (by kernel_rfl) (by kernel_rfl) (by kernel_rfl) (fm_cons rfl <| fm_cons rfl <| fm_cons rfl <| fm_cons rfl <| fm_cons rfl <| fm_cons rfl <| fm_cons rfl <| fm_cons rfl <| fm_cons rfl <| fm_cons rfl <| fm_cons rfl <| fm_cons rfl <| fm_cons rfl <| fm_cons rfl <| fm_cons rfl <| fm_cons rfl <| fm_cons rfl <| fm_cons rfl <| fm_cons rfl <| fm_cons rfl <| fm_cons rfl <| fm_cons rfl <| fm_cons rfl <| fm_cons rfl <| List.filterMap_nil) (by repeat first | exact Ext.refl _ | assumption | refine Ext.drew ?_ | refine Ext.alloc ?_ _ | refine Ext.setCell ?_ (by simp) | refine Ext.setCell ?_ (by simp; omega) | refine Ext.trans ?_ (by assumption)) ?_
      repeat (go_big_quiet_step ((fail)))
      refine wpQuiet_nil ?_
      refine rx_op 34 (k := 2) (m' := 34359738367) rfl rfl (by kernel_rfl) (by kernel_rfl) ?_
      go_wp2_with (first | (go_at_call 27; refine (WindowOk_s' (h.ext (hx2.trans (by repeat first | exact Ext.refl _ | assumption | refine Ext.drew ?_ | refine Ext.alloc ?_ _ | refine Ext.setCell ?_ (by simp) | refine Ext.setCell ?_ (by simp; omega) | refine Ext.trans ?_ (by assumption))))).mono ?_; rw [hwo]; rintro e w6 ⟨rfl, hb4⟩) | (go_at_call 28; refine (l01In_c _ _ _ _).mono ?_; rw [hwi]; rintro e w5 ⟨rfl, rfl⟩))
      refine rx_on (by repeat first | exact Ext.refl _ | assumption | refine Ext.drew ?_ | refine Ext.alloc ?_ _ | refine Ext.setCell ?_ (by simp) | refine Ext.setCell ?_ (by simp; omega) | refine Ext.trans ?_ (by assumption)) ?_
      refine rx_run (run := [35, 36]) (k := 0) (m' := 137438953471) rfl (by kernel_rfl) (by kernel_rfl) (by kernel_rfl) (fm_cons rfl <| fm_cons rfl <| List.filterMap_nil) (by repeat first | exact Ext.refl _ | assumption | refine Ext.drew ?_ | refine Ext.alloc ?_ _ | refine Ext.setCell ?_ (by simp) | refine Ext.setCell ?_ (by simp; omega) | refine Ext.trans ?_ (by assumption)) ?_
      repeat (go_big_quiet_step ((fail)))
      refine wpQuiet_nil ?_
      refine rx_end (by kernel_rfl) ?_
      have hxq : Ext w2 w6 := (by repeat first | exact Ext.refl _ | assumption | refine Ext.drew ?_ | refine Ext.alloc ?_ _ | refine Ext.setCell ?_ (by simp) | refine Ext.setCell ?_ (by simp; omega) | refine Ext.trans ?_ (by assumption))
      have hx0q := hx02.trans hxq
      have r0 := hx0q.lit r0
      have r1 := hx0q.lit r1
      have f0 := hx0q.frz (by rw [HS0.out]; omega) f0
      have f1 := hx0q.frz (by rw [HS0.out]; omega) f1
      have s0 : w6.cell? ⟨gs, 0, none⟩ = some (.slice A1 ns.length c1) := (HBT.out.ext hxq).cell 0
      have s1 : w6.cell? ⟨gs, 1, none⟩ = some (.slice A2 ls.length c2) := (HBT.out.ext hxq).cell 1
      have o1 := o1.ext hxq
      have o2 := o2.ext hxq
      go_wp2
      (try simp only [Exit.inBlock, Exit.then])
      refine bodyPost_ret (by simp [results, Try.results9, go_sem, r0, r1]; try rfl) rfl ?_
      exact ⟨_, _, ret_wb (by rw [HV.out, if_neg (by rw [HNO.out]; decide)]), by rw [HV.out, if_neg (by rw [HNO.out]; decide)]; exact (o1.gb2 (gb_set (gb_set (gb_refl _ (some b2)) 0 _) 1 _) (by rw [HS0.out]; omega)).more hx.size, by rw [HV.out, if_neg (by rw [HNO.out]; decide)]; exact (o2.gb2 (gb_set (gb_set (gb_refl _ (some b2)) 0 _) 1 _) (by rw [HS0.out]; omega)).more hx.size, Ext.setCell (p := ⟨b2, 1, none⟩) (Ext.setCell (p := ⟨b2, 0, none⟩) (hx.trans hx0q) (by show w.heap.size ≤ b2; omega)) (by show w.heap.size ≤ b2; omega)⟩
  · have hwo := eq_false_of_ne_true hwo
    have HNO : Hid (spOk ns ls k (px, py) = false) := Lib.hid (by rw [HSP.out]; unfold hsLd; rw [hwo]; rfl)
    go_enter Try.func9, Try.ntmps9
    go_upto_region 1 with fail
    have k0 : (((w.alloc (.cells #[.slice A ns.length c, .slice B ls.length d] 32)).alloc (.cells #[.int .i64 px, .int .i64 py] 36)).alloc (.cells #[.slice none 0 0, .slice none 0 0] 32)).cell? ⟨w.heap.size, 0, none⟩ = some (.slice A ns.length c) := by go_simp
    have k1 : (((w.alloc (.cells #[.slice A ns.length c, .slice B ls.length d] 32)).alloc (.cells #[.int .i64 px, .int .i64 py] 36)).alloc (.cells #[.slice none 0 0, .slice none 0 0] 32)).cell? ⟨w.heap.size, 1, none⟩ = some (.slice B ls.length d) := by go_simp
    have n0 : (((w.alloc (.cells #[.slice A ns.length c, .slice B ls.length d] 32)).alloc (.cells #[.int .i64 px, .int .i64 py] 36)).alloc (.cells #[.slice none 0 0, .slice none 0 0] 32)).cell? ⟨w.heap.size + 1, 0, none⟩ = some (.int .i64 px) := by go_simp
    have n1 : (((w.alloc (.cells #[.slice A ns.length c, .slice B ls.length d] 32)).alloc (.cells #[.int .i64 px, .int .i64 py] 36)).alloc (.cells #[.slice none 0 0, .slice none 0 0] 32)).cell? ⟨w.heap.size + 1, 1, none⟩ = some (.int .i64 py) := by go_simp
    have r0 : (((w.alloc (.cells #[.slice A ns.length c, .slice B ls.length d] 32)).alloc (.cells #[.int .i64 px, .int .i64 py] 36)).alloc (.cells #[.slice none 0 0, .slice none 0 0] 32)).cell? ⟨w.heap.size + 1 + 1, 0, none⟩ = some (.slice none 0 0) := by go_simp
    have r1 : (((w.alloc (.cells #[.slice A ns.length c, .slice B ls.length d] 32)).alloc (.cells #[.int .i64 px, .int .i64 py] 36)).alloc (.cells #[.slice none 0 0, .slice none 0 0] 32)).cell? ⟨w.heap.size + 1 + 1, 1, none⟩ = some (.slice none 0 0) := by go_simp
    have f0 : (((w.alloc (.cells #[.slice A ns.length c, .slice B ls.length d] 32)).alloc (.cells #[.int .i64 px, .int .i64 py] 36)).alloc (.cells #[.slice none 0 0, .slice none 0 0] 32)).frozen? ⟨w.heap.size + 1 + 1, 0, none⟩ = false := by go_simp
    have f1 : (((w.alloc (.cells #[.slice A ns.length c, .slice B ls.length d] 32)).alloc (.cells #[.int .i64 px, .int .i64 py] 36)).alloc (.cells #[.slice none 0 0, .slice none 0 0] 32)).frozen? ⟨w.heap.size + 1 + 1, 1, none⟩ = false := by go_simp
    have hx : Ext w (((w.alloc (.cells #[.slice A ns.length c, .slice B ls.length d] 32)).alloc (.cells #[.int .i64 px, .int .i64 py] 36)).alloc (.cells #[.slice none 0 0, .slice none 0 0] 32)) := (((Ext.refl _).alloc _).alloc _).alloc _
    have hs0 : (((w.alloc (.cells #[.slice A ns.length c, .slice B ls.length d] 32)).alloc (.cells #[.int .i64 px, .int .i64 py] 36)).alloc (.cells #[.slice none 0 0, .slice none 0 0] 32)).heap.size = w.heap.size + 1 + 1 + 1 := by simp
    generalize (((w.alloc (.cells #[.slice A ns.length c, .slice B ls.length d] 32)).alloc (.cells #[.int .i64 px, .int .i64 py] 36)).alloc (.cells #[.slice none 0 0, .slice none 0 0] 32)) = w0 at *
    generalize hb1 : w.heap.size + 1 = b1 at *
    generalize hb2 : b1 + 1 = b2 at *
    have HS0 := Lib.hid hs0
    clear hs0
    go_wp2_with fail
    refine (copy_s_l04Copy _ _ _ _ ns ls _ (h.ext hx)).mono ?_
    rintro e w1 ⟨v1, v2, rfl, oa1, oa2, -, hb⟩
    have hbb1 := fun q hq => (oa1.blk q hq).2
    have hbb2 := fun q hq => (oa2.blk q hq).2
    obtain ⟨A1, c1, rfl, -, -, -⟩ := oa1.shape
    obtain ⟨A2, c2, rfl, -, -, -⟩ := oa2.shape
    have hs01 := hb.size
    go_upto_region 2 with fail
    have bt : Bk (w1.alloc (.cells #[.slice A1 ns.length c1, .slice A2 ls.length c2] 32)) w1.heap.size 32 [.slice A1 ns.length c1, .slice A2 ls.length c2] := Bk.new _ _ rfl
    have hx12 : Ext w1 (w1.alloc (.cells #[.slice A1 ns.length c1, .slice A2 ls.length c2] 32)) := (Ext.refl _).alloc _
    generalize (w1.alloc (.cells #[.slice A1 ns.length c1, .slice A2 ls.length c2] 32)) = w2 at *
    generalize hgs : w1.heap.size = gs at *
    have o1 := oa1.ext hx12
    have o2 := oa2.ext hx12
    have hx02 := hb.trans hx12
    have HBT := Lib.hid bt
    have HB1 := Lib.hid hbb1
    have HB2 := Lib.hid hbb2
    clear oa1 oa2 hb bt hx12 hbb1 hbb2
    have d0 := cell_regrown (hx02.lit k0)
    have d1 := cell_regrown (hx02.lit k1)
    have d2 := cell_regrown (hx02.lit n0)
    have d3 := cell_regrown (hx02.lit n1)
    have hx2 := hx.trans hx02
    go_wp2_with fail
    refine rx_open [(true, 0, some 12, 8), (false, 1, some 13, 4096), (true, 2, some 14, 8192), (true, 6, some 15, 16384), (true, 8, some 16, 32770), (true, 8, some 17, 32776), (true, 40, some 18, 163840), (true, 72, some 19, 294912), (true, 136, some 20, 557056), (false, 280, some 21, 1146880), (true, 520, some 22, 2129920), (true, 1032, some 23, 4227072), (true, 2560, some 24, 8388608), (true, 4096, some 25, 16777224), (true, 12288, some 26, 50331648), (true, 4096, some 27, 16777224), (true, 36864, some 28, 150994944), (true, 4096, some 29, 16777218), (true, 200704, some 30, 822083584), (true, 266240, some 31, 1090519040), (true, 528384, some 32, 2164260864), (true, 1069056, some 33, 4378853376), (true, 2101248, some 34, 8606711808), (true, 4096, some 35, 16777224), (true, 8392704, some 36, 34376515584), (true, 4096, some 37, 16777224), (true, 33558528, some 38, 137455730688), (true, 4096, some 39, 16777218), (true, 201330688, some 40, 824650498048), (true, 268439552, some 41, 1099528404992), (true, 536875008, some 42, 2199040032768), (true, 1090523136, some 43, 4466782765056), (true, 2147487744, some 44, 8796109799424), (true, 4096, some 45, 16777248), (false, 12889100288, some 46, 52793754779648), (true, 17179873280, some 47, 70368760954880), (true, 34359742464, some 48, 140737505132544)] 0 37 mixd rfl (by kernel_rfl) (by kernel_rfl) (by kernel_rfl) ?_
    refine rx_run (run := [0]) (k := 36) (m' := 1) rfl (by kernel_rfl) (by kernel_rfl) (by kernel_rfl) (fm_cons rfl <| List.filterMap_nil) (by repeat first | exact Ext.refl _ | assumption | refine Ext.drew ?_ | refine Ext.alloc ?_ _ | refine Ext.setCell ?_ (by simp) | refine Ext.setCell ?_ (by simp; omega) | refine Ext.trans ?_ (by assumption)) ?_
    repeat (go_big_quiet_step ((fail)))
    refine wpQuiet_nil ?_
    refine rx_op 1 (k := 35) (m' := 3) rfl rfl (by kernel_rfl) (by kernel_rfl) ?_
    go_wp2_with ((go_at_call 27; refine (WindowOk_s' (h.ext (hx2.trans (by repeat first | exact Ext.refl _ | assumption | refine Ext.drew ?_ | refine Ext.alloc ?_ _ | refine Ext.setCell ?_ (by simp) | refine Ext.setCell ?_ (by simp; omega) | refine Ext.trans ?_ (by assumption))))).mono ?_; rw [hwo]; rintro e w6 ⟨rfl, hb4⟩))
    refine rx_on (by repeat first | exact Ext.refl _ | assumption | refine Ext.drew ?_ | refine Ext.alloc ?_ _ | refine Ext.setCell ?_ (by simp) | refine Ext.setCell ?_ (by simp; omega) | refine Ext.trans ?_ (by assumption)) ?_
    refine rx_run (run := [2, 3, 4, 5, 6, 7, 8]) (k := 28) (m' := 511) rfl (by kernel_rfl) (by kernel_rfl) (by kernel_rfl) (fm_cons rfl <| fm_cons rfl <| fm_cons rfl <| fm_cons rfl <| fm_cons rfl <| fm_cons rfl <| fm_cons rfl <| List.filterMap_nil) (by repeat first | exact Ext.refl _ | assumption | refine Ext.drew ?_ | refine Ext.alloc ?_ _ | refine Ext.setCell ?_ (by simp) | refine Ext.setCell ?_ (by simp; omega) | refine Ext.trans ?_ (by assumption)) ?_
    repeat (go_big_quiet_step ((fail)))
    refine wpQuiet_nil ?_
    refine rx_op 9 (k := 27) (m' := 1023) rfl rfl (by kernel_rfl) (by kernel_rfl) ?_
    go_wp2_with ((go_at_call 27; refine (WindowOk_s' (h.ext (hx2.trans (by repeat first | exact Ext.refl _ | assumption | refine Ext.drew ?_ | refine Ext.alloc ?_ _ | refine Ext.setCell ?_ (by simp) | refine Ext.setCell ?_ (by simp; omega) | refine Ext.trans ?_ (by assumption))))).mono ?_; rw [hwo]; rintro e w6 ⟨rfl, hb4⟩))
    refine rx_on (by repeat first | exact Ext.refl _ | assumption | refine Ext.drew ?_ | refine Ext.alloc ?_ _ | refine Ext.setCell ?_ (by simp) | refine Ext.setCell ?_ (by simp; omega) | refine Ext.trans ?_ (by assumption)) ?_
    refine rx_run (run := [10, 11, 12, 13, 14, 15, 16, 17, 18, 19, 20, 21, 22, 23, 24, 25, 26, 27, 28, 29, 30, 31, 32, 33]) (k := 3) (m' := 17179869183) rfl (by kernel_rfl) (by kernel_rfl) (by kernel_rfl) (fm_cons rfl <| fm_cons rfl <| fm_cons rfl <| fm_cons rfl <| fm_cons rfl <| fm_cons rfl <| fm_cons rfl <| fm_cons rfl <| fm_cons rfl <| fm_cons rfl <| fm_cons rfl <| fm_cons rfl <| fm_cons rfl <| fm_cons rfl <| fm_cons rfl <| fm_cons rfl <| fm_cons rfl <| fm_cons rfl <| fm_cons rfl <| fm_cons rfl <| fm_cons rfl <| fm_cons rfl <| fm_cons rfl <| fm_cons rfl <| List.filterMap_nil) (by repeat first | exact Ext.refl _ | assumption | refine Ext.drew ?_ | refine Ext.alloc ?_ _ | refine Ext.setCell ?_ (by simp) | refine Ext.setCell ?_ (by simp; omega) | refine Ext.trans ?_ (by assumption)) ?_
    repeat (go_big_quiet_step ((fail)))
    refine wpQuiet_nil ?_
    refine rx_op 34 (k := 2) (m' := 34359738367) rfl rfl (by kernel_rfl) (by kernel_rfl) ?_
    go_wp2_with ((go_at_call 27; refine (WindowOk_s' (h.ext (hx2.trans (by repeat first | exact Ext.refl _ | assumption | refine Ext.drew ?_ | refine Ext.alloc ?_ _ | refine Ext.setCell ?_ (by simp) | refine Ext.setCell ?_ (by simp; omega) | refine Ext.trans ?_ (by assumption))))).mono ?_; rw [hwo]; rintro e w6 ⟨rfl, hb4⟩))
    refine rx_on (by repeat first | exact Ext.refl _ | assumption | refine Ext.drew ?_ | refine Ext.alloc ?_ _ | refine Ext.setCell ?_ (by simp) | refine Ext.setCell ?_ (by simp; omega) | refine Ext.trans ?_ (by assumption)) ?_
    refine rx_run (run := [35, 36]) (k := 0) (m' := 137438953471) rfl (by kernel_rfl) (by kernel_rfl) (by kernel_rfl) (fm_cons rfl <| fm_cons rfl <| List.filterMap_nil) (by repeat first | exact Ext.refl _ | assumption | refine Ext.drew ?_ | refine Ext.alloc ?_ _ | refine Ext.setCell ?_ (by simp) | refine Ext.setCell ?_ (by simp; omega) | refine Ext.trans ?_ (by assumption)) ?_
    repeat (go_big_quiet_step ((fail)))
    refine wpQuiet_nil ?_
    refine rx_end (by kernel_rfl) ?_
    have hxq : Ext w2 w6 := (by repeat first | exact Ext.refl _ | assumption | refine Ext.drew ?_ | refine Ext.alloc ?_ _ | refine Ext.setCell ?_ (by simp) | refine Ext.setCell ?_ (by simp; omega) | refine Ext.trans ?_ (by assumption))
    have hx0q := hx02.trans hxq
    have r0 := hx0q.lit r0
    have r1 := hx0q.lit r1
    have f0 := hx0q.frz (by rw [HS0.out]; omega) f0
    have f1 := hx0q.frz (by rw [HS0.out]; omega) f1
    have s0 : w6.cell? ⟨gs, 0, none⟩ = some (.slice A1 ns.length c1) := (HBT.out.ext hxq).cell 0
    have s1 : w6.cell? ⟨gs, 1, none⟩ = some (.slice A2 ls.length c2) := (HBT.out.ext hxq).cell 1
    have o1 := o1.ext hxq
    have o2 := o2.ext hxq
    go_wp2
    (try simp only [Exit.inBlock, Exit.then])
    refine bodyPost_ret (by simp [results, Try.results9, go_sem, r0, r1]; try rfl) rfl ?_
    exact ⟨_, _, ret_wb (by rw [HV.out, if_neg (by rw [HNO.out]; decide)]), by rw [HV.out, if_neg (by rw [HNO.out]; decide)]; exact (o1.gb2 (gb_set (gb_set (gb_refl _ (some b2)) 0 _) 1 _) (by rw [HS0.out]; omega)).more hx.size, by rw [HV.out, if_neg (by rw [HNO.out]; decide)]; exact (o2.gb2 (gb_set (gb_set (gb_refl _ (some b2)) 0 _) 1 _) (by rw [HS0.out]; omega)).more hx.size, Ext.setCell (p := ⟨b2, 1, none⟩) (Ext.setCell (p := ⟨b2, 0, none⟩) (hx.trans hx0q) (by show w.heap.size ≤ b2; omega)) (by show w.heap.size ≤ b2; omega)⟩
end Go.Proofs.Ytfhemddonahjgaa
