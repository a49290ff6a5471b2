import Derived.Test.YtfhemddonahjgaaV1
namespace Go.Proofs.Ytfhemddonahjgaa
open Go.RowKit Go.Sort Go.BigFrame

set_option maxRecDepth 100000 in
set_option maxHeartbeats 8000000 in
theorem SplitLead_i (A B : Option Addr) (c d : Nat) (ns ls : List P2) (k px py : Int) (w : World) (h : Wn w A c B d ns ls) :
    Calls Try.prog 12 #[.agg #[.slice A ns.length c, .slice B ls.length d], .int .i64 k, .agg #[.int .i64 px, .int .i64 py]] w fun e w' => ∃ v1 v2, e = .returned (.tuple #[.agg #[v1, v2], .bool (vSplitLead ns ls k (px, py)).2]) ∧ OwP w' w.heap.size 36 v1 (vSplitLead ns ls k (px, py)).1.1 ∧ OwP w' w.heap.size 52 v2 (vSplitLead ns ls k (px, py)).1.2 ∧ Ext w w' := by
  have HV : Hid (vSplitLead ns ls k (px, py) = if spOk ns ls k (px, py) = true then ((ns ++ [(px, py)], spLs ns ls k.toNat), true) else ((ns, ls), false)) := Lib.hid rfl
  have HSP : Hid (spOk ns ls k (px, py) = (hsLd ns ls k && (btw (gp ns (gp ls k).1) (gp ns (gp ls k).2) (px, py) && wok (ns ++ [(px, py)]) (spLs ns ls k.toNat)))) := Lib.hid rfl
  by_cases hL : hsLd ns ls k = true
  · obtain ⟨hwo, hwi⟩ : wok ns ls = true ∧ wi k 0 (ls.length - 1) = true := by simpa [hsLd] using hL
    obtain ⟨q1, q2⟩ := wi_iffV.1 hwi
    obtain ⟨kk, rfl⟩ := Int.eq_ofNat_of_zero_le q1
    have hkl : kk < ls.length := by omega
    have hki : (kk : Int) < ls.length := by omega
    obtain ⟨a, b, eab, ha, hb⟩ := wok_lead hwo hkl
    have hai : (a : Int) < ns.length := by omega
    have hbi : (b : Int) < ns.length := by omega
    have hW := wok_iff.1 hwo
    have hn12 := hW.hi
    have hl20 := hW.le
    have HSP := Lib.hid HSP.out
    rw [hL, eab, Int.toNat_natCast, Bool.true_and] at HSP
    have HEB := Lib.hid eab
    clear hwo hwi q1 q2 hW
    obtain ⟨ax, ay, hga⟩ : ∃ x y, gp ns (a : Nat) = (x, y) := ⟨_, _, rfl⟩
    obtain ⟨bx, by', hgb⟩ : ∃ x y, gp ns (b : Nat) = (x, y) := ⟨_, _, rfl⟩
    rw [hga, hgb] at HSP
    have HGA := Lib.hid hga
    have HGB := Lib.hid hgb
    clear hga hgb eab
    by_cases hB : btw (ax, ay) (bx, by') (px, py) = true
    · skip
      go_enter Try.func12, Try.ntmps12
      go_wp2_with fail
      refine (copy_i_copyWindow _ _ _ _ ns ls _ (h.ext (by repeat first | exact Ext.refl _ | assumption | refine Ext.drew ?_ | refine Ext.alloc ?_ _ | refine Ext.setCell ?_ (by simp) | refine Ext.setCell ?_ (by simp; omega) | refine Ext.trans ?_ (by assumption)))).mono ?_
      rintro e w1 ⟨v1, v2, rfl, oa1, oa2, -, hb⟩
      have k0a := hb.lit (b := w.heap.size) (o := 0) (v := .slice A ns.length c) (by go_simp)
      have k1a := hb.lit (b := w.heap.size) (o := 1) (v := .slice B ls.length d) (by go_simp)
      have n0a := hb.lit (b := w.heap.size + 1) (o := 0) (v := .int .i64 px) (by go_simp)
      have n1a := hb.lit (b := w.heap.size + 1) (o := 1) (v := .int .i64 py) (by go_simp)
      have r0a := hb.lit (b := w.heap.size + 1 + 1) (o := 0) (v := .slice none 0 0) (by go_simp)
      have r1a := hb.lit (b := w.heap.size + 1 + 1) (o := 1) (v := .slice none 0 0) (by go_simp)
      have f0a := hb.froz (b := w.heap.size + 1 + 1) (o := 0) (by simp) (by go_simp)
      have f1a := hb.froz (b := w.heap.size + 1 + 1) (o := 1) (by simp) (by go_simp)
      have hxa : Ext w w1 := (by repeat first | exact Ext.refl _ | assumption | refine Ext.drew ?_ | refine Ext.alloc ?_ _ | refine Ext.setCell ?_ (by simp) | refine Ext.setCell ?_ (by simp; omega) | refine Ext.trans ?_ (by assumption))
      have hs1 : w.heap.size + 1 + 1 < w1.heap.size := by have := hb.size; simp at this; omega
      have ob1 := oa1.more (B' := w.heap.size + 1 + 1 + 1) (by simp)
      have ob2 := oa2.more (B' := w.heap.size + 1 + 1 + 1) (by simp)
      obtain ⟨A1, c1, rfl, hc1, hm1, hp1⟩ := ob1.shape
      obtain ⟨A2, c2, rfl, hc2, hm2, hp2⟩ := ob2.shape
      clear hb oa1 oa2
      generalize hb1 : w.heap.size + 1 = b1 at *
      generalize hb2 : b1 + 1 = b2 at *
      go_upto_region 2 with fail
      have s0 : (w1.alloc (.cells #[.slice A1 ns.length c1, .slice A2 ls.length c2] 32)).cell? ⟨w1.heap.size, 0, none⟩ = some (.slice A1 ns.length c1) := by go_simp
      have s1 : (w1.alloc (.cells #[.slice A1 ns.length c1, .slice A2 ls.length c2] 32)).cell? ⟨w1.heap.size, 1, none⟩ = some (.slice A2 ls.length c2) := by go_simp
      have hx2 : Ext w1 (w1.alloc (.cells #[.slice A1 ns.length c1, .slice A2 ls.length c2] 32)) := (Ext.refl _).alloc _
      have hs2 : (w1.alloc (.cells #[.slice A1 ns.length c1, .slice A2 ls.length c2] 32)).heap.size = w1.heap.size + 1 := by simp
      generalize (w1.alloc (.cells #[.slice A1 ns.length c1, .slice A2 ls.length c2] 32)) = w2 at *
      generalize hgs : w1.heap.size = gs at *
      have k0 := hx2.lit k0a
      have k1 := hx2.lit k1a
      have n0 := hx2.lit n0a
      have n1 := hx2.lit n1a
      have r0 := hx2.lit r0a
      have r1 := hx2.lit r1a
      have f0 := hx2.frz (by omega) f0a
      have f1 := hx2.frz (by omega) f1a
      have o1 := ob1.ext hx2
      have o2 := ob2.ext hx2
      have hx := hxa.trans hx2
      clear hx2 hp1 hp2 hxa ob1 ob2 k0a k1a n0a n1a r0a r1a f0a f1a
      have d0 := cell_regrown k0
      have d1 := cell_regrown k1
      have d2 := cell_regrown n0
      have d3 := cell_regrown n1
      obtain ⟨bL, oL, rfl, -, l0, l1⟩ := h.g.gp_ hkl
      obtain ⟨bN, oN, rfl, -, x0, x1⟩ := h.h.gp_ ha
      obtain ⟨bN', oN', e', -, y0, y1⟩ := h.h.gp_ hb
      obtain ⟨rfl, rfl⟩ : bN = bN' ∧ oN = oN' := by simpa using e'
      rw [HEB.out] at l0 l1
      rw [HGA.out] at x0 x1
      rw [HGB.out] at y0 y1
      clear e'
      have d4 := cell_regrown (hx.lit l0)
      have d5 := cell_regrown (hx.lit l1)
      have d6 := cell_regrown (hx.lit x0)
      have d7 := cell_regrown (hx.lit x1)
      have d8 := cell_regrown (hx.lit y0)
      have d9 := cell_regrown (hx.lit y1)
      go_wp2_with fail
      refine rx_open [(true, 0, some 13, 8), (true, 0, some 14, 2), (false, 3, some 15, 24576), (true, 4, some 16, 32768), (true, 12, some 17, 65536), (true, 16, some 18, 131080), (true, 48, some 19, 393216), (true, 16, some 20, 131080), (true, 144, some 21, 1179648), (true, 16, some 22, 131074), (true, 784, some 23, 6422528), (true, 1040, some 24, 8519680), (true, 2064, some 25, 16908288), (true, 4176, some 26, 34209792), (true, 8208, some 27, 67239936), (true, 16, some 28, 131080), (true, 32784, some 29, 268566528), (true, 16, some 30, 131080), (true, 131088, some 31, 1073872896), (true, 16, some 32, 131074), (true, 786448, some 33, 6442582016), (true, 1048592, some 34, 8590065664), (true, 2097168, some 35, 17180000256), (true, 4259856, some 36, 34896740352), (true, 8388624, some 37, 68719607808), (true, 16, some 38, 131104), (false, 50348048, some 39, 412451209216), (true, 67108880, some 40, 549755944960), (true, 134217744, some 41, 1099511758848)] 0 29 mixd rfl (by kernel_rfl) (by kernel_rfl) (by kernel_rfl) ?_
      refine rx_run (run := [0, 1]) (k := 27) (m' := 3) rfl (by kernel_rfl) (by kernel_rfl) (by kernel_rfl) (fm_cons rfl <| fm_cons rfl <| List.filterMap_nil) (by repeat first | exact Ext.refl _ | assumption | refine Ext.drew ?_ | refine Ext.alloc ?_ _ | refine Ext.setCell ?_ (by simp) | refine Ext.setCell ?_ (by simp; omega) | refine Ext.trans ?_ (by assumption)) ?_
      repeat (go_big_quiet_step ((fail)))
      refine wpQuiet_nil ?_
      refine rx_op 2 (k := 26) (m' := 7) rfl rfl (by kernel_rfl) (by kernel_rfl) ?_
      go_wp2_with (first | (go_at_call 33; refine (hasLead_c _ _ c d ns ls kk _ (h.ext (hx.trans (by repeat first | exact Ext.refl _ | assumption | refine Ext.drew ?_ | refine Ext.alloc ?_ _ | refine Ext.setCell ?_ (by simp) | refine Ext.setCell ?_ (by simp; omega) | refine Ext.trans ?_ (by assumption))))).mono ?_; rw [hL]; rintro e w5 ⟨rfl, hb5⟩) | (go_at_call 34; refine (IsBetween_i ax ay bx by' px py _).mono ?_; rw [hB]; rintro e w6 ⟨rfl, hb6⟩))
      refine rx_on (by repeat first | exact Ext.refl _ | assumption | refine Ext.drew ?_ | refine Ext.alloc ?_ _ | refine Ext.setCell ?_ (by simp) | refine Ext.setCell ?_ (by simp; omega) | refine Ext.trans ?_ (by assumption)) ?_
      refine rx_run (run := [3, 4, 5, 6, 7, 8, 9, 10, 11, 12, 13, 14, 15, 16, 17, 18, 19, 20, 21, 22, 23, 24, 25]) (k := 3) (m' := 67108863) rfl (by kernel_rfl) (by kernel_rfl) (by kernel_rfl) (fm_cons rfl <| fm_cons rfl <| fm_cons rfl <| fm_cons rfl <| fm_cons rfl <| fm_cons rfl <| fm_cons rfl <| fm_cons rfl <| fm_cons rfl <| fm_cons rfl <| fm_cons rfl <| fm_cons rfl <| fm_cons rfl <| fm_cons rfl <| fm_cons rfl <| fm_cons rfl <| fm_cons rfl <| fm_cons rfl <| fm_cons rfl <| fm_cons rfl <| fm_cons rfl <| fm_cons rfl <| fm_cons rfl <| List.filterMap_nil) (by repeat first | exact Ext.refl _ | assumption | refine Ext.drew ?_ | refine Ext.alloc ?_ _ | refine Ext.setCell ?_ (by simp) | refine Ext.setCell ?_ (by simp; omega) | refine Ext.trans ?_ (by assumption)) ?_
      repeat (go_big_quiet_step ((fail)))
      refine wpQuiet_nil ?_
      refine rx_op 26 (k := 2) (m' := 134217727) rfl rfl (by kernel_rfl) (by kernel_rfl) ?_
      go_wp2_with (first | (go_at_call 33; refine (hasLead_c _ _ c d ns ls kk _ (h.ext (hx.trans (by repeat first | exact Ext.refl _ | assumption | refine Ext.drew ?_ | refine Ext.alloc ?_ _ | refine Ext.setCell ?_ (by simp) | refine Ext.setCell ?_ (by simp; omega) | refine Ext.trans ?_ (by assumption))))).mono ?_; rw [hL]; rintro e w5 ⟨rfl, hb5⟩) | (go_at_call 34; refine (IsBetween_i ax ay bx by' px py _).mono ?_; rw [hB]; rintro e w6 ⟨rfl, hb6⟩))
      refine rx_on (by repeat first | exact Ext.refl _ | assumption | refine Ext.drew ?_ | refine Ext.alloc ?_ _ | refine Ext.setCell ?_ (by simp) | refine Ext.setCell ?_ (by simp; omega) | refine Ext.trans ?_ (by assumption)) ?_
      refine rx_run (run := [27, 28]) (k := 0) (m' := 536870911) rfl (by kernel_rfl) (by kernel_rfl) (by kernel_rfl) (fm_cons rfl <| fm_cons rfl <| List.filterMap_nil) (by repeat first | exact Ext.refl _ | assumption | refine Ext.drew ?_ | refine Ext.alloc ?_ _ | refine Ext.setCell ?_ (by simp) | refine Ext.setCell ?_ (by simp; omega) | refine Ext.trans ?_ (by assumption)) ?_
      repeat (go_big_quiet_step ((fail)))
      refine wpQuiet_nil ?_
      refine rx_end (by kernel_rfl) ?_
      have hxq : Ext w2 w6 := (by repeat first | exact Ext.refl _ | assumption | refine Ext.drew ?_ | refine Ext.alloc ?_ _ | refine Ext.setCell ?_ (by simp) | refine Ext.setCell ?_ (by simp; omega) | refine Ext.trans ?_ (by assumption))
      have hb26 : b2 < w6.heap.size := Nat.lt_of_lt_of_le (block_lt_of_cell r0) hxq.size
      have j0 := hxq.lit k0
      have j1 := hxq.lit k1
      have m0 := hxq.lit n0
      have m1 := hxq.lit n1
      have hx6 := hx.trans hxq
      clear d0 d1 d2 d3 d4 d5 d6 d7 d8 d9 hb5 hb6
      go_wp2_with fail
      refine (copy_i_copyWindow _ _ _ _ ns ls _ (h.ext hx6)).mono ?_
      rintro e w7 ⟨v3, v4, rfl, o3, o4, -, hb⟩
      have m0 := hb.lit m0
      have m1 := hb.lit m1
      have hx67 := hb
      have hs67 := hb.size
      clear hb
      have hb3 := fun q hq => (o3.blk q hq).2
      have hb4 := fun q hq => (o4.blk q hq).2
      obtain ⟨A3, c3, rfl, -, -, -⟩ := o3.shape
      obtain ⟨A4, c4, rfl, -, -, -⟩ := o4.shape
      go_upto_region 5 with fail
      have bt : Bk (w7.alloc (.cells #[.slice A3 ns.length c3, .slice A4 ls.length c4] 32)) w7.heap.size 32 [.slice A3 ns.length c3, .slice A4 ls.length c4] := Bk.new _ _ rfl
      have hx78 : Ext w7 (w7.alloc (.cells #[.slice A3 ns.length c3, .slice A4 ls.length c4] 32)) := (Ext.refl _).alloc _
      have hs78 : (w7.alloc (.cells #[.slice A3 ns.length c3, .slice A4 ls.length c4] 32)).heap.size = w7.heap.size + 1 := by simp
      generalize (w7.alloc (.cells #[.slice A3 ns.length c3, .slice A4 ls.length c4] 32)) = w8 at *
      generalize hgt : w7.heap.size = gt at *
      have m0 := hx78.lit m0
      have m1 := hx78.lit m1
      have o3 := o3.ext hx78
      have o4 := o4.ext hx78
      have t0 : w8.cell? ⟨gt, 0, none⟩ = some (.slice A3 ns.length c3) := bt.cell 0
      have hx68 := hx67.trans hx78
      have HBT := Lib.hid bt
      have HB3 := Lib.hid hb3
      have HB4 := Lib.hid hb4
      clear bt hb3 hb4
      go_wp2_with (at_builtin; refine az_src 29 36 Try.underlying29 infoN _ _ rfl rfl (v := .slice A3 ns.length c3) rfl (o3.ext ((Ext.refl w8).alloc _)) (l := [(px, py)]) rfl rfl (pr_oneg (by first | rfl | exact hs78.symm | omega) px py) (by omega) (by simp) (by simp; omega) ?_)
      intro v5 w9 r9 h5 h5e h5g h5r
      have hx69 := h5e w6 (hx68.alloc _) (Nat.le_refl _)
      have hr9 : r9 ≠ some gt := fun e => by have := HB3.out gt (h5r gt e); omega
      have bt9 := gb_bk (HBT.out.ext ((Ext.refl w8).alloc (.cells #[.int .i64 px, .int .i64 py] 36))) h5g hr9
      have o49 := (o4.ext ((Ext.refl w8).alloc (.cells #[.int .i64 px, .int .i64 py] 36))).gb h5g (fun q hq e => OwP.dj o3 o4 (by decide) q (h5r q e) hq)
      have t0 : w9.cell? ⟨gt, 0, none⟩ = some (.slice A3 ns.length c3) := bt9.cell 0
      have ft0 := bt9.froz 0
      have h5x := h5.far bt9 (by decide) 0 v5
      have o4x := o49.far bt9 (by decide) 0 v5
      have btx := bt9.set_ 0 v5
      have hxx := Ext.setCell (p := ⟨gt, 0, none⟩) (v := v5) hx69 (by show w6.heap.size ≤ gt; omega)
      obtain ⟨A5, c5, e5, hc5, hm5, -⟩ := h5x.shape
      rw [show (ns ++ [(px, py)]).length = ns.length + 1 by simp] at e5
      have HBX := Lib.hid btx
      have H5 := Lib.hid h5x
      have O4 := Lib.hid o4x
      subst e5
      clear h5 h5e h5g h5r o3 o4 o49 bt9 btx h5x o4x m0 m1 HBT HB3 hr9 hx69 hx68 hx78 hx67
      go_upto_region 6 with fail
      clear t0 ft0
      generalize w9.setCell ⟨gt, 0, none⟩ (.slice A5 (ns.length + 1) c5) = w10 at *
      have t0 : w10.cell? ⟨gt, 0, none⟩ = some (.slice A5 (ns.length + 1) c5) := HBX.out.cell 0
      have t1 : w10.cell? ⟨gt, 1, none⟩ = some (.slice A4 ls.length c4) := HBX.out.cell 1
      obtain ⟨g4, c4', e4, -, -, -, z0, z1, fz0, fz1⟩ := O4.out.at_ hkl
      obtain ⟨rfl, rfl⟩ : A4 = some ⟨g4, 0, none⟩ ∧ c4 = c4' := by simpa using e4
      have hg4 : g4 < gt := HB4.out g4 rfl
      rw [HEB.out] at z1
      clear e4 z0 fz0 fz1 HB4
      have hs610 := hxx.size
      go_upto_region 7 with fail
      have d1 := cell_regrown t1
      have d2 := cell_regrown z1
      refine rx_open [(true, 0, some 55, 512), (true, 1, some 56, 36028797018963968), (true, 0, some 57, 512), (true, 4, some 58, 144115188075855872), (true, 0, some 59, 2), (true, 24, some 60, 864691128455135232), (true, 32, some 61, 1152921504606846976), (true, 64, some 62, 2305843009213693952), (true, 0, some 63, 1024), (false, 384, some 64, 13835058055282163712), (false, 512, some 65, 18446744073709551616), (false, 1026, some 66, 36965545741457031168), (true, 4095, some 67, 512), (false, 8191, none, 221360928884514619392)] 14336 14 mixd rfl (by kernel_rfl) (by kernel_rfl) (by kernel_rfl) ?_
      refine rx_run (run := [0, 1, 2, 3, 4, 5, 6, 7, 8]) (k := 5) (m' := 511) rfl (by kernel_rfl) (by kernel_rfl) (by kernel_rfl) (fm_cons rfl <| fm_cons rfl <| fm_cons rfl <| fm_cons rfl <| fm_cons rfl <| fm_cons rfl <| fm_cons rfl <| fm_cons rfl <| fm_cons rfl <| List.filterMap_nil) (by repeat first | exact Ext.refl _ | assumption | refine Ext.drew ?_ | refine Ext.alloc ?_ _ | refine Ext.setCell ?_ (by simp) | refine Ext.setCell ?_ (by simp; omega) | refine Ext.trans ?_ (by assumption)) ?_
      repeat (go_big_quiet_step ((fail)))
      refine wpQuiet_nil ?_
      refine rx_op 9 (k := 4) (m' := 1023) rfl rfl (by kernel_rfl) (by kernel_rfl) ?_
      go_wp2
      refine rx_on (by repeat first | exact Ext.refl _ | assumption | refine Ext.drew ?_ | refine Ext.alloc ?_ _ | refine Ext.setCell ?_ (by simp) | refine Ext.setCell ?_ (by simp; omega) | refine Ext.trans ?_ (by assumption)) ?_
      refine rx_op 10 (k := 3) (m' := 2047) rfl rfl (by kernel_rfl) (by kernel_rfl) ?_
      go_wp2
      refine rx_on (by repeat first | exact Ext.refl _ | assumption | refine Ext.drew ?_ | refine Ext.alloc ?_ _ | refine Ext.setCell ?_ (by simp) | refine Ext.setCell ?_ (by simp; omega) | refine Ext.trans ?_ (by assumption)) ?_
      refine rx_op 11 (k := 2) (m' := 4095) rfl rfl (by kernel_rfl) (by kernel_rfl) ?_
      go_wp2_with ((at_builtin; refine az_src 30 52 Try.underlying30 infoL _ _ rfl rfl (v := .slice (some ⟨g4, 0, none⟩) ls.length c4) rfl (O4.out.ext (by repeat first | exact Ext.refl _ | assumption | refine Ext.drew ?_ | refine Ext.alloc ?_ _ | refine Ext.setCell ?_ (by simp) | refine Ext.setCell ?_ (by simp; omega) | refine Ext.trans ?_ (by assumption))) (l := [((b : Int), (ns.length : Int))]) rfl rfl (pr_cells (Nat.lt_succ_self _) (by go_simp) (by go_simp)) (by omega) (by simp) (by simp; omega) ?_; intro v6 w12 r12 h6 h6e h6g h6r; have hx12 := h6e w6 (hxx.trans (by repeat first | exact Ext.refl _ | assumption | refine Ext.drew ?_ | refine Ext.alloc ?_ _ | refine Ext.setCell ?_ (by simp) | refine Ext.setCell ?_ (by simp; omega) | refine Ext.trans ?_ (by assumption))) (Nat.le_refl _); have bt12 := gb_bk (HBX.out.ext (by repeat first | exact Ext.refl _ | assumption | refine Ext.drew ?_ | refine Ext.alloc ?_ _ | refine Ext.setCell ?_ (by simp) | refine Ext.setCell ?_ (by simp; omega) | refine Ext.trans ?_ (by assumption))) h6g (fun e => by have := h6r gt e; simp [Value.ownBlock] at this; omega); have h512 := (H5.out.ext (by repeat first | exact Ext.refl _ | assumption | refine Ext.drew ?_ | refine Ext.alloc ?_ _ | refine Ext.setCell ?_ (by simp) | refine Ext.setCell ?_ (by simp; omega) | refine Ext.trans ?_ (by assumption))).gb h6g (fun q hq e => OwP.dj H5.out O4.out (by decide) q hq (h6r q e)); have t1c : w12.cell? ⟨gt, 1, none⟩ = some (.slice (some ⟨g4, 0, none⟩) ls.length c4) := bt12.cell 1; have ft1c := bt12.froz 1; obtain ⟨A6, c6, e6, hc6, hm6, -⟩ := h6.shape; rw [show (ls ++ [((b : Int), (ns.length : Int))]).length = ls.length + 1 by simp] at e6; subst e6))
      refine rx_lst (by decide) ?_
      refine rx_op 12 (k := 1) (m' := 8191) rfl rfl (by kernel_rfl) (by kernel_rfl) ?_
      go_wp2
      refine rx_lst (by decide) ?_
      refine rx_op 13 (k := 0) (m' := 16383) rfl rfl (by kernel_rfl) (by kernel_rfl) ?_
      go_wp2
      refine rx_lst (by decide) ?_
      refine rx_end (by kernel_rfl) ?_
      have h5x := h512.far bt12 (by decide) 1 (.slice A6 (ls.length + 1) c6)
      have h6x := h6.far bt12 (by decide) 1 (.slice A6 (ls.length + 1) c6)
      have btx := bt12.set_ 1 (.slice A6 (ls.length + 1) c6)
      have hx13 := Ext.setCell (p := ⟨gt, 1, none⟩) (v := .slice A6 (ls.length + 1) c6) hx12 (by show w6.heap.size ≤ gt; omega)
      have HBY := Lib.hid btx
      have H52 := Lib.hid h5x
      have H62 := Lib.hid h6x
      clear h5x h6x btx hx12 bt12 h512 h6 h6e h6g h6r t1c ft1c t0 t1 d1 d2 z1 HBX H5 O4 hxx hs610
      generalize w12.setCell ⟨gt, 1, none⟩ (.slice A6 (ls.length + 1) c6) = w13 at *
      have t0 : w13.cell? ⟨gt, 0, none⟩ = some (.slice A5 (ns.length + 1) c5) := HBY.out.cell 0
      have t1 : w13.cell? ⟨gt, 1, none⟩ = some (.slice A6 (ls.length + 1) c6) := HBY.out.cell 1
      obtain ⟨g6, c6', e6, -, hg6, -, -, y1, -, fy1⟩ := H62.out.at_ (j := kk) (by simp; omega)
      obtain ⟨rfl, rfl⟩ : A6 = some ⟨g6, 0, none⟩ ∧ c6 = c6' := by simpa using e6
      clear e6
      have hset := H62.out.set2 (by simp) (j := kk) (by simp; omega) (ns.length : Int)
      rw [gp_app hkl, HEB.out] at hset
      have HS6 : Hid (OwP (w13.setCell ⟨g6, kk * 2 + 1, none⟩ (.int .i64 (ns.length : Int))) w6.heap.size 52 (.slice (some ⟨g6, 0, none⟩) (ls.length + 1) c6) (spLs ns ls kk)) := Lib.hid (by unfold spLs; rw [HEB.out]; exact hset)
      have HS5 := Lib.hid (H52.out.gb (gb_set (gb_refl w13 (some g6)) (kk * 2 + 1) (.int .i64 (ns.length : Int))) (fun q hq e => OwP.dj H52.out H62.out (by decide) q hq (by rw [← e]; rfl)))
      have HBZ := Lib.hid (gb_bk HBY.out (gb_set (gb_refl w13 (some g6)) (kk * 2 + 1) (.int .i64 (ns.length : Int))) (fun e => OwP.nebk H62.out HBY.out (by decide) (by rw [← e]; rfl)))
      have hx14 := Ext.setCell (p := ⟨g6, kk * 2 + 1, none⟩) (v := .int .i64 (ns.length : Int)) hx13 hg6
      have hk1 : (kk : Int) < (ls.length : Int) + 1 := by omega
      clear hset
      generalize (gp (ls ++ [((b : Int), (ns.length : Int))]) (kk : Nat)).2 = u6 at *
      go_upto_region 9 with fail
      clear t0 t1 y1 fy1 HBY H52 H62 hx13
      generalize w13.setCell ⟨g6, kk * 2 + 1, none⟩ (.int .i64 (ns.length : Int)) = w14 at *
      have t0 : w14.cell? ⟨gt, 0, none⟩ = some (.slice A5 (ns.length + 1) c5) := HBZ.out.cell 0
      have t1 : w14.cell? ⟨gt, 1, none⟩ = some (.slice (some ⟨g6, 0, none⟩) (ls.length + 1) c6) := HBZ.out.cell 1
      have HWN := Lib.hid (wn_own HS5.out HS6.out (by simp; omega) (by simp [spLs]; omega))
      go_wp2_with fail
      refine (WindowOk_iL HWN.out (by simp) (by simp [spLs])).mono ?_
      rintro e w15 ⟨rfl, hb⟩
      have hxq := hxq.trans (hx14.trans hb)
      cases hok : wok (ns ++ [(px, py)]) (spLs ns ls kk) with
      | false =>
        have HNO : Hid (spOk ns ls kk (px, py) = false) := Lib.hid (by rw [HSP.out, hB, hok]; rfl)
        clear hok hB
        have r0 := hxq.lit r0
        have r1 := hxq.lit r1
        have f0 := hxq.frz (by omega) f0
        have f1 := hxq.frz (by omega) f1
        have s0 := hxq.lit s0
        have s1 := hxq.lit s1
        have o1 := o1.ext hxq
        have o2 := o2.ext hxq
        go_wp2
        (try simp only [Exit.inBlock, Exit.then])
        refine bodyPost_ret (by simp [results, Try.results12, go_sem, r0, r1]; try rfl) rfl ?_
        exact ⟨_, _, ret_wb (by rw [HV.out, if_neg (by rw [HNO.out]; decide)]), by rw [HV.out, if_neg (by rw [HNO.out]; decide)]; exact (o1.gb2 (gb_set (gb_set (gb_refl _ (some b2)) 0 _) 1 _) (by omega)).more (by omega), by rw [HV.out, if_neg (by rw [HNO.out]; decide)]; exact (o2.gb2 (gb_set (gb_set (gb_refl _ (some b2)) 0 _) 1 _) (by omega)).more (by omega), Ext.setCell (p := ⟨b2, 1, none⟩) (Ext.setCell (p := ⟨b2, 0, none⟩) (hx.trans hxq) (by show w.heap.size ≤ b2; omega)) (by show w.heap.size ≤ b2; omega)⟩
      | true =>
        have HYE : Hid (spOk ns ls kk (px, py) = true) := Lib.hid (by rw [HSP.out, hB, hok]; rfl)
        have r0 := hxq.lit r0
        have r1 := hxq.lit r1
        have f0 := hxq.frz (by omega) f0
        have f1 := hxq.frz (by omega) f1
        have t0 := hb.lit t0
        have t1 := hb.lit t1
        have HF5 := Lib.hid (HS5.out.ext hb)
        have HF6 := Lib.hid (HS6.out.ext hb)
        clear hok hB
        go_wp2
        (try simp only [Exit.inBlock, Exit.then])
        refine bodyPost_ret (by simp [results, Try.results12, go_sem, r0, r1]; try rfl) rfl ?_
        exact ⟨_, _, ret_wb (by rw [HV.out, if_pos HYE.out]), by rw [HV.out, if_pos HYE.out]; exact (HF5.out.gb2 (gb_set (gb_set (gb_refl _ (some b2)) 0 _) 1 _) hb26).more hx6.size, by rw [HV.out, if_pos HYE.out]; exact (HF6.out.gb2 (gb_set (gb_set (gb_refl _ (some b2)) 0 _) 1 _) hb26).more hx6.size, Ext.setCell (p := ⟨b2, 1, none⟩) (Ext.setCell (p := ⟨b2, 0, none⟩) (hx.trans hxq) (by show w.heap.size ≤ b2; omega)) (by show w.heap.size ≤ b2; omega)⟩
    · have hB := eq_false_of_ne_true hB
      have HNO : Hid (spOk ns ls kk (px, py) = false) := Lib.hid (by rw [HSP.out, hB]; rfl)
      go_enter Try.func12, Try.ntmps12
      go_wp2_with fail
      refine (copy_i_copyWindow _ _ _ _ ns ls _ (h.ext (by repeat first | exact Ext.refl _ | assumption | refine Ext.drew ?_ | refine Ext.alloc ?_ _ | refine Ext.setCell ?_ (by simp) | refine Ext.setCell ?_ (by simp; omega) | refine Ext.trans ?_ (by assumption)))).mono ?_
      rintro e w1 ⟨v1, v2, rfl, oa1, oa2, -, hb⟩
      have k0a := hb.lit (b := w.heap.size) (o := 0) (v := .slice A ns.length c) (by go_simp)
      have k1a := hb.lit (b := w.heap.size) (o := 1) (v := .slice B ls.length d) (by go_simp)
      have n0a := hb.lit (b := w.heap.size + 1) (o := 0) (v := .int .i64 px) (by go_simp)
      have n1a := hb.lit (b := w.heap.size + 1) (o := 1) (v := .int .i64 py) (by go_simp)
      have r0a := hb.lit (b := w.heap.size + 1 + 1) (o := 0) (v := .slice none 0 0) (by go_simp)
      have r1a := hb.lit (b := w.heap.size + 1 + 1) (o := 1) (v := .slice none 0 0) (by go_simp)
      have f0a := hb.froz (b := w.heap.size + 1 + 1) (o := 0) (by simp) (by go_simp)
      have f1a := hb.froz (b := w.heap.size + 1 + 1) (o := 1) (by simp) (by go_simp)
      have hxa : Ext w w1 := (by repeat first | exact Ext.refl _ | assumption | refine Ext.drew ?_ | refine Ext.alloc ?_ _ | refine Ext.setCell ?_ (by simp) | refine Ext.setCell ?_ (by simp; omega) | refine Ext.trans ?_ (by assumption))
      have hs1 : w.heap.size + 1 + 1 < w1.heap.size := by have := hb.size; simp at this; omega
      have ob1 := oa1.more (B' := w.heap.size + 1 + 1 + 1) (by simp)
      have ob2 := oa2.more (B' := w.heap.size + 1 + 1 + 1) (by simp)
      obtain ⟨A1, c1, rfl, hc1, hm1, hp1⟩ := ob1.shape
      obtain ⟨A2, c2, rfl, hc2, hm2, hp2⟩ := ob2.shape
      clear hb oa1 oa2
      generalize hb1 : w.heap.size + 1 = b1 at *
      generalize hb2 : b1 + 1 = b2 at *
      go_upto_region 2 with fail
      have s0 : (w1.alloc (.cells #[.slice A1 ns.length c1, .slice A2 ls.length c2] 32)).cell? ⟨w1.heap.size, 0, none⟩ = some (.slice A1 ns.length c1) := by go_simp
      have s1 : (w1.alloc (.cells #[.slice A1 ns.length c1, .slice A2 ls.length c2] 32)).cell? ⟨w1.heap.size, 1, none⟩ = some (.slice A2 ls.length c2) := by go_simp
      have hx2 : Ext w1 (w1.alloc (.cells #[.slice A1 ns.length c1, .slice A2 ls.length c2] 32)) := (Ext.refl _).alloc _
      have hs2 : (w1.alloc (.cells #[.slice A1 ns.length c1, .slice A2 ls.length c2] 32)).heap.size = w1.heap.size + 1 := by simp
      generalize (w1.alloc (.cells #[.slice A1 ns.length c1, .slice A2 ls.length c2] 32)) = w2 at *
      generalize hgs : w1.heap.size = gs at *
      have k0 := hx2.lit k0a
      have k1 := hx2.lit k1a
      have n0 := hx2.lit n0a
      have n1 := hx2.lit n1a
      have r0 := hx2.lit r0a
      have r1 := hx2.lit r1a
      have f0 := hx2.frz (by omega) f0a
      have f1 := hx2.frz (by omega) f1a
      have o1 := ob1.ext hx2
      have o2 := ob2.ext hx2
      have hx := hxa.trans hx2
      clear hx2 hp1 hp2 hxa ob1 ob2 k0a k1a n0a n1a r0a r1a f0a f1a
      have d0 := cell_regrown k0
      have d1 := cell_regrown k1
      have d2 := cell_regrown n0
      have d3 := cell_regrown n1
      obtain ⟨bL, oL, rfl, -, l0, l1⟩ := h.g.gp_ hkl
      obtain ⟨bN, oN, rfl, -, x0, x1⟩ := h.h.gp_ ha
      obtain ⟨bN', oN', e', -, y0, y1⟩ := h.h.gp_ hb
      obtain ⟨rfl, rfl⟩ : bN = bN' ∧ oN = oN' := by simpa using e'
      rw [HEB.out] at l0 l1
      rw [HGA.out] at x0 x1
      rw [HGB.out] at y0 y1
      clear e'
      have d4 := cell_regrown (hx.lit l0)
      have d5 := cell_regrown (hx.lit l1)
      have d6 := cell_regrown (hx.lit x0)
      have d7 := cell_regrown (hx.lit x1)
      have d8 := cell_regrown (hx.lit y0)
      have d9 := cell_regrown (hx.lit y1)
      go_wp2_with fail
      refine rx_open [(true, 0, some 13, 8), (true, 0, some 14, 2), (false, 3, some 15, 24576), (true, 4, some 16, 32768), (true, 12, some 17, 65536), (true, 16, some 18, 131080), (true, 48, some 19, 393216), (true, 16, some 20, 131080), (true, 144, some 21, 1179648), (true, 16, some 22, 131074), (true, 784, some 23, 6422528), (true, 1040, some 24, 8519680), (true, 2064, some 25, 16908288), (true, 4176, some 26, 34209792), (true, 8208, some 27, 67239936), (true, 16, some 28, 131080), (true, 32784, some 29, 268566528), (true, 16, some 30, 131080), (true, 131088, some 31, 1073872896), (true, 16, some 32, 131074), (true, 786448, some 33, 6442582016), (true, 1048592, some 34, 8590065664), (true, 2097168, some 35, 17180000256), (true, 4259856, some 36, 34896740352), (true, 8388624, some 37, 68719607808), (true, 16, some 38, 131104), (false, 50348048, some 39, 412451209216), (true, 67108880, some 40, 549755944960), (true, 134217744, some 41, 1099511758848)] 0 29 mixd rfl (by kernel_rfl) (by kernel_rfl) (by kernel_rfl) ?_
      refine rx_run (run := [0, 1]) (k := 27) (m' := 3) rfl (by kernel_rfl) (by kernel_rfl) (by kernel_rfl) (fm_cons rfl <| fm_cons rfl <| List.filterMap_nil) (by repeat first | exact Ext.refl _ | assumption | refine Ext.drew ?_ | refine Ext.alloc ?_ _ | refine Ext.setCell ?_ (by simp) | refine Ext.setCell ?_ (by simp; omega) | refine Ext.trans ?_ (by assumption)) ?_
      repeat (go_big_quiet_step ((fail)))
      refine wpQuiet_nil ?_
      refine rx_op 2 (k := 26) (m' := 7) rfl rfl (by kernel_rfl) (by kernel_rfl) ?_
      go_wp2_with (first | (go_at_call 33; refine (hasLead_c _ _ c d ns ls kk _ (h.ext (hx.trans (by repeat first | exact Ext.refl _ | assumption | refine Ext.drew ?_ | refine Ext.alloc ?_ _ | refine Ext.setCell ?_ (by simp) | refine Ext.setCell ?_ (by simp; omega) | refine Ext.trans ?_ (by assumption))))).mono ?_; rw [hL]; rintro e w5 ⟨rfl, hb5⟩) | (go_at_call 34; refine (IsBetween_i ax ay bx by' px py _).mono ?_; rw [hB]; rintro e w6 ⟨rfl, hb6⟩))
      refine rx_on (by repeat first | exact Ext.refl _ | assumption | refine Ext.drew ?_ | refine Ext.alloc ?_ _ | refine Ext.setCell ?_ (by simp) | refine Ext.setCell ?_ (by simp; omega) | refine Ext.trans ?_ (by assumption)) ?_
      refine rx_run (run := [3, 4, 5, 6, 7, 8, 9, 10, 11, 12, 13, 14, 15, 16, 17, 18, 19, 20, 21, 22, 23, 24, 25]) (k := 3) (m' := 67108863) rfl (by kernel_rfl) (by kernel_rfl) (by kernel_rfl) (fm_cons rfl <| fm_cons rfl <| fm_cons rfl <| fm_cons rfl <| fm_cons rfl <| fm_cons rfl <| fm_cons rfl <| fm_cons rfl <| fm_cons rfl <| fm_cons rfl <| fm_cons rfl <| fm_cons rfl <| fm_cons rfl <| fm_cons rfl <| fm_cons rfl <| fm_cons rfl <| fm_cons rfl <| fm_cons rfl <| fm_cons rfl <| fm_cons rfl <| fm_cons rfl <| fm_cons rfl <| fm_cons rfl <| List.filterMap_nil) (by repeat first | exact Ext.refl _ | assumption | refine Ext.drew ?_ | refine Ext.alloc ?_ _ | refine Ext.setCell ?_ (by simp) | refine Ext.setCell ?_ (by simp; omega) | refine Ext.trans ?_ (by assumption)) ?_
      repeat (go_big_quiet_step ((fail)))
      refine wpQuiet_nil ?_
      refine rx_op 26 (k := 2) (m' := 134217727) rfl rfl (by kernel_rfl) (by kernel_rfl) ?_
      go_wp2_with (first | (go_at_call 33; refine (hasLead_c _ _ c d ns ls kk _ (h.ext (hx.trans (by repeat first | exact Ext.refl _ | assumption | refine Ext.drew ?_ | refine Ext.alloc ?_ _ | refine Ext.setCell ?_ (by simp) | refine Ext.setCell ?_ (by simp; omega) | refine Ext.trans ?_ (by assumption))))).mono ?_; rw [hL]; rintro e w5 ⟨rfl, hb5⟩) | (go_at_call 34; refine (IsBetween_i ax ay bx by' px py _).mono ?_; rw [hB]; rintro e w6 ⟨rfl, hb6⟩))
      refine rx_on (by repeat first | exact Ext.refl _ | assumption | refine Ext.drew ?_ | refine Ext.alloc ?_ _ | refine Ext.setCell ?_ (by simp) | refine Ext.setCell ?_ (by simp; omega) | refine Ext.trans ?_ (by assumption)) ?_
      refine rx_run (run := [27, 28]) (k := 0) (m' := 536870911) rfl (by kernel_rfl) (by kernel_rfl) (by kernel_rfl) (fm_cons rfl <| fm_cons rfl <| List.filterMap_nil) (by repeat first | exact Ext.refl _ | assumption | refine Ext.drew ?_ | refine Ext.alloc ?_ _ | refine Ext.setCell ?_ (by simp) | refine Ext.setCell ?_ (by simp; omega) | refine Ext.trans ?_ (by assumption)) ?_
      repeat (go_big_quiet_step ((fail)))
      refine wpQuiet_nil ?_
      refine rx_end (by kernel_rfl) ?_
      have hxq : Ext w2 w6 := (by repeat first | exact Ext.refl _ | assumption | refine Ext.drew ?_ | refine Ext.alloc ?_ _ | refine Ext.setCell ?_ (by simp) | refine Ext.setCell ?_ (by simp; omega) | refine Ext.trans ?_ (by assumption))
      have r0 := hxq.lit r0
      have r1 := hxq.lit r1
      have f0 := hxq.frz (by omega) f0
      have f1 := hxq.frz (by omega) f1
      have s0 := hxq.lit s0
      have s1 := hxq.lit s1
      have o1 := o1.ext hxq
      have o2 := o2.ext hxq
      go_wp2
      (try simp only [Exit.inBlock, Exit.then])
      refine bodyPost_ret (by simp [results, Try.results12, go_sem, r0, r1]; try rfl) rfl ?_
      exact ⟨_, _, ret_wb (by rw [HV.out, if_neg (by rw [HNO.out]; decide)]), by rw [HV.out, if_neg (by rw [HNO.out]; decide)]; exact (o1.gb2 (gb_set (gb_set (gb_refl _ (some b2)) 0 _) 1 _) (by omega)).more (by omega), by rw [HV.out, if_neg (by rw [HNO.out]; decide)]; exact (o2.gb2 (gb_set (gb_set (gb_refl _ (some b2)) 0 _) 1 _) (by omega)).more (by omega), Ext.setCell (p := ⟨b2, 1, none⟩) (Ext.setCell (p := ⟨b2, 0, none⟩) (hx.trans hxq) (by show w.heap.size ≤ b2; omega)) (by show w.heap.size ≤ b2; omega)⟩
  · have hL' := eq_false_of_ne_true hL
    have HNO : Hid (spOk ns ls k (px, py) = false) := Lib.hid (by rw [HSP.out, hL']; rfl)
    clear hL
    go_enter Try.func12, Try.ntmps12
    go_wp2_with fail
    refine (copy_i_copyWindow _ _ _ _ ns ls _ (h.ext (by repeat first | exact Ext.refl _ | assumption | refine Ext.drew ?_ | refine Ext.alloc ?_ _ | refine Ext.setCell ?_ (by simp) | refine Ext.setCell ?_ (by simp; omega) | refine Ext.trans ?_ (by assumption)))).mono ?_
    rintro e w1 ⟨v1, v2, rfl, oa1, oa2, -, hb⟩
    have k0a := hb.lit (b := w.heap.size) (o := 0) (v := .slice A ns.length c) (by go_simp)
    have k1a := hb.lit (b := w.heap.size) (o := 1) (v := .slice B ls.length d) (by go_simp)
    have n0a := hb.lit (b := w.heap.size + 1) (o := 0) (v := .int .i64 px) (by go_simp)
    have n1a := hb.lit (b := w.heap.size + 1) (o := 1) (v := .int .i64 py) (by go_simp)
    have r0a := hb.lit (b := w.heap.size + 1 + 1) (o := 0) (v := .slice none 0 0) (by go_simp)
    have r1a := hb.lit (b := w.heap.size + 1 + 1) (o := 1) (v := .slice none 0 0) (by go_simp)
    have f0a := hb.froz (b := w.heap.size + 1 + 1) (o := 0) (by simp) (by go_simp)
    have f1a := hb.froz (b := w.heap.size + 1 + 1) (o := 1) (by simp) (by go_simp)
    have hxa : Ext w w1 := (by repeat first | exact Ext.refl _ | assumption | refine Ext.drew ?_ | refine Ext.alloc ?_ _ | refine Ext.setCell ?_ (by simp) | refine Ext.setCell ?_ (by simp; omega) | refine Ext.trans ?_ (by assumption))
    have hs1 : w.heap.size + 1 + 1 < w1.heap.size := by have := hb.size; simp at this; omega
    have ob1 := oa1.more (B' := w.heap.size + 1 + 1 + 1) (by simp)
    have ob2 := oa2.more (B' := w.heap.size + 1 + 1 + 1) (by simp)
    obtain ⟨A1, c1, rfl, hc1, hm1, hp1⟩ := ob1.shape
    obtain ⟨A2, c2, rfl, hc2, hm2, hp2⟩ := ob2.shape
    clear hb oa1 oa2
    generalize hb1 : w.heap.size + 1 = b1 at *
    generalize hb2 : b1 + 1 = b2 at *
    go_upto_region 2 with fail
    have s0 : (w1.alloc (.cells #[.slice A1 ns.length c1, .slice A2 ls.length c2] 32)).cell? ⟨w1.heap.size, 0, none⟩ = some (.slice A1 ns.length c1) := by go_simp
    have s1 : (w1.alloc (.cells #[.slice A1 ns.length c1, .slice A2 ls.length c2] 32)).cell? ⟨w1.heap.size, 1, none⟩ = some (.slice A2 ls.length c2) := by go_simp
    have hx2 : Ext w1 (w1.alloc (.cells #[.slice A1 ns.length c1, .slice A2 ls.length c2] 32)) := (Ext.refl _).alloc _
    have hs2 : (w1.alloc (.cells #[.slice A1 ns.length c1, .slice A2 ls.length c2] 32)).heap.size = w1.heap.size + 1 := by simp
    generalize (w1.alloc (.cells #[.slice A1 ns.length c1, .slice A2 ls.length c2] 32)) = w2 at *
    generalize hgs : w1.heap.size = gs at *
    have k0 := hx2.lit k0a
    have k1 := hx2.lit k1a
    have n0 := hx2.lit n0a
    have n1 := hx2.lit n1a
    have r0 := hx2.lit r0a
    have r1 := hx2.lit r1a
    have f0 := hx2.frz (by omega) f0a
    have f1 := hx2.frz (by omega) f1a
    have o1 := ob1.ext hx2
    have o2 := ob2.ext hx2
    have hx := hxa.trans hx2
    clear hx2 hp1 hp2 hxa ob1 ob2 k0a k1a n0a n1a r0a r1a f0a f1a
    have d0 := cell_regrown k0
    have d1 := cell_regrown k1
    have d2 := cell_regrown n0
    have d3 := cell_regrown n1
    go_wp2_with fail
    refine rx_open [(true, 0, some 13, 8), (true, 0, some 14, 2), (false, 3, some 15, 24576), (true, 4, some 16, 32768), (true, 12, some 17, 65536), (true, 16, some 18, 131080), (true, 48, some 19, 393216), (true, 16, some 20, 131080), (true, 144, some 21, 1179648), (true, 16, some 22, 131074), (true, 784, some 23, 6422528), (true, 1040, some 24, 8519680), (true, 2064, some 25, 16908288), (true, 4176, some 26, 34209792), (true, 8208, some 27, 67239936), (true, 16, some 28, 131080), (true, 32784, some 29, 268566528), (true, 16, some 30, 131080), (true, 131088, some 31, 1073872896), (true, 16, some 32, 131074), (true, 786448, some 33, 6442582016), (true, 1048592, some 34, 8590065664), (true, 2097168, some 35, 17180000256), (true, 4259856, some 36, 34896740352), (true, 8388624, some 37, 68719607808), (true, 16, some 38, 131104), (false, 50348048, some 39, 412451209216), (true, 67108880, some 40, 549755944960), (true, 134217744, some 41, 1099511758848)] 0 29 mixd rfl (by kernel_rfl) (by kernel_rfl) (by kernel_rfl) ?_
    refine rx_run (run := [0, 1]) (k := 27) (m' := 3) rfl (by kernel_rfl) (by kernel_rfl) (by kernel_rfl) (fm_cons rfl <| fm_cons rfl <| List.filterMap_nil) (by repeat first | exact Ext.refl _ | assumption | refine Ext.drew ?_ | refine Ext.alloc ?_ _ | refine Ext.setCell ?_ (by simp) | refine Ext.setCell ?_ (by simp; omega) | refine Ext.trans ?_ (by assumption)) ?_
    repeat (go_big_quiet_step ((fail)))
    refine wpQuiet_nil ?_
    refine rx_op 2 (k := 26) (m' := 7) rfl rfl (by kernel_rfl) (by kernel_rfl) ?_
    go_wp2_with ((go_at_call 33; refine (hasLead_c A B c d ns ls k _ (h.ext (hx.trans (by repeat first | exact Ext.refl _ | assumption | refine Ext.drew ?_ | refine Ext.alloc ?_ _ | refine Ext.setCell ?_ (by simp) | refine Ext.setCell ?_ (by simp; omega) | refine Ext.trans ?_ (by assumption))))).mono ?_; rw [hL']; rintro e w5 ⟨rfl, hb5⟩))
    refine rx_on (by repeat first | exact Ext.refl _ | assumption | refine Ext.drew ?_ | refine Ext.alloc ?_ _ | refine Ext.setCell ?_ (by simp) | refine Ext.setCell ?_ (by simp; omega) | refine Ext.trans ?_ (by assumption)) ?_
    refine rx_run (run := [3, 4, 5, 6, 7, 8, 9, 10, 11, 12, 13, 14, 15, 16, 17, 18, 19, 20, 21, 22, 23, 24, 25]) (k := 3) (m' := 67108863) rfl (by kernel_rfl) (by kernel_rfl) (by kernel_rfl) (fm_cons rfl <| fm_cons rfl <| fm_cons rfl <| fm_cons rfl <| fm_cons rfl <| fm_cons rfl <| fm_cons rfl <| fm_cons rfl <| fm_cons rfl <| fm_cons rfl <| fm_cons rfl <| fm_cons rfl <| fm_cons rfl <| fm_cons rfl <| fm_cons rfl <| fm_cons rfl <| fm_cons rfl <| fm_cons rfl <| fm_cons rfl <| fm_cons rfl <| fm_cons rfl <| fm_cons rfl <| fm_cons rfl <| List.filterMap_nil) (by repeat first | exact Ext.refl _ | assumption | refine Ext.drew ?_ | refine Ext.alloc ?_ _ | refine Ext.setCell ?_ (by simp) | refine Ext.setCell ?_ (by simp; omega) | refine Ext.trans ?_ (by assumption)) ?_
    repeat (go_big_quiet_step ((fail)))
    refine wpQuiet_nil ?_
    refine rx_op 26 (k := 2) (m' := 134217727) rfl rfl (by kernel_rfl) (by kernel_rfl) ?_
    go_wp2_with ((go_at_call 33; refine (hasLead_c A B c d ns ls k _ (h.ext (hx.trans (by repeat first | exact Ext.refl _ | assumption | refine Ext.drew ?_ | refine Ext.alloc ?_ _ | refine Ext.setCell ?_ (by simp) | refine Ext.setCell ?_ (by simp; omega) | refine Ext.trans ?_ (by assumption))))).mono ?_; rw [hL']; rintro e w5 ⟨rfl, hb5⟩))
    refine rx_on (by repeat first | exact Ext.refl _ | assumption | refine Ext.drew ?_ | refine Ext.alloc ?_ _ | refine Ext.setCell ?_ (by simp) | refine Ext.setCell ?_ (by simp; omega) | refine Ext.trans ?_ (by assumption)) ?_
    refine rx_run (run := [27, 28]) (k := 0) (m' := 536870911) rfl (by kernel_rfl) (by kernel_rfl) (by kernel_rfl) (fm_cons rfl <| fm_cons rfl <| List.filterMap_nil) (by repeat first | exact Ext.refl _ | assumption | refine Ext.drew ?_ | refine Ext.alloc ?_ _ | refine Ext.setCell ?_ (by simp) | refine Ext.setCell ?_ (by simp; omega) | refine Ext.trans ?_ (by assumption)) ?_
    repeat (go_big_quiet_step ((fail)))
    refine wpQuiet_nil ?_
    refine rx_end (by kernel_rfl) ?_
    have hxq : Ext w2 w5 := (by repeat first | exact Ext.refl _ | assumption | refine Ext.drew ?_ | refine Ext.alloc ?_ _ | refine Ext.setCell ?_ (by simp) | refine Ext.setCell ?_ (by simp; omega) | refine Ext.trans ?_ (by assumption))
    have r0 := hxq.lit r0
    have r1 := hxq.lit r1
    have f0 := hxq.frz (by omega) f0
    have f1 := hxq.frz (by omega) f1
    have s0 := hxq.lit s0
    have s1 := hxq.lit s1
    have o1 := o1.ext hxq
    have o2 := o2.ext hxq
    go_wp2
    (try simp only [Exit.inBlock, Exit.then])
    refine bodyPost_ret (by simp [results, Try.results12, go_sem, r0, r1]; try rfl) rfl ?_
    exact ⟨_, _, ret_wb (by rw [HV.out, if_neg (by rw [HNO.out]; decide)]), by rw [HV.out, if_neg (by rw [HNO.out]; decide)]; exact (o1.gb2 (gb_set (gb_set (gb_refl _ (some b2)) 0 _) 1 _) (by omega)).more (by omega), by rw [HV.out, if_neg (by rw [HNO.out]; decide)]; exact (o2.gb2 (gb_set (gb_set (gb_refl _ (some b2)) 0 _) 1 _) (by omega)).more (by omega), Ext.setCell (p := ⟨b2, 1, none⟩) (Ext.setCell (p := ⟨b2, 0, none⟩) (hx.trans hxq) (by show w.heap.size ≤ b2; omega)) (by show w.heap.size ≤ b2; omega)⟩
end Go.Proofs.Ytfhemddonahjgaa
