import Derived.Test.YtfhemddonahjgaaZ1
import Derived.Test.YtfhemddonahjgaaY2
namespace Go.Proofs.Ytfhemddonahjgaa
open Go.RowKit Go.Sort Go.BigFrame

set_option maxRecDepth 100000 in
set_option maxHeartbeats 8000000 in
theorem Simplify_i (A B : Option Addr) (c d : Nat) (ns ls : List P2) (w : World) (h : Wn w A c B d ns ls) :
    Calls Try.prog 21 #[.agg #[.slice A ns.length c, .slice B ls.length d]] w fun e w' => ∃ v1 v2, e = .returned (.agg #[v1, v2]) ∧ OwP w' w.heap.size 36 v1 (vSimplify ns ls).1 ∧ OwP w' w.heap.size 52 v2 (vSimplify ns ls).2 ∧ Ext w w' := by
  have hnl := h.hl
  have hml := h.hm
  go_enter Try.func21, Try.ntmps21
  go_upto_region 1 with fail
  have k0 : ((w.alloc (.cells #[.slice A ns.length c, .slice B ls.length d] 32)).alloc (.cells #[.slice none 0 0, .slice none 0 0] 32)).cell? ⟨w.heap.size, 0, none⟩ = some (.slice A ns.length c) := by go_simp
  have k1 : ((w.alloc (.cells #[.slice A ns.length c, .slice B ls.length d] 32)).alloc (.cells #[.slice none 0 0, .slice none 0 0] 32)).cell? ⟨w.heap.size, 1, none⟩ = some (.slice B ls.length d) := by go_simp
  have r0 : ((w.alloc (.cells #[.slice A ns.length c, .slice B ls.length d] 32)).alloc (.cells #[.slice none 0 0, .slice none 0 0] 32)).cell? ⟨w.heap.size + 1, 0, none⟩ = some (.slice none 0 0) := by go_simp
  have r1 : ((w.alloc (.cells #[.slice A ns.length c, .slice B ls.length d] 32)).alloc (.cells #[.slice none 0 0, .slice none 0 0] 32)).cell? ⟨w.heap.size + 1, 1, none⟩ = some (.slice none 0 0) := by go_simp
  have f0 : ((w.alloc (.cells #[.slice A ns.length c, .slice B ls.length d] 32)).alloc (.cells #[.slice none 0 0, .slice none 0 0] 32)).frozen? ⟨w.heap.size + 1, 0, none⟩ = false := by go_simp
  have f1 : ((w.alloc (.cells #[.slice A ns.length c, .slice B ls.length d] 32)).alloc (.cells #[.slice none 0 0, .slice none 0 0] 32)).frozen? ⟨w.heap.size + 1, 1, none⟩ = false := by go_simp
  have hx : Ext w ((w.alloc (.cells #[.slice A ns.length c, .slice B ls.length d] 32)).alloc (.cells #[.slice none 0 0, .slice none 0 0] 32)) := ((Ext.refl _).alloc _).alloc _
  have hs0 : ((w.alloc (.cells #[.slice A ns.length c, .slice B ls.length d] 32)).alloc (.cells #[.slice none 0 0, .slice none 0 0] 32)).heap.size = w.heap.size + 1 + 1 := by simp
  generalize ((w.alloc (.cells #[.slice A ns.length c, .slice B ls.length d] 32)).alloc (.cells #[.slice none 0 0, .slice none 0 0] 32)) = w0 at *
  generalize hb1 : w.heap.size + 1 = b1 at *
  have HS0 := Lib.hid hs0
  have hb10 : b1 < w0.heap.size := by rw [hs0]; omega
  have hw0 : w.heap.size ≤ w0.heap.size := hx.size
  clear hs0
  go_wp2_with fail
  refine (copy_i_copyWindow _ _ _ _ ns ls _ (h.ext hx)).mono ?_
  rintro e w1 ⟨v1, v2, rfl, oa1, oa2, -, hb⟩
  obtain ⟨A1, c1, rfl, -, -, -⟩ := oa1.shape
  obtain ⟨A2, c2, rfl, -, -, -⟩ := oa2.shape
  go_upto_region 2 with fail
  have bt : Bk (w1.alloc (.cells #[.slice A1 ns.length c1, .slice A2 ls.length c2] 32)) w1.heap.size 32 [.slice A1 ns.length c1, .slice A2 ls.length c2] := Bk.new _ _ rfl
  have hx12 : Ext w1 (w1.alloc (.cells #[.slice A1 ns.length c1, .slice A2 ls.length c2] 32)) := (Ext.refl _).alloc _
  generalize (w1.alloc (.cells #[.slice A1 ns.length c1, .slice A2 ls.length c2] 32)) = w2 at *
  have hg4 := hb.size
  generalize hgs : w1.heap.size = g4 at *
  have o1 := oa1.ext hx12
  have o2 := oa2.ext hx12
  have hx02 := hb.trans hx12
  have HBT := Lib.hid bt
  clear oa1 oa2 bt hx12 hb hgs
  have k0 := hx02.lit k0
  have k1 := hx02.lit k1
  go_wp2_with fail
  refine (WindowOk_i' (h.ext (hx.trans hx02))).mono ?_
  rintro e w3 ⟨rfl, hb3⟩
  have hx3 := hx02.trans hb3
  have o1 := o1.ext hb3
  have o2 := o2.ext hb3
  have HB3 := Lib.hid (HBT.out.ext hb3)
  clear hx02 hb3 HBT k0 k1
  cases hwo : wok ns ls with
  | false =>
    have HR : Hid (vSimplify ns ls = (ns, ls)) := Lib.hid (smp_end (str_none hwo))
    clear hwo
    have r0 := hx3.lit r0
    have r1 := hx3.lit r1
    have f0 := hx3.frz hb10 f0
    have f1 := hx3.frz hb10 f1
    have t0 : w3.cell? ⟨g4, 0, none⟩ = some (.slice A1 ns.length c1) := HB3.out.cell 0
    have t1 : w3.cell? ⟨g4, 1, none⟩ = some (.slice A2 ls.length c2) := HB3.out.cell 1
    go_wp2
    (try simp only [Exit.inBlock, Exit.then])
    refine bodyPost_ret (by simp [results, Try.results21, go_sem, r0, r1]; try rfl) rfl ?_
    exact ⟨_, _, rfl, by rw [HR.out]; exact (o1.gb2 (gb_set (gb_set (gb_refl _ (some b1)) 0 _) 1 _) (by omega)).more (by omega), by rw [HR.out]; exact (o2.gb2 (gb_set (gb_set (gb_refl _ (some b1)) 0 _) 1 _) (by omega)).more (by omega), Ext.setCell (p := ⟨b1, 1, none⟩) (Ext.setCell (p := ⟨b1, 0, none⟩) (hx.trans hx3) (by show w.heap.size ≤ b1; omega)) (by show w.heap.size ≤ b1; omega)⟩
  | true =>
    clear hwo
    have HR0 := Lib.hid r0
    have HR1 := Lib.hid r1
    have HF0 := Lib.hid f0
    have HF1 := Lib.hid f1
    clear r0 r1 f0 f1 h
    go_wp2_with fail
    go_loopw [4, 5, 6] (fun _ _ _ wr => ∃ (nq lq : List P2) (A1 A2 : Option Addr) (c1 c2 : Nat), nq.length ≤ 2000000 ∧ lq.length ≤ 2000000 ∧ Hid (smp ns.length ns ls = smp nq.length nq lq) ∧ Hid (Bk wr g4 32 [.slice A1 nq.length c1, .slice A2 lq.length c2]) ∧ Hid (OwP wr w0.heap.size 36 (.slice A1 nq.length c1) nq) ∧ Hid (OwP wr w0.heap.size 52 (.slice A2 lq.length c2) lq) ∧ Ext w0 wr) (fun _ _ _ wr => wlen wr g4)
    case atStart => exact ⟨ns, ls, A1, A2, c1, c2, hnl, hml, Lib.hid rfl, HB3, Lib.hid o1, Lib.hid o2, hx3⟩
    case round =>
      clear o1 o2 HB3 hx3
      obtain ⟨nq, lq, A1, A2, c1, c2, hnq, hlq, HE, HB, HO1, HO2, hx3⟩ := hrel
      obtain ⟨w4, rfl⟩ : ∃ x : World, x = wr := ⟨_, rfl⟩
      have t0 : w4.cell? ⟨g4, 0, none⟩ = some (.slice A1 nq.length c1) := HB.out.cell 0
      have t1 : w4.cell? ⟨g4, 1, none⟩ = some (.slice A2 lq.length c2) := HB.out.cell 1
      have HWK := Lib.hid (wn_own HO1.out HO2.out (by omega) (by omega))
      have HBQ := HB
      go_wp2_with fail
      refine (StraightNodes_i _ _ _ _ nq lq _ HWK.out).mono ?_
      rintro e w6 ⟨ve, rfl, oe, hb6⟩
      have t0 := hb6.lit t0
      have t1 := hb6.lit t1
      have HWK := Lib.hid (HWK.out.ext hb6)
      have HB := Lib.hid (HB.out.ext hb6)
      have HO1 := Lib.hid (HO1.out.ext hb6)
      have HO2 := Lib.hid (HO2.out.ext hb6)
      have hx3 := hx3.trans hb6
      have hel := vStraightNodes_len nq lq
      clear hb6
      by_cases he0 : 0 < (vStraightNodes nq lq).length
      · have q : (((vStraightNodes nq lq).length : Int) == 0) = false := by rw [beq_eq_false_iff_ne]; omega
        obtain ⟨k, hk⟩ : ∃ k : Int, gi (vStraightNodes nq lq) (0 : Nat) = k := ⟨_, rfl⟩
        obtain ⟨⟨⟨rN, rL⟩, bb⟩, hv⟩ : ∃ Q, vJoinLeads nq lq k = Q := ⟨_, rfl⟩
        obtain ⟨ge, ce, eve, -, hge, -, xe, -⟩ := oe.gi_ he0
        rw [hk] at xe
        subst eve
        have hei : (0 : Int) < (vStraightNodes nq lq).length := by omega
        go_upto_region 7 with fail
        have d0 := cell_regrown t0
        have d1 := cell_regrown t1
        have d2 := cell_regrown xe
        cases bb with
        | false =>
          have HR : Hid (vSimplify ns ls = (nq, lq)) := Lib.hid (by unfold vSimplify; rw [HE.out, smp_stop hk hv])
          have HDR := Lib.hid hv
          clear hk hv t0 t1
          refine rx_open [(true, 0, some 20, 8), (true, 0, some 21, 16), (true, 2, some 22, 2097152), (true, 4, some 23, 4194304), (false, 9, some 24, 9437184), (true, 16, some 19, 16777216), (true, 32, some 25, 524288), (true, 32, some 26, 524288), (false, 0, some 5, 0), (false, 383, none, 33554464), (true, 1023, some 6, 67108864)] 0 11 mixd rfl (by kernel_rfl) (by kernel_rfl) (by kernel_rfl) ?_
          have hxc := Ext.drew (Ext.refl w6)
          obtain ⟨wz, hwz⟩ : ∃ x : World, x = w6.drew := ⟨_, rfl⟩
          rw [← hwz]
          rw [← hwz] at hxc
          clear hwz
          refine rx_run (run := [0, 1, 2, 3]) (k := 7) (m' := 15) rfl (by kernel_rfl) (by kernel_rfl) (by kernel_rfl) (fm_cons rfl <| fm_cons rfl <| fm_cons rfl <| fm_cons rfl <| List.filterMap_nil) hxc ?_
          repeat (go_big_quiet_step ((fail)))
          refine wpQuiet_nil ?_
          refine rx_two 4 8 (k := 6) (mi := 31) (mj := 271) rfl rfl rfl (by kernel_rfl) (by kernel_rfl) (by kernel_rfl) ?_ ?_
          · skip
            go_wp2_with (go_at_call 19; refine (JoinLeads_i _ _ _ _ nq lq k _ (HWK.out.ext hxc)).mono ?_; rw [HDR.out]; rintro e w9 ⟨v7, v8, rfl, o7, o8, hb9⟩; have HO7 := Lib.hid (o7.more (Nat.le_trans hx3.size hxc.size)); have HO8 := Lib.hid (o8.more (Nat.le_trans hx3.size hxc.size)); clear o7 o8; obtain ⟨A7, c7, rfl, -, -, -⟩ := HO7.out.shape; obtain ⟨A8, c8, rfl, -, -, -⟩ := HO8.out.shape)
            refine rx_on (hxc.trans hb9) ?_
            replace hxc := hxc.trans hb9
            clear hb9
            refine rx_run (run := [5, 6, 7]) (k := 3) (m' := 255) rfl (by kernel_rfl) (by kernel_rfl) (by kernel_rfl) (fm_cons rfl <| fm_cons rfl <| fm_cons rfl <| List.filterMap_nil) hxc ?_
            repeat (go_big_quiet_step ((fail)))
            refine wpQuiet_nil ?_
            refine rx_op 8 (k := 2) (m' := 511) rfl rfl (by kernel_rfl) (by kernel_rfl) ?_
            go_wp2
            refine rx_on (Ext.alloc hxc _) ?_
            have hg5 := hxc.size
            generalize hg5q : w9.heap.size = g5 at hg5
            refine rx_genB hg5q ?_
            intro wn hbn HB5
            have HB5 := Lib.hid HB5
            have HO7 := Lib.hid (HO7.out.ext hbn)
            have HO8 := Lib.hid (HO8.out.ext hbn)
            replace hxc := hxc.trans hbn
            clear hbn hg5q
            have a50 : wn.cell? ⟨g5, 0, none⟩ = some (.slice none 0 0) := HB5.out.cell 0
            have a51 : wn.cell? ⟨g5, 1, none⟩ = some (.slice none 0 0) := HB5.out.cell 1
            have f50 := HB5.out.froz 0
            have f51 := HB5.out.froz 1
            refine rx_op 9 (k := 1) (m' := 1023) rfl rfl (by kernel_rfl) (by kernel_rfl) ?_
            go_wp2
            have HB6 := Lib.hid ((HB5.out.set_ 0 (.slice A7 rN.length c7)).set_ 1 (.slice A8 rL.length c8))
            have HP7 := Lib.hid ((HO7.out.far HB5.out (by decide) 0 (.slice A7 rN.length c7)).far (HB5.out.set_ 0 _) (by decide) 1 (.slice A8 rL.length c8))
            have HP8 := Lib.hid ((HO8.out.far HB5.out (by decide) 0 (.slice A7 rN.length c7)).far (HB5.out.set_ 0 _) (by decide) 1 (.slice A8 rL.length c8))
            have hxd := Ext.setCell (p := ⟨g5, 1, none⟩) (v := .slice A8 rL.length c8) (Ext.setCell (p := ⟨g5, 0, none⟩) (v := .slice A7 rN.length c7) hxc hg5) hg5
            refine rx_on hxd ?_
            clear a50 a51 f50 f51 HB5 HO7 HO8 hxc
            generalize ((wn.setCell ⟨g5, 0, none⟩ (.slice A7 rN.length c7)).setCell ⟨g5, 1, none⟩ (.slice A8 rL.length c8)) = wy at *
            have hxc := hxd
            clear hxd
            refine rx_run (run := [10]) (k := 0) (m' := 2047) rfl (by kernel_rfl) (by kernel_rfl) (by kernel_rfl) (fm_cons rfl <| List.filterMap_nil) hxc ?_
            repeat (go_big_quiet_step ((fail)))
            refine wpQuiet_nil ?_
            refine rx_end (by kernel_rfl) ?_
            (have hxx := hx3.trans hxc; have t0 := (HB.out.ext hxc).cell 0; have t1 := (HB.out.ext hxc).cell 1; have HO1 := Lib.hid (HO1.out.ext hxc); have HO2 := Lib.hid (HO2.out.ext hxc); have r0 := hxx.lit HR0.out; have r1 := hxx.lit HR1.out; have f0 := hxx.frz hb10 HF0.out; have f1 := hxx.frz hb10 HF1.out; go_wp2; (try simp only [Exit.inBlock, Exit.then]); refine bodyPost_ret (by simp [results, Try.results21, go_sem, r0, r1]; try rfl) rfl ?_; exact ⟨_, _, rfl, by rw [HR.out]; exact (HO1.out.gb2 (gb_set (gb_set (gb_refl _ (some b1)) 0 _) 1 _) (by omega)).more (by omega), by rw [HR.out]; exact (HO2.out.gb2 (gb_set (gb_set (gb_refl _ (some b1)) 0 _) 1 _) (by omega)).more (by omega), Ext.setCell (p := ⟨b1, 1, none⟩) (Ext.setCell (p := ⟨b1, 0, none⟩) (hx.trans hxx) (by show w.heap.size ≤ b1; omega)) (by show w.heap.size ≤ b1; omega)⟩)
          · skip
            go_wp2
            refine rx_on (Ext.alloc hxc _) ?_
            have hg5 := hxc.size
            generalize hg5q : wz.heap.size = g5 at hg5
            refine rx_genB hg5q ?_
            intro wn hbn HB5
            have HB5 := Lib.hid HB5
            replace hxc := hxc.trans hbn
            clear hbn hg5q
            refine rx_op 4 (k := 5) (m' := 287) rfl rfl (by kernel_rfl) (by kernel_rfl) ?_
            go_wp2_with (go_at_call 19; refine (JoinLeads_i _ _ _ _ nq lq k _ (HWK.out.ext hxc)).mono ?_; rw [HDR.out]; rintro e w9 ⟨v7, v8, rfl, o7, o8, hb9⟩; have HO7 := Lib.hid (o7.more (Nat.le_trans hx3.size hxc.size)); have HO8 := Lib.hid (o8.more (Nat.le_trans hx3.size hxc.size)); clear o7 o8; obtain ⟨A7, c7, rfl, -, -, -⟩ := HO7.out.shape; obtain ⟨A8, c8, rfl, -, -, -⟩ := HO8.out.shape)
            refine rx_on (hxc.trans hb9) ?_
            replace hxc := hxc.trans hb9
            have HB5 := Lib.hid (HB5.out.ext hb9)
            clear hb9
            refine rx_run (run := [5, 6, 7]) (k := 2) (m' := 511) rfl (by kernel_rfl) (by kernel_rfl) (by kernel_rfl) (fm_cons rfl <| fm_cons rfl <| fm_cons rfl <| List.filterMap_nil) hxc ?_
            repeat (go_big_quiet_step ((fail)))
            refine wpQuiet_nil ?_
            have a50 : w9.cell? ⟨g5, 0, none⟩ = some (.slice none 0 0) := HB5.out.cell 0
            have a51 : w9.cell? ⟨g5, 1, none⟩ = some (.slice none 0 0) := HB5.out.cell 1
            have f50 := HB5.out.froz 0
            have f51 := HB5.out.froz 1
            refine rx_op 9 (k := 1) (m' := 1023) rfl rfl (by kernel_rfl) (by kernel_rfl) ?_
            go_wp2
            have HB6 := Lib.hid ((HB5.out.set_ 0 (.slice A7 rN.length c7)).set_ 1 (.slice A8 rL.length c8))
            have HP7 := Lib.hid ((HO7.out.far HB5.out (by decide) 0 (.slice A7 rN.length c7)).far (HB5.out.set_ 0 _) (by decide) 1 (.slice A8 rL.length c8))
            have HP8 := Lib.hid ((HO8.out.far HB5.out (by decide) 0 (.slice A7 rN.length c7)).far (HB5.out.set_ 0 _) (by decide) 1 (.slice A8 rL.length c8))
            have hxd := Ext.setCell (p := ⟨g5, 1, none⟩) (v := .slice A8 rL.length c8) (Ext.setCell (p := ⟨g5, 0, none⟩) (v := .slice A7 rN.length c7) hxc hg5) hg5
            refine rx_on hxd ?_
            clear a50 a51 f50 f51 HB5 HO7 HO8 hxc
            generalize ((w9.setCell ⟨g5, 0, none⟩ (.slice A7 rN.length c7)).setCell ⟨g5, 1, none⟩ (.slice A8 rL.length c8)) = wy at *
            have hxc := hxd
            clear hxd
            refine rx_run (run := [10]) (k := 0) (m' := 2047) rfl (by kernel_rfl) (by kernel_rfl) (by kernel_rfl) (fm_cons rfl <| List.filterMap_nil) hxc ?_
            repeat (go_big_quiet_step ((fail)))
            refine wpQuiet_nil ?_
            refine rx_end (by kernel_rfl) ?_
            (have hxx := hx3.trans hxc; have t0 := (HB.out.ext hxc).cell 0; have t1 := (HB.out.ext hxc).cell 1; have HO1 := Lib.hid (HO1.out.ext hxc); have HO2 := Lib.hid (HO2.out.ext hxc); have r0 := hxx.lit HR0.out; have r1 := hxx.lit HR1.out; have f0 := hxx.frz hb10 HF0.out; have f1 := hxx.frz hb10 HF1.out; go_wp2; (try simp only [Exit.inBlock, Exit.then]); refine bodyPost_ret (by simp [results, Try.results21, go_sem, r0, r1]; try rfl) rfl ?_; exact ⟨_, _, rfl, by rw [HR.out]; exact (HO1.out.gb2 (gb_set (gb_set (gb_refl _ (some b1)) 0 _) 1 _) (by omega)).more (by omega), by rw [HR.out]; exact (HO2.out.gb2 (gb_set (gb_set (gb_refl _ (some b1)) 0 _) 1 _) (by omega)).more (by omega), Ext.setCell (p := ⟨b1, 1, none⟩) (Ext.setCell (p := ⟨b1, 0, none⟩) (hx.trans hxx) (by show w.heap.size ≤ b1; omega)) (by show w.heap.size ≤ b1; omega)⟩)
        | true =>
          have HST := Lib.hid (smp_step he0 hk hv)
          obtain ⟨hl1, hl2⟩ := vJoin_yes hv
          have HDR := Lib.hid hv
          clear hk hv t0 t1
          refine rx_open [(true, 0, some 20, 8), (true, 0, some 21, 16), (true, 2, some 22, 2097152), (true, 4, some 23, 4194304), (false, 9, some 24, 9437184), (true, 16, some 19, 16777216), (true, 32, some 25, 524288), (true, 32, some 26, 524288), (false, 0, some 5, 0), (false, 383, none, 33554464), (true, 1023, some 6, 67108864)] 0 11 mixd rfl (by kernel_rfl) (by kernel_rfl) (by kernel_rfl) ?_
          have hxc := Ext.drew (Ext.refl w6)
          obtain ⟨wz, hwz⟩ : ∃ x : World, x = w6.drew := ⟨_, rfl⟩
          rw [← hwz]
          rw [← hwz] at hxc
          clear hwz
          refine rx_run (run := [0, 1, 2, 3]) (k := 7) (m' := 15) rfl (by kernel_rfl) (by kernel_rfl) (by kernel_rfl) (fm_cons rfl <| fm_cons rfl <| fm_cons rfl <| fm_cons rfl <| List.filterMap_nil) hxc ?_
          repeat (go_big_quiet_step ((fail)))
          refine wpQuiet_nil ?_
          refine rx_two 4 8 (k := 6) (mi := 31) (mj := 271) rfl rfl rfl (by kernel_rfl) (by kernel_rfl) (by kernel_rfl) ?_ ?_
          · skip
            go_wp2_with (go_at_call 19; refine (JoinLeads_i _ _ _ _ nq lq k _ (HWK.out.ext hxc)).mono ?_; rw [HDR.out]; rintro e w9 ⟨v7, v8, rfl, o7, o8, hb9⟩; have HO7 := Lib.hid (o7.more (Nat.le_trans hx3.size hxc.size)); have HO8 := Lib.hid (o8.more (Nat.le_trans hx3.size hxc.size)); clear o7 o8; obtain ⟨A7, c7, rfl, -, -, -⟩ := HO7.out.shape; obtain ⟨A8, c8, rfl, -, -, -⟩ := HO8.out.shape)
            refine rx_on (hxc.trans hb9) ?_
            replace hxc := hxc.trans hb9
            clear hb9
            refine rx_run (run := [5, 6, 7]) (k := 3) (m' := 255) rfl (by kernel_rfl) (by kernel_rfl) (by kernel_rfl) (fm_cons rfl <| fm_cons rfl <| fm_cons rfl <| List.filterMap_nil) hxc ?_
            repeat (go_big_quiet_step ((fail)))
            refine wpQuiet_nil ?_
            refine rx_op 8 (k := 2) (m' := 511) rfl rfl (by kernel_rfl) (by kernel_rfl) ?_
            go_wp2
            refine rx_on (Ext.alloc hxc _) ?_
            have hg5 := hxc.size
            generalize hg5q : w9.heap.size = g5 at hg5
            refine rx_genB hg5q ?_
            intro wn hbn HB5
            have HB5 := Lib.hid HB5
            have HO7 := Lib.hid (HO7.out.ext hbn)
            have HO8 := Lib.hid (HO8.out.ext hbn)
            replace hxc := hxc.trans hbn
            clear hbn hg5q
            have a50 : wn.cell? ⟨g5, 0, none⟩ = some (.slice none 0 0) := HB5.out.cell 0
            have a51 : wn.cell? ⟨g5, 1, none⟩ = some (.slice none 0 0) := HB5.out.cell 1
            have f50 := HB5.out.froz 0
            have f51 := HB5.out.froz 1
            refine rx_op 9 (k := 1) (m' := 1023) rfl rfl (by kernel_rfl) (by kernel_rfl) ?_
            go_wp2
            have HB6 := Lib.hid ((HB5.out.set_ 0 (.slice A7 rN.length c7)).set_ 1 (.slice A8 rL.length c8))
            have HP7 := Lib.hid ((HO7.out.far HB5.out (by decide) 0 (.slice A7 rN.length c7)).far (HB5.out.set_ 0 _) (by decide) 1 (.slice A8 rL.length c8))
            have HP8 := Lib.hid ((HO8.out.far HB5.out (by decide) 0 (.slice A7 rN.length c7)).far (HB5.out.set_ 0 _) (by decide) 1 (.slice A8 rL.length c8))
            have hxd := Ext.setCell (p := ⟨g5, 1, none⟩) (v := .slice A8 rL.length c8) (Ext.setCell (p := ⟨g5, 0, none⟩) (v := .slice A7 rN.length c7) hxc hg5) hg5
            refine rx_on hxd ?_
            clear a50 a51 f50 f51 HB5 HO7 HO8 hxc
            generalize ((wn.setCell ⟨g5, 0, none⟩ (.slice A7 rN.length c7)).setCell ⟨g5, 1, none⟩ (.slice A8 rL.length c8)) = wy at *
            have hxc := hxd
            clear hxd
            refine rx_run (run := [10]) (k := 0) (m' := 2047) rfl (by kernel_rfl) (by kernel_rfl) (by kernel_rfl) (fm_cons rfl <| List.filterMap_nil) hxc ?_
            repeat (go_big_quiet_step ((fail)))
            refine wpQuiet_nil ?_
            refine rx_end (by kernel_rfl) ?_
            (have hbq := HB.out.ext hxc; have t0 := hbq.cell 0; have t1 := hbq.cell 1; have ft0 := hbq.froz 0; have ft1 := hbq.froz 1; have u0 := HB6.out.cell 0; have u1 := HB6.out.cell 1; have HBX := Lib.hid ((hbq.set_ 0 (.slice A7 rN.length c7)).set_ 1 (.slice A8 rL.length c8)); have HX7 := Lib.hid ((HP7.out.far hbq (by decide) 0 (.slice A7 rN.length c7)).far (hbq.set_ 0 _) (by decide) 1 (.slice A8 rL.length c8)); have HX8 := Lib.hid ((HP8.out.far hbq (by decide) 0 (.slice A7 rN.length c7)).far (hbq.set_ 0 _) (by decide) 1 (.slice A8 rL.length c8)); have hxy := Ext.setCell (p := ⟨g4, 1, none⟩) (v := .slice A8 rL.length c8) (Ext.setCell (p := ⟨g4, 0, none⟩) (v := .slice A7 rN.length c7) (hx3.trans hxc) hg4) hg4; clear hbq; go_wp2; go_roundw; (case rel => exact ⟨rN, rL, A7, A8, c7, c8, by omega, by omega, Lib.hid (HE.out.trans HST.out), HBX, HX7, HX8, hxy⟩); (case measure => rw [wlen_eq HBX.out, wlen_eq HBQ.out]; omega))
          · skip
            go_wp2
            refine rx_on (Ext.alloc hxc _) ?_
            have hg5 := hxc.size
            generalize hg5q : wz.heap.size = g5 at hg5
            refine rx_genB hg5q ?_
            intro wn hbn HB5
            have HB5 := Lib.hid HB5
            replace hxc := hxc.trans hbn
            clear hbn hg5q
            refine rx_op 4 (k := 5) (m' := 287) rfl rfl (by kernel_rfl) (by kernel_rfl) ?_
            go_wp2_with (go_at_call 19; refine (JoinLeads_i _ _ _ _ nq lq k _ (HWK.out.ext hxc)).mono ?_; rw [HDR.out]; rintro e w9 ⟨v7, v8, rfl, o7, o8, hb9⟩; have HO7 := Lib.hid (o7.more (Nat.le_trans hx3.size hxc.size)); have HO8 := Lib.hid (o8.more (Nat.le_trans hx3.size hxc.size)); clear o7 o8; obtain ⟨A7, c7, rfl, -, -, -⟩ := HO7.out.shape; obtain ⟨A8, c8, rfl, -, -, -⟩ := HO8.out.shape)
            refine rx_on (hxc.trans hb9) ?_
            replace hxc := hxc.trans hb9
            have HB5 := Lib.hid (HB5.out.ext hb9)
            clear hb9
            refine rx_run (run := [5, 6, 7]) (k := 2) (m' := 511) rfl (by kernel_rfl) (by kernel_rfl) (by kernel_rfl) (fm_cons rfl <| fm_cons rfl <| fm_cons rfl <| List.filterMap_nil) hxc ?_
            repeat (go_big_quiet_step ((fail)))
            refine wpQuiet_nil ?_
            have a50 : w9.cell? ⟨g5, 0, none⟩ = some (.slice none 0 0) := HB5.out.cell 0
            have a51 : w9.cell? ⟨g5, 1, none⟩ = some (.slice none 0 0) := HB5.out.cell 1
            have f50 := HB5.out.froz 0
            have f51 := HB5.out.froz 1
            refine rx_op 9 (k := 1) (m' := 1023) rfl rfl (by kernel_rfl) (by kernel_rfl) ?_
            go_wp2
            have HB6 := Lib.hid ((HB5.out.set_ 0 (.slice A7 rN.length c7)).set_ 1 (.slice A8 rL.length c8))
            have HP7 := Lib.hid ((HO7.out.far HB5.out (by decide) 0 (.slice A7 rN.length c7)).far (HB5.out.set_ 0 _) (by decide) 1 (.slice A8 rL.length c8))
            have HP8 := Lib.hid ((HO8.out.far HB5.out (by decide) 0 (.slice A7 rN.length c7)).far (HB5.out.set_ 0 _) (by decide) 1 (.slice A8 rL.length c8))
            have hxd := Ext.setCell (p := ⟨g5, 1, none⟩) (v := .slice A8 rL.length c8) (Ext.setCell (p := ⟨g5, 0, none⟩) (v := .slice A7 rN.length c7) hxc hg5) hg5
            refine rx_on hxd ?_
            clear a50 a51 f50 f51 HB5 HO7 HO8 hxc
            generalize ((w9.setCell ⟨g5, 0, none⟩ (.slice A7 rN.length c7)).setCell ⟨g5, 1, none⟩ (.slice A8 rL.length c8)) = wy at *
            have hxc := hxd
            clear hxd
            refine rx_run (run := [10]) (k := 0) (m' := 2047) rfl (by kernel_rfl) (by kernel_rfl) (by kernel_rfl) (fm_cons rfl <| List.filterMap_nil) hxc ?_
            repeat (go_big_quiet_step ((fail)))
            refine wpQuiet_nil ?_
            refine rx_end (by kernel_rfl) ?_
            (have hbq := HB.out.ext hxc; have t0 := hbq.cell 0; have t1 := hbq.cell 1; have ft0 := hbq.froz 0; have ft1 := hbq.froz 1; have u0 := HB6.out.cell 0; have u1 := HB6.out.cell 1; have HBX := Lib.hid ((hbq.set_ 0 (.slice A7 rN.length c7)).set_ 1 (.slice A8 rL.length c8)); have HX7 := Lib.hid ((HP7.out.far hbq (by decide) 0 (.slice A7 rN.length c7)).far (hbq.set_ 0 _) (by decide) 1 (.slice A8 rL.length c8)); have HX8 := Lib.hid ((HP8.out.far hbq (by decide) 0 (.slice A7 rN.length c7)).far (hbq.set_ 0 _) (by decide) 1 (.slice A8 rL.length c8)); have hxy := Ext.setCell (p := ⟨g4, 1, none⟩) (v := .slice A8 rL.length c8) (Ext.setCell (p := ⟨g4, 0, none⟩) (v := .slice A7 rN.length c7) (hx3.trans hxc) hg4) hg4; clear hbq; go_wp2; go_roundw; (case rel => exact ⟨rN, rL, A7, A8, c7, c8, by omega, by omega, Lib.hid (HE.out.trans HST.out), HBX, HX7, HX8, hxy⟩); (case measure => rw [wlen_eq HBX.out, wlen_eq HBQ.out]; omega))
      · have he1 : (vStraightNodes nq lq).length = 0 := by omega
        obtain ⟨Ae, ce, rfl, -, -, -⟩ := oe.shape
        have HR : Hid (vSimplify ns ls = (nq, lq)) := Lib.hid (by unfold vSimplify; rw [HE.out, smp_end he1])
        have q : (((vStraightNodes nq lq).length : Int) == 0) = true := by rw [beq_iff_eq]; omega
        have r0 := hx3.lit HR0.out
        have r1 := hx3.lit HR1.out
        have f0 := hx3.frz hb10 HF0.out
        have f1 := hx3.frz hb10 HF1.out
        go_wp2
        (try simp only [Exit.inBlock, Exit.then])
        refine bodyPost_ret (by simp [results, Try.results21, go_sem, r0, r1]; try rfl) rfl ?_
        exact ⟨_, _, rfl, by rw [HR.out]; exact (HO1.out.gb2 (gb_set (gb_set (gb_refl _ (some b1)) 0 _) 1 _) (by omega)).more (by omega), by rw [HR.out]; exact (HO2.out.gb2 (gb_set (gb_set (gb_refl _ (some b1)) 0 _) 1 _) (by omega)).more (by omega), Ext.setCell (p := ⟨b1, 1, none⟩) (Ext.setCell (p := ⟨b1, 0, none⟩) (hx.trans hx3) (by show w.heap.size ≤ b1; omega)) (by show w.heap.size ≤ b1; omega)⟩
end Go.Proofs.Ytfhemddonahjgaa
