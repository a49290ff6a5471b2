import Derived.Test.YtdhmjhoaegdfjaaS16
namespace Go.Proofs.Ytdhmjhoaegdfjaa
open Go.RowKit Go.Sort Go.BigFrame Pl
set_option maxRecDepth 100000 in
set_option maxHeartbeats 16000000 in
theorem FnLoose_t (w : World) (A : Option Addr) (n c : Nat) (hn : n ≤ 9223372036854775807) (xs : List Int) (hby : ∀ x ∈ xs, 0 ≤ x ∧ x < 256) (hs : Sl w w.heap.size 1 A n (xs.map (Value.int .u8))) :
    Calls Try.prog 7 #[.slice A n c] w fun e w' => e = .returned (.bool true) ∧ Ext w w' := by
  by_cases hbig : (1048576 : Int) < n
  · skip
    go_enter Try.func7, Try.ntmps7
    go_wp2_with fail
    refine (big_c A n c _).mono ?_
    rw [decide_eq_true (show (1048576 : Int) < (n : Int) by omega)]
    rintro e w' ⟨rfl, rfl⟩
    go_wp2
    go_ret
    exact ⟨rfl, Ext.refl _⟩
  · have HSL := Lib.hid hs
    have HBY := Lib.hid hby
    clear hs hby
    go_enter Try.func7, Try.ntmps7
    go_wp2_with fail
    refine (big_c A n c _).mono ?_
    rw [decide_eq_false (show ¬ (1048576 : Int) < (n : Int) by omega)]
    rintro e w' ⟨rfl, rfl⟩
    go_wp2_with fail
    refine (DrawWhole_s _ A n c hn xs HSL.out).mono ?_
    rintro e w1 ⟨v1, v2, ns, ls, rfl, o1, o2, hwh, hb⟩
    have hlk := wok_len (whole_wok hwh)
    obtain ⟨A1, c1, rfl, -, -, -⟩ := o1.shape
    obtain ⟨A2, c2, rfl, -, -, -⟩ := o2.shape
    go_upto_region 4 with fail
    have hb2 := (Ext.refl w1).alloc (.cells #[.slice A1 ns.length c1, .slice A2 ls.length c2] 27)
    have HB : Hid (Bk (w1.alloc (.cells #[.slice A1 ns.length c1, .slice A2 ls.length c2] 27)) w1.heap.size 27 [.slice A1 ns.length c1, .slice A2 ls.length c2]) := Lib.hid (Bk.new _ _ rfl)
    have hwn : Wn (w1.alloc (.cells #[.slice A1 ns.length c1, .slice A2 ls.length c2] 27)) A1 c1 A2 c2 ns ls := wn_own (OwP.ext2 o1 hb2) (OwP.ext2 o2 hb2) (by omega) (by omega)
    have HWN := Lib.hid hwn
    have HX0 := Lib.hid (hb.trans hb2)
    clear o1 o2 hb hb2 hwn
    generalize (w1.alloc (.cells #[.slice A1 ns.length c1, .slice A2 ls.length c2] 27)) = w2 at *
    generalize w1.heap.size = g3 at *
    have k0 := HB.out.cell 0
    have k1 := HB.out.cell 1
    simp only [List.getElem?_cons_zero, List.getElem?_cons_succ] at k0 k1
    have HWH := Lib.hid hwh
    have hlw := wok_len (whole_wok hwh)
    have h2n := two_nodes hwh
    clear hwh HB
    replace HX0 := HX0
    go_wp2_with fail
    refine (LooseLeads_i _ _ _ _ ns ls _ HWN.out).mono ?_
    rintro e w4 ⟨v4, rfl, h4, hb⟩
    have hl4 := vLooseLeads_len ns ls
    obtain ⟨AL, cL, rfl, -, -, hinL⟩ := h4.shape
    replace HX0 := Lib.hid (HX0.out.trans hb)
    replace HWN := Lib.hid (HWN.out.ext hb)
    replace k0 := hb.lit k0
    replace k1 := hb.lit k1
    clear hb h4
    go_wp2_with fail
    go_loopw [5] (fun i wr => ∃ k : Nat, k ≤ ls.length ∧ i = .int .i64 k ∧ Ext w4 wr) (fun i _ => ls.length - (intOf i).toNat)
    case atStart => exact ⟨0, by omega, rfl, Ext.refl _⟩
    case round =>
      obtain ⟨k, hk, rfl, hxs⟩ := hrel
      obtain ⟨w5, rfl⟩ : ∃ x : World, x = wr := ⟨_, rfl⟩
      have j0 := hxs.lit k0
      have j1 := hxs.lit k1
      by_cases hlt : k < ls.length
      · have hki : (k : Int) < ls.length := by omega
        have HDL := Lib.hid (drop_lead HWH.out hlt)
        have HH := Lib.hid (has_loose (ns := ns) hlt)
        have HPD := Lib.hid (parts_drop HWH.out hlt)
        go_wp2_with fail
        refine (DropLead_s _ _ _ _ ns ls (k : Int) _ (HWN.out.ext hxs)).mono ?_
        rw [HDL.out]
        rintro e w6 ⟨v1, v2, rfl, o1, o2, hb⟩
        have hlx : (ls.take k ++ ls.drop (k + 1)).length ≤ 20 := by rw [List.length_append, List.length_take, List.length_drop]; omega
        replace o1 : OwP w6 _ _ v1 ns := o1
        replace o2 : OwP w6 _ _ v2 (ls.take k ++ ls.drop (k + 1)) := o2
        obtain ⟨A3, c3, rfl, -, -, -⟩ := o1.shape
        obtain ⟨A4, c4, rfl, -, -, -⟩ := o2.shape
        generalize ls.take k ++ ls.drop (k + 1) = X at *
        go_upto_region 9 with fail
        have hb2 := (Ext.refl w6).alloc (.cells #[.slice A3 ns.length c3, .slice A4 X.length c4] 27)
        have HBx : Hid (Bk (w6.alloc (.cells #[.slice A3 ns.length c3, .slice A4 X.length c4] 27)) w6.heap.size 27 [.slice A3 ns.length c3, .slice A4 X.length c4]) := Lib.hid (Bk.new _ _ rfl)
        have HWx : Hid (Wn (w6.alloc (.cells #[.slice A3 ns.length c3, .slice A4 X.length c4] 27)) A3 c3 A4 c4 ns X) := Lib.hid (wn_own (OwP.ext2 o1 hb2) (OwP.ext2 o2 hb2) (by omega) (by omega))
        replace hxs := hxs.trans (hb.trans hb2)
        replace j0 := (hb.trans hb2).lit j0
        replace j1 := (hb.trans hb2).lit j1
        clear o1 o2 hb hb2 HDL
        generalize (w6.alloc (.cells #[.slice A3 ns.length c3, .slice A4 X.length c4] 27)) = w7 at *
        generalize w6.heap.size = g6 at *
        have x0 := HBx.out.cell 0
        have x1 := HBx.out.cell 1
        simp only [List.getElem?_cons_zero, List.getElem?_cons_succ] at x0 x1
        clear HBx
        generalize hbb : vIsLoose ns ls (k : Int) = b at *
        have HIL := Lib.hid hbb
        clear hbb
        generalize hcp : cparts ns X = cp at *
        have HCP := Lib.hid hcp
        clear hcp
        go_cut [47] (fun s wx => s = .bool false ∧ Ext w7 wx)
        case first =>
          have d0 := cell_regrown j0
          have d1 := cell_regrown j1
          have d2 := cell_regrown x0
          have d3 := cell_regrown x1
          cases b with
          | true =>
            have q1 : (cp == 2) = true := HPD.out
            refine rx_open [(true, 0, some 32, 8), (true, 0, some 33, 32), (false, 3, some 34, 12884901888), (true, 0, some 35, 16), (true, 0, some 36, 32), (false, 28, some 37, 103079215104), (true, 36, some 38, 154618822656), (true, 96, some 39, 274877906944), (true, 128, some 40, 549755813904), (true, 128, some 41, 549755813920), (false, 896, some 42, 3848290697216), (true, 128, some 43, 549755813952), (false, 3200, some 44, 9345848836096), (true, 4224, some 45, 18141941858304), (true, 9344, some 46, 40132174413824), (true, 16512, some 47, 70918499991552)] 0 16 mixd rfl (by kernel_rfl) (by kernel_rfl) (by kernel_rfl) ?_
            refine rx_run (run := [0, 1, 3, 4]) (k := 12) (m' := 27) rfl (by kernel_rfl) (by kernel_rfl) (by kernel_rfl) (fm_cons rfl <| fm_cons rfl <| fm_cons rfl <| fm_cons rfl <| List.filterMap_nil) (by repeat first | exact Ext.refl _ | assumption | refine Ext.drew ?_ | refine Ext.alloc ?_ _ | refine Ext.setCell ?_ (by simp) | refine Ext.setCell ?_ (by simp; omega) | refine Ext.trans ?_ (by assumption)) ?_
            repeat (go_big_quiet_step ((fail)))
            refine wpQuiet_nil ?_
            refine rx_op 2 (k := 11) (m' := 31) rfl rfl (by kernel_rfl) (by kernel_rfl) ?_
            go_wp2_with ((go_at_call 50; refine (IsLoose_i _ _ _ _ ns ls (k : Int) _ (HWN.out.ext (hxs.trans (by repeat first | exact Ext.refl _ | assumption | refine Ext.drew ?_ | refine Ext.alloc ?_ _ | refine Ext.setCell ?_ (by simp) | refine Ext.setCell ?_ (by simp; omega) | refine Ext.trans ?_ (by assumption))))).mono ?_; rw [HIL.out]; rintro e wa ⟨rfl, hba⟩))
            refine rx_on (by repeat first | exact Ext.refl _ | assumption | refine Ext.drew ?_ | refine Ext.alloc ?_ _ | refine Ext.setCell ?_ (by simp) | refine Ext.setCell ?_ (by simp; omega) | refine Ext.trans ?_ (by assumption)) ?_
            refine rx_op 5 (k := 10) (m' := 63) rfl rfl (by kernel_rfl) (by kernel_rfl) ?_
            go_wp2_with ((go_at_call 29; refine (has_c _ _ (vLooseLeads ns ls) (k : Int) _ (by omega) (hinL.ext (hxs.trans (by repeat first | exact Ext.refl _ | assumption | refine Ext.drew ?_ | refine Ext.alloc ?_ _ | refine Ext.setCell ?_ (by simp) | refine Ext.setCell ?_ (by simp; omega) | refine Ext.trans ?_ (by assumption))))).mono ?_; rw [HH.out]; rintro e wb ⟨rfl, rfl⟩))
            refine rx_on (by repeat first | exact Ext.refl _ | assumption | refine Ext.drew ?_ | refine Ext.alloc ?_ _ | refine Ext.setCell ?_ (by simp) | refine Ext.setCell ?_ (by simp; omega) | refine Ext.trans ?_ (by assumption)) ?_
            refine rx_run (run := [6, 7, 8, 9, 11]) (k := 5) (m' := 3071) rfl (by kernel_rfl) (by kernel_rfl) (by kernel_rfl) (fm_cons rfl <| fm_cons rfl <| fm_cons rfl <| fm_cons rfl <| fm_cons rfl <| List.filterMap_nil) (by repeat first | exact Ext.refl _ | assumption | refine Ext.drew ?_ | refine Ext.alloc ?_ _ | refine Ext.setCell ?_ (by simp) | refine Ext.setCell ?_ (by simp; omega) | refine Ext.trans ?_ (by assumption)) ?_
            repeat (go_big_quiet_step ((fail)))
            refine wpQuiet_nil ?_
            refine rx_op 10 (k := 4) (m' := 4095) rfl rfl (by kernel_rfl) (by kernel_rfl) ?_
            go_wp2_with ((go_at_call 29; refine (has_c _ _ (vLooseLeads ns ls) (k : Int) _ (by omega) (hinL.ext (hxs.trans (by repeat first | exact Ext.refl _ | assumption | refine Ext.drew ?_ | refine Ext.alloc ?_ _ | refine Ext.setCell ?_ (by simp) | refine Ext.setCell ?_ (by simp; omega) | refine Ext.trans ?_ (by assumption))))).mono ?_; rw [HH.out]; rintro e wb ⟨rfl, rfl⟩))
            refine rx_on (by repeat first | exact Ext.refl _ | assumption | refine Ext.drew ?_ | refine Ext.alloc ?_ _ | refine Ext.setCell ?_ (by simp) | refine Ext.setCell ?_ (by simp; omega) | refine Ext.trans ?_ (by assumption)) ?_
            refine rx_op 12 (k := 3) (m' := 8191) rfl rfl (by kernel_rfl) (by kernel_rfl) ?_
            go_wp2_with ((go_at_call 51; refine (CountParts_s _ _ _ _ ns X _ (HWx.out.ext (by repeat first | exact Ext.refl _ | assumption | refine Ext.drew ?_ | refine Ext.alloc ?_ _ | refine Ext.setCell ?_ (by simp) | refine Ext.setCell ?_ (by simp; omega) | refine Ext.trans ?_ (by assumption)))).mono ?_; rw [HCP.out]; rintro e wd ⟨rfl, hbd⟩))
            refine rx_on (by repeat first | exact Ext.refl _ | assumption | refine Ext.drew ?_ | refine Ext.alloc ?_ _ | refine Ext.setCell ?_ (by simp) | refine Ext.setCell ?_ (by simp; omega) | refine Ext.trans ?_ (by assumption)) ?_
            refine rx_run (run := [13, 14, 15]) (k := 0) (m' := 65535) rfl (by kernel_rfl) (by kernel_rfl) (by kernel_rfl) (fm_cons rfl <| fm_cons rfl <| fm_cons rfl <| List.filterMap_nil) (by repeat first | exact Ext.refl _ | assumption | refine Ext.drew ?_ | refine Ext.alloc ?_ _ | refine Ext.setCell ?_ (by simp) | refine Ext.setCell ?_ (by simp; omega) | refine Ext.trans ?_ (by assumption)) ?_
            repeat (go_big_quiet_step ((fail)))
            refine wpQuiet_nil ?_
            refine rx_end (by kernel_rfl) ?_
            go_wp2
            go_meet
            exact ⟨rfl, (by repeat first | exact Ext.refl _ | assumption | refine Ext.drew ?_ | refine Ext.alloc ?_ _ | refine Ext.setCell ?_ (by simp) | refine Ext.setCell ?_ (by simp; omega) | refine Ext.trans ?_ (by assumption))⟩
          | false =>
            have q1 : (cp == 2) = false := HPD.out
            refine rx_open [(true, 0, some 32, 8), (true, 0, some 33, 32), (false, 3, some 34, 12884901888), (true, 0, some 35, 16), (true, 0, some 36, 32), (false, 28, some 37, 103079215104), (true, 36, some 38, 154618822656), (true, 96, some 39, 274877906944), (true, 128, some 40, 549755813904), (true, 128, some 41, 549755813920), (false, 896, some 42, 3848290697216), (true, 128, some 43, 549755813952), (false, 3200, some 44, 9345848836096), (true, 4224, some 45, 18141941858304), (true, 9344, some 46, 40132174413824), (true, 16512, some 47, 70918499991552)] 0 16 mixd rfl (by kernel_rfl) (by kernel_rfl) (by kernel_rfl) ?_
            refine rx_run (run := [0, 1, 3, 4]) (k := 12) (m' := 27) rfl (by kernel_rfl) (by kernel_rfl) (by kernel_rfl) (fm_cons rfl <| fm_cons rfl <| fm_cons rfl <| fm_cons rfl <| List.filterMap_nil) (by repeat first | exact Ext.refl _ | assumption | refine Ext.drew ?_ | refine Ext.alloc ?_ _ | refine Ext.setCell ?_ (by simp) | refine Ext.setCell ?_ (by simp; omega) | refine Ext.trans ?_ (by assumption)) ?_
            repeat (go_big_quiet_step ((fail)))
            refine wpQuiet_nil ?_
            refine rx_op 2 (k := 11) (m' := 31) rfl rfl (by kernel_rfl) (by kernel_rfl) ?_
            go_wp2_with ((go_at_call 50; refine (IsLoose_i _ _ _ _ ns ls (k : Int) _ (HWN.out.ext (hxs.trans (by repeat first | exact Ext.refl _ | assumption | refine Ext.drew ?_ | refine Ext.alloc ?_ _ | refine Ext.setCell ?_ (by simp) | refine Ext.setCell ?_ (by simp; omega) | refine Ext.trans ?_ (by assumption))))).mono ?_; rw [HIL.out]; rintro e wa ⟨rfl, hba⟩))
            refine rx_on (by repeat first | exact Ext.refl _ | assumption | refine Ext.drew ?_ | refine Ext.alloc ?_ _ | refine Ext.setCell ?_ (by simp) | refine Ext.setCell ?_ (by simp; omega) | refine Ext.trans ?_ (by assumption)) ?_
            refine rx_op 5 (k := 10) (m' := 63) rfl rfl (by kernel_rfl) (by kernel_rfl) ?_
            go_wp2_with ((go_at_call 29; refine (has_c _ _ (vLooseLeads ns ls) (k : Int) _ (by omega) (hinL.ext (hxs.trans (by repeat first | exact Ext.refl _ | assumption | refine Ext.drew ?_ | refine Ext.alloc ?_ _ | refine Ext.setCell ?_ (by simp) | refine Ext.setCell ?_ (by simp; omega) | refine Ext.trans ?_ (by assumption))))).mono ?_; rw [HH.out]; rintro e wb ⟨rfl, rfl⟩))
            refine rx_on (by repeat first | exact Ext.refl _ | assumption | refine Ext.drew ?_ | refine Ext.alloc ?_ _ | refine Ext.setCell ?_ (by simp) | refine Ext.setCell ?_ (by simp; omega) | refine Ext.trans ?_ (by assumption)) ?_
            refine rx_run (run := [6, 7, 8, 9, 11]) (k := 5) (m' := 3071) rfl (by kernel_rfl) (by kernel_rfl) (by kernel_rfl) (fm_cons rfl <| fm_cons rfl <| fm_cons rfl <| fm_cons rfl <| fm_cons rfl <| List.filterMap_nil) (by repeat first | exact Ext.refl _ | assumption | refine Ext.drew ?_ | refine Ext.alloc ?_ _ | refine Ext.setCell ?_ (by simp) | refine Ext.setCell ?_ (by simp; omega) | refine Ext.trans ?_ (by assumption)) ?_
            repeat (go_big_quiet_step ((fail)))
            refine wpQuiet_nil ?_
            refine rx_op 10 (k := 4) (m' := 4095) rfl rfl (by kernel_rfl) (by kernel_rfl) ?_
            go_wp2_with ((go_at_call 29; refine (has_c _ _ (vLooseLeads ns ls) (k : Int) _ (by omega) (hinL.ext (hxs.trans (by repeat first | exact Ext.refl _ | assumption | refine Ext.drew ?_ | refine Ext.alloc ?_ _ | refine Ext.setCell ?_ (by simp) | refine Ext.setCell ?_ (by simp; omega) | refine Ext.trans ?_ (by assumption))))).mono ?_; rw [HH.out]; rintro e wb ⟨rfl, rfl⟩))
            refine rx_on (by repeat first | exact Ext.refl _ | assumption | refine Ext.drew ?_ | refine Ext.alloc ?_ _ | refine Ext.setCell ?_ (by simp) | refine Ext.setCell ?_ (by simp; omega) | refine Ext.trans ?_ (by assumption)) ?_
            refine rx_op 12 (k := 3) (m' := 8191) rfl rfl (by kernel_rfl) (by kernel_rfl) ?_
            go_wp2_with ((go_at_call 51; refine (CountParts_s _ _ _ _ ns X _ (HWx.out.ext (by repeat first | exact Ext.refl _ | assumption | refine Ext.drew ?_ | refine Ext.alloc ?_ _ | refine Ext.setCell ?_ (by simp) | refine Ext.setCell ?_ (by simp; omega) | refine Ext.trans ?_ (by assumption)))).mono ?_; rw [HCP.out]; rintro e wd ⟨rfl, hbd⟩))
            refine rx_on (by repeat first | exact Ext.refl _ | assumption | refine Ext.drew ?_ | refine Ext.alloc ?_ _ | refine Ext.setCell ?_ (by simp) | refine Ext.setCell ?_ (by simp; omega) | refine Ext.trans ?_ (by assumption)) ?_
            refine rx_run (run := [13, 14, 15]) (k := 0) (m' := 65535) rfl (by kernel_rfl) (by kernel_rfl) (by kernel_rfl) (fm_cons rfl <| fm_cons rfl <| fm_cons rfl <| List.filterMap_nil) (by repeat first | exact Ext.refl _ | assumption | refine Ext.drew ?_ | refine Ext.alloc ?_ _ | refine Ext.setCell ?_ (by simp) | refine Ext.setCell ?_ (by simp; omega) | refine Ext.trans ?_ (by assumption)) ?_
            repeat (go_big_quiet_step ((fail)))
            refine wpQuiet_nil ?_
            refine rx_end (by kernel_rfl) ?_
            go_wp2
            go_meet
            exact ⟨rfl, (by repeat first | exact Ext.refl _ | assumption | refine Ext.drew ?_ | refine Ext.alloc ?_ _ | refine Ext.setCell ?_ (by simp) | refine Ext.setCell ?_ (by simp; omega) | refine Ext.trans ?_ (by assumption))⟩
        case rest =>
          obtain ⟨rfl, hb⟩ := hcut
          replace hxs := hxs.trans hb
          clear hb
          go_wp2
          go_roundw
          case rel => exact ⟨k + 1, by omega, by go_num, hxs⟩
          case measure => first | (simp [intOf]; done) | (simp [intOf]; omega)
      · obtain rfl : k = ls.length := by omega
        clear hk hlt
        have hb := hxs
        replace HX0 := Lib.hid (HX0.out.trans hb)
        replace HWN := Lib.hid (HWN.out.ext hb)
        replace k0 := hb.lit k0
        replace k1 := hb.lit k1
        have hinL2 := hinL.ext hxs
        clear hb hxs hinL
        have HPE := Lib.hid (prune_eq HWH.out)
        obtain ⟨p1, p2, p3⟩ := prn_ok ns.length HWH.out (Nat.le_refl _)
        have hpl := wok_len (whole_wok p1)
        have HPF := Lib.hid (cfaces_prn HWH.out)
        have HPT := Lib.hid (total_prn ns.length HWH.out)
        have HPW := Lib.hid p1
        have hpn : (prn ns.length ns ls).1.length ≤ 2 ∨ (vEndNodes (prn ns.length ns ls).1 (prn ns.length ns ls).2).length = 0 := p3
        clear p1 p2 p3
        go_wp2_with fail
        refine (PruneEnds_i _ _ _ _ ns ls _ HWN.out).mono ?_
        rw [HPE.out]
        rintro e w6 ⟨v1, v2, rfl, o1, o2, hb⟩
        replace o1 : OwP w6 _ _ v1 (prn ns.length ns ls).1 := o1
        replace o2 : OwP w6 _ _ v2 (prn ns.length ns ls).2 := o2
        clear HPE
        generalize (prn ns.length ns ls).1 = pn at *
        generalize (prn ns.length ns ls).2 = pl at *
        obtain ⟨A5, c5, rfl, -, -, -⟩ := o1.shape
        obtain ⟨A6, c6, rfl, -, -, -⟩ := o2.shape
        go_upto_region 12 with fail
        have hb2 := (Ext.refl w6).alloc (.cells #[.slice A5 pn.length c5, .slice A6 pl.length c6] 27)
        have HBp : Hid (Bk (w6.alloc (.cells #[.slice A5 pn.length c5, .slice A6 pl.length c6] 27)) w6.heap.size 27 [.slice A5 pn.length c5, .slice A6 pl.length c6]) := Lib.hid (Bk.new _ _ rfl)
        have HWp : Hid (Wn (w6.alloc (.cells #[.slice A5 pn.length c5, .slice A6 pl.length c6] 27)) A5 c5 A6 c6 pn pl) := Lib.hid (wn_own (OwP.ext2 o1 hb2) (OwP.ext2 o2 hb2) (by omega) (by omega))
        replace hb := hb.trans hb2
        replace HX0 := Lib.hid (HX0.out.trans hb)
        replace HWN := Lib.hid (HWN.out.ext hb)
        replace k0 := hb.lit k0
        replace k1 := hb.lit k1
        replace hinL2 := hinL2.ext hb
        clear o1 o2 hb hb2
        generalize (w6.alloc (.cells #[.slice A5 pn.length c5, .slice A6 pl.length c6] 27)) = w7 at *
        generalize w6.heap.size = g8 at *
        have x0 := HBp.out.cell 0
        have x1 := HBp.out.cell 1
        simp only [List.getElem?_cons_zero, List.getElem?_cons_succ] at x0 x1
        clear HBp
        have hen := vEndNodes_len pn pl
        go_cut [85] (fun s wx => s = .bool false ∧ Ext w7 wx)
        case first =>
          have d0 := cell_regrown k0
          have d1 := cell_regrown k1
          have d2 := cell_regrown x0
          have d3 := cell_regrown x1
          by_cases c2 : pn.length ≤ 2
          · have q1 : decide ((pn.length : Int) > 2) = false := decide_eq_false (by omega)
            refine rx_open [(true, 0, some 53, 512), (true, 1, some 54, 9007199254740992), (true, 2, some 55, 18014398509481984), (true, 4, some 56, 36028797018964224), (true, 12, some 57, 108086391056891904), (true, 20, some 58, 180143985094819840), (true, 36, some 59, 324259173170675712), (true, 68, some 60, 612489549322387456), (true, 128, some 61, 1152921504606847232), (false, 384, some 62, 3458764513820540928), (true, 640, some 63, 5764607523034234880), (true, 1152, some 64, 10376293541461622784), (true, 2180, some 65, 19635694375335362560), (true, 4100, some 66, 36929516944438067200), (true, 8704, some 67, 73786976294838206464), (true, 16384, some 68, 147573952589676413184), (false, 49152, some 69, 442721857769029238784), (true, 16384, some 70, 147573952589676412936), (false, 212992, some 71, 1328165573307087716352), (true, 344064, some 72, 3099053004383204671488), (true, 540672, some 73, 4869940435459321626624), (true, 1310720, some 74, 9444732965739290427392), (true, 2097152, some 75, 18889465931478580855040), (false, 6291456, some 76, 56668397794435742564352), (true, 2097152, some 77, 18889465931478580854792), (false, 27262976, some 78, 170005193383307227693056), (true, 44040192, some 79, 396678784561050197950464), (true, 69206016, some 80, 623352375738793168207872), (true, 167772160, some 81, 1208925819614629174706176), (true, 268435456, some 82, 2417851639229258349412608), (false, 805306368, some 83, 7253554917687775048237056), (true, 1342177280, some 84, 12089258196146291747061760), (true, 2415919104, some 85, 21760664753063325144711168)] 0 33 mixd rfl (by kernel_rfl) (by kernel_rfl) (by kernel_rfl) ?_
            refine rx_run (run := [0, 1, 2, 3, 4, 5, 6, 7, 8]) (k := 24) (m' := 511) rfl (by kernel_rfl) (by kernel_rfl) (by kernel_rfl) (fm_cons rfl <| fm_cons rfl <| fm_cons rfl <| fm_cons rfl <| fm_cons rfl <| fm_cons rfl <| fm_cons rfl <| fm_cons rfl <| fm_cons rfl <| List.filterMap_nil) (by repeat first | exact Ext.refl _ | assumption | refine Ext.drew ?_ | refine Ext.alloc ?_ _ | refine Ext.setCell ?_ (by simp) | refine Ext.setCell ?_ (by simp; omega) | refine Ext.trans ?_ (by assumption)) ?_
            repeat (go_big_quiet_step ((fail)))
            refine wpQuiet_nil ?_
            refine rx_op 9 (k := 23) (m' := 1023) rfl rfl (by kernel_rfl) (by kernel_rfl) ?_
            go_wp2_with ((go_at_call 53; refine (EndNodes_i _ _ _ _ pn pl _ (HWp.out.ext (by repeat first | exact Ext.refl _ | assumption | refine Ext.drew ?_ | refine Ext.alloc ?_ _ | refine Ext.setCell ?_ (by simp) | refine Ext.setCell ?_ (by simp; omega) | refine Ext.trans ?_ (by assumption)))).mono ?_; rintro e wa ⟨va, rfl, hA, hba⟩; obtain ⟨Aa, ca, rfl, -, -, -⟩ := hA.shape; rw [HZ.out]))
            refine rx_on (by repeat first | exact Ext.refl _ | assumption | refine Ext.drew ?_ | refine Ext.alloc ?_ _ | refine Ext.setCell ?_ (by simp) | refine Ext.setCell ?_ (by simp; omega) | refine Ext.trans ?_ (by assumption)) ?_
            refine rx_run (run := [10, 11, 12, 13, 14, 15, 17]) (k := 16) (m' := 196607) rfl (by kernel_rfl) (by kernel_rfl) (by kernel_rfl) (fm_cons rfl <| fm_cons rfl <| fm_cons rfl <| fm_cons rfl <| fm_cons rfl <| fm_cons rfl <| fm_cons rfl <| List.filterMap_nil) (by repeat first | exact Ext.refl _ | assumption | refine Ext.drew ?_ | refine Ext.alloc ?_ _ | refine Ext.setCell ?_ (by simp) | refine Ext.setCell ?_ (by simp; omega) | refine Ext.trans ?_ (by assumption)) ?_
            repeat (go_big_quiet_step ((fail)))
            refine wpQuiet_nil ?_
            refine rx_op 16 (k := 15) (m' := 262143) rfl rfl (by kernel_rfl) (by kernel_rfl) ?_
            go_wp2_with ((go_at_call 54; refine (CountFaces_s _ _ _ _ pn pl _ (HWp.out.ext (by repeat first | exact Ext.refl _ | assumption | refine Ext.drew ?_ | refine Ext.alloc ?_ _ | refine Ext.setCell ?_ (by simp) | refine Ext.setCell ?_ (by simp; omega) | refine Ext.trans ?_ (by assumption)))).mono ?_; rw [HPF.out]; rintro e wb ⟨rfl, hbb⟩))
            refine rx_on (by repeat first | exact Ext.refl _ | assumption | refine Ext.drew ?_ | refine Ext.alloc ?_ _ | refine Ext.setCell ?_ (by simp) | refine Ext.setCell ?_ (by simp; omega) | refine Ext.trans ?_ (by assumption)) ?_
            refine rx_op 18 (k := 14) (m' := 524287) rfl rfl (by kernel_rfl) (by kernel_rfl) ?_
            go_wp2_with ((go_at_call 54; refine (CountFaces_s _ _ _ _ ns ls _ (HWN.out.ext (by repeat first | exact Ext.refl _ | assumption | refine Ext.drew ?_ | refine Ext.alloc ?_ _ | refine Ext.setCell ?_ (by simp) | refine Ext.setCell ?_ (by simp; omega) | refine Ext.trans ?_ (by assumption)))).mono ?_; rintro e wd ⟨rfl, hbd⟩))
            refine rx_on (by repeat first | exact Ext.refl _ | assumption | refine Ext.drew ?_ | refine Ext.alloc ?_ _ | refine Ext.setCell ?_ (by simp) | refine Ext.setCell ?_ (by simp; omega) | refine Ext.trans ?_ (by assumption)) ?_
            refine rx_run (run := [19, 20, 21, 22, 24]) (k := 9) (m' := 25165823) rfl (by kernel_rfl) (by kernel_rfl) (by kernel_rfl) (fm_cons rfl <| fm_cons rfl <| fm_cons rfl <| fm_cons rfl <| fm_cons rfl <| List.filterMap_nil) (by repeat first | exact Ext.refl _ | assumption | refine Ext.drew ?_ | refine Ext.alloc ?_ _ | refine Ext.setCell ?_ (by simp) | refine Ext.setCell ?_ (by simp; omega) | refine Ext.trans ?_ (by assumption)) ?_
            repeat (go_big_quiet_step ((fail)))
            refine wpQuiet_nil ?_
            refine rx_op 23 (k := 8) (m' := 33554431) rfl rfl (by kernel_rfl) (by kernel_rfl) ?_
            go_wp2_with ((go_at_call 55; refine (TotalArea_s _ _ _ _ pn pl _ (HWp.out.ext (by repeat first | exact Ext.refl _ | assumption | refine Ext.drew ?_ | refine Ext.alloc ?_ _ | refine Ext.setCell ?_ (by simp) | refine Ext.setCell ?_ (by simp; omega) | refine Ext.trans ?_ (by assumption)))).mono ?_; rw [HPT.out]; rintro e we ⟨rfl, hbe⟩))
            refine rx_on (by repeat first | exact Ext.refl _ | assumption | refine Ext.drew ?_ | refine Ext.alloc ?_ _ | refine Ext.setCell ?_ (by simp) | refine Ext.setCell ?_ (by simp; omega) | refine Ext.trans ?_ (by assumption)) ?_
            refine rx_op 25 (k := 7) (m' := 67108863) rfl rfl (by kernel_rfl) (by kernel_rfl) ?_
            go_wp2_with ((go_at_call 55; refine (TotalArea_s _ _ _ _ ns ls _ (HWN.out.ext (by repeat first | exact Ext.refl _ | assumption | refine Ext.drew ?_ | refine Ext.alloc ?_ _ | refine Ext.setCell ?_ (by simp) | refine Ext.setCell ?_ (by simp; omega) | refine Ext.trans ?_ (by assumption)))).mono ?_; rintro e wf ⟨rfl, hbf⟩))
            refine rx_on (by repeat first | exact Ext.refl _ | assumption | refine Ext.drew ?_ | refine Ext.alloc ?_ _ | refine Ext.setCell ?_ (by simp) | refine Ext.setCell ?_ (by simp; omega) | refine Ext.trans ?_ (by assumption)) ?_
            refine rx_run (run := [26, 27, 28, 29]) (k := 3) (m' := 1073741823) rfl (by kernel_rfl) (by kernel_rfl) (by kernel_rfl) (fm_cons rfl <| fm_cons rfl <| fm_cons rfl <| fm_cons rfl <| List.filterMap_nil) (by repeat first | exact Ext.refl _ | assumption | refine Ext.drew ?_ | refine Ext.alloc ?_ _ | refine Ext.setCell ?_ (by simp) | refine Ext.setCell ?_ (by simp; omega) | refine Ext.trans ?_ (by assumption)) ?_
            repeat (go_big_quiet_step ((fail)))
            refine wpQuiet_nil ?_
            refine rx_op 30 (k := 2) (m' := 2147483647) rfl rfl (by kernel_rfl) (by kernel_rfl) ?_
            go_wp2_with ((go_at_call 25; refine (IsWhole_s _ _ _ _ pn pl _ (HWp.out.ext (by repeat first | exact Ext.refl _ | assumption | refine Ext.drew ?_ | refine Ext.alloc ?_ _ | refine Ext.setCell ?_ (by simp) | refine Ext.setCell ?_ (by simp; omega) | refine Ext.trans ?_ (by assumption)))).mono ?_; rw [HPW.out]; rintro e wg ⟨rfl, hbg⟩))
            refine rx_on (by repeat first | exact Ext.refl _ | assumption | refine Ext.drew ?_ | refine Ext.alloc ?_ _ | refine Ext.setCell ?_ (by simp) | refine Ext.setCell ?_ (by simp; omega) | refine Ext.trans ?_ (by assumption)) ?_
            refine rx_run (run := [31, 32]) (k := 0) (m' := 8589934591) rfl (by kernel_rfl) (by kernel_rfl) (by kernel_rfl) (fm_cons rfl <| fm_cons rfl <| List.filterMap_nil) (by repeat first | exact Ext.refl _ | assumption | refine Ext.drew ?_ | refine Ext.alloc ?_ _ | refine Ext.setCell ?_ (by simp) | refine Ext.setCell ?_ (by simp; omega) | refine Ext.trans ?_ (by assumption)) ?_
            repeat (go_big_quiet_step ((fail)))
            refine wpQuiet_nil ?_
            refine rx_end (by kernel_rfl) ?_
            go_wp2
            go_meet
            exact ⟨rfl, (by repeat first | exact Ext.refl _ | assumption | refine Ext.drew ?_ | refine Ext.alloc ?_ _ | refine Ext.setCell ?_ (by simp) | refine Ext.setCell ?_ (by simp; omega) | refine Ext.trans ?_ (by assumption))⟩
          · have q1 : decide ((pn.length : Int) > 2) = true := decide_eq_true (by omega)
            have HZ : Hid ((vEndNodes pn pl).length = 0) := Lib.hid (by omega)
            refine rx_open [(true, 0, some 53, 512), (true, 1, some 54, 9007199254740992), (true, 2, some 55, 18014398509481984), (true, 4, some 56, 36028797018964224), (true, 12, some 57, 108086391056891904), (true, 20, some 58, 180143985094819840), (true, 36, some 59, 324259173170675712), (true, 68, some 60, 612489549322387456), (true, 128, some 61, 1152921504606847232), (false, 384, some 62, 3458764513820540928), (true, 640, some 63, 5764607523034234880), (true, 1152, some 64, 10376293541461622784), (true, 2180, some 65, 19635694375335362560), (true, 4100, some 66, 36929516944438067200), (true, 8704, some 67, 73786976294838206464), (true, 16384, some 68, 147573952589676413184), (false, 49152, some 69, 442721857769029238784), (true, 16384, some 70, 147573952589676412936), (false, 212992, some 71, 1328165573307087716352), (true, 344064, some 72, 3099053004383204671488), (true, 540672, some 73, 4869940435459321626624), (true, 1310720, some 74, 9444732965739290427392), (true, 2097152, some 75, 18889465931478580855040), (false, 6291456, some 76, 56668397794435742564352), (true, 2097152, some 77, 18889465931478580854792), (false, 27262976, some 78, 170005193383307227693056), (true, 44040192, some 79, 396678784561050197950464), (true, 69206016, some 80, 623352375738793168207872), (true, 167772160, some 81, 1208925819614629174706176), (true, 268435456, some 82, 2417851639229258349412608), (false, 805306368, some 83, 7253554917687775048237056), (true, 1342177280, some 84, 12089258196146291747061760), (true, 2415919104, some 85, 21760664753063325144711168)] 0 33 mixd rfl (by kernel_rfl) (by kernel_rfl) (by kernel_rfl) ?_
            refine rx_run (run := [0, 1, 2, 3, 4, 5, 6, 7, 8]) (k := 24) (m' := 511) rfl (by kernel_rfl) (by kernel_rfl) (by kernel_rfl) (fm_cons rfl <| fm_cons rfl <| fm_cons rfl <| fm_cons rfl <| fm_cons rfl <| fm_cons rfl <| fm_cons rfl <| fm_cons rfl <| fm_cons rfl <| List.filterMap_nil) (by repeat first | exact Ext.refl _ | assumption | refine Ext.drew ?_ | refine Ext.alloc ?_ _ | refine Ext.setCell ?_ (by simp) | refine Ext.setCell ?_ (by simp; omega) | refine Ext.trans ?_ (by assumption)) ?_
            repeat (go_big_quiet_step ((fail)))
            refine wpQuiet_nil ?_
            refine rx_op 9 (k := 23) (m' := 1023) rfl rfl (by kernel_rfl) (by kernel_rfl) ?_
            go_wp2_with ((go_at_call 53; refine (EndNodes_i _ _ _ _ pn pl _ (HWp.out.ext (by repeat first | exact Ext.refl _ | assumption | refine Ext.drew ?_ | refine Ext.alloc ?_ _ | refine Ext.setCell ?_ (by simp) | refine Ext.setCell ?_ (by simp; omega) | refine Ext.trans ?_ (by assumption)))).mono ?_; rintro e wa ⟨va, rfl, hA, hba⟩; obtain ⟨Aa, ca, rfl, -, -, -⟩ := hA.shape; rw [HZ.out]))
            refine rx_on (by repeat first | exact Ext.refl _ | assumption | refine Ext.drew ?_ | refine Ext.alloc ?_ _ | refine Ext.setCell ?_ (by simp) | refine Ext.setCell ?_ (by simp; omega) | refine Ext.trans ?_ (by assumption)) ?_
            refine rx_run (run := [10, 11, 12, 13, 14, 15, 17]) (k := 16) (m' := 196607) rfl (by kernel_rfl) (by kernel_rfl) (by kernel_rfl) (fm_cons rfl <| fm_cons rfl <| fm_cons rfl <| fm_cons rfl <| fm_cons rfl <| fm_cons rfl <| fm_cons rfl <| List.filterMap_nil) (by repeat first | exact Ext.refl _ | assumption | refine Ext.drew ?_ | refine Ext.alloc ?_ _ | refine Ext.setCell ?_ (by simp) | refine Ext.setCell ?_ (by simp; omega) | refine Ext.trans ?_ (by assumption)) ?_
            repeat (go_big_quiet_step ((fail)))
            refine wpQuiet_nil ?_
            refine rx_op 16 (k := 15) (m' := 262143) rfl rfl (by kernel_rfl) (by kernel_rfl) ?_
            go_wp2_with ((go_at_call 54; refine (CountFaces_s _ _ _ _ pn pl _ (HWp.out.ext (by repeat first | exact Ext.refl _ | assumption | refine Ext.drew ?_ | refine Ext.alloc ?_ _ | refine Ext.setCell ?_ (by simp) | refine Ext.setCell ?_ (by simp; omega) | refine Ext.trans ?_ (by assumption)))).mono ?_; rw [HPF.out]; rintro e wb ⟨rfl, hbb⟩))
            refine rx_on (by repeat first | exact Ext.refl _ | assumption | refine Ext.drew ?_ | refine Ext.alloc ?_ _ | refine Ext.setCell ?_ (by simp) | refine Ext.setCell ?_ (by simp; omega) | refine Ext.trans ?_ (by assumption)) ?_
            refine rx_op 18 (k := 14) (m' := 524287) rfl rfl (by kernel_rfl) (by kernel_rfl) ?_
            go_wp2_with ((go_at_call 54; refine (CountFaces_s _ _ _ _ ns ls _ (HWN.out.ext (by repeat first | exact Ext.refl _ | assumption | refine Ext.drew ?_ | refine Ext.alloc ?_ _ | refine Ext.setCell ?_ (by simp) | refine Ext.setCell ?_ (by simp; omega) | refine Ext.trans ?_ (by assumption)))).mono ?_; rintro e wd ⟨rfl, hbd⟩))
            refine rx_on (by repeat first | exact Ext.refl _ | assumption | refine Ext.drew ?_ | refine Ext.alloc ?_ _ | refine Ext.setCell ?_ (by simp) | refine Ext.setCell ?_ (by simp; omega) | refine Ext.trans ?_ (by assumption)) ?_
            refine rx_run (run := [19, 20, 21, 22, 24]) (k := 9) (m' := 25165823) rfl (by kernel_rfl) (by kernel_rfl) (by kernel_rfl) (fm_cons rfl <| fm_cons rfl <| fm_cons rfl <| fm_cons rfl <| fm_cons rfl <| List.filterMap_nil) (by repeat first | exact Ext.refl _ | assumption | refine Ext.drew ?_ | refine Ext.alloc ?_ _ | refine Ext.setCell ?_ (by simp) | refine Ext.setCell ?_ (by simp; omega) | refine Ext.trans ?_ (by assumption)) ?_
            repeat (go_big_quiet_step ((fail)))
            refine wpQuiet_nil ?_
            refine rx_op 23 (k := 8) (m' := 33554431) rfl rfl (by kernel_rfl) (by kernel_rfl) ?_
            go_wp2_with ((go_at_call 55; refine (TotalArea_s _ _ _ _ pn pl _ (HWp.out.ext (by repeat first | exact Ext.refl _ | assumption | refine Ext.drew ?_ | refine Ext.alloc ?_ _ | refine Ext.setCell ?_ (by simp) | refine Ext.setCell ?_ (by simp; omega) | refine Ext.trans ?_ (by assumption)))).mono ?_; rw [HPT.out]; rintro e we ⟨rfl, hbe⟩))
            refine rx_on (by repeat first | exact Ext.refl _ | assumption | refine Ext.drew ?_ | refine Ext.alloc ?_ _ | refine Ext.setCell ?_ (by simp) | refine Ext.setCell ?_ (by simp; omega) | refine Ext.trans ?_ (by assumption)) ?_
            refine rx_op 25 (k := 7) (m' := 67108863) rfl rfl (by kernel_rfl) (by kernel_rfl) ?_
            go_wp2_with ((go_at_call 55; refine (TotalArea_s _ _ _ _ ns ls _ (HWN.out.ext (by repeat first | exact Ext.refl _ | assumption | refine Ext.drew ?_ | refine Ext.alloc ?_ _ | refine Ext.setCell ?_ (by simp) | refine Ext.setCell ?_ (by simp; omega) | refine Ext.trans ?_ (by assumption)))).mono ?_; rintro e wf ⟨rfl, hbf⟩))
            refine rx_on (by repeat first | exact Ext.refl _ | assumption | refine Ext.drew ?_ | refine Ext.alloc ?_ _ | refine Ext.setCell ?_ (by simp) | refine Ext.setCell ?_ (by simp; omega) | refine Ext.trans ?_ (by assumption)) ?_
            refine rx_run (run := [26, 27, 28, 29]) (k := 3) (m' := 1073741823) rfl (by kernel_rfl) (by kernel_rfl) (by kernel_rfl) (fm_cons rfl <| fm_cons rfl <| fm_cons rfl <| fm_cons rfl <| List.filterMap_nil) (by repeat first | exact Ext.refl _ | assumption | refine Ext.drew ?_ | refine Ext.alloc ?_ _ | refine Ext.setCell ?_ (by simp) | refine Ext.setCell ?_ (by simp; omega) | refine Ext.trans ?_ (by assumption)) ?_
            repeat (go_big_quiet_step ((fail)))
            refine wpQuiet_nil ?_
            refine rx_op 30 (k := 2) (m' := 2147483647) rfl rfl (by kernel_rfl) (by kernel_rfl) ?_
            go_wp2_with ((go_at_call 25; refine (IsWhole_s _ _ _ _ pn pl _ (HWp.out.ext (by repeat first | exact Ext.refl _ | assumption | refine Ext.drew ?_ | refine Ext.alloc ?_ _ | refine Ext.setCell ?_ (by simp) | refine Ext.setCell ?_ (by simp; omega) | refine Ext.trans ?_ (by assumption)))).mono ?_; rw [HPW.out]; rintro e wg ⟨rfl, hbg⟩))
            refine rx_on (by repeat first | exact Ext.refl _ | assumption | refine Ext.drew ?_ | refine Ext.alloc ?_ _ | refine Ext.setCell ?_ (by simp) | refine Ext.setCell ?_ (by simp; omega) | refine Ext.trans ?_ (by assumption)) ?_
            refine rx_run (run := [31, 32]) (k := 0) (m' := 8589934591) rfl (by kernel_rfl) (by kernel_rfl) (by kernel_rfl) (fm_cons rfl <| fm_cons rfl <| List.filterMap_nil) (by repeat first | exact Ext.refl _ | assumption | refine Ext.drew ?_ | refine Ext.alloc ?_ _ | refine Ext.setCell ?_ (by simp) | refine Ext.setCell ?_ (by simp; omega) | refine Ext.trans ?_ (by assumption)) ?_
            repeat (go_big_quiet_step ((fail)))
            refine wpQuiet_nil ?_
            refine rx_end (by kernel_rfl) ?_
            go_wp2
            go_meet
            exact ⟨rfl, (by repeat first | exact Ext.refl _ | assumption | refine Ext.drew ?_ | refine Ext.alloc ?_ _ | refine Ext.setCell ?_ (by simp) | refine Ext.setCell ?_ (by simp; omega) | refine Ext.trans ?_ (by assumption))⟩
        case rest =>
          obtain ⟨rfl, hb⟩ := hcut
          obtain ⟨w8, rfl⟩ : ∃ x : World, x = wc := ⟨_, rfl⟩
          replace HX0 := Lib.hid (HX0.out.trans hb)
          replace HWN := Lib.hid (HWN.out.ext hb)
          replace k0 := hb.lit k0
          replace k1 := hb.lit k1
          replace hinL2 := hinL2.ext hb
          clear hb x0 x1 HWp HPF HPT HPW hpn hpl hen
          have hdiv : (ns.length : Int) ≠ 0 := by omega
          have hdiv2 : ¬ (ns.length : Int) = 0 := by omega
          go_upto_region 14 with fail
          go_cut [10] (fun s wx => (∃ v : Nat, v < ns.length ∧ s = .int .i64 (v : Int)) ∧ Ext w8 wx)
          case first =>
            have d0 := cell_regrown k0
            refine rx_open [(true, 0, some 86, 1), (false, 1, some 87, 77371252455336267181195264), (true, 0, some 88, 8), (true, 4, some 89, 309485009821345068724781056), (true, 8, some 90, 618970019642690137449562112), (true, 18, some 91, 1392682544196052809261514752), (true, 63, some 10, 2475880078570760549798248448)] 0 7 mixd rfl (by kernel_rfl) (by kernel_rfl) (by kernel_rfl) ?_
            refine rx_run (run := [0, 2, 3, 4]) (k := 3) (m' := 29) rfl (by kernel_rfl) (by kernel_rfl) (by kernel_rfl) (fm_cons rfl <| fm_cons rfl <| fm_cons rfl <| fm_cons rfl <| List.filterMap_nil) (by repeat first | exact Ext.refl _ | assumption | refine Ext.drew ?_ | refine Ext.alloc ?_ _ | refine Ext.setCell ?_ (by simp) | refine Ext.setCell ?_ (by simp; omega) | refine Ext.trans ?_ (by assumption)) ?_
            repeat (go_big_quiet_step ((fail)))
            refine wpQuiet_nil ?_
            refine rx_op 1 (k := 2) (m' := 31) rfl rfl (by kernel_rfl) (by kernel_rfl) ?_
            go_wp2_with ((go_at_call 15; refine (at_c A n c 0 (by omega) (by omega) xs HBY.out _ (Sl.ext HSL.out (HX0.out.trans (by repeat first | exact Ext.refl _ | assumption | refine Ext.drew ?_ | refine Ext.alloc ?_ _ | refine Ext.setCell ?_ (by simp) | refine Ext.setCell ?_ (by simp; omega) | refine Ext.trans ?_ (by assumption))))).mono ?_; rintro e w6 ⟨x, hx9, rfl, rfl⟩))
            refine rx_on (by repeat first | exact Ext.refl _ | assumption | refine Ext.drew ?_ | refine Ext.alloc ?_ _ | refine Ext.setCell ?_ (by simp) | refine Ext.setCell ?_ (by simp; omega) | refine Ext.trans ?_ (by assumption)) ?_
            refine rx_run (run := [5, 6]) (k := 0) (m' := 127) rfl (by kernel_rfl) (by kernel_rfl) (by kernel_rfl) (fm_cons rfl <| fm_cons rfl <| List.filterMap_nil) (by repeat first | exact Ext.refl _ | assumption | refine Ext.drew ?_ | refine Ext.alloc ?_ _ | refine Ext.setCell ?_ (by simp) | refine Ext.setCell ?_ (by simp; omega) | refine Ext.trans ?_ (by assumption)) ?_
            repeat (go_big_quiet_step ((fail)))
            refine wpQuiet_nil ?_
            refine rx_end (by kernel_rfl) ?_
            go_wp2
            go_meet
            exact ⟨⟨x % ns.length, Nat.mod_lt _ (by omega), by go_num⟩, (by repeat first | exact Ext.refl _ | assumption | refine Ext.drew ?_ | refine Ext.alloc ?_ _ | refine Ext.setCell ?_ (by simp) | refine Ext.setCell ?_ (by simp; omega) | refine Ext.trans ?_ (by assumption))⟩
          case rest =>
            obtain ⟨⟨v, hv, rfl⟩, hb⟩ := hcut
            obtain ⟨w9, rfl⟩ : ∃ x : World, x = wc := ⟨_, rfl⟩
            replace HX0 := Lib.hid (HX0.out.trans hb)
            replace HWN := Lib.hid (HWN.out.ext hb)
            replace k0 := hb.lit k0
            replace k1 := hb.lit k1
            replace hinL2 := hinL2.ext hb
            clear hb
            obtain ⟨e1, e2, e3⟩ := drop_node HWH.out hv
            have HDN := Lib.hid e1
            have HE2 := Lib.hid e2
            have HE3 := Lib.hid e3
            clear e1 e2 e3
            go_wp2_with fail
            refine (DropNode_i _ _ _ _ ns ls (v : Int) _ HWN.out).mono ?_
            rw [HDN.out]
            rintro e wa ⟨v1, v2, rfl, o1, o2, hb⟩
            replace o1 : OwP wa _ _ v1 (wnN ns (v : Int) ns.length) := o1
            replace o2 : OwP wa _ _ v2 (wnL ls (v : Int) ls.length) := o2
            clear HDN
            generalize wnN ns (v : Int) ns.length = dn at *
            generalize wnL ls (v : Int) ls.length = dl at *
            obtain ⟨A7, c7, rfl, -, -, -⟩ := o1.shape
            obtain ⟨A8, c8, rfl, -, -, -⟩ := o2.shape
            go_upto_region 16 with fail
            have hb2 := (Ext.refl wa).alloc (.cells #[.slice A7 dn.length c7, .slice A8 dl.length c8] 27)
            have HBd : Hid (Bk (wa.alloc (.cells #[.slice A7 dn.length c7, .slice A8 dl.length c8] 27)) wa.heap.size 27 [.slice A7 dn.length c7, .slice A8 dl.length c8]) := Lib.hid (Bk.new _ _ rfl)
            replace hb := hb.trans hb2
            replace HX0 := Lib.hid (HX0.out.trans hb)
            replace HWN := Lib.hid (HWN.out.ext hb)
            replace k0 := hb.lit k0
            replace k1 := hb.lit k1
            clear o1 o2 hb hb2
            generalize (wa.alloc (.cells #[.slice A7 dn.length c7, .slice A8 dl.length c8] 27)) = wb at *
            generalize wa.heap.size = g9 at *
            have x0 := HBd.out.cell 0
            have x1 := HBd.out.cell 1
            simp only [List.getElem?_cons_zero, List.getElem?_cons_succ] at x0 x1
            clear HBd
            have q1 : ((dn.length : Int) == (ns.length : Int) - 1) = true := by rw [beq_iff_eq]; exact HE2.out
            have q2 : ((dl.length : Int) == (ls.length : Int) - degOf ns ls (v : Int)) = true := by rw [beq_iff_eq]; exact HE3.out
            have HT : Hid (vIsTight ns ls = (((vLooseLeads ns ls).length : Int) == 0)) := Lib.hid (by
              rw [tight_eq HWH.out, Bool.eq_iff_iff, decide_eq_true_eq, beq_iff_eq]; omega)
            have hdg : -1 ≤ degOf ns ls (v : Int) ∧ degOf ns ls (v : Int) ≤ 20 := by
              have := leadsAt_len ns ls (v : Int)
              unfold degOf; split <;> omega
            have d0 := cell_regrown k0
            have d1 := cell_regrown k1
            have d2 := cell_regrown x0
            have d3 := cell_regrown x1
            refine rx_open [(true, 0, some 98, 4096), (true, 1, some 99, 316912650057057350374175801344), (true, 2, some 100, 633825300114114700748351604736), (true, 6, some 101, 1901475900342344102245054808064), (true, 10, some 102, 3169126500570573503741758013440), (true, 2, some 103, 633825300114114700748351602696), (true, 34, some 104, 10775030101939949912721977245696), (true, 66, some 105, 20916234903765785124695602888704), (true, 130, some 106, 41198644507417455548642854174720), (true, 274, some 107, 86834066115633714002524169568256), (true, 514, some 108, 162893102129327478092326361890816), (true, 1026, some 109, 324518553658426726783156020576256), (true, 2048, some 110, 649037107316853453566312041154560), (true, 6144, some 111, 1947111321950560360698936123457536), (true, 10240, some 112, 3245185536584267267831560205762560), (true, 2048, some 113, 649037107316853453566312041152520), (true, 34816, some 114, 11033630824386508710627304699592704), (true, 67584, some 115, 21418224541456163967688297358032896), (true, 2048, some 116, 649037107316853453566312041152520), (true, 2048, some 117, 649037107316853453566312041153536), (false, 788480, some 118, 249879286316988579623030135843717120), (true, 1181696, some 119, 374494410921824442707762047744999424), (true, 2115584, some 120, 670455331858309617534000338510544896), (true, 4196352, some 121, 1329877032892232726357373372321497088), (true, 9437184, some 122, 2658455991569831745807614120560689152), (true, 16777216, some 123, 5316911983139663491615228241121378312), (false, 50331648, some 124, 15950735949418990474845684723364134912), (true, 16777216, some 125, 5316911983139663491615228241121378320), (true, 150994944, some 126, 47852207848256971424537054170092404736), (true, 285212672, some 127, 90387503713374279357458880099063431168), (true, 620756992, some 128, 196725743376167549189763444921490997248), (true, 1090519040, some 129, 345599278904078126954989835672889589760), (true, 4294967295, some 2, 680564733841876926926749214863536422912)] 0 33 mixd rfl (by kernel_rfl) (by kernel_rfl) (by kernel_rfl) ?_
            refine rx_run (run := [0, 1, 2, 3, 4, 5, 6, 7, 8, 9, 10, 11, 12, 13, 14, 15, 16, 17, 18, 19]) (k := 13) (m' := 1048575) rfl (by kernel_rfl) (by kernel_rfl) (by kernel_rfl) (fm_cons rfl <| fm_cons rfl <| fm_cons rfl <| fm_cons rfl <| fm_cons rfl <| fm_cons rfl <| fm_cons rfl <| fm_cons rfl <| fm_cons rfl <| fm_cons rfl <| fm_cons rfl <| fm_cons rfl <| fm_cons rfl <| fm_cons rfl <| fm_cons rfl <| fm_cons rfl <| fm_cons rfl <| fm_cons rfl <| fm_cons rfl <| fm_cons rfl <| List.filterMap_nil) (by repeat first | exact Ext.refl _ | assumption | refine Ext.drew ?_ | refine Ext.alloc ?_ _ | refine Ext.setCell ?_ (by simp) | refine Ext.setCell ?_ (by simp; omega) | refine Ext.trans ?_ (by assumption)) ?_
            repeat (go_big_quiet_step ((fail)))
            refine wpQuiet_nil ?_
            refine rx_op 20 (k := 12) (m' := 2097151) rfl rfl (by kernel_rfl) (by kernel_rfl) ?_
            go_wp2_with ((go_at_call 38; refine (DegreeOf_s _ _ _ _ ns ls (v : Int) _ (HWN.out.ext (by repeat first | exact Ext.refl _ | assumption | refine Ext.drew ?_ | refine Ext.alloc ?_ _ | refine Ext.setCell ?_ (by simp) | refine Ext.setCell ?_ (by simp; omega) | refine Ext.trans ?_ (by assumption)))).mono ?_; rintro e wd ⟨rfl, hbd⟩))
            refine rx_on (by repeat first | exact Ext.refl _ | assumption | refine Ext.drew ?_ | refine Ext.alloc ?_ _ | refine Ext.setCell ?_ (by simp) | refine Ext.setCell ?_ (by simp; omega) | refine Ext.trans ?_ (by assumption)) ?_
            refine rx_run (run := [21, 22, 23, 24, 25, 27, 28, 29]) (k := 4) (m' := 1006632959) rfl (by kernel_rfl) (by kernel_rfl) (by kernel_rfl) (fm_cons rfl <| fm_cons rfl <| fm_cons rfl <| fm_cons rfl <| fm_cons rfl <| fm_cons rfl <| fm_cons rfl <| fm_cons rfl <| List.filterMap_nil) (by repeat first | exact Ext.refl _ | assumption | refine Ext.drew ?_ | refine Ext.alloc ?_ _ | refine Ext.setCell ?_ (by simp) | refine Ext.setCell ?_ (by simp; omega) | refine Ext.trans ?_ (by assumption)) ?_
            repeat (go_big_quiet_step ((fail)))
            refine wpQuiet_nil ?_
            refine rx_op 26 (k := 3) (m' := 1073741823) rfl rfl (by kernel_rfl) (by kernel_rfl) ?_
            go_wp2_with ((go_at_call 57; refine (IsTight_i _ _ _ _ ns ls _ (HWN.out.ext (by repeat first | exact Ext.refl _ | assumption | refine Ext.drew ?_ | refine Ext.alloc ?_ _ | refine Ext.setCell ?_ (by simp) | refine Ext.setCell ?_ (by simp; omega) | refine Ext.trans ?_ (by assumption)))).mono ?_; rw [HT.out]; rintro e we ⟨rfl, hbe⟩))
            refine rx_on (by repeat first | exact Ext.refl _ | assumption | refine Ext.drew ?_ | refine Ext.alloc ?_ _ | refine Ext.setCell ?_ (by simp) | refine Ext.setCell ?_ (by simp; omega) | refine Ext.trans ?_ (by assumption)) ?_
            refine rx_run (run := [30, 31, 32]) (k := 0) (m' := 8589934591) rfl (by kernel_rfl) (by kernel_rfl) (by kernel_rfl) (fm_cons rfl <| fm_cons rfl <| fm_cons rfl <| List.filterMap_nil) (by repeat first | exact Ext.refl _ | assumption | refine Ext.drew ?_ | refine Ext.alloc ?_ _ | refine Ext.setCell ?_ (by simp) | refine Ext.setCell ?_ (by simp; omega) | refine Ext.trans ?_ (by assumption)) ?_
            repeat (go_big_quiet_step ((fail)))
            refine wpQuiet_nil ?_
            refine rx_end (by kernel_rfl) ?_
            go_wp2
            go_ret
            exact ⟨rfl, HX0.out.trans (by repeat first | exact Ext.refl _ | assumption | refine Ext.drew ?_ | refine Ext.alloc ?_ _ | refine Ext.setCell ?_ (by simp) | refine Ext.setCell ?_ (by simp; omega) | refine Ext.trans ?_ (by assumption))⟩
end Go.Proofs.Ytdhmjhoaegdfjaa
