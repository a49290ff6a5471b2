import Derived.Test.YtdhmjhoaegdfjaaS14
namespace Go.Proofs.Ytdhmjhoaegdfjaa
open Go.RowKit Go.Sort Go.BigFrame Pl
theorem sh_panes : cpanes shN0 shL0 = 4 := by decide +kernel
set_option maxRecDepth 100000 in
set_option maxHeartbeats 16000000 in
theorem FnEuler_t (w : World) (A : Option Addr) (n c : Nat) (hn : n ≤ 9223372036854775807) (xs : List Int) (hby : ∀ x ∈ xs, 0 ≤ x ∧ x < 256) (hs : Sl w w.heap.size 1 A n (xs.map (Value.int .u8))) :
    Calls Try.prog 4 #[.slice A n c] w fun e w' => e = .returned (.bool true) ∧ Ext w w' := by
  by_cases hbig : (1048576 : Int) < n
  · skip
    go_enter Try.func4, Try.ntmps4
    go_wp2_with fail
    refine (big_c A n c _).mono ?_
    rw [decide_eq_true (show (1048576 : Int) < (n : Int) by omega)]
    rintro e w' ⟨rfl, rfl⟩
    go_wp2
    go_ret
    exact ⟨rfl, Ext.refl _⟩
  · have HSL := Lib.hid hs
    have HBY := Lib.hid hby
    clear hs hby
    go_enter Try.func4, Try.ntmps4
    go_wp2_with fail
    refine (big_c A n c _).mono ?_
    rw [decide_eq_false (show ¬ (1048576 : Int) < (n : Int) by omega)]
    rintro e w' ⟨rfl, rfl⟩
    go_wp2_with fail
    refine (DrawWindow_s _ A n c hn xs HSL.out).mono ?_
    rintro e w1 ⟨v1, v2, ns, ls, rfl, o1, o2, hwh, hb⟩
    have hlk := wok_len hwh
    obtain ⟨A1, c1, rfl, -, -, -⟩ := o1.shape
    obtain ⟨A2, c2, rfl, -, -, -⟩ := o2.shape
    go_upto_region 4 with fail
    have hb2 := (Ext.refl w1).alloc (.cells #[.slice A1 ns.length c1, .slice A2 ls.length c2] 27)
    have HB : Hid (Bk (w1.alloc (.cells #[.slice A1 ns.length c1, .slice A2 ls.length c2] 27)) w1.heap.size 27 [.slice A1 ns.length c1, .slice A2 ls.length c2]) := Lib.hid (Bk.new _ _ rfl)
    have hwn : Wn (w1.alloc (.cells #[.slice A1 ns.length c1, .slice A2 ls.length c2] 27)) A1 c1 A2 c2 ns ls := wn_own (OwP.ext2 o1 hb2) (OwP.ext2 o2 hb2) (by omega) (by omega)
    have HWN := Lib.hid hwn
    have HX0 := Lib.hid (hb.trans hb2)
    clear o1 o2 hb hb2 hwn
    generalize (w1.alloc (.cells #[.slice A1 ns.length c1, .slice A2 ls.length c2] 27)) = w2 at *
    generalize w1.heap.size = g3 at *
    have k0 := HB.out.cell 0
    have k1 := HB.out.cell 1
    simp only [List.getElem?_cons_zero, List.getElem?_cons_succ] at k0 k1
    clear HB
    have HWH := Lib.hid hwh
    have HCF := Lib.hid (cfaces_eq hwh)
    have hcf1 := cfaces_pos hwh
    have HCP := Lib.hid (cpanes_eq hwh)
    have HIF := Lib.hid (isfor_eq hwh)
    have hcp := cparts_pos hwh
    have HFW : Hid (whole ns ls = true → cfaces ns ls = (vFaces ns ls).length) := Lib.hid (fun h => cfaces_whole h)
    have HPW : Hid (whole ns ls = true → cparts ns ls = 1) := Lib.hid (fun h => cparts_whole h)
    clear hwh
    have q1 : ((ns.length : Int) + cfaces ns ls != (ls.length : Int) + 1 + cparts ns ls) = false := by
      rw [bne_eq_false_iff_eq, HCF.out]; omega
    have q2 : decide (cfaces ns ls < 1) = false := decide_eq_false (by omega)
    have q3 : decide (cparts ns ls < 1) = false := decide_eq_false (by omega)
    have hcf2 : cfaces ns ls ≤ 40 := (cfaces_bd ns ls).2
    go_wp2_with fail
    refine (CountFaces_i _ _ _ _ ns ls _ HWN.out).mono ?_
    rintro e w3 ⟨rfl, hb⟩
    replace HX0 := Lib.hid (HX0.out.trans hb)
    replace HWN := Lib.hid (HWN.out.ext hb)
    replace k0 := hb.lit k0
    replace k1 := hb.lit k1
    clear hb
    go_wp2_with fail
    refine (CountParts_i _ _ _ _ ns ls _ HWN.out).mono ?_
    rintro e w4 ⟨rfl, hb⟩
    replace HX0 := Lib.hid (HX0.out.trans hb)
    replace HWN := Lib.hid (HWN.out.ext hb)
    replace k0 := hb.lit k0
    replace k1 := hb.lit k1
    clear hb
    go_wp2_with fail
    refine (CountPanes_i _ _ _ _ ns ls _ HWN.out).mono ?_
    rw [HCP.out]
    rintro e w5 ⟨rfl, hb⟩
    replace HX0 := Lib.hid (HX0.out.trans hb)
    replace HWN := Lib.hid (HWN.out.ext hb)
    replace k0 := hb.lit k0
    replace k1 := hb.lit k1
    clear hb
    go_wp2_with fail
    refine (IsForest_i _ _ _ _ ns ls _ HWN.out).mono ?_
    rw [HIF.out]
    rintro e w6 ⟨rfl, hb⟩
    replace HX0 := Lib.hid (HX0.out.trans hb)
    replace HWN := Lib.hid (HWN.out.ext hb)
    replace k0 := hb.lit k0
    replace k1 := hb.lit k1
    clear hb
    go_upto_region 8 with fail
    go_cut [66] (fun s wx => s = .bool false ∧ Ext w6 wx)
    case first =>
      go_wp2_with fail
      refine (IsWhole_s _ _ _ _ ns ls _ HWN.out).mono ?_
      rintro e w7 ⟨rfl, hb⟩
      by_cases hw : whole ns ls = true
      · rw [hw]
        have e1 : (cfaces ns ls != ((vFaces ns ls).length : Int)) = false := by rw [bne_eq_false_iff_eq]; exact HFW.out hw
        have e2 : (cparts ns ls != 1) = false := by rw [bne_eq_false_iff_eq]; exact HPW.out hw
        replace k0 := hb.lit k0
        replace k1 := hb.lit k1
        have hFl := vFaces_len ns ls
        go_wp2_with fail
        refine (FacesOf_s _ _ _ _ ns ls _ (HWN.out.ext hb)).mono ?_
        rintro e w8 ⟨vF, rfl, hF, hb2⟩
        obtain ⟨AF, cF, rfl, -⟩ := hF.shape
        clear hF
        go_wp2
        go_meet
        exact ⟨rfl, hb.trans hb2⟩
      · rw [eq_false_of_ne_true hw]
        go_wp2
        go_meet
        exact ⟨rfl, hb⟩
    case rest =>
      obtain ⟨rfl, hb⟩ := hcut
      obtain ⟨w7, rfl⟩ : ∃ x : World, x = wc := ⟨_, rfl⟩
      replace HX0 := Lib.hid (HX0.out.trans hb)
      replace HWN := Lib.hid (HWN.out.ext hb)
      replace k0 := hb.lit k0
      replace k1 := hb.lit k1
      clear hb q1 q2 q3 hcf1 hcf2 hcp HCF HCP HIF HFW HPW
      go_wp2_with fail
      refine (FaceDegrees_i _ _ _ _ ns ls _ HWN.out).mono ?_
      rintro e w8 ⟨v8, rfl, h8, hb⟩
      have hl8 := vFaceDegrees_len ns ls
      obtain ⟨A8, c8, rfl, -, -, hin8⟩ := h8.shape
      replace HX0 := Lib.hid (HX0.out.trans hb)
      replace HWN := Lib.hid (HWN.out.ext hb)
      replace k0 := hb.lit k0
      replace k1 := hb.lit k1
      clear hb h8
      go_wp2_with fail
      go_loopw [7, 8] (fun s i wr => ∃ k : Nat, k ≤ (vFaceDegrees ns ls).length ∧ i = .int .i64 k ∧ s = .int .i64 (fdv ns ls k) ∧ Ext w8 wr) (fun _ i _ => (vFaceDegrees ns ls).length - (intOf i).toNat)
      case atStart => exact ⟨0, by omega, rfl, rfl, Ext.refl _⟩
      case round =>
        obtain ⟨k, hk, rfl, rfl, hxs⟩ := hrel
        obtain ⟨w9, rfl⟩ : ∃ x : World, x = wr := ⟨_, rfl⟩
        by_cases hlt : k < (vFaceDegrees ns ls).length
        · obtain ⟨b, off, rfl, hbb, e3⟩ := (hin8.ext hxs).gi_ (k := k) hlt
          have hf1 := fdv_bd (ns := ns) (ls := ls) k
          have hf2 := fd_bd (ns := ns) (ls := ls) k
          have HF := Lib.hid (fdv_succ (ns := ns) (ls := ls) k)
          generalize gi (vFaceDegrees ns ls) (k : Nat) = z at *
          go_wp2
          go_roundw
          case rel => exact ⟨k + 1, by omega, by go_num, by rw [HF.out], hxs⟩
          case measure => first | (simp [intOf]; done) | (simp [intOf]; omega)
        · obtain rfl : k = (vFaceDegrees ns ls).length := by omega
          clear hk hlt
          replace HX0 := Lib.hid (HX0.out.trans hxs)
          replace HWN := Lib.hid (HWN.out.ext hxs)
          replace k0 := hxs.lit k0
          replace k1 := hxs.lit k1
          have HFA : Hid (whole ns ls = true → (fdv ns ls (vFaceDegrees ns ls).length == 2 * (ls.length : Int)) = true) := Lib.hid (fun h => by rw [beq_iff_eq]; exact fdv_all h)
          clear hxs hin8
          generalize fdv ns ls (vFaceDegrees ns ls).length = SUM at *
          have hdiv : (ns.length : Int) ≠ 0 := by omega
          have hdiv2 : ¬ (ns.length : Int) = 0 := by omega
          go_upto_region 16 with fail
          go_cut [9] (fun s wx => (∃ v : Nat, v < ns.length ∧ s = .int .i64 (v : Int)) ∧ Ext w9 wx)
          case first =>
            have d0 := cell_regrown k0
            refine rx_open [(true, 0, some 81, 1), (false, 1, some 82, 2417851639229258349412352), (true, 0, some 83, 8), (true, 4, some 84, 9671406556917033397649408), (true, 8, some 85, 19342813113834066795298816), (true, 18, some 86, 43521329506126650289422336), (true, 63, some 9, 77371252455336267181195264)] 0 7 mixd rfl (by kernel_rfl) (by kernel_rfl) (by kernel_rfl) ?_
            refine rx_run (run := [0, 2, 3, 4]) (k := 3) (m' := 29) rfl (by kernel_rfl) (by kernel_rfl) (by kernel_rfl) (fm_cons rfl <| fm_cons rfl <| fm_cons rfl <| fm_cons rfl <| List.filterMap_nil) (by repeat first | exact Ext.refl _ | assumption | refine Ext.drew ?_ | refine Ext.alloc ?_ _ | refine Ext.setCell ?_ (by simp) | refine Ext.setCell ?_ (by simp; omega) | refine Ext.trans ?_ (by assumption)) ?_
            repeat (go_big_quiet_step ((fail)))
            refine wpQuiet_nil ?_
            refine rx_op 1 (k := 2) (m' := 31) rfl rfl (by kernel_rfl) (by kernel_rfl) ?_
            go_wp2_with ((go_at_call 15; refine (at_c A n c 0 (by omega) (by omega) xs HBY.out _ (Sl.ext HSL.out (HX0.out.trans (by repeat first | exact Ext.refl _ | assumption | refine Ext.drew ?_ | refine Ext.alloc ?_ _ | refine Ext.setCell ?_ (by simp) | refine Ext.setCell ?_ (by simp; omega) | refine Ext.trans ?_ (by assumption))))).mono ?_; rintro e w6 ⟨x, hx9, rfl, rfl⟩))
            refine rx_on (by repeat first | exact Ext.refl _ | assumption | refine Ext.drew ?_ | refine Ext.alloc ?_ _ | refine Ext.setCell ?_ (by simp) | refine Ext.setCell ?_ (by simp; omega) | refine Ext.trans ?_ (by assumption)) ?_
            refine rx_run (run := [5, 6]) (k := 0) (m' := 127) rfl (by kernel_rfl) (by kernel_rfl) (by kernel_rfl) (fm_cons rfl <| fm_cons rfl <| List.filterMap_nil) (by repeat first | exact Ext.refl _ | assumption | refine Ext.drew ?_ | refine Ext.alloc ?_ _ | refine Ext.setCell ?_ (by simp) | refine Ext.setCell ?_ (by simp; omega) | refine Ext.trans ?_ (by assumption)) ?_
            repeat (go_big_quiet_step ((fail)))
            refine wpQuiet_nil ?_
            refine rx_end (by kernel_rfl) ?_
            go_wp2
            go_meet
            exact ⟨⟨x % ns.length, Nat.mod_lt _ (by omega), by go_num⟩, (by repeat first | exact Ext.refl _ | assumption | refine Ext.drew ?_ | refine Ext.alloc ?_ _ | refine Ext.setCell ?_ (by simp) | refine Ext.setCell ?_ (by simp; omega) | refine Ext.trans ?_ (by assumption))⟩
          case rest =>
            obtain ⟨⟨v, hv, rfl⟩, hb⟩ := hcut
            obtain ⟨wa, rfl⟩ : ∃ x : World, x = wc := ⟨_, rfl⟩
            replace HX0 := Lib.hid (HX0.out.trans hb)
            replace HWN := Lib.hid (HWN.out.ext hb)
            replace k0 := hb.lit k0
            replace k1 := hb.lit k1
            clear hb
            have HPS : Hid (∀ i : Nat, i < (vPartOf ns ls (v : Int)).length → vPartOf ns ls (gi (vPartOf ns ls (v : Int)) (i : Int)) = vPartOf ns ls (v : Int)) := Lib.hid (fun i hi => part_same HWH.out hv hi)
            have HPH := Lib.hid (part_has HWH.out hv)
            have HPL : Hid (whole ns ls = true → (((vPartOf ns ls (v : Int)).length : Int) == (ns.length : Int)) = true) := Lib.hid (fun h => by rw [beq_iff_eq, part_whole h hv])
            have hpl := vPartOf_len ns ls (v : Int)
            go_wp2_with fail
            refine (PartOf_i _ _ _ _ ns ls (v : Int) _ HWN.out).mono ?_
            rintro e wb ⟨vb, rfl, hB, hb⟩
            obtain ⟨Ab, cb, rfl, -, -, hinb⟩ := hB.shape
            replace HX0 := Lib.hid (HX0.out.trans hb)
            replace HWN := Lib.hid (HWN.out.ext hb)
            replace k0 := hb.lit k0
            replace k1 := hb.lit k1
            clear hb hB
            have HPV : Hid (vPartOf ns ls (v : Int) = vPartOf ns ls (v : Int)) := Lib.hid rfl
            generalize vPartOf ns ls (v : Int) = PL at *
            go_wp2_with fail
            go_loopw [11] (fun i wr => ∃ k : Nat, k ≤ PL.length ∧ i = .int .i64 k ∧ Ext wb wr) (fun i _ => PL.length - (intOf i).toNat)
            case atStart => exact ⟨0, by omega, rfl, Ext.refl _⟩
            case round =>
              obtain ⟨k, hk, rfl, hxs⟩ := hrel
              obtain ⟨wd, rfl⟩ : ∃ x : World, x = wr := ⟨_, rfl⟩
              have j0 := hxs.lit k0
              have j1 := hxs.lit k1
              by_cases hlt : k < PL.length
              · have hki : (k : Int) < PL.length := by omega
                obtain ⟨b, off, rfl, hbb, e3⟩ := (hinb.ext hxs).gi_ (k := k) hlt
                have HPK := Lib.hid (HPS.out k hlt)
                generalize gi PL (k : Nat) = z at *
                go_upto_region 21 with fail
                go_cut [104] (fun s wx => s = .bool false ∧ Ext wd wx)
                case first =>
                  have d0 := cell_regrown j0
                  have d1 := cell_regrown j1
                  have d3 := cell_regrown e3
                  refine rx_open [(true, 0, some 96, 8), (true, 0, some 97, 1024), (true, 0, some 98, 2048), (true, 6, some 99, 475368975085586025561263702016), (true, 8, some 100, 633825300114114700748351602688), (false, 17, some 101, 1346878762742493739090247155712), (true, 0, some 102, 1024), (false, 96, some 103, 7605903601369376408980219232256), (true, 128, some 104, 10141204801825835211973625643008)] 0 9 mixd rfl (by kernel_rfl) (by kernel_rfl) (by kernel_rfl) ?_
                  refine rx_run (run := [0, 1, 2, 3, 4, 6]) (k := 3) (m' := 95) rfl (by kernel_rfl) (by kernel_rfl) (by kernel_rfl) (fm_cons rfl <| fm_cons rfl <| fm_cons rfl <| fm_cons rfl <| fm_cons rfl <| fm_cons rfl <| List.filterMap_nil) (by repeat first | exact Ext.refl _ | assumption | refine Ext.drew ?_ | refine Ext.alloc ?_ _ | refine Ext.setCell ?_ (by simp) | refine Ext.setCell ?_ (by simp; omega) | refine Ext.trans ?_ (by assumption)) ?_
                  repeat (go_big_quiet_step ((fail)))
                  refine wpQuiet_nil ?_
                  refine rx_op 5 (k := 2) (m' := 127) rfl rfl (by kernel_rfl) (by kernel_rfl) ?_
                  go_wp2_with ((go_at_call 27; refine (PartOf_i _ _ _ _ ns ls z _ (HWN.out.ext (hxs.trans (by repeat first | exact Ext.refl _ | assumption | refine Ext.drew ?_ | refine Ext.alloc ?_ _ | refine Ext.setCell ?_ (by simp) | refine Ext.setCell ?_ (by simp; omega) | refine Ext.trans ?_ (by assumption))))).mono ?_; rw [HPK.out]; rintro e we ⟨ve, rfl, hE, hbe⟩; obtain ⟨Ae, ce, rfl, -, -, hine⟩ := hE.shape))
                  refine rx_on (by repeat first | exact Ext.refl _ | assumption | refine Ext.drew ?_ | refine Ext.alloc ?_ _ | refine Ext.setCell ?_ (by simp) | refine Ext.setCell ?_ (by simp; omega) | refine Ext.trans ?_ (by assumption)) ?_
                  refine rx_op 7 (k := 1) (m' := 255) rfl rfl (by kernel_rfl) (by kernel_rfl) ?_
                  go_wp2_with ((go_at_call 28; refine (sameInts_c Ae _ ce _ PL PL _ (by omega) (by omega) (hine.ext (by repeat first | exact Ext.refl _ | assumption | refine Ext.drew ?_ | refine Ext.alloc ?_ _ | refine Ext.setCell ?_ (by simp) | refine Ext.setCell ?_ (by simp; omega) | refine Ext.trans ?_ (by assumption))) (hinb.ext (hxs.trans (by repeat first | exact Ext.refl _ | assumption | refine Ext.drew ?_ | refine Ext.alloc ?_ _ | refine Ext.setCell ?_ (by simp) | refine Ext.setCell ?_ (by simp; omega) | refine Ext.trans ?_ (by assumption))))).mono ?_; rw [decide_eq_true rfl]; rintro e wf ⟨rfl, hbf⟩))
                  refine rx_on (by repeat first | exact Ext.refl _ | assumption | refine Ext.drew ?_ | refine Ext.alloc ?_ _ | refine Ext.setCell ?_ (by simp) | refine Ext.setCell ?_ (by simp; omega) | refine Ext.trans ?_ (by assumption)) ?_
                  refine rx_run (run := [8]) (k := 0) (m' := 511) rfl (by kernel_rfl) (by kernel_rfl) (by kernel_rfl) (fm_cons rfl <| List.filterMap_nil) (by repeat first | exact Ext.refl _ | assumption | refine Ext.drew ?_ | refine Ext.alloc ?_ _ | refine Ext.setCell ?_ (by simp) | refine Ext.setCell ?_ (by simp; omega) | refine Ext.trans ?_ (by assumption)) ?_
                  repeat (go_big_quiet_step ((fail)))
                  refine wpQuiet_nil ?_
                  refine rx_end (by kernel_rfl) ?_
                  go_wp2
                  go_meet
                  exact ⟨rfl, (by repeat first | exact Ext.refl _ | assumption | refine Ext.drew ?_ | refine Ext.alloc ?_ _ | refine Ext.setCell ?_ (by simp) | refine Ext.setCell ?_ (by simp; omega) | refine Ext.trans ?_ (by assumption))⟩
                case rest =>
                  obtain ⟨rfl, hb⟩ := hcut
                  replace hxs := hxs.trans hb
                  clear hb
                  go_wp2
                  go_roundw
                  case rel => exact ⟨k + 1, by omega, by go_num, hxs⟩
                  case measure => first | (simp [intOf]; done) | (simp [intOf]; omega)
              · obtain rfl : k = PL.length := by omega
                replace HX0 := Lib.hid (HX0.out.trans hxs)
                replace HWN := Lib.hid (HWN.out.ext hxs)
                have hinf := hinb.ext hxs
                clear hxs k0 k1
                go_wp2_with fail
                refine (has_c _ _ _ _ _ (by omega) hinf).mono ?_
                rw [HPH.out]
                rintro e wx ⟨rfl, rfl⟩
                go_wp2_with fail
                refine (IsWhole_s _ _ _ _ ns ls _ HWN.out).mono ?_
                rintro e we ⟨rfl, hb⟩
                by_cases hw : whole ns ls = true
                · have q1 := HFA.out hw
                  have q2 := HPL.out hw
                  rw [hw]
                  replace j0 := hb.lit j0
                  replace j1 := hb.lit j1
                  go_wp2_with fail
                  refine (SampleWindow_i _).mono ?_
                  rintro e wf ⟨u1, u2, rfl, p1, p2, hb2⟩
                  obtain ⟨Ap, cp, rfl, -, -, -⟩ := p1.shape
                  obtain ⟨Aq, cq, rfl, -, -, -⟩ := p2.shape
                  have hsn := wn_own p1 p2 (by decide) (by decide)
                  go_wp2_with fail
                  refine (CountPanes_i _ _ _ _ shN0 shL0 _ hsn).mono ?_
                  rw [sh_panes]
                  rintro e wg ⟨rfl, hb3⟩
                  go_wp2
                  go_ret
                  exact ⟨rfl, HX0.out.trans (hb.trans (hb2.trans hb3))⟩
                · rw [eq_false_of_ne_true hw]
                  replace j0 := hb.lit j0
                  replace j1 := hb.lit j1
                  go_wp2_with fail
                  refine (SampleWindow_i _).mono ?_
                  rintro e wf ⟨u1, u2, rfl, p1, p2, hb2⟩
                  obtain ⟨Ap, cp, rfl, -, -, -⟩ := p1.shape
                  obtain ⟨Aq, cq, rfl, -, -, -⟩ := p2.shape
                  have hsn := wn_own p1 p2 (by decide) (by decide)
                  go_wp2_with fail
                  refine (CountPanes_i _ _ _ _ shN0 shL0 _ hsn).mono ?_
                  rw [sh_panes]
                  rintro e wg ⟨rfl, hb3⟩
                  go_wp2
                  go_ret
                  exact ⟨rfl, HX0.out.trans (hb.trans (hb2.trans hb3))⟩
end Go.Proofs.Ytdhmjhoaegdfjaa
