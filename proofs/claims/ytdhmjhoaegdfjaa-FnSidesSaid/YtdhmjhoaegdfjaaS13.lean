import Derived.Test.YtdhmjhoaegdfjaaT15
namespace Go.Proofs.Ytdhmjhoaegdfjaa
open Go.RowKit Go.Sort Go.BigFrame Pl
set_option maxRecDepth 100000 in
set_option maxHeartbeats 16000000 in
theorem FnSides_t (w : World) (A : Option Addr) (n c : Nat) (hn : n ≤ 9223372036854775807) (xs : List Int) (hby : ∀ x ∈ xs, 0 ≤ x ∧ x < 256) (hs : Sl w w.heap.size 1 A n (xs.map (Value.int .u8))) :
    Calls Try.prog 5 #[.slice A n c] w fun e w' => e = .returned (.bool true) ∧ Ext w w' := by
  by_cases hbig : (1048576 : Int) < n
  · skip
    go_enter Try.func5, Try.ntmps5
    go_wp2_with fail
    refine (big_c A n c _).mono ?_
    rw [decide_eq_true (show (1048576 : Int) < (n : Int) by omega)]
    rintro e w' ⟨rfl, rfl⟩
    go_wp2
    go_ret
    exact ⟨rfl, Ext.refl _⟩
  · have HSL := Lib.hid hs
    have HBY := Lib.hid hby
    clear hs hby
    go_enter Try.func5, Try.ntmps5
    go_wp2_with fail
    refine (big_c A n c _).mono ?_
    rw [decide_eq_false (show ¬ (1048576 : Int) < (n : Int) by omega)]
    rintro e w' ⟨rfl, rfl⟩
    go_wp2_with fail
    refine (DrawWhole_s _ A n c hn xs HSL.out).mono ?_
    rintro e w1 ⟨v1, v2, ns, ls, rfl, o1, o2, hwh, hb⟩
    have hlk := wok_len (whole_wok hwh)
    obtain ⟨A1, c1, rfl, -, -, -⟩ := o1.shape
    obtain ⟨A2, c2, rfl, -, -, -⟩ := o2.shape
    go_upto_region 4 with fail
    have hb2 := (Ext.refl w1).alloc (.cells #[.slice A1 ns.length c1, .slice A2 ls.length c2] 27)
    have HB : Hid (Bk (w1.alloc (.cells #[.slice A1 ns.length c1, .slice A2 ls.length c2] 27)) w1.heap.size 27 [.slice A1 ns.length c1, .slice A2 ls.length c2]) := Lib.hid (Bk.new _ _ rfl)
    have hwn : Wn (w1.alloc (.cells #[.slice A1 ns.length c1, .slice A2 ls.length c2] 27)) A1 c1 A2 c2 ns ls := wn_own (OwP.ext2 o1 hb2) (OwP.ext2 o2 hb2) (by omega) (by omega)
    have HWN := Lib.hid hwn
    have HX0 := Lib.hid (hb.trans hb2)
    clear o1 o2 hb hb2 hwn
    generalize (w1.alloc (.cells #[.slice A1 ns.length c1, .slice A2 ls.length c2] 27)) = w2 at *
    generalize w1.heap.size = g3 at *
    have k0 := HB.out.cell 0
    have k1 := HB.out.cell 1
    simp only [List.getElem?_cons_zero, List.getElem?_cons_succ] at k0 k1
    have HWH := Lib.hid hwh
    have hFl := vFaces_len ns ls
    go_wp2_with fail
    refine (FacesOf_s _ _ _ _ ns ls _ HWN.out).mono ?_
    rintro e w3 ⟨vF, rfl, hF, hb⟩
    obtain ⟨AF, cF, rfl, -⟩ := hF.shape
    have HSR := Lib.hid (shv_row ns ls)
    have HSA := Lib.hid (shv_all hwh)
    have HSB := Lib.hid (fun f g => shv_bd (f := f) (g := g) hwh)
    have HDA := Lib.hid (dgv_all hwh)
    have HNN := Lib.hid (congrArg List.length (vF_eq hwh))
    clear hF hwh
    generalize (vFaces ns ls).length = N at *
    have k0 := hb.lit k0
    have k1 := hb.lit k1
    have HWN := Lib.hid (HWN.out.ext hb)
    have HX0 := Lib.hid (HX0.out.trans hb)
    clear hb
    go_wp2_with fail
    go_loopw [5, 6, 7] (fun s dg i wr => ∃ f : Nat, f ≤ N ∧ i = .int .i64 f ∧ s = .int .i64 (shv ns ls f 0) ∧ dg = .int .i64 (dgv ns ls f) ∧ Ext w3 wr) (fun _ _ i _ => N - (intOf i).toNat)
    case atStart => exact ⟨0, by omega, rfl, rfl, rfl, Ext.refl _⟩
    case round =>
      obtain ⟨f, hf, rfl, rfl, rfl, hxr⟩ := hrel
      obtain ⟨w4, rfl⟩ : ∃ x : World, x = wr := ⟨_, rfl⟩
      by_cases hlt : f < N
      · have hfi : (f : Int) < N := by omega
        have j0 := hxr.lit k0
        have j1 := hxr.lit k1
        have hd1 := dgv_bd HWH.out f
        have hd2 := dd_bd HWH.out (f : Int)
        have HDS : Hid (dgv ns ls (f + 1) = dgv ns ls f + vDualDegree ns ls (f : Int)) := Lib.hid rfl
        go_wp2_with fail
        refine (DualDegree_i _ _ _ _ ns ls (f : Int) _ (HWN.out.ext hxr)).mono ?_
        rintro e w5 ⟨rfl, hb⟩
        have hxr := hxr.trans hb
        replace j0 := hb.lit j0
        replace j1 := hb.lit j1
        clear hb
        generalize vDualDegree ns ls (f : Int) = D at *
        go_wp2_with fail
        refine (BesideOf_i _ _ _ _ ns ls (f : Int) _ (HWN.out.ext hxr)).mono ?_
        rintro e w6 ⟨v6, rfl, h6, hb⟩
        have hl6 := vBesideOf_len ns ls (f : Int)
        obtain ⟨A6, c6, rfl, -, -, hin6⟩ := h6.shape
        replace hxr := hxr.trans hb
        replace j0 := hb.lit j0
        replace j1 := hb.lit j1
        clear hb h6
        go_wp2_with fail
        go_loopw [5, 9] (fun s i wr => ∃ g : Nat, g ≤ N ∧ i = .int .i64 g ∧ s = .int .i64 (shv ns ls f g) ∧ Ext w6 wr) (fun _ i _ => N - (intOf i).toNat)
        case atStart => exact ⟨0, by omega, rfl, rfl, Ext.refl _⟩
        case round =>
          obtain ⟨g, hg, rfl, rfl, hxs⟩ := hrel
          obtain ⟨w7, rfl⟩ : ∃ x : World, x = wr := ⟨_, rfl⟩
          by_cases hlg : g < N
          · have hgi : (g : Int) < N := by omega
            have m0 := hxs.lit j0
            have m1 := hxs.lit j1
            have hs1 := HSB.out f g hlt (by omega)
            have hs2 := HSB.out f (g + 1) hlt (by omega)
            have HH := Lib.hid (beside_has HWH.out (f := f) (g := g) (by rw [← HNN.out]; exact hlt) (by rw [← HNN.out]; exact hlg))
            have HB1 := Lib.hid (beside_symm ns ls (g : Int) (f : Int))
            have HSY := Lib.hid (shared_symm ns ls (g : Int) (f : Int))
            have HSV : Hid (f ≤ g → shv ns ls f (g + 1) = shv ns ls f g + ((vSharedLeads ns ls (f : Int) (g : Int)).length : Int)) := Lib.hid (fun h => shv_yes ns ls h)
            have HSN : Hid (¬ f ≤ g → shv ns ls f (g + 1) = shv ns ls f g) := Lib.hid (fun h => shv_no ns ls h)
            have hl7 := vSharedLeads_len ns ls (f : Int) (g : Int)
            go_wp2_with fail
            refine (SharedLeads_i _ _ _ _ ns ls (f : Int) (g : Int) _ (HWN.out.ext (hxr.trans hxs))).mono ?_
            rintro e w8 ⟨v8, rfl, h8, hb⟩
            obtain ⟨A8, c8, rfl, -, -, hin8⟩ := h8.shape
            replace hxs := hxs.trans hb
            replace m0 := hb.lit m0
            replace m1 := hb.lit m1
            clear hb h8
            have HAB0 : Hid (vAreBeside ns ls (f : Int) (g : Int) = (decide ((f : Int) ≠ (g : Int)) && decide (0 < (vSharedLeads ns ls (f : Int) (g : Int)).length))) := Lib.hid rfl
            generalize vSharedLeads ns ls (f : Int) (g : Int) = LS at *
            go_upto_region 16 with fail
            go_cut [76] (fun s wx => s = .bool false ∧ Ext w8 wx)
            case first =>
              have d0 := cell_regrown m0
              have d1 := cell_regrown m1
              clear HB HSL HBY HX0 HWH HSR HSA HSB HDA HNN HDS HSV HSN j0 j1
              rcases Nat.decEq f g with hne | rfl
              · have q1 : ((f : Int) != (g : Int)) = true := bne_iff_ne.2 (by omega)
                by_cases hp : 0 < LS.length
                · have q2 : decide ((LS.length : Int) > 0) = true := by simp [hp]
                  have HAB : Hid (vAreBeside ns ls (f : Int) (g : Int) = true) := Lib.hid (by rw [HAB0.out, decide_eq_true (show (f : Int) ≠ (g : Int) by omega), decide_eq_true hp]; rfl)
                  refine rx_open [(true, 0, some 45, 1024), (true, 0, some 46, 8), (true, 0, some 47, 512), (true, 0, some 48, 128), (false, 14, some 49, 492581209243648), (false, 17, some 50, 598134325510144), (true, 32, some 51, 1125899906842624), (true, 96, some 52, 2251799813685248), (true, 128, some 53, 4503599627370504), (true, 128, some 54, 4503599627370624), (true, 128, some 55, 4503599627371008), (false, 1920, some 56, 67553994410557440), (true, 128, some 57, 4503599627370624), (true, 128, some 58, 4503599627371008), (true, 12416, some 59, 436849163854938112), (true, 18560, some 60, 580964351930793984), (true, 32768, some 61, 1152921504606848000), (true, 98304, some 62, 3458764513820540928), (true, 163840, some 63, 5764607523034234880), (true, 295040, some 64, 10380797141088993280), (true, 526464, some 65, 18523305267374850048), (true, 1048704, some 66, 36897991747046473728), (true, 2129920, some 67, 73786976294838206464), (true, 4194304, some 68, 147573952589676413184), (true, 4194304, some 69, 147573952589676413440), (false, 29360128, some 70, 1033017668127734890496), (true, 4194304, some 71, 147573952589676412936), (true, 4194304, some 72, 147573952589676413440), (true, 4194304, some 73, 147573952589676413056), (false, 507510784, some 74, 16675856642633434660864), (true, 574619648, some 75, 20217631504785668571136), (true, 1077936128, some 76, 37926505815546838122496)] 0 32 mixd rfl (by kernel_rfl) (by kernel_rfl) (by kernel_rfl) ?_
                  refine rx_run (run := [0, 1, 2, 3]) (k := 28) (m' := 15) rfl (by kernel_rfl) (by kernel_rfl) (by kernel_rfl) (fm_cons rfl <| fm_cons rfl <| fm_cons rfl <| fm_cons rfl <| List.filterMap_nil) (by repeat first | exact Ext.refl _ | assumption | refine Ext.drew ?_ | refine Ext.alloc ?_ _ | refine Ext.setCell ?_ (by simp) | refine Ext.setCell ?_ (by simp; omega) | refine Ext.trans ?_ (by assumption)) ?_
                  repeat (go_big_quiet_step ((fail)))
                  refine wpQuiet_nil ?_
                  refine rx_op 4 (k := 27) (m' := 31) rfl rfl (by kernel_rfl) (by kernel_rfl) ?_
                  go_wp2_with ((go_at_call 32; refine (SharedLeads_i _ _ _ _ ns ls (g : Int) (f : Int) _ (HWN.out.ext (hxr.trans (hxs.trans (by repeat first | exact Ext.refl _ | assumption | refine Ext.drew ?_ | refine Ext.alloc ?_ _ | refine Ext.setCell ?_ (by simp) | refine Ext.setCell ?_ (by simp; omega) | refine Ext.trans ?_ (by assumption)))))).mono ?_; rw [HSY.out]; rintro e w9 ⟨v9, rfl, h9, hb9⟩; obtain ⟨A9, c9, rfl, -, -, hin9⟩ := h9.shape))
                  refine rx_on (by repeat first | exact Ext.refl _ | assumption | refine Ext.drew ?_ | refine Ext.alloc ?_ _ | refine Ext.setCell ?_ (by simp) | refine Ext.setCell ?_ (by simp; omega) | refine Ext.trans ?_ (by assumption)) ?_
                  refine rx_op 5 (k := 26) (m' := 63) rfl rfl (by kernel_rfl) (by kernel_rfl) ?_
                  go_wp2_with ((go_at_call 28; refine (sameInts_c A8 A9 c8 c9 LS LS _ (by omega) (by omega) (hin8.ext (by repeat first | exact Ext.refl _ | assumption | refine Ext.drew ?_ | refine Ext.alloc ?_ _ | refine Ext.setCell ?_ (by simp) | refine Ext.setCell ?_ (by simp; omega) | refine Ext.trans ?_ (by assumption))) (hin9.ext (by repeat first | exact Ext.refl _ | assumption | refine Ext.drew ?_ | refine Ext.alloc ?_ _ | refine Ext.setCell ?_ (by simp) | refine Ext.setCell ?_ (by simp; omega) | refine Ext.trans ?_ (by assumption)))).mono ?_; rw [decide_eq_true rfl]; rintro e wa ⟨rfl, hba⟩))
                  refine rx_on (by repeat first | exact Ext.refl _ | assumption | refine Ext.drew ?_ | refine Ext.alloc ?_ _ | refine Ext.setCell ?_ (by simp) | refine Ext.setCell ?_ (by simp; omega) | refine Ext.trans ?_ (by assumption)) ?_
                  refine rx_run (run := [6, 7, 8, 9, 10, 12, 13, 14]) (k := 18) (m' := 30719) rfl (by kernel_rfl) (by kernel_rfl) (by kernel_rfl) (fm_cons rfl <| fm_cons rfl <| fm_cons rfl <| fm_cons rfl <| fm_cons rfl <| fm_cons rfl <| fm_cons rfl <| fm_cons rfl <| List.filterMap_nil) (by repeat first | exact Ext.refl _ | assumption | refine Ext.drew ?_ | refine Ext.alloc ?_ _ | refine Ext.setCell ?_ (by simp) | refine Ext.setCell ?_ (by simp; omega) | refine Ext.trans ?_ (by assumption)) ?_
                  repeat (go_big_quiet_step ((fail)))
                  refine wpQuiet_nil ?_
                  refine rx_op 11 (k := 17) (m' := 32767) rfl rfl (by kernel_rfl) (by kernel_rfl) ?_
                  go_wp2_with ((go_at_call 33; refine (AreBeside_i _ _ _ _ ns ls (f : Int) (g : Int) _ (HWN.out.ext (hxr.trans (hxs.trans (by repeat first | exact Ext.refl _ | assumption | refine Ext.drew ?_ | refine Ext.alloc ?_ _ | refine Ext.setCell ?_ (by simp) | refine Ext.setCell ?_ (by simp; omega) | refine Ext.trans ?_ (by assumption)))))).mono ?_; rw [HAB.out]; rintro e wc ⟨rfl, hbc⟩))
                  refine rx_on (by repeat first | exact Ext.refl _ | assumption | refine Ext.drew ?_ | refine Ext.alloc ?_ _ | refine Ext.setCell ?_ (by simp) | refine Ext.setCell ?_ (by simp; omega) | refine Ext.trans ?_ (by assumption)) ?_
                  refine rx_run (run := [15, 16, 17, 18, 19, 20, 21, 22, 23, 24, 26, 27, 28]) (k := 4) (m' := 503316479) rfl (by kernel_rfl) (by kernel_rfl) (by kernel_rfl) (fm_cons rfl <| fm_cons rfl <| fm_cons rfl <| fm_cons rfl <| fm_cons rfl <| fm_cons rfl <| fm_cons rfl <| fm_cons rfl <| fm_cons rfl <| fm_cons rfl <| fm_cons rfl <| fm_cons rfl <| fm_cons rfl <| List.filterMap_nil) (by repeat first | exact Ext.refl _ | assumption | refine Ext.drew ?_ | refine Ext.alloc ?_ _ | refine Ext.setCell ?_ (by simp) | refine Ext.setCell ?_ (by simp; omega) | refine Ext.trans ?_ (by assumption)) ?_
                  repeat (go_big_quiet_step ((fail)))
                  refine wpQuiet_nil ?_
                  refine rx_op 25 (k := 3) (m' := 536870911) rfl rfl (by kernel_rfl) (by kernel_rfl) ?_
                  go_wp2_with ((go_at_call 29; refine (has_c A6 c6 (vBesideOf ns ls (f : Int)) (g : Int) _ (by omega) (hin6.ext (hxs.trans (by repeat first | exact Ext.refl _ | assumption | refine Ext.drew ?_ | refine Ext.alloc ?_ _ | refine Ext.setCell ?_ (by simp) | refine Ext.setCell ?_ (by simp; omega) | refine Ext.trans ?_ (by assumption))))).mono ?_; rw [HH.out, HB1.out]; rintro e wb ⟨rfl, rfl⟩))
                  refine rx_on (by repeat first | exact Ext.refl _ | assumption | refine Ext.drew ?_ | refine Ext.alloc ?_ _ | refine Ext.setCell ?_ (by simp) | refine Ext.setCell ?_ (by simp; omega) | refine Ext.trans ?_ (by assumption)) ?_
                  refine rx_op 29 (k := 2) (m' := 1073741823) rfl rfl (by kernel_rfl) (by kernel_rfl) ?_
                  go_wp2_with ((go_at_call 33; refine (AreBeside_i _ _ _ _ ns ls (g : Int) (f : Int) _ (HWN.out.ext (hxr.trans (hxs.trans (by repeat first | exact Ext.refl _ | assumption | refine Ext.drew ?_ | refine Ext.alloc ?_ _ | refine Ext.setCell ?_ (by simp) | refine Ext.setCell ?_ (by simp; omega) | refine Ext.trans ?_ (by assumption)))))).mono ?_; rw [HB1.out, HAB.out]; rintro e wd ⟨rfl, hbd⟩))
                  refine rx_on (by repeat first | exact Ext.refl _ | assumption | refine Ext.drew ?_ | refine Ext.alloc ?_ _ | refine Ext.setCell ?_ (by simp) | refine Ext.setCell ?_ (by simp; omega) | refine Ext.trans ?_ (by assumption)) ?_
                  refine rx_run (run := [30, 31]) (k := 0) (m' := 4294967295) rfl (by kernel_rfl) (by kernel_rfl) (by kernel_rfl) (fm_cons rfl <| fm_cons rfl <| List.filterMap_nil) (by repeat first | exact Ext.refl _ | assumption | refine Ext.drew ?_ | refine Ext.alloc ?_ _ | refine Ext.setCell ?_ (by simp) | refine Ext.setCell ?_ (by simp; omega) | refine Ext.trans ?_ (by assumption)) ?_
                  repeat (go_big_quiet_step ((fail)))
                  refine wpQuiet_nil ?_
                  refine rx_end (by kernel_rfl) ?_
                  go_wp2
                  go_meet
                  exact ⟨rfl, (by repeat first | exact Ext.refl _ | assumption | refine Ext.drew ?_ | refine Ext.alloc ?_ _ | refine Ext.setCell ?_ (by simp) | refine Ext.setCell ?_ (by simp; omega) | refine Ext.trans ?_ (by assumption))⟩
                · have q2 : decide ((LS.length : Int) > 0) = false := decide_eq_false (by omega)
                  have HAB : Hid (vAreBeside ns ls (f : Int) (g : Int) = false) := Lib.hid (by rw [HAB0.out, decide_eq_false hp, Bool.and_false])
                  refine rx_open [(true, 0, some 45, 1024), (true, 0, some 46, 8), (true, 0, some 47, 512), (true, 0, some 48, 128), (false, 14, some 49, 492581209243648), (false, 17, some 50, 598134325510144), (true, 32, some 51, 1125899906842624), (true, 96, some 52, 2251799813685248), (true, 128, some 53, 4503599627370504), (true, 128, some 54, 4503599627370624), (true, 128, some 55, 4503599627371008), (false, 1920, some 56, 67553994410557440), (true, 128, some 57, 4503599627370624), (true, 128, some 58, 4503599627371008), (true, 12416, some 59, 436849163854938112), (true, 18560, some 60, 580964351930793984), (true, 32768, some 61, 1152921504606848000), (true, 98304, some 62, 3458764513820540928), (true, 163840, some 63, 5764607523034234880), (true, 295040, some 64, 10380797141088993280), (true, 526464, some 65, 18523305267374850048), (true, 1048704, some 66, 36897991747046473728), (true, 2129920, some 67, 73786976294838206464), (true, 4194304, some 68, 147573952589676413184), (true, 4194304, some 69, 147573952589676413440), (false, 29360128, some 70, 1033017668127734890496), (true, 4194304, some 71, 147573952589676412936), (true, 4194304, some 72, 147573952589676413440), (true, 4194304, some 73, 147573952589676413056), (false, 507510784, some 74, 16675856642633434660864), (true, 574619648, some 75, 20217631504785668571136), (true, 1077936128, some 76, 37926505815546838122496)] 0 32 mixd rfl (by kernel_rfl) (by kernel_rfl) (by kernel_rfl) ?_
                  refine rx_run (run := [0, 1, 2, 3]) (k := 28) (m' := 15) rfl (by kernel_rfl) (by kernel_rfl) (by kernel_rfl) (fm_cons rfl <| fm_cons rfl <| fm_cons rfl <| fm_cons rfl <| List.filterMap_nil) (by repeat first | exact Ext.refl _ | assumption | refine Ext.drew ?_ | refine Ext.alloc ?_ _ | refine Ext.setCell ?_ (by simp) | refine Ext.setCell ?_ (by simp; omega) | refine Ext.trans ?_ (by assumption)) ?_
                  repeat (go_big_quiet_step ((fail)))
                  refine wpQuiet_nil ?_
                  refine rx_op 4 (k := 27) (m' := 31) rfl rfl (by kernel_rfl) (by kernel_rfl) ?_
                  go_wp2_with ((go_at_call 32; refine (SharedLeads_i _ _ _ _ ns ls (g : Int) (f : Int) _ (HWN.out.ext (hxr.trans (hxs.trans (by repeat first | exact Ext.refl _ | assumption | refine Ext.drew ?_ | refine Ext.alloc ?_ _ | refine Ext.setCell ?_ (by simp) | refine Ext.setCell ?_ (by simp; omega) | refine Ext.trans ?_ (by assumption)))))).mono ?_; rw [HSY.out]; rintro e w9 ⟨v9, rfl, h9, hb9⟩; obtain ⟨A9, c9, rfl, -, -, hin9⟩ := h9.shape))
                  refine rx_on (by repeat first | exact Ext.refl _ | assumption | refine Ext.drew ?_ | refine Ext.alloc ?_ _ | refine Ext.setCell ?_ (by simp) | refine Ext.setCell ?_ (by simp; omega) | refine Ext.trans ?_ (by assumption)) ?_
                  refine rx_op 5 (k := 26) (m' := 63) rfl rfl (by kernel_rfl) (by kernel_rfl) ?_
                  go_wp2_with ((go_at_call 28; refine (sameInts_c A8 A9 c8 c9 LS LS _ (by omega) (by omega) (hin8.ext (by repeat first | exact Ext.refl _ | assumption | refine Ext.drew ?_ | refine Ext.alloc ?_ _ | refine Ext.setCell ?_ (by simp) | refine Ext.setCell ?_ (by simp; omega) | refine Ext.trans ?_ (by assumption))) (hin9.ext (by repeat first | exact Ext.refl _ | assumption | refine Ext.drew ?_ | refine Ext.alloc ?_ _ | refine Ext.setCell ?_ (by simp) | refine Ext.setCell ?_ (by simp; omega) | refine Ext.trans ?_ (by assumption)))).mono ?_; rw [decide_eq_true rfl]; rintro e wa ⟨rfl, hba⟩))
                  refine rx_on (by repeat first | exact Ext.refl _ | assumption | refine Ext.drew ?_ | refine Ext.alloc ?_ _ | refine Ext.setCell ?_ (by simp) | refine Ext.setCell ?_ (by simp; omega) | refine Ext.trans ?_ (by assumption)) ?_
                  refine rx_run (run := [6, 7, 8, 9, 10, 12, 13, 14]) (k := 18) (m' := 30719) rfl (by kernel_rfl) (by kernel_rfl) (by kernel_rfl) (fm_cons rfl <| fm_cons rfl <| fm_cons rfl <| fm_cons rfl <| fm_cons rfl <| fm_cons rfl <| fm_cons rfl <| fm_cons rfl <| List.filterMap_nil) (by repeat first | exact Ext.refl _ | assumption | refine Ext.drew ?_ | refine Ext.alloc ?_ _ | refine Ext.setCell ?_ (by simp) | refine Ext.setCell ?_ (by simp; omega) | refine Ext.trans ?_ (by assumption)) ?_
                  repeat (go_big_quiet_step ((fail)))
                  refine wpQuiet_nil ?_
                  refine rx_op 11 (k := 17) (m' := 32767) rfl rfl (by kernel_rfl) (by kernel_rfl) ?_
                  go_wp2_with ((go_at_call 33; refine (AreBeside_i _ _ _ _ ns ls (f : Int) (g : Int) _ (HWN.out.ext (hxr.trans (hxs.trans (by repeat first | exact Ext.refl _ | assumption | refine Ext.drew ?_ | refine Ext.alloc ?_ _ | refine Ext.setCell ?_ (by simp) | refine Ext.setCell ?_ (by simp; omega) | refine Ext.trans ?_ (by assumption)))))).mono ?_; rw [HAB.out]; rintro e wc ⟨rfl, hbc⟩))
                  refine rx_on (by repeat first | exact Ext.refl _ | assumption | refine Ext.drew ?_ | refine Ext.alloc ?_ _ | refine Ext.setCell ?_ (by simp) | refine Ext.setCell ?_ (by simp; omega) | refine Ext.trans ?_ (by assumption)) ?_
                  refine rx_run (run := [15, 16, 17, 18, 19, 20, 21, 22, 23, 24, 26, 27, 28]) (k := 4) (m' := 503316479) rfl (by kernel_rfl) (by kernel_rfl) (by kernel_rfl) (fm_cons rfl <| fm_cons rfl <| fm_cons rfl <| fm_cons rfl <| fm_cons rfl <| fm_cons rfl <| fm_cons rfl <| fm_cons rfl <| fm_cons rfl <| fm_cons rfl <| fm_cons rfl <| fm_cons rfl <| fm_cons rfl <| List.filterMap_nil) (by repeat first | exact Ext.refl _ | assumption | refine Ext.drew ?_ | refine Ext.alloc ?_ _ | refine Ext.setCell ?_ (by simp) | refine Ext.setCell ?_ (by simp; omega) | refine Ext.trans ?_ (by assumption)) ?_
                  repeat (go_big_quiet_step ((fail)))
                  refine wpQuiet_nil ?_
                  refine rx_op 25 (k := 3) (m' := 536870911) rfl rfl (by kernel_rfl) (by kernel_rfl) ?_
                  go_wp2_with ((go_at_call 29; refine (has_c A6 c6 (vBesideOf ns ls (f : Int)) (g : Int) _ (by omega) (hin6.ext (hxs.trans (by repeat first | exact Ext.refl _ | assumption | refine Ext.drew ?_ | refine Ext.alloc ?_ _ | refine Ext.setCell ?_ (by simp) | refine Ext.setCell ?_ (by simp; omega) | refine Ext.trans ?_ (by assumption))))).mono ?_; rw [HH.out, HB1.out]; rintro e wb ⟨rfl, rfl⟩))
                  refine rx_on (by repeat first | exact Ext.refl _ | assumption | refine Ext.drew ?_ | refine Ext.alloc ?_ _ | refine Ext.setCell ?_ (by simp) | refine Ext.setCell ?_ (by simp; omega) | refine Ext.trans ?_ (by assumption)) ?_
                  refine rx_op 29 (k := 2) (m' := 1073741823) rfl rfl (by kernel_rfl) (by kernel_rfl) ?_
                  go_wp2_with ((go_at_call 33; refine (AreBeside_i _ _ _ _ ns ls (g : Int) (f : Int) _ (HWN.out.ext (hxr.trans (hxs.trans (by repeat first | exact Ext.refl _ | assumption | refine Ext.drew ?_ | refine Ext.alloc ?_ _ | refine Ext.setCell ?_ (by simp) | refine Ext.setCell ?_ (by simp; omega) | refine Ext.trans ?_ (by assumption)))))).mono ?_; rw [HB1.out, HAB.out]; rintro e wd ⟨rfl, hbd⟩))
                  refine rx_on (by repeat first | exact Ext.refl _ | assumption | refine Ext.drew ?_ | refine Ext.alloc ?_ _ | refine Ext.setCell ?_ (by simp) | refine Ext.setCell ?_ (by simp; omega) | refine Ext.trans ?_ (by assumption)) ?_
                  refine rx_run (run := [30, 31]) (k := 0) (m' := 4294967295) rfl (by kernel_rfl) (by kernel_rfl) (by kernel_rfl) (fm_cons rfl <| fm_cons rfl <| List.filterMap_nil) (by repeat first | exact Ext.refl _ | assumption | refine Ext.drew ?_ | refine Ext.alloc ?_ _ | refine Ext.setCell ?_ (by simp) | refine Ext.setCell ?_ (by simp; omega) | refine Ext.trans ?_ (by assumption)) ?_
                  repeat (go_big_quiet_step ((fail)))
                  refine wpQuiet_nil ?_
                  refine rx_end (by kernel_rfl) ?_
                  go_wp2
                  go_meet
                  exact ⟨rfl, (by repeat first | exact Ext.refl _ | assumption | refine Ext.drew ?_ | refine Ext.alloc ?_ _ | refine Ext.setCell ?_ (by simp) | refine Ext.setCell ?_ (by simp; omega) | refine Ext.trans ?_ (by assumption))⟩
              · have q1 : ((f : Int) != (f : Int)) = false := bne_self_eq_false _
                have HAB : Hid (vAreBeside ns ls (f : Int) (f : Int) = false) := Lib.hid (by rw [HAB0.out, decide_eq_false (show ¬ (f : Int) ≠ (f : Int) from fun h => h rfl), Bool.false_and])
                refine rx_open [(true, 0, some 45, 1024), (true, 0, some 46, 8), (true, 0, some 47, 512), (true, 0, some 48, 128), (false, 14, some 49, 492581209243648), (false, 17, some 50, 598134325510144), (true, 32, some 51, 1125899906842624), (true, 96, some 52, 2251799813685248), (true, 128, some 53, 4503599627370504), (true, 128, some 54, 4503599627370624), (true, 128, some 55, 4503599627371008), (false, 1920, some 56, 67553994410557440), (true, 128, some 57, 4503599627370624), (true, 128, some 58, 4503599627371008), (true, 12416, some 59, 436849163854938112), (true, 18560, some 60, 580964351930793984), (true, 32768, some 61, 1152921504606848000), (true, 98304, some 62, 3458764513820540928), (true, 163840, some 63, 5764607523034234880), (true, 295040, some 64, 10380797141088993280), (true, 526464, some 65, 18523305267374850048), (true, 1048704, some 66, 36897991747046473728), (true, 2129920, some 67, 73786976294838206464), (true, 4194304, some 68, 147573952589676413184), (true, 4194304, some 69, 147573952589676413440), (false, 29360128, some 70, 1033017668127734890496), (true, 4194304, some 71, 147573952589676412936), (true, 4194304, some 72, 147573952589676413440), (true, 4194304, some 73, 147573952589676413056), (false, 507510784, some 74, 16675856642633434660864), (true, 574619648, some 75, 20217631504785668571136), (true, 1077936128, some 76, 37926505815546838122496)] 0 32 mixd rfl (by kernel_rfl) (by kernel_rfl) (by kernel_rfl) ?_
                refine rx_run (run := [0, 1, 2, 3]) (k := 28) (m' := 15) rfl (by kernel_rfl) (by kernel_rfl) (by kernel_rfl) (fm_cons rfl <| fm_cons rfl <| fm_cons rfl <| fm_cons rfl <| List.filterMap_nil) (by repeat first | exact Ext.refl _ | assumption | refine Ext.drew ?_ | refine Ext.alloc ?_ _ | refine Ext.setCell ?_ (by simp) | refine Ext.setCell ?_ (by simp; omega) | refine Ext.trans ?_ (by assumption)) ?_
                repeat (go_big_quiet_step ((fail)))
                refine wpQuiet_nil ?_
                refine rx_op 4 (k := 27) (m' := 31) rfl rfl (by kernel_rfl) (by kernel_rfl) ?_
                go_wp2_with ((go_at_call 32; refine (SharedLeads_i _ _ _ _ ns ls (f : Int) (f : Int) _ (HWN.out.ext (hxr.trans (hxs.trans (by repeat first | exact Ext.refl _ | assumption | refine Ext.drew ?_ | refine Ext.alloc ?_ _ | refine Ext.setCell ?_ (by simp) | refine Ext.setCell ?_ (by simp; omega) | refine Ext.trans ?_ (by assumption)))))).mono ?_; rw [HSY.out]; rintro e w9 ⟨v9, rfl, h9, hb9⟩; obtain ⟨A9, c9, rfl, -, -, hin9⟩ := h9.shape))
                refine rx_on (by repeat first | exact Ext.refl _ | assumption | refine Ext.drew ?_ | refine Ext.alloc ?_ _ | refine Ext.setCell ?_ (by simp) | refine Ext.setCell ?_ (by simp; omega) | refine Ext.trans ?_ (by assumption)) ?_
                refine rx_op 5 (k := 26) (m' := 63) rfl rfl (by kernel_rfl) (by kernel_rfl) ?_
                go_wp2_with ((go_at_call 28; refine (sameInts_c A8 A9 c8 c9 LS LS _ (by omega) (by omega) (hin8.ext (by repeat first | exact Ext.refl _ | assumption | refine Ext.drew ?_ | refine Ext.alloc ?_ _ | refine Ext.setCell ?_ (by simp) | refine Ext.setCell ?_ (by simp; omega) | refine Ext.trans ?_ (by assumption))) (hin9.ext (by repeat first | exact Ext.refl _ | assumption | refine Ext.drew ?_ | refine Ext.alloc ?_ _ | refine Ext.setCell ?_ (by simp) | refine Ext.setCell ?_ (by simp; omega) | refine Ext.trans ?_ (by assumption)))).mono ?_; rw [decide_eq_true rfl]; rintro e wa ⟨rfl, hba⟩))
                refine rx_on (by repeat first | exact Ext.refl _ | assumption | refine Ext.drew ?_ | refine Ext.alloc ?_ _ | refine Ext.setCell ?_ (by simp) | refine Ext.setCell ?_ (by simp; omega) | refine Ext.trans ?_ (by assumption)) ?_
                refine rx_run (run := [6, 7, 8, 9, 10, 12, 13, 14]) (k := 18) (m' := 30719) rfl (by kernel_rfl) (by kernel_rfl) (by kernel_rfl) (fm_cons rfl <| fm_cons rfl <| fm_cons rfl <| fm_cons rfl <| fm_cons rfl <| fm_cons rfl <| fm_cons rfl <| fm_cons rfl <| List.filterMap_nil) (by repeat first | exact Ext.refl _ | assumption | refine Ext.drew ?_ | refine Ext.alloc ?_ _ | refine Ext.setCell ?_ (by simp) | refine Ext.setCell ?_ (by simp; omega) | refine Ext.trans ?_ (by assumption)) ?_
                repeat (go_big_quiet_step ((fail)))
                refine wpQuiet_nil ?_
                refine rx_op 11 (k := 17) (m' := 32767) rfl rfl (by kernel_rfl) (by kernel_rfl) ?_
                go_wp2_with ((go_at_call 33; refine (AreBeside_i _ _ _ _ ns ls (f : Int) (f : Int) _ (HWN.out.ext (hxr.trans (hxs.trans (by repeat first | exact Ext.refl _ | assumption | refine Ext.drew ?_ | refine Ext.alloc ?_ _ | refine Ext.setCell ?_ (by simp) | refine Ext.setCell ?_ (by simp; omega) | refine Ext.trans ?_ (by assumption)))))).mono ?_; rw [HAB.out]; rintro e wc ⟨rfl, hbc⟩))
                refine rx_on (by repeat first | exact Ext.refl _ | assumption | refine Ext.drew ?_ | refine Ext.alloc ?_ _ | refine Ext.setCell ?_ (by simp) | refine Ext.setCell ?_ (by simp; omega) | refine Ext.trans ?_ (by assumption)) ?_
                refine rx_run (run := [15, 16, 17, 18, 19, 20, 21, 22, 23, 24, 26, 27, 28]) (k := 4) (m' := 503316479) rfl (by kernel_rfl) (by kernel_rfl) (by kernel_rfl) (fm_cons rfl <| fm_cons rfl <| fm_cons rfl <| fm_cons rfl <| fm_cons rfl <| fm_cons rfl <| fm_cons rfl <| fm_cons rfl <| fm_cons rfl <| fm_cons rfl <| fm_cons rfl <| fm_cons rfl <| fm_cons rfl <| List.filterMap_nil) (by repeat first | exact Ext.refl _ | assumption | refine Ext.drew ?_ | refine Ext.alloc ?_ _ | refine Ext.setCell ?_ (by simp) | refine Ext.setCell ?_ (by simp; omega) | refine Ext.trans ?_ (by assumption)) ?_
                repeat (go_big_quiet_step ((fail)))
                refine wpQuiet_nil ?_
                refine rx_op 25 (k := 3) (m' := 536870911) rfl rfl (by kernel_rfl) (by kernel_rfl) ?_
                go_wp2_with ((go_at_call 29; refine (has_c A6 c6 (vBesideOf ns ls (f : Int)) (f : Int) _ (by omega) (hin6.ext (hxs.trans (by repeat first | exact Ext.refl _ | assumption | refine Ext.drew ?_ | refine Ext.alloc ?_ _ | refine Ext.setCell ?_ (by simp) | refine Ext.setCell ?_ (by simp; omega) | refine Ext.trans ?_ (by assumption))))).mono ?_; rw [HH.out, HAB.out]; rintro e wb ⟨rfl, rfl⟩))
                refine rx_on (by repeat first | exact Ext.refl _ | assumption | refine Ext.drew ?_ | refine Ext.alloc ?_ _ | refine Ext.setCell ?_ (by simp) | refine Ext.setCell ?_ (by simp; omega) | refine Ext.trans ?_ (by assumption)) ?_
                refine rx_op 29 (k := 2) (m' := 1073741823) rfl rfl (by kernel_rfl) (by kernel_rfl) ?_
                go_wp2_with ((go_at_call 33; refine (AreBeside_i _ _ _ _ ns ls (f : Int) (f : Int) _ (HWN.out.ext (hxr.trans (hxs.trans (by repeat first | exact Ext.refl _ | assumption | refine Ext.drew ?_ | refine Ext.alloc ?_ _ | refine Ext.setCell ?_ (by simp) | refine Ext.setCell ?_ (by simp; omega) | refine Ext.trans ?_ (by assumption)))))).mono ?_; rw [HAB.out]; rintro e wd ⟨rfl, hbd⟩))
                refine rx_on (by repeat first | exact Ext.refl _ | assumption | refine Ext.drew ?_ | refine Ext.alloc ?_ _ | refine Ext.setCell ?_ (by simp) | refine Ext.setCell ?_ (by simp; omega) | refine Ext.trans ?_ (by assumption)) ?_
                refine rx_run (run := [30, 31]) (k := 0) (m' := 4294967295) rfl (by kernel_rfl) (by kernel_rfl) (by kernel_rfl) (fm_cons rfl <| fm_cons rfl <| List.filterMap_nil) (by repeat first | exact Ext.refl _ | assumption | refine Ext.drew ?_ | refine Ext.alloc ?_ _ | refine Ext.setCell ?_ (by simp) | refine Ext.setCell ?_ (by simp; omega) | refine Ext.trans ?_ (by assumption)) ?_
                repeat (go_big_quiet_step ((fail)))
                refine wpQuiet_nil ?_
                refine rx_end (by kernel_rfl) ?_
                go_wp2
                go_meet
                exact ⟨rfl, (by repeat first | exact Ext.refl _ | assumption | refine Ext.drew ?_ | refine Ext.alloc ?_ _ | refine Ext.setCell ?_ (by simp) | refine Ext.setCell ?_ (by simp; omega) | refine Ext.trans ?_ (by assumption))⟩
            case rest =>
              obtain ⟨rfl, hb⟩ := hcut
              obtain ⟨w9, rfl⟩ : ∃ x : World, x = wc := ⟨_, rfl⟩
              replace hxs := hxs.trans hb
              clear hb hin8
              by_cases hfg : f ≤ g
              · have hfi : (f : Int) ≤ (g : Int) := by omega
                rw [HSV.out hfg] at hs2
                go_wp2
                go_roundw
                case rel => exact ⟨g + 1, by omega, by go_num, by rw [HSV.out hfg], hxs⟩
                case measure => first | (simp [intOf]; done) | (simp [intOf]; omega)
              · have hfi : ¬ (f : Int) ≤ (g : Int) := by omega
                rw [HSN.out hfg] at hs2
                go_wp2
                go_roundw
                case rel => exact ⟨g + 1, by omega, by go_num, by rw [HSN.out hfg], hxs⟩
                case measure => first | (simp [intOf]; done) | (simp [intOf]; omega)
          · obtain rfl : g = N := by omega
            replace hxr := hxr.trans hxs
            clear hxs j0 j1 hin6
            go_wp2
            go_roundw
            case rel => exact ⟨f + 1, by omega, by go_num, by rw [HSR.out], by rw [HDS.out], hxr⟩
            case measure => first | (simp [intOf]; done) | (simp [intOf]; omega)
      · obtain rfl : f = N := by omega
        clear hf hlt
        have hxr0 := HX0.out.trans hxr
        replace k0 := hxr.lit k0
        replace k1 := hxr.lit k1
        have HWN2 := Lib.hid (HWN.out.ext hxr)
        rw [HSA.out, HDA.out]
        clear HSR HSA HSB HDA HNN HX0 HWN HB
        clear hxr
        go_wp2_with fail
        go_loopw [11, 12] (fun s i wr => ∃ k : Nat, k ≤ ls.length ∧ i = .int .i64 k ∧ s = .int .i64 (lzv ns ls k) ∧ Ext w4 wr) (fun _ i _ => ls.length - (intOf i).toNat)
        case atStart => exact ⟨0, by omega, rfl, rfl, Ext.refl _⟩
        case round =>
          obtain ⟨k, hk, rfl, rfl, hxs⟩ := hrel
          obtain ⟨w5, rfl⟩ : ∃ x : World, x = wr := ⟨_, rfl⟩
          have hz := lzv_bd ns ls k
          have j0 := hxs.lit k0
          have j1 := hxs.lit k1
          by_cases hlt : k < ls.length
          · have HSO := Lib.hid (sidesOf_eq HWH.out hlt)
            have HFA : Hid (vFaceAt ns ls (2 * (k : Int)) = (sd (fcs ns ls) (2 * k) : Int)) := Lib.hid (by have := faceAt_eq HWH.out (d := 2 * k) (by omega); rwa [show ((2 * k : Nat) : Int) = 2 * (k : Int) by omega] at this)
            have HFB : Hid (vFaceAt ns ls (2 * (k : Int) + 1) = (sd (fcs ns ls) (2 * k + 1) : Int)) := Lib.hid (by have := faceAt_eq HWH.out (d := 2 * k + 1) (by omega); rwa [show ((2 * k + 1 : Nat) : Int) = 2 * (k : Int) + 1 by omega] at this)
            have HSH := Lib.hid (shared_has HWH.out hlt)
            have HLZ : Hid (lzv ns ls (k + 1) = lzv ns ls k + if sd (fcs ns ls) (2 * k) = sd (fcs ns ls) (2 * k + 1) then 1 else 0) := Lib.hid rfl
            generalize sd (fcs ns ls) (2 * k) = a at *
            generalize sd (fcs ns ls) (2 * k + 1) = b at *
            rcases Nat.decEq a b with hne | rfl
            · have q1 : ((a : Int) == (b : Int)) = false := beq_eq_false_iff_ne.2 (by omega)
              have q2 : ¬ (a : Int) = (b : Int) := by omega
              first | rw [if_pos rfl] at HLZ | rw [if_neg hne] at HLZ
              go_wp2_with fail
              refine (SidesOf_i _ _ _ _ ns ls (k : Int) _ (HWN2.out.ext hxs)).mono ?_
              rw [HSO.out]
              rintro e w6 ⟨rfl, hb⟩
              replace hxs := hxs.trans hb
              replace j0 := hb.lit j0
              replace j1 := hb.lit j1
              clear hb
              go_wp2_with fail
              refine (btoi_c _ _).mono ?_
              rintro e w7 ⟨rfl, rfl⟩
              go_wp2_with fail
              refine (FaceAt_s _ _ _ _ ns ls (2 * (k : Int)) _ (HWN2.out.ext hxs)).mono ?_
              rw [HFA.out]
              rintro e w7 ⟨rfl, hb⟩
              replace hxs := hxs.trans hb
              replace j0 := hb.lit j0
              replace j1 := hb.lit j1
              clear hb
              go_wp2_with fail
              refine (FaceAt_s _ _ _ _ ns ls (2 * (k : Int) + 1) _ (HWN2.out.ext hxs)).mono ?_
              rw [HFB.out]
              rintro e w8 ⟨rfl, hb⟩
              replace hxs := hxs.trans hb
              replace j0 := hb.lit j0
              replace j1 := hb.lit j1
              clear hb
              go_wp2_with fail
              refine (SharedLeads_i _ _ _ _ ns ls _ _ _ (HWN2.out.ext hxs)).mono ?_
              rintro e w9 ⟨v9, rfl, h9, hb⟩
              obtain ⟨A9, c9, rfl, -, -, hin9⟩ := h9.shape
              replace hxs := hxs.trans hb
              clear hb
              go_wp2_with fail
              refine (has_c _ _ _ _ _ (Nat.le_trans (vSharedLeads_len _ _ _ _) (by decide)) hin9).mono ?_
              rw [HSH.out]
              rintro e wa ⟨rfl, rfl⟩
              go_wp2
              go_roundw
              case rel => exact ⟨k + 1, by omega, by go_num, by first | rw [HLZ.out, Int.add_zero] | rw [HLZ.out], hxs⟩
              case measure => first | (simp [intOf]; done) | (simp [intOf]; omega)
            · skip
              first | rw [if_pos rfl] at HLZ | rw [if_neg hne] at HLZ
              go_wp2_with fail
              refine (SidesOf_i _ _ _ _ ns ls (k : Int) _ (HWN2.out.ext hxs)).mono ?_
              rw [HSO.out]
              rintro e w6 ⟨rfl, hb⟩
              replace hxs := hxs.trans hb
              replace j0 := hb.lit j0
              replace j1 := hb.lit j1
              clear hb
              go_wp2_with fail
              refine (btoi_c _ _).mono ?_
              rintro e w7 ⟨rfl, rfl⟩
              go_wp2_with fail
              refine (FaceAt_s _ _ _ _ ns ls (2 * (k : Int)) _ (HWN2.out.ext hxs)).mono ?_
              rw [HFA.out]
              rintro e w7 ⟨rfl, hb⟩
              replace hxs := hxs.trans hb
              replace j0 := hb.lit j0
              replace j1 := hb.lit j1
              clear hb
              go_wp2_with fail
              refine (FaceAt_s _ _ _ _ ns ls (2 * (k : Int) + 1) _ (HWN2.out.ext hxs)).mono ?_
              rw [HFB.out]
              rintro e w8 ⟨rfl, hb⟩
              replace hxs := hxs.trans hb
              replace j0 := hb.lit j0
              replace j1 := hb.lit j1
              clear hb
              go_wp2_with fail
              refine (SharedLeads_i _ _ _ _ ns ls _ _ _ (HWN2.out.ext hxs)).mono ?_
              rintro e w9 ⟨v9, rfl, h9, hb⟩
              obtain ⟨A9, c9, rfl, -, -, hin9⟩ := h9.shape
              replace hxs := hxs.trans hb
              clear hb
              go_wp2_with fail
              refine (has_c _ _ _ _ _ (Nat.le_trans (vSharedLeads_len _ _ _ _) (by decide)) hin9).mono ?_
              rw [HSH.out]
              rintro e wa ⟨rfl, rfl⟩
              go_wp2
              go_roundw
              case rel => exact ⟨k + 1, by omega, by go_num, by first | rw [HLZ.out, Int.add_zero] | rw [HLZ.out], hxs⟩
              case measure => first | (simp [intOf]; done) | (simp [intOf]; omega)
          · obtain rfl : k = ls.length := by omega
            replace hxr0 := hxr0.trans hxs
            have HWN3 := Lib.hid (HWN2.out.ext hxs)
            have hdiv : (ns.length : Int) ≠ 0 := by omega
            have hdiv2 : ¬ (ns.length : Int) = 0 := by omega
            clear k0 k1 hk hlt HWN2
            clear hxs
            go_upto_region 28 with fail
            go_cut [15] (fun s wx => (∃ v : Nat, v < ns.length ∧ s = .int .i64 (v : Int)) ∧ Ext w5 wx)
            case first =>
              have d0 := cell_regrown j0
              refine rx_open [(true, 0, some 127, 1), (false, 1, some 128, 170141183460469231731687303715884105728), (true, 0, some 129, 8), (true, 4, some 130, 680564733841876926926749214863536422912), (true, 8, some 131, 1361129467683753853853498429727072845824), (true, 18, some 132, 3062541302288446171170371466885913903104), (true, 63, some 15, 5444517870735015415413993718908291383296)] 0 7 mixd rfl (by kernel_rfl) (by kernel_rfl) (by kernel_rfl) ?_
              refine rx_run (run := [0, 2, 3, 4]) (k := 3) (m' := 29) rfl (by kernel_rfl) (by kernel_rfl) (by kernel_rfl) (fm_cons rfl <| fm_cons rfl <| fm_cons rfl <| fm_cons rfl <| List.filterMap_nil) (by repeat first | exact Ext.refl _ | assumption | refine Ext.drew ?_ | refine Ext.alloc ?_ _ | refine Ext.setCell ?_ (by simp) | refine Ext.setCell ?_ (by simp; omega) | refine Ext.trans ?_ (by assumption)) ?_
              repeat (go_big_quiet_step ((fail)))
              refine wpQuiet_nil ?_
              refine rx_op 1 (k := 2) (m' := 31) rfl rfl (by kernel_rfl) (by kernel_rfl) ?_
              go_wp2_with ((go_at_call 15; refine (at_c A n c 0 (by omega) (by omega) xs HBY.out _ (Sl.ext HSL.out (hxr0.trans (by repeat first | exact Ext.refl _ | assumption | refine Ext.drew ?_ | refine Ext.alloc ?_ _ | refine Ext.setCell ?_ (by simp) | refine Ext.setCell ?_ (by simp; omega) | refine Ext.trans ?_ (by assumption))))).mono ?_; rintro e w6 ⟨x, hx9, rfl, rfl⟩))
              refine rx_on (by repeat first | exact Ext.refl _ | assumption | refine Ext.drew ?_ | refine Ext.alloc ?_ _ | refine Ext.setCell ?_ (by simp) | refine Ext.setCell ?_ (by simp; omega) | refine Ext.trans ?_ (by assumption)) ?_
              refine rx_run (run := [5, 6]) (k := 0) (m' := 127) rfl (by kernel_rfl) (by kernel_rfl) (by kernel_rfl) (fm_cons rfl <| fm_cons rfl <| List.filterMap_nil) (by repeat first | exact Ext.refl _ | assumption | refine Ext.drew ?_ | refine Ext.alloc ?_ _ | refine Ext.setCell ?_ (by simp) | refine Ext.setCell ?_ (by simp; omega) | refine Ext.trans ?_ (by assumption)) ?_
              repeat (go_big_quiet_step ((fail)))
              refine wpQuiet_nil ?_
              refine rx_end (by kernel_rfl) ?_
              go_wp2
              go_meet
              exact ⟨⟨x % ns.length, Nat.mod_lt _ (by omega), by go_num⟩, (by repeat first | exact Ext.refl _ | assumption | refine Ext.drew ?_ | refine Ext.alloc ?_ _ | refine Ext.setCell ?_ (by simp) | refine Ext.setCell ?_ (by simp; omega) | refine Ext.trans ?_ (by assumption))⟩
            case rest =>
              obtain ⟨⟨v, hv, rfl⟩, hb⟩ := hcut
              obtain ⟨w6, rfl⟩ : ∃ x : World, x = wc := ⟨_, rfl⟩
              replace hxr0 := hxr0.trans hb
              have HWN4 := Lib.hid (HWN3.out.ext hb)
              replace j0 := hb.lit j0
              replace j1 := hb.lit j1
              have HAL := Lib.hid (around_len HWH.out hv)
              have HAB : Hid ((vFacesAround ns ls (v : Int)).length ≤ 1000) := Lib.hid (vFacesAround_len _ _ _)
              clear hb
              go_upto_region 29 with fail
              have d0 := cell_regrown j0
              have d1 := cell_regrown j1
              refine rx_open [(true, 0, some 133, 32), (true, 0, some 134, 8), (true, 2, some 135, 21778071482940061661655974875633165533184), (true, 4, some 136, 43556142965880123323311949751266331066368), (true, 9, some 137, 98001321673230277477451886940349244899328), (true, 16, some 138, 174224571863520493293247799005065324265472), (true, 32, some 139, 348449143727040986586495598010130648531008), (true, 32, some 140, 348449143727040986586495598010130648530952), (true, 160, some 141, 1742245718635204932932477990050653242654720), (true, 288, some 142, 3136042293543368879278460382091175836778496), (true, 32, some 143, 348449143727040986586495598010130648532992), (true, 1568, some 144, 17074008042625008342738284302496401778016256), (true, 2080, some 145, 22649194342257664128122213870658492154511360), (true, 4192, some 146, 45646837828242369242830923339327114957553664), (true, 8224, some 147, 89551429937849533552729368688603576672452608), (true, 16416, some 148, 178405961588244985132285746181186892047843328), (true, 32768, some 149, 356811923176489970264571492362373784095686664), (true, 32768, some 150, 356811923176489970264571492362373784095719424), (false, 229376, some 151, 2497683462235429791852000446536616488669806592), (true, 294912, some 152, 3211307308588409732381143431261364056861179904), (true, 32768, some 153, 356811923176489970264571492362373784095686664), (true, 32768, some 154, 356811923176489970264571492362373784095719424), (false, 3440640, some 155, 34610756548119527115663434759150257057281605632), (true, 4751360, some 156, 51737728860591045688362866392544198693874565120), (true, 8421376, some 157, 91700664256357922357994873537130062512591470592), (true, 33554431, some 2, 182687704666362864775460604089535377456991567872)] 0 26 mixd rfl (by kernel_rfl) (by kernel_rfl) (by kernel_rfl) ?_
              refine rx_run (run := [0, 1, 2, 3, 4, 5, 6, 7, 8, 9, 10, 11, 12, 13, 14, 15, 16, 17, 20, 21]) (k := 6) (m' := 3407871) rfl (by kernel_rfl) (by kernel_rfl) (by kernel_rfl) (fm_cons rfl <| fm_cons rfl <| fm_cons rfl <| fm_cons rfl <| fm_cons rfl <| fm_cons rfl <| fm_cons rfl <| fm_cons rfl <| fm_cons rfl <| fm_cons rfl <| fm_cons rfl <| fm_cons rfl <| fm_cons rfl <| fm_cons rfl <| fm_cons rfl <| fm_cons rfl <| fm_cons rfl <| fm_cons rfl <| fm_cons rfl <| fm_cons rfl <| List.filterMap_nil) (by repeat first | exact Ext.refl _ | assumption | refine Ext.drew ?_ | refine Ext.alloc ?_ _ | refine Ext.setCell ?_ (by simp) | refine Ext.setCell ?_ (by simp; omega) | refine Ext.trans ?_ (by assumption)) ?_
              repeat (go_big_quiet_step ((fail)))
              refine wpQuiet_nil ?_
              refine rx_op 18 (k := 5) (m' := 3670015) rfl rfl (by kernel_rfl) (by kernel_rfl) ?_
              go_wp2_with ((go_at_call 37; refine (FacesAround_i _ _ _ _ ns ls (v : Int) _ (HWN4.out.ext (by repeat first | exact Ext.refl _ | assumption | refine Ext.drew ?_ | refine Ext.alloc ?_ _ | refine Ext.setCell ?_ (by simp) | refine Ext.setCell ?_ (by simp; omega) | refine Ext.trans ?_ (by assumption)))).mono ?_; rintro e w7 ⟨v7, rfl, h7, hb7⟩; obtain ⟨A7, c7, rfl, -, -, hin7⟩ := h7.shape))
              refine rx_on (by repeat first | exact Ext.refl _ | assumption | refine Ext.drew ?_ | refine Ext.alloc ?_ _ | refine Ext.setCell ?_ (by simp) | refine Ext.setCell ?_ (by simp; omega) | refine Ext.trans ?_ (by assumption)) ?_
              refine rx_run (run := [19]) (k := 4) (m' := 4194303) rfl (by kernel_rfl) (by kernel_rfl) (by kernel_rfl) (fm_cons rfl <| List.filterMap_nil) (by repeat first | exact Ext.refl _ | assumption | refine Ext.drew ?_ | refine Ext.alloc ?_ _ | refine Ext.setCell ?_ (by simp) | refine Ext.setCell ?_ (by simp; omega) | refine Ext.trans ?_ (by assumption)) ?_
              repeat (go_big_quiet_step ((fail)))
              refine wpQuiet_nil ?_
              refine rx_op 22 (k := 3) (m' := 8388607) rfl rfl (by kernel_rfl) (by kernel_rfl) ?_
              go_wp2_with ((go_at_call 38; refine (DegreeOf_s _ _ _ _ ns ls (v : Int) _ (HWN4.out.ext (by repeat first | exact Ext.refl _ | assumption | refine Ext.drew ?_ | refine Ext.alloc ?_ _ | refine Ext.setCell ?_ (by simp) | refine Ext.setCell ?_ (by simp; omega) | refine Ext.trans ?_ (by assumption)))).mono ?_; rw [← HAL.out]; rintro e w8 ⟨rfl, hb8⟩))
              refine rx_on (by repeat first | exact Ext.refl _ | assumption | refine Ext.drew ?_ | refine Ext.alloc ?_ _ | refine Ext.setCell ?_ (by simp) | refine Ext.setCell ?_ (by simp; omega) | refine Ext.trans ?_ (by assumption)) ?_
              refine rx_run (run := [23, 24, 25]) (k := 0) (m' := 67108863) rfl (by kernel_rfl) (by kernel_rfl) (by kernel_rfl) (fm_cons rfl <| fm_cons rfl <| fm_cons rfl <| List.filterMap_nil) (by repeat first | exact Ext.refl _ | assumption | refine Ext.drew ?_ | refine Ext.alloc ?_ _ | refine Ext.setCell ?_ (by simp) | refine Ext.setCell ?_ (by simp; omega) | refine Ext.trans ?_ (by assumption)) ?_
              repeat (go_big_quiet_step ((fail)))
              refine wpQuiet_nil ?_
              refine rx_end (by kernel_rfl) ?_
              go_wp2
              go_ret
              exact ⟨rfl, hxr0.trans (by repeat first | exact Ext.refl _ | assumption | refine Ext.drew ?_ | refine Ext.alloc ?_ _ | refine Ext.setCell ?_ (by simp) | refine Ext.setCell ?_ (by simp; omega) | refine Ext.trans ?_ (by assumption))⟩
end Go.Proofs.Ytdhmjhoaegdfjaa
