import Derived.Test.YtdhmjhoaegdfjaaGreatT29
import Derived.Test.YtdhmjhoaegdfjaaGreatE3
import Derived.Test.YtdhmjhoaegdfjaaGreatS11
import Derived.Test.YtdhmjhoaegdfjaaGreatD39
namespace Go.Proofs.YtdhmjhoaegdfjaaGreat
open Go.RowKit Go.Sort Go.BigFrame Pl
set_option maxRecDepth 100000 in
set_option maxHeartbeats 16000000 in
theorem FnChains_t (w : World) (A : Option Addr) (n c : Nat) (hn : n ≤ 9223372036854775807) (xs : List Int) (hby : ∀ x ∈ xs, 0 ≤ x ∧ x < 256) (hs : Sl w w.heap.size 1 A n (xs.map (Value.int .u8))) :
    Calls Tryz.prog 4 #[.slice A n c] w fun e w' => e = .returned (.bool true) ∧ Ext w w' := by
  by_cases hbig : (1048576 : Int) < n
  · skip
    go_enter Tryz.func4, Tryz.ntmps4
    go_wp2_with fail
    refine (big_c A n c _).mono ?_
    rw [decide_eq_true (show (1048576 : Int) < (n : Int) by omega)]
    rintro e w' ⟨rfl, rfl⟩
    go_wp2
    go_ret
    exact ⟨rfl, Ext.refl _⟩
  · have HSL := Lib.hid hs
    have HBY := Lib.hid hby
    clear hs hby
    go_enter Tryz.func4, Tryz.ntmps4
    go_wp2_with fail
    refine (big_c A n c _).mono ?_
    rw [decide_eq_false (show ¬ (1048576 : Int) < (n : Int) by omega)]
    rintro e w' ⟨rfl, rfl⟩
    go_wp2_with fail
    refine (DrawWhole_s _ A n c hn xs HSL.out).mono ?_
    rintro e w1 ⟨v1, v2, ns, ls, rfl, o1, o2, hwh, hb⟩
    have hlk := wok_len (whole_wok hwh)
    obtain ⟨A1, c1, rfl, -, -, -⟩ := o1.shape
    obtain ⟨A2, c2, rfl, -, -, -⟩ := o2.shape
    go_upto_region 4 with fail
    have hb2 := (Ext.refl w1).alloc (.cells #[.slice A1 ns.length c1, .slice A2 ls.length c2] 27)
    have HB : Hid (Bk (w1.alloc (.cells #[.slice A1 ns.length c1, .slice A2 ls.length c2] 27)) w1.heap.size 27 [.slice A1 ns.length c1, .slice A2 ls.length c2]) := Lib.hid (Bk.new _ _ rfl)
    have hwn : Wn (w1.alloc (.cells #[.slice A1 ns.length c1, .slice A2 ls.length c2] 27)) A1 c1 A2 c2 ns ls := wn_own (OwP.ext2 o1 hb2) (OwP.ext2 o2 hb2) (by omega) (by omega)
    have HWN := Lib.hid hwn
    have HX0 := Lib.hid (hb.trans hb2)
    clear o1 o2 hb hb2 hwn
    generalize (w1.alloc (.cells #[.slice A1 ns.length c1, .slice A2 ls.length c2] 27)) = w2 at *
    generalize w1.heap.size = g3 at *
    have k0 := HB.out.cell 0
    have k1 := HB.out.cell 1
    simp only [List.getElem?_cons_zero, List.getElem?_cons_succ] at k0 k1
    clear HB
    have HWH := Lib.hid hwh
    have hFl := vFaces_len ns ls
    have hFp := faces_pos hwh
    have hwt : (vColorWith ns ls ((4 : Nat) : Int)).2 = true := with4 hwh
    have hfit := (with_fit hwt).2
    have hcp := hfit.proper hwh (by omega)
    have hcl := hfit.len
    have h0 := first_zero hwh
    rw [show ((4 : Nat) : Int) = 4 from rfl] at hwt hcp hcl
    have HWT := Lib.hid hwt
    clear hwt hfit
    go_wp2_with fail
    refine (ColorWith_s _ _ _ _ ns ls 4 _ HWN.out).mono ?_
    rw [HWT.out]
    rintro e w3 ⟨v3, rfl, h3, hb⟩
    replace HX0 := Lib.hid (HX0.out.trans hb)
    replace HWN := Lib.hid (HWN.out.ext hb)
    replace k0 := hb.lit k0
    replace k1 := hb.lit k1
    clear hb
    generalize (vColorWith ns ls 4).1 = C at *
    generalize (vFaces ns ls).length = F at *
    subst hcl
    obtain ⟨AC, cC, rfl, -, -, hinC⟩ := h3.shape
    clear h3
    obtain ⟨m1, m2, m3, m4⟩ := chains_ok hwh hcp h0
    have HM := Lib.hid (And.intro m1 (And.intro m2 (And.intro m3 m4)))
    clear m1 m2 m3 m4 h0
    have HCP := Lib.hid hcp
    have HSW := Lib.hid (fun (f x : Nat) (hf : f < C.length) (hx : x ≤ 5) (hne : gi C (f : Nat) ≠ (x : Int)) => swap_all hwh hcp hf hx hne)
    have HSN := Lib.hid (fun (f x : Nat) (hf : f < C.length) (hx : x ≤ 5) (he : gi C (f : Nat) = (x : Int)) => swap_no hcp hf hx he)
    have HCB := Lib.hid (fun (f x : Nat) (hf : f < C.length) (hx : x ≤ 5) => chain_has hcp hf hx)
    have HFR := Lib.hid (fun (f : Nat) (hf : f < C.length) => free_all hwh hcp hf)
    clear hwh hcp
    have hdiv : (C.length : Int) ≠ 0 := by omega
    have hdiv2 : ¬ (C.length : Int) = 0 := by omega
    go_wp2_with fail
    refine (at_c A n c 0 (by omega) (by omega) xs HBY.out _ (Sl.ext HSL.out HX0.out)).mono ?_
    rintro e w4 ⟨xa, hxa, rfl, rfl⟩
    have hfm : xa % C.length < C.length := Nat.mod_lt _ (by omega)
    go_wp2_with fail
    refine (at_c A n c 1 (by omega) (by omega) xs HBY.out _ (Sl.ext HSL.out HX0.out)).mono ?_
    rintro e w4 ⟨xb, hxb, rfl, rfl⟩
    have hxm : xb % 5 < 5 := Nat.mod_lt _ (by omega)
    go_wp2_with fail
    have ef : (xa : Int) % (C.length : Int) = ((xa % C.length : Nat) : Int) := by norm_cast
    have ex : (xb : Int) % 5 = ((xb % 5 : Nat) : Int) := by norm_cast
    rw [ef, ex]
    clear ef ex
    generalize xa % C.length = f at *
    generalize xb % 5 = x at *
    have hx5 : x ≤ 5 := by omega
    clear hdiv hdiv2
    have HCHB := Lib.hid (HCB.out f x (by omega) hx5)
    have hfi : (f : Int) < (C.length : Int) := by omega
    have hfl : f < C.length := by omega
    clear HCB
    refine (ChainOf_i _ _ _ _ ns ls _ _ C (f : Int) (x : Int) _ HWN.out hinC (by omega)).mono ?_
    rintro e w4 ⟨v4, rfl, h4, hb⟩
    replace HX0 := Lib.hid (HX0.out.trans hb)
    replace HWN := Lib.hid (HWN.out.ext hb)
    replace k0 := hb.lit k0
    replace k1 := hb.lit k1
    replace hinC := hinC.ext hb
    clear hb
    have hlc := vChainOf_len ns ls C (f : Int) (x : Int)
    obtain ⟨AH, cH, rfl, -, -, hinH⟩ := h4.shape
    clear h4
    obtain ⟨bC, oC, rfl, hbC, c0⟩ := hinC.gi_ hfl
    have HC0 := Lib.hid c0
    clear c0
    have HSA : ∃ (S : List Int) (b : Bool), vSwapChain ns ls C (f : Int) (x : Int) = (S, b) ∧ S.length = C.length ∧ b = (gi C (f : Nat) != (x : Int)) ∧ (b = true → vAreProper ns ls S = true ∧ gi S (f : Nat) = (x : Int) ∧ vSwapChain ns ls S (f : Int) (gi C (f : Nat)) = (C, true) ∧
        vChainOf ns ls S (f : Int) (gi C (f : Nat)) = vChainOf ns ls C (f : Int) (x : Int) ∧ ∀ i : Nat, (gi S (i : Nat) != gi C (i : Nat)) = hsI (vChainOf ns ls C (f : Int) (x : Int)) (i : Int)) := by
      by_cases hne : gi C (f : Nat) = (x : Int)
      · refine ⟨C, false, HSN.out f x hfl hx5 hne, rfl, ?_, fun e => by cases e⟩
        rw [hne, bne_self_eq_false]
      · obtain ⟨S, e1, e2, e3, e4, e5, e6, e7⟩ := HSW.out f x hfl hx5 hne
        exact ⟨S, true, e1, e2, (bne_iff_ne.2 hne).symm, fun _ => ⟨e3, e4, e5, e6, e7⟩⟩
    obtain ⟨S, b, e1, e2, e3, e4⟩ := HSA
    have HSV := Lib.hid e1
    have HSL1 := Lib.hid e2
    have HSB0 := Lib.hid e4
    have hsl20 : S.length ≤ 40 := by omega
    have hsp0 : f < S.length := by omega
    have hspi : (f : Int) < S.length := by omega
    have p2 : ((S.length : Int) != (C.length : Int)) = false := by rw [bne_eq_false_iff_eq, e2]
    have HE3 := Lib.hid e3
    clear HSN HSW e1 e2 e3 e4
    go_wp2_with fail
    refine (SwapChain_i _ _ _ _ ns ls _ _ C (f : Int) (x : Int) _ HWN.out hinC (by omega)).mono ?_
    rw [HSV.out]
    rintro e w5 ⟨v5, rfl, h5, hb⟩
    replace h5 : OwI w5 _ v5 S := h5
    replace HX0 := Lib.hid (HX0.out.trans hb)
    replace HWN := Lib.hid (HWN.out.ext hb)
    replace k0 := hb.lit k0
    replace k1 := hb.lit k1
    replace hinC := hinC.ext hb
    replace hinH := hinH.ext hb
    have c0 := hb.lit HC0.out
    clear hb
    obtain ⟨AS, cS, rfl, -, -, hinS⟩ := h5.shape
    clear h5 HSV
    obtain ⟨z, hz⟩ : ∃ z : Int, gi C (f : Nat) = z := ⟨_, rfl⟩
    rw [hz] at c0 HSB0 HE3
    clear hz HC0
    generalize vChainOf ns ls C (f : Int) (x : Int) = CH at *
    go_upto_region 10 with fail
    go_cut [70] (fun s wx => s = .bool false ∧ Ext w5 wx)
    case first =>
      go_wp2_with fail
      refine (has_c _ _ CH (f : Int) _ (by omega) hinH).mono ?_
      rw [HCHB.out]
      rintro e wb ⟨rfl, rfl⟩
      cases b with
      | true =>
        have p3 : (z != (x : Int)) = true := HE3.out.symm
        go_wp2
        go_meet
        exact ⟨rfl, Ext.refl _⟩
      | false =>
        have p3 : (z != (x : Int)) = false := HE3.out.symm
        go_wp2
        go_meet
        exact ⟨rfl, Ext.refl _⟩
    case rest =>
      obtain ⟨rfl, hb⟩ := hcut
      obtain ⟨w6, rfl⟩ : ∃ x : World, x = wc := ⟨_, rfl⟩
      replace HX0 := Lib.hid (HX0.out.trans hb)
      replace HWN := Lib.hid (HWN.out.ext hb)
      replace k0 := hb.lit k0
      replace k1 := hb.lit k1
      replace hinC := hinC.ext hb
      replace hinH := hinH.ext hb
      replace hinS := hinS.ext hb
      replace c0 := hb.lit c0
      clear hb p2 HE3
      go_upto_if 71 with fail
      go_cut [12, 13, 14] (fun _ _ _ wx => Ext w6 wx)
      case first => as_aux_lemma =>
        cases b with
        | false =>
          go_wp2
          go_meet
          exact Ext.refl _
        | true =>
          obtain ⟨e3, e4, e5, e6, e7⟩ := HSB0.out rfl
          have HSP := Lib.hid e3
          have HSB := Lib.hid e5
          have HSC := Lib.hid e6
          have HSD := Lib.hid e7
          obtain ⟨bS, oS, rfl, hbS, s0⟩ := hinS.gi_ hsp0
          rw [e4] at s0
          have HX6 := Lib.hid (Ext.refl w6)
          clear HX0 e3 e4 e5 e6 e7 HSB0
          go_upto_region 13 with fail
          have d0 := cell_regrown k0
          have d1 := cell_regrown k1
          have d2 := cell_regrown c0
          refine rx_open [(true, 0, some 73, 8), (true, 0, some 74, 1024), (true, 0, some 75, 128), (true, 0, some 76, 16), (true, 0, some 77, 128), (true, 24, some 78, 226673591177742970257408), (true, 32, some 79, 302231454903657293676544), (false, 71, some 80, 670576040567489620344832), (true, 128, some 72, 1208925819614629174706176), (true, 256, some 81, 4722366482869645213696), (true, 256, some 82, 4722366482869645213696), (true, 1023, some 12, 2417851639229258349412352), (true, 4095, some 13, 4835703278458516698824704)] 0 13 mixd rfl (by kernel_rfl) (by kernel_rfl) (by kernel_rfl) ?_
          refine rx_run (run := [0, 1, 2, 3, 4, 5, 6]) (k := 6) (m' := 127) rfl (by kernel_rfl) (by kernel_rfl) (by kernel_rfl) (fm_cons rfl <| fm_cons rfl <| fm_cons rfl <| fm_cons rfl <| fm_cons rfl <| fm_cons rfl <| fm_cons rfl <| List.filterMap_nil) (by repeat first | exact Ext.refl _ | assumption | refine Ext.drew ?_ | refine Ext.alloc ?_ _ | refine Ext.setCell ?_ (by simp) | refine Ext.setCell ?_ (by simp; omega) | refine Ext.trans ?_ (by assumption)) ?_
          repeat (go_big_quiet_step ((fail)))
          refine wpQuiet_nil ?_
          refine rx_op 7 (k := 5) (m' := 255) rfl rfl (by kernel_rfl) (by kernel_rfl) ?_
          go_wp2_with ((go_at_call 19; refine (SwapChain_i _ _ _ _ ns ls _ _ S (f : Int) z _ (HWN.out.ext (by repeat first | exact Ext.refl _ | assumption | refine Ext.drew ?_ | refine Ext.alloc ?_ _ | refine Ext.setCell ?_ (by simp) | refine Ext.setCell ?_ (by simp; omega) | refine Ext.trans ?_ (by assumption))) (hinS.ext (by repeat first | exact Ext.refl _ | assumption | refine Ext.drew ?_ | refine Ext.alloc ?_ _ | refine Ext.setCell ?_ (by simp) | refine Ext.setCell ?_ (by simp; omega) | refine Ext.trans ?_ (by assumption))) (by omega)).mono ?_; rw [HSB.out]; rintro e w7 ⟨v7, rfl, h7, hb7⟩; replace h7 : OwI w7 _ v7 C := h7; obtain ⟨AB, cB, rfl, -, -, hinB⟩ := h7.shape; clear h7))
          refine rx_on (by repeat first | exact Ext.refl _ | assumption | refine Ext.drew ?_ | refine Ext.alloc ?_ _ | refine Ext.setCell ?_ (by simp) | refine Ext.setCell ?_ (by simp; omega) | refine Ext.trans ?_ (by assumption)) ?_
          refine rx_run (run := [8, 9, 10, 11, 12]) (k := 0) (m' := 8191) rfl (by kernel_rfl) (by kernel_rfl) (by kernel_rfl) (fm_cons rfl <| fm_cons rfl <| fm_cons rfl <| fm_cons rfl <| fm_cons rfl <| List.filterMap_nil) (by repeat first | exact Ext.refl _ | assumption | refine Ext.drew ?_ | refine Ext.alloc ?_ _ | refine Ext.setCell ?_ (by simp) | refine Ext.setCell ?_ (by simp; omega) | refine Ext.trans ?_ (by assumption)) ?_
          repeat (go_big_quiet_step ((fail)))
          refine wpQuiet_nil ?_
          refine rx_end (by kernel_rfl) ?_
          have hb67 : Ext w6 w7 := (Ext.refl w6).drew.trans hb7
          replace HX6 := Lib.hid (HX6.out.trans hb67)
          replace HWN := Lib.hid (HWN.out.ext hb67)
          replace k0 := hb67.lit k0
          replace k1 := hb67.lit k1
          replace hinC := hinC.ext hb67
          replace hinH := hinH.ext hb67
          replace hinS := hinS.ext hb67
          replace c0 := hb67.lit c0
          replace s0 := hb67.lit s0
          clear d0 d1 d2 hb7 hb67
          go_upto_region 14 with fail
          go_cut [117] (fun s wx => s = .bool false ∧ Ext w7 wx)
          case first =>
            have d0 := cell_regrown k0
            have d1 := cell_regrown k1
            have d2 := cell_regrown c0
            have d3 := cell_regrown s0
            refine rx_open [(true, 0, some 83, 8), (true, 0, some 84, 1024), (false, 3, some 85, 29014219670751100192948224), (true, 4, some 86, 38685626227668133590597632), (true, 12, some 87, 77371252455336267181195264), (true, 16, some 88, 154742504910672534362391552), (true, 16, some 89, 154742504910672534362390656), (true, 112, some 90, 1083197534374707740536733696), (true, 144, some 91, 1392682544196052809261514752), (true, 16, some 92, 154742504910672534362390784), (true, 784, some 93, 7582382740622954183757135872), (true, 1040, some 94, 10058262819193714733555384320), (true, 2064, some 95, 19807040628566084398385987584), (true, 4096, some 96, 39614081257132168796771983360), (true, 12288, some 97, 118842243771396506390315925504), (true, 20480, some 98, 198070406285660843983859875840), (true, 36864, some 99, 316912650057057350374175801344), (true, 65536, some 100, 633825300114114700748351606784), (true, 65536, some 101, 633825300114114700748351602704), (false, 458752, some 102, 4436777100798802905238461218816), (true, 589824, some 103, 5704427701027032306735164424192), (true, 1114112, some 104, 10775030101939949912721977245696), (true, 2621440, some 105, 20282409603651670423947251286016), (true, 4194304, some 106, 40564819207303340847894502572040), (true, 4194304, some 107, 40564819207303340847894502573056), (true, 4194304, some 108, 40564819207303340847894502572160), (true, 4194304, some 109, 40564819207303340847894502572048), (true, 4194304, some 110, 40564819207303340847894502572160), (true, 205520896, some 111, 1987676141157863701546830626029568), (true, 272629760, some 112, 2636713248474717155113142667182080), (false, 599785472, some 113, 5800769146644377741248913867800576), (true, 4194304, some 114, 40564819207303340847894502572544), (false, 3225419776, some 115, 31194345970416269112030872477892608), (true, 4299161600, some 116, 41578939687485924369091865136332800), (true, 8594128896, some 117, 83117314555764545397335835770093568)] 0 35 mixd rfl (by kernel_rfl) (by kernel_rfl) (by kernel_rfl) ?_
            refine rx_run (run := [0, 1]) (k := 33) (m' := 3) rfl (by kernel_rfl) (by kernel_rfl) (by kernel_rfl) (fm_cons rfl <| fm_cons rfl <| List.filterMap_nil) (by repeat first | exact Ext.refl _ | assumption | refine Ext.drew ?_ | refine Ext.alloc ?_ _ | refine Ext.setCell ?_ (by simp) | refine Ext.setCell ?_ (by simp; omega) | refine Ext.trans ?_ (by assumption)) ?_
            repeat (go_big_quiet_step ((fail)))
            refine wpQuiet_nil ?_
            refine rx_op 2 (k := 32) (m' := 7) rfl rfl (by kernel_rfl) (by kernel_rfl) ?_
            go_wp2_with ((go_at_call 15; refine (AreProper_s _ _ _ _ ns ls _ _ S _ (HWN.out.ext (by repeat first | exact Ext.refl _ | assumption | refine Ext.drew ?_ | refine Ext.alloc ?_ _ | refine Ext.setCell ?_ (by simp) | refine Ext.setCell ?_ (by simp; omega) | refine Ext.trans ?_ (by assumption))) (hinS.ext (by repeat first | exact Ext.refl _ | assumption | refine Ext.drew ?_ | refine Ext.alloc ?_ _ | refine Ext.setCell ?_ (by simp) | refine Ext.setCell ?_ (by simp; omega) | refine Ext.trans ?_ (by assumption))) (by omega)).mono ?_; rw [HSP.out]; rintro e w8 ⟨rfl, hb8⟩))
            refine rx_on (by repeat first | exact Ext.refl _ | assumption | refine Ext.drew ?_ | refine Ext.alloc ?_ _ | refine Ext.setCell ?_ (by simp) | refine Ext.setCell ?_ (by simp; omega) | refine Ext.trans ?_ (by assumption)) ?_
            refine rx_run (run := [3, 4, 5, 6, 7, 8, 9, 10, 11, 12, 13, 14, 15, 16, 17, 18]) (k := 16) (m' := 524287) rfl (by kernel_rfl) (by kernel_rfl) (by kernel_rfl) (fm_cons rfl <| fm_cons rfl <| fm_cons rfl <| fm_cons rfl <| fm_cons rfl <| fm_cons rfl <| fm_cons rfl <| fm_cons rfl <| fm_cons rfl <| fm_cons rfl <| fm_cons rfl <| fm_cons rfl <| fm_cons rfl <| fm_cons rfl <| fm_cons rfl <| fm_cons rfl <| List.filterMap_nil) (by repeat first | exact Ext.refl _ | assumption | refine Ext.drew ?_ | refine Ext.alloc ?_ _ | refine Ext.setCell ?_ (by simp) | refine Ext.setCell ?_ (by simp; omega) | refine Ext.trans ?_ (by assumption)) ?_
            repeat (go_big_quiet_step ((fail)))
            refine wpQuiet_nil ?_
            refine rx_op 19 (k := 15) (m' := 1048575) rfl rfl (by kernel_rfl) (by kernel_rfl) ?_
            go_wp2_with ((go_at_call 21; refine (sameInts_c _ _ _ _ C C _ (by omega) (by omega) (hinB.ext (by repeat first | exact Ext.refl _ | assumption | refine Ext.drew ?_ | refine Ext.alloc ?_ _ | refine Ext.setCell ?_ (by simp) | refine Ext.setCell ?_ (by simp; omega) | refine Ext.trans ?_ (by assumption))) (hinC.ext (by repeat first | exact Ext.refl _ | assumption | refine Ext.drew ?_ | refine Ext.alloc ?_ _ | refine Ext.setCell ?_ (by simp) | refine Ext.setCell ?_ (by simp; omega) | refine Ext.trans ?_ (by assumption)))).mono ?_; rw [decide_eq_true rfl]; rintro e w9 ⟨rfl, hb9⟩))
            refine rx_on (by repeat first | exact Ext.refl _ | assumption | refine Ext.drew ?_ | refine Ext.alloc ?_ _ | refine Ext.setCell ?_ (by simp) | refine Ext.setCell ?_ (by simp; omega) | refine Ext.trans ?_ (by assumption)) ?_
            refine rx_run (run := [20, 21, 22, 23, 24, 25, 26, 27, 28, 29, 31]) (k := 4) (m' := 3221225471) rfl (by kernel_rfl) (by kernel_rfl) (by kernel_rfl) (fm_cons rfl <| fm_cons rfl <| fm_cons rfl <| fm_cons rfl <| fm_cons rfl <| fm_cons rfl <| fm_cons rfl <| fm_cons rfl <| fm_cons rfl <| fm_cons rfl <| fm_cons rfl <| List.filterMap_nil) (by repeat first | exact Ext.refl _ | assumption | refine Ext.drew ?_ | refine Ext.alloc ?_ _ | refine Ext.setCell ?_ (by simp) | refine Ext.setCell ?_ (by simp; omega) | refine Ext.trans ?_ (by assumption)) ?_
            repeat (go_big_quiet_step ((fail)))
            refine wpQuiet_nil ?_
            refine rx_op 30 (k := 3) (m' := 4294967295) rfl rfl (by kernel_rfl) (by kernel_rfl) ?_
            go_wp2_with ((go_at_call 18; refine (ChainOf_i _ _ _ _ ns ls _ _ S (f : Int) z _ (HWN.out.ext (by repeat first | exact Ext.refl _ | assumption | refine Ext.drew ?_ | refine Ext.alloc ?_ _ | refine Ext.setCell ?_ (by simp) | refine Ext.setCell ?_ (by simp; omega) | refine Ext.trans ?_ (by assumption))) (hinS.ext (by repeat first | exact Ext.refl _ | assumption | refine Ext.drew ?_ | refine Ext.alloc ?_ _ | refine Ext.setCell ?_ (by simp) | refine Ext.setCell ?_ (by simp; omega) | refine Ext.trans ?_ (by assumption))) (by omega)).mono ?_; rw [HSC.out]; rintro e wa ⟨va, rfl, ha, hba⟩; obtain ⟨AD, cD, rfl, -, -, hinD⟩ := ha.shape; clear ha))
            refine rx_on (by repeat first | exact Ext.refl _ | assumption | refine Ext.drew ?_ | refine Ext.alloc ?_ _ | refine Ext.setCell ?_ (by simp) | refine Ext.setCell ?_ (by simp; omega) | refine Ext.trans ?_ (by assumption)) ?_
            refine rx_op 32 (k := 2) (m' := 8589934591) rfl rfl (by kernel_rfl) (by kernel_rfl) ?_
            go_wp2_with ((go_at_call 21; refine (sameInts_c _ _ _ _ CH CH _ (by omega) (by omega) (hinD.ext (by repeat first | exact Ext.refl _ | assumption | refine Ext.drew ?_ | refine Ext.alloc ?_ _ | refine Ext.setCell ?_ (by simp) | refine Ext.setCell ?_ (by simp; omega) | refine Ext.trans ?_ (by assumption))) (hinH.ext (by repeat first | exact Ext.refl _ | assumption | refine Ext.drew ?_ | refine Ext.alloc ?_ _ | refine Ext.setCell ?_ (by simp) | refine Ext.setCell ?_ (by simp; omega) | refine Ext.trans ?_ (by assumption)))).mono ?_; rw [decide_eq_true rfl]; rintro e wb ⟨rfl, hbb⟩))
            refine rx_on (by repeat first | exact Ext.refl _ | assumption | refine Ext.drew ?_ | refine Ext.alloc ?_ _ | refine Ext.setCell ?_ (by simp) | refine Ext.setCell ?_ (by simp; omega) | refine Ext.trans ?_ (by assumption)) ?_
            refine rx_run (run := [33, 34]) (k := 0) (m' := 34359738367) rfl (by kernel_rfl) (by kernel_rfl) (by kernel_rfl) (fm_cons rfl <| fm_cons rfl <| List.filterMap_nil) (by repeat first | exact Ext.refl _ | assumption | refine Ext.drew ?_ | refine Ext.alloc ?_ _ | refine Ext.setCell ?_ (by simp) | refine Ext.setCell ?_ (by simp; omega) | refine Ext.trans ?_ (by assumption)) ?_
            repeat (go_big_quiet_step ((fail)))
            refine wpQuiet_nil ?_
            refine rx_end (by kernel_rfl) ?_
            go_wp2
            go_meet
            exact ⟨rfl, (by repeat first | exact Ext.refl _ | assumption | refine Ext.drew ?_ | refine Ext.alloc ?_ _ | refine Ext.setCell ?_ (by simp) | refine Ext.setCell ?_ (by simp; omega) | refine Ext.trans ?_ (by assumption))⟩
          case rest =>
            obtain ⟨rfl, hb⟩ := hcut
            obtain ⟨w8, rfl⟩ : ∃ x : World, x = wc := ⟨_, rfl⟩
            replace HX6 := Lib.hid (HX6.out.trans hb)
            replace HWN := Lib.hid (HWN.out.ext hb)
            replace k0 := hb.lit k0
            replace k1 := hb.lit k1
            replace hinC := hinC.ext hb
            replace hinH := hinH.ext hb
            replace hinS := hinS.ext hb
            clear hb c0 s0 hinB HSB HSC HSP
            have HSE : Hid (C.length = S.length) := Lib.hid HSL1.out.symm
            go_wp2_with fail
            go_loopw [14] (fun i wr => ∃ k : Nat, k ≤ C.length ∧ i = .int .i64 k ∧ Ext w8 wr) (fun i _ => C.length - (intOf i).toNat)
            case atStart => exact ⟨0, by omega, rfl, Ext.refl _⟩
            case round =>
              obtain ⟨k, hk, rfl, hxs⟩ := hrel
              obtain ⟨w9, rfl⟩ : ∃ x : World, x = wr := ⟨_, rfl⟩
              by_cases hlt : k < C.length
              · have hki : (k : Int) < C.length := by omega
                have hkS : k < S.length := by rw [HSL1.out]; exact hlt
                have hkSi : (k : Int) < S.length := by omega
                obtain ⟨bC', oC', e', -, z0⟩ := (hinC.ext hxs).gi_ hlt
                obtain ⟨rfl, rfl⟩ : bC = bC' ∧ oC = oC' := by simpa using e'
                obtain ⟨bS', oS', e'', -, y0⟩ := (hinS.ext hxs).gi_ hkS
                obtain ⟨rfl, rfl⟩ : bS = bS' ∧ oS = oS' := by simpa using e''
                clear e' e''
                have HDK := Lib.hid (HSD.out k)
                generalize gi C (k : Nat) = zk at *
                generalize gi S (k : Nat) = yk at *
                have HHV : Hid (hsI CH (k : Int) = (yk != zk)) := Lib.hid HDK.out.symm
                obtain ⟨bk, hbk⟩ : ∃ bk : Bool, (yk != zk) = bk := ⟨_, rfl⟩
                rw [hbk] at HHV
                clear HDK
                go_upto_region 19 with fail
                go_cut [135] (fun s wx => s = .bool false ∧ Ext w9 wx)
                case first =>
                  have d0 := cell_regrown z0
                  have d1 := cell_regrown y0
                  cases bk with
                  | true =>
                    refine rx_open [(true, 0, some 123, 1024), (true, 0, some 124, 16384), (true, 3, some 125, 31901471898837980949691369446728269824), (true, 4, some 126, 42535295865117307932921825928971026432), (true, 0, some 127, 16), (true, 0, some 128, 16384), (true, 48, some 129, 510423550381407695195061911147652317184), (true, 64, some 130, 680564733841876926926749214863536422912), (true, 136, some 131, 1446200059413988469719342081585014898688), (true, 0, some 132, 512), (true, 0, some 133, 16384), (false, 1536, some 134, 16333553612205046246241981156724874149888), (true, 2304, some 135, 24500330418307569369362971735087311224832)] 0 13 mixd rfl (by kernel_rfl) (by kernel_rfl) (by kernel_rfl) ?_
                    refine rx_run (run := [0, 1, 2, 3, 4, 5, 6, 7, 8, 9, 10]) (k := 2) (m' := 2047) rfl (by kernel_rfl) (by kernel_rfl) (by kernel_rfl) (fm_cons rfl <| fm_cons rfl <| fm_cons rfl <| fm_cons rfl <| fm_cons rfl <| fm_cons rfl <| fm_cons rfl <| fm_cons rfl <| fm_cons rfl <| fm_cons rfl <| fm_cons rfl <| List.filterMap_nil) (by repeat first | exact Ext.refl _ | assumption | refine Ext.drew ?_ | refine Ext.alloc ?_ _ | refine Ext.setCell ?_ (by simp) | refine Ext.setCell ?_ (by simp; omega) | refine Ext.trans ?_ (by assumption)) ?_
                    repeat (go_big_quiet_step ((fail)))
                    refine wpQuiet_nil ?_
                    refine rx_op 11 (k := 1) (m' := 4095) rfl rfl (by kernel_rfl) (by kernel_rfl) ?_
                    go_wp2_with ((go_at_call 20; refine (has_c _ _ CH (k : Int) _ (by omega) (hinH.ext (hxs.trans (by repeat first | exact Ext.refl _ | assumption | refine Ext.drew ?_ | refine Ext.alloc ?_ _ | refine Ext.setCell ?_ (by simp) | refine Ext.setCell ?_ (by simp; omega) | refine Ext.trans ?_ (by assumption))))).mono ?_; rw [HHV.out]; rintro e wa ⟨rfl, rfl⟩))
                    refine rx_on (by repeat first | exact Ext.refl _ | assumption | refine Ext.drew ?_ | refine Ext.alloc ?_ _ | refine Ext.setCell ?_ (by simp) | refine Ext.setCell ?_ (by simp; omega) | refine Ext.trans ?_ (by assumption)) ?_
                    refine rx_run (run := [12]) (k := 0) (m' := 8191) rfl (by kernel_rfl) (by kernel_rfl) (by kernel_rfl) (fm_cons rfl <| List.filterMap_nil) (by repeat first | exact Ext.refl _ | assumption | refine Ext.drew ?_ | refine Ext.alloc ?_ _ | refine Ext.setCell ?_ (by simp) | refine Ext.setCell ?_ (by simp; omega) | refine Ext.trans ?_ (by assumption)) ?_
                    repeat (go_big_quiet_step ((fail)))
                    refine wpQuiet_nil ?_
                    refine rx_end (by kernel_rfl) ?_
                    go_wp2
                    go_meet
                    exact ⟨rfl, (by repeat first | exact Ext.refl _ | assumption | refine Ext.drew ?_ | refine Ext.alloc ?_ _ | refine Ext.setCell ?_ (by simp) | refine Ext.setCell ?_ (by simp; omega) | refine Ext.trans ?_ (by assumption))⟩
                  | false =>
                    refine rx_open [(true, 0, some 123, 1024), (true, 0, some 124, 16384), (true, 3, some 125, 31901471898837980949691369446728269824), (true, 4, some 126, 42535295865117307932921825928971026432), (true, 0, some 127, 16), (true, 0, some 128, 16384), (true, 48, some 129, 510423550381407695195061911147652317184), (true, 64, some 130, 680564733841876926926749214863536422912), (true, 136, some 131, 1446200059413988469719342081585014898688), (true, 0, some 132, 512), (true, 0, some 133, 16384), (false, 1536, some 134, 16333553612205046246241981156724874149888), (true, 2304, some 135, 24500330418307569369362971735087311224832)] 0 13 mixd rfl (by kernel_rfl) (by kernel_rfl) (by kernel_rfl) ?_
                    refine rx_run (run := [0, 1, 2, 3, 4, 5, 6, 7, 8, 9, 10]) (k := 2) (m' := 2047) rfl (by kernel_rfl) (by kernel_rfl) (by kernel_rfl) (fm_cons rfl <| fm_cons rfl <| fm_cons rfl <| fm_cons rfl <| fm_cons rfl <| fm_cons rfl <| fm_cons rfl <| fm_cons rfl <| fm_cons rfl <| fm_cons rfl <| fm_cons rfl <| List.filterMap_nil) (by repeat first | exact Ext.refl _ | assumption | refine Ext.drew ?_ | refine Ext.alloc ?_ _ | refine Ext.setCell ?_ (by simp) | refine Ext.setCell ?_ (by simp; omega) | refine Ext.trans ?_ (by assumption)) ?_
                    repeat (go_big_quiet_step ((fail)))
                    refine wpQuiet_nil ?_
                    refine rx_op 11 (k := 1) (m' := 4095) rfl rfl (by kernel_rfl) (by kernel_rfl) ?_
                    go_wp2_with ((go_at_call 20; refine (has_c _ _ CH (k : Int) _ (by omega) (hinH.ext (hxs.trans (by repeat first | exact Ext.refl _ | assumption | refine Ext.drew ?_ | refine Ext.alloc ?_ _ | refine Ext.setCell ?_ (by simp) | refine Ext.setCell ?_ (by simp; omega) | refine Ext.trans ?_ (by assumption))))).mono ?_; rw [HHV.out]; rintro e wa ⟨rfl, rfl⟩))
                    refine rx_on (by repeat first | exact Ext.refl _ | assumption | refine Ext.drew ?_ | refine Ext.alloc ?_ _ | refine Ext.setCell ?_ (by simp) | refine Ext.setCell ?_ (by simp; omega) | refine Ext.trans ?_ (by assumption)) ?_
                    refine rx_run (run := [12]) (k := 0) (m' := 8191) rfl (by kernel_rfl) (by kernel_rfl) (by kernel_rfl) (fm_cons rfl <| List.filterMap_nil) (by repeat first | exact Ext.refl _ | assumption | refine Ext.drew ?_ | refine Ext.alloc ?_ _ | refine Ext.setCell ?_ (by simp) | refine Ext.setCell ?_ (by simp; omega) | refine Ext.trans ?_ (by assumption)) ?_
                    repeat (go_big_quiet_step ((fail)))
                    refine wpQuiet_nil ?_
                    refine rx_end (by kernel_rfl) ?_
                    go_wp2
                    go_meet
                    exact ⟨rfl, (by repeat first | exact Ext.refl _ | assumption | refine Ext.drew ?_ | refine Ext.alloc ?_ _ | refine Ext.setCell ?_ (by simp) | refine Ext.setCell ?_ (by simp; omega) | refine Ext.trans ?_ (by assumption))⟩
                case rest =>
                  obtain ⟨rfl, hb⟩ := hcut
                  replace hxs := hxs.trans hb
                  clear hb
                  go_wp2
                  go_roundw
                  case rel => exact ⟨k + 1, by omega, by go_num, hxs⟩
                  case measure => first | (simp [intOf]; done) | (simp [intOf]; omega)
              · obtain rfl : k = C.length := by omega
                clear hk hlt
                have hb := hxs
                replace HX6 := Lib.hid (HX6.out.trans hb)
                replace HWN := Lib.hid (HWN.out.ext hb)
                replace k0 := hb.lit k0
                replace k1 := hb.lit k1
                replace hinC := hinC.ext hb
                go_wp2
                go_meet
                exact HX6.out
      case rest => as_aux_lemma =>
        have hb := hcut
        obtain ⟨wz, rfl⟩ : ∃ x : World, x = wc := ⟨_, rfl⟩
        replace HX0 := Lib.hid (HX0.out.trans hb)
        replace HWN := Lib.hid (HWN.out.ext hb)
        replace k0 := hb.lit k0
        replace k1 := hb.lit k1
        replace hinC := hinC.ext hb
        clear hb hcut c0 hinH hinS HSB0 HSL1 hsl20 hsp0 hspi
        have hFR := HFR.out f hfl
        obtain ⟨fl, fb, fe1, fe2, fe3, fe4⟩ := hFR
        have HFE := Lib.hid fe1
        have HFL := Lib.hid fe2
        have HF3 := Lib.hid fe3
        have HF4 := Lib.hid fe4
        clear fe1 fe2 fe3 fe4 HFR
        go_wp2_with fail
        refine (FreeFace_i _ _ _ _ ns ls _ _ C (f : Int) 4 _ HWN.out hinC (by omega)).mono ?_
        rw [HFE.out]
        rintro e wf ⟨vf, rfl, hf, hb⟩
        replace hf : OwI wf _ vf fl := hf
        replace HX0 := Lib.hid (HX0.out.trans hb)
        replace HWN := Lib.hid (HWN.out.ext hb)
        replace k0 := hb.lit k0
        replace k1 := hb.lit k1
        replace hinC := hinC.ext hb
        clear hb HFE
        obtain ⟨AF, cF, rfl, -, -, hinF⟩ := hf.shape
        clear hf
        have hfll : f < fl.length := by rw [HFL.out]; exact hfl
        have hfli : (f : Int) < fl.length := by omega
        obtain ⟨bF, oF, rfl, hbF, y0⟩ := hinF.gi_ hfll
        obtain ⟨bC', oC', e', -, z0⟩ := hinC.gi_ hfl
        obtain ⟨rfl, rfl⟩ : bC = bC' ∧ oC = oC' := by simpa using e'
        clear e'
        have hfl20 : fl.length ≤ 2000000 := by rw [HFL.out]; omega
        go_upto_region 22 with fail
        go_cut [184] (fun s wx => s = .bool false ∧ Ext wf wx)
        case first =>
          have d0 := cell_regrown k0
          have d1 := cell_regrown k1
          cases fb with
          | true =>
            obtain ⟨g1, g2, g3, g4⟩ := HF3.out rfl
            have HG1 := Lib.hid g1
            have d2 := cell_regrown y0
            have d3 := cell_regrown z0
            generalize gi fl (f : Nat) = u at *
            generalize gi C (f : Nat) = z at *
            have p1 : (u == z) = false := by rw [beq_eq_false_iff_ne]; exact g2
            have p2 : decide (u < 0) = false := decide_eq_false (by omega)
            have p3 : decide (u > 3) = false := decide_eq_false (by omega)
            refine rx_open [(true, 0, some 143, 65536), (true, 1, some 144, 11150372599265311570767859136324180752990208), (true, 2, some 145, 22300745198530623141535718272648361505980424), (true, 2, some 146, 22300745198530623141535718272648361506013184), (false, 14, some 147, 156105216389714361990750027908538530541862912), (true, 18, some 148, 200706706786775608273821464453835253553823744), (true, 50, some 149, 379112668375020593406107210635022145601667072), (true, 64, some 150, 713623846352979940529142984724747568191406080), (true, 64, some 151, 713623846352979940529142984724747568191373440), (true, 448, some 152, 4995366924470859583704000893073232977339613184), (true, 576, some 153, 6422614617176819464762286862522728113722359808), (true, 64, some 154, 713623846352979940529142984724747568191373328), (true, 64, some 155, 713623846352979940529142984724747568191373440), (true, 6208, some 156, 69221513096239054231326869518300514114563211264), (true, 8256, some 157, 92057476179534412328259445029492436296687157248), (true, 17472, some 158, 194819310054363523764456034829856086116244914176), (true, 32834, some 159, 366111333924277240114591886882068150843680489472), (true, 65602, some 160, 730773119410649989724983952076414158189472251904), (true, 131072, some 161, 1461501637330902918203684832716283019655932575744), (true, 131072, some 162, 1461501637330902918203684832716283019655932543104), (true, 917504, some 163, 10230511461316320427425793829013981137591527800832), (true, 1179648, some 164, 13153514735978126263833163494446547176903392886784), (true, 2228224, some 165, 24845527834625349609462642156176811334150853230592), (true, 4325378, some 166, 48229576332664994831344741015355612297007279898624), (true, 8519682, some 167, 93536127089922985295658970829560385906341188730880), (true, 16777216, some 168, 187072209578355573530071658587684226515959365533696), (true, 16777216, some 169, 187072209578355573530071658587684226515959365501056), (true, 117440512, some 170, 1309505467048489014710501610113789585611715558506496), (true, 150994944, some 171, 1683649886205200161770644927289158038643634289508352), (true, 285212672, some 172, 3180227562832044750011218195990631850771309213515776), (true, 553648130, some 173, 6173382938386479125022987874929297747675020567511040), (true, 1073741826, some 174, 11972621435315501904455209291147508769669760898039808), (true, 2164260864, some 175, 23945242826029513411849172299223580994042798784118784), (true, 4294967296, some 176, 47890485652059026823698344598447161988085597568303104), (true, 12884901888, some 177, 143671456956177080471095033795341485964256792704712704), (true, 21474836480, some 178, 239452428260295134118491722992235809940427987841187840), (true, 34359738368, some 179, 383123885216472214589586756787577295904684780545933312), (true, 34359738368, some 180, 383123885216472214589586756787577295904684780545900560), (false, 240518168576, some 181, 2681867196515305502127107297513041071332793463821303808), (true, 309237645312, some 182, 3448114966948249931306280811088195663142163024913104896), (true, 588410519552, some 183, 6560996534332086674846673209987261192367726866848546816), (true, 1103806595072, some 184, 12307854812579169893690474561800920630937998575037054976)] 0 42 mixd rfl (by kernel_rfl) (by kernel_rfl) (by kernel_rfl) ?_
            refine rx_run (run := [0, 1, 2, 3]) (k := 38) (m' := 15) rfl (by kernel_rfl) (by kernel_rfl) (by kernel_rfl) (fm_cons rfl <| fm_cons rfl <| fm_cons rfl <| fm_cons rfl <| List.filterMap_nil) (by repeat first | exact Ext.refl _ | assumption | refine Ext.drew ?_ | refine Ext.alloc ?_ _ | refine Ext.setCell ?_ (by simp) | refine Ext.setCell ?_ (by simp; omega) | refine Ext.trans ?_ (by assumption)) ?_
            repeat (go_big_quiet_step ((fail)))
            refine wpQuiet_nil ?_
            refine rx_op 4 (k := 37) (m' := 31) rfl rfl (by kernel_rfl) (by kernel_rfl) ?_
            go_wp2_with ((go_at_call 15; refine (AreProper_s _ _ _ _ ns ls _ _ fl _ (HWN.out.ext (by repeat first | exact Ext.refl _ | assumption | refine Ext.drew ?_ | refine Ext.alloc ?_ _ | refine Ext.setCell ?_ (by simp) | refine Ext.setCell ?_ (by simp; omega) | refine Ext.trans ?_ (by assumption))) (hinF.ext (by repeat first | exact Ext.refl _ | assumption | refine Ext.drew ?_ | refine Ext.alloc ?_ _ | refine Ext.setCell ?_ (by simp) | refine Ext.setCell ?_ (by simp; omega) | refine Ext.trans ?_ (by assumption))) hfl20).mono ?_; rw [HG1.out]; rintro e wg ⟨rfl, hbg⟩))
            refine rx_on (by repeat first | exact Ext.refl _ | assumption | refine Ext.drew ?_ | refine Ext.alloc ?_ _ | refine Ext.setCell ?_ (by simp) | refine Ext.setCell ?_ (by simp; omega) | refine Ext.trans ?_ (by assumption)) ?_
            refine rx_run (run := [5, 6, 7, 8, 9, 10, 11, 12, 13, 14, 15, 16, 17, 18, 19, 20, 21, 22, 23, 24, 25, 26, 27, 28, 29, 30, 31, 32, 33, 34, 35, 36, 37]) (k := 4) (m' := 274877906943) rfl (by kernel_rfl) (by kernel_rfl) (by kernel_rfl) (fm_cons rfl <| fm_cons rfl <| fm_cons rfl <| fm_cons rfl <| fm_cons rfl <| fm_cons rfl <| fm_cons rfl <| fm_cons rfl <| fm_cons rfl <| fm_cons rfl <| fm_cons rfl <| fm_cons rfl <| fm_cons rfl <| fm_cons rfl <| fm_cons rfl <| fm_cons rfl <| fm_cons rfl <| fm_cons rfl <| fm_cons rfl <| fm_cons rfl <| fm_cons rfl <| fm_cons rfl <| fm_cons rfl <| fm_cons rfl <| fm_cons rfl <| fm_cons rfl <| fm_cons rfl <| fm_cons rfl <| fm_cons rfl <| fm_cons rfl <| fm_cons rfl <| fm_cons rfl <| fm_cons rfl <| List.filterMap_nil) (by repeat first | exact Ext.refl _ | assumption | refine Ext.drew ?_ | refine Ext.alloc ?_ _ | refine Ext.setCell ?_ (by simp) | refine Ext.setCell ?_ (by simp; omega) | refine Ext.trans ?_ (by assumption)) ?_
            repeat (go_big_quiet_step ((fail)))
            refine wpQuiet_nil ?_
            refine rx_op 38 (k := 3) (m' := 549755813887) rfl rfl (by kernel_rfl) (by kernel_rfl) ?_
            go_wp2_with (fail)
            refine rx_on (by repeat first | exact Ext.refl _ | assumption | refine Ext.drew ?_ | refine Ext.alloc ?_ _ | refine Ext.setCell ?_ (by simp) | refine Ext.setCell ?_ (by simp; omega) | refine Ext.trans ?_ (by assumption)) ?_
            refine rx_run (run := [39, 40, 41]) (k := 0) (m' := 4398046511103) rfl (by kernel_rfl) (by kernel_rfl) (by kernel_rfl) (fm_cons rfl <| fm_cons rfl <| fm_cons rfl <| List.filterMap_nil) (by repeat first | exact Ext.refl _ | assumption | refine Ext.drew ?_ | refine Ext.alloc ?_ _ | refine Ext.setCell ?_ (by simp) | refine Ext.setCell ?_ (by simp; omega) | refine Ext.trans ?_ (by assumption)) ?_
            repeat (go_big_quiet_step ((fail)))
            refine wpQuiet_nil ?_
            refine rx_end (by kernel_rfl) ?_
            go_wp2
            go_meet
            exact ⟨rfl, (by repeat first | exact Ext.refl _ | assumption | refine Ext.drew ?_ | refine Ext.alloc ?_ _ | refine Ext.setCell ?_ (by simp) | refine Ext.setCell ?_ (by simp; omega) | refine Ext.trans ?_ (by assumption))⟩
          | false =>
            have hq := (HF4.out rfl).symm
            subst hq
            refine rx_open [(true, 0, some 143, 65536), (true, 1, some 144, 11150372599265311570767859136324180752990208), (true, 2, some 145, 22300745198530623141535718272648361505980424), (true, 2, some 146, 22300745198530623141535718272648361506013184), (false, 14, some 147, 156105216389714361990750027908538530541862912), (true, 18, some 148, 200706706786775608273821464453835253553823744), (true, 50, some 149, 379112668375020593406107210635022145601667072), (true, 64, some 150, 713623846352979940529142984724747568191406080), (true, 64, some 151, 713623846352979940529142984724747568191373440), (true, 448, some 152, 4995366924470859583704000893073232977339613184), (true, 576, some 153, 6422614617176819464762286862522728113722359808), (true, 64, some 154, 713623846352979940529142984724747568191373328), (true, 64, some 155, 713623846352979940529142984724747568191373440), (true, 6208, some 156, 69221513096239054231326869518300514114563211264), (true, 8256, some 157, 92057476179534412328259445029492436296687157248), (true, 17472, some 158, 194819310054363523764456034829856086116244914176), (true, 32834, some 159, 366111333924277240114591886882068150843680489472), (true, 65602, some 160, 730773119410649989724983952076414158189472251904), (true, 131072, some 161, 1461501637330902918203684832716283019655932575744), (true, 131072, some 162, 1461501637330902918203684832716283019655932543104), (true, 917504, some 163, 10230511461316320427425793829013981137591527800832), (true, 1179648, some 164, 13153514735978126263833163494446547176903392886784), (true, 2228224, some 165, 24845527834625349609462642156176811334150853230592), (true, 4325378, some 166, 48229576332664994831344741015355612297007279898624), (true, 8519682, some 167, 93536127089922985295658970829560385906341188730880), (true, 16777216, some 168, 187072209578355573530071658587684226515959365533696), (true, 16777216, some 169, 187072209578355573530071658587684226515959365501056), (true, 117440512, some 170, 1309505467048489014710501610113789585611715558506496), (true, 150994944, some 171, 1683649886205200161770644927289158038643634289508352), (true, 285212672, some 172, 3180227562832044750011218195990631850771309213515776), (true, 553648130, some 173, 6173382938386479125022987874929297747675020567511040), (true, 1073741826, some 174, 11972621435315501904455209291147508769669760898039808), (true, 2164260864, some 175, 23945242826029513411849172299223580994042798784118784), (true, 4294967296, some 176, 47890485652059026823698344598447161988085597568303104), (true, 12884901888, some 177, 143671456956177080471095033795341485964256792704712704), (true, 21474836480, some 178, 239452428260295134118491722992235809940427987841187840), (true, 34359738368, some 179, 383123885216472214589586756787577295904684780545933312), (true, 34359738368, some 180, 383123885216472214589586756787577295904684780545900560), (false, 240518168576, some 181, 2681867196515305502127107297513041071332793463821303808), (true, 309237645312, some 182, 3448114966948249931306280811088195663142163024913104896), (true, 588410519552, some 183, 6560996534332086674846673209987261192367726866848546816), (true, 1103806595072, some 184, 12307854812579169893690474561800920630937998575037054976)] 0 42 mixd rfl (by kernel_rfl) (by kernel_rfl) (by kernel_rfl) ?_
            refine rx_run (run := [0, 1, 2, 3]) (k := 38) (m' := 15) rfl (by kernel_rfl) (by kernel_rfl) (by kernel_rfl) (fm_cons rfl <| fm_cons rfl <| fm_cons rfl <| fm_cons rfl <| List.filterMap_nil) (by repeat first | exact Ext.refl _ | assumption | refine Ext.drew ?_ | refine Ext.alloc ?_ _ | refine Ext.setCell ?_ (by simp) | refine Ext.setCell ?_ (by simp; omega) | refine Ext.trans ?_ (by assumption)) ?_
            repeat (go_big_quiet_step ((fail)))
            refine wpQuiet_nil ?_
            refine rx_op 4 (k := 37) (m' := 31) rfl rfl (by kernel_rfl) (by kernel_rfl) ?_
            go_wp2_with (fail)
            refine rx_on (by repeat first | exact Ext.refl _ | assumption | refine Ext.drew ?_ | refine Ext.alloc ?_ _ | refine Ext.setCell ?_ (by simp) | refine Ext.setCell ?_ (by simp; omega) | refine Ext.trans ?_ (by assumption)) ?_
            refine rx_run (run := [5, 6, 7, 8, 9, 10, 11, 12, 13, 14, 15, 16, 17, 18, 19, 20, 21, 22, 23, 24, 25, 26, 27, 28, 29, 30, 31, 32, 33, 34, 35, 36, 37]) (k := 4) (m' := 274877906943) rfl (by kernel_rfl) (by kernel_rfl) (by kernel_rfl) (fm_cons rfl <| fm_cons rfl <| fm_cons rfl <| fm_cons rfl <| fm_cons rfl <| fm_cons rfl <| fm_cons rfl <| fm_cons rfl <| fm_cons rfl <| fm_cons rfl <| fm_cons rfl <| fm_cons rfl <| fm_cons rfl <| fm_cons rfl <| fm_cons rfl <| fm_cons rfl <| fm_cons rfl <| fm_cons rfl <| fm_cons rfl <| fm_cons rfl <| fm_cons rfl <| fm_cons rfl <| fm_cons rfl <| fm_cons rfl <| fm_cons rfl <| fm_cons rfl <| fm_cons rfl <| fm_cons rfl <| fm_cons rfl <| fm_cons rfl <| fm_cons rfl <| fm_cons rfl <| fm_cons rfl <| List.filterMap_nil) (by repeat first | exact Ext.refl _ | assumption | refine Ext.drew ?_ | refine Ext.alloc ?_ _ | refine Ext.setCell ?_ (by simp) | refine Ext.setCell ?_ (by simp; omega) | refine Ext.trans ?_ (by assumption)) ?_
            repeat (go_big_quiet_step ((fail)))
            refine wpQuiet_nil ?_
            refine rx_op 38 (k := 3) (m' := 549755813887) rfl rfl (by kernel_rfl) (by kernel_rfl) ?_
            go_wp2_with ((go_at_call 21; refine (sameInts_c _ _ _ _ C C _ (by omega) (by omega) (hinF.ext (by repeat first | exact Ext.refl _ | assumption | refine Ext.drew ?_ | refine Ext.alloc ?_ _ | refine Ext.setCell ?_ (by simp) | refine Ext.setCell ?_ (by simp; omega) | refine Ext.trans ?_ (by assumption))) (hinC.ext (by repeat first | exact Ext.refl _ | assumption | refine Ext.drew ?_ | refine Ext.alloc ?_ _ | refine Ext.setCell ?_ (by simp) | refine Ext.setCell ?_ (by simp; omega) | refine Ext.trans ?_ (by assumption)))).mono ?_; rw [decide_eq_true rfl]; rintro e wg ⟨rfl, hbg⟩))
            refine rx_on (by repeat first | exact Ext.refl _ | assumption | refine Ext.drew ?_ | refine Ext.alloc ?_ _ | refine Ext.setCell ?_ (by simp) | refine Ext.setCell ?_ (by simp; omega) | refine Ext.trans ?_ (by assumption)) ?_
            refine rx_run (run := [39, 40, 41]) (k := 0) (m' := 4398046511103) rfl (by kernel_rfl) (by kernel_rfl) (by kernel_rfl) (fm_cons rfl <| fm_cons rfl <| fm_cons rfl <| List.filterMap_nil) (by repeat first | exact Ext.refl _ | assumption | refine Ext.drew ?_ | refine Ext.alloc ?_ _ | refine Ext.setCell ?_ (by simp) | refine Ext.setCell ?_ (by simp; omega) | refine Ext.trans ?_ (by assumption)) ?_
            repeat (go_big_quiet_step ((fail)))
            refine wpQuiet_nil ?_
            refine rx_end (by kernel_rfl) ?_
            go_wp2
            go_meet
            exact ⟨rfl, (by repeat first | exact Ext.refl _ | assumption | refine Ext.drew ?_ | refine Ext.alloc ?_ _ | refine Ext.setCell ?_ (by simp) | refine Ext.setCell ?_ (by simp; omega) | refine Ext.trans ?_ (by assumption))⟩
        case rest =>
          obtain ⟨rfl, hb⟩ := hcut
          obtain ⟨wg, rfl⟩ : ∃ x : World, x = wc := ⟨_, rfl⟩
          replace HX0 := Lib.hid (HX0.out.trans hb)
          replace HWN := Lib.hid (HWN.out.ext hb)
          replace k0 := hb.lit k0
          replace k1 := hb.lit k1
          replace hinC := hinC.ext hb
          clear hb hinF hfll hfli hfl20 y0 z0 HFL HF3 HF4
          have hcle : C.length ≤ 40 := hFl
          go_wp2_with fail
          go_loopw [17, 18] (fun s i wr => ∃ k : Nat, k ≤ C.length ∧ i = .int .i64 k ∧ s = .int .i64 ((cnp (usP C) k : Nat) : Int) ∧ Ext wg wr) (fun _ i _ => C.length - (intOf i).toNat)
          case atStart => exact ⟨0, by omega, rfl, rfl, Ext.refl _⟩
          case round =>
            obtain ⟨k, hk, rfl, rfl, hxs⟩ := hrel
            obtain ⟨wh, rfl⟩ : ∃ x : World, x = wr := ⟨_, rfl⟩
            by_cases hlt : k < C.length
            · have hki : (k : Int) < C.length := by omega
              obtain ⟨bC', oC', e', -, z0⟩ := (hinC.ext hxs).gi_ hlt
              obtain ⟨rfl, rfl⟩ : bC = bC' ∧ oC = oC' := by simpa using e'
              clear e'
              have hcn := cnp_le (usP C) k
              have HUS : Hid (cnp (usP C) (k + 1) = cnp (usP C) k + if usP C k = true then 1 else 0) := Lib.hid rfl
              have HUP : Hid (usP C k = (gi C (k : Nat) == 0 || gi C (k : Nat) == 1)) := Lib.hid rfl
              generalize cnp (usP C) k = uk at *
              generalize usP C k = up at *
              generalize gi C (k : Nat) = z at *
              by_cases c1 : z = 0
              · have p1 : (z == 0) = true := by rw [c1]; rfl
                have HUV : Hid (up = true) := Lib.hid (by rw [HUP.out, p1]; rfl)
                clear c1 HUP
                go_wp2_with fail
                refine (btoi_c _ _).mono ?_
                rintro e wi ⟨rfl, rfl⟩
                go_wp2
                go_roundw
                case rel => exact ⟨k + 1, by omega, by go_num, by rw [HUS.out, HUV.out]; go_num, hxs⟩
                case measure => first | (simp [intOf]; done) | (simp [intOf]; omega)
              · have p1 : (z == 0) = false := by rw [beq_eq_false_iff_ne]; exact c1
                by_cases c2 : z = 1
                · have p2 : (z == 1) = true := by rw [c2]; rfl
                  have HUV : Hid (up = true) := Lib.hid (by rw [HUP.out, p2, Bool.or_true])
                  clear c1 c2 HUP
                  go_wp2_with fail
                  refine (btoi_c _ _).mono ?_
                  rintro e wi ⟨rfl, rfl⟩
                  go_wp2
                  go_roundw
                  case rel => exact ⟨k + 1, by omega, by go_num, by rw [HUS.out, HUV.out]; go_num, hxs⟩
                  case measure => first | (simp [intOf]; done) | (simp [intOf]; omega)
                · have p2 : (z == 1) = false := by rw [beq_eq_false_iff_ne]; exact c2
                  have HUV : Hid (up = false) := Lib.hid (by rw [HUP.out, p1, p2]; rfl)
                  clear c1 c2 HUP
                  go_wp2_with fail
                  refine (btoi_c _ _).mono ?_
                  rintro e wi ⟨rfl, rfl⟩
                  go_wp2
                  go_roundw
                  case rel => exact ⟨k + 1, by omega, by go_num, by rw [HUS.out, HUV.out]; go_num, hxs⟩
                  case measure => first | (simp [intOf]; done) | (simp [intOf]; omega)
            · obtain rfl : k = C.length := by omega
              clear hk hlt
              have hb := hxs
              replace HX0 := Lib.hid (HX0.out.trans hb)
              replace HWN := Lib.hid (HWN.out.ext hb)
              replace k0 := hb.lit k0
              replace k1 := hb.lit k1
              replace hinC := hinC.ext hb
              clear hb hxs
              obtain ⟨m1, m2, m3, m4⟩ := HM.out
              have HM3 := Lib.hid m3
              have HM4 := Lib.hid m4
              have hcn := cnp_le (usP C) C.length
              clear m3 m4 HM
              generalize cnp (usP C) C.length = us at *
              go_wp2_with fail
              refine (CountChains_i _ _ _ _ ns ls _ _ C 0 1 _ HWN.out hinC (by omega)).mono ?_
              generalize vCountChains ns ls C 0 1 = mm at *
              have r1 : decide (mm ≥ 1) = true := decide_eq_true m1
              have r2 : decide (mm ≤ (us : Int)) = true := decide_eq_true m2
              rintro e wi ⟨rfl, hb⟩
              replace HX0 := Lib.hid (HX0.out.trans hb)
              replace HWN := Lib.hid (HWN.out.ext hb)
              replace k0 := hb.lit k0
              replace k1 := hb.lit k1
              replace hinC := hinC.ext hb
              clear hb
              go_wp2_with fail
              refine (CountChains_i _ _ _ _ ns ls _ _ C 1 0 _ HWN.out hinC (by omega)).mono ?_
              rw [HM3.out]
              rintro e wj ⟨rfl, hb⟩
              replace HX0 := Lib.hid (HX0.out.trans hb)
              replace HWN := Lib.hid (HWN.out.ext hb)
              replace k0 := hb.lit k0
              replace k1 := hb.lit k1
              replace hinC := hinC.ext hb
              clear hb
              go_wp2_with fail
              refine (CountChains_i _ _ _ _ ns ls _ _ C 2 2 _ HWN.out hinC (by omega)).mono ?_
              rw [HM4.out]
              rintro e wk ⟨rfl, hb⟩
              go_wp2
              go_ret
              exact ⟨rfl, HX0.out.trans hb⟩
end Go.Proofs.YtdhmjhoaegdfjaaGreat
