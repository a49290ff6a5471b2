import Derived.Test.YtdhmjhoaegdfjaaT27
import Derived.Test.YtdhmjhoaegdfjaaS14
import Derived.Test.YtdhmjhoaegdfjaaS11
namespace Go.Proofs.Ytdhmjhoaegdfjaa
open Go.RowKit Go.Sort Go.BigFrame Pl
theorem clash_iL {A B : Option Addr} {c d : Nat} {ns ls : List P2} {X : Option Addr} {xc n : Nat} {xs : List Int} {w : World} (hn : n = xs.length) (h : Wn w A c B d ns ls) (hX : In w w.heap.size X xs) (hxl : xs.length ≤ 2000000) :
    Calls Try.prog 17 #[.agg #[.slice A ns.length c, .slice B ls.length d], .slice X n xc] w fun e w' => e = .returned (.int .i64 (vClashOf ns ls xs)) ∧ Ext w w' := by
  subst hn
  exact ClashOf_i A B c d ns ls X xc xs w h hX hxl
theorem proper_iL {A B : Option Addr} {c d : Nat} {ns ls : List P2} {X : Option Addr} {xc n : Nat} {xs : List Int} {w : World} (hn : n = xs.length) (h : Wn w A c B d ns ls) (hX : In w w.heap.size X xs) (hxl : xs.length ≤ 2000000) :
    Calls Try.prog 14 #[.agg #[.slice A ns.length c, .slice B ls.length d], .slice X n xc] w fun e w' => e = .returned (.bool (vAreProper ns ls xs)) ∧ Ext w w' := by
  subst hn
  exact AreProper_i A B c d ns ls X xc xs w h hX hxl
set_option maxRecDepth 100000 in
set_option maxHeartbeats 16000000 in
theorem FnColors_t (w : World) (A : Option Addr) (n c : Nat) (hn : n ≤ 9223372036854775807) (xs : List Int) (hby : ∀ x ∈ xs, 0 ≤ x ∧ x < 256) (hs : Sl w w.heap.size 1 A n (xs.map (Value.int .u8))) :
    Calls Try.prog 3 #[.slice A n c] w fun e w' => e = .returned (.bool true) ∧ Ext w w' := by
  by_cases hbig : (1048576 : Int) < n
  · skip
    go_enter Try.func3, Try.ntmps3
    go_wp2_with fail
    refine (big_c A n c _).mono ?_
    rw [decide_eq_true (show (1048576 : Int) < (n : Int) by omega)]
    rintro e w' ⟨rfl, rfl⟩
    go_wp2
    go_ret
    exact ⟨rfl, Ext.refl _⟩
  · have HSL := Lib.hid hs
    have HBY := Lib.hid hby
    clear hs hby
    go_enter Try.func3, Try.ntmps3
    go_wp2_with fail
    refine (big_c A n c _).mono ?_
    rw [decide_eq_false (show ¬ (1048576 : Int) < (n : Int) by omega)]
    rintro e w' ⟨rfl, rfl⟩
    go_wp2_with fail
    refine (DrawWhole_s _ A n c hn xs HSL.out).mono ?_
    rintro e w1 ⟨v1, v2, ns, ls, rfl, o1, o2, hwh, hb⟩
    have hlk := wok_len (whole_wok hwh)
    obtain ⟨A1, c1, rfl, -, -, -⟩ := o1.shape
    obtain ⟨A2, c2, rfl, -, -, -⟩ := o2.shape
    go_upto_region 4 with fail
    have hb2 := (Ext.refl w1).alloc (.cells #[.slice A1 ns.length c1, .slice A2 ls.length c2] 27)
    have HB : Hid (Bk (w1.alloc (.cells #[.slice A1 ns.length c1, .slice A2 ls.length c2] 27)) w1.heap.size 27 [.slice A1 ns.length c1, .slice A2 ls.length c2]) := Lib.hid (Bk.new _ _ rfl)
    have hwn : Wn (w1.alloc (.cells #[.slice A1 ns.length c1, .slice A2 ls.length c2] 27)) A1 c1 A2 c2 ns ls := wn_own (OwP.ext2 o1 hb2) (OwP.ext2 o2 hb2) (by omega) (by omega)
    have HWN := Lib.hid hwn
    have HX0 := Lib.hid (hb.trans hb2)
    clear o1 o2 hb hb2 hwn
    generalize (w1.alloc (.cells #[.slice A1 ns.length c1, .slice A2 ls.length c2] 27)) = w2 at *
    generalize w1.heap.size = g3 at *
    have k0 := HB.out.cell 0
    have k1 := HB.out.cell 1
    simp only [List.getElem?_cons_zero, List.getElem?_cons_succ] at k0 k1
    clear HB
    have HWH := Lib.hid hwh
    have hFl := vFaces_len ns ls
    have hFp := faces_pos hwh
    have hm0 := (whole_ok hwh).2
    obtain ⟨nn, en, hn1, hn4, hwt, hwf⟩ := fewest_ok hwh
    have HEN := Lib.hid en
    have hgl := greedy_len (ns := ns) hwh
    obtain ⟨hg1, hg2⟩ := greedy_ok hwh hn4 hwf
    have HG2 := Lib.hid hg2
    have hmb := vMost_bd (ns := ns) (ls := ls) hwh
    have HMB := Lib.hid hmb
    obtain ⟨hwr, hfit⟩ := with_fit hwt
    have hcp := hfit.proper hwh (by omega)
    have HCP := Lib.hid hcp
    have HCL := Lib.hid hfit.len
    have HCN := Lib.hid (clash_none hcp)
    have HWT := Lib.hid hwt
    have HWF : Hid ((vColorWith ns ls ((nn : Int) - 1)).2 = false) := Lib.hid (by
      have := hwf (nn - 1) (by omega)
      rwa [show ((nn - 1 : Nat) : Int) = (nn : Int) - 1 by omega] at this)
    have HC1 : Hid (0 ≤ vCountColorings ns ls (nn : Int) ∧ 0 < vCountColorings ns ls (nn : Int)) := Lib.hid (by
      obtain ⟨a, b⟩ := count_pos hwh hn1 hn4
      exact ⟨a, b.2 hwt⟩)
    have HC0 : Hid (nn ≠ 1 → vCountColorings ns ls ((nn : Int) - 1) = 0) := Lib.hid (fun hne => by
      obtain ⟨a, b⟩ := count_pos hwh (n := nn - 1) (by omega) (by omega)
      rw [show ((nn - 1 : Nat) : Int) = (nn : Int) - 1 by omega] at a b
      have := hwf (nn - 1) (by omega)
      rw [show ((nn - 1 : Nat) : Int) = (nn : Int) - 1 by omega] at this
      rw [this] at b
      apply Classical.byContradiction
      intro hz
      exact absurd (b.1 (by omega)) (by decide))
    have HCK := Lib.hid (fun (k a b : Nat) (hk : k < ls.length) (ea : sd (fcs ns ls) (2 * k) = a) (eb : sd (fcs ns ls) (2 * k + 1) = b) (hab : a ≠ b) => clash_ok hwh hcp hk ea eb hab)
    have HSD := Lib.hid (fun (k : Nat) (hk : k < ls.length) => sides_eq3 (ns := ns) hwh hk)
    have HSL2 : Hid (∀ d, d < 2 * ls.length → sd (fcs ns ls) d < (vFaces ns ls).length) := Lib.hid (fun d hd => by rw [vF_eq3 hwh]; exact (sd_spec hd).1)
    have HGL := Lib.hid hgl
    have hgl40 : (vGreedyColors ns ls).length ≤ 40 := by omega
    clear hwh hwf hwt hcp hfit hmb hg2 en hgl
    have HMV : Hid (vMost ns ls = mostN (vGreedyColors ns ls) (vGreedyColors ns ls).length) := Lib.hid rfl
    have hmv0 := HMB.out (vGreedyColors ns ls).length (Nat.le_refl _)
    rw [← HMV.out] at hmv0
    go_wp2_with fail
    refine (GreedyColors_i _ _ _ _ ns ls _ HWN.out).mono ?_
    rintro e w3 ⟨v3, rfl, h3, hb⟩
    obtain ⟨AG, cG, rfl, -, -, hinG⟩ := h3.shape
    replace HX0 := Lib.hid (HX0.out.trans hb)
    replace HWN := Lib.hid (HWN.out.ext hb)
    replace k0 := hb.lit k0
    replace k1 := hb.lit k1
    clear hb h3
    go_wp2_with fail
    refine (FewestColors_i _ _ _ _ ns ls _ HWN.out).mono ?_
    rw [HEN.out]
    rintro e w4 ⟨rfl, hb⟩
    replace HX0 := Lib.hid (HX0.out.trans hb)
    replace HWN := Lib.hid (HWN.out.ext hb)
    replace k0 := hb.lit k0
    replace k1 := hb.lit k1
    replace hinG := hinG.ext hb
    clear hb
    go_wp2_with fail
    go_loopw [6, 7] (fun s i wr => ∃ k : Nat, k ≤ (vGreedyColors ns ls).length ∧ i = .int .i64 k ∧ s = .int .i64 (mostN (vGreedyColors ns ls) k) ∧ Ext w4 wr) (fun _ i _ => (vGreedyColors ns ls).length - (intOf i).toNat)
    case atStart => exact ⟨0, by omega, rfl, rfl, Ext.refl _⟩
    case round =>
      obtain ⟨k, hk, rfl, rfl, hxs⟩ := hrel
      obtain ⟨w5, rfl⟩ : ∃ x : World, x = wr := ⟨_, rfl⟩
      by_cases hlt : k < (vGreedyColors ns ls).length
      · obtain ⟨b, off, rfl, hbb, e3⟩ := (hinG.ext hxs).gi_ (k := k) hlt
        have HF : Hid (mostN (vGreedyColors ns ls) (k + 1) = imax (mostN (vGreedyColors ns ls) k) (gi (vGreedyColors ns ls) (k : Nat))) := Lib.hid rfl
        clear HMV HG2 HCP HCK
        generalize gi (vGreedyColors ns ls) (k : Nat) = z at *
        go_wp2
        go_roundw
        case rel => exact ⟨k + 1, by omega, by go_num, by rw [HF.out], hxs⟩
        case measure => first | (simp [intOf]; done) | (simp [intOf]; omega)
      · obtain rfl : k = (vGreedyColors ns ls).length := by omega
        clear hk hlt
        have hb := hxs
        rw [← HMV.out]
        replace HX0 := Lib.hid (HX0.out.trans hb)
        replace HWN := Lib.hid (HWN.out.ext hb)
        replace k0 := hb.lit k0
        replace k1 := hb.lit k1
        replace hinG := hinG.ext hb
        clear hb hxs HMB
        generalize hmo : vMost ns ls = most at *
        have HMO := Lib.hid hmo
        clear hmo
        go_wp2_with fail
        refine (ColorWith_i _ _ _ _ ns ls (nn : Int) _ HWN.out).mono ?_
        rw [HWT.out]
        rintro e w6 ⟨v6, rfl, h6, hb⟩
        replace HX0 := Lib.hid (HX0.out.trans hb)
        replace HWN := Lib.hid (HWN.out.ext hb)
        replace k0 := hb.lit k0
        replace k1 := hb.lit k1
        replace hinG := hinG.ext hb
        clear hb
        have hcl40 : (vColorWith ns ls (nn : Int)).1.length ≤ 40 := by rw [HCL.out]; exact hFl
        generalize (vColorWith ns ls (nn : Int)).1 = C at *
        obtain ⟨AC, cC, rfl, -, -, hinC⟩ := h6.shape
        clear h6
        have HNI : Hid ((nn : Int) - 1 = (nn : Int) - 1) := Lib.hid rfl
        go_wp2_with fail
        refine (ColorWith_i _ _ _ _ ns ls ((nn : Int) - 1) _ HWN.out).mono ?_
        rw [HWF.out]
        rintro e w7 ⟨v7, rfl, h7, hb⟩
        replace HX0 := Lib.hid (HX0.out.trans hb)
        replace HWN := Lib.hid (HWN.out.ext hb)
        replace k0 := hb.lit k0
        replace k1 := hb.lit k1
        replace hinG := hinG.ext hb
        replace hinC := hinC.ext hb
        clear hb
        obtain ⟨AE, cE, rfl, -, -, -⟩ := h7.shape
        clear h7
        generalize (vColorWith ns ls ((nn : Int) - 1)).1 = C2 at *
        have HGX : Hid ((vGreedyColors ns ls) = (vGreedyColors ns ls)) := Lib.hid rfl
        have HGP : Hid (most ≤ 5 → vAreProper ns ls (vGreedyColors ns ls) = true) := HG2
        clear HG2 HMV
        generalize hG : vGreedyColors ns ls = G at *
        have HG := Lib.hid hG
        clear hG HGX
        generalize hFN : (vFaces ns ls).length = F at *
        have HFN := Lib.hid hFN
        clear hFN
        have p1 : ((G.length : Int) != (F : Int)) = false := by rw [bne_eq_false_iff_eq, HGL.out]
        have p2 : ((C.length : Int) != (G.length : Int)) = false := by rw [bne_eq_false_iff_eq, HGL.out, HCL.out]
        have p3 : decide ((nn : Int) < 1) = false := decide_eq_false (by omega)
        have p4 : decide ((nn : Int) > 4) = false := decide_eq_false (by omega)
        have p5 : decide ((nn : Int) > most + 1) = false := decide_eq_false (by omega)
        go_upto_region 13 with fail
        go_cut [100] (fun s wx => s = .bool false ∧ Ext w7 wx)
        case first =>
          by_cases h5 : most ≤ 5
          · have p6 : decide (most ≤ 5) = true := decide_eq_true h5
            have HGQ := Lib.hid (HGP.out h5)
            go_wp2_with fail
            refine (FacesOf_s _ _ _ _ ns ls _ HWN.out).mono ?_
            rintro e w8 ⟨vF, rfl, hF, hb⟩
            obtain ⟨AF, cF, rfl, -⟩ := hF.shape
            rw [HFN.out]
            replace k0 := hb.lit k0
            replace k1 := hb.lit k1
            clear hF
            go_wp2_with fail
            refine (AreProper_i _ _ _ _ ns ls _ _ C _ (HWN.out.ext hb) (hinC.ext hb) (by omega)).mono ?_
            rw [HCP.out]
            rintro e w9 ⟨rfl, hb9⟩
            replace k0 := hb9.lit k0
            replace k1 := hb9.lit k1
            go_wp2_with fail
            refine (AreProper_i _ _ _ _ ns ls _ _ G _ (HWN.out.ext (hb.trans hb9)) (hinG.ext (hb.trans hb9)) (by omega)).mono ?_
            rw [HGQ.out]
            rintro e wa ⟨rfl, hba⟩
            go_wp2
            go_meet
            exact ⟨rfl, hb.trans (hb9.trans hba)⟩
          · have p6 : decide (most ≤ 5) = false := decide_eq_false h5
            go_wp2_with fail
            refine (FacesOf_s _ _ _ _ ns ls _ HWN.out).mono ?_
            rintro e w8 ⟨vF, rfl, hF, hb⟩
            obtain ⟨AF, cF, rfl, -⟩ := hF.shape
            rw [HFN.out]
            replace k0 := hb.lit k0
            replace k1 := hb.lit k1
            clear hF
            go_wp2_with fail
            refine (AreProper_i _ _ _ _ ns ls _ _ C _ (HWN.out.ext hb) (hinC.ext hb) (by omega)).mono ?_
            rw [HCP.out]
            rintro e w9 ⟨rfl, hb9⟩
            replace k0 := hb9.lit k0
            replace k1 := hb9.lit k1
            go_wp2
            go_meet
            exact ⟨rfl, hb.trans hb9⟩
        case rest =>
          obtain ⟨rfl, hb⟩ := hcut
          obtain ⟨w8, rfl⟩ : ∃ x : World, x = wc := ⟨_, rfl⟩
          replace HX0 := Lib.hid (HX0.out.trans hb)
          replace HWN := Lib.hid (HWN.out.ext hb)
          replace k0 := hb.lit k0
          replace k1 := hb.lit k1
          replace hinC := hinC.ext hb
          clear hb p1 p2 p3 p4 p5 hinG HGP
          have hdiv : (ls.length : Int) ≠ 0 := by omega
          have hdiv2 : ¬ (ls.length : Int) = 0 := by omega
          go_upto_region 15 with fail
          go_cut [12] (fun s wx => (∃ v : Nat, v < ls.length ∧ s = .int .i64 (v : Int)) ∧ Ext w8 wx)
          case first =>
            have d0 := cell_regrown k1
            refine rx_open [(true, 0, some 101, 1), (false, 1, some 102, 2535301200456458802993406410752), (true, 0, some 103, 8), (true, 4, some 104, 10141204801825835211973625643008), (true, 8, some 105, 20282409603651670423947251286016), (true, 18, some 106, 45635421608216258453881315393536), (true, 63, some 12, 81129638414606681695789005144064)] 0 7 mixd rfl (by kernel_rfl) (by kernel_rfl) (by kernel_rfl) ?_
            refine rx_run (run := [0, 2, 3, 4]) (k := 3) (m' := 29) rfl (by kernel_rfl) (by kernel_rfl) (by kernel_rfl) (fm_cons rfl <| fm_cons rfl <| fm_cons rfl <| fm_cons rfl <| List.filterMap_nil) (by repeat first | exact Ext.refl _ | assumption | refine Ext.drew ?_ | refine Ext.alloc ?_ _ | refine Ext.setCell ?_ (by simp) | refine Ext.setCell ?_ (by simp; omega) | refine Ext.trans ?_ (by assumption)) ?_
            repeat (go_big_quiet_step ((fail)))
            refine wpQuiet_nil ?_
            refine rx_op 1 (k := 2) (m' := 31) rfl rfl (by kernel_rfl) (by kernel_rfl) ?_
            go_wp2_with ((go_at_call 15; refine (at_c A n c 0 (by omega) (by omega) xs HBY.out _ (Sl.ext HSL.out (HX0.out.trans (by repeat first | exact Ext.refl _ | assumption | refine Ext.drew ?_ | refine Ext.alloc ?_ _ | refine Ext.setCell ?_ (by simp) | refine Ext.setCell ?_ (by simp; omega) | refine Ext.trans ?_ (by assumption))))).mono ?_; rintro e w6 ⟨x, hx9, rfl, rfl⟩))
            refine rx_on (by repeat first | exact Ext.refl _ | assumption | refine Ext.drew ?_ | refine Ext.alloc ?_ _ | refine Ext.setCell ?_ (by simp) | refine Ext.setCell ?_ (by simp; omega) | refine Ext.trans ?_ (by assumption)) ?_
            refine rx_run (run := [5, 6]) (k := 0) (m' := 127) rfl (by kernel_rfl) (by kernel_rfl) (by kernel_rfl) (fm_cons rfl <| fm_cons rfl <| List.filterMap_nil) (by repeat first | exact Ext.refl _ | assumption | refine Ext.drew ?_ | refine Ext.alloc ?_ _ | refine Ext.setCell ?_ (by simp) | refine Ext.setCell ?_ (by simp; omega) | refine Ext.trans ?_ (by assumption)) ?_
            repeat (go_big_quiet_step ((fail)))
            refine wpQuiet_nil ?_
            refine rx_end (by kernel_rfl) ?_
            go_wp2
            go_meet
            exact ⟨⟨x % ls.length, Nat.mod_lt _ (by omega), by go_num⟩, (by repeat first | exact Ext.refl _ | assumption | refine Ext.drew ?_ | refine Ext.alloc ?_ _ | refine Ext.setCell ?_ (by simp) | refine Ext.setCell ?_ (by simp; omega) | refine Ext.trans ?_ (by assumption))⟩
          case rest =>
            obtain ⟨⟨k, hk, rfl⟩, hb⟩ := hcut
            obtain ⟨w9, rfl⟩ : ∃ x : World, x = wc := ⟨_, rfl⟩
            replace HX0 := Lib.hid (HX0.out.trans hb)
            replace HWN := Lib.hid (HWN.out.ext hb)
            replace k0 := hb.lit k0
            replace k1 := hb.lit k1
            replace hinC := hinC.ext hb
            clear hb
            have HSK := Lib.hid (HSD.out k hk)
            have ha := HSL2.out (2 * k) (by omega)
            have hb' := HSL2.out (2 * k + 1) (by omega)
            have HCC := Lib.hid (HCK.out k _ _ hk rfl rfl)
            clear HCK HSD HSL2
            go_wp2_with fail
            refine (SidesOf_s _ _ _ _ ns ls (k : Int) _ HWN.out).mono ?_
            rw [HSK.out]
            rintro e wa ⟨rfl, hb⟩
            replace HX0 := Lib.hid (HX0.out.trans hb)
            replace HWN := Lib.hid (HWN.out.ext hb)
            replace k0 := hb.lit k0
            replace k1 := hb.lit k1
            replace hinC := hinC.ext hb
            clear hb HSK
            generalize sd (fcs ns ls) (2 * k) = sa at *
            generalize sd (fcs ns ls) (2 * k + 1) = sb at *
            go_wp2_with (at_builtin; refine az_ints _ _ rfl rfl (B := wa.heap.size) rfl ((OzI.zero (B := wa.heap.size) _ (Nat.le_refl _) rfl).own (Nat.le_refl _)) ⟨_, rfl⟩ rfl rfl (hinC.ext ((Ext.refl _).alloc _)) (by omega) (by simp) ?_)
            intro vo wb ho hxa
            have hb0 : Ext wa wb := ((Ext.refl _).alloc _).trans hxa
            clear hxa
            have hcp0 : 0 < C.length := by rw [HCL.out]; omega
            have hsa : sa < C.length := by rw [HCL.out]; exact ha
            have hsb : sb < C.length := by rw [HCL.out]; exact hb'
            have hsai : (sa : Int) < C.length := by omega
            have hsbi : (sb : Int) < C.length := by omega
            obtain ⟨go, co, rfl, -, hgo, -, -, -⟩ := ho.gi_ (j := 0) hcp0
            obtain ⟨s1, s2⟩ := ho.cel (j := sa) hsa
            obtain ⟨s3, s4⟩ := ho.cel (j := sb) hsb
            have Hset := Lib.hid (ho.set_ rfl sa (gi C (sb : Nat)))
            have HSL3 : Hid ((C.set sa (gi C (sb : Nat))).length = C.length) := Lib.hid (List.length_set)
            generalize hXX : C.set sa (gi C (sb : Nat)) = X at *
            clear hXX ho
            generalize gi C (sb : Nat) = z at *
            go_upto_region 19 with fail
            have hb : Ext wa (wb.setCell ⟨go, sa, none⟩ (.int .i64 z)) := Ext.setCell (p := ⟨go, sa, none⟩) hb0 hgo
            have hinX := Hset.out.in'
            clear hb0 Hset s1 s2 s3 s4
            replace HX0 := Lib.hid (HX0.out.trans hb)
            replace HWN := Lib.hid (HWN.out.ext hb)
            replace k0 := hb.lit k0
            replace k1 := hb.lit k1
            replace hinC := hinC.ext hb
            clear hb
            generalize wb.setCell ⟨go, sa, none⟩ (.int .i64 z) = wd at *
            have hx40 : X.length ≤ 40 := by rw [HSL3.out]; exact hcl40
            go_wp2_with fail
            refine (clash_iL (HSL3.out).symm (HWN.out) hinX (by omega)).mono ?_
            rintro e we ⟨rfl, hb⟩
            replace HX0 := Lib.hid (HX0.out.trans hb)
            replace HWN := Lib.hid (HWN.out.ext hb)
            replace k0 := hb.lit k0
            replace k1 := hb.lit k1
            replace hinC := hinC.ext hb
            replace hinX := hinX.ext hb
            clear hb
            have him : imin 4 (nn : Int) = (nn : Int) := by unfold imin; omega
            obtain ⟨cl, hcl⟩ : ∃ q, vClashOf ns ls X = q := ⟨_, rfl⟩
            rw [hcl] at HCC ⊢
            have HIM := Lib.hid him
            clear him hcl
            go_wp2_with fail
            rw [HIM.out]
            refine (CountColorings_i _ _ _ _ ns ls (nn : Int) _ HWN.out).mono ?_
            rintro e wf ⟨rfl, hb⟩
            replace HX0 := Lib.hid (HX0.out.trans hb)
            replace HWN := Lib.hid (HWN.out.ext hb)
            replace k0 := hb.lit k0
            replace k1 := hb.lit k1
            replace hinC := hinC.ext hb
            replace hinX := hinX.ext hb
            clear hb
            obtain ⟨hk1, hk2⟩ := HC1.out
            generalize vCountColorings ns ls (nn : Int) = cnt at *
            have v1 : decide (cnt ≥ 1) = true := decide_eq_true (by omega)
            have HS3 := Lib.hid sample3
            go_wp2_with fail
            refine (ClashOf_i _ _ _ _ ns ls _ _ C _ HWN.out hinC (by omega)).mono ?_
            rw [HCN.out]
            rintro e wg ⟨rfl, hb⟩
            replace HX0 := Lib.hid (HX0.out.trans hb)
            replace HWN := Lib.hid (HWN.out.ext hb)
            replace k0 := hb.lit k0
            replace k1 := hb.lit k1
            replace hinX := hinX.ext hb
            clear hb hinC
            by_cases hab : sa = sb
            · have e0 : ((sa : Int) == (sb : Int)) = true := by rw [beq_iff_eq]; omega
              have HAB := Lib.hid hab
              clear hab HCC
              by_cases h1 : nn = 1
              · have e1 : ((nn : Int) == 1) = true := by rw [beq_iff_eq]; omega
                have HH1 := Lib.hid h1
                clear h1
                go_wp2_with fail
                refine (SampleWindow_i _).mono ?_
                rintro e wj ⟨u1, u2, rfl, p1, p2, hb2⟩
                obtain ⟨Ap, cp, rfl, -, -, -⟩ := p1.shape
                obtain ⟨Aq, cq, rfl, -, -, -⟩ := p2.shape
                have hsn := wn_own p1 p2 (by decide) (by decide)
                go_wp2_with fail
                refine (FewestColors_i _ _ _ _ shN0 shL0 _ hsn).mono ?_
                rw [HS3.out]
                rintro e wk ⟨rfl, hb3⟩
                go_wp2
                go_ret
                exact ⟨rfl, HX0.out.trans (hb2.trans hb3)⟩
              · have e1 : ((nn : Int) == 1) = false := by rw [beq_eq_false_iff_ne]; omega
                have HCZ := Lib.hid (HC0.out h1)
                clear h1
                go_wp2_with fail
                refine (CountColorings_i _ _ _ _ ns ls ((nn : Int) - 1) _ HWN.out).mono ?_
                rw [HCZ.out]
                rintro e wi ⟨rfl, hb⟩
                replace HX0 := Lib.hid (HX0.out.trans hb)
                clear hb
                go_wp2_with fail
                refine (SampleWindow_i _).mono ?_
                rintro e wj ⟨u1, u2, rfl, p1, p2, hb2⟩
                obtain ⟨Ap, cp, rfl, -, -, -⟩ := p1.shape
                obtain ⟨Aq, cq, rfl, -, -, -⟩ := p2.shape
                have hsn := wn_own p1 p2 (by decide) (by decide)
                go_wp2_with fail
                refine (FewestColors_i _ _ _ _ shN0 shL0 _ hsn).mono ?_
                rw [HS3.out]
                rintro e wk ⟨rfl, hb3⟩
                go_wp2
                go_ret
                exact ⟨rfl, HX0.out.trans (hb2.trans hb3)⟩
            · have e0 : ((sa : Int) == (sb : Int)) = false := by rw [beq_eq_false_iff_ne]; omega
              obtain ⟨h1, h2, h3⟩ := HCC.out hab
              have v2 : decide (cl ≥ 0) = true := decide_eq_true h1
              have v3 : decide (cl ≤ (k : Int)) = true := decide_eq_true h2
              have HAP := Lib.hid h3
              clear hab HCC h3
              go_wp2_with fail
              refine (proper_iL (HSL3.out).symm (HWN.out) hinX (by omega)).mono ?_
              rw [HAP.out]
              rintro e wh ⟨rfl, hb⟩
              replace HX0 := Lib.hid (HX0.out.trans hb)
              replace HWN := Lib.hid (HWN.out.ext hb)
              replace k0 := hb.lit k0
              replace k1 := hb.lit k1
              clear hb
              by_cases h1 : nn = 1
              · have e1 : ((nn : Int) == 1) = true := by rw [beq_iff_eq]; omega
                have HH1 := Lib.hid h1
                clear h1
                go_wp2_with fail
                refine (SampleWindow_i _).mono ?_
                rintro e wj ⟨u1, u2, rfl, p1, p2, hb2⟩
                obtain ⟨Ap, cp, rfl, -, -, -⟩ := p1.shape
                obtain ⟨Aq, cq, rfl, -, -, -⟩ := p2.shape
                have hsn := wn_own p1 p2 (by decide) (by decide)
                go_wp2_with fail
                refine (FewestColors_i _ _ _ _ shN0 shL0 _ hsn).mono ?_
                rw [HS3.out]
                rintro e wk ⟨rfl, hb3⟩
                go_wp2
                go_ret
                exact ⟨rfl, HX0.out.trans (hb2.trans hb3)⟩
              · have e1 : ((nn : Int) == 1) = false := by rw [beq_eq_false_iff_ne]; omega
                have HCZ := Lib.hid (HC0.out h1)
                clear h1
                go_wp2_with fail
                refine (CountColorings_i _ _ _ _ ns ls ((nn : Int) - 1) _ HWN.out).mono ?_
                rw [HCZ.out]
                rintro e wi ⟨rfl, hb⟩
                replace HX0 := Lib.hid (HX0.out.trans hb)
                clear hb
                go_wp2_with fail
                refine (SampleWindow_i _).mono ?_
                rintro e wj ⟨u1, u2, rfl, p1, p2, hb2⟩
                obtain ⟨Ap, cp, rfl, -, -, -⟩ := p1.shape
                obtain ⟨Aq, cq, rfl, -, -, -⟩ := p2.shape
                have hsn := wn_own p1 p2 (by decide) (by decide)
                go_wp2_with fail
                refine (FewestColors_i _ _ _ _ shN0 shL0 _ hsn).mono ?_
                rw [HS3.out]
                rintro e wk ⟨rfl, hb3⟩
                go_wp2
                go_ret
                exact ⟨rfl, HX0.out.trans (hb2.trans hb3)⟩
end Go.Proofs.Ytdhmjhoaegdfjaa
