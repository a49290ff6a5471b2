import Derived.Test.YtdhmjhoaegdfjaaGreatT28
import Derived.Test.YtdhmjhoaegdfjaaGreatS26
namespace Go.Proofs.YtdhmjhoaegdfjaaGreat
open Go.RowKit Go.Sort Go.BigFrame Pl
theorem wishes_iL {A B : Option Addr} {c d : Nat} {ns ls : List P2} {X : Option Addr} {xc n : Nat} {xs : List Int} {w : World} (hn : n = xs.length) (h : Wn w A c B d ns ls) (hX : In w w.heap.size X xs) (hxl : xs.length ≤ 2000000) :
    Calls Tryz.prog 10 #[.agg #[.slice A ns.length c, .slice B ls.length d], .slice X n xc] w fun e w' => e = .returned (.bool (vWishesOk ns ls xs)) ∧ Ext w w' := by
  subst hn
  exact WishesOk_i A B c d ns ls X xc xs w h hX hxl
theorem count_iL {A : Option Addr} {c n : Nat} {xs : List Int} {w : World} (hn : n = xs.length) (hl : xs.length ≤ 1048576) (h : In w w.heap.size A xs) :
    Calls Tryz.prog 11 #[.slice A n c] w fun e w' => e = .returned (.int .i64 (cntW xs)) ∧ w = w' := by
  subst hn
  exact CountWishes_i A c xs w hl h
theorem cnt_two : cntW [-1, 3] = 1 := by decide
set_option maxRecDepth 100000 in
set_option maxHeartbeats 16000000 in
theorem FnWishes_t (w : World) (A : Option Addr) (n c : Nat) (hn : n ≤ 9223372036854775807) (xs : List Int) (hby : ∀ x ∈ xs, 0 ≤ x ∧ x < 256) (hs : Sl w w.heap.size 1 A n (xs.map (Value.int .u8))) :
    Calls Tryz.prog 3 #[.slice A n c] w fun e w' => e = .returned (.bool true) ∧ Ext w w' := by
  by_cases hbig : (1048576 : Int) < n
  · skip
    go_enter Tryz.func3, Tryz.ntmps3
    go_wp2_with fail
    refine (big_c A n c _).mono ?_
    rw [decide_eq_true (show (1048576 : Int) < (n : Int) by omega)]
    rintro e w' ⟨rfl, rfl⟩
    go_wp2
    go_ret
    exact ⟨rfl, Ext.refl _⟩
  · have HSL := Lib.hid hs
    have HBY := Lib.hid hby
    clear hs hby
    go_enter Tryz.func3, Tryz.ntmps3
    go_wp2_with fail
    refine (big_c A n c _).mono ?_
    rw [decide_eq_false (show ¬ (1048576 : Int) < (n : Int) by omega)]
    rintro e w' ⟨rfl, rfl⟩
    go_wp2_with fail
    refine (DrawFillWishes_s _ A n c hn xs HSL.out).mono ?_
    rintro e w1 ⟨A1, c1, A2, c2, ns, ls, AW, cW, ws, q0, rfl, hwn, hinW, hwl, hb⟩
    go_upto_region 4 with fail
    have hb2 := (Ext.refl w1).alloc (.cells #[.slice A1 ns.length c1, .slice A2 ls.length c2] 27)
    have HB : Hid (Bk (w1.alloc (.cells #[.slice A1 ns.length c1, .slice A2 ls.length c2] 27)) w1.heap.size 27 [.slice A1 ns.length c1, .slice A2 ls.length c2]) := Lib.hid (Bk.new _ _ rfl)
    have HWN := Lib.hid (hwn.ext hb2)
    have HX0 := Lib.hid (hb.trans hb2)
    replace hinW := hinW.ext hb2
    clear hb hb2 hwn
    generalize (w1.alloc (.cells #[.slice A1 ns.length c1, .slice A2 ls.length c2] 27)) = w2 at *
    generalize w1.heap.size = g3 at *
    have k0 := HB.out.cell 0
    have k1 := HB.out.cell 1
    simp only [List.getElem?_cons_zero, List.getElem?_cons_succ] at k0 k1
    clear HB
    go_wp2_with fail
    refine (at_c A n c 0 (by omega) (by omega) xs HBY.out _ (Sl.ext HSL.out HX0.out)).mono ?_
    rintro e w3 ⟨xa, hxa, rfl, rfl⟩
    go_wp2_with fail
    have hnn : 3 + xa % 2 = 3 ∨ 3 + xa % 2 = 4 := by omega
    have en : (3 : Int) + (xa : Int) % 2 = ((3 + xa % 2 : Nat) : Int) := by norm_cast
    rw [en]
    clear en
    generalize 3 + xa % 2 = nn at *
    have hwi : wi (nn : Int) 1 6 = true := by rw [wi_iff]; omega
    have HWI := Lib.hid hwi
    clear hwi
    refine (WishesOk_s _ _ _ _ ns ls _ _ ws _ HWN.out hinW (by omega)).mono ?_
    rintro e w4 ⟨rfl, hb⟩
    replace HX0 := Lib.hid (HX0.out.trans hb)
    replace HWN := Lib.hid (HWN.out.ext hb)
    replace k0 := hb.lit k0
    replace k1 := hb.lit k1
    replace hinW := hinW.ext hb
    clear hb
    cases hok : vWishesOk ns ls ws with
    | false =>
      have HOK := Lib.hid hok
      have HFB : Hid ((vFillWishes ns ls ws (nn : Int)).2 = false) := Lib.hid (fill_bad hok)
      clear hok
      go_wp2_with fail
      refine (FillWishes_i _ _ _ _ ns ls _ _ ws (nn : Int) _ HWN.out hinW (by omega)).mono ?_
      rw [HFB.out]
      rintro e w5 ⟨v5, rfl, h5, hb⟩
      obtain ⟨AC, cC, rfl, -, -, -⟩ := h5.shape
      replace HX0 := Lib.hid (HX0.out.trans hb)
      replace HWN := Lib.hid (HWN.out.ext hb)
      replace k0 := hb.lit k0
      replace k1 := hb.lit k1
      replace hinW := hinW.ext hb
      clear hb h5
      generalize (vFillWishes ns ls ws (nn : Int)).1 = C at *
      go_wp2_with fail
      refine (WishesOk_i _ _ _ _ ns ls _ _ ws _ HWN.out hinW (by omega)).mono ?_
      rw [HOK.out]
      rintro e w6 ⟨rfl, hb⟩
      replace HX0 := Lib.hid (HX0.out.trans hb)
      replace HWN := Lib.hid (HWN.out.ext hb)
      replace k0 := hb.lit k0
      replace k1 := hb.lit k1
      replace hinW := hinW.ext hb
      clear hb
      have HCT := Lib.hid cnt_two
      have hb2 : Ext w6 (w6.alloc (.cells #[.int .i64 (-1), .int .i64 3] 3)) := (Ext.refl w6).alloc _
      have HIL : Hid (In (w6.alloc (.cells #[.int .i64 (-1), .int .i64 3] 3)) (w6.alloc (.cells #[.int .i64 (-1), .int .i64 3] 3)).heap.size (some ⟨w6.heap.size, 0, none⟩) [-1, 3]) := Lib.hid (Bk.in_ (Bk.new 3 ([-1, 3].map (Value.int .i64)) rfl))
      go_wp2_with fail
      refine (count_iL (xs := [-1, 3]) rfl (by decide) HIL.out).mono ?_
      rw [HCT.out]
      rintro e w7 ⟨rfl, rfl⟩
      go_wp2
      go_ret
      exact ⟨rfl, HX0.out.trans hb2⟩
    | true =>
      have HOK := Lib.hid hok
      have HWL := Lib.hid (wishes_ok hok).2
      have HWH := Lib.hid (wishes_ok hok).1
      have hws40 : ws.length ≤ 40 := by have := vFaces_len ns ls; have := (wishes_ok hok).2; omega
      clear hok
      go_wp2_with fail
      refine (FillWishes_i _ _ _ _ ns ls _ _ ws (nn : Int) _ HWN.out hinW (by omega)).mono ?_
      rintro e w5 ⟨v5, rfl, h5, hb⟩
      have hcl9 := vFillWishes_len ns ls ws (nn : Int) (by omega)
      obtain ⟨AC, cC, rfl, -, -, hinC⟩ := h5.shape
      replace HX0 := Lib.hid (HX0.out.trans hb)
      replace HWN := Lib.hid (HWN.out.ext hb)
      replace k0 := hb.lit k0
      replace k1 := hb.lit k1
      replace hinW := hinW.ext hb
      clear hb h5
      go_wp2_with fail
      refine (BadWishes_i _ _ _ _ ns ls _ _ ws (nn : Int) _ HWN.out hinW (by omega)).mono ?_
      rintro e w6 ⟨v6, rfl, h6, hb⟩
      have hbl9 := vBadWishes_len ns ls ws (nn : Int)
      obtain ⟨AB, cB, rfl, -, -, hinB⟩ := h6.shape
      replace HX0 := Lib.hid (HX0.out.trans hb)
      replace HWN := Lib.hid (HWN.out.ext hb)
      replace k0 := hb.lit k0
      replace k1 := hb.lit k1
      replace hinW := hinW.ext hb
      replace hinC := hinC.ext hb
      clear hb h6
      go_wp2_with fail
      refine (ForcedFaces_i _ _ _ _ ns ls _ _ ws (nn : Int) _ HWN.out hinW (by omega)).mono ?_
      rintro e w7 ⟨v7, rfl, h7, hb⟩
      have hfl9 := vForcedFaces_len ns ls ws (nn : Int)
      obtain ⟨AF, cF, rfl, -, -, hinF⟩ := h7.shape
      replace HX0 := Lib.hid (HX0.out.trans hb)
      replace HWN := Lib.hid (HWN.out.ext hb)
      replace k0 := hb.lit k0
      replace k1 := hb.lit k1
      replace hinW := hinW.ext hb
      replace hinC := hinC.ext hb
      replace hinB := hinB.ext hb
      clear hb h7
      cases hfl : (vFillWishes ns ls ws (nn : Int)).2 with
      | true => as_aux_lemma =>
        obtain ⟨_, e1, e2, e3, e4, e5⟩ := fill_ok3 hfl
        have HC1 := Lib.hid e1
        have HC2 := Lib.hid e2
        have HC3 := Lib.hid e3
        have HC4 := Lib.hid e4
        have HC5 := Lib.hid e5
        have HFF := Lib.hid (fun (k : Nat) (hk : k < (vForcedFaces ns ls ws (nn : Int)).length) => forced_ok (by omega) hfl hk)
        clear e1 e2 e3 e4 e5 hfl
        generalize (vFillWishes ns ls ws (nn : Int)).1 = C at *
        generalize vBadWishes ns ls ws (nn : Int) = BD at *
        generalize vForcedFaces ns ls ws (nn : Int) = FF at *
        go_wp2_with fail
        go_loopw [13] (fun i wr => ∃ k : Nat, k ≤ ws.length ∧ i = .int .i64 k ∧ Ext w7 wr) (fun i _ => ws.length - (intOf i).toNat)
        case atStart => exact ⟨0, by omega, rfl, Ext.refl _⟩
        case round =>
          obtain ⟨k, hk, rfl, hxs⟩ := hrel
          obtain ⟨w8, rfl⟩ : ∃ x : World, x = wr := ⟨_, rfl⟩
          by_cases hlt : k < ws.length
          · have hki : (k : Int) < ws.length := by omega
            have hkC : k < C.length := by rw [HC1.out]; exact hlt
            have hkCi : (k : Int) < C.length := by omega
            obtain ⟨bW, oW, rfl, -, y0⟩ := (hinW.ext hxs).gi_ hlt
            obtain ⟨bC, oC, rfl, -, z0⟩ := (hinC.ext hxs).gi_ hkC
            have HCK := Lib.hid (HC2.out k hlt)
            generalize gi ws (k : Nat) = y at *
            generalize gi C (k : Nat) = z at *
            have p0 : decide (C.length ≤ k) = false := decide_eq_false (by omega)
            go_upto_region 15 with fail
            go_cut [107] (fun s wx => s = .bool false ∧ Ext w8 wx)
            case first =>
              have d0 := cell_regrown y0
              have d1 := cell_regrown z0
              by_cases hy : 0 ≤ y
              · have p1 : decide (y ≥ 0) = true := decide_eq_true hy
                have p2 : (z != y) = false := by rw [HCK.out hy, bne_self_eq_false]
                refine rx_open [(true, 0, some 86, 8192), (true, 0, some 87, 512), (true, 2, some 88, 154742504910672534362390528), (true, 5, some 89, 386856262276681335905976320), (true, 8, some 90, 618970019642690137449562112), (true, 16, some 91, 1237940039285380274899124240), (true, 16, some 92, 1237940039285380274899132416), (true, 112, some 93, 8665580274997661924293869568), (true, 144, some 94, 11141460353568422474092118016), (true, 272, some 95, 21044980667851464673285111808), (true, 528, some 96, 40852021296417549071671099392), (true, 1024, some 97, 79228162514264337593543950848), (true, 1024, some 98, 79228162514264337593543958528), (true, 7168, some 99, 554597137599850363154807652352), (true, 9216, some 100, 713053462628379038341895553024), (true, 1024, some 101, 79228162514264337593543950352), (true, 1024, some 102, 79228162514264337593543958528), (true, 99328, some 103, 7685131763883640746573763182592), (true, 132096, some 104, 10220432964340099549567169593344), (true, 279552, some 105, 21629288366394164163037498441728), (true, 525328, some 106, 40645285309856890565762945646592), (true, 1048592, some 107, 81130876354645967076063904268288)] 0 22 mixd rfl (by kernel_rfl) (by kernel_rfl) (by kernel_rfl) ?_
                refine rx_run (run := [0, 1, 2, 3, 4, 5, 6, 7, 8, 9, 10, 11, 12, 13, 14, 15, 16, 17, 18, 19, 20, 21]) (k := 0) (m' := 4194303) rfl (by kernel_rfl) (by kernel_rfl) (by kernel_rfl) (fm_cons rfl <| fm_cons rfl <| fm_cons rfl <| fm_cons rfl <| fm_cons rfl <| fm_cons rfl <| fm_cons rfl <| fm_cons rfl <| fm_cons rfl <| fm_cons rfl <| fm_cons rfl <| fm_cons rfl <| fm_cons rfl <| fm_cons rfl <| fm_cons rfl <| fm_cons rfl <| fm_cons rfl <| fm_cons rfl <| fm_cons rfl <| fm_cons rfl <| fm_cons rfl <| fm_cons rfl <| List.filterMap_nil) (by repeat first | exact Ext.refl _ | assumption | refine Ext.drew ?_ | refine Ext.alloc ?_ _ | refine Ext.setCell ?_ (by simp) | refine Ext.setCell ?_ (by simp; omega) | refine Ext.trans ?_ (by assumption)) ?_
                repeat (go_big_quiet_step ((fail)))
                refine wpQuiet_nil ?_
                refine rx_end (by kernel_rfl) ?_
                go_wp2
                go_meet
                exact ⟨rfl, (by repeat first | exact Ext.refl _ | assumption | refine Ext.drew ?_ | refine Ext.alloc ?_ _ | refine Ext.setCell ?_ (by simp) | refine Ext.setCell ?_ (by simp; omega) | refine Ext.trans ?_ (by assumption))⟩
              · have p1 : decide (y ≥ 0) = false := decide_eq_false hy
                refine rx_open [(true, 0, some 86, 8192), (true, 0, some 87, 512), (true, 2, some 88, 154742504910672534362390528), (true, 5, some 89, 386856262276681335905976320), (true, 8, some 90, 618970019642690137449562112), (true, 16, some 91, 1237940039285380274899124240), (true, 16, some 92, 1237940039285380274899132416), (true, 112, some 93, 8665580274997661924293869568), (true, 144, some 94, 11141460353568422474092118016), (true, 272, some 95, 21044980667851464673285111808), (true, 528, some 96, 40852021296417549071671099392), (true, 1024, some 97, 79228162514264337593543950848), (true, 1024, some 98, 79228162514264337593543958528), (true, 7168, some 99, 554597137599850363154807652352), (true, 9216, some 100, 713053462628379038341895553024), (true, 1024, some 101, 79228162514264337593543950352), (true, 1024, some 102, 79228162514264337593543958528), (true, 99328, some 103, 7685131763883640746573763182592), (true, 132096, some 104, 10220432964340099549567169593344), (true, 279552, some 105, 21629288366394164163037498441728), (true, 525328, some 106, 40645285309856890565762945646592), (true, 1048592, some 107, 81130876354645967076063904268288)] 0 22 mixd rfl (by kernel_rfl) (by kernel_rfl) (by kernel_rfl) ?_
                refine rx_run (run := [0, 1, 2, 3, 4, 5, 6, 7, 8, 9, 10, 11, 12, 13, 14, 15, 16, 17, 18, 19, 20, 21]) (k := 0) (m' := 4194303) rfl (by kernel_rfl) (by kernel_rfl) (by kernel_rfl) (fm_cons rfl <| fm_cons rfl <| fm_cons rfl <| fm_cons rfl <| fm_cons rfl <| fm_cons rfl <| fm_cons rfl <| fm_cons rfl <| fm_cons rfl <| fm_cons rfl <| fm_cons rfl <| fm_cons rfl <| fm_cons rfl <| fm_cons rfl <| fm_cons rfl <| fm_cons rfl <| fm_cons rfl <| fm_cons rfl <| fm_cons rfl <| fm_cons rfl <| fm_cons rfl <| fm_cons rfl <| List.filterMap_nil) (by repeat first | exact Ext.refl _ | assumption | refine Ext.drew ?_ | refine Ext.alloc ?_ _ | refine Ext.setCell ?_ (by simp) | refine Ext.setCell ?_ (by simp; omega) | refine Ext.trans ?_ (by assumption)) ?_
                repeat (go_big_quiet_step ((fail)))
                refine wpQuiet_nil ?_
                refine rx_end (by kernel_rfl) ?_
                go_wp2
                go_meet
                exact ⟨rfl, (by repeat first | exact Ext.refl _ | assumption | refine Ext.drew ?_ | refine Ext.alloc ?_ _ | refine Ext.setCell ?_ (by simp) | refine Ext.setCell ?_ (by simp; omega) | refine Ext.trans ?_ (by assumption))⟩
            case rest =>
              obtain ⟨rfl, hb⟩ := hcut
              replace hxs := hxs.trans hb
              clear hb
              go_wp2
              go_roundw
              case rel => exact ⟨k + 1, by omega, by go_num, hxs⟩
              case measure => first | (simp [intOf]; done) | (simp [intOf]; omega)
          · obtain rfl : k = ws.length := by omega
            clear hk hlt
            have hb := hxs
            replace HX0 := Lib.hid (HX0.out.trans hb)
            replace HWN := Lib.hid (HWN.out.ext hb)
            replace k0 := hb.lit k0
            replace k1 := hb.lit k1
            replace hinW := hinW.ext hb
            replace hinC := hinC.ext hb
            replace hinB := hinB.ext hb
            replace hinF := hinF.ext hb
            clear hb hxs
            have hdiv : (nn : Int) ≠ 0 := by omega
            have hdiv2 : ¬ (nn : Int) = 0 := by omega
            obtain ⟨we, rfl⟩ : ∃ x : World, x = w8 := ⟨_, rfl⟩
            go_wp2_with fail
            go_loopw [14] (fun i wr => ∃ k : Nat, k ≤ FF.length ∧ i = .int .i64 k ∧ Ext we wr) (fun i _ => FF.length - (intOf i).toNat)
            case atStart => exact ⟨0, by omega, rfl, Ext.refl _⟩
            case round =>
              obtain ⟨k, hk, rfl, hxs⟩ := hrel
              obtain ⟨wf, rfl⟩ : ∃ x : World, x = wr := ⟨_, rfl⟩
              have j0 := hxs.lit k0
              have j1 := hxs.lit k1
              by_cases hlt : k < FF.length
              · have hki : (k : Int) < FF.length := by omega
                obtain ⟨a, ea, ha, hwa, hfil⟩ := HFF.out k hlt
                have hai : (a : Int) < ws.length := by omega
                have haC : a < C.length := by rw [HC1.out]; exact ha
                have haCi : (a : Int) < C.length := by omega
                obtain ⟨bF, oF, rfl, -, x0⟩ := (hinF.ext hxs).gi_ hlt
                rw [ea] at x0
                obtain ⟨bW, oW, rfl, -, y0⟩ := (hinW.ext hxs).gi_ ha
                rw [hwa] at y0
                obtain ⟨bC, oC, rfl, -, z0⟩ := (hinC.ext hxs).gi_ haC
                obtain ⟨hz0, hz1⟩ := HC3.out a ha
                have hinWf := hinW.ext hxs
                generalize gi C (a : Nat) = z at *
                have HFI := Lib.hid hfil
                have r1 : decide ((a : Int) < 0) = false := decide_eq_false (by omega)
                have r2 : decide (ws.length ≤ a) = false := decide_eq_false (by omega)
                have HEA := Lib.hid ea
                clear hfil ea hwa
                go_wp2_with (at_builtin; refine az_ints _ _ rfl rfl (B := wf.heap.size) rfl ((OzI.zero (B := wf.heap.size) _ (Nat.le_refl _) rfl).own (Nat.le_refl _)) ⟨_, rfl⟩ rfl rfl (hinWf.ext ((Ext.refl _).alloc _)) (by omega) (by simp) ?_)
                intro vo wb ho hxa
                have hb0 : Ext wf wb := ((Ext.refl _).alloc _).trans hxa
                clear hxa
                obtain ⟨go, co, rfl, -, hgo, -, -, -⟩ := ho.gi_ (j := a) ha
                obtain ⟨s1, s2⟩ := ho.cel (j := a) ha
                replace z0 := hb0.lit z0
                replace j0 := hb0.lit j0
                replace j1 := hb0.lit j1
                have Hset := Lib.hid (ho.set_ rfl a ((z + 1) % (nn : Int)))
                have HSL3 : Hid (ws.length = (ws.set a ((z + 1) % (nn : Int))).length) := Lib.hid (List.length_set).symm
                generalize hX9 : ws.set a ((z + 1) % (nn : Int)) = X at *
                clear hX9 ho x0 y0 hinWf
                go_upto_region 25 with fail
                have hb : Ext wf (wb.setCell ⟨go, a, none⟩ (.int .i64 ((z + 1) % (nn : Int)))) := Ext.setCell (p := ⟨go, a, none⟩) hb0 hgo
                have hinX := Hset.out.in'
                have HX9 := Lib.hid (hxs.trans hb)
                replace j0 := (Ext.setCell (p := ⟨go, a, none⟩) (v := .int .i64 ((z + 1) % (nn : Int))) hb0 hgo).lit (hxs.lit k0)
                replace j1 := (Ext.setCell (p := ⟨go, a, none⟩) (v := .int .i64 ((z + 1) % (nn : Int))) hb0 hgo).lit (hxs.lit k1)
                clear hb0 hb Hset s1 s2 z0
                generalize wb.setCell ⟨go, a, none⟩ (.int .i64 ((z + 1) % (nn : Int))) = wd at *
                have hxl40 : X.length ≤ 40 := by rw [← HSL3.out]; exact hws40
                go_wp2_with fail
                refine (FillWishes_s0 _ _ _ _ ns ls _ _ X ws.length (nn : Int) _ (HWN.out.ext HX9.out) hinX (by omega) HSL3.out).mono ?_
                rw [HFI.out]
                rintro e wg ⟨vg, rfl, hg, hb⟩
                obtain ⟨AG, cG, rfl, -, -, -⟩ := hg.shape
                clear hg
                go_wp2
                go_roundw
                case rel => exact ⟨k + 1, by omega, by go_num, HX9.out.trans hb⟩
                case measure => first | (simp [intOf]; done) | (simp [intOf]; omega)
              · obtain rfl : k = FF.length := by omega
                clear hk hlt k0 k1
                replace HX0 := Lib.hid (HX0.out.trans hxs)
                replace HWN := Lib.hid (HWN.out.ext hxs)
                replace hinC := hinC.ext hxs
                have hcl40 : C.length ≤ 40 := by rw [HC1.out]; exact hws40
                have p9 : ((BD.length : Int) == 0) = true := by rw [beq_iff_eq, HC5.out]; rfl
                clear hxs
                go_wp2_with fail
                refine (AreProper_s _ _ _ _ ns ls _ _ C _ HWN.out hinC (by omega)).mono ?_
                rw [HC4.out]
                rintro e wg ⟨rfl, hb⟩
                go_wp2
                go_ret
                exact ⟨rfl, HX0.out.trans hb⟩
      | false => as_aux_lemma =>
        obtain ⟨b1, b2, b3, b4, b5⟩ := bad_ok HOK.out HWI.out hfl
        have HF0 : Hid ((vForcedFaces ns ls ws (nn : Int)).length = 0) := Lib.hid (forced_none hfl)
        have HB1 := Lib.hid b1
        have HB2 := Lib.hid b2
        have HB3 := Lib.hid b3
        have HB4 := Lib.hid b4
        clear b1 b2 b3 b4 hfl hcl9
        generalize (vFillWishes ns ls ws (nn : Int)).1 = C at *
        generalize vBadWishes ns ls ws (nn : Int) = BD at *
        generalize vForcedFaces ns ls ws (nn : Int) = FF at *
        have q1 : decide (0 < FF.length) = false := decide_eq_false (by rw [HF0.out]; omega)
        go_upto_region 29 with fail
        go_cut [173] (fun s wx => s = .bool false ∧ Ext w7 wx)
        case first =>
          rcases hnn with h3 | h4
          · have p1 : ((nn : Int) == 4) = false := by rw [beq_eq_false_iff_ne]; omega
            go_wp2
            go_meet
            exact ⟨rfl, Ext.refl _⟩
          · have p1 : ((nn : Int) == 4) = true := by rw [beq_iff_eq]; omega
            have hb5 := b5 h4
            have p2 : ((BD.length : Int) == 0) = false := by rw [beq_eq_false_iff_ne]; omega
            go_wp2
            go_meet
            exact ⟨rfl, Ext.refl _⟩
        case rest =>
          obtain ⟨rfl, hb⟩ := hcut
          obtain ⟨w8, rfl⟩ : ∃ x : World, x = wc := ⟨_, rfl⟩
          replace HX0 := Lib.hid (HX0.out.trans hb)
          replace HWN := Lib.hid (HWN.out.ext hb)
          replace k0 := hb.lit k0
          replace k1 := hb.lit k1
          replace hinW := hinW.ext hb
          replace hinB := hinB.ext hb
          clear hb hinC hinF q1 HF0 b5
          have HX08 := HX0
          have HWN8 := HWN
          have hinBo := hinB
          have hinWo := hinW
          have k08 := k0
          have k18 := k1
          have hz : OzI (w8.alloc (.cells #[] 3)) w8.heap.size (w8.heap.size + 1) (.slice (some ⟨w8.heap.size, 0, none⟩) 0 0) (List.replicate 0 (-1)) := OzI.zero _ (Nat.le_refl _) rfl
          go_wp2_with fail
          have hs1 : (w8.alloc (.cells #[] 3)).heap.size = w8.heap.size + 1 := by simp
          have hx1 : Ext w8 (w8.alloc (.cells #[] 3)) := (Ext.refl _).alloc _
          generalize (w8.alloc (.cells #[] 3)) = w9 at *
          go_loopw [19, 20] (fun q i wr => ∃ j : Nat, j ≤ ws.length ∧ i = .int .i64 j ∧ OzI wr w8.heap.size (w8.heap.size + 1) q (List.replicate j (-1)) ∧ Ext w9 wr) (fun _ i _ => ws.length - (intOf i).toNat)
          case atStart => exact ⟨0, by omega, rfl, hz, Ext.refl _⟩
          case round =>
            clear hz
            obtain ⟨j, hj, rfl, hv, hx⟩ := hrel
            have hsz := hx.size
            obtain ⟨wa, rfl⟩ : ∃ x : World, x = wr := ⟨_, rfl⟩
            by_cases hlt : j < ws.length
            · have hji : (j : Int) < ws.length := by omega
              go_wp2_with (at_builtin; refine az_int _ _ rfl rfl rfl (hv.ext ((Ext.refl wa).alloc _)) (g := wa.heap.size) (y := -1) (by first | rfl | simp) (by go_simp) (by simp; omega) (by simp; omega) ?_)
              intro v' w' h1 h3
              go_wp2
              have hxx := h3 _ (hx.alloc _) (by omega)
              go_roundw
              case rel => exact ⟨j + 1, by omega, by go_num, by rw [List.replicate_succ']; exact h1, hxx⟩
              case measure => first | (simp [intOf]; done) | (simp [intOf]; omega)
            · obtain rfl : j = ws.length := by omega
              clear hj hlt
              have hO0 : OwI wa w8.heap.size _ (onlyN ws BD 0) := hv.own (by omega)
              have hb := hx1.trans hx
              obtain ⟨AO, cO, eO, -, -, -⟩ := hO0.shape
              rw [onlyN_len] at eO
              subst eO
              have HSZ : Hid (w8.heap.size ≤ wa.heap.size) := Lib.hid hb.size
              have HXA := Lib.hid hb
              have HX8 := Lib.hid HX08.out
              clear hb hx hx1 hs1 hv hsz
              go_wp2_with fail
              go_loopw [21] (fun i wr => ∃ k : Nat, k ≤ BD.length ∧ i = .int .i64 k ∧ OwI wr w8.heap.size (.slice AO ws.length cO) (onlyN ws BD k) ∧ Ext w8 wr) (fun i _ => BD.length - (intOf i).toNat)
              case atStart => exact ⟨0, by omega, rfl, hO0, HXA.out⟩
              case round =>
                clear hO0
                obtain ⟨k, hk, rfl, hv, hx⟩ := hrel
                obtain ⟨wb, rfl⟩ : ∃ x : World, x = wr := ⟨_, rfl⟩
                by_cases hlt : k < BD.length
                · have hki : (k : Int) < BD.length := by omega
                  obtain ⟨a, ea, ha, -⟩ := HB1.out k hlt
                  have hai : (a : Int) < ws.length := by omega
                  have hb9 := hx
                  have HXB := Lib.hid hx
                  obtain ⟨bB, oB, rfl, -, x0⟩ := (hinBo.ext hx).gi_ hlt
                  rw [ea] at x0
                  obtain ⟨bW, oW, rfl, -, y0⟩ := (hinWo.ext hx).gi_ ha
                  obtain ⟨gO, cq, eO2, -, hgO, -, -, -⟩ := hv.gi_ (j := a) (by rw [onlyN_len]; exact ha)
                  obtain ⟨rfl, rfl⟩ : AO = some ⟨gO, 0, none⟩ ∧ cO = cq := by
                    injection eO2 with e1 e2 e3
                    exact ⟨e1, e3⟩
                  clear eO2
                  obtain ⟨s1, s2⟩ := hv.cel (j := a) (by rw [onlyN_len]; exact ha)
                  have HS : Hid (onlyN ws BD (k + 1) = (onlyN ws BD k).set a (gi ws (a : Nat))) := Lib.hid (by
                    show (onlyN ws BD k).set (gi BD (k : Nat)).toNat (gi ws (gi BD (k : Nat))) = _
                    rw [ea, Int.toNat_natCast])
                  have Hset := Lib.hid ((hv.ext (Ext.drew (Ext.refl wb))).set_ (onlyN_len ws BD k).symm a (gi ws (a : Nat)))
                  have HEA := Lib.hid ea
                  have r1 : decide ((a : Int) < 0) = false := decide_eq_false (by omega)
                  have r2 : decide (ws.length ≤ a) = false := decide_eq_false (by omega)
                  clear ea hv hx hb9
                  generalize gi ws (a : Nat) = y at *
                  go_upto_region 41 with fail
                  have d0 := cell_regrown x0
                  have d1 := cell_regrown y0
                  have d2 := cell_regrown s1
                  refine rx_open [(true, 0, some 204, 524288), (true, 0, some 205, 2048), (true, 0, some 206, 2097152), (true, 6, some 207, 154266052248863066452028360864751609842131487403148112188932096), (true, 8, some 208, 205688069665150755269371147819668813122841983204197482918576128), (true, 0, some 209, 16), (true, 0, some 210, 2048), (true, 0, some 211, 2097152), (true, 192, some 212, 4936513671963618126464907547672051514948207596900739590045827072), (true, 256, some 213, 6582018229284824168619876730229402019930943462534319453394436096), (true, 544, some 214, 13986788737230251358317238051737479292353254857885428838463176704), (true, 1024, some 215, 26328072917139296674479506920917608079723773850137277813577744384), (true, 4095, some 216, 437087148038445354947413689116796227886039214308919651201974272), (false, 8191, none, 157968437502835780046877041525505648478342643100823666881466466304)] 8192 14 mixd rfl (by kernel_rfl) (by kernel_rfl) (by kernel_rfl) ?_
                  refine rx_run (run := [0, 1, 2, 3, 4, 5, 6, 7, 8, 9, 10, 11, 12]) (k := 1) (m' := 8191) rfl (by kernel_rfl) (by kernel_rfl) (by kernel_rfl) (fm_cons rfl <| fm_cons rfl <| fm_cons rfl <| fm_cons rfl <| fm_cons rfl <| fm_cons rfl <| fm_cons rfl <| fm_cons rfl <| fm_cons rfl <| fm_cons rfl <| fm_cons rfl <| fm_cons rfl <| fm_cons rfl <| List.filterMap_nil) (by repeat first | exact Ext.refl _ | assumption | refine Ext.drew ?_ | refine Ext.alloc ?_ _ | refine Ext.setCell ?_ (by simp) | refine Ext.setCell ?_ (by simp; omega) | refine Ext.trans ?_ (by assumption)) ?_
                  repeat (go_big_quiet_step ((fail)))
                  refine wpQuiet_nil ?_
                  refine rx_op 13 (k := 0) (m' := 16383) rfl rfl (by kernel_rfl) (by kernel_rfl) ?_
                  go_wp2
                  refine rx_lst (by decide) ?_
                  refine rx_end (by kernel_rfl) ?_
                  go_wp2
                  go_roundw
                  case rel => exact ⟨k + 1, by omega, by go_num, by rw [HS.out]; exact Hset.out, Ext.drew (Ext.setCell (p := ⟨gO, a, none⟩) HXB.out hgO)⟩
                  case measure => first | (simp [intOf]; done) | (simp [intOf]; omega)
                · obtain rfl : k = BD.length := by omega
                  clear hk hlt
                  have hb := hx
                  replace HX0 := Lib.hid (HX8.out.trans hb)
                  replace HWN := Lib.hid (HWN8.out.ext hb)
                  replace k0 := hb.lit k08
                  replace k1 := hb.lit k18
                  have hinBn := hinBo.ext hb
                  have HOn := Lib.hid hv
                  clear hb hx hv hinBo hinWo
                  have HON : Hid (ws.length = (onlyN ws BD BD.length).length) := Lib.hid (onlyN_len ws BD BD.length).symm
                  have hon40 : (onlyN ws BD BD.length).length ≤ 40 := by rw [onlyN_len]; exact hws40
                  generalize onlyN ws BD BD.length = ON at *
                  have hinO := HOn.out.in'
                  go_wp2_with fail
                  refine (FillWishes_s0 _ _ _ _ ns ls _ _ ON ws.length (nn : Int) _ HWN.out hinO (by omega) HON.out).mono ?_
                  rw [HB2.out]
                  rintro e wc ⟨vc, rfl, hc9, hb⟩
                  obtain ⟨AG, cG, rfl, -, -, -⟩ := hc9.shape
                  replace HX0 := Lib.hid (HX0.out.trans hb)
                  replace HWN := Lib.hid (HWN.out.ext hb)
                  replace k0 := hb.lit k0
                  replace k1 := hb.lit k1
                  replace hinBn := hinBn.ext hb
                  replace hinO := hinO.ext hb
                  clear hb hc9 HOn
                  go_wp2_with fail
                  go_loopw [24] (fun i wr => ∃ k : Nat, k ≤ BD.length ∧ i = .int .i64 k ∧ Ext wc wr) (fun i _ => BD.length - (intOf i).toNat)
                  case atStart => exact ⟨0, by omega, rfl, Ext.refl _⟩
                  case round =>
                    obtain ⟨k, hk, rfl, hxs⟩ := hrel
                    obtain ⟨wf, rfl⟩ : ∃ x : World, x = wr := ⟨_, rfl⟩
                    by_cases hlt : k < BD.length
                    · have hki : (k : Int) < BD.length := by omega
                      obtain ⟨a, ea, ha, hfil⟩ := HB1.out k hlt
                      have hai : (a : Int) < ws.length := by omega
                      have haO : a < ON.length := by rw [← HON.out]; exact ha
                      obtain ⟨bB, oB, rfl, -, x0⟩ := (hinBn.ext hxs).gi_ hlt
                      rw [ea] at x0
                      have hinOf := hinO.ext hxs
                      have HFI := Lib.hid hfil
                      have HEA := Lib.hid ea
                      clear hfil ea
                      go_wp2_with (at_builtin; refine az_ints _ _ rfl rfl (B := wf.heap.size) rfl ((OzI.zero (B := wf.heap.size) _ (Nat.le_refl _) rfl).own (Nat.le_refl _)) ⟨_, rfl⟩ rfl HON.out (hinOf.ext ((Ext.refl _).alloc _)) (by omega) (by simp) ?_)
                      intro vo wq ho hxa
                      have hb0 : Ext wf wq := ((Ext.refl _).alloc _).trans hxa
                      clear hxa
                      obtain ⟨go, co, eo, -, hgo, -, -, -⟩ := ho.gi_ (j := a) haO
                      rw [← HON.out] at eo
                      subst eo
                      obtain ⟨s1, s2⟩ := ho.cel (j := a) haO
                      replace x0 := hb0.lit x0
                      have Hset := Lib.hid (ho.set_ HON.out a (-1))
                      have HSL3 : Hid (ws.length = (ON.set a (-1)).length) := Lib.hid (by rw [List.length_set]; exact HON.out)
                      generalize hX9 : ON.set a (-1) = X at *
                      clear hX9 ho hinOf
                      go_upto_region 50 with fail
                      have hb : Ext wf (wq.setCell ⟨go, a, none⟩ (.int .i64 (-1))) := Ext.setCell (p := ⟨go, a, none⟩) hb0 hgo
                      have hinX := Hset.out.in'
                      have HX9 := Lib.hid (hxs.trans hb)
                      have j0 := hb.lit (hxs.lit k0)
                      have j1 := hb.lit (hxs.lit k1)
                      clear hb0 hb Hset s1 s2 x0
                      generalize wq.setCell ⟨go, a, none⟩ (.int .i64 (-1)) = wd at *
                      have hxl40 : X.length ≤ 40 := by rw [← HSL3.out]; exact hws40
                      go_wp2_with fail
                      refine (FillWishes_s0 _ _ _ _ ns ls _ _ X ws.length (nn : Int) _ (HWN.out.ext HX9.out) hinX (by omega) HSL3.out).mono ?_
                      rw [HFI.out]
                      rintro e wg ⟨vg, rfl, hg, hb⟩
                      obtain ⟨AH, cH, rfl, -, -, -⟩ := hg.shape
                      clear hg
                      go_wp2
                      go_roundw
                      case rel => exact ⟨k + 1, by omega, by go_num, HX9.out.trans hb⟩
                      case measure => first | (simp [intOf]; done) | (simp [intOf]; omega)
                    · obtain rfl : k = BD.length := by omega
                      clear hk hlt
                      replace HX0 := Lib.hid (HX0.out.trans hxs)
                      replace HWN := Lib.hid (HWN.out.ext hxs)
                      replace k0 := hxs.lit k0
                      replace k1 := hxs.lit k1
                      replace hinO := hinO.ext hxs
                      clear hxs hinBn
                      go_wp2_with fail
                      refine (count_iL HON.out (by omega) hinO).mono ?_
                      rw [HB4.out]
                      rintro e wg ⟨rfl, rfl⟩
                      go_wp2_with fail
                      refine (wishes_iL HON.out HWN.out hinO (by omega)).mono ?_
                      rw [HB3.out]
                      rintro e wh ⟨rfl, hb⟩
                      go_wp2
                      go_ret
                      exact ⟨rfl, HX0.out.trans hb⟩
end Go.Proofs.YtdhmjhoaegdfjaaGreat
