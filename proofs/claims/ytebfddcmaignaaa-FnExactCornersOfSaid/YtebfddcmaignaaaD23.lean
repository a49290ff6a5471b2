import Derived.Test.YtebfddcmaignaaaD22
import Derived.Test.YtebfddcmaignaaaD18
namespace Go.Proofs.Ytebfddcmaignaaa
open Go.RowKit Go.Sort Go.BigFrame

/-- the pairs of faces that a list of leads names -/
def dpairs (S : List Int) (xs : List Int) : List P2 := xs.map (fun k => (gi S (2 * k), gi S (2 * k + 1)))
theorem dpairs_len (S : List Int) (xs : List Int) : (dpairs S xs).length = xs.length := by simp [dpairs]
theorem dpairs_gp {S : List Int} {xs : List Int} {j : Nat} (h : j < xs.length) : gp (dpairs S xs) j = (gi S (2 * gi xs (j : Nat)), gi S (2 * gi xs (j : Nat) + 1)) := by
  rw [gp_nat _ j (by rw [dpairs_len]; exact h), gi_nat xs j h]; simp [dpairs]
theorem dpairs_vd {ns ls : List P2} {xs : List Int} (hw : whole ns ls = true) (h : ris xs 0 (ls.length - 1) = true) : Vd (vFaces ns ls).length (dpairs (vSides ns ls) xs) := by
  intro l hl
  obtain ⟨k, hk, rfl⟩ := List.mem_map.1 hl
  obtain ⟨i, hi, rfl⟩ := List.getElem_of_mem hk
  have hb := ris_bd h hi
  rw [gi_nat xs i hi] at hb
  generalize xs[i] = x at *
  obtain ⟨y, rfl⟩ := Int.eq_ofNat_of_zero_le hb.1
  obtain ⟨⟨a, ea, ha⟩, ⟨b, eb, hb'⟩⟩ := side_of hw (j := y) (by omega)
  exact ⟨a, b, by rw [ea, eb], ha, hb'⟩
def vIsDualTree (ns ls : List P2) (xs : List Int) : Bool :=
  whole ns ls && ris xs 0 (ls.length - 1) && decide ((xs.length : Int) = ((vFaces ns ls).length : Int) - 1) && (List.range xs.length).all (fun j => joins (vFaces ns ls).length (dpairs (vSides ns ls) xs) j)
theorem faces_pos {ns ls : List P2} (hw : whole ns ls = true) : 0 < (vFaces ns ls).length := by
  unfold vFaces; rw [if_pos hw]; exact fcs_pos (whole_ok hw).2
theorem vId_yes {ns ls : List P2} {xs : List Int} (h1 : whole ns ls = true) (h2 : ris xs 0 (ls.length - 1) = true) (h3 : (xs.length : Int) = ((vFaces ns ls).length : Int) - 1) :
    (vIsDualTree ns ls xs = true ↔ ∀ j, j < xs.length → joins (vFaces ns ls).length (dpairs (vSides ns ls) xs) j = true) ∧ (vIsDualTree ns ls xs = true ↔ itB (dpairs (vSides ns ls) xs) (dpairs (vSides ns ls) xs).length (2 ^ 0) = 2 ^ (vFaces ns ls).length - 1) := by
  have hlo := faces_pos h1
  have e : vIsDualTree ns ls xs = true ↔ ∀ j, j < xs.length → joins (vFaces ns ls).length (dpairs (vSides ns ls) xs) j = true := by
    unfold vIsDualTree
    simp [h1, h2, h3]
  refine ⟨e, ?_⟩
  have hv := dpairs_vd h1 h2
  have hl := dpairs_len (vSides ns ls) xs
  have ht := tree_iff hv (by omega) (by rw [hl]; omega)
  rw [hl] at ht
  rw [e, ht, hl, show xs.length = (vFaces ns ls).length - 1 by omega]
  exact (itB_all hv (by omega)).symm

set_option maxRecDepth 100000 in
set_option maxHeartbeats 4000000 in
theorem IsDualTree_i (A B : Option Addr) (c d : Nat) (ns ls : List P2) (X : Option Addr) (xc : Nat) (xs : List Int) (w : World) (h : Wn w A c B d ns ls) (hX : In w w.heap.size X xs) (hxl : xs.length ≤ 2000000) :
    Calls Try.prog 67 #[.agg #[.slice A ns.length c, .slice B ls.length d], .slice X xs.length xc] w fun e w' => e = .returned (.bool (vIsDualTree ns ls xs)) ∧ Ext w w' := by
  have HV : Hid (vIsDualTree ns ls xs = (whole ns ls && ris xs 0 (ls.length - 1) && decide ((xs.length : Int) = ((vFaces ns ls).length : Int) - 1) && (List.range xs.length).all (fun j => joins (vFaces ns ls).length (dpairs (vSides ns ls) xs) j))) := Lib.hid rfl
  have hml := h.hm
  have hFl0 := vFaces_len ns ls
  by_cases hw : whole ns ls = true
  · by_cases hr : ris xs 0 (ls.length - 1) = true
    · by_cases hlen : (xs.length : Int) = ((vFaces ns ls).length : Int) - 1
      · skip
        have hFl := vFaces_len ns ls
        have hm := (whole_ok hw).1.le
        have hm0 := (whole_ok hw).2
        have hFp := faces_pos hw
        have HB : Hid (∀ j : Nat, j < xs.length → 0 ≤ gi xs j ∧ gi xs j ≤ (ls.length : Int) - 1) := Lib.hid (fun _ hj => ris_bd hr hj)
        have Hvd := Lib.hid (dpairs_vd hw hr)
        have HSL := Lib.hid (vSides_len hw)
        have HWW := Lib.hid hw
        have HL := Lib.hid (dpairs_len (vSides ns ls) xs)
        have HG : Hid (∀ j : Nat, j < xs.length → gp (dpairs (vSides ns ls) xs) j = (gi (vSides ns ls) (2 * gi xs (j : Nat)), gi (vSides ns ls) (2 * gi xs (j : Nat) + 1))) := Lib.hid (fun _ hj => dpairs_gp hj)
        have HAB : Hid (∀ j, j < ls.length → (∃ a : Nat, gi (vSides ns ls) (2 * (j : Int)) = a ∧ a < (vFaces ns ls).length) ∧ ∃ b : Nat, gi (vSides ns ls) (2 * (j : Int) + 1) = b ∧ b < (vFaces ns ls).length) := Lib.hid (fun j hj => side_of hw hj)
        have HY := Lib.hid (vId_yes hw hr hlen).2
        have hne : ((xs.length : Int) != ((vFaces ns ls).length : Int) - 1) = false := by simp [hlen]
        have hxn : xs.length < (vFaces ns ls).length := by omega
        clear hlen HV
        go_enter Try.func67, Try.ntmps67
        go_wp2_with fail
        have k0 : (w.alloc (.cells #[.slice A ns.length c, .slice B ls.length d] 32)).cell? ⟨w.heap.size, 0, none⟩ = some (.slice A ns.length c) := by go_simp
        have k1 : (w.alloc (.cells #[.slice A ns.length c, .slice B ls.length d] 32)).cell? ⟨w.heap.size, 1, none⟩ = some (.slice B ls.length d) := by go_simp
        have hx : Ext w (w.alloc (.cells #[.slice A ns.length c, .slice B ls.length d] 32)) := (by repeat first | exact Ext.refl _ | assumption | refine Ext.drew ?_ | refine Ext.alloc ?_ _ | refine Ext.setCell ?_ (by simp) | refine Ext.setCell ?_ (by simp; omega) | refine Ext.trans ?_ (by assumption))
        have hsz1 : w.heap.size + 1 = (w.alloc (.cells #[.slice A ns.length c, .slice B ls.length d] 32)).heap.size := by simp
        generalize (w.alloc (.cells #[.slice A ns.length c, .slice B ls.length d] 32)) = w0 at *
        (try rw [hsz1])
        refine (IsWhole_i _ _ _ _ ns ls _ (h.ext hx)).mono ?_
        rintro e w1 ⟨rfl, hb⟩
        have k0 := hb.lit k0
        have k1 := hb.lit k1
        have hx := hx.trans hb
        clear hb
        rw [hw]
        go_wp2_with fail
        refine (rising_c X xc xs 0 _ _ hxl (hX.ext hx)).mono ?_
        rintro e w' ⟨rfl, rfl⟩
        rw [hr]
        go_wp2_with fail
        refine (FacesOf_i _ _ _ _ ns ls _ (h.ext hx)).mono ?_
        rintro e w2 ⟨v, rfl, hF, -, hb⟩
        have k0 := hb.lit k0
        have k1 := hb.lit k1
        have hx := hx.trans hb
        clear hb
        obtain ⟨A1, c1, rfl, -⟩ := hF.shape
        clear hF
        go_wp2_with fail
        refine (facesAt_i _ _ _ _ ns ls _ (h.ext hx)).mono ?_
        rintro e w3 ⟨v, rfl, hS, -, hb⟩
        obtain ⟨gS, cS, rfl, -, -, -, -, -⟩ := hS.gi_ (j := 0) (by rw [HSL.out]; omega)
        rw [HSL.out] at hS
        rw [HSL.out]
        have k0 := hb.lit k0
        have k1 := hb.lit k1
        have hx := hx.trans hb
        clear hb
        generalize hPP : dpairs (vSides ns ls) xs = PP at *
        clear hPP
        generalize hSS : vSides ns ls = S at *
        clear hSS
        generalize hnn : (vFaces ns ls).length = n at *
        clear hnn
        go_wp2_with fail
        go_loopw [7, 9, 34] (fun v _ i wr => ∃ j : Nat, j ≤ xs.length ∧ i = .int .i64 j ∧ OwP wr w3.heap.size 75 v (PP.take j) ∧ Ext w3 wr) (fun _ _ i _ => xs.length - (intOf i).toNat)
        case atStart => exact ⟨0, by omega, rfl, OwP.nil _ _ _, Ext.refl _⟩
        case round =>
          obtain ⟨j, hj, rfl, hv, hxr⟩ := hrel
          obtain ⟨wo, rfl⟩ : ∃ x : World, x = wr := ⟨_, rfl⟩
          have hx0 := hx.trans hxr
          have hsz := hxr.size
          by_cases hlt : j < xs.length
          · have HT : Hid (PP.take (j + 1) = PP.take j ++ [gp PP j]) := Lib.hid (by rw [List.take_succ_eq_append_getElem (by rw [HL.out]; exact hlt), gp_nat PP j (by rw [HL.out]; exact hlt)])
            have hln : (PP.take j).length ≤ j := List.length_take_le _ _
            obtain ⟨xb, xo, rfl, hxb, c0⟩ := (hX.ext hx0).gi_ hlt
            have hb := HB.out j hlt
            have HGj := Lib.hid (HG.out j hlt)
            generalize gi xs (j : Nat) = x at *
            obtain ⟨y, rfl⟩ := Int.eq_ofNat_of_zero_le hb.1
            have hy : y < ls.length := by omega
            obtain ⟨⟨a, ea, ha⟩, ⟨b, eb, hb'⟩⟩ := HAB.out y hy
            rw [ea, eb] at HGj
            have c1 := ((hS.ext hxr).cel (j := 2 * y) (by rw [HSL.out]; omega)).1
            have c2 := ((hS.ext hxr).cel (j := 2 * y + 1) (by rw [HSL.out]; omega)).1
            have y1 : ((2 * y : Nat) : Int) = 2 * (y : Int) := by omega
            have y2 : ((2 * y + 1 : Nat) : Int) = 2 * (y : Int) + 1 := by omega
            rw [y1, ea] at c1
            rw [y2, eb] at c2
            have z1 : (2 * (y : Int)).toNat = 2 * y := by omega
            have z2 : (2 * (y : Int) + 1).toNat = 2 * y + 1 := by omega
            have z3 : 2 * (y : Int) < 2 * (ls.length : Int) := by omega
            have z4 : 2 * (y : Int) + 1 < 2 * (ls.length : Int) := by omega
            have hji : (j : Int) < xs.length := by omega
            clear y1 y2 ea eb hb
            rw [HGj.out] at HT
            go_wp2_with fail
            have d0 := cell_regrown c1
            have d1 := cell_regrown c2
            refine rx_open [(true, 0, some 38, 128), (true, 0, some 39, 64), (true, 0, some 40, 512), (true, 4, some 41, 1099511627776), (true, 10, some 42, 2748779069440), (true, 16, some 43, 4398046511104), (true, 0, some 44, 64), (true, 0, some 45, 512), (true, 128, some 46, 35184372088832), (true, 256, some 47, 70368744177664), (true, 576, some 48, 158329674399744), (true, 1024, some 49, 281474976710656), (false, 2080, some 50, 571746046443520), (false, 4096, some 51, 1125899906842624), (false, 8193, some 52, 2252074691592192), (true, 32767, some 7, 4503599627370496)] 49152 16 mixd rfl (by kernel_rfl) (by kernel_rfl) (by kernel_rfl) ?_
            refine rx_run (run := [0, 1, 2, 3, 4, 5, 6, 7, 8, 9, 10, 11]) (k := 4) (m' := 4095) rfl (by kernel_rfl) (by kernel_rfl) (by kernel_rfl) (fm_cons rfl <| fm_cons rfl <| fm_cons rfl <| fm_cons rfl <| fm_cons rfl <| fm_cons rfl <| fm_cons rfl <| fm_cons rfl <| fm_cons rfl <| fm_cons rfl <| fm_cons rfl <| fm_cons rfl <| List.filterMap_nil) (by repeat first | exact Ext.refl _ | assumption | refine Ext.drew ?_ | refine Ext.alloc ?_ _ | refine Ext.setCell ?_ (by simp) | refine Ext.setCell ?_ (by simp; omega) | refine Ext.trans ?_ (by assumption)) ?_
            repeat (go_big_quiet_step ((fail)))
            refine wpQuiet_nil ?_
            refine rx_op 12 (k := 3) (m' := 8191) rfl rfl (by kernel_rfl) (by kernel_rfl) ?_
            go_wp2
            refine rx_on (by repeat first | exact Ext.refl _ | assumption | refine Ext.drew ?_ | refine Ext.alloc ?_ _ | refine Ext.setCell ?_ (by simp) | refine Ext.setCell ?_ (by simp; omega) | refine Ext.trans ?_ (by assumption)) ?_
            refine rx_op 13 (k := 2) (m' := 16383) rfl rfl (by kernel_rfl) (by kernel_rfl) ?_
            go_wp2
            refine rx_on (by repeat first | exact Ext.refl _ | assumption | refine Ext.drew ?_ | refine Ext.alloc ?_ _ | refine Ext.setCell ?_ (by simp) | refine Ext.setCell ?_ (by simp; omega) | refine Ext.trans ?_ (by assumption)) ?_
            refine rx_op 14 (k := 1) (m' := 32767) rfl rfl (by kernel_rfl) (by kernel_rfl) ?_
            go_wp2_with ((at_builtin; refine az_pair (B0 := 0) 74 75 Try.underlying74 infoA _ _ rfl rfl rfl (.inl (hv.ext (by repeat first | exact Ext.refl _ | assumption | refine Ext.drew ?_ | refine Ext.alloc ?_ _ | refine Ext.setCell ?_ (by simp) | refine Ext.setCell ?_ (by simp; omega) | refine Ext.trans ?_ (by assumption)))) (g := wo.heap.size) (p := a) (q := b) (by first | rfl | simp) (by go_simp) (by go_simp) (by omega) (by simp; omega) ?_; intro v' w' r h1 h3 h4 h5 h6))
            refine rx_lst (by decide) ?_
            refine rx_op 15 (k := 0) (m' := 65535) rfl rfl (by kernel_rfl) (by kernel_rfl) ?_
            go_wp2
            refine rx_lst (by decide) ?_
            refine rx_end (by kernel_rfl) ?_
            go_wp2
            go_roundw
            case rel => exact ⟨j + 1, by omega, by go_num, by rw [HT.out]; exact h1, h3 _ (hxr.trans (by repeat first | exact Ext.refl _ | assumption | refine Ext.drew ?_ | refine Ext.alloc ?_ _ | refine Ext.setCell ?_ (by simp) | refine Ext.setCell ?_ (by simp; omega) | refine Ext.trans ?_ (by assumption))) (Nat.le_refl _)⟩
            case measure => first | (simp [intOf]; done) | (simp [intOf]; omega)
          · obtain rfl : j = xs.length := by omega
            rw [List.take_of_length_le (by rw [HL.out]; exact Nat.le_refl _)] at hv
            obtain ⟨A5, c5, rfl, -, -, hP⟩ := hv.shape
            go_wp2_with fail
            refine rx_open [(true, 0, some 54, 128), (false, 1, some 55, 18014398509481984), (true, 0, some 56, 32), (true, 4, some 57, 72057594037927936), (true, 8, some 58, 144115188075855872), (true, 18, some 59, 324259173170675712), (true, 63, some 4, 576460752303423488)] 0 7 mixd rfl (by kernel_rfl) (by kernel_rfl) (by kernel_rfl) ?_
            refine rx_run (run := [0, 2, 3, 4]) (k := 3) (m' := 29) rfl (by kernel_rfl) (by kernel_rfl) (by kernel_rfl) (fm_cons rfl <| fm_cons rfl <| fm_cons rfl <| fm_cons rfl <| List.filterMap_nil) (by repeat first | exact Ext.refl _ | assumption | refine Ext.drew ?_ | refine Ext.alloc ?_ _ | refine Ext.setCell ?_ (by simp) | refine Ext.setCell ?_ (by simp; omega) | refine Ext.trans ?_ (by assumption)) ?_
            repeat (go_big_quiet_step ((fail)))
            refine wpQuiet_nil ?_
            refine rx_op 1 (k := 2) (m' := 31) rfl rfl (by kernel_rfl) (by kernel_rfl) ?_
            go_wp2_with ((go_at_call 113; refine (joined_c _ _ n PP _ (by omega) (by rw [HL.out]; omega) Hvd.out (by omega) (hP.ext (by repeat first | exact Ext.refl _ | assumption | refine Ext.drew ?_ | refine Ext.alloc ?_ _ | refine Ext.setCell ?_ (by simp) | refine Ext.setCell ?_ (by simp; omega) | refine Ext.trans ?_ (by assumption)))).mono ?_; rintro e w6 ⟨rfl, hb6⟩))
            refine rx_on (by repeat first | exact Ext.refl _ | assumption | refine Ext.drew ?_ | refine Ext.alloc ?_ _ | refine Ext.setCell ?_ (by simp) | refine Ext.setCell ?_ (by simp; omega) | refine Ext.trans ?_ (by assumption)) ?_
            refine rx_run (run := [5, 6]) (k := 0) (m' := 127) rfl (by kernel_rfl) (by kernel_rfl) (by kernel_rfl) (fm_cons rfl <| fm_cons rfl <| List.filterMap_nil) (by repeat first | exact Ext.refl _ | assumption | refine Ext.drew ?_ | refine Ext.alloc ?_ _ | refine Ext.setCell ?_ (by simp) | refine Ext.setCell ?_ (by simp; omega) | refine Ext.trans ?_ (by assumption)) ?_
            repeat (go_big_quiet_step ((fail)))
            refine wpQuiet_nil ?_
            refine rx_end (by kernel_rfl) ?_
            go_wp2
            go_ret
            refine ⟨?_, hx0.trans (by repeat first | exact Ext.refl _ | assumption | refine Ext.drew ?_ | refine Ext.alloc ?_ _ | refine Ext.setCell ?_ (by simp) | refine Ext.setCell ?_ (by simp; omega) | refine Ext.trans ?_ (by assumption))⟩
            show Ending.returned (.bool (((itB PP PP.length 1 : Nat) : Int) == wrap64 (wrap64 (2 ^ n) - 1))) = _
            refine ret_b ?_
            rw [full_bits _ _ (by omega), Bool.eq_iff_iff, HY.out, decide_eq_true_eq]
      · have hne : ((xs.length : Int) != ((vFaces ns ls).length : Int) - 1) = true := by simp [hlen]
        have HE : Hid (vIsDualTree ns ls xs = false) := Lib.hid (by rw [HV.out, decide_eq_false hlen]; simp)
        clear HV hlen
        go_enter Try.func67, Try.ntmps67
        go_wp2_with fail
        have k0 : (w.alloc (.cells #[.slice A ns.length c, .slice B ls.length d] 32)).cell? ⟨w.heap.size, 0, none⟩ = some (.slice A ns.length c) := by go_simp
        have k1 : (w.alloc (.cells #[.slice A ns.length c, .slice B ls.length d] 32)).cell? ⟨w.heap.size, 1, none⟩ = some (.slice B ls.length d) := by go_simp
        have hx : Ext w (w.alloc (.cells #[.slice A ns.length c, .slice B ls.length d] 32)) := (by repeat first | exact Ext.refl _ | assumption | refine Ext.drew ?_ | refine Ext.alloc ?_ _ | refine Ext.setCell ?_ (by simp) | refine Ext.setCell ?_ (by simp; omega) | refine Ext.trans ?_ (by assumption))
        have hsz1 : w.heap.size + 1 = (w.alloc (.cells #[.slice A ns.length c, .slice B ls.length d] 32)).heap.size := by simp
        generalize (w.alloc (.cells #[.slice A ns.length c, .slice B ls.length d] 32)) = w0 at *
        (try rw [hsz1])
        refine (IsWhole_i _ _ _ _ ns ls _ (h.ext hx)).mono ?_
        rintro e w1 ⟨rfl, hb⟩
        have k0 := hb.lit k0
        have k1 := hb.lit k1
        have hx := hx.trans hb
        clear hb
        rw [hw]
        go_wp2_with fail
        refine (rising_c X xc xs 0 _ _ hxl (hX.ext hx)).mono ?_
        rintro e w' ⟨rfl, rfl⟩
        rw [hr]
        go_wp2_with fail
        refine (FacesOf_i _ _ _ _ ns ls _ (h.ext hx)).mono ?_
        rintro e w2 ⟨v, rfl, hF, -, hb⟩
        have k0 := hb.lit k0
        have k1 := hb.lit k1
        have hx := hx.trans hb
        clear hb
        obtain ⟨A1, c1, rfl, -⟩ := hF.shape
        clear hF
        generalize (vFaces ns ls).length = n at *
        go_wp2
        go_ret
        exact ⟨ret_b (by rw [HE.out]), hx⟩
    · have hr' := eq_false_of_ne_true hr
      have HE : Hid (vIsDualTree ns ls xs = false) := Lib.hid (by rw [HV.out, hr']; simp)
      go_enter Try.func67, Try.ntmps67
      go_wp2_with fail
      have k0 : (w.alloc (.cells #[.slice A ns.length c, .slice B ls.length d] 32)).cell? ⟨w.heap.size, 0, none⟩ = some (.slice A ns.length c) := by go_simp
      have k1 : (w.alloc (.cells #[.slice A ns.length c, .slice B ls.length d] 32)).cell? ⟨w.heap.size, 1, none⟩ = some (.slice B ls.length d) := by go_simp
      have hx : Ext w (w.alloc (.cells #[.slice A ns.length c, .slice B ls.length d] 32)) := (by repeat first | exact Ext.refl _ | assumption | refine Ext.drew ?_ | refine Ext.alloc ?_ _ | refine Ext.setCell ?_ (by simp) | refine Ext.setCell ?_ (by simp; omega) | refine Ext.trans ?_ (by assumption))
      have hsz1 : w.heap.size + 1 = (w.alloc (.cells #[.slice A ns.length c, .slice B ls.length d] 32)).heap.size := by simp
      generalize (w.alloc (.cells #[.slice A ns.length c, .slice B ls.length d] 32)) = w0 at *
      (try rw [hsz1])
      refine (IsWhole_i _ _ _ _ ns ls _ (h.ext hx)).mono ?_
      rintro e w1 ⟨rfl, hb⟩
      have k0 := hb.lit k0
      have k1 := hb.lit k1
      have hx := hx.trans hb
      clear hb
      rw [hw]
      go_wp2_with fail
      refine (rising_c X xc xs 0 _ _ hxl (hX.ext hx)).mono ?_
      rintro e w' ⟨rfl, rfl⟩
      rw [hr']
      go_wp2
      go_ret
      exact ⟨ret_b (by rw [HE.out]), hx⟩
  · have hw' := eq_false_of_ne_true hw
    have HE : Hid (vIsDualTree ns ls xs = false) := Lib.hid (by rw [HV.out, hw']; simp)
    go_enter Try.func67, Try.ntmps67
    go_wp2_with fail
    have k0 : (w.alloc (.cells #[.slice A ns.length c, .slice B ls.length d] 32)).cell? ⟨w.heap.size, 0, none⟩ = some (.slice A ns.length c) := by go_simp
    have k1 : (w.alloc (.cells #[.slice A ns.length c, .slice B ls.length d] 32)).cell? ⟨w.heap.size, 1, none⟩ = some (.slice B ls.length d) := by go_simp
    have hx : Ext w (w.alloc (.cells #[.slice A ns.length c, .slice B ls.length d] 32)) := (by repeat first | exact Ext.refl _ | assumption | refine Ext.drew ?_ | refine Ext.alloc ?_ _ | refine Ext.setCell ?_ (by simp) | refine Ext.setCell ?_ (by simp; omega) | refine Ext.trans ?_ (by assumption))
    have hsz1 : w.heap.size + 1 = (w.alloc (.cells #[.slice A ns.length c, .slice B ls.length d] 32)).heap.size := by simp
    generalize (w.alloc (.cells #[.slice A ns.length c, .slice B ls.length d] 32)) = w0 at *
    (try rw [hsz1])
    refine (IsWhole_i _ _ _ _ ns ls _ (h.ext hx)).mono ?_
    rintro e w1 ⟨rfl, hb⟩
    have k0 := hb.lit k0
    have k1 := hb.lit k1
    have hx := hx.trans hb
    clear hb
    rw [hw']
    go_wp2
    go_ret
    exact ⟨ret_b (by rw [HE.out]), hx⟩

set_option maxRecDepth 100000 in
set_option maxHeartbeats 4000000 in
theorem IsDualTree_s (A B : Option Addr) (c d : Nat) (ns ls : List P2) (X : Option Addr) (xc : Nat) (xs : List Int) (w : World) (h : Wn w A c B d ns ls) (hX : In w w.heap.size X xs) (hxl : xs.length ≤ 2000000) :
    Calls Try.prog 66 #[.agg #[.slice A ns.length c, .slice B ls.length d], .slice X xs.length xc] w fun e w' => e = .returned (.bool (vIsDualTree ns ls xs)) ∧ Ext w w' := by
  have HV : Hid (vIsDualTree ns ls xs = (whole ns ls && ris xs 0 (ls.length - 1) && decide ((xs.length : Int) = ((vFaces ns ls).length : Int) - 1) && (List.range xs.length).all (fun j => joins (vFaces ns ls).length (dpairs (vSides ns ls) xs) j))) := Lib.hid rfl
  have hml := h.hm
  have hFl0 := vFaces_len ns ls
  by_cases hw : whole ns ls = true
  · by_cases hr : ris xs 0 (ls.length - 1) = true
    · by_cases hlen : (xs.length : Int) = ((vFaces ns ls).length : Int) - 1
      · skip
        have hFl := vFaces_len ns ls
        have hm := (whole_ok hw).1.le
        have hm0 := (whole_ok hw).2
        have hFp := faces_pos hw
        have HB : Hid (∀ j : Nat, j < xs.length → 0 ≤ gi xs j ∧ gi xs j ≤ (ls.length : Int) - 1) := Lib.hid (fun _ hj => ris_bd hr hj)
        have Hvd := Lib.hid (dpairs_vd hw hr)
        have HSL := Lib.hid (vSides_len hw)
        have HWW := Lib.hid hw
        have HL := Lib.hid (dpairs_len (vSides ns ls) xs)
        have HG : Hid (∀ j : Nat, j < xs.length → gp (dpairs (vSides ns ls) xs) j = (gi (vSides ns ls) (2 * gi xs (j : Nat)), gi (vSides ns ls) (2 * gi xs (j : Nat) + 1))) := Lib.hid (fun _ hj => dpairs_gp hj)
        have HAB : Hid (∀ j, j < ls.length → (∃ a : Nat, gi (vSides ns ls) (2 * (j : Int)) = a ∧ a < (vFaces ns ls).length) ∧ ∃ b : Nat, gi (vSides ns ls) (2 * (j : Int) + 1) = b ∧ b < (vFaces ns ls).length) := Lib.hid (fun j hj => side_of hw hj)
        have HY := Lib.hid (vId_yes hw hr hlen).1
        have hne : ((xs.length : Int) != ((vFaces ns ls).length : Int) - 1) = false := by simp [hlen]
        have hxn : xs.length < (vFaces ns ls).length := by omega
        clear hlen HV
        go_enter Try.func66, Try.ntmps66
        go_wp2_with fail
        have k0 : (w.alloc (.cells #[.slice A ns.length c, .slice B ls.length d] 32)).cell? ⟨w.heap.size, 0, none⟩ = some (.slice A ns.length c) := by go_simp
        have k1 : (w.alloc (.cells #[.slice A ns.length c, .slice B ls.length d] 32)).cell? ⟨w.heap.size, 1, none⟩ = some (.slice B ls.length d) := by go_simp
        have hx : Ext w (w.alloc (.cells #[.slice A ns.length c, .slice B ls.length d] 32)) := (by repeat first | exact Ext.refl _ | assumption | refine Ext.drew ?_ | refine Ext.alloc ?_ _ | refine Ext.setCell ?_ (by simp) | refine Ext.setCell ?_ (by simp; omega) | refine Ext.trans ?_ (by assumption))
        have hsz1 : w.heap.size + 1 = (w.alloc (.cells #[.slice A ns.length c, .slice B ls.length d] 32)).heap.size := by simp
        generalize (w.alloc (.cells #[.slice A ns.length c, .slice B ls.length d] 32)) = w0 at *
        (try rw [hsz1])
        refine (IsWhole_s _ _ _ _ ns ls _ (h.ext hx)).mono ?_
        rintro e w1 ⟨rfl, hb⟩
        have k0 := hb.lit k0
        have k1 := hb.lit k1
        have hx := hx.trans hb
        clear hb
        rw [hw]
        go_wp2_with fail
        refine (l16List_c X xc xs ls.length _ (by omega) hxl (hX.ext hx)).mono ?_
        rintro e w2 ⟨rfl, hb⟩
        have k0 := hb.lit k0
        have k1 := hb.lit k1
        have hx := hx.trans hb
        clear hb
        rw [hr]
        go_wp2_with fail
        refine (FacesOf_s _ _ _ _ ns ls _ (h.ext hx)).mono ?_
        rintro e w3 ⟨v, rfl, hF, hb⟩
        have k0 := hb.lit k0
        have k1 := hb.lit k1
        have hx := hx.trans hb
        clear hb
        obtain ⟨A1, c1, rfl, -⟩ := hF.shape
        clear hF
        go_wp2_with fail
        refine (l09Sides_s _ _ _ _ ns ls _ (h.ext hx) HWW.out).mono ?_
        rintro e w4 ⟨v, rfl, hS, hb⟩
        obtain ⟨gS, cS, rfl, -, -, -, -, -⟩ := hS.gi_ (j := 0) (by rw [HSL.out]; omega)
        rw [HSL.out] at hS
        rw [HSL.out]
        have k0 := hb.lit k0
        have k1 := hb.lit k1
        have hx := hx.trans hb
        clear hb
        go_wp2_with fail
        refine (FacesOf_s _ _ _ _ ns ls _ (h.ext hx)).mono ?_
        rintro e w5 ⟨v, rfl, hF, hb⟩
        have k0 := hb.lit k0
        have k1 := hb.lit k1
        have hS := hS.ext hb
        have hx := hx.trans hb
        clear hb
        obtain ⟨A2, c2, rfl, -⟩ := hF.shape
        clear hF
        go_wp2_with fail
        refine (l16Groups_c (vFaces ns ls).length _ (by omega)).mono ?_
        rintro e w6 ⟨v, rfl, hg, hb⟩
        have hgs1 : ∀ q, v.ownBlock = some q → w5.heap.size ≤ q := fun q hq => (hg.blk q hq).1
        have hx5 := hx
        have hb56 := hb
        clear hb k0 k1
        have HG0 : Hid (ids (vFaces ns ls).length = grp (vFaces ns ls).length (dpairs (vSides ns ls) xs) 0) := Lib.hid rfl
        rw [HG0.out] at hg
        generalize hPP : dpairs (vSides ns ls) xs = PP at *
        clear hPP
        generalize hSS : vSides ns ls = S at *
        clear hSS
        generalize hnn : (vFaces ns ls).length = n at *
        clear hnn
        have HGS : Hid (∀ j, grp n PP (j + 1) = joinG (grp n PP j) (gp PP j).1 (gp PP j).2) := Lib.hid (fun _ => rfl)
        have HJ : Hid (∀ j, joins n PP j = (gi (grp n PP j) (gp PP j).1 != gi (grp n PP j) (gp PP j).2)) := Lib.hid (fun _ => rfl)
        go_wp2_with fail
        go_loopw [7] (fun i wr => ∃ j : Nat, j ≤ xs.length ∧ i = .int .i64 j ∧ Hid (∀ i, i < j → joins n PP i = true) ∧ OwI wr w5.heap.size v (grp n PP j) ∧ Ext w5 wr) (fun i _ => xs.length - (intOf i).toNat)
        case atStart => exact ⟨0, by omega, rfl, Lib.hid (fun i hi => by omega), hg, hb56⟩
        case round =>
          clear hg
          obtain ⟨j, hj, rfl, hpr, hg, hxr⟩ := hrel
          obtain ⟨wo, rfl⟩ : ∃ x : World, x = wr := ⟨_, rfl⟩
          have hx0 := hx5.trans hxr
          by_cases hlt : j < xs.length
          · have HJj := Lib.hid (HJ.out j)
            have HSj := Lib.hid (HGS.out j)
            have HGl := Lib.hid (grp_len n PP j)
            have step : joins n PP j = true → Hid (∀ i, i < j + 1 → joins n PP i = true) := fun hk => Lib.hid (fun i hi => by
              rcases Nat.lt_succ_iff_lt_or_eq.1 hi with h | h
              · exact hpr.out i h
              · subst h; exact hk)
            obtain ⟨xb, xo, rfl, hxb, c0⟩ := (hX.ext hx0).gi_ hlt
            have hb := HB.out j hlt
            have HGj := Lib.hid (HG.out j hlt)
            generalize gi xs (j : Nat) = x at *
            obtain ⟨y, rfl⟩ := Int.eq_ofNat_of_zero_le hb.1
            have hy : y < ls.length := by omega
            obtain ⟨⟨a, ea, ha⟩, ⟨b, eb, hb'⟩⟩ := HAB.out y hy
            rw [ea, eb] at HGj
            have c1 := ((hS.ext hxr).cel (j := 2 * y) (by rw [HSL.out]; omega)).1
            have c2 := ((hS.ext hxr).cel (j := 2 * y + 1) (by rw [HSL.out]; omega)).1
            have y1 : ((2 * y : Nat) : Int) = 2 * (y : Int) := by omega
            have y2 : ((2 * y + 1 : Nat) : Int) = 2 * (y : Int) + 1 := by omega
            rw [y1, ea] at c1
            rw [y2, eb] at c2
            have z1 : (2 * (y : Int)).toNat = 2 * y := by omega
            have z2 : (2 * (y : Int) + 1).toNat = 2 * y + 1 := by omega
            have z3 : 2 * (y : Int) < 2 * (ls.length : Int) := by omega
            have z4 : 2 * (y : Int) + 1 < 2 * (ls.length : Int) := by omega
            have hji : (j : Int) < xs.length := by omega
            clear y1 y2 ea eb hb
            rw [HGj.out] at HJj HSj
            go_upto_region 8 with fail
            go_cut [59] (fun s wx => s = .bool (!joins n PP j) ∧ OwI wx w5.heap.size v (grp n PP (j + 1)) ∧ Ext w5 wx)
            case first =>
              have d0 := cell_regrown c0
              have d1 := cell_regrown c1
              have d2 := cell_regrown c2
              refine rx_open [(true, 0, some 40, 64), (true, 0, some 41, 32), (true, 0, some 42, 2), (true, 0, some 43, 128), (true, 12, some 44, 13194139533312), (true, 16, some 45, 17592186044416), (true, 32, some 46, 35184372088832), (true, 66, some 47, 72567767433216), (true, 128, some 48, 140737488355328), (true, 0, some 49, 32), (true, 0, some 50, 2), (true, 0, some 51, 128), (true, 3072, some 52, 3377699720527872), (true, 4096, some 53, 4503599627370496), (true, 8192, some 54, 9007199254740992), (true, 16384, some 55, 18014398509481984), (true, 33280, some 56, 36591746972385280), (true, 65536, some 57, 72057594037927936), (false, 131329, some 58, 144397762564194304), (true, 262144, some 59, 288230376151711744)] 786432 20 mixd rfl (by kernel_rfl) (by kernel_rfl) (by kernel_rfl) ?_
              refine rx_run (run := [0, 1, 2, 3, 4, 5, 6, 7, 8, 9, 10, 11, 12, 13, 14, 15, 16, 17]) (k := 2) (m' := 262143) rfl (by kernel_rfl) (by kernel_rfl) (by kernel_rfl) (fm_cons rfl <| fm_cons rfl <| fm_cons rfl <| fm_cons rfl <| fm_cons rfl <| fm_cons rfl <| fm_cons rfl <| fm_cons rfl <| fm_cons rfl <| fm_cons rfl <| fm_cons rfl <| fm_cons rfl <| fm_cons rfl <| fm_cons rfl <| fm_cons rfl <| fm_cons rfl <| fm_cons rfl <| fm_cons rfl <| List.filterMap_nil) (by repeat first | exact Ext.refl _ | assumption | refine Ext.drew ?_ | refine Ext.alloc ?_ _ | refine Ext.setCell ?_ (by simp) | refine Ext.setCell ?_ (by simp; omega) | refine Ext.trans ?_ (by assumption)) ?_
              repeat (go_big_quiet_step ((fail)))
              refine wpQuiet_nil ?_
              refine rx_op 18 (k := 1) (m' := 524287) rfl rfl (by kernel_rfl) (by kernel_rfl) ?_
              go_wp2_with ((go_at_call 111; refine (l16Join_c v _ a b _ (hg.ext (by repeat first | exact Ext.refl _ | assumption | refine Ext.drew ?_ | refine Ext.alloc ?_ _ | refine Ext.setCell ?_ (by simp) | refine Ext.setCell ?_ (by simp; omega) | refine Ext.trans ?_ (by assumption))) (by rw [HGl.out]; omega) (by rw [HGl.out]; exact ha) (by rw [HGl.out]; exact hb')).mono ?_; rintro e w6 ⟨rfl, hg2, hgb⟩))
              refine rx_lst (by decide) ?_
              refine rx_op 19 (k := 0) (m' := 1048575) rfl rfl (by kernel_rfl) (by kernel_rfl) ?_
              go_wp2
              refine rx_lst (by decide) ?_
              refine rx_end (by kernel_rfl) ?_
              all_goals (go_wp2; go_meet; exact ⟨by rw [HJj.out], by rw [HSj.out]; exact hg2, gb_ext2 (hxr.trans (by repeat first | exact Ext.refl _ | assumption | refine Ext.drew ?_ | refine Ext.alloc ?_ _ | refine Ext.setCell ?_ (by simp) | refine Ext.setCell ?_ (by simp; omega) | refine Ext.trans ?_ (by assumption))) hgb hgs1⟩)
            case rest =>
              obtain ⟨rfl, hg, hxr⟩ := hcut
              obtain ⟨w7, rfl⟩ : ∃ x : World, x = wc := ⟨_, rfl⟩
              clear c0 c1 c2
              by_cases hP : joins n PP j = true
              · have hk := step hP
                rw [hP]
                clear step
                go_wp2
                go_roundw
                case rel => exact ⟨j + 1, by omega, by go_num, hk, hg, hxr⟩
                case measure => first | (simp [intOf]; done) | (simp [intOf]; omega)
              · rw [eq_false_of_ne_true hP]
                clear step
                go_wp2
                go_ret
                refine ⟨ret_b ?_, hx5.trans hxr⟩
                symm
                rw [Bool.eq_false_iff]
                intro e
                exact hP (HY.out.1 e j hlt)
          · obtain rfl : j = xs.length := by omega
            have HT := Lib.hid (HY.out.2 hpr.out)
            go_wp2
            go_ret
            exact ⟨ret_b (by rw [HT.out]), hx0⟩
      · have hne : ((xs.length : Int) != ((vFaces ns ls).length : Int) - 1) = true := by simp [hlen]
        have HE : Hid (vIsDualTree ns ls xs = false) := Lib.hid (by rw [HV.out, decide_eq_false hlen]; simp)
        clear HV hlen
        go_enter Try.func66, Try.ntmps66
        go_wp2_with fail
        have k0 : (w.alloc (.cells #[.slice A ns.length c, .slice B ls.length d] 32)).cell? ⟨w.heap.size, 0, none⟩ = some (.slice A ns.length c) := by go_simp
        have k1 : (w.alloc (.cells #[.slice A ns.length c, .slice B ls.length d] 32)).cell? ⟨w.heap.size, 1, none⟩ = some (.slice B ls.length d) := by go_simp
        have hx : Ext w (w.alloc (.cells #[.slice A ns.length c, .slice B ls.length d] 32)) := (by repeat first | exact Ext.refl _ | assumption | refine Ext.drew ?_ | refine Ext.alloc ?_ _ | refine Ext.setCell ?_ (by simp) | refine Ext.setCell ?_ (by simp; omega) | refine Ext.trans ?_ (by assumption))
        have hsz1 : w.heap.size + 1 = (w.alloc (.cells #[.slice A ns.length c, .slice B ls.length d] 32)).heap.size := by simp
        generalize (w.alloc (.cells #[.slice A ns.length c, .slice B ls.length d] 32)) = w0 at *
        (try rw [hsz1])
        refine (IsWhole_s _ _ _ _ ns ls _ (h.ext hx)).mono ?_
        rintro e w1 ⟨rfl, hb⟩
        have k0 := hb.lit k0
        have k1 := hb.lit k1
        have hx := hx.trans hb
        clear hb
        rw [hw]
        go_wp2_with fail
        refine (l16List_c X xc xs ls.length _ (by omega) hxl (hX.ext hx)).mono ?_
        rintro e w2 ⟨rfl, hb⟩
        have k0 := hb.lit k0
        have k1 := hb.lit k1
        have hx := hx.trans hb
        clear hb
        rw [hr]
        go_wp2_with fail
        refine (FacesOf_s _ _ _ _ ns ls _ (h.ext hx)).mono ?_
        rintro e w3 ⟨v, rfl, hF, hb⟩
        have k0 := hb.lit k0
        have k1 := hb.lit k1
        have hx := hx.trans hb
        clear hb
        obtain ⟨A1, c1, rfl, -⟩ := hF.shape
        clear hF
        generalize (vFaces ns ls).length = n at *
        go_wp2
        go_ret
        exact ⟨ret_b (by rw [HE.out]), hx⟩
    · have hr' := eq_false_of_ne_true hr
      have HE : Hid (vIsDualTree ns ls xs = false) := Lib.hid (by rw [HV.out, hr']; simp)
      go_enter Try.func66, Try.ntmps66
      go_wp2_with fail
      have k0 : (w.alloc (.cells #[.slice A ns.length c, .slice B ls.length d] 32)).cell? ⟨w.heap.size, 0, none⟩ = some (.slice A ns.length c) := by go_simp
      have k1 : (w.alloc (.cells #[.slice A ns.length c, .slice B ls.length d] 32)).cell? ⟨w.heap.size, 1, none⟩ = some (.slice B ls.length d) := by go_simp
      have hx : Ext w (w.alloc (.cells #[.slice A ns.length c, .slice B ls.length d] 32)) := (by repeat first | exact Ext.refl _ | assumption | refine Ext.drew ?_ | refine Ext.alloc ?_ _ | refine Ext.setCell ?_ (by simp) | refine Ext.setCell ?_ (by simp; omega) | refine Ext.trans ?_ (by assumption))
      have hsz1 : w.heap.size + 1 = (w.alloc (.cells #[.slice A ns.length c, .slice B ls.length d] 32)).heap.size := by simp
      generalize (w.alloc (.cells #[.slice A ns.length c, .slice B ls.length d] 32)) = w0 at *
      (try rw [hsz1])
      refine (IsWhole_s _ _ _ _ ns ls _ (h.ext hx)).mono ?_
      rintro e w1 ⟨rfl, hb⟩
      have k0 := hb.lit k0
      have k1 := hb.lit k1
      have hx := hx.trans hb
      clear hb
      rw [hw]
      go_wp2_with fail
      refine (l16List_c X xc xs ls.length _ (by omega) hxl (hX.ext hx)).mono ?_
      rintro e w2 ⟨rfl, hb⟩
      have k0 := hb.lit k0
      have k1 := hb.lit k1
      have hx := hx.trans hb
      clear hb
      rw [hr']
      go_wp2
      go_ret
      exact ⟨ret_b (by rw [HE.out]), hx⟩
  · have hw' := eq_false_of_ne_true hw
    have HE : Hid (vIsDualTree ns ls xs = false) := Lib.hid (by rw [HV.out, hw']; simp)
    go_enter Try.func66, Try.ntmps66
    go_wp2_with fail
    have k0 : (w.alloc (.cells #[.slice A ns.length c, .slice B ls.length d] 32)).cell? ⟨w.heap.size, 0, none⟩ = some (.slice A ns.length c) := by go_simp
    have k1 : (w.alloc (.cells #[.slice A ns.length c, .slice B ls.length d] 32)).cell? ⟨w.heap.size, 1, none⟩ = some (.slice B ls.length d) := by go_simp
    have hx : Ext w (w.alloc (.cells #[.slice A ns.length c, .slice B ls.length d] 32)) := (by repeat first | exact Ext.refl _ | assumption | refine Ext.drew ?_ | refine Ext.alloc ?_ _ | refine Ext.setCell ?_ (by simp) | refine Ext.setCell ?_ (by simp; omega) | refine Ext.trans ?_ (by assumption))
    have hsz1 : w.heap.size + 1 = (w.alloc (.cells #[.slice A ns.length c, .slice B ls.length d] 32)).heap.size := by simp
    generalize (w.alloc (.cells #[.slice A ns.length c, .slice B ls.length d] 32)) = w0 at *
    (try rw [hsz1])
    refine (IsWhole_s _ _ _ _ ns ls _ (h.ext hx)).mono ?_
    rintro e w1 ⟨rfl, hb⟩
    have k0 := hb.lit k0
    have k1 := hb.lit k1
    have hx := hx.trans hb
    clear hb
    rw [hw']
    go_wp2
    go_ret
    exact ⟨ret_b (by rw [HE.out]), hx⟩
end Go.Proofs.Ytebfddcmaignaaa
