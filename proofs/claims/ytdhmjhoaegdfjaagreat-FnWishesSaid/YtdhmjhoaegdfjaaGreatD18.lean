import Derived.Test.YtdhmjhoaegdfjaaGreatD17
namespace Go.Proofs.YtdhmjhoaegdfjaaGreat
open Go.RowKit Go.Sort Go.BigFrame

def clP (S xs : List Int) (j : Nat) : Bool := decide (gi S (2 * (j : Int)) ≠ gi S (2 * (j : Int) + 1)) && (gi xs (gi S (2 * (j : Int))) == gi xs (gi S (2 * (j : Int) + 1)))
def vClashOf (ns ls : List P2) (xs : List Int) : Int := if vColorsOk ns ls xs = true then ffst (clP (vSides ns ls) xs) ls.length else -1
theorem colors_ok {ns ls : List P2} {xs : List Int} (h : vColorsOk ns ls xs = true) : whole ns ls = true ∧ xs.length = (vFaces ns ls).length := by
  simp only [vColorsOk, Bool.and_eq_true, decide_eq_true_eq] at h
  exact h.1
theorem side_of {ns ls : List P2} (hw : whole ns ls = true) {j : Nat} (hj : j < ls.length) :
    (∃ a : Nat, gi (vSides ns ls) (2 * (j : Int)) = a ∧ a < (vFaces ns ls).length) ∧ ∃ b : Nat, gi (vSides ns ls) (2 * (j : Int) + 1) = b ∧ b < (vFaces ns ls).length := by
  have hV : vFaces ns ls = fcs ns ls := by unfold vFaces; rw [if_pos hw]
  have hp := fcs_pos (ns := ns) (whole_ok hw).2
  rw [hV]
  have h1 := vSides_gi hw (d := 2 * j) (by omega)
  have h2 := vSides_gi hw (d := 2 * j + 1) (by omega)
  rw [show ((2 * j : Nat) : Int) = 2 * (j : Int) by omega] at h1
  rw [show ((2 * j + 1 : Nat) : Int) = 2 * (j : Int) + 1 by omega] at h2
  exact ⟨⟨_, h1, sd_lt hp _⟩, ⟨_, h2, sd_lt hp _⟩⟩

set_option maxRecDepth 100000 in
set_option maxHeartbeats 8000000 in
theorem ClashOf_i (A B : Option Addr) (c d : Nat) (ns ls : List P2) (X : Option Addr) (xc : Nat) (xs : List Int) (w : World) (h : Wn w A c B d ns ls) (hX : In w w.heap.size X xs) (hxl : xs.length ≤ 2000000) :
    Calls Tryz.prog 64 #[.agg #[.slice A ns.length c, .slice B ls.length d], .slice X xs.length xc] w fun e w' => e = .returned (.int .i64 (vClashOf ns ls xs)) ∧ Ext w w' := by
  have HV : Hid (vClashOf ns ls xs = if vColorsOk ns ls xs = true then ffst (clP (vSides ns ls) xs) ls.length else -1) := Lib.hid rfl
  by_cases hok : vColorsOk ns ls xs = true
  · skip
    obtain ⟨hw, hlen⟩ := colors_ok hok
    obtain ⟨hW, hm0⟩ := whole_ok hw
    have hm := hW.le
    have hFl := vFaces_len ns ls
    have hx40 : xs.length ≤ 40 := by omega
    have HSL := Lib.hid (vSides_len hw)
    have HWW := Lib.hid hw
    rw [if_pos hok] at HV
    have HAB : Hid (∀ j, j < ls.length → (∃ a : Nat, gi (vSides ns ls) (2 * (j : Int)) = a ∧ a < xs.length) ∧ ∃ b : Nat, gi (vSides ns ls) (2 * (j : Int) + 1) = b ∧ b < xs.length) := Lib.hid (fun j hj => by rw [hlen]; exact side_of hw hj)
    have HP : Hid (∀ j : Nat, clP (vSides ns ls) xs j = (decide (gi (vSides ns ls) (2 * (j : Int)) ≠ gi (vSides ns ls) (2 * (j : Int) + 1)) && (gi xs (gi (vSides ns ls) (2 * (j : Int))) == gi xs (gi (vSides ns ls) (2 * (j : Int) + 1))))) := Lib.hid (fun _ => rfl)
    clear hW hw hlen
    go_enter Tryz.func64, Tryz.ntmps64
    go_wp2_with fail
    have k0 : (w.alloc (.cells #[.slice A ns.length c, .slice B ls.length d] 27)).cell? ⟨w.heap.size, 0, none⟩ = some (.slice A ns.length c) := by go_simp
    have k1 : (w.alloc (.cells #[.slice A ns.length c, .slice B ls.length d] 27)).cell? ⟨w.heap.size, 1, none⟩ = some (.slice B ls.length d) := by go_simp
    have hx : Ext w (w.alloc (.cells #[.slice A ns.length c, .slice B ls.length d] 27)) := (by repeat first | exact Ext.refl _ | assumption | refine Ext.drew ?_ | refine Ext.alloc ?_ _ | refine Ext.setCell ?_ (by simp) | refine Ext.setCell ?_ (by simp; omega) | refine Ext.trans ?_ (by assumption))
    have hsz1 : w.heap.size + 1 = (w.alloc (.cells #[.slice A ns.length c, .slice B ls.length d] 27)).heap.size := by simp
    generalize (w.alloc (.cells #[.slice A ns.length c, .slice B ls.length d] 27)) = w0 at *
    (try rw [hsz1])
    refine (colorsOk_i _ _ _ _ ns ls X xc xs _ (h.ext hx) (hX.ext hx) hxl).mono ?_
    rintro e w1 ⟨rfl, hb⟩
    have k0 := hb.lit k0
    have k1 := hb.lit k1
    have hx := hx.trans hb
    clear hb
    rw [hok]
    go_wp2_with fail
    refine (facesAt_i _ _ _ _ ns ls _ (h.ext hx)).mono ?_
    rintro e w2 ⟨v, rfl, hS, -, hb⟩
    obtain ⟨gS, cS, rfl, -, -, -, -, -⟩ := hS.gi_ (j := 0) (by rw [HSL.out]; omega)
    rw [HSL.out] at hS
    rw [HSL.out]
    have k0 := hb.lit k0
    have k1 := hb.lit k1
    have hx := hx.trans hb
    clear hb
    generalize clP (vSides ns ls) xs = P at *
    generalize hSS : vSides ns ls = S at *
    clear hSS
    go_wp2_with fail
    go_loopw [6, 7, 8, 18] (fun _ _ _ i wr => ∃ j : Nat, j ≤ ls.length ∧ i = .int .i64 j ∧ Hid (∀ i, i < j → P i = false) ∧ Ext w2 wr) (fun _ _ _ i _ => ls.length - (intOf i).toNat)
    case atStart => exact ⟨0, by omega, rfl, Lib.hid (fun i hi => by omega), Ext.refl _⟩
    case round =>
      obtain ⟨j, hj, rfl, hpr, hxr⟩ := hrel
      obtain ⟨wo, rfl⟩ : ∃ x : World, x = wr := ⟨_, rfl⟩
      have hx0 := hx.trans hxr
      by_cases hlt : j < ls.length
      · skip
        have c1 := ((hS.ext hxr).cel (j := 2 * j) (by rw [HSL.out]; omega)).1
        have c2 := ((hS.ext hxr).cel (j := 2 * j + 1) (by rw [HSL.out]; omega)).1
        have y1 : ((2 * j : Nat) : Int) = 2 * (j : Int) := by omega
        have y2 : ((2 * j + 1 : Nat) : Int) = 2 * (j : Int) + 1 := by omega
        rw [y1] at c1
        rw [y2] at c2
        have z1 : (2 * (j : Int)).toNat = 2 * j := by omega
        have z2 : (2 * (j : Int) + 1).toNat = 2 * j + 1 := by omega
        have z3 : 2 * (j : Int) < 2 * (ls.length : Int) := by omega
        have z4 : 2 * (j : Int) + 1 < 2 * (ls.length : Int) := by omega
        have HPj := Lib.hid (HP.out j)
        obtain ⟨⟨a, ea, hal⟩, ⟨b, eb, hbl⟩⟩ := HAB.out j hlt
        rw [ea, eb] at HPj
        rw [ea] at c1
        rw [eb] at c2
        obtain ⟨xb, xo, rfl, hxb, x1⟩ := (hX.ext hx0).gi_ hal
        obtain ⟨xb', xo', e', hxb', x2⟩ := (hX.ext hx0).gi_ hbl
        obtain ⟨rfl, rfl⟩ : xb = xb' ∧ xo = xo' := by simpa using e'
        have hai : (a : Int) < xs.length := by omega
        have hbi : (b : Int) < xs.length := by omega
        have Hk : P j = false → Hid (∀ i, i < j + 1 → P i = false) := fun h => Lib.hid (first_step hpr.out h)
        have Hy : P j = true → Hid (ffst P ls.length = j) := fun h => Lib.hid (ffst_yes hlt h hpr.out)
        clear y1 y2 ea eb e' hxb' hpr
        generalize gi xs (a : Int) = x at *
        generalize gi xs (b : Int) = y at *
        go_upto_region 7 with fail
        go_cut [7, 8] (fun s s' wx => s = .int .i64 (a : Int) ∧ s' = .int .i64 (b : Int) ∧ Ext wo wx)
        case first =>
          have d0 := cell_regrown c1
          have d1 := cell_regrown c2
          refine rx_open [(true, 0, some 21, 32), (true, 0, some 22, 64), (true, 2, some 23, 4194304), (true, 5, some 24, 10485760), (true, 8, some 25, 16777216), (true, 0, some 26, 32), (true, 0, some 27, 64), (true, 64, some 28, 134217728), (true, 128, some 29, 268435456), (true, 288, some 30, 603979776), (true, 512, some 31, 1073741824), (true, 31, some 7, 33554432), (true, 4095, some 8, 2147483648)] 0 13 mixd rfl (by kernel_rfl) (by kernel_rfl) (by kernel_rfl) ?_
          refine rx_run (run := [0, 1, 2, 3, 4, 5, 6, 7, 8, 9, 10, 11, 12]) (k := 0) (m' := 8191) rfl (by kernel_rfl) (by kernel_rfl) (by kernel_rfl) (fm_cons rfl <| fm_cons rfl <| fm_cons rfl <| fm_cons rfl <| fm_cons rfl <| fm_cons rfl <| fm_cons rfl <| fm_cons rfl <| fm_cons rfl <| fm_cons rfl <| fm_cons rfl <| fm_cons rfl <| fm_cons rfl <| List.filterMap_nil) (by repeat first | exact Ext.refl _ | assumption | refine Ext.drew ?_ | refine Ext.alloc ?_ _ | refine Ext.setCell ?_ (by simp) | refine Ext.setCell ?_ (by simp; omega) | refine Ext.trans ?_ (by assumption)) ?_
          repeat (go_big_quiet_step ((fail)))
          refine wpQuiet_nil ?_
          refine rx_end (by kernel_rfl) ?_
          all_goals (go_wp2; go_meet; exact ⟨rfl, rfl, (by repeat first | exact Ext.refl _ | assumption | refine Ext.drew ?_ | refine Ext.alloc ?_ _ | refine Ext.setCell ?_ (by simp) | refine Ext.setCell ?_ (by simp; omega) | refine Ext.trans ?_ (by assumption))⟩)
        case rest =>
          obtain ⟨rfl, rfl, hb⟩ := hcut
          obtain ⟨w3, rfl⟩ : ∃ x : World, x = wc := ⟨_, rfl⟩
          have hxr := hxr.trans hb
          have hx0 := hx0.trans hb
          have x1 := hb.lit x1
          have x2 := hb.lit x2
          clear hb c1 c2
          by_cases hab : a = b
          · have hq : ((a : Int) != (b : Int)) = false := by simp [hab]
            have Hs := Hk (by rw [HPj.out]; simp [hab])
            clear hab Hk Hy
            go_wp2_with fail
            have d2 := cell_regrown x1
            have d3 := cell_regrown x2
            refine rx_open [(true, 0, some 32, 128), (true, 0, some 33, 256), (true, 3, some 34, 12884901888), (true, 4, some 35, 17179869184), (true, 8, some 36, 34359738370), (true, 8, some 37, 34359738496), (true, 56, some 38, 240518168576), (true, 72, some 39, 309237645312), (true, 8, some 40, 34359738370), (true, 8, some 41, 34359738624), (true, 776, some 42, 3332894621696), (true, 1032, some 43, 4432406249472), (true, 2184, some 44, 9380208574464), (true, 4104, some 45, 17626545782784)] 0 14 mixd rfl (by kernel_rfl) (by kernel_rfl) (by kernel_rfl) ?_
            refine rx_run (run := [0, 1, 2, 3, 4, 5, 6, 7, 8, 9, 10, 11, 12, 13]) (k := 0) (m' := 16383) rfl (by kernel_rfl) (by kernel_rfl) (by kernel_rfl) (fm_cons rfl <| fm_cons rfl <| fm_cons rfl <| fm_cons rfl <| fm_cons rfl <| fm_cons rfl <| fm_cons rfl <| fm_cons rfl <| fm_cons rfl <| fm_cons rfl <| fm_cons rfl <| fm_cons rfl <| fm_cons rfl <| fm_cons rfl <| List.filterMap_nil) (by repeat first | exact Ext.refl _ | assumption | refine Ext.drew ?_ | refine Ext.alloc ?_ _ | refine Ext.setCell ?_ (by simp) | refine Ext.setCell ?_ (by simp; omega) | refine Ext.trans ?_ (by assumption)) ?_
            repeat (go_big_quiet_step ((fail)))
            refine wpQuiet_nil ?_
            refine rx_end (by kernel_rfl) ?_
            go_wp2
            go_roundw
            case rel => exact ⟨j + 1, by omega, by go_num, Hs, hxr.trans (by repeat first | exact Ext.refl _ | assumption | refine Ext.drew ?_ | refine Ext.alloc ?_ _ | refine Ext.setCell ?_ (by simp) | refine Ext.setCell ?_ (by simp; omega) | refine Ext.trans ?_ (by assumption))⟩
            case measure => first | (simp [intOf]; done) | (simp [intOf]; omega)
          · have hq : ((a : Int) != (b : Int)) = true := by simp; omega
            by_cases hxy : x = y
            · have hq2 : (x == y) = true := by simp [hxy]
              have Hs := Hy (by rw [HPj.out]; simp [hxy]; omega)
              clear hab hxy Hk Hy
              go_wp2_with fail
              have d2 := cell_regrown x1
              have d3 := cell_regrown x2
              refine rx_open [(true, 0, some 32, 128), (true, 0, some 33, 256), (true, 3, some 34, 12884901888), (true, 4, some 35, 17179869184), (true, 8, some 36, 34359738370), (true, 8, some 37, 34359738496), (true, 56, some 38, 240518168576), (true, 72, some 39, 309237645312), (true, 8, some 40, 34359738370), (true, 8, some 41, 34359738624), (true, 776, some 42, 3332894621696), (true, 1032, some 43, 4432406249472), (true, 2184, some 44, 9380208574464), (true, 4104, some 45, 17626545782784)] 0 14 mixd rfl (by kernel_rfl) (by kernel_rfl) (by kernel_rfl) ?_
              refine rx_run (run := [0, 1, 2, 3, 4, 5, 6, 7, 8, 9, 10, 11, 12, 13]) (k := 0) (m' := 16383) rfl (by kernel_rfl) (by kernel_rfl) (by kernel_rfl) (fm_cons rfl <| fm_cons rfl <| fm_cons rfl <| fm_cons rfl <| fm_cons rfl <| fm_cons rfl <| fm_cons rfl <| fm_cons rfl <| fm_cons rfl <| fm_cons rfl <| fm_cons rfl <| fm_cons rfl <| fm_cons rfl <| fm_cons rfl <| List.filterMap_nil) (by repeat first | exact Ext.refl _ | assumption | refine Ext.drew ?_ | refine Ext.alloc ?_ _ | refine Ext.setCell ?_ (by simp) | refine Ext.setCell ?_ (by simp; omega) | refine Ext.trans ?_ (by assumption)) ?_
              repeat (go_big_quiet_step ((fail)))
              refine wpQuiet_nil ?_
              refine rx_end (by kernel_rfl) ?_
              go_wp2
              go_ret
              exact ⟨ret_i (by rw [HV.out, Hs.out]), hx0.trans (by repeat first | exact Ext.refl _ | assumption | refine Ext.drew ?_ | refine Ext.alloc ?_ _ | refine Ext.setCell ?_ (by simp) | refine Ext.setCell ?_ (by simp; omega) | refine Ext.trans ?_ (by assumption))⟩
            · have hq2 : (x == y) = false := by simp [hxy]
              have Hs := Hk (by rw [HPj.out]; simp [hxy])
              clear hab hxy Hk Hy
              go_wp2_with fail
              have d2 := cell_regrown x1
              have d3 := cell_regrown x2
              refine rx_open [(true, 0, some 32, 128), (true, 0, some 33, 256), (true, 3, some 34, 12884901888), (true, 4, some 35, 17179869184), (true, 8, some 36, 34359738370), (true, 8, some 37, 34359738496), (true, 56, some 38, 240518168576), (true, 72, some 39, 309237645312), (true, 8, some 40, 34359738370), (true, 8, some 41, 34359738624), (true, 776, some 42, 3332894621696), (true, 1032, some 43, 4432406249472), (true, 2184, some 44, 9380208574464), (true, 4104, some 45, 17626545782784)] 0 14 mixd rfl (by kernel_rfl) (by kernel_rfl) (by kernel_rfl) ?_
              refine rx_run (run := [0, 1, 2, 3, 4, 5, 6, 7, 8, 9, 10, 11, 12, 13]) (k := 0) (m' := 16383) rfl (by kernel_rfl) (by kernel_rfl) (by kernel_rfl) (fm_cons rfl <| fm_cons rfl <| fm_cons rfl <| fm_cons rfl <| fm_cons rfl <| fm_cons rfl <| fm_cons rfl <| fm_cons rfl <| fm_cons rfl <| fm_cons rfl <| fm_cons rfl <| fm_cons rfl <| fm_cons rfl <| fm_cons rfl <| List.filterMap_nil) (by repeat first | exact Ext.refl _ | assumption | refine Ext.drew ?_ | refine Ext.alloc ?_ _ | refine Ext.setCell ?_ (by simp) | refine Ext.setCell ?_ (by simp; omega) | refine Ext.trans ?_ (by assumption)) ?_
              repeat (go_big_quiet_step ((fail)))
              refine wpQuiet_nil ?_
              refine rx_end (by kernel_rfl) ?_
              go_wp2
              go_roundw
              case rel => exact ⟨j + 1, by omega, by go_num, Hs, hxr.trans (by repeat first | exact Ext.refl _ | assumption | refine Ext.drew ?_ | refine Ext.alloc ?_ _ | refine Ext.setCell ?_ (by simp) | refine Ext.setCell ?_ (by simp; omega) | refine Ext.trans ?_ (by assumption))⟩
              case measure => first | (simp [intOf]; done) | (simp [intOf]; omega)
      · obtain rfl : j = ls.length := by omega
        have Hn := Lib.hid (ffst_no hpr.out)
        go_wp2
        go_ret
        exact ⟨ret_i (by rw [HV.out, Hn.out]), hx0⟩
  · rw [if_neg hok] at HV
    have hok' := eq_false_of_ne_true hok
    go_enter Tryz.func64, Tryz.ntmps64
    go_wp2_with fail
    have k0 : (w.alloc (.cells #[.slice A ns.length c, .slice B ls.length d] 27)).cell? ⟨w.heap.size, 0, none⟩ = some (.slice A ns.length c) := by go_simp
    have k1 : (w.alloc (.cells #[.slice A ns.length c, .slice B ls.length d] 27)).cell? ⟨w.heap.size, 1, none⟩ = some (.slice B ls.length d) := by go_simp
    have hx : Ext w (w.alloc (.cells #[.slice A ns.length c, .slice B ls.length d] 27)) := (by repeat first | exact Ext.refl _ | assumption | refine Ext.drew ?_ | refine Ext.alloc ?_ _ | refine Ext.setCell ?_ (by simp) | refine Ext.setCell ?_ (by simp; omega) | refine Ext.trans ?_ (by assumption))
    have hsz1 : w.heap.size + 1 = (w.alloc (.cells #[.slice A ns.length c, .slice B ls.length d] 27)).heap.size := by simp
    generalize (w.alloc (.cells #[.slice A ns.length c, .slice B ls.length d] 27)) = w0 at *
    (try rw [hsz1])
    refine (colorsOk_i _ _ _ _ ns ls X xc xs _ (h.ext hx) (hX.ext hx) hxl).mono ?_
    rintro e w1 ⟨rfl, hb⟩
    have k0 := hb.lit k0
    have k1 := hb.lit k1
    have hx := hx.trans hb
    clear hb
    rw [hok']
    go_wp2
    go_ret
    exact ⟨ret_i (by rw [HV.out]), hx⟩

set_option maxRecDepth 100000 in
set_option maxHeartbeats 8000000 in
theorem ClashOf_s (A B : Option Addr) (c d : Nat) (ns ls : List P2) (X : Option Addr) (xc : Nat) (xs : List Int) (w : World) (h : Wn w A c B d ns ls) (hX : In w w.heap.size X xs) (hxl : xs.length ≤ 2000000) :
    Calls Tryz.prog 41 #[.agg #[.slice A ns.length c, .slice B ls.length d], .slice X xs.length xc] w fun e w' => e = .returned (.int .i64 (vClashOf ns ls xs)) ∧ Ext w w' := by
  have HV : Hid (vClashOf ns ls xs = if vColorsOk ns ls xs = true then ffst (clP (vSides ns ls) xs) ls.length else -1) := Lib.hid rfl
  have hFl0 := vFaces_len ns ls
  have HL2 : Hid ((aw xs 0 5 && decide (xs.length = (vFaces ns ls).length)) = (decide (xs.length = (vFaces ns ls).length) && aw xs 0 5)) := Lib.hid (Bool.and_comm _ _)
  have HCO : Hid (vColorsOk ns ls xs = (whole ns ls && (decide (xs.length = (vFaces ns ls).length) && aw xs 0 5))) := Lib.hid (by unfold vColorsOk; rw [Bool.and_assoc])
  by_cases hw : whole ns ls = true
  · by_cases hr : (decide (xs.length = (vFaces ns ls).length) && aw xs 0 5) = true
    · have hok : vColorsOk ns ls xs = true := by rw [HCO.out, hw, hr]; rfl
      have HR := Lib.hid hr
      have HW2 := Lib.hid hw
      clear hw
      obtain ⟨hw, hlen⟩ := colors_ok hok
      obtain ⟨hW, hm0⟩ := whole_ok hw
      have hm := hW.le
      have hFl := vFaces_len ns ls
      have hx40 : xs.length ≤ 40 := by omega
      have HSL := Lib.hid (vSides_len hw)
      have HWW := Lib.hid hw
      rw [if_pos hok] at HV
      have HAB : Hid (∀ j, j < ls.length → (∃ a : Nat, gi (vSides ns ls) (2 * (j : Int)) = a ∧ a < xs.length) ∧ ∃ b : Nat, gi (vSides ns ls) (2 * (j : Int) + 1) = b ∧ b < xs.length) := Lib.hid (fun j hj => by rw [hlen]; exact side_of hw hj)
      have HP : Hid (∀ j : Nat, clP (vSides ns ls) xs j = (decide (gi (vSides ns ls) (2 * (j : Int)) ≠ gi (vSides ns ls) (2 * (j : Int) + 1)) && (gi xs (gi (vSides ns ls) (2 * (j : Int))) == gi xs (gi (vSides ns ls) (2 * (j : Int) + 1))))) := Lib.hid (fun _ => rfl)
      clear hW hw hlen
      clear hr hok
      go_enter Tryz.func41, Tryz.ntmps41
      go_wp2_with fail
      have k0 : (w.alloc (.cells #[.slice A ns.length c, .slice B ls.length d] 27)).cell? ⟨w.heap.size, 0, none⟩ = some (.slice A ns.length c) := by go_simp
      have k1 : (w.alloc (.cells #[.slice A ns.length c, .slice B ls.length d] 27)).cell? ⟨w.heap.size, 1, none⟩ = some (.slice B ls.length d) := by go_simp
      have hx : Ext w (w.alloc (.cells #[.slice A ns.length c, .slice B ls.length d] 27)) := (by repeat first | exact Ext.refl _ | assumption | refine Ext.drew ?_ | refine Ext.alloc ?_ _ | refine Ext.setCell ?_ (by simp) | refine Ext.setCell ?_ (by simp; omega) | refine Ext.trans ?_ (by assumption))
      have hsz1 : w.heap.size + 1 = (w.alloc (.cells #[.slice A ns.length c, .slice B ls.length d] 27)).heap.size := by simp
      generalize (w.alloc (.cells #[.slice A ns.length c, .slice B ls.length d] 27)) = w0 at *
      (try rw [hsz1])
      refine (IsWhole_s _ _ _ _ ns ls _ (h.ext hx)).mono ?_
      rintro e w1 ⟨rfl, hb⟩
      have k0 := hb.lit k0
      have k1 := hb.lit k1
      have hx := hx.trans hb
      clear hb
      rw [HW2.out]
      go_wp2_with fail
      refine (FacesOf_s _ _ _ _ ns ls _ (h.ext hx)).mono ?_
      rintro e w2 ⟨v, rfl, hF, hb⟩
      have k0 := hb.lit k0
      have k1 := hb.lit k1
      have hx := hx.trans hb
      clear hb
      obtain ⟨A1, c1, rfl, -⟩ := hF.shape
      clear hF
      go_wp2_with fail
      refine (l13List_c X xc (vFaces ns ls).length xs _ (by omega) hxl (hX.ext hx)).mono ?_
      rw [HL2.out]
      rintro e w3 ⟨rfl, rfl⟩
      rw [HR.out]
      go_wp2_with fail
      refine (l09Sides_s _ _ _ _ ns ls _ (h.ext hx) HWW.out).mono ?_
      rintro e w2 ⟨v, rfl, hS, hb⟩
      obtain ⟨gS, cS, rfl, -, -, -, -, -⟩ := hS.gi_ (j := 0) (by rw [HSL.out]; omega)
      rw [HSL.out] at hS
      rw [HSL.out]
      have k0 := hb.lit k0
      have k1 := hb.lit k1
      have hx := hx.trans hb
      clear hb
      generalize clP (vSides ns ls) xs = P at *
      generalize hSS : vSides ns ls = S at *
      clear hSS
      go_wp2_with fail
      go_loopw [6] (fun i wr => ∃ j : Nat, j ≤ ls.length ∧ i = .int .i64 j ∧ Hid (∀ i, i < j → P i = false) ∧ Ext w2 wr) (fun i _ => ls.length - (intOf i).toNat)
      case atStart => exact ⟨0, by omega, rfl, Lib.hid (fun i hi => by omega), Ext.refl _⟩
      case round =>
        obtain ⟨j, hj, rfl, hpr, hxr⟩ := hrel
        obtain ⟨w3, rfl⟩ : ∃ x : World, x = wr := ⟨_, rfl⟩
        have hx0 := hx.trans hxr
        have k0 := hxr.lit k0
        have k1 := hxr.lit k1
        by_cases hlt : j < ls.length
        · skip
          have c1 := ((hS.ext hxr).cel (j := 2 * j) (by rw [HSL.out]; omega)).1
          have c2 := ((hS.ext hxr).cel (j := 2 * j + 1) (by rw [HSL.out]; omega)).1
          have y1 : ((2 * j : Nat) : Int) = 2 * (j : Int) := by omega
          have y2 : ((2 * j + 1 : Nat) : Int) = 2 * (j : Int) + 1 := by omega
          rw [y1] at c1
          rw [y2] at c2
          have z1 : (2 * (j : Int)).toNat = 2 * j := by omega
          have z2 : (2 * (j : Int) + 1).toNat = 2 * j + 1 := by omega
          have z3 : 2 * (j : Int) < 2 * (ls.length : Int) := by omega
          have z4 : 2 * (j : Int) + 1 < 2 * (ls.length : Int) := by omega
          have HPj := Lib.hid (HP.out j)
          obtain ⟨⟨a, ea, hal⟩, ⟨b, eb, hbl⟩⟩ := HAB.out j hlt
          rw [ea, eb] at HPj
          rw [ea] at c1
          rw [eb] at c2
          obtain ⟨xb, xo, rfl, hxb, x1⟩ := (hX.ext hx0).gi_ hal
          obtain ⟨xb', xo', e', hxb', x2⟩ := (hX.ext hx0).gi_ hbl
          obtain ⟨rfl, rfl⟩ : xb = xb' ∧ xo = xo' := by simpa using e'
          have hai : (a : Int) < xs.length := by omega
          have hbi : (b : Int) < xs.length := by omega
          have Hk : P j = false → Hid (∀ i, i < j + 1 → P i = false) := fun h => Lib.hid (first_step hpr.out h)
          have Hy : P j = true → Hid (ffst P ls.length = j) := fun h => Lib.hid (ffst_yes hlt h hpr.out)
          clear y1 y2 ea eb e' hxb' hpr
          generalize gi xs (a : Int) = x at *
          generalize gi xs (b : Int) = y at *
          by_cases hab : a = b
          · have hq : ((a : Int) != (b : Int)) = false := by simp [hab]
            have Hs := Hk (by rw [HPj.out]; simp [hab])
            clear hab Hk Hy
            go_wp2_with fail
            have d0 := cell_regrown c1
            have d1 := cell_regrown c2
            have d2 := cell_regrown x1
            have d3 := cell_regrown x2
            refine rx_open [(true, 0, some 27, 32), (true, 0, some 28, 64), (true, 2, some 29, 268435456), (true, 5, some 30, 671088640), (true, 8, some 31, 1073741824), (true, 0, some 32, 32), (true, 0, some 33, 64), (true, 64, some 34, 8589934592), (true, 128, some 35, 17179869184), (true, 288, some 36, 38654705664), (true, 512, some 37, 68719476736), (true, 1040, some 38, 139586437120), (true, 2048, some 39, 274877906944), (true, 4096, some 40, 549755813890), (true, 4096, some 41, 549755813920), (true, 4096, some 42, 549755813952), (true, 36864, some 43, 4947802324992), (true, 86016, some 44, 11544872091648), (true, 135168, some 45, 18141941858304), (true, 274432, some 46, 36833639530496), (true, 528384, some 47, 70918499991552), (true, 4096, some 48, 549755813890), (true, 4096, some 49, 549755813920), (true, 4096, some 50, 549755813952), (true, 8392704, some 51, 1126449662656512), (true, 16781312, some 52, 2252349569499136), (true, 37752832, some 53, 5067099336605696), (true, 67112960, some 54, 9007749010554880), (true, 136318976, some 55, 18296423242006528), (true, 268439552, some 56, 36029346774777856), (true, 537923584, some 57, 72198881282097152), (true, 1073745920, some 58, 144115737831669760)] 0 32 mixd rfl (by kernel_rfl) (by kernel_rfl) (by kernel_rfl) ?_
            refine rx_run (run := [0, 1, 2, 3, 4, 5, 6, 7, 8, 9, 10, 11, 12, 13, 14, 15, 16, 17, 18, 19, 20, 21, 22, 23, 24, 25, 26, 27, 28, 29, 30, 31]) (k := 0) (m' := 4294967295) rfl (by kernel_rfl) (by kernel_rfl) (by kernel_rfl) (fm_cons rfl <| fm_cons rfl <| fm_cons rfl <| fm_cons rfl <| fm_cons rfl <| fm_cons rfl <| fm_cons rfl <| fm_cons rfl <| fm_cons rfl <| fm_cons rfl <| fm_cons rfl <| fm_cons rfl <| fm_cons rfl <| fm_cons rfl <| fm_cons rfl <| fm_cons rfl <| fm_cons rfl <| fm_cons rfl <| fm_cons rfl <| fm_cons rfl <| fm_cons rfl <| fm_cons rfl <| fm_cons rfl <| fm_cons rfl <| fm_cons rfl <| fm_cons rfl <| fm_cons rfl <| fm_cons rfl <| fm_cons rfl <| fm_cons rfl <| fm_cons rfl <| fm_cons rfl <| List.filterMap_nil) (by repeat first | exact Ext.refl _ | assumption | refine Ext.drew ?_ | refine Ext.alloc ?_ _ | refine Ext.setCell ?_ (by simp) | refine Ext.setCell ?_ (by simp; omega) | refine Ext.trans ?_ (by assumption)) ?_
            repeat (go_big_quiet_step ((fail)))
            refine wpQuiet_nil ?_
            refine rx_end (by kernel_rfl) ?_
            go_wp2
            go_roundw
            case rel => exact ⟨j + 1, by omega, by go_num, Hs, hxr.trans (by repeat first | exact Ext.refl _ | assumption | refine Ext.drew ?_ | refine Ext.alloc ?_ _ | refine Ext.setCell ?_ (by simp) | refine Ext.setCell ?_ (by simp; omega) | refine Ext.trans ?_ (by assumption))⟩
            case measure => first | (simp [intOf]; done) | (simp [intOf]; omega)
          · have hq : ((a : Int) != (b : Int)) = true := by simp; omega
            by_cases hxy : x = y
            · have hq2 : (x == y) = true := by simp [hxy]
              have Hs := Hy (by rw [HPj.out]; simp [hxy]; omega)
              clear hab hxy Hk Hy
              go_wp2_with fail
              have d0 := cell_regrown c1
              have d1 := cell_regrown c2
              have d2 := cell_regrown x1
              have d3 := cell_regrown x2
              refine rx_open [(true, 0, some 27, 32), (true, 0, some 28, 64), (true, 2, some 29, 268435456), (true, 5, some 30, 671088640), (true, 8, some 31, 1073741824), (true, 0, some 32, 32), (true, 0, some 33, 64), (true, 64, some 34, 8589934592), (true, 128, some 35, 17179869184), (true, 288, some 36, 38654705664), (true, 512, some 37, 68719476736), (true, 1040, some 38, 139586437120), (true, 2048, some 39, 274877906944), (true, 4096, some 40, 549755813890), (true, 4096, some 41, 549755813920), (true, 4096, some 42, 549755813952), (true, 36864, some 43, 4947802324992), (true, 86016, some 44, 11544872091648), (true, 135168, some 45, 18141941858304), (true, 274432, some 46, 36833639530496), (true, 528384, some 47, 70918499991552), (true, 4096, some 48, 549755813890), (true, 4096, some 49, 549755813920), (true, 4096, some 50, 549755813952), (true, 8392704, some 51, 1126449662656512), (true, 16781312, some 52, 2252349569499136), (true, 37752832, some 53, 5067099336605696), (true, 67112960, some 54, 9007749010554880), (true, 136318976, some 55, 18296423242006528), (true, 268439552, some 56, 36029346774777856), (true, 537923584, some 57, 72198881282097152), (true, 1073745920, some 58, 144115737831669760)] 0 32 mixd rfl (by kernel_rfl) (by kernel_rfl) (by kernel_rfl) ?_
              refine rx_run (run := [0, 1, 2, 3, 4, 5, 6, 7, 8, 9, 10, 11, 12, 13, 14, 15, 16, 17, 18, 19, 20, 21, 22, 23, 24, 25, 26, 27, 28, 29, 30, 31]) (k := 0) (m' := 4294967295) rfl (by kernel_rfl) (by kernel_rfl) (by kernel_rfl) (fm_cons rfl <| fm_cons rfl <| fm_cons rfl <| fm_cons rfl <| fm_cons rfl <| fm_cons rfl <| fm_cons rfl <| fm_cons rfl <| fm_cons rfl <| fm_cons rfl <| fm_cons rfl <| fm_cons rfl <| fm_cons rfl <| fm_cons rfl <| fm_cons rfl <| fm_cons rfl <| fm_cons rfl <| fm_cons rfl <| fm_cons rfl <| fm_cons rfl <| fm_cons rfl <| fm_cons rfl <| fm_cons rfl <| fm_cons rfl <| fm_cons rfl <| fm_cons rfl <| fm_cons rfl <| fm_cons rfl <| fm_cons rfl <| fm_cons rfl <| fm_cons rfl <| fm_cons rfl <| List.filterMap_nil) (by repeat first | exact Ext.refl _ | assumption | refine Ext.drew ?_ | refine Ext.alloc ?_ _ | refine Ext.setCell ?_ (by simp) | refine Ext.setCell ?_ (by simp; omega) | refine Ext.trans ?_ (by assumption)) ?_
              repeat (go_big_quiet_step ((fail)))
              refine wpQuiet_nil ?_
              refine rx_end (by kernel_rfl) ?_
              go_wp2
              go_ret
              exact ⟨ret_i (by rw [HV.out, Hs.out]), hx0.trans (by repeat first | exact Ext.refl _ | assumption | refine Ext.drew ?_ | refine Ext.alloc ?_ _ | refine Ext.setCell ?_ (by simp) | refine Ext.setCell ?_ (by simp; omega) | refine Ext.trans ?_ (by assumption))⟩
            · have hq2 : (x == y) = false := by simp [hxy]
              have Hs := Hk (by rw [HPj.out]; simp [hxy])
              clear hab hxy Hk Hy
              go_wp2_with fail
              have d0 := cell_regrown c1
              have d1 := cell_regrown c2
              have d2 := cell_regrown x1
              have d3 := cell_regrown x2
              refine rx_open [(true, 0, some 27, 32), (true, 0, some 28, 64), (true, 2, some 29, 268435456), (true, 5, some 30, 671088640), (true, 8, some 31, 1073741824), (true, 0, some 32, 32), (true, 0, some 33, 64), (true, 64, some 34, 8589934592), (true, 128, some 35, 17179869184), (true, 288, some 36, 38654705664), (true, 512, some 37, 68719476736), (true, 1040, some 38, 139586437120), (true, 2048, some 39, 274877906944), (true, 4096, some 40, 549755813890), (true, 4096, some 41, 549755813920), (true, 4096, some 42, 549755813952), (true, 36864, some 43, 4947802324992), (true, 86016, some 44, 11544872091648), (true, 135168, some 45, 18141941858304), (true, 274432, some 46, 36833639530496), (true, 528384, some 47, 70918499991552), (true, 4096, some 48, 549755813890), (true, 4096, some 49, 549755813920), (true, 4096, some 50, 549755813952), (true, 8392704, some 51, 1126449662656512), (true, 16781312, some 52, 2252349569499136), (true, 37752832, some 53, 5067099336605696), (true, 67112960, some 54, 9007749010554880), (true, 136318976, some 55, 18296423242006528), (true, 268439552, some 56, 36029346774777856), (true, 537923584, some 57, 72198881282097152), (true, 1073745920, some 58, 144115737831669760)] 0 32 mixd rfl (by kernel_rfl) (by kernel_rfl) (by kernel_rfl) ?_
              refine rx_run (run := [0, 1, 2, 3, 4, 5, 6, 7, 8, 9, 10, 11, 12, 13, 14, 15, 16, 17, 18, 19, 20, 21, 22, 23, 24, 25, 26, 27, 28, 29, 30, 31]) (k := 0) (m' := 4294967295) rfl (by kernel_rfl) (by kernel_rfl) (by kernel_rfl) (fm_cons rfl <| fm_cons rfl <| fm_cons rfl <| fm_cons rfl <| fm_cons rfl <| fm_cons rfl <| fm_cons rfl <| fm_cons rfl <| fm_cons rfl <| fm_cons rfl <| fm_cons rfl <| fm_cons rfl <| fm_cons rfl <| fm_cons rfl <| fm_cons rfl <| fm_cons rfl <| fm_cons rfl <| fm_cons rfl <| fm_cons rfl <| fm_cons rfl <| fm_cons rfl <| fm_cons rfl <| fm_cons rfl <| fm_cons rfl <| fm_cons rfl <| fm_cons rfl <| fm_cons rfl <| fm_cons rfl <| fm_cons rfl <| fm_cons rfl <| fm_cons rfl <| fm_cons rfl <| List.filterMap_nil) (by repeat first | exact Ext.refl _ | assumption | refine Ext.drew ?_ | refine Ext.alloc ?_ _ | refine Ext.setCell ?_ (by simp) | refine Ext.setCell ?_ (by simp; omega) | refine Ext.trans ?_ (by assumption)) ?_
              repeat (go_big_quiet_step ((fail)))
              refine wpQuiet_nil ?_
              refine rx_end (by kernel_rfl) ?_
              go_wp2
              go_roundw
              case rel => exact ⟨j + 1, by omega, by go_num, Hs, hxr.trans (by repeat first | exact Ext.refl _ | assumption | refine Ext.drew ?_ | refine Ext.alloc ?_ _ | refine Ext.setCell ?_ (by simp) | refine Ext.setCell ?_ (by simp; omega) | refine Ext.trans ?_ (by assumption))⟩
              case measure => first | (simp [intOf]; done) | (simp [intOf]; omega)
        · obtain rfl : j = ls.length := by omega
          have Hn := Lib.hid (ffst_no hpr.out)
          go_wp2
          go_ret
          exact ⟨ret_i (by rw [HV.out, Hn.out]), hx0⟩
    · have hr' := eq_false_of_ne_true hr
      have hok : vColorsOk ns ls xs = false := by rw [HCO.out, hw, hr']; rfl
      rw [hok, if_neg (by simp)] at HV
      go_enter Tryz.func41, Tryz.ntmps41
      go_wp2_with fail
      have k0 : (w.alloc (.cells #[.slice A ns.length c, .slice B ls.length d] 27)).cell? ⟨w.heap.size, 0, none⟩ = some (.slice A ns.length c) := by go_simp
      have k1 : (w.alloc (.cells #[.slice A ns.length c, .slice B ls.length d] 27)).cell? ⟨w.heap.size, 1, none⟩ = some (.slice B ls.length d) := by go_simp
      have hx : Ext w (w.alloc (.cells #[.slice A ns.length c, .slice B ls.length d] 27)) := (by repeat first | exact Ext.refl _ | assumption | refine Ext.drew ?_ | refine Ext.alloc ?_ _ | refine Ext.setCell ?_ (by simp) | refine Ext.setCell ?_ (by simp; omega) | refine Ext.trans ?_ (by assumption))
      have hsz1 : w.heap.size + 1 = (w.alloc (.cells #[.slice A ns.length c, .slice B ls.length d] 27)).heap.size := by simp
      generalize (w.alloc (.cells #[.slice A ns.length c, .slice B ls.length d] 27)) = w0 at *
      (try rw [hsz1])
      refine (IsWhole_s _ _ _ _ ns ls _ (h.ext hx)).mono ?_
      rintro e w1 ⟨rfl, hb⟩
      have k0 := hb.lit k0
      have k1 := hb.lit k1
      have hx := hx.trans hb
      clear hb
      rw [hw]
      go_wp2_with fail
      refine (FacesOf_s _ _ _ _ ns ls _ (h.ext hx)).mono ?_
      rintro e w2 ⟨v, rfl, hF, hb⟩
      have k0 := hb.lit k0
      have k1 := hb.lit k1
      have hx := hx.trans hb
      clear hb
      obtain ⟨A1, c1, rfl, -⟩ := hF.shape
      clear hF
      go_wp2_with fail
      refine (l13List_c X xc (vFaces ns ls).length xs _ (by omega) hxl (hX.ext hx)).mono ?_
      rw [HL2.out]
      rintro e w3 ⟨rfl, rfl⟩
      rw [hr']
      go_wp2
      go_ret
      exact ⟨ret_i (by rw [HV.out]), hx⟩
  · have hw' := eq_false_of_ne_true hw
    have hok : vColorsOk ns ls xs = false := by rw [HCO.out, hw']; rfl
    rw [hok, if_neg (by simp)] at HV
    go_enter Tryz.func41, Tryz.ntmps41
    go_wp2_with fail
    have k0 : (w.alloc (.cells #[.slice A ns.length c, .slice B ls.length d] 27)).cell? ⟨w.heap.size, 0, none⟩ = some (.slice A ns.length c) := by go_simp
    have k1 : (w.alloc (.cells #[.slice A ns.length c, .slice B ls.length d] 27)).cell? ⟨w.heap.size, 1, none⟩ = some (.slice B ls.length d) := by go_simp
    have hx : Ext w (w.alloc (.cells #[.slice A ns.length c, .slice B ls.length d] 27)) := (by repeat first | exact Ext.refl _ | assumption | refine Ext.drew ?_ | refine Ext.alloc ?_ _ | refine Ext.setCell ?_ (by simp) | refine Ext.setCell ?_ (by simp; omega) | refine Ext.trans ?_ (by assumption))
    have hsz1 : w.heap.size + 1 = (w.alloc (.cells #[.slice A ns.length c, .slice B ls.length d] 27)).heap.size := by simp
    generalize (w.alloc (.cells #[.slice A ns.length c, .slice B ls.length d] 27)) = w0 at *
    (try rw [hsz1])
    refine (IsWhole_s _ _ _ _ ns ls _ (h.ext hx)).mono ?_
    rintro e w1 ⟨rfl, hb⟩
    have k0 := hb.lit k0
    have k1 := hb.lit k1
    have hx := hx.trans hb
    clear hb
    rw [hw']
    go_wp2
    go_ret
    exact ⟨ret_i (by rw [HV.out]), hx⟩

def vAreProper (ns ls : List P2) (xs : List Int) : Bool := vColorsOk ns ls xs && decide (vClashOf ns ls xs < 0)
set_option maxRecDepth 100000 in
set_option maxHeartbeats 2000000 in
theorem AreProper_i (A B : Option Addr) (c d : Nat) (ns ls : List P2) (X : Option Addr) (xc : Nat) (xs : List Int) (w : World) (h : Wn w A c B d ns ls) (hX : In w w.heap.size X xs) (hxl : xs.length ≤ 2000000) :
    Calls Tryz.prog 44 #[.agg #[.slice A ns.length c, .slice B ls.length d], .slice X xs.length xc] w fun e w' => e = .returned (.bool (vAreProper ns ls xs)) ∧ Ext w w' := by
  have HV : Hid (vAreProper ns ls xs = (vColorsOk ns ls xs && decide (vClashOf ns ls xs < 0))) := Lib.hid rfl
  by_cases hok : vColorsOk ns ls xs = true
  · skip
    go_enter Tryz.func44, Tryz.ntmps44
    go_wp2_with fail
    have k0 : (w.alloc (.cells #[.slice A ns.length c, .slice B ls.length d] 27)).cell? ⟨w.heap.size, 0, none⟩ = some (.slice A ns.length c) := by go_simp
    have k1 : (w.alloc (.cells #[.slice A ns.length c, .slice B ls.length d] 27)).cell? ⟨w.heap.size, 1, none⟩ = some (.slice B ls.length d) := by go_simp
    have hx : Ext w (w.alloc (.cells #[.slice A ns.length c, .slice B ls.length d] 27)) := (by repeat first | exact Ext.refl _ | assumption | refine Ext.drew ?_ | refine Ext.alloc ?_ _ | refine Ext.setCell ?_ (by simp) | refine Ext.setCell ?_ (by simp; omega) | refine Ext.trans ?_ (by assumption))
    have hsz1 : w.heap.size + 1 = (w.alloc (.cells #[.slice A ns.length c, .slice B ls.length d] 27)).heap.size := by simp
    generalize (w.alloc (.cells #[.slice A ns.length c, .slice B ls.length d] 27)) = w0 at *
    (try rw [hsz1])
    refine (colorsOk_i _ _ _ _ ns ls X xc xs _ (h.ext hx) (hX.ext hx) hxl).mono ?_
    rintro e w1 ⟨rfl, hb⟩
    have k0 := hb.lit k0
    have k1 := hb.lit k1
    have hx := hx.trans hb
    clear hb
    rw [hok]
    go_wp2_with fail
    refine (ClashOf_i _ _ _ _ ns ls X xc xs _ (h.ext hx) (hX.ext hx) hxl).mono ?_
    rintro e w2 ⟨rfl, hb⟩
    generalize vClashOf ns ls xs = r at *
    go_wp2
    go_ret
    exact ⟨ret_b (by rw [HV.out, hok]; rfl), hx.trans hb⟩
  · have hok' := eq_false_of_ne_true hok
    go_enter Tryz.func44, Tryz.ntmps44
    go_wp2_with fail
    have k0 : (w.alloc (.cells #[.slice A ns.length c, .slice B ls.length d] 27)).cell? ⟨w.heap.size, 0, none⟩ = some (.slice A ns.length c) := by go_simp
    have k1 : (w.alloc (.cells #[.slice A ns.length c, .slice B ls.length d] 27)).cell? ⟨w.heap.size, 1, none⟩ = some (.slice B ls.length d) := by go_simp
    have hx : Ext w (w.alloc (.cells #[.slice A ns.length c, .slice B ls.length d] 27)) := (by repeat first | exact Ext.refl _ | assumption | refine Ext.drew ?_ | refine Ext.alloc ?_ _ | refine Ext.setCell ?_ (by simp) | refine Ext.setCell ?_ (by simp; omega) | refine Ext.trans ?_ (by assumption))
    have hsz1 : w.heap.size + 1 = (w.alloc (.cells #[.slice A ns.length c, .slice B ls.length d] 27)).heap.size := by simp
    generalize (w.alloc (.cells #[.slice A ns.length c, .slice B ls.length d] 27)) = w0 at *
    (try rw [hsz1])
    refine (colorsOk_i _ _ _ _ ns ls X xc xs _ (h.ext hx) (hX.ext hx) hxl).mono ?_
    rintro e w1 ⟨rfl, hb⟩
    have k0 := hb.lit k0
    have k1 := hb.lit k1
    have hx := hx.trans hb
    clear hb
    rw [hok']
    go_wp2
    go_ret
    exact ⟨ret_b (by rw [HV.out, hok']; rfl), hx⟩
set_option maxRecDepth 100000 in
set_option maxHeartbeats 2000000 in
theorem AreProper_s (A B : Option Addr) (c d : Nat) (ns ls : List P2) (X : Option Addr) (xc : Nat) (xs : List Int) (w : World) (h : Wn w A c B d ns ls) (hX : In w w.heap.size X xs) (hxl : xs.length ≤ 2000000) :
    Calls Tryz.prog 15 #[.agg #[.slice A ns.length c, .slice B ls.length d], .slice X xs.length xc] w fun e w' => e = .returned (.bool (vAreProper ns ls xs)) ∧ Ext w w' := by
  have HV : Hid (vAreProper ns ls xs = (vColorsOk ns ls xs && decide (vClashOf ns ls xs < 0))) := Lib.hid rfl
  have hFl0 := vFaces_len ns ls
  have HL2 : Hid ((aw xs 0 5 && decide (xs.length = (vFaces ns ls).length)) = (decide (xs.length = (vFaces ns ls).length) && aw xs 0 5)) := Lib.hid (Bool.and_comm _ _)
  have HCO : Hid (vColorsOk ns ls xs = (whole ns ls && (decide (xs.length = (vFaces ns ls).length) && aw xs 0 5))) := Lib.hid (by unfold vColorsOk; rw [Bool.and_assoc])
  by_cases hw : whole ns ls = true
  · by_cases hr : (decide (xs.length = (vFaces ns ls).length) && aw xs 0 5) = true
    · have HOK : Hid (vColorsOk ns ls xs = true) := Lib.hid (by rw [HCO.out, hw, hr]; rfl)
      have HR := Lib.hid hr
      clear hr
      go_enter Tryz.func15, Tryz.ntmps15
      go_wp2_with fail
      have k0 : (w.alloc (.cells #[.slice A ns.length c, .slice B ls.length d] 27)).cell? ⟨w.heap.size, 0, none⟩ = some (.slice A ns.length c) := by go_simp
      have k1 : (w.alloc (.cells #[.slice A ns.length c, .slice B ls.length d] 27)).cell? ⟨w.heap.size, 1, none⟩ = some (.slice B ls.length d) := by go_simp
      have hx : Ext w (w.alloc (.cells #[.slice A ns.length c, .slice B ls.length d] 27)) := (by repeat first | exact Ext.refl _ | assumption | refine Ext.drew ?_ | refine Ext.alloc ?_ _ | refine Ext.setCell ?_ (by simp) | refine Ext.setCell ?_ (by simp; omega) | refine Ext.trans ?_ (by assumption))
      have hsz1 : w.heap.size + 1 = (w.alloc (.cells #[.slice A ns.length c, .slice B ls.length d] 27)).heap.size := by simp
      generalize (w.alloc (.cells #[.slice A ns.length c, .slice B ls.length d] 27)) = w0 at *
      (try rw [hsz1])
      refine (IsWhole_s _ _ _ _ ns ls _ (h.ext hx)).mono ?_
      rintro e w1 ⟨rfl, hb⟩
      have k0 := hb.lit k0
      have k1 := hb.lit k1
      have hx := hx.trans hb
      clear hb
      rw [hw]
      go_wp2_with fail
      refine (FacesOf_s _ _ _ _ ns ls _ (h.ext hx)).mono ?_
      rintro e w2 ⟨v, rfl, hF, hb⟩
      have k0 := hb.lit k0
      have k1 := hb.lit k1
      have hx := hx.trans hb
      clear hb
      obtain ⟨A1, c1, rfl, -⟩ := hF.shape
      clear hF
      go_wp2_with fail
      refine (l13List_c X xc (vFaces ns ls).length xs _ (by omega) hxl (hX.ext hx)).mono ?_
      rw [HL2.out]
      rintro e w3 ⟨rfl, rfl⟩
      rw [HR.out]
      go_wp2_with fail
      refine (ClashOf_s _ _ _ _ ns ls X xc xs _ (h.ext hx) (hX.ext hx) hxl).mono ?_
      rintro e w4 ⟨rfl, hb⟩
      generalize vClashOf ns ls xs = r at *
      go_wp2
      go_ret
      exact ⟨ret_b (by rw [HV.out, HOK.out]; rfl), hx.trans hb⟩
    · have hr' := eq_false_of_ne_true hr
      have HOK : Hid (vColorsOk ns ls xs = false) := Lib.hid (by rw [HCO.out, hw, hr']; rfl)
      go_enter Tryz.func15, Tryz.ntmps15
      go_wp2_with fail
      have k0 : (w.alloc (.cells #[.slice A ns.length c, .slice B ls.length d] 27)).cell? ⟨w.heap.size, 0, none⟩ = some (.slice A ns.length c) := by go_simp
      have k1 : (w.alloc (.cells #[.slice A ns.length c, .slice B ls.length d] 27)).cell? ⟨w.heap.size, 1, none⟩ = some (.slice B ls.length d) := by go_simp
      have hx : Ext w (w.alloc (.cells #[.slice A ns.length c, .slice B ls.length d] 27)) := (by repeat first | exact Ext.refl _ | assumption | refine Ext.drew ?_ | refine Ext.alloc ?_ _ | refine Ext.setCell ?_ (by simp) | refine Ext.setCell ?_ (by simp; omega) | refine Ext.trans ?_ (by assumption))
      have hsz1 : w.heap.size + 1 = (w.alloc (.cells #[.slice A ns.length c, .slice B ls.length d] 27)).heap.size := by simp
      generalize (w.alloc (.cells #[.slice A ns.length c, .slice B ls.length d] 27)) = w0 at *
      (try rw [hsz1])
      refine (IsWhole_s _ _ _ _ ns ls _ (h.ext hx)).mono ?_
      rintro e w1 ⟨rfl, hb⟩
      have k0 := hb.lit k0
      have k1 := hb.lit k1
      have hx := hx.trans hb
      clear hb
      rw [hw]
      go_wp2_with fail
      refine (FacesOf_s _ _ _ _ ns ls _ (h.ext hx)).mono ?_
      rintro e w2 ⟨v, rfl, hF, hb⟩
      have k0 := hb.lit k0
      have k1 := hb.lit k1
      have hx := hx.trans hb
      clear hb
      obtain ⟨A1, c1, rfl, -⟩ := hF.shape
      clear hF
      go_wp2_with fail
      refine (l13List_c X xc (vFaces ns ls).length xs _ (by omega) hxl (hX.ext hx)).mono ?_
      rw [HL2.out]
      rintro e w3 ⟨rfl, rfl⟩
      rw [hr']
      go_wp2
      go_ret
      exact ⟨ret_b (by rw [HV.out, HOK.out]; rfl), hx⟩
  · have hw' := eq_false_of_ne_true hw
    have HOK : Hid (vColorsOk ns ls xs = false) := Lib.hid (by rw [HCO.out, hw']; rfl)
    go_enter Tryz.func15, Tryz.ntmps15
    go_wp2_with fail
    have k0 : (w.alloc (.cells #[.slice A ns.length c, .slice B ls.length d] 27)).cell? ⟨w.heap.size, 0, none⟩ = some (.slice A ns.length c) := by go_simp
    have k1 : (w.alloc (.cells #[.slice A ns.length c, .slice B ls.length d] 27)).cell? ⟨w.heap.size, 1, none⟩ = some (.slice B ls.length d) := by go_simp
    have hx : Ext w (w.alloc (.cells #[.slice A ns.length c, .slice B ls.length d] 27)) := (by repeat first | exact Ext.refl _ | assumption | refine Ext.drew ?_ | refine Ext.alloc ?_ _ | refine Ext.setCell ?_ (by simp) | refine Ext.setCell ?_ (by simp; omega) | refine Ext.trans ?_ (by assumption))
    have hsz1 : w.heap.size + 1 = (w.alloc (.cells #[.slice A ns.length c, .slice B ls.length d] 27)).heap.size := by simp
    generalize (w.alloc (.cells #[.slice A ns.length c, .slice B ls.length d] 27)) = w0 at *
    (try rw [hsz1])
    refine (IsWhole_s _ _ _ _ ns ls _ (h.ext hx)).mono ?_
    rintro e w1 ⟨rfl, hb⟩
    have k0 := hb.lit k0
    have k1 := hb.lit k1
    have hx := hx.trans hb
    clear hb
    rw [hw']
    go_wp2
    go_ret
    exact ⟨ret_b (by rw [HV.out, HOK.out]; rfl), hx⟩
end Go.Proofs.YtdhmjhoaegdfjaaGreat
