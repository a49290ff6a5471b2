import Derived.Test.YtebfddcmaignaaaD12
namespace Go.Proofs.Ytebfddcmaignaaa
open Go.RowKit Go.Sort Go.BigFrame

theorem sides_nn {ns ls : List P2} (hw : whole ns ls = true) {d : Nat} (hd : d < 2 * ls.length) : 0 ≤ gi (vSides ns ls) d := by rw [vSides_gi hw hd]; omega
theorem vIsLoose_yes {ns ls : List P2} (hw : whole ns ls = true) {j : Nat} (hj : j < ls.length) : vIsLoose ns ls j = decide (gi (vSides ns ls) (2 * (j : Int)) = gi (vSides ns ls) (2 * (j : Int) + 1)) := by
  have hk : wi (j : Int) 0 (ls.length - 1) = true := wi_iff.2 (by omega)
  have h0 := sides_nn hw (d := 2 * j) (by omega)
  have e : ((2 * j : Nat) : Int) = 2 * (j : Int) := by omega
  rw [e] at h0
  unfold vIsLoose vSidesOf
  rw [if_pos ⟨hw, hk⟩]
  simp [h0]
theorem vIsLoose_no {ns ls : List P2} (hw : whole ns ls = false) (k : Int) : vIsLoose ns ls k = false := by
  unfold vIsLoose vSidesOf
  rw [hw, if_neg (by simp)]
  simp
def vLooseLeads (ns ls : List P2) : List Int := flt (fun i => vIsLoose ns ls (i : Nat)) ls.length
theorem vLooseLeads_len (ns ls : List P2) : (vLooseLeads ns ls).length ≤ 1000 := by
  unfold vLooseLeads
  by_cases h : whole ns ls = true
  · have := (whole_ok h).1.le
    have := flt_len (fun i => vIsLoose ns ls (i : Nat)) ls.length
    omega
  · rw [flt_none (fun i _ => vIsLoose_no (eq_false_of_ne_true h) _)]
    simp

set_option maxRecDepth 100000 in
set_option maxHeartbeats 2000000 in
theorem LooseLeads_i (A B : Option Addr) (c d : Nat) (ns ls : List P2) (w : World) (h : Wn w A c B d ns ls) :
    Calls Try.prog 65 #[.agg #[.slice A ns.length c, .slice B ls.length d]] w fun e w' => ∃ v, e = .returned v ∧ OwI w' w.heap.size v (vLooseLeads ns ls) ∧ Ext w w' := by
  have hnl := h.hm
  have HV : Hid (vLooseLeads ns ls = flt (fun i => vIsLoose ns ls (i : Nat)) ls.length) := Lib.hid rfl
  have HP : Hid (∀ j : Nat, (fun i : Nat => vIsLoose ns ls (i : Nat)) j = vIsLoose ns ls j) := Lib.hid (fun _ => rfl)
  generalize (fun i : Nat => vIsLoose ns ls (i : Nat)) = P at *
  go_enter Try.func65, Try.ntmps65
  go_wp2_with fail
  have k0 : (w.alloc (.cells #[.slice A ns.length c, .slice B ls.length d] 32)).cell? ⟨w.heap.size, 0, none⟩ = some (.slice A ns.length c) := by go_simp
  have k1 : (w.alloc (.cells #[.slice A ns.length c, .slice B ls.length d] 32)).cell? ⟨w.heap.size, 1, none⟩ = some (.slice B ls.length d) := by go_simp
  have hx : Ext w (w.alloc (.cells #[.slice A ns.length c, .slice B ls.length d] 32)) := (by repeat first | exact Ext.refl _ | assumption | refine Ext.drew ?_ | refine Ext.alloc ?_ _ | refine Ext.setCell ?_ (by simp) | refine Ext.setCell ?_ (by simp; omega) | refine Ext.trans ?_ (by assumption))
  have hsz1 : w.heap.size + 1 = (w.alloc (.cells #[.slice A ns.length c, .slice B ls.length d] 32)).heap.size := by simp
  generalize (w.alloc (.cells #[.slice A ns.length c, .slice B ls.length d] 32)) = w1 at *
  (try rw [hsz1])
  go_loopw [3, 4, 8] (fun v _ i wr => ∃ j : Nat, j ≤ ls.length ∧ i = .int .i64 j ∧ OzI wr w.heap.size w1.heap.size v (flt P j) ∧ Ext w1 wr) (fun _ _ i _ => ls.length - (intOf i).toNat)
  case atStart => exact ⟨0, by omega, rfl, .of (OwI.nil _ _), Ext.refl _⟩
  case round =>
    obtain ⟨j, hj, rfl, hv, hxr⟩ := hrel
    obtain ⟨wo, rfl⟩ : ∃ x : World, x = wr := ⟨_, rfl⟩
    have hx0 := hx.trans hxr
    have k0 := hxr.lit k0
    have k1 := hxr.lit k1
    by_cases hlt : j < ls.length
    · go_wp2_with fail
      refine (IsLoose_i A B c d ns ls _ _ (h.ext hx0)).mono ?_
      rintro e w3 ⟨rfl, hb⟩
      have hxr := hxr.trans hb
      have hv := hv.ext hb
      clear hb
      by_cases hs : vIsLoose ns ls j = true
      · have Hs := Lib.hid (flt_yes (p := P) (j := j) (by rw [HP.out]; exact hs))
        rw [hs]
        have hsz := hxr.size
        have hln := flt_len P j
        go_wp2_with (at_builtin; refine az_int _ _ rfl rfl rfl (hv.ext ((Ext.refl w3).alloc _)) (g := w3.heap.size) (y := j) (by first | rfl | simp) (by go_simp) (by omega) (by simp; omega) ?_)
        intro v' w' h1 h3
        go_wp2
        go_roundw
        case rel => exact ⟨j + 1, by omega, by go_num, by rw [Hs.out]; exact h1, h3 _ (hxr.trans (by repeat first | exact Ext.refl _ | assumption | refine Ext.drew ?_ | refine Ext.alloc ?_ _ | refine Ext.setCell ?_ (by simp) | refine Ext.setCell ?_ (by simp; omega) | refine Ext.trans ?_ (by assumption))) (Nat.le_refl _)⟩
        case measure => first | (simp [intOf]; done) | (simp [intOf]; omega)
      · have hs' := eq_false_of_ne_true hs
        have Hs := Lib.hid (flt_no (p := P) (j := j) (by rw [HP.out]; exact hs'))
        rw [hs']
        go_wp2
        go_roundw
        case rel => exact ⟨j + 1, by omega, by go_num, by rw [Hs.out]; exact hv, hxr⟩
        case measure => first | (simp [intOf]; done) | (simp [intOf]; omega)
    · obtain rfl : j = ls.length := by omega
      go_wp2
      go_ret
      exact ⟨_, rfl, by rw [HV.out]; exact hv.own (by omega), hx0⟩

set_option maxRecDepth 100000 in
set_option maxHeartbeats 2000000 in
theorem LooseLeads_s (A B : Option Addr) (c d : Nat) (ns ls : List P2) (w : World) (h : Wn w A c B d ns ls) :
    Calls Try.prog 64 #[.agg #[.slice A ns.length c, .slice B ls.length d]] w fun e w' => ∃ v, e = .returned v ∧ OwI w' w.heap.size v (vLooseLeads ns ls) ∧ Ext w w' := by
  have HV : Hid (vLooseLeads ns ls = flt (fun i => vIsLoose ns ls (i : Nat)) ls.length) := Lib.hid rfl
  by_cases hw : whole ns ls = true
  · obtain ⟨hW, hm0⟩ := whole_ok hw
    have hm := hW.le
    have HSL := Lib.hid (vSides_len hw)
    have HP : Hid (∀ j : Nat, j < ls.length → (fun i : Nat => vIsLoose ns ls (i : Nat)) j = decide (gi (vSides ns ls) (2 * (j : Int)) = gi (vSides ns ls) (2 * (j : Int) + 1))) := Lib.hid (fun _ hj => vIsLoose_yes hw hj)
    clear hW
    have HWW := Lib.hid hw
    generalize (fun i : Nat => vIsLoose ns ls (i : Nat)) = P at *
    go_enter Try.func64, Try.ntmps64
    go_wp2_with fail
    have hz0 : OzI ((w.alloc (.cells #[.slice A ns.length c, .slice B ls.length d] 32)).alloc (.cells #[] 3)) w.heap.size w.heap.size (.slice (some ⟨w.heap.size + 1, 0, none⟩) 0 0) [] := OzI.zero _ (by omega) (by simp)
    refine (IsWhole_s _ _ _ _ ns ls _ (h.ext (by repeat first | exact Ext.refl _ | assumption | refine Ext.drew ?_ | refine Ext.alloc ?_ _ | refine Ext.setCell ?_ (by simp) | refine Ext.setCell ?_ (by simp; omega) | refine Ext.trans ?_ (by assumption)))).mono ?_
    rintro e w1 ⟨rfl, hb⟩
    have k0 := hb.lit (b := w.heap.size) (o := 0) (v := .slice A ns.length c) (by go_simp)
    have k1 := hb.lit (b := w.heap.size) (o := 1) (v := .slice B ls.length d) (by go_simp)
    have hx : Ext w w1 := (by repeat first | exact Ext.refl _ | assumption | refine Ext.drew ?_ | refine Ext.alloc ?_ _ | refine Ext.setCell ?_ (by simp) | refine Ext.setCell ?_ (by simp; omega) | refine Ext.trans ?_ (by assumption))
    have hz0 := hz0.ext hb
    clear hb
    rw [hw]
    go_wp2_with fail
    refine (l09Sides_s _ _ _ _ ns ls _ (h.ext hx) HWW.out).mono ?_
    rintro e w2 ⟨v, rfl, hS, hb⟩
    obtain ⟨gS, cS, rfl, -, -, -, -, -⟩ := hS.gi_ (j := 0) (by rw [HSL.out]; omega)
    rw [HSL.out] at hS
    rw [HSL.out]
    have hz1 := (hz0.ext hb).up (B' := w2.heap.size) rfl ⟨_, rfl⟩ (Nat.le_refl _)
    have k0 := hb.lit k0
    have k1 := hb.lit k1
    have hx := hx.trans hb
    clear hb
    clear hz0
    have hszw := hx.size
    generalize hSS : vSides ns ls = S at *
    clear hSS
    go_wp2_with fail
    go_loopw [3, 5] (fun v i wr => ∃ j : Nat, j ≤ ls.length ∧ i = .int .i64 j ∧ OzI wr w.heap.size w2.heap.size v (flt P j) ∧ Ext w2 wr) (fun _ i _ => ls.length - (intOf i).toNat)
    case atStart => exact ⟨0, by omega, rfl, hz1, Ext.refl _⟩
    case round =>
      clear hz1
      obtain ⟨j, hj, rfl, hv, hxr⟩ := hrel
      obtain ⟨wo, rfl⟩ : ∃ x : World, x = wr := ⟨_, rfl⟩
      have hx0 := hx.trans hxr
      have k0 := hxr.lit k0
      have k1 := hxr.lit k1
      by_cases hlt : j < ls.length
      · skip
        have c1 := ((hS.ext hxr).cel (j := 2 * j) (by rw [HSL.out]; omega)).1
        have c2 := ((hS.ext hxr).cel (j := 2 * j + 1) (by rw [HSL.out]; omega)).1
        have y1 : ((2 * j : Nat) : Int) = 2 * (j : Int) := by omega
        have y2 : ((2 * j + 1 : Nat) : Int) = 2 * (j : Int) + 1 := by omega
        rw [y1] at c1
        rw [y2] at c2
        have z1 : (2 * (j : Int)).toNat = 2 * j := by omega
        have z2 : (2 * (j : Int) + 1).toNat = 2 * j + 1 := by omega
        have z3 : 2 * (j : Int) < 2 * (ls.length : Int) := by omega
        have z4 : 2 * (j : Int) + 1 < 2 * (ls.length : Int) := by omega
        clear y1 y2
        have HPj := Lib.hid (HP.out j hlt)
        generalize gi S (2 * (j : Int)) = x at *
        generalize gi S (2 * (j : Int) + 1) = y at *
        go_upto_region 8 with fail
        go_cut [31] (fun s wx => s = .bool (x == y) ∧ Ext wo wx)
        case first =>
          have d0 := cell_regrown c1
          have d1 := cell_regrown c2
          refine rx_open [(true, 0, some 20, 16), (true, 0, some 21, 32), (true, 2, some 22, 2097152), (true, 5, some 23, 5242880), (true, 8, some 24, 8388608), (true, 0, some 25, 16), (true, 0, some 26, 32), (true, 64, some 27, 67108864), (true, 128, some 28, 134217728), (true, 288, some 29, 301989888), (true, 512, some 30, 536870912), (true, 1040, some 31, 1090519040)] 0 12 mixd rfl (by kernel_rfl) (by kernel_rfl) (by kernel_rfl) ?_
          refine rx_run (run := [0, 1, 2, 3, 4, 5, 6, 7, 8, 9, 10, 11]) (k := 0) (m' := 4095) rfl (by kernel_rfl) (by kernel_rfl) (by kernel_rfl) (fm_cons rfl <| fm_cons rfl <| fm_cons rfl <| fm_cons rfl <| fm_cons rfl <| fm_cons rfl <| fm_cons rfl <| fm_cons rfl <| fm_cons rfl <| fm_cons rfl <| fm_cons rfl <| fm_cons rfl <| List.filterMap_nil) (by repeat first | exact Ext.refl _ | assumption | refine Ext.drew ?_ | refine Ext.alloc ?_ _ | refine Ext.setCell ?_ (by simp) | refine Ext.setCell ?_ (by simp; omega) | refine Ext.trans ?_ (by assumption)) ?_
          repeat (go_big_quiet_step ((fail)))
          refine wpQuiet_nil ?_
          refine rx_end (by kernel_rfl) ?_
          all_goals (go_wp2; go_meet; exact ⟨rfl, (by repeat first | exact Ext.refl _ | assumption | refine Ext.drew ?_ | refine Ext.alloc ?_ _ | refine Ext.setCell ?_ (by simp) | refine Ext.setCell ?_ (by simp; omega) | refine Ext.trans ?_ (by assumption))⟩)
        case rest =>
          obtain ⟨rfl, hb⟩ := hcut
          obtain ⟨w3, rfl⟩ : ∃ x : World, x = wc := ⟨_, rfl⟩
          have hxr := hxr.trans hb
          have hv := hv.ext hb
          clear hb
          by_cases hs : x = y
          · have Hs := Lib.hid (flt_yes (p := P) (j := j) (by rw [HPj.out]; simpa using hs))
            have hq : (x == y) = true := by simpa using hs
            rw [hq]
            clear hs
            have hsz := hxr.size
            have hln := flt_len P j
            go_wp2_with (at_builtin; refine az_int _ _ rfl rfl rfl (hv.ext ((Ext.refl w3).alloc _)) (g := w3.heap.size) (y := j) (by first | rfl | simp) (by go_simp) (by omega) (by simp; omega) ?_)
            intro v' w' h1 h3
            go_wp2
            go_roundw
            case rel => exact ⟨j + 1, by omega, by go_num, by rw [Hs.out]; exact h1, h3 _ (hxr.trans (by repeat first | exact Ext.refl _ | assumption | refine Ext.drew ?_ | refine Ext.alloc ?_ _ | refine Ext.setCell ?_ (by simp) | refine Ext.setCell ?_ (by simp; omega) | refine Ext.trans ?_ (by assumption))) (Nat.le_refl _)⟩
            case measure => first | (simp [intOf]; done) | (simp [intOf]; omega)
          · have Hs := Lib.hid (flt_no (p := P) (j := j) (by rw [HPj.out]; simpa using hs))
            have hq : (x == y) = false := by simpa using hs
            rw [hq]
            clear hs
            go_wp2
            go_roundw
            case rel => exact ⟨j + 1, by omega, by go_num, by rw [Hs.out]; exact hv, hxr⟩
            case measure => first | (simp [intOf]; done) | (simp [intOf]; omega)
      · obtain rfl : j = ls.length := by omega
        go_wp2
        go_ret
        exact ⟨_, rfl, by rw [HV.out]; exact hv.own (by omega), hx0⟩
  · have hw' := eq_false_of_ne_true hw
    have HE : Hid (vLooseLeads ns ls = []) := Lib.hid (by rw [HV.out]; exact flt_none (fun i _ => vIsLoose_no hw' _))
    go_enter Try.func64, Try.ntmps64
    go_wp2_with fail
    have hz0 : OzI ((w.alloc (.cells #[.slice A ns.length c, .slice B ls.length d] 32)).alloc (.cells #[] 3)) w.heap.size w.heap.size (.slice (some ⟨w.heap.size + 1, 0, none⟩) 0 0) [] := OzI.zero _ (by omega) (by simp)
    refine (IsWhole_s _ _ _ _ ns ls _ (h.ext (by repeat first | exact Ext.refl _ | assumption | refine Ext.drew ?_ | refine Ext.alloc ?_ _ | refine Ext.setCell ?_ (by simp) | refine Ext.setCell ?_ (by simp; omega) | refine Ext.trans ?_ (by assumption)))).mono ?_
    rintro e w1 ⟨rfl, hb⟩
    have k0 := hb.lit (b := w.heap.size) (o := 0) (v := .slice A ns.length c) (by go_simp)
    have k1 := hb.lit (b := w.heap.size) (o := 1) (v := .slice B ls.length d) (by go_simp)
    have hx : Ext w w1 := (by repeat first | exact Ext.refl _ | assumption | refine Ext.drew ?_ | refine Ext.alloc ?_ _ | refine Ext.setCell ?_ (by simp) | refine Ext.setCell ?_ (by simp; omega) | refine Ext.trans ?_ (by assumption))
    have hz0 := hz0.ext hb
    clear hb
    rw [hw']
    go_wp2
    go_ret
    exact ⟨_, rfl, by rw [HE.out]; exact hz0.own (Nat.le_refl _), hx⟩

def vIsTight (ns ls : List P2) : Bool := whole ns ls && decide ((vLooseLeads ns ls).length = 0)
set_option maxRecDepth 100000 in
set_option maxHeartbeats 2000000 in
theorem IsTight_i (A B : Option Addr) (c d : Nat) (ns ls : List P2) (w : World) (h : Wn w A c B d ns ls) :
    Calls Try.prog 49 #[.agg #[.slice A ns.length c, .slice B ls.length d]] w fun e w' => e = .returned (.bool (vIsTight ns ls)) ∧ Ext w w' := by
  have HV : Hid (vIsTight ns ls = (whole ns ls && decide ((vLooseLeads ns ls).length = 0))) := Lib.hid rfl
  by_cases hw : whole ns ls = true
  · skip
    go_enter Try.func49, Try.ntmps49
    go_wp2_with fail
    have k0 : (w.alloc (.cells #[.slice A ns.length c, .slice B ls.length d] 32)).cell? ⟨w.heap.size, 0, none⟩ = some (.slice A ns.length c) := by go_simp
    have k1 : (w.alloc (.cells #[.slice A ns.length c, .slice B ls.length d] 32)).cell? ⟨w.heap.size, 1, none⟩ = some (.slice B ls.length d) := by go_simp
    have hx : Ext w (w.alloc (.cells #[.slice A ns.length c, .slice B ls.length d] 32)) := (by repeat first | exact Ext.refl _ | assumption | refine Ext.drew ?_ | refine Ext.alloc ?_ _ | refine Ext.setCell ?_ (by simp) | refine Ext.setCell ?_ (by simp; omega) | refine Ext.trans ?_ (by assumption))
    have hsz1 : w.heap.size + 1 = (w.alloc (.cells #[.slice A ns.length c, .slice B ls.length d] 32)).heap.size := by simp
    generalize (w.alloc (.cells #[.slice A ns.length c, .slice B ls.length d] 32)) = w0 at *
    (try rw [hsz1])
    refine (IsWhole_i _ _ _ _ ns ls _ (h.ext hx)).mono ?_
    rintro e w1 ⟨rfl, hb⟩
    have k0 := hb.lit k0
    have k1 := hb.lit k1
    have hx := hx.trans hb
    clear hb
    rw [hw]
    go_wp2_with fail
    refine (LooseLeads_i _ _ _ _ ns ls _ (h.ext hx)).mono ?_
    rintro e w2 ⟨v, rfl, hv, hb⟩
    obtain ⟨A1, c1, rfl, -, -, -⟩ := hv.shape
    have hl := vLooseLeads_len ns ls
    generalize (vLooseLeads ns ls).length = n at *
    go_wp2
    go_ret
    exact ⟨ret_b (by rw [HV.out, hw, Bool.true_and, Bool.eq_iff_iff, beq_iff_eq, decide_eq_true_eq]; omega), hx.trans hb⟩
  · have hw' := eq_false_of_ne_true hw
    go_enter Try.func49, Try.ntmps49
    go_wp2_with fail
    have k0 : (w.alloc (.cells #[.slice A ns.length c, .slice B ls.length d] 32)).cell? ⟨w.heap.size, 0, none⟩ = some (.slice A ns.length c) := by go_simp
    have k1 : (w.alloc (.cells #[.slice A ns.length c, .slice B ls.length d] 32)).cell? ⟨w.heap.size, 1, none⟩ = some (.slice B ls.length d) := by go_simp
    have hx : Ext w (w.alloc (.cells #[.slice A ns.length c, .slice B ls.length d] 32)) := (by repeat first | exact Ext.refl _ | assumption | refine Ext.drew ?_ | refine Ext.alloc ?_ _ | refine Ext.setCell ?_ (by simp) | refine Ext.setCell ?_ (by simp; omega) | refine Ext.trans ?_ (by assumption))
    have hsz1 : w.heap.size + 1 = (w.alloc (.cells #[.slice A ns.length c, .slice B ls.length d] 32)).heap.size := by simp
    generalize (w.alloc (.cells #[.slice A ns.length c, .slice B ls.length d] 32)) = w0 at *
    (try rw [hsz1])
    refine (IsWhole_i _ _ _ _ ns ls _ (h.ext hx)).mono ?_
    rintro e w1 ⟨rfl, hb⟩
    have k0 := hb.lit k0
    have k1 := hb.lit k1
    have hx := hx.trans hb
    clear hb
    rw [hw']
    go_wp2
    go_ret
    exact ⟨ret_b (by rw [HV.out, hw']; rfl), hx⟩
set_option maxRecDepth 100000 in
set_option maxHeartbeats 2000000 in
theorem IsTight_s (A B : Option Addr) (c d : Nat) (ns ls : List P2) (w : World) (h : Wn w A c B d ns ls) :
    Calls Try.prog 48 #[.agg #[.slice A ns.length c, .slice B ls.length d]] w fun e w' => e = .returned (.bool (vIsTight ns ls)) ∧ Ext w w' := by
  have HV : Hid (vIsTight ns ls = (whole ns ls && decide ((vLooseLeads ns ls).length = 0))) := Lib.hid rfl
  by_cases hw : whole ns ls = true
  · skip
    go_enter Try.func48, Try.ntmps48
    go_wp2_with fail
    have k0 : (w.alloc (.cells #[.slice A ns.length c, .slice B ls.length d] 32)).cell? ⟨w.heap.size, 0, none⟩ = some (.slice A ns.length c) := by go_simp
    have k1 : (w.alloc (.cells #[.slice A ns.length c, .slice B ls.length d] 32)).cell? ⟨w.heap.size, 1, none⟩ = some (.slice B ls.length d) := by go_simp
    have hx : Ext w (w.alloc (.cells #[.slice A ns.length c, .slice B ls.length d] 32)) := (by repeat first | exact Ext.refl _ | assumption | refine Ext.drew ?_ | refine Ext.alloc ?_ _ | refine Ext.setCell ?_ (by simp) | refine Ext.setCell ?_ (by simp; omega) | refine Ext.trans ?_ (by assumption))
    have hsz1 : w.heap.size + 1 = (w.alloc (.cells #[.slice A ns.length c, .slice B ls.length d] 32)).heap.size := by simp
    generalize (w.alloc (.cells #[.slice A ns.length c, .slice B ls.length d] 32)) = w0 at *
    (try rw [hsz1])
    refine (IsWhole_s _ _ _ _ ns ls _ (h.ext hx)).mono ?_
    rintro e w1 ⟨rfl, hb⟩
    have k0 := hb.lit k0
    have k1 := hb.lit k1
    have hx := hx.trans hb
    clear hb
    rw [hw]
    go_wp2_with fail
    refine (LooseLeads_s _ _ _ _ ns ls _ (h.ext hx)).mono ?_
    rintro e w2 ⟨v, rfl, hv, hb⟩
    obtain ⟨A1, c1, rfl, -, -, -⟩ := hv.shape
    have hl := vLooseLeads_len ns ls
    generalize (vLooseLeads ns ls).length = n at *
    go_wp2
    go_ret
    exact ⟨ret_b (by rw [HV.out, hw, Bool.true_and, Bool.eq_iff_iff, beq_iff_eq, decide_eq_true_eq]; omega), hx.trans hb⟩
  · have hw' := eq_false_of_ne_true hw
    go_enter Try.func48, Try.ntmps48
    go_wp2_with fail
    have k0 : (w.alloc (.cells #[.slice A ns.length c, .slice B ls.length d] 32)).cell? ⟨w.heap.size, 0, none⟩ = some (.slice A ns.length c) := by go_simp
    have k1 : (w.alloc (.cells #[.slice A ns.length c, .slice B ls.length d] 32)).cell? ⟨w.heap.size, 1, none⟩ = some (.slice B ls.length d) := by go_simp
    have hx : Ext w (w.alloc (.cells #[.slice A ns.length c, .slice B ls.length d] 32)) := (by repeat first | exact Ext.refl _ | assumption | refine Ext.drew ?_ | refine Ext.alloc ?_ _ | refine Ext.setCell ?_ (by simp) | refine Ext.setCell ?_ (by simp; omega) | refine Ext.trans ?_ (by assumption))
    have hsz1 : w.heap.size + 1 = (w.alloc (.cells #[.slice A ns.length c, .slice B ls.length d] 32)).heap.size := by simp
    generalize (w.alloc (.cells #[.slice A ns.length c, .slice B ls.length d] 32)) = w0 at *
    (try rw [hsz1])
    refine (IsWhole_s _ _ _ _ ns ls _ (h.ext hx)).mono ?_
    rintro e w1 ⟨rfl, hb⟩
    have k0 := hb.lit k0
    have k1 := hb.lit k1
    have hx := hx.trans hb
    clear hb
    rw [hw']
    go_wp2
    go_ret
    exact ⟨ret_b (by rw [HV.out, hw']; rfl), hx⟩
end Go.Proofs.Ytebfddcmaignaaa
