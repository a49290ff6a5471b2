import Derived.Test.YtpainmnekgnpeaaB7
import Derived.Test.YtpainmnekgnpeaaM4
namespace Go.Proofs.Ytpainmnekgnpeaa
open Go.RowKit Go.Sort Go.BigFrame

def vPartOf (ns ls : List P2) (k : Int) : List Int := if hasN ns ls k = true then partL ns.length ls k.toNat else []
theorem vPartOf_len (ns ls : List P2) (k : Int) : (vPartOf ns ls k).length ≤ 1000 := by
  unfold vPartOf
  split
  · rename_i h
    have := (hasN_ok h).1.hi
    have := partL_len ns.length ls k.toNat
    omega
  · simp

set_option maxRecDepth 100000 in
set_option maxHeartbeats 2000000 in
theorem PartOf_i (A B : Option Addr) (c d : Nat) (ns ls : List P2) (k : Int) (w : World) (h : Wn w A c B d ns ls) :
    Calls Try.prog 34 #[.agg #[.slice A ns.length c, .slice B ls.length d], .int .i64 k] w fun e w' => ∃ v, e = .returned v ∧ OwI w' w.heap.size v (vPartOf ns ls k) ∧ Ext w w' := by
  have HV : Hid (vPartOf ns ls k = if hasN ns ls k = true then partL ns.length ls k.toNat else []) := Lib.hid rfl
  by_cases hw : hasN ns ls k = true
  · rw [if_pos hw] at HV
    obtain ⟨hW, kk, rfl, hk⟩ := hasN_ok hw
    have HW := Lib.hid hW
    clear hW
    go_enter Try.func34, Try.ntmps34
    go_wp2_with fail
    refine (hasNode_c A B c d ns ls _ _ (h.ext (by repeat first | exact Ext.refl _ | assumption | refine Ext.drew ?_ | refine Ext.alloc ?_ _ | refine Ext.setCell ?_ (by simp) | refine Ext.setCell ?_ (by simp; omega) | refine Ext.trans ?_ (by assumption)))).mono ?_
    rintro e w1 ⟨rfl, hb⟩
    have k0 := hb.lit (b := w.heap.size) (o := 0) (v := .slice A ns.length c) (by go_simp)
    have k1 := hb.lit (b := w.heap.size) (o := 1) (v := .slice B ls.length d) (by go_simp)
    have hx : Ext w w1 := (by repeat first | exact Ext.refl _ | assumption | refine Ext.drew ?_ | refine Ext.alloc ?_ _ | refine Ext.setCell ?_ (by simp) | refine Ext.setCell ?_ (by simp; omega) | refine Ext.trans ?_ (by assumption))
    rw [hw]
    clear hb
    go_wp2_with fail
    refine (partOf_c' (h.ext hx) HW.out hk).mono ?_
    rintro e w2 ⟨v, rfl, hv, hb⟩
    go_wp2
    go_ret
    exact ⟨_, rfl, by rw [HV.out]; exact hv.more hx.size, hx.trans hb⟩
  · rw [if_neg hw] at HV
    have hw' := eq_false_of_ne_true hw
    go_enter Try.func34, Try.ntmps34
    go_wp2_with fail
    refine (hasNode_c A B c d ns ls k _ (h.ext (by repeat first | exact Ext.refl _ | assumption | refine Ext.drew ?_ | refine Ext.alloc ?_ _ | refine Ext.setCell ?_ (by simp) | refine Ext.setCell ?_ (by simp; omega) | refine Ext.trans ?_ (by assumption)))).mono ?_
    rintro e w1 ⟨rfl, hb⟩
    rw [hw']
    go_wp2
    go_ret
    exact ⟨_, rfl, by rw [HV.out]; exact OwI.nil _ _, (by repeat first | exact Ext.refl _ | assumption | refine Ext.drew ?_ | refine Ext.alloc ?_ _ | refine Ext.setCell ?_ (by simp) | refine Ext.setCell ?_ (by simp; omega) | refine Ext.trans ?_ (by assumption))⟩

def prt (L : List Int) (k j : Nat) : List Int := ((List.range j).filter (fun i => decide (gi L (i : Nat) = gi L k))).map (fun i : Nat => (i : Int))
theorem prt_succ (L : List Int) (k j : Nat) : prt L k (j + 1) = if gi L j = gi L k then prt L k j ++ [(j : Int)] else prt L k j := by
  unfold prt
  rw [List.range_succ, List.filter_append]
  split
  · rename_i h; simp [h]
  · rename_i h; simp [h]
theorem prt_len (L : List Int) (k j : Nat) : (prt L k j).length ≤ j := by
  unfold prt
  rw [List.length_map]
  have := List.length_filter_le (fun i => decide (gi L (i : Nat) = gi L k)) (List.range j)
  rwa [List.length_range] at this

set_option maxRecDepth 100000 in
set_option maxHeartbeats 2000000 in
theorem PartOf_s (A B : Option Addr) (c d : Nat) (ns ls : List P2) (k : Int) (w : World) (h : Wn w A c B d ns ls) :
    Calls Try.prog 33 #[.agg #[.slice A ns.length c, .slice B ls.length d], .int .i64 k] w fun e w' => ∃ v, e = .returned v ∧ OwI w' w.heap.size v (vPartOf ns ls k) ∧ Ext w w' := by
  have HV : Hid (vPartOf ns ls k = if hasN ns ls k = true then partL ns.length ls k.toNat else []) := Lib.hid rfl
  have hnl := h.hl
  by_cases hok : wok ns ls = true
  · by_cases hwi : wi k 0 (ns.length - 1) = true
    · have hw : hasN ns ls k = true := by rw [hasN, hok, hwi]; rfl
      rw [if_pos hw] at HV
      obtain ⟨hW, kk, rfl, hk⟩ := hasN_ok hw
      have hn := hW.hi
      have HW := Lib.hid hW
      clear hW
      go_enter Try.func33, Try.ntmps33
      go_wp2_with fail
      have hv0 : OzI ((w.alloc (.cells #[.slice A ns.length c, .slice B ls.length d] 36)).alloc (.cells #[] 3)) w.heap.size w.heap.size (.slice (some ⟨w.heap.size + 1, 0, none⟩) 0 0) [] := OzI.zero _ (by omega) (by simp)
      refine (WindowOk_s' (h.ext (by repeat first | exact Ext.refl _ | assumption | refine Ext.drew ?_ | refine Ext.alloc ?_ _ | refine Ext.setCell ?_ (by simp) | refine Ext.setCell ?_ (by simp; omega) | refine Ext.trans ?_ (by assumption)))).mono ?_
      rintro e w1 ⟨rfl, hb⟩
      have k0 := hb.lit (b := w.heap.size) (o := 0) (v := .slice A ns.length c) (by go_simp)
      have k1 := hb.lit (b := w.heap.size) (o := 1) (v := .slice B ls.length d) (by go_simp)
      have hx : Ext w w1 := (by repeat first | exact Ext.refl _ | assumption | refine Ext.drew ?_ | refine Ext.alloc ?_ _ | refine Ext.setCell ?_ (by simp) | refine Ext.setCell ?_ (by simp; omega) | refine Ext.trans ?_ (by assumption))
      have hv0 := hv0.ext hb
      clear hb
      rw [hok]
      go_wp2_with fail
      refine (l01In_c _ _ _ _).mono ?_
      rintro e w' ⟨rfl, rfl⟩
      rw [hwi]
      go_wp2_with fail
      refine (l07Parts_c' (h.ext hx) HW.out).mono ?_
      rintro e w2 ⟨v, rfl, hv, hb⟩
      have hLl : (labs ns.length ls).length = ns.length := (linv (vd_of_ok HW.out)).len
      have hv0 := hv0.ext hb
      have hx := hx.trans hb
      have e : partL ns.length ls kk = prt (labs ns.length ls) kk ns.length := rfl
      rw [Int.toNat_natCast, e] at HV
      clear hb k0 k1 e
      generalize labs ns.length ls = L at *
      obtain ⟨g, cp, rfl, hcap, hgB, hgw, -, -⟩ := hv.gi_ (j := 0) (by omega)
      have HL := Lib.hid hLl
      rw [hLl]
      rw [hLl] at hv
      clear hLl
      go_wp2_with fail
      go_loopw [5, 7] (fun q i wr => ∃ j : Nat, j ≤ ns.length ∧ i = .int .i64 j ∧ OzI wr w.heap.size w2.heap.size q (prt L kk j) ∧ Ext w2 wr) (fun _ i _ => ns.length - (intOf i).toNat)
      case atStart => exact ⟨0, by omega, rfl, hv0.up rfl ⟨_, rfl⟩ (Nat.le_refl _), Ext.refl _⟩
      case round =>
        clear hv0
        obtain ⟨j, hj, rfl, hq, hxr⟩ := hrel
        obtain ⟨wo, rfl⟩ : ∃ x : World, x = wr := ⟨_, rfl⟩
        by_cases hlt : j < ns.length
        · have c1 := ((hv.ext hxr).cel (j := j) (by rw [HL.out]; omega)).1
          have c2 := ((hv.ext hxr).cel (j := kk) (by rw [HL.out]; omega)).1
          have d1 := cell_regrown c1
          have d2 := cell_regrown c2
          have hji : (j : Int) < ns.length := by omega
          have hki : (kk : Int) < ns.length := by omega
          have hs := prt_succ L kk j
          have hln := prt_len L kk j
          have hsz := hxr.size
          generalize gi L j = X at *
          generalize gi L kk = Y at *
          by_cases hxy : X = Y
          · subst hxy
            rw [if_pos rfl] at hs
            have Hs := Lib.hid hs
            clear hs
            have hbq : (X == X) = true := by simp
            go_wp2
            refine rx_open [(true, 0, some 30, 64), (true, 0, some 31, 128), (true, 3, some 32, 3221225472), (true, 4, some 33, 4294967296), (true, 0, some 34, 64), (true, 0, some 35, 2), (true, 48, some 36, 51539607552), (true, 64, some 37, 68719476736), (true, 136, some 38, 146028888064)] 0 9 mixd rfl (by kernel_rfl) (by kernel_rfl) (by kernel_rfl) ?_
            refine rx_run (run := [0, 1, 2, 3, 4, 5, 6, 7, 8]) (k := 0) (m' := 511) rfl (by kernel_rfl) (by kernel_rfl) (by kernel_rfl) (fm_cons rfl <| fm_cons rfl <| fm_cons rfl <| fm_cons rfl <| fm_cons rfl <| fm_cons rfl <| fm_cons rfl <| fm_cons rfl <| fm_cons rfl <| List.filterMap_nil) (by repeat first | exact Ext.refl _ | assumption | refine Ext.drew ?_ | refine Ext.alloc ?_ _ | refine Ext.setCell ?_ (by simp) | refine Ext.setCell ?_ (by simp; omega) | refine Ext.trans ?_ (by assumption)) ?_
            repeat (go_big_quiet_step ((fail)))
            refine wpQuiet_nil ?_
            refine rx_end (by kernel_rfl) ?_
            go_wp2_with (at_builtin; refine az_int _ _ rfl rfl rfl (hq.ext (by repeat first | exact Ext.refl _ | assumption | refine Ext.drew ?_ | refine Ext.alloc ?_ _ | refine Ext.setCell ?_ (by simp) | refine Ext.setCell ?_ (by simp; omega) | refine Ext.trans ?_ (by assumption))) (g := wo.heap.size) (y := j) (by first | rfl | simp) (by go_simp) (by omega) (by simp; omega) ?_)
            intro v' w' h1 h3
            go_wp2
            go_roundw
            case rel => exact ⟨j + 1, by omega, by go_num, by rw [Hs.out]; exact h1, h3 _ (hxr.trans (by repeat first | exact Ext.refl _ | assumption | refine Ext.drew ?_ | refine Ext.alloc ?_ _ | refine Ext.setCell ?_ (by simp) | refine Ext.setCell ?_ (by simp; omega) | refine Ext.trans ?_ (by assumption))) (Nat.le_refl _)⟩
            case measure => simp [intOf]; omega
          · rw [if_neg hxy] at hs
            have Hs := Lib.hid hs
            clear hs
            have hbq : (X == Y) = false := by simpa using hxy
            go_wp2
            refine rx_open [(true, 0, some 30, 64), (true, 0, some 31, 128), (true, 3, some 32, 3221225472), (true, 4, some 33, 4294967296), (true, 0, some 34, 64), (true, 0, some 35, 2), (true, 48, some 36, 51539607552), (true, 64, some 37, 68719476736), (true, 136, some 38, 146028888064)] 0 9 mixd rfl (by kernel_rfl) (by kernel_rfl) (by kernel_rfl) ?_
            refine rx_run (run := [0, 1, 2, 3, 4, 5, 6, 7, 8]) (k := 0) (m' := 511) rfl (by kernel_rfl) (by kernel_rfl) (by kernel_rfl) (fm_cons rfl <| fm_cons rfl <| fm_cons rfl <| fm_cons rfl <| fm_cons rfl <| fm_cons rfl <| fm_cons rfl <| fm_cons rfl <| fm_cons rfl <| List.filterMap_nil) (by repeat first | exact Ext.refl _ | assumption | refine Ext.drew ?_ | refine Ext.alloc ?_ _ | refine Ext.setCell ?_ (by simp) | refine Ext.setCell ?_ (by simp; omega) | refine Ext.trans ?_ (by assumption)) ?_
            repeat (go_big_quiet_step ((fail)))
            refine wpQuiet_nil ?_
            refine rx_end (by kernel_rfl) ?_
            go_wp2
            go_roundw
            case rel => exact ⟨j + 1, by omega, by go_num, by rw [Hs.out]; exact hq.ext (by repeat first | exact Ext.refl _ | assumption | refine Ext.drew ?_ | refine Ext.alloc ?_ _ | refine Ext.setCell ?_ (by simp) | refine Ext.setCell ?_ (by simp; omega) | refine Ext.trans ?_ (by assumption)), hxr.trans (by repeat first | exact Ext.refl _ | assumption | refine Ext.drew ?_ | refine Ext.alloc ?_ _ | refine Ext.setCell ?_ (by simp) | refine Ext.setCell ?_ (by simp; omega) | refine Ext.trans ?_ (by assumption))⟩
            case measure => simp [intOf]; omega
        · obtain rfl : j = ns.length := by omega
          go_wp2
          go_ret
          exact ⟨_, rfl, by rw [HV.out]; exact hq.own hx.size, hx.trans hxr⟩
    · have hwi := eq_false_of_ne_true hwi
      have hw : ¬ hasN ns ls k = true := by rw [hasN, hok, hwi]; simp
      rw [if_neg hw] at HV
      go_enter Try.func33, Try.ntmps33
      go_wp2_with fail
      have hv0 : OzI ((w.alloc (.cells #[.slice A ns.length c, .slice B ls.length d] 36)).alloc (.cells #[] 3)) w.heap.size w.heap.size (.slice (some ⟨w.heap.size + 1, 0, none⟩) 0 0) [] := OzI.zero _ (by omega) (by simp)
      refine (WindowOk_s' (h.ext (by repeat first | exact Ext.refl _ | assumption | refine Ext.drew ?_ | refine Ext.alloc ?_ _ | refine Ext.setCell ?_ (by simp) | refine Ext.setCell ?_ (by simp; omega) | refine Ext.trans ?_ (by assumption)))).mono ?_
      rintro e w1 ⟨rfl, hb⟩
      have k0 := hb.lit (b := w.heap.size) (o := 0) (v := .slice A ns.length c) (by go_simp)
      have k1 := hb.lit (b := w.heap.size) (o := 1) (v := .slice B ls.length d) (by go_simp)
      have hx : Ext w w1 := (by repeat first | exact Ext.refl _ | assumption | refine Ext.drew ?_ | refine Ext.alloc ?_ _ | refine Ext.setCell ?_ (by simp) | refine Ext.setCell ?_ (by simp; omega) | refine Ext.trans ?_ (by assumption))
      have hv0 := hv0.ext hb
      clear hb
      rw [hok]
      go_wp2_with fail
      refine (l01In_c _ _ _ _).mono ?_
      rintro e w4 ⟨rfl, rfl⟩
      rw [hwi]
      go_wp2
      go_ret
      exact ⟨_, rfl, by rw [HV.out]; exact hv0.own (Nat.le_refl _), hx⟩
  · have hok := eq_false_of_ne_true hok
    have hw : ¬ hasN ns ls k = true := by rw [hasN, hok]; simp
    rw [if_neg hw] at HV
    go_enter Try.func33, Try.ntmps33
    go_wp2_with fail
    have hv0 : OzI ((w.alloc (.cells #[.slice A ns.length c, .slice B ls.length d] 36)).alloc (.cells #[] 3)) w.heap.size w.heap.size (.slice (some ⟨w.heap.size + 1, 0, none⟩) 0 0) [] := OzI.zero _ (by omega) (by simp)
    refine (WindowOk_s' (h.ext (by repeat first | exact Ext.refl _ | assumption | refine Ext.drew ?_ | refine Ext.alloc ?_ _ | refine Ext.setCell ?_ (by simp) | refine Ext.setCell ?_ (by simp; omega) | refine Ext.trans ?_ (by assumption)))).mono ?_
    rintro e w1 ⟨rfl, hb⟩
    have k0 := hb.lit (b := w.heap.size) (o := 0) (v := .slice A ns.length c) (by go_simp)
    have k1 := hb.lit (b := w.heap.size) (o := 1) (v := .slice B ls.length d) (by go_simp)
    have hx : Ext w w1 := (by repeat first | exact Ext.refl _ | assumption | refine Ext.drew ?_ | refine Ext.alloc ?_ _ | refine Ext.setCell ?_ (by simp) | refine Ext.setCell ?_ (by simp; omega) | refine Ext.trans ?_ (by assumption))
    have hv0 := hv0.ext hb
    clear hb
    rw [hok]
    go_wp2
    go_ret
    exact ⟨_, rfl, by rw [HV.out]; exact hv0.own (Nat.le_refl _), hx⟩
end Go.Proofs.Ytpainmnekgnpeaa
