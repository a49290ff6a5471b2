import Derived.Test.YtpainmnekgnpeaaB13
import Derived.Test.YtpainmnekgnpeaaB11
namespace Go.Proofs.Ytpainmnekgnpeaa
open Go.RowKit Go.Sort Go.BigFrame

theorem dAt_len {ns ls : List P2} (h : WOk ns ls) (k : Int) : ∀ j, j ≤ ls.length → (dAt ls k (2 * j)).length = (lat ls k j).length
  | 0, _ => rfl
  | j + 1, hj => by
    have ih := dAt_len h k j (by omega)
    obtain ⟨hl, -, -⟩ := h.ld j (by omega)
    have e0 : dEnds ls (2 * j) = gp ls j := by
      unfold dEnds; rw [if_neg (by omega), show 2 * j / 2 = j by omega]
    have e1 : dEnds ls (2 * j + 1) = ((gp ls j).2, (gp ls j).1) := by
      unfold dEnds; rw [if_pos (by omega), show (2 * j + 1) / 2 = j by omega]
    have hs := lat_succ ls k j
    generalize gp ls j = L at *
    obtain ⟨p, q⟩ := L
    obtain ⟨i0, i1, rfl, rfl, hlt, -⟩ := lok_spec hl
    unfold dAt at *
    rw [show 2 * (j + 1) = 2 * j + 1 + 1 by omega, List.range_succ, List.range_succ, List.filter_append, List.filter_append, List.length_append, List.length_append, ih, hs]
    unfold atL
    by_cases a : (i0 : Int) = k
    · have b : ¬ (i1 : Int) = k := by omega
      simp [e0, e1, a, b]
    · by_cases b : (i1 : Int) = k
      · simp [e0, e1, a, b]
      · simp [e0, e1, a, b]
theorem arnd_len {ns ls : List P2} (h : WOk ns ls) (k : Nat) (hk : k < ns.length) : ((arnd ns ls k).length : Int) = degOf ns ls k := by
  have h1 : (arnd ns ls k).length = (lat ls k ls.length).length := by
    unfold arnd
    rw [(arnN_perm ns ls k _).length_eq, dAt_len h k _ (Nat.le_refl _)]
  have hh : hasN ns ls k = true := by
    simp only [hasN, wi, Bool.and_eq_true, decide_eq_true_eq]
    exact ⟨wok_iff.2 h, by omega, by omega⟩
  rw [h1]
  unfold degOf leadsAt
  rw [if_pos hh, if_pos hh]

set_option maxRecDepth 100000 in
set_option maxHeartbeats 2000000 in
theorem EndNodes_s (A B : Option Addr) (c d : Nat) (ns ls : List P2) (w : World) (h : Wn w A c B d ns ls) :
    Calls Try.prog 41 #[.agg #[.slice A ns.length c, .slice B ls.length d]] w fun e w' => ∃ v, e = .returned v ∧ OwI w' w.heap.size v (vEndNodes ns ls) ∧ Ext w w' := by
  have hnl := h.hl
  have HV : Hid (vEndNodes ns ls = if wok ns ls = true then flt (fun i => decide (degOf ns ls (i : Nat) = 1)) ns.length else []) := Lib.hid rfl
  have HP : Hid (∀ j : Nat, (fun i : Nat => decide (degOf ns ls (i : Nat) = 1)) j = decide (degOf ns ls j = 1)) := Lib.hid (fun _ => rfl)
  generalize (fun i : Nat => decide (degOf ns ls (i : Nat) = 1)) = P at *
  by_cases hw : wok ns ls = true
  · rw [if_pos hw] at HV
    have HW := Lib.hid (wok_iff.1 hw)
    go_enter Try.func41, Try.ntmps41
    go_wp2_with fail
    have hv0 : OzI ((w.alloc (.cells #[.slice A ns.length c, .slice B ls.length d] 36)).alloc (.cells #[] 3)) w.heap.size w.heap.size (.slice (some ⟨w.heap.size + 1, 0, none⟩) 0 0) [] := OzI.zero _ (by omega) (by simp)
    refine (WindowOk_s' (h.ext (by repeat first | exact Ext.refl _ | assumption | refine Ext.drew ?_ | refine Ext.alloc ?_ _ | refine Ext.setCell ?_ (by simp) | refine Ext.setCell ?_ (by simp; omega) | refine Ext.trans ?_ (by assumption)))).mono ?_
    rintro e w1 ⟨rfl, hb⟩
    have k0 := hb.lit (b := w.heap.size) (o := 0) (v := .slice A ns.length c) (by go_simp)
    have k1 := hb.lit (b := w.heap.size) (o := 1) (v := .slice B ls.length d) (by go_simp)
    have hx : Ext w w1 := (by repeat first | exact Ext.refl _ | assumption | refine Ext.drew ?_ | refine Ext.alloc ?_ _ | refine Ext.setCell ?_ (by simp) | refine Ext.setCell ?_ (by simp; omega) | refine Ext.trans ?_ (by assumption))
    have hv0 := hv0.ext hb
    clear hb
    rw [hw]
    go_wp2_with fail
    go_loopw [3, 4] (fun v i wr => ∃ j : Nat, j ≤ ns.length ∧ i = .int .i64 j ∧ OzI wr w.heap.size w1.heap.size v (flt P j) ∧ Ext w1 wr) (fun _ i _ => ns.length - (intOf i).toNat)
    case atStart => exact ⟨0, by omega, rfl, hv0.up rfl ⟨_, rfl⟩ (Nat.le_refl _), Ext.refl _⟩
    case round =>
      clear hv0
      obtain ⟨j, hj, rfl, hv, hxr⟩ := hrel
      obtain ⟨wo, rfl⟩ : ∃ x : World, x = wr := ⟨_, rfl⟩
      have hx0 := hx.trans hxr
      have k0 := hxr.lit k0
      have k1 := hxr.lit k1
      by_cases hlt : j < ns.length
      · go_wp2_with fail
        refine (l05Around_s A B c d ns ls j _ (h.ext hx0) HW.out hlt).mono ?_
        rintro e w3 ⟨v1, rfl, hv1, hb⟩
        have HAL : Hid (((nl (arnd ns ls j)).length : Int) = degOf ns ls j) := Lib.hid (by rw [nl_len]; exact arnd_len HW.out j hlt)
        obtain ⟨A1, c1, rfl, -, -, -⟩ := hv1.shape
        have hxr := hxr.trans hb
        have hv := hv.ext hb
        clear hb hv1
        generalize (nl (arnd ns ls j)).length = N at *
        by_cases hs : degOf ns ls j = 1
        · have Hs := Lib.hid (flt_yes (p := P) (j := j) (by rw [HP.out]; exact decide_eq_true hs))
          obtain rfl : N = 1 := by have := HAL.out; omega
          have hsz := hxr.size
          have hln := flt_len P j
          go_wp2_with (at_builtin; refine az_int _ _ rfl rfl rfl (hv.ext ((Ext.refl w3).alloc _)) (g := w3.heap.size) (y := j) (by first | rfl | simp) (by go_simp) (by omega) (by simp; omega) ?_)
          intro v' w' h1 h3
          go_wp2
          go_roundw
          case rel => exact ⟨j + 1, by omega, by go_num, by rw [Hs.out]; exact h1, h3 _ (hxr.trans (by repeat first | exact Ext.refl _ | assumption | refine Ext.drew ?_ | refine Ext.alloc ?_ _ | refine Ext.setCell ?_ (by simp) | refine Ext.setCell ?_ (by simp; omega) | refine Ext.trans ?_ (by assumption))) (Nat.le_refl _)⟩
          case measure => first | (simp [intOf]; done) | (simp [intOf]; omega)
        · have Hs := Lib.hid (flt_no (p := P) (j := j) (by rw [HP.out]; exact decide_eq_false hs))
          have hs' : ((N : Int) == 1) = false := beq_eq_false_iff_ne.2 (by rw [HAL.out]; exact hs)
          go_wp2
          go_roundw
          case rel => exact ⟨j + 1, by omega, by go_num, by rw [Hs.out]; exact hv, hxr⟩
          case measure => first | (simp [intOf]; done) | (simp [intOf]; omega)
      · obtain rfl : j = ns.length := by omega
        go_wp2
        go_ret
        exact ⟨_, rfl, by rw [HV.out]; exact hv.own hx.size, hx.trans hxr⟩
  · rw [if_neg hw] at HV
    have hw' := eq_false_of_ne_true hw
    go_enter Try.func41, Try.ntmps41
    go_wp2_with fail
    have hv0 : OzI ((w.alloc (.cells #[.slice A ns.length c, .slice B ls.length d] 36)).alloc (.cells #[] 3)) w.heap.size w.heap.size (.slice (some ⟨w.heap.size + 1, 0, none⟩) 0 0) [] := OzI.zero _ (by omega) (by simp)
    refine (WindowOk_s' (h.ext (by repeat first | exact Ext.refl _ | assumption | refine Ext.drew ?_ | refine Ext.alloc ?_ _ | refine Ext.setCell ?_ (by simp) | refine Ext.setCell ?_ (by simp; omega) | refine Ext.trans ?_ (by assumption)))).mono ?_
    rintro e w1 ⟨rfl, hb⟩
    have k0 := hb.lit (b := w.heap.size) (o := 0) (v := .slice A ns.length c) (by go_simp)
    have k1 := hb.lit (b := w.heap.size) (o := 1) (v := .slice B ls.length d) (by go_simp)
    have hx : Ext w w1 := (by repeat first | exact Ext.refl _ | assumption | refine Ext.drew ?_ | refine Ext.alloc ?_ _ | refine Ext.setCell ?_ (by simp) | refine Ext.setCell ?_ (by simp; omega) | refine Ext.trans ?_ (by assumption))
    have hv0 := hv0.ext hb
    clear hb
    rw [hw']
    go_wp2
    go_ret
    exact ⟨_, rfl, by rw [HV.out]; exact hv0.own (Nat.le_refl _), hx⟩
end Go.Proofs.Ytpainmnekgnpeaa
