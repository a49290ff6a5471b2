import Derived.Test.YtpainmnekgnpeaaA7
import Derived.Test.YtpainmnekgnpeaaP2
namespace Go.Proofs.Ytpainmnekgnpeaa
open Go.RowKit Go.Sort Go.BigFrame



set_option maxRecDepth 100000 in
set_option maxHeartbeats 2000000 in
theorem IndexN_c (A : Option Addr) (c : Nat) (l : List P2) (x y : Int) (w : World) (hl : l.length ≤ 2000000) (h : Pr w w.heap.size A l) :
    Calls Try.prog 114 #[.slice A l.length c, .agg #[.int .i64 x, .int .i64 y]] w fun e w' => ∃ r : Int, e = .returned (.int .i64 r) ∧ decide (0 ≤ r) = hasP l (x, y) ∧ Ext w w' := by
  go_enter Try.func114, Try.ntmps114
  go_wp2
  go_loopw [5, 8] (fun _ i wr => ∃ k : Nat, k ≤ l.length ∧ i = .int .i64 k ∧ Hid (∀ j, j < k → peq (x, y) (gp l j) = false) ∧ Ext (w.alloc (.cells #[.int .i64 x, .int .i64 y] 47)) wr) (fun _ i _ => l.length - (intOf i).toNat)
  case atStart => exact ⟨0, by omega, rfl, Lib.hid (fun j hj => absurd hj (by omega)), Ext.refl _⟩
  case round =>
    obtain ⟨k, hk, rfl, H, hx⟩ := hrel
    obtain ⟨wo, rfl⟩ : ∃ x : World, x = wr := ⟨_, rfl⟩
    have hx0 : Ext w wo := Ext.trans (by repeat first | exact Ext.refl _ | assumption | refine Ext.drew ?_ | refine Ext.alloc ?_ _ | refine Ext.setCell ?_ (by simp) | refine Ext.setCell ?_ (by simp; omega) | refine Ext.trans ?_ (by assumption)) hx
    by_cases hlt : k < l.length
    · obtain ⟨b, off, rfl, hbb, c1, c2⟩ := (h.ext hx0).gp_ hlt
      have d1 := cell_regrown c1
      have d2 := cell_regrown c2
      have d3 := cell_regrown (hx.lit (b := w.heap.size) (o := 0) (v := .int .i64 x) (by go_simp))
      have d4 := cell_regrown (hx.lit (b := w.heap.size) (o := 1) (v := .int .i64 y) (by go_simp))
      have hi : (k : Int) < l.length := by omega
      go_wp2
      refine rx_open [(true, 0, some 11, 8), (true, 0, some 12, 1), (true, 0, some 13, 32), (true, 6, some 14, 12288), (true, 8, some 15, 16384), (true, 17, some 16, 34816)] 0 6 mixd rfl (by kernel_rfl) (by kernel_rfl) (by kernel_rfl) ?_
      refine rx_run (run := [0, 1, 2, 3, 4, 5]) (k := 0) (m' := 63) rfl (by kernel_rfl) (by kernel_rfl) (by kernel_rfl) (fm_cons rfl <| fm_cons rfl <| fm_cons rfl <| fm_cons rfl <| fm_cons rfl <| fm_cons rfl <| List.filterMap_nil) (by repeat first | exact Ext.refl _ | assumption | refine Ext.drew ?_ | refine Ext.alloc ?_ _ | refine Ext.setCell ?_ (by simp) | refine Ext.setCell ?_ (by simp; omega) | refine Ext.trans ?_ (by assumption)) ?_
      repeat (go_big_quiet_step ((fail)))
      refine wpQuiet_nil ?_
      refine rx_end (by kernel_rfl) ?_
      go_wp2
      · have he : peq (x, y) (gp l k) = true := by assumption
        go_ret
        refine ⟨k, rfl, ?_, Ext.trans hx0 (by repeat first | exact Ext.refl _ | assumption | refine Ext.drew ?_ | refine Ext.alloc ?_ _ | refine Ext.setCell ?_ (by simp) | refine Ext.setCell ?_ (by simp; omega) | refine Ext.trans ?_ (by assumption))⟩
        rw [decide_eq_true (by omega)]
        symm
        rw [hasP, List.any_eq_true]
        exact ⟨l[k], List.getElem_mem hlt, by rw [← gp_nat l k hlt]; exact he⟩
      · have he : peq (x, y) (gp l k) = false := by simp_all
        go_roundw
        case rel =>
          refine ⟨k + 1, by omega, by go_num, Lib.hid (fun j hj => ?_), Ext.trans hx (by repeat first | exact Ext.refl _ | assumption | refine Ext.drew ?_ | refine Ext.alloc ?_ _ | refine Ext.setCell ?_ (by simp) | refine Ext.setCell ?_ (by simp; omega) | refine Ext.trans ?_ (by assumption))⟩
          rcases Nat.lt_or_ge j k with h' | h'
          · exact H.out j h'
          · obtain rfl : j = k := by omega
            exact he
        case measure => simp [intOf]; omega
    · go_wp2
      go_ret
      refine ⟨-1, rfl, ?_, hx0⟩
      rw [decide_eq_false (by omega)]
      symm
      rw [hasP, List.any_eq_false]
      intro q hq
      obtain ⟨j, hj, rfl⟩ := List.getElem_of_mem hq
      rw [← gp_nat l j hj, H.out j (by omega)]
      simp

set_option maxRecDepth 100000 in
set_option maxHeartbeats 2000000 in
theorem ContainsN_c (A : Option Addr) (c : Nat) (l : List P2) (x y : Int) (w : World) (hl : l.length ≤ 2000000) (h : Pr w w.heap.size A l) :
    Calls Try.prog 100 #[.slice A l.length c, .agg #[.int .i64 x, .int .i64 y]] w fun e w' => e = .returned (.bool (hasP l (x, y))) ∧ Ext w w' := by
  go_enter Try.func100, Try.ntmps100
  go_wp2_with fail
  refine (IndexN_c A c l x y _ hl (h.ext (by repeat first | exact Ext.refl _ | assumption | refine Ext.drew ?_ | refine Ext.alloc ?_ _ | refine Ext.setCell ?_ (by simp) | refine Ext.setCell ?_ (by simp; omega) | refine Ext.trans ?_ (by assumption)))).mono ?_
  rintro e w1 ⟨r, rfl, hr, hx⟩
  go_wp2
  go_ret
  exact ⟨ret_b rfl, Ext.trans (by repeat first | exact Ext.refl _ | assumption | refine Ext.drew ?_ | refine Ext.alloc ?_ _ | refine Ext.setCell ?_ (by simp) | refine Ext.setCell ?_ (by simp; omega) | refine Ext.trans ?_ (by assumption)) hx⟩
end Go.Proofs.Ytpainmnekgnpeaa
