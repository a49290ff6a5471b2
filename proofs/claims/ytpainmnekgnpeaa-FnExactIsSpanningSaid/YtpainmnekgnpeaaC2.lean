import Derived.Test.YtpainmnekgnpeaaC1
import Derived.Test.YtpainmnekgnpeaaR1
import Derived.Test.YtpainmnekgnpeaaB0
import Derived.BigQuiet
import Derived.WalkLawsBesides
namespace Go.Proofs.Ytpainmnekgnpeaa
open Go.RowKit Go.Sort Go.BigFrame

set_option maxHeartbeats 1000000 in
theorem eqIntS_c (A B : Option Addr) (c d : Nat) (xs ys : List Int) (w : World) (hl : xs.length ≤ 1048576) (hl' : ys.length ≤ 1048576) (h : In w w.heap.size A xs) (h' : In w w.heap.size B ys) :
    Calls Try.prog 18 #[.slice A xs.length c, .slice B ys.length d] w fun e w' => e = .returned (.bool (decide (xs = ys))) ∧ Ext w w' := by
  by_cases hn : xs.length = ys.length
  · have hd : ((xs.length : Int) != (ys.length : Int)) = false := by simp [hn]
    have hd2 : ((ys.length : Int) != (ys.length : Int)) = false := by simp
    go_enter Try.func18, Try.ntmps18
    have Hn := Lib.hid hn
    clear hn
    go_wp2
    go_loopw [5] (fun i wr => ∃ k : Nat, k ≤ xs.length ∧ i = .int .i64 k ∧ xs.take k = ys.take k ∧ Ext w wr) (fun i _ => xs.length - (intOf i).toNat)
    case atStart => exact ⟨0, by omega, rfl, rfl, Ext.refl _⟩
    case round =>
      obtain ⟨k, hk, rfl, heq, hx⟩ := hrel
      have Heq := Lib.hid heq
      clear heq
      obtain ⟨wo, rfl⟩ : ∃ x : World, x = wr := ⟨_, rfl⟩
      by_cases hlt : k < xs.length
      · have hlt' : k < ys.length := by have := Hn.out; omega
        obtain ⟨b, off, rfl, hbb, c1⟩ := (h.ext hx).at_ hlt
        obtain ⟨b', off', rfl, hbb', c2⟩ := (h'.ext hx).at_ hlt'
        have d1 := cell_regrown c1
        have d2 := cell_regrown c2
        have hi : (k : Int) < xs.length := by omega
        have hi' : (k : Int) < ys.length := by omega
        go_wp2
        refine rx_open [(true, 0, some 17, 1), (true, 0, some 18, 32), (true, 3, some 19, 393216), (true, 4, some 20, 524288), (true, 0, some 21, 2), (true, 0, some 22, 32), (true, 48, some 23, 6291456), (true, 64, some 24, 8388608), (true, 136, some 25, 17825792)] 0 9 mixd rfl (by kernel_rfl) (by kernel_rfl) (by kernel_rfl) ?_
        refine rx_run (run := [0, 1, 2, 3, 4, 5, 6, 7, 8]) (k := 0) (m' := 511) rfl (by kernel_rfl) (by kernel_rfl) (by kernel_rfl) (fm_cons rfl <| fm_cons rfl <| fm_cons rfl <| fm_cons rfl <| fm_cons rfl <| fm_cons rfl <| fm_cons rfl <| fm_cons rfl <| fm_cons rfl <| List.filterMap_nil) (by repeat first | exact Ext.refl _ | assumption | refine Ext.drew ?_ | refine Ext.alloc ?_ _ | refine Ext.setCell ?_ (by simp) | refine Ext.setCell ?_ (by simp; omega) | refine Ext.trans ?_ (by assumption)) ?_
        repeat (go_big_quiet_step ((fail)))
        refine wpQuiet_nil ?_
        refine rx_end (by kernel_rfl) ?_
        go_wp2
        · have hne : xs[k] ≠ ys[k] := by simp_all
          go_ret
          refine ⟨ret_b ?_, hx.trans (by repeat first | exact Ext.refl _ | assumption | refine Ext.drew ?_ | refine Ext.alloc ?_ _ | refine Ext.setCell ?_ (by simp) | refine Ext.setCell ?_ (by simp; omega) | refine Ext.trans ?_ (by assumption))⟩
          symm
          rw [decide_eq_false_iff_not]
          intro e
          subst e
          exact hne rfl
        · have he : xs[k] = ys[k] := by simp_all
          go_roundw
          case rel => exact ⟨k + 1, by omega, by go_num, by rw [List.take_succ_eq_append_getElem hlt, List.take_succ_eq_append_getElem hlt', Heq.out, he], hx.trans (by repeat first | exact Ext.refl _ | assumption | refine Ext.drew ?_ | refine Ext.alloc ?_ _ | refine Ext.setCell ?_ (by simp) | refine Ext.setCell ?_ (by simp; omega) | refine Ext.trans ?_ (by assumption))⟩
          case measure => simp [intOf]; omega
      · go_wp2
        go_ret
        refine ⟨ret_b ?_, hx⟩
        symm
        rw [decide_eq_true_iff]
        have := Heq.out
        rwa [List.take_of_length_le (by omega), List.take_of_length_le (by have := Hn.out; omega)] at this
  · have hd : ((xs.length : Int) != (ys.length : Int)) = true := by simp; omega
    have hv : decide (xs = ys) = false := by
      rw [decide_eq_false_iff_not]; intro e; exact hn (by rw [e])
    clear hn
    go_enter Try.func18, Try.ntmps18
    go_wp2
    go_ret
    exact ⟨ret_b hv.symm, Ext.refl _⟩

set_option maxHeartbeats 1000000 in
theorem law_CountWishes (A : Option Addr) (n c : Nat) (xs : List Int) (w : World) (hn : n = xs.length) (h : In w w.heap.size A xs) :
    Calls Try.prog 3 #[.slice A n c] w fun e w' => e = .returned (.bool true) ∧ Ext w w' := by
  subst hn
  by_cases hb : (1048576 : Int) < (xs.length : Int)
  · go_enter Try.func3, Try.ntmps3
    go_wp2
    go_ret
    exact ⟨rfl, Ext.refl _⟩
  · have hl : xs.length ≤ 1048576 := by omega
    go_enter Try.func3, Try.ntmps3
    go_wp2_with fail
    refine (toIntS_c A c xs _ hl h).mono ?_
    rintro e w1 ⟨g, rfl, -, hB, hx⟩
    go_wp2_with fail
    refine (CountWishes_s _ _ xs _ hl hB.in_).mono ?_
    rintro e w' ⟨rfl, rfl⟩
    go_wp2_with fail
    refine (toIntS_c A c xs _ hl (h.ext hx)).mono ?_
    rintro e w2 ⟨g2, rfl, -, hB2, hx2⟩
    go_wp2_with fail
    refine (CountWishes_i _ _ xs _ hl hB2.in_).mono ?_
    rintro e w' ⟨rfl, rfl⟩
    have hx := hx.trans hx2
    have hc : (cntW xs != cntW xs) = false := by simp
    go_wp2_with fail
    refine (toIntS_c A c xs _ hl (h.ext hx)).mono ?_
    rintro e w3 ⟨g3, rfl, -, hB3, hx3⟩
    have hB2 := hB2.ext hx3
    have hx := hx.trans hx3
    go_wp2_with fail
    refine (eqIntS_c _ _ _ _ xs xs _ hl hl hB2.in_ hB3.in_).mono ?_
    rintro e w4 ⟨rfl, hx4⟩
    have hx := hx.trans hx4
    have ht : decide (xs = xs) = true := by simp
    rw [ht]
    go_wp2
    go_ret
    exact ⟨rfl, hx⟩
end Go.Proofs.Ytpainmnekgnpeaa
