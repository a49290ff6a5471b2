import Derived.Test.YtdhmjhoaegdfjaaGreatG13
import Derived.Test.YtdhmjhoaegdfjaaGreatG18
namespace Go.Proofs.YtdhmjhoaegdfjaaGreat
open Go.RowKit Go.Sort Go.BigFrame
/-! The small helpers of the laws. -/
set_option maxHeartbeats 1000000 in
theorem has_c (X : Option Addr) (c : Nat) (xs : List Int) (n : Int) (w : World) (hl : xs.length ≤ 2000000) (h : In w w.heap.size X xs) :
    Calls Tryz.prog 20 #[.slice X xs.length c, .int .i64 n] w fun e w' => e = .returned (.bool (hsI xs n)) ∧ w = w' := by
  go_enter Tryz.func20, Tryz.ntmps20
  go_wp2_with fail
  go_loop [5] (fun i => ∃ j : Nat, j ≤ xs.length ∧ i = .int .i64 j ∧ Hid (∀ i : Nat, i < j → gi xs (i : Nat) ≠ n)) (fun i => xs.length - (intOf i).toNat)
  case atStart => exact ⟨0, by omega, rfl, Lib.hid (fun i hi => by omega)⟩
  case round =>
    obtain ⟨j, hj, rfl, ha⟩ := hrel
    by_cases hlt : j < xs.length
    · obtain ⟨b, off, rfl, hbb, c1⟩ := h.gi_ (k := j) hlt
      by_cases hq : gi xs (j : Nat) = n
      · have HE : Hid (hsI xs n = true) := Lib.hid (contains_iff_gi.2 ⟨j, hlt, hq⟩)
        rw [hq] at c1
        clear hq
        have hqq : (n == n) = true := by simp
        go_wp2
        go_ret
        exact ⟨ret_b (by rw [HE.out]), rfl⟩
      · have hk : Hid (∀ i : Nat, i < j + 1 → gi xs (i : Nat) ≠ n) := Lib.hid (fun i hi => by
          rcases Nat.lt_succ_iff_lt_or_eq.1 hi with h | h
          · exact ha.out i h
          · subst h; exact hq)
        have hqq : (gi xs (j : Nat) == n) = false := beq_eq_false_iff_ne.2 hq
        generalize gi xs (j : Nat) = x at *
        clear hq
        go_wp2
        go_round
        case rel => exact ⟨j + 1, by omega, by go_num, hk⟩
        case measure => simp [intOf]; omega
    · obtain rfl : j = xs.length := by omega
      have HE : Hid (hsI xs n = false) := Lib.hid (by
        unfold hsI
        rw [Bool.eq_false_iff]
        intro e
        obtain ⟨i, hi, e⟩ := contains_iff_gi.1 e
        exact ha.out i hi e)
      go_wp2
      go_ret
      exact ⟨ret_b (by rw [HE.out]), rfl⟩
set_option maxHeartbeats 1000000 in
theorem sameInts_c (A B : Option Addr) (c d : Nat) (xs ys : List Int) (w : World) (hl : xs.length ≤ 2000000) (hl' : ys.length ≤ 2000000) (h : In w w.heap.size A xs) (h' : In w w.heap.size B ys) :
    Calls Tryz.prog 21 #[.slice A xs.length c, .slice B ys.length d] w fun e w' => e = .returned (.bool (decide (xs = ys))) ∧ Ext w w' := by
  by_cases hn : xs.length = ys.length
  · have hd : ((xs.length : Int) != (ys.length : Int)) = false := by simp [hn]
    have hd2 : ((ys.length : Int) != (ys.length : Int)) = false := by simp
    go_enter Tryz.func21, Tryz.ntmps21
    have Hn := Lib.hid hn
    clear hn
    go_wp2
    go_loopw [5] (fun i wr => ∃ k : Nat, k ≤ xs.length ∧ i = .int .i64 k ∧ xs.take k = ys.take k ∧ Ext w wr) (fun i _ => xs.length - (intOf i).toNat)
    case atStart => exact ⟨0, by omega, rfl, rfl, Ext.refl _⟩
    case round =>
      obtain ⟨k, hk, rfl, heq, hx⟩ := hrel
      have Heq := Lib.hid heq
      clear heq
      obtain ⟨wo, rfl⟩ : ∃ x : World, x = wr := ⟨_, rfl⟩
      by_cases hlt : k < xs.length
      · have hlt' : k < ys.length := by have := Hn.out; omega
        obtain ⟨b, off, rfl, hbb, c1⟩ := (h.ext hx).at_ hlt
        obtain ⟨b', off', rfl, hbb', c2⟩ := (h'.ext hx).at_ hlt'
        have d1 := cell_regrown c1
        have d2 := cell_regrown c2
        have hi : (k : Int) < xs.length := by omega
        have hi' : (k : Int) < ys.length := by omega
        go_wp2
        refine rx_open [(true, 0, some 17, 1), (true, 0, some 18, 32), (true, 3, some 19, 393216), (true, 4, some 20, 524288), (true, 0, some 21, 2), (true, 0, some 22, 32), (true, 48, some 23, 6291456), (true, 64, some 24, 8388608), (true, 136, some 25, 17825792)] 0 9 mixd rfl (by kernel_rfl) (by kernel_rfl) (by kernel_rfl) ?_
        refine rx_run (run := [0, 1, 2, 3, 4, 5, 6, 7, 8]) (k := 0) (m' := 511) rfl (by kernel_rfl) (by kernel_rfl) (by kernel_rfl) (fm_cons rfl <| fm_cons rfl <| fm_cons rfl <| fm_cons rfl <| fm_cons rfl <| fm_cons rfl <| fm_cons rfl <| fm_cons rfl <| fm_cons rfl <| List.filterMap_nil) (by repeat first | exact Ext.refl _ | assumption | refine Ext.drew ?_ | refine Ext.alloc ?_ _ | refine Ext.setCell ?_ (by simp) | refine Ext.setCell ?_ (by simp; omega) | refine Ext.trans ?_ (by assumption)) ?_
        repeat (go_big_quiet_step ((fail)))
        refine wpQuiet_nil ?_
        refine rx_end (by kernel_rfl) ?_
        go_wp2
        · have hne : xs[k] ≠ ys[k] := by simp_all
          go_ret
          refine ⟨ret_b ?_, hx.trans (by repeat first | exact Ext.refl _ | assumption | refine Ext.drew ?_ | refine Ext.alloc ?_ _ | refine Ext.setCell ?_ (by simp) | refine Ext.setCell ?_ (by simp; omega) | refine Ext.trans ?_ (by assumption))⟩
          symm
          rw [decide_eq_false_iff_not]
          intro e
          subst e
          exact hne rfl
        · have he : xs[k] = ys[k] := by simp_all
          go_roundw
          case rel => exact ⟨k + 1, by omega, by go_num, by rw [List.take_succ_eq_append_getElem hlt, List.take_succ_eq_append_getElem hlt', Heq.out, he], hx.trans (by repeat first | exact Ext.refl _ | assumption | refine Ext.drew ?_ | refine Ext.alloc ?_ _ | refine Ext.setCell ?_ (by simp) | refine Ext.setCell ?_ (by simp; omega) | refine Ext.trans ?_ (by assumption))⟩
          case measure => simp [intOf]; omega
      · go_wp2
        go_ret
        refine ⟨ret_b ?_, hx⟩
        symm
        rw [decide_eq_true_iff]
        have := Heq.out
        rwa [List.take_of_length_le (by omega), List.take_of_length_le (by have := Hn.out; omega)] at this
  · have hd : ((xs.length : Int) != (ys.length : Int)) = true := by simp; omega
    have hv : decide (xs = ys) = false := by
      rw [decide_eq_false_iff_not]; intro e; exact hn (by rw [e])
    clear hn
    go_enter Tryz.func21, Tryz.ntmps21
    go_wp2
    go_ret
    exact ⟨ret_b hv.symm, Ext.refl _⟩

end Go.Proofs.YtdhmjhoaegdfjaaGreat
