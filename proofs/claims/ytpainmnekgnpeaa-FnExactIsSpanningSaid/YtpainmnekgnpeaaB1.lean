import Derived.Test.YtpainmnekgnpeaaA1
import Derived.Test.YtpainmnekgnpeaaR1
import Derived.Test.YtpainmnekgnpeaaM3
import Derived.Test.YtpainmnekgnpeaaP5
import Derived.Deep.DeepCutAuto
namespace Go.Proofs.Ytpainmnekgnpeaa
open Go.RowKit Go.Sort Go.BigFrame

theorem infoI2 : (Try.prog.info? 3).map (fun i => (i.zero, i.size, i.bytes)) = some (some (.int .i64 0), 1, 8) := by kernel_rfl
/-- as the walk writes it -/
theorem bit_w (S k : Nat) (hS : S < 2 ^ 63) (hk : k ≤ 64) : bits .and .i64 ((S : Int) / 2 ^ k) 1 = if S.testBit k = true then 1 else 0 := by
  have h := bit_is S k hS hk
  rw [shr_nat S k hk, Nat.shiftRight_eq_div_pow] at h
  rw [← h]
  unfold and'
  norm_cast
/-- the bits below k that stand -/
def bitsL (S k : Nat) : List Int := ((List.range k).filter (S.testBit ·)).map (fun i : Nat => (i : Int))
theorem bitsL_succ (S k : Nat) : bitsL S (k + 1) = if S.testBit k = true then bitsL S k ++ [(k : Int)] else bitsL S k := by
  unfold bitsL
  rw [List.range_succ, List.filter_append]
  split
  · rename_i h; simp [h]
  · rename_i h; simp [h]
theorem bitsL_len (S k : Nat) : (bitsL S k).length ≤ k := by
  unfold bitsL
  rw [List.length_map]
  have := List.length_filter_le (S.testBit ·) (List.range k)
  rwa [List.length_range] at this

set_option maxRecDepth 100000 in
set_option maxHeartbeats 1000000 in
theorem membersOf_c (S n : Nat) (hn : n ≤ 62) (hS : S < 2 ^ n) (w : World) :
    Calls Try.prog 108 #[.int .i64 (S : Int)] w fun e w' => ∃ v, e = .returned v ∧ OwI w' w.heap.size v (bitsL S n) ∧ Ext w w' := by
  have hS62 : S < 2 ^ 63 := Nat.lt_of_lt_of_le hS (Nat.pow_le_pow_right (by omega) (by omega))
  have HS := Lib.hid hS62
  have HSn := Lib.hid hS
  clear hS hS62
  go_enter Try.func108, Try.ntmps108
  go_wp2
  go_loopw [3, 4] (fun v i wr => ∃ k : Nat, k ≤ n ∧ i = .int .i64 k ∧ OwI wr w.heap.size v (bitsL S k) ∧ Ext w wr) (fun _ i _ => n - (intOf i).toNat)
  case atStart => exact ⟨0, by omega, rfl, OwI.nil _ _, Ext.refl _⟩
  case round =>
    obtain ⟨k, hk, rfl, hv, hx⟩ := hrel
    by_cases hz : S / 2 ^ k = 0
    · have e0 : (S : Int) / 2 ^ k = 0 := by norm_cast
      go_wp2
      go_ret
      refine ⟨_, rfl, ?_, hx⟩
      have h2 : S < 2 ^ k := by
        exact (Nat.div_eq_zero_iff_lt (Nat.two_pow_pos k)).1 hz
      have : bitsL S k = bitsL S n := by unfold bitsL; rw [filt_bits h2 HSn.out]
      rwa [this] at hv
    · have hlt : k < n := by
        rcases Nat.lt_or_ge k n with h | h
        · exact h
        · exfalso
          apply hz
          exact Nat.div_eq_of_lt (Nat.lt_of_lt_of_le HSn.out (Nat.pow_le_pow_right (by omega) h))
      have hp : (0 : Int) < (S : Int) / 2 ^ k := by
        have : 0 < S / 2 ^ k := by generalize S / 2 ^ k = x at *; omega
        norm_cast
      have hb := bit_w S k HS.out (by omega)
      have hs := bitsL_succ S k
      have hln := bitsL_len S k
      by_cases ht : S.testBit k = true
      · rw [if_pos ht] at hb hs
        have Hs := Lib.hid hs
        clear hs
        have hsz := hx.size
        go_wp2_with (at_builtin; refine ap_int Try.underlying22 infoI2 _ _ rfl rfl rfl (hv.ext ((Ext.refl wr).alloc _)) (g := wr.heap.size) (y := k) rfl (by go_simp) (by omega) (by simp; omega) ?_)
        intro v' w' h1 h2 h3
        go_wp2
        go_roundw
        case rel => exact ⟨k + 1, by omega, by go_num, by rw [Hs.out]; exact h1, h3 _ (hx.alloc _) (Nat.le_refl _)⟩
        case measure => simp [intOf]; omega
      · rw [if_neg ht] at hb hs
        have Hs := Lib.hid hs
        clear hs
        go_wp2
        go_roundw
        case rel => exact ⟨k + 1, by omega, by go_num, by rw [Hs.out]; exact hv, hx⟩
        case measure => simp [intOf]; omega
end Go.Proofs.Ytpainmnekgnpeaa
