import Derived.Test.YtpainmnekgnpeaaRows
import Derived.Test.YtpainmnekgnpeaaM2
import Derived.Outline
import Derived.Lib.Hide
namespace Go.Proofs.Ytpainmnekgnpeaa
open Go.RowKit

theorem infoI : (Try.prog.info? 3).map (fun i => (i.zero, i.size, i.bytes)) = some (some (.int .i64 0), 1, 8) := by kernel_rfl

set_option maxHeartbeats 1000000 in
theorem toIntS_c (A : Option Addr) (c : Nat) (xs : List Int) (w : World) (hl : xs.length ≤ 1048576) (h : In w w.heap.size A xs) :
    Calls Try.prog 16 #[.slice A xs.length c] w fun e w' => ∃ g, e = .returned (.slice (some ⟨g, 0, none⟩) xs.length xs.length) ∧ w.heap.size ≤ g ∧ Bk w' g 3 (xs.map (Value.int .i64)) ∧ Ext w w' := by
  obtain ⟨i0, hi, hz0, hz1, hz2⟩ := info_parts infoI
  have hmk := fun W => run_mk1 (P := Try.prog) 22 3 i0 (.int .i64 0) Try.underlying22 hi hz0 hz1 rfl xs.length (by rw [hz2]; omega) (by omega) W
  clear hi hz0 hz1 hz2
  go_enter Try.func16, Try.ntmps16
  go_wp2
  clear hmk
  go_loopw [4] (fun i wr => ∃ k : Nat, k ≤ xs.length ∧ i = .int .i64 k ∧ Bk wr w.heap.size 3 (fil (xs.map (Value.int .i64)) (.int .i64 0) k) ∧ Ext w wr) (fun i _ => xs.length - (intOf i).toNat)
  case atStart => exact ⟨0, by omega, rfl, by rw [fil_zero, List.length_map]; exact Bk.new _ _ rfl, (Ext.refl _).alloc _⟩
  case round =>
    obtain ⟨k, hk, rfl, hB, hx⟩ := hrel
    by_cases hlt : k < xs.length
    · obtain ⟨b, off, rfl, hbb, c1⟩ := (h.ext hx).at_ hlt
      have c2 : wr.cell? ⟨w.heap.size, k, none⟩ = some (.int .i64 0) := by rw [hB.cell]; exact fil_get _ _ _ (by simpa using hlt)
      have c3 := hB.froz k
      go_wp2
      go_roundw
      case rel =>
        refine ⟨k + 1, by omega, by go_num, ?_, hx.setCell (by simp)⟩
        have := hB.set_ k (.int .i64 xs[k])
        have e := fil_set (xs.map (Value.int .i64)) (.int .i64 0) k (by simpa using hlt)
        rw [List.getElem_map] at e
        rwa [e] at this
      case measure => simp [intOf]; omega
    · obtain rfl : k = xs.length := by omega
      have e := fil_all (xs.map (Value.int .i64)) (.int .i64 0)
      rw [List.length_map] at e
      rw [e] at hB
      go_wp2
      go_ret
      exact ⟨_, rfl, Nat.le_refl _, hB, hx⟩

def cntW (xs : List Int) : Int := (xs.filter (fun x => x != -1)).length
theorem cntW_bd (xs : List Int) : 0 ≤ cntW xs ∧ cntW xs ≤ xs.length := by
  unfold cntW; have := List.length_filter_le (fun x : Int => x != -1) xs; omega
theorem cntW_snoc (xs : List Int) (x : Int) : cntW (xs ++ [x]) = cntW xs + if (x != -1) = true then 1 else 0 := by
  unfold cntW
  rw [List.filter_append]
  by_cases h : (x != -1) = true <;> simp [h]

set_option maxHeartbeats 1000000 in
theorem CountWishes_s (A : Option Addr) (c : Nat) (xs : List Int) (w : World) (hl : xs.length ≤ 1048576) (h : In w w.heap.size A xs) :
    Calls Try.prog 15 #[.slice A xs.length c] w fun e w' => e = .returned (.int .i64 (cntW xs)) ∧ w = w' := by
  go_enter Try.func15, Try.ntmps15
  go_wp2
  go_loop [3, 4] (fun n i => ∃ k : Nat, k ≤ xs.length ∧ i = .int .i64 k ∧ n = .int .i64 (cntW (xs.take k))) (fun _ i => xs.length - (intOf i).toNat)
  case atStart => exact ⟨0, by omega, rfl, rfl⟩
  case round =>
    obtain ⟨k, hk, rfl, rfl⟩ := hrel
    have hb := cntW_bd (xs.take k)
    have hl2 : (xs.take k).length ≤ k := List.length_take_le _ _
    by_cases hlt : k < xs.length
    · obtain ⟨b, off, rfl, hbb, c1⟩ := h.at_ hlt
      have H : Hid (cntW (xs.take (k + 1)) = cntW (xs.take k) + if (xs[k] != -1) = true then 1 else 0) := Lib.hid (by rw [List.take_succ_eq_append_getElem hlt, cntW_snoc])
      go_wp2
      all_goals
        go_round
        case rel => exact ⟨k + 1, by omega, by go_num, by rw [H.out]; first | rw [if_pos (by assumption)] | (rw [if_neg (by simp_all)]; go_num)⟩
        case measure => simp [intOf]; omega
    · go_wp2
      go_ret
      exact ⟨ret_i (by rw [List.take_of_length_le (by omega)]), rfl⟩

set_option maxHeartbeats 1000000 in
theorem CountWishes_i (A : Option Addr) (c : Nat) (xs : List Int) (w : World) (hl : xs.length ≤ 1048576) (h : In w w.heap.size A xs) :
    Calls Try.prog 17 #[.slice A xs.length c] w fun e w' => e = .returned (.int .i64 (cntW xs)) ∧ w = w' := by
  go_enter Try.func17, Try.ntmps17
  go_wp2
  go_loop [3, 5, 8] (fun n _ i => ∃ k : Nat, k ≤ xs.length ∧ i = .int .i64 k ∧ n = .int .i64 (cntW (xs.take k))) (fun _ _ i => xs.length - (intOf i).toNat)
  case atStart => exact ⟨0, by omega, rfl, rfl⟩
  case round =>
    obtain ⟨k, hk, rfl, rfl⟩ := hrel
    have hb := cntW_bd (xs.take k)
    have hl2 : (xs.take k).length ≤ k := List.length_take_le _ _
    by_cases hlt : k < xs.length
    · obtain ⟨b, off, rfl, hbb, c1⟩ := h.at_ hlt
      have H : Hid (cntW (xs.take (k + 1)) = cntW (xs.take k) + if (xs[k] != -1) = true then 1 else 0) := Lib.hid (by rw [List.take_succ_eq_append_getElem hlt, cntW_snoc])
      go_wp2
      all_goals
        go_round
        case rel => exact ⟨k + 1, by omega, by go_num, by rw [H.out]; first | rw [if_pos (by assumption)] | (rw [if_neg (by simp_all)]; go_num)⟩
        case measure => simp [intOf]; omega
    · go_wp2
      go_ret
      exact ⟨ret_i (by rw [List.take_of_length_le (by omega)]), rfl⟩
end Go.Proofs.Ytpainmnekgnpeaa
