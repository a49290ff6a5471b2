import Derived.Test.YtdcghlklikbfcaaRows
import Derived.Test.YtdcghlklikbfcaaG1
import Derived.Outline
import Derived.Lib.Hide
import Derived.BigQuiet
import Derived.WalkLawsBesides
import Derived.Test.YtdcghlklikbfcaaG2
import Derived.Test.YtdcghlklikbfcaaG6
namespace Go.Proofs.Ytdcghlklikbfcaa
open Go.RowKit

theorem infoI : (Try.prog.info? 3).map (fun i => (i.zero, i.size, i.bytes)) = some (some (.int .i64 0), 1, 8) := by kernel_rfl

def cntW (xs : List Int) : Int := (xs.filter (fun x => x != -1)).length
theorem cntW_bd (xs : List Int) : 0 ≤ cntW xs ∧ cntW xs ≤ xs.length := by
  unfold cntW; have := List.length_filter_le (fun x : Int => x != -1) xs; omega
theorem cntW_snoc (xs : List Int) (x : Int) : cntW (xs ++ [x]) = cntW xs + if (x != -1) = true then 1 else 0 := by
  unfold cntW
  rw [List.filter_append]
  by_cases h : (x != -1) = true <;> simp [h]

end Go.Proofs.Ytdcghlklikbfcaa

namespace Go.Proofs.Ytdcghlklikbfcaa
open Go.RowKit Go.Sort Go.BigFrame

end Go.Proofs.Ytdcghlklikbfcaa

namespace Go.Proofs.Ytdcghlklikbfcaa
open Go.RowKit Go.Sort Go.BigFrame

theorem madeCells_two (z : Value) (n : Nat) : madeCells #[z, z] n = (List.replicate n z).toArray := by
  apply Array.ext
  · simp [madeCells]
  · intro i h1 h2
    have hi : i < n := by simpa [madeCells] using h1
    rcases Nat.mod_two_eq_zero_or_one i with h | h <;> simp [madeCells, h]
/-- make of a slice of two-cell elements -/
theorem run_mk2 {P : Program} (t e : TypeId) (i : TypeInfo) (a z : Value) (ht : P.underlying t = some (.slice e)) (hi : P.info? e = some i) (hz : i.zero = some a) (hs : i.size = 2) (hzc : a.cells = #[z, z])
    (n : Nat) (hb : i.bytes * n ≤ 281474976710656) (h63 : n ≤ 9223372036854775807) (w : World) :
    (Instr.makeSlice t (.int .i64 (n : Int)) (.int .i64 (n : Int))).run P w = .ok (.slice (some ⟨w.heap.size, 0, none⟩) n n) (w.alloc (.cells (List.replicate (n * 2) z).toArray e)) := by
  have hb' : (i.bytes : Int) * (n : Int) ≤ 281474976710656 := by
    have h : ((i.bytes * n : Nat) : Int) ≤ 281474976710656 := by omega
    rwa [Int.natCast_mul] at h
  have hr := run_make (P := P) w t e i a ht hi hz .i64 .i64 n n (by omega) (by omega) hb' (by omega)
  simp only [Int.toNat_natCast, hs, hzc] at hr
  rw [hr, madeCells_two]
theorem Ext.froz {w w1 : World} (hb : Ext w w1) {b o : Nat} (hlt : b < w.heap.size) (h : w.frozen? ⟨b, o, none⟩ = false) : w1.frozen? ⟨b, o, none⟩ = false := by
  rw [Below.frozen hb (p := ⟨b, o, none⟩) hlt]; exact h
theorem fil_get' (xs : List Value) (z : Value) (k : Nat) (h : k < xs.length) : (fil xs z k)[k]? = some z := fil_get xs z k h
theorem fil_set2 (l : List P2) (z : Value) (k : Nat) (hk : k < l.length) :
    ((fil (l.flatMap pc) z (k * 2)).set (k * 2) (.int .i64 (gp l k).1)).set (k * 2 + 1) (.int .i64 (gp l k).2) = fil (l.flatMap pc) z ((k + 1) * 2) := by
  have hl := pcs_length l
  obtain ⟨h1, h2⟩ := pcs_get l k hk
  rw [gp_nat l k hk]
  have g1 : (l.flatMap pc)[k * 2]'(by omega) = .int .i64 l[k].1 := by rw [List.getElem?_eq_getElem (by omega)] at h1; injection h1
  have g2 : (l.flatMap pc)[k * 2 + 1]'(by omega) = .int .i64 l[k].2 := by rw [List.getElem?_eq_getElem (by omega)] at h2; injection h2
  rw [← g1, fil_set _ _ _ (by omega), ← g2, fil_set _ _ _ (by omega)]
  congr 1
  omega
theorem Bk.pr {w : World} {g : Nat} {t : TypeId} {l : List P2} (h : Bk w g t (l.flatMap pc)) : Pr w w.heap.size (some ⟨g, 0, none⟩) l := h.sl (pcs_length l)

set_option maxHeartbeats 400000 in
theorem szNodeS_c (A : Option Addr) (n c : Nat) (left : Int) (w : World) (hn : n ≤ 9223372036854775807) (hl : 0 ≤ left ∧ left ≤ 1048576) :
    Calls Try.prog 25 #[.slice A n c, .int .i64 left] w fun e w' => e = .returned (.int .i64 (if left - n < 0 then -1 else left - n)) ∧ w = w' := by
  go_enter Try.func25, Try.ntmps25
  by_cases h : left - (n : Int) < 0
  · go_wp2
    go_ret
    exact ⟨ret_i (by first | rfl | rw [if_pos (by omega)] | rw [if_neg (by omega)]), rfl⟩
  · go_wp2
    go_ret
    exact ⟨ret_i (by first | rfl | rw [if_pos (by omega)] | rw [if_neg (by omega)]), rfl⟩
set_option maxHeartbeats 400000 in
theorem szLeadS_c (A : Option Addr) (n c : Nat) (left : Int) (w : World) (hn : n ≤ 9223372036854775807) (hl : 0 ≤ left ∧ left ≤ 1048576) :
    Calls Try.prog 26 #[.slice A n c, .int .i64 left] w fun e w' => e = .returned (.int .i64 (if left - n < 0 then -1 else left - n)) ∧ w = w' := by
  go_enter Try.func26, Try.ntmps26
  by_cases h : left - (n : Int) < 0
  · go_wp2
    go_ret
    exact ⟨ret_i (by first | rfl | rw [if_pos (by omega)] | rw [if_neg (by omega)]), rfl⟩
  · go_wp2
    go_ret
    exact ⟨ret_i (by first | rfl | rw [if_pos (by omega)] | rw [if_neg (by omega)]), rfl⟩
set_option maxHeartbeats 800000 in
theorem szWindow_c (A B : Option Addr) (n c m d : Nat) (w : World) (hn : n ≤ 9223372036854775807) (hm : m ≤ 9223372036854775807) :
    Calls Try.prog 5 #[.agg #[.slice A n c, .slice B m d], .int .i64 1048576] w fun e w' => e = .returned (.int .i64 (if (1048576 : Int) - n - m < 0 then -1 else 1048576 - n - m)) ∧ Ext w w' := by
  go_enter Try.func5, Try.ntmps5
  go_wp2_with fail
  refine (szNodeS_c A n c 1048576 _ hn (by omega)).mono ?_
  rintro e w1 ⟨rfl, rfl⟩
  by_cases h : (1048576 : Int) - (n : Int) < 0
  · rw [if_pos h]
    go_wp2
    go_ret
    exact ⟨ret_i (by first | rfl | rw [if_pos (by omega)] | rw [if_neg (by omega)]), (by repeat first | exact Ext.refl _ | assumption | refine Ext.drew ?_ | refine Ext.alloc ?_ _ | refine Ext.setCell ?_ (by simp) | refine Ext.setCell ?_ (by simp; omega) | refine Ext.trans ?_ (by assumption))⟩
  · rw [if_neg h]
    go_wp2_with fail
    refine (szLeadS_c B m d _ _ hm (by omega)).mono ?_
    rintro e w1 ⟨rfl, rfl⟩
    by_cases h2 : (1048576 : Int) - (n : Int) - m < 0
    · rw [if_pos h2]
      go_wp2
      go_ret
      exact ⟨ret_i (by first | rfl | rw [if_pos (by omega)] | rw [if_neg (by omega)]), (by repeat first | exact Ext.refl _ | assumption | refine Ext.drew ?_ | refine Ext.alloc ?_ _ | refine Ext.setCell ?_ (by simp) | refine Ext.setCell ?_ (by simp; omega) | refine Ext.trans ?_ (by assumption))⟩
    · rw [if_neg h2]
      go_wp2
      go_ret
      exact ⟨ret_i (by first | rfl | rw [if_pos (by omega)] | rw [if_neg (by omega)]), (by repeat first | exact Ext.refl _ | assumption | refine Ext.drew ?_ | refine Ext.alloc ?_ _ | refine Ext.setCell ?_ (by simp) | refine Ext.setCell ?_ (by simp; omega) | refine Ext.trans ?_ (by assumption))⟩


theorem infoNode : (Try.prog.info? 71).map (fun i => (i.zero, i.size, i.bytes)) = some (some (.agg #[.int .i64 0, .int .i64 0]), 2, 16) := by kernel_rfl
set_option maxHeartbeats 400000 in
theorem toNode_c (x y : Int) (w : World) :
    Calls Try.prog 52 #[.agg #[.int .i64 x, .int .i64 y]] w fun e w' => e = .returned (.agg #[.int .i64 x, .int .i64 y]) ∧ Ext w w' := by
  go_enter Try.func52, Try.ntmps52
  go_wp2
  (try simp only [Exit.inBlock, Exit.then])
  refine bodyPost_ret (by simp [results, Try.results52, go_sem]; try rfl) rfl ?_
  exact ⟨rfl, (by repeat first | exact Ext.refl _ | assumption | refine Ext.drew ?_ | refine Ext.alloc ?_ _ | refine Ext.setCell ?_ (by simp) | refine Ext.setCell ?_ (by simp; omega) | refine Ext.trans ?_ (by assumption))⟩

set_option maxHeartbeats 1000000 in
theorem toNodeS_c (A : Option Addr) (c : Nat) (l : List P2) (w : World) (hl : l.length ≤ 1048576) (h : Pr w w.heap.size A l) :
    Calls Try.prog 30 #[.slice A l.length c] w fun e w' => ∃ g, e = .returned (.slice (some ⟨g, 0, none⟩) l.length l.length) ∧ w.heap.size ≤ g ∧ Bk w' g 71 (l.flatMap pc) ∧ Ext w w' := by
  obtain ⟨i0, hi, hz0, hz1, hz2⟩ := info_parts infoNode
  have hmk := fun W => run_mk2 (P := Try.prog) 28 71 i0 _ (.int .i64 0) Try.underlying28 hi hz0 hz1 rfl l.length (by rw [hz2]; omega) (by omega) W
  clear hi hz0 hz1 hz2
  go_enter Try.func30, Try.ntmps30
  go_wp2
  clear hmk
  have hpl := pcs_length l
  go_loopw [4] (fun i wr => ∃ k : Nat, k ≤ l.length ∧ i = .int .i64 k ∧ Bk wr w.heap.size 71 (fil (l.flatMap pc) (.int .i64 0) (k * 2)) ∧ Ext w wr) (fun i _ => l.length - (intOf i).toNat)
  case atStart => exact ⟨0, by omega, rfl, by rw [Nat.zero_mul, fil_zero, hpl]; exact Bk.new _ _ rfl, (Ext.refl _).alloc _⟩
  case round =>
    obtain ⟨k, hk, rfl, hB, hx⟩ := hrel
    obtain ⟨wo, rfl⟩ : ∃ x : World, x = wr := ⟨_, rfl⟩
    by_cases hlt : k < l.length
    · obtain ⟨b, off, rfl, hbb, c1, c2⟩ := (h.ext hx).gp_ hlt
      have hset := fil_set2 l (.int .i64 0) k hlt
      have Hset := Lib.hid hset
      clear hset hpl
      go_wp2_with fail
      refine (toNode_c _ _ _).mono ?_
      rintro e w2 ⟨rfl, hb⟩
      have hB2 := hB.ext hb
      have hpl := pcs_length l
      have c3 : w2.cell? ⟨w.heap.size, k * 2, none⟩ = some (.int .i64 0) := by rw [hB2.cell]; exact fil_get _ _ _ (by omega)
      have c4 : w2.cell? ⟨w.heap.size, k * 2 + 1, none⟩ = some (.int .i64 0) := by
        rw [hB2.cell]
        unfold fil
        rw [List.getElem?_append_right (by rw [List.length_take]; omega), List.getElem?_replicate, if_pos (by rw [List.length_take]; omega)]
      have c5 := hB2.froz (k * 2)
      have c6 := hB2.froz (k * 2 + 1)
      have hk2 : (k : Int) < l.length := by omega
      clear hpl
      go_wp2
      go_roundw
      case rel =>
        refine ⟨k + 1, by omega, by go_num, ?_, ((hx.trans hb).setCell (by simp)).setCell (by simp)⟩
        have := (hB2.set_ (k * 2) (.int .i64 (gp l k).1)).set_ (k * 2 + 1) (.int .i64 (gp l k).2)
        rw [Hset.out] at this
        exact this
      case measure => simp [intOf]; omega
    · obtain rfl : k = l.length := by omega
      have e := fil_all (l.flatMap pc) (.int .i64 0)
      rw [hpl] at e
      rw [e] at hB
      go_wp2
      go_ret
      exact ⟨_, rfl, Nat.le_refl _, hB, hx⟩

theorem infoLead : (Try.prog.info? 55).map (fun i => (i.zero, i.size, i.bytes)) = some (some (.agg #[.int .i64 0, .int .i64 0]), 2, 16) := by kernel_rfl
set_option maxHeartbeats 400000 in
theorem toLead_c (x y : Int) (w : World) :
    Calls Try.prog 53 #[.agg #[.int .i64 x, .int .i64 y]] w fun e w' => e = .returned (.agg #[.int .i64 x, .int .i64 y]) ∧ Ext w w' := by
  go_enter Try.func53, Try.ntmps53
  go_wp2
  (try simp only [Exit.inBlock, Exit.then])
  refine bodyPost_ret (by simp [results, Try.results53, go_sem]; try rfl) rfl ?_
  exact ⟨rfl, (by repeat first | exact Ext.refl _ | assumption | refine Ext.drew ?_ | refine Ext.alloc ?_ _ | refine Ext.setCell ?_ (by simp) | refine Ext.setCell ?_ (by simp; omega) | refine Ext.trans ?_ (by assumption))⟩

set_option maxHeartbeats 1000000 in
theorem toLeadS_c (A : Option Addr) (c : Nat) (l : List P2) (w : World) (hl : l.length ≤ 1048576) (h : Pr w w.heap.size A l) :
    Calls Try.prog 31 #[.slice A l.length c] w fun e w' => ∃ g, e = .returned (.slice (some ⟨g, 0, none⟩) l.length l.length) ∧ w.heap.size ≤ g ∧ Bk w' g 55 (l.flatMap pc) ∧ Ext w w' := by
  obtain ⟨i0, hi, hz0, hz1, hz2⟩ := info_parts infoLead
  have hmk := fun W => run_mk2 (P := Try.prog) 29 55 i0 _ (.int .i64 0) Try.underlying29 hi hz0 hz1 rfl l.length (by rw [hz2]; omega) (by omega) W
  clear hi hz0 hz1 hz2
  go_enter Try.func31, Try.ntmps31
  go_wp2
  clear hmk
  have hpl := pcs_length l
  go_loopw [4] (fun i wr => ∃ k : Nat, k ≤ l.length ∧ i = .int .i64 k ∧ Bk wr w.heap.size 55 (fil (l.flatMap pc) (.int .i64 0) (k * 2)) ∧ Ext w wr) (fun i _ => l.length - (intOf i).toNat)
  case atStart => exact ⟨0, by omega, rfl, by rw [Nat.zero_mul, fil_zero, hpl]; exact Bk.new _ _ rfl, (Ext.refl _).alloc _⟩
  case round =>
    obtain ⟨k, hk, rfl, hB, hx⟩ := hrel
    obtain ⟨wo, rfl⟩ : ∃ x : World, x = wr := ⟨_, rfl⟩
    by_cases hlt : k < l.length
    · obtain ⟨b, off, rfl, hbb, c1, c2⟩ := (h.ext hx).gp_ hlt
      have hset := fil_set2 l (.int .i64 0) k hlt
      have Hset := Lib.hid hset
      clear hset hpl
      go_wp2_with fail
      refine (toLead_c _ _ _).mono ?_
      rintro e w2 ⟨rfl, hb⟩
      have hB2 := hB.ext hb
      have hpl := pcs_length l
      have c3 : w2.cell? ⟨w.heap.size, k * 2, none⟩ = some (.int .i64 0) := by rw [hB2.cell]; exact fil_get _ _ _ (by omega)
      have c4 : w2.cell? ⟨w.heap.size, k * 2 + 1, none⟩ = some (.int .i64 0) := by
        rw [hB2.cell]
        unfold fil
        rw [List.getElem?_append_right (by rw [List.length_take]; omega), List.getElem?_replicate, if_pos (by rw [List.length_take]; omega)]
      have c5 := hB2.froz (k * 2)
      have c6 := hB2.froz (k * 2 + 1)
      have hk2 : (k : Int) < l.length := by omega
      clear hpl
      go_wp2
      go_roundw
      case rel =>
        refine ⟨k + 1, by omega, by go_num, ?_, ((hx.trans hb).setCell (by simp)).setCell (by simp)⟩
        have := (hB2.set_ (k * 2) (.int .i64 (gp l k).1)).set_ (k * 2 + 1) (.int .i64 (gp l k).2)
        rw [Hset.out] at this
        exact this
      case measure => simp [intOf]; omega
    · obtain rfl : k = l.length := by omega
      have e := fil_all (l.flatMap pc) (.int .i64 0)
      rw [hpl] at e
      rw [e] at hB
      go_wp2
      go_ret
      exact ⟨_, rfl, Nat.le_refl _, hB, hx⟩
end Go.Proofs.Ytdcghlklikbfcaa

namespace Go.Proofs.Ytdcghlklikbfcaa
open Go.RowKit Go.Sort Go.BigFrame

set_option maxHeartbeats 400000 in
theorem eqNode_c (x y : Int) (w : World) :
    Calls Try.prog 57 #[.agg #[.int .i64 x, .int .i64 y], .agg #[.int .i64 x, .int .i64 y]] w fun e w' => e = .returned (.bool true) ∧ Ext w w' := by
  have h1 : (x != x) = false := by simp
  have h2 : (y != y) = false := by simp
  go_enter Try.func57, Try.ntmps57
  go_wp2
  go_ret
  exact ⟨rfl, (by repeat first | exact Ext.refl _ | assumption | refine Ext.drew ?_ | refine Ext.alloc ?_ _ | refine Ext.setCell ?_ (by simp) | refine Ext.setCell ?_ (by simp; omega) | refine Ext.trans ?_ (by assumption))⟩

set_option maxRecDepth 100000 in
set_option maxHeartbeats 1000000 in
theorem eqNodeS_c (A B : Option Addr) (c d : Nat) (l : List P2) (w : World) (hl : l.length ≤ 2000000) (h : Pr w w.heap.size A l) (h' : Pr w w.heap.size B l) :
    Calls Try.prog 35 #[.slice A l.length c, .slice B l.length d] w fun e w' => e = .returned (.bool true) ∧ Ext w w' := by
  have hd : ((l.length : Int) != (l.length : Int)) = false := by simp
  go_enter Try.func35, Try.ntmps35
  go_wp2
  go_loopw [5] (fun i wr => ∃ k : Nat, k ≤ l.length ∧ i = .int .i64 k ∧ Ext w wr) (fun i _ => l.length - (intOf i).toNat)
  case atStart => exact ⟨0, by omega, rfl, Ext.refl _⟩
  case round =>
    obtain ⟨k, hk, rfl, hx⟩ := hrel
    obtain ⟨wo, rfl⟩ : ∃ x : World, x = wr := ⟨_, rfl⟩
    by_cases hlt : k < l.length
    · obtain ⟨b, off, rfl, hbb, c1, c2⟩ := (h.ext hx).gp_ hlt
      obtain ⟨b', off', rfl, hbb', c3, c4⟩ := (h'.ext hx).gp_ hlt
      have d1 := cell_regrown c1
      have d2 := cell_regrown c2
      have d3 := cell_regrown c3
      have d4 := cell_regrown c4
      have hi : (k : Int) < l.length := by omega
      go_wp2
      refine rx_open [(true, 0, some 17, 1), (true, 0, some 18, 32), (true, 3, some 19, 393216), (true, 4, some 20, 524288), (true, 0, some 21, 2), (true, 0, some 22, 32), (true, 48, some 23, 6291456), (true, 64, some 24, 8388608), (false, 136, some 25, 17825792), (true, 256, some 26, 33554432)] 0 10 mixd rfl (by kernel_rfl) (by kernel_rfl) (by kernel_rfl) ?_
      refine rx_run (run := [0, 1, 2, 3, 4, 5, 6, 7]) (k := 2) (m' := 255) rfl (by kernel_rfl) (by kernel_rfl) (by kernel_rfl) (fm_cons rfl <| fm_cons rfl <| fm_cons rfl <| fm_cons rfl <| fm_cons rfl <| fm_cons rfl <| fm_cons rfl <| fm_cons rfl <| List.filterMap_nil) (by repeat first | exact Ext.refl _ | assumption | refine Ext.drew ?_ | refine Ext.alloc ?_ _ | refine Ext.setCell ?_ (by simp) | refine Ext.setCell ?_ (by simp; omega) | refine Ext.trans ?_ (by assumption)) ?_
      repeat (go_big_quiet_step ((fail)))
      refine wpQuiet_nil ?_
      refine rx_op 8 (k := 1) (m' := 511) rfl rfl (by kernel_rfl) (by kernel_rfl) ?_
      go_wp2_with ((go_at_call 57; refine (eqNode_c _ _ _).mono ?_; rintro e w5 ⟨rfl, hb5⟩))
      refine rx_on (by repeat first | exact Ext.refl _ | assumption | refine Ext.drew ?_ | refine Ext.alloc ?_ _ | refine Ext.setCell ?_ (by simp) | refine Ext.setCell ?_ (by simp; omega) | refine Ext.trans ?_ (by assumption)) ?_
      refine rx_run (run := [9]) (k := 0) (m' := 1023) rfl (by kernel_rfl) (by kernel_rfl) (by kernel_rfl) (fm_cons rfl <| List.filterMap_nil) (by repeat first | exact Ext.refl _ | assumption | refine Ext.drew ?_ | refine Ext.alloc ?_ _ | refine Ext.setCell ?_ (by simp) | refine Ext.setCell ?_ (by simp; omega) | refine Ext.trans ?_ (by assumption)) ?_
      repeat (go_big_quiet_step ((fail)))
      refine wpQuiet_nil ?_
      refine rx_end (by kernel_rfl) ?_
      go_wp2
      go_roundw
      case rel => exact ⟨k + 1, by omega, by go_num, hx.trans (by repeat first | exact Ext.refl _ | assumption | refine Ext.drew ?_ | refine Ext.alloc ?_ _ | refine Ext.setCell ?_ (by simp) | refine Ext.setCell ?_ (by simp; omega) | refine Ext.trans ?_ (by assumption))⟩
      case measure => simp [intOf]; omega
    · go_wp2
      go_ret
      exact ⟨rfl, hx⟩

set_option maxHeartbeats 400000 in
theorem eqLead_c (x y : Int) (w : World) :
    Calls Try.prog 58 #[.agg #[.int .i64 x, .int .i64 y], .agg #[.int .i64 x, .int .i64 y]] w fun e w' => e = .returned (.bool true) ∧ Ext w w' := by
  have h1 : (x != x) = false := by simp
  have h2 : (y != y) = false := by simp
  go_enter Try.func58, Try.ntmps58
  go_wp2
  go_ret
  exact ⟨rfl, (by repeat first | exact Ext.refl _ | assumption | refine Ext.drew ?_ | refine Ext.alloc ?_ _ | refine Ext.setCell ?_ (by simp) | refine Ext.setCell ?_ (by simp; omega) | refine Ext.trans ?_ (by assumption))⟩

set_option maxRecDepth 100000 in
set_option maxHeartbeats 1000000 in
theorem eqLeadS_c (A B : Option Addr) (c d : Nat) (l : List P2) (w : World) (hl : l.length ≤ 2000000) (h : Pr w w.heap.size A l) (h' : Pr w w.heap.size B l) :
    Calls Try.prog 36 #[.slice A l.length c, .slice B l.length d] w fun e w' => e = .returned (.bool true) ∧ Ext w w' := by
  have hd : ((l.length : Int) != (l.length : Int)) = false := by simp
  go_enter Try.func36, Try.ntmps36
  go_wp2
  go_loopw [5] (fun i wr => ∃ k : Nat, k ≤ l.length ∧ i = .int .i64 k ∧ Ext w wr) (fun i _ => l.length - (intOf i).toNat)
  case atStart => exact ⟨0, by omega, rfl, Ext.refl _⟩
  case round =>
    obtain ⟨k, hk, rfl, hx⟩ := hrel
    obtain ⟨wo, rfl⟩ : ∃ x : World, x = wr := ⟨_, rfl⟩
    by_cases hlt : k < l.length
    · obtain ⟨b, off, rfl, hbb, c1, c2⟩ := (h.ext hx).gp_ hlt
      obtain ⟨b', off', rfl, hbb', c3, c4⟩ := (h'.ext hx).gp_ hlt
      have d1 := cell_regrown c1
      have d2 := cell_regrown c2
      have d3 := cell_regrown c3
      have d4 := cell_regrown c4
      have hi : (k : Int) < l.length := by omega
      go_wp2
      refine rx_open [(true, 0, some 17, 1), (true, 0, some 18, 32), (true, 3, some 19, 393216), (true, 4, some 20, 524288), (true, 0, some 21, 2), (true, 0, some 22, 32), (true, 48, some 23, 6291456), (true, 64, some 24, 8388608), (false, 136, some 25, 17825792), (true, 256, some 26, 33554432)] 0 10 mixd rfl (by kernel_rfl) (by kernel_rfl) (by kernel_rfl) ?_
      refine rx_run (run := [0, 1, 2, 3, 4, 5, 6, 7]) (k := 2) (m' := 255) rfl (by kernel_rfl) (by kernel_rfl) (by kernel_rfl) (fm_cons rfl <| fm_cons rfl <| fm_cons rfl <| fm_cons rfl <| fm_cons rfl <| fm_cons rfl <| fm_cons rfl <| fm_cons rfl <| List.filterMap_nil) (by repeat first | exact Ext.refl _ | assumption | refine Ext.drew ?_ | refine Ext.alloc ?_ _ | refine Ext.setCell ?_ (by simp) | refine Ext.setCell ?_ (by simp; omega) | refine Ext.trans ?_ (by assumption)) ?_
      repeat (go_big_quiet_step ((fail)))
      refine wpQuiet_nil ?_
      refine rx_op 8 (k := 1) (m' := 511) rfl rfl (by kernel_rfl) (by kernel_rfl) ?_
      go_wp2_with ((go_at_call 58; refine (eqLead_c _ _ _).mono ?_; rintro e w5 ⟨rfl, hb5⟩))
      refine rx_on (by repeat first | exact Ext.refl _ | assumption | refine Ext.drew ?_ | refine Ext.alloc ?_ _ | refine Ext.setCell ?_ (by simp) | refine Ext.setCell ?_ (by simp; omega) | refine Ext.trans ?_ (by assumption)) ?_
      refine rx_run (run := [9]) (k := 0) (m' := 1023) rfl (by kernel_rfl) (by kernel_rfl) (by kernel_rfl) (fm_cons rfl <| List.filterMap_nil) (by repeat first | exact Ext.refl _ | assumption | refine Ext.drew ?_ | refine Ext.alloc ?_ _ | refine Ext.setCell ?_ (by simp) | refine Ext.setCell ?_ (by simp; omega) | refine Ext.trans ?_ (by assumption)) ?_
      repeat (go_big_quiet_step ((fail)))
      refine wpQuiet_nil ?_
      refine rx_end (by kernel_rfl) ?_
      go_wp2
      go_roundw
      case rel => exact ⟨k + 1, by omega, by go_num, hx.trans (by repeat first | exact Ext.refl _ | assumption | refine Ext.drew ?_ | refine Ext.alloc ?_ _ | refine Ext.setCell ?_ (by simp) | refine Ext.setCell ?_ (by simp; omega) | refine Ext.trans ?_ (by assumption))⟩
      case measure => simp [intOf]; omega
    · go_wp2
      go_ret
      exact ⟨rfl, hx⟩

set_option maxRecDepth 100000 in
set_option maxHeartbeats 1000000 in
theorem eqWindow_c (A B A' B' : Option Addr) (c d c' d' : Nat) (ns ls : List P2) (w : World) (hl : ns.length ≤ 2000000) (hm : ls.length ≤ 2000000) (h : Pr w w.heap.size A ns) (h' : Pr w w.heap.size A' ns) (g : Pr w w.heap.size B ls) (g' : Pr w w.heap.size B' ls) :
    Calls Try.prog 9 #[.agg #[.slice A ns.length c, .slice B ls.length d], .agg #[.slice A' ns.length c', .slice B' ls.length d']] w fun e w' => e = .returned (.bool true) ∧ Ext w w' := by
  go_enter Try.func9, Try.ntmps9
  go_wp2_with fail
  refine (eqNodeS_c A A' c c' ns _ hl (h.ext (by repeat first | exact Ext.refl _ | assumption | refine Ext.drew ?_ | refine Ext.alloc ?_ _ | refine Ext.setCell ?_ (by simp) | refine Ext.setCell ?_ (by simp; omega) | refine Ext.trans ?_ (by assumption))) (h'.ext (by repeat first | exact Ext.refl _ | assumption | refine Ext.drew ?_ | refine Ext.alloc ?_ _ | refine Ext.setCell ?_ (by simp) | refine Ext.setCell ?_ (by simp; omega) | refine Ext.trans ?_ (by assumption)))).mono ?_
  rintro e w1 ⟨rfl, hb⟩
  have k0 := hb.lit (b := w.heap.size) (o := 1) (v := .slice B ls.length d) (by go_simp)
  have k1 := hb.lit (b := w.heap.size + 1) (o := 1) (v := .slice B' ls.length d') (by go_simp)
  have hx : Ext w w1 := (by repeat first | exact Ext.refl _ | assumption | refine Ext.drew ?_ | refine Ext.alloc ?_ _ | refine Ext.setCell ?_ (by simp) | refine Ext.setCell ?_ (by simp; omega) | refine Ext.trans ?_ (by assumption))
  clear hb
  go_wp2_with fail
  refine (eqLeadS_c B B' d d' ls _ hm (g.ext hx) (g'.ext hx)).mono ?_
  rintro e w2 ⟨rfl, hb⟩
  go_wp2
  go_ret
  exact ⟨rfl, hx.trans hb⟩

set_option maxRecDepth 100000 in
set_option maxHeartbeats 1000000 in
theorem toWindow_c (A B : Option Addr) (c d : Nat) (ns ls : List P2) (w : World) (hl : ns.length ≤ 1048576) (hm : ls.length ≤ 1048576) (h : Pr w w.heap.size A ns) (g : Pr w w.heap.size B ls) :
    Calls Try.prog 7 #[.agg #[.slice A ns.length c, .slice B ls.length d]] w fun e w' => ∃ g1 g2, e = .returned (.agg #[.slice (some ⟨g1, 0, none⟩) ns.length ns.length, .slice (some ⟨g2, 0, none⟩) ls.length ls.length]) ∧
      w.heap.size ≤ g1 ∧ g1 < g2 ∧ Bk w' g1 71 (ns.flatMap pc) ∧ Bk w' g2 55 (ls.flatMap pc) ∧ Ext w w' := by
  go_enter Try.func7, Try.ntmps7
  go_wp2_with fail
  refine (toNodeS_c A c ns _ hl (h.ext (by repeat first | exact Ext.refl _ | assumption | refine Ext.drew ?_ | refine Ext.alloc ?_ _ | refine Ext.setCell ?_ (by simp) | refine Ext.setCell ?_ (by simp; omega) | refine Ext.trans ?_ (by assumption)))).mono ?_
  rintro e w1 ⟨g1, rfl, hg1, hB1, hb⟩
  have k0 := hb.lit (b := w.heap.size) (o := 1) (v := .slice B ls.length d) (by go_simp)
  have k1 := hb.lit (b := w.heap.size + 2) (o := 0) (v := .slice none 0 0) (by go_simp)
  have k2 := hb.lit (b := w.heap.size + 2) (o := 1) (v := .slice none 0 0) (by go_simp)
  have k3 := hb.lit (b := w.heap.size + 1) (o := 0) (v := .slice none 0 0) (by go_simp)
  have k4 := hb.lit (b := w.heap.size + 1) (o := 1) (v := .slice none 0 0) (by go_simp)
  have f1 := hb.froz (b := w.heap.size + 2) (o := 0) (by simp) (by go_simp)
  have f2 := hb.froz (b := w.heap.size + 2) (o := 1) (by simp) (by go_simp)
  have f3 := hb.froz (b := w.heap.size + 1) (o := 0) (by simp) (by go_simp)
  have f4 := hb.froz (b := w.heap.size + 1) (o := 1) (by simp) (by go_simp)
  have hg1' : w.heap.size + 3 ≤ g1 := by simpa using hg1
  have hx : Ext w w1 := (by repeat first | exact Ext.refl _ | assumption | refine Ext.drew ?_ | refine Ext.alloc ?_ _ | refine Ext.setCell ?_ (by simp) | refine Ext.setCell ?_ (by simp; omega) | refine Ext.trans ?_ (by assumption))
  have hsz := hB1.lt
  go_wp2_with fail
  have hxs : Ext w (w1.setCell ⟨w.heap.size + 1 + 1, 0, none⟩ (.slice (some ⟨g1, 0, none⟩) ns.length ns.length)) := hx.setCell (by simp; omega)
  have hsz1 : w.heap.size + 3 ≤ w1.heap.size := by omega
  have hB1' : Bk (w1.setCell ⟨w.heap.size + 1 + 1, 0, none⟩ (.slice (some ⟨g1, 0, none⟩) ns.length ns.length)) g1 71 (ns.flatMap pc) := hB1.far (by simp; omega) _
  refine (toLeadS_c B d ls _ hm (g.ext hxs)).mono ?_
  rintro e w2 ⟨g2, rfl, hg2, hB2, hb2⟩
  have m1 := hb2.lit (b := w.heap.size + 2) (o := 0) (v := .slice (some ⟨g1, 0, none⟩) ns.length ns.length) (by go_simp)
  have m2 := hb2.lit (b := w.heap.size + 2) (o := 1) (v := .slice none 0 0) (by go_simp)
  have m3 := hb2.lit (b := w.heap.size + 1) (o := 0) (v := .slice none 0 0) (by go_simp)
  have m4 := hb2.lit (b := w.heap.size + 1) (o := 1) (v := .slice none 0 0) (by go_simp)
  have n1 := hb2.froz (b := w.heap.size + 2) (o := 0) (by simp; omega) (by go_simp)
  have n2 := hb2.froz (b := w.heap.size + 2) (o := 1) (by simp; omega) (by go_simp)
  have n3 := hb2.froz (b := w.heap.size + 1) (o := 0) (by simp; omega) (by go_simp)
  have n4 := hb2.froz (b := w.heap.size + 1) (o := 1) (by simp; omega) (by go_simp)
  have hx2 := hxs.trans hb2
  have hB1'' := hB1'.ext hb2
  have hg2' : w1.heap.size ≤ g2 := by simpa using hg2
  clear k0 k1 k2 k3 k4 f1 f2 f3 f4 hb hb2 hB1' hxs hx hB1
  have q1 : (((w2.setCell ⟨w.heap.size + 1 + 1, 1, none⟩ (.slice (some ⟨g2, 0, none⟩) ls.length ls.length)).setCell ⟨w.heap.size + 1, 0, none⟩ (.slice (some ⟨g1, 0, none⟩) ns.length ns.length)).setCell ⟨w.heap.size + 1, 1, none⟩ (.slice (some ⟨g2, 0, none⟩) ls.length ls.length)).cell? ⟨w.heap.size + 1, 0, none⟩ = some (.slice (some ⟨g1, 0, none⟩) ns.length ns.length) := by go_simp
  have q2 : (((w2.setCell ⟨w.heap.size + 1 + 1, 1, none⟩ (.slice (some ⟨g2, 0, none⟩) ls.length ls.length)).setCell ⟨w.heap.size + 1, 0, none⟩ (.slice (some ⟨g1, 0, none⟩) ns.length ns.length)).setCell ⟨w.heap.size + 1, 1, none⟩ (.slice (some ⟨g2, 0, none⟩) ls.length ls.length)).cell? ⟨w.heap.size + 1, 1, none⟩ = some (.slice (some ⟨g2, 0, none⟩) ls.length ls.length) := by go_simp
  go_wp2
  (try simp only [Exit.inBlock, Exit.then])
  refine bodyPost_ret (by simp [results, Try.results7, go_sem, q1, q2]; try rfl) rfl ?_
  refine ⟨g1, g2, rfl, by omega, by omega, ?_, ?_, ?_⟩
  · exact ((hB1''.far (by simp; omega) _).far (by simp; omega) _).far (by simp; omega) _
  · exact ((hB2.far (by simp; omega) _).far (by simp; omega) _).far (by simp; omega) _
  · exact ((hx2.setCell (by simp; omega)).setCell (by simp)).setCell (by simp)
end Go.Proofs.Ytdcghlklikbfcaa

namespace Go.Proofs.Ytdcghlklikbfcaa
open Go.RowKit Go.Sort Go.BigFrame

theorem Wn.of {w : World} {g1 g2 : Nat} {t u : TypeId} {ns ls : List P2} (hl : ns.length ≤ 1048576) (hm : ls.length ≤ 1048576) (h1 : Bk w g1 t (ns.flatMap pc)) (h2 : Bk w g2 u (ls.flatMap pc)) :
    Wn w (some ⟨g1, 0, none⟩) ns.length (some ⟨g2, 0, none⟩) ls.length ns ls :=
  ⟨by omega, by omega, Nat.le_refl _, Nat.le_refl _, by omega, by omega, h1.pr, h2.pr⟩

end Go.Proofs.Ytdcghlklikbfcaa

namespace Go.Proofs.Ytdcghlklikbfcaa
open Go.RowKit Go.Sort Go.BigFrame

theorem gb_refl (w : World) (r : Option Nat) : w.grownBy w r := ⟨rfl, rfl, rfl, Nat.le_refl _, fun _ _ _ => rfl⟩
theorem gb_trans {a b c : World} {r : Option Nat} (h : a.grownBy b r) (k : b.grownBy c r) : a.grownBy c r :=
  ⟨k.os.trans h.os, k.tape.trans h.tape, k.output.trans h.output, Nat.le_trans h.size k.size, fun i hi hr => (k.block i (Nat.lt_of_lt_of_le hi h.size) hr).trans (h.block i hi hr)⟩
theorem gb_ext {a b : World} {r : Option Nat} (h : Ext a b) : a.grownBy b r := ⟨h.os, h.tape, h.output, h.size, fun i hi _ => h.block i hi⟩
theorem gb_set {w w1 : World} {g : Nat} (h : w.grownBy w1 (some g)) (o : Nat) (v : Value) : w.grownBy (w1.setCell ⟨g, o, none⟩ v) (some g) := by
  refine gb_trans h ⟨rfl, rfl, rfl, by simp, fun i hi hr => ?_⟩
  exact Below.heap_setCell w1 _ _ i (fun e => hr (by rw [e]))
theorem gb_ext2 {a b c : World} {r : Option Nat} (h : Ext a b) (k : b.grownBy c r) (hr : ∀ g, r = some g → a.heap.size ≤ g) : Ext a c := Below.grown h k h.size hr
theorem gb_bk {w w' : World} {r : Option Nat} {g : Nat} {t : TypeId} {cs : List Value} (h : Bk w g t cs) (k : w.grownBy w' r) (hr : r ≠ some g) : Bk w' g t cs := by
  exact (k.block g h.lt (Ne.symm hr)).trans h
theorem gb_own {w w' : World} {r : Option Nat} {B : Nat} {e : TypeId} {sz n : Nat} {v : Value} {cs : List Value} (h : w.ownsRow B e sz v n cs) (k : w.grownBy w' r) (hr : ∀ g, v.ownBlock = some g → r ≠ some g) : w'.ownsRow B e sz v n cs := by
  refine h.kept k ?_
  cases hv : v.ownBlock with
  | none => exact .inl rfl
  | some g => exact .inr (fun e => hr g hv e.symm)
theorem gb_lit {w w' : World} {r : Option Nat} (k : w.grownBy w' r) {b o : Nat} {v : Value} (h : w.cell? ⟨b, o, none⟩ = some v) (hr : r ≠ some b) : w'.cell? ⟨b, o, none⟩ = some v := k.cell h (Ne.symm hr)
theorem own_at {w : World} {B g c n : Nat} {T : TypeId} {sz : Nat} {cs : List Value} (h : w.ownsRow B T sz (.slice (some ⟨g, 0, none⟩) n c) n cs) : B ≤ g := (h.lt g rfl).1

/-- the numbers k, k + 1, .. -/
def mks (k : Int) (n : Nat) : List Int := (List.range n).map (fun i : Nat => k + (i : Int))
theorem mks_len (k : Int) (n : Nat) : (mks k n).length = n := by simp [mks]
theorem mks_gi (k : Int) {n j : Nat} (h : j < n) : gi (mks k n) j = k + j := by rw [gi_nat _ _ (by rw [mks_len]; exact h)]; simp [mks]
/-- half marked -/
def hmk (k : Int) (xs : List Int) (j : Nat) : List Int := mks k j ++ xs.drop j
theorem hmk_len (k : Int) (xs : List Int) {j : Nat} (h : j ≤ xs.length) : (hmk k xs j).length = xs.length := by simp [hmk, mks_len]; omega
theorem hmk_zero (k : Int) (xs : List Int) : hmk k xs 0 = xs := by simp [hmk, mks]
theorem hmk_all (k : Int) (xs : List Int) : hmk k xs xs.length = mks k xs.length := by simp [hmk]
theorem hmk_set (k : Int) (xs : List Int) {j : Nat} (h : j < xs.length) : (hmk k xs j).set j (k + j) = hmk k xs (j + 1) := by
  unfold hmk
  rw [List.set_append_right _ _ (by rw [mks_len]; exact Nat.le_refl _), mks_len, Nat.sub_self, List.drop_eq_getElem_cons h, List.set_cons_zero]
  simp [mks, List.range_succ]

/-! ### pairs of the call's own -/
/-- v is a slice of pairs (type t) of the call's own -/
def OwP (w : World) (B : Nat) (t : TypeId) (v : Value) (l : List P2) : Prop := w.ownsRow B t 2 v l.length (l.flatMap pc)
theorem OwP.ext {w w' : World} {B : Nat} {t : TypeId} {v : Value} {l : List P2} (h : OwP w B t v l) (hx : Ext w w') : OwP w' B t v l := ow_ext h hx
theorem OwP.shape {w : World} {B : Nat} {t : TypeId} {v : Value} {l : List P2} (h : OwP w B t v l) : ∃ A c, v = .slice A l.length c ∧ l.length ≤ c ∧ c ≤ maxLen ∧ Pr w w.heap.size A l := ow_shape h
theorem OwP.nil (w : World) (B : Nat) (t : TypeId) : OwP w B t (.slice none 0 0) [] := World.ownsRow_nil w B _ _
theorem OwP.more {w : World} {B B' : Nat} {t : TypeId} {v : Value} {l : List P2} (h : OwP w B t v l) (hB : B' ≤ B) : OwP w B' t v l := by
  refine ⟨h.1, ?_⟩
  rcases h.2 with hn | ⟨g, cap, cur, hv, hb, rest⟩
  · exact .inl hn
  · exact .inr ⟨g, cap, cur, hv, by omega, rest⟩
theorem OwP.new {w : World} {B g : Nat} {t : TypeId} {l : List P2} (h : Bk w g t (l.flatMap pc)) (hB : B ≤ g) (hl : l.length ≤ maxLen) : OwP w B t (.slice (some ⟨g, 0, none⟩) l.length l.length) l :=
  ⟨pcs_length l, .inr ⟨g, l.length, _, rfl, hB, h, Nat.le_refl _, hl, by rw [List.size_toArray, pcs_length], List.take_of_length_le (by show (l.flatMap pc).length ≤ _; rw [pcs_length]; exact Nat.le_refl _)⟩⟩
theorem OwP.at_ {w : World} {B : Nat} {t : TypeId} {v : Value} {l : List P2} (h : OwP w B t v l) {j : Nat} (hj : j < l.length) :
    ∃ g c, v = .slice (some ⟨g, 0, none⟩) l.length c ∧ l.length ≤ c ∧ B ≤ g ∧ g < w.heap.size ∧ w.cell? ⟨g, j * 2, none⟩ = some (.int .i64 (gp l j).1) ∧ w.cell? ⟨g, j * 2 + 1, none⟩ = some (.int .i64 (gp l j).2) ∧
      w.frozen? ⟨g, j * 2, none⟩ = false ∧ w.frozen? ⟨g, j * 2 + 1, none⟩ = false := by
  rcases h.2 with ⟨_, h0⟩ | ⟨g, cap, cur, rfl, hb, hg, hnc, _⟩
  · omega
  · obtain ⟨c1, c2⟩ := pcs_get l j hj
    rw [gp_nat l j hj]
    refine ⟨g, cap, rfl, hnc, hb, ?_, ?_, ?_, World.ownsRow.frozenAt h _, World.ownsRow.frozenAt h _⟩
    · rcases Nat.lt_or_ge g w.heap.size with h' | h'
      · exact h'
      · rw [Array.getElem?_eq_none h'] at hg; cases hg
    · rw [World.ownsRow.cellAt h _ (by omega)]; exact c1
    · rw [World.ownsRow.cellAt h _ (by omega)]; exact c2
theorem pcs_set (l : List P2) (j : Nat) (hj : j < l.length) (x y : Int) : ((l.flatMap pc).set (j * 2) (.int .i64 x)).set (j * 2 + 1) (.int .i64 y) = (l.set j (x, y)).flatMap pc := by
  induction l generalizing j with
  | nil => simp at hj
  | cons a t ih =>
    cases j with
    | zero => simp [List.flatMap_cons, pc]
    | succ j =>
      have := ih j (by simpa using hj)
      have e : (j + 1) * 2 = j * 2 + 2 := by omega
      simp only [List.flatMap_cons, pc, List.set_cons_succ, e]
      simpa [pc] using this
theorem OwP.set_ {w : World} {B g c n : Nat} {t : TypeId} {l : List P2} (h : OwP w B t (.slice (some ⟨g, 0, none⟩) n c) l) (hn : n = l.length) {j : Nat} (hj : j < l.length) (x y : Int) :
    OwP ((w.setCell ⟨g, j * 2, none⟩ (.int .i64 x)).setCell ⟨g, j * 2 + 1, none⟩ (.int .i64 y)) B t (.slice (some ⟨g, 0, none⟩) n c) (l.set j (x, y)) := by
  subst hn
  have h1 := (World.ownsRow.stored h (j * 2) (.int .i64 x)).1
  have h2 := (World.ownsRow.stored h1 (j * 2 + 1) (.int .i64 y)).1
  unfold OwP
  rw [List.length_set, ← pcs_set l j hj]
  exact h2
def mkp (k : Int) (n : Nat) : List P2 := (List.range n).map (fun i : Nat => (k + 2 * (i : Int), k + 2 * (i : Int) + 1))
theorem mkp_len (k : Int) (n : Nat) : (mkp k n).length = n := by simp [mkp]
theorem mkp_gp (k : Int) {n j : Nat} (h : j < n) : gp (mkp k n) j = (k + 2 * j, k + 2 * j + 1) := by rw [gp_nat _ _ (by rw [mkp_len]; exact h)]; simp [mkp]
def hmp (k : Int) (l : List P2) (j : Nat) : List P2 := mkp k j ++ l.drop j
theorem hmp_len (k : Int) (l : List P2) {j : Nat} (h : j ≤ l.length) : (hmp k l j).length = l.length := by simp [hmp, mkp_len]; omega
theorem hmp_zero (k : Int) (l : List P2) : hmp k l 0 = l := by simp [hmp, mkp]
theorem hmp_all (k : Int) (l : List P2) : hmp k l l.length = mkp k l.length := by simp [hmp]
theorem hmp_set (k : Int) (l : List P2) {j : Nat} (h : j < l.length) : (hmp k l j).set j (k + 2 * j, k + 2 * j + 1) = hmp k l (j + 1) := by
  unfold hmp
  rw [List.set_append_right _ _ (by rw [mkp_len]; exact Nat.le_refl _), mkp_len, Nat.sub_self, List.drop_eq_getElem_cons h, List.set_cons_zero]
  simp [mkp, List.range_succ]

end Go.Proofs.Ytdcghlklikbfcaa

namespace Go.Proofs.Ytdcghlklikbfcaa
open Go.RowKit Go.Sort Go.BigFrame

theorem OwI.blk {w : World} {B : Nat} {v : Value} {xs : List Int} (h : OwI w B v xs) : ∀ q, v.ownBlock = some q → B ≤ q ∧ q < w.heap.size := World.ownsRow.lt h
theorem OwP.blk {w : World} {B : Nat} {t : TypeId} {v : Value} {xs : List P2} (h : OwP w B t v xs) : ∀ q, v.ownBlock = some q → B ≤ q ∧ q < w.heap.size := World.ownsRow.lt h
theorem OwI.gb {w w' : World} {B : Nat} {v : Value} {xs : List Int} {r : Option Nat} (h : OwI w B v xs) (k : w.grownBy w' r) (hr : ∀ g, v.ownBlock = some g → r ≠ some g) : OwI w' B v xs := gb_own h k hr
theorem OwP.gb {w w' : World} {B : Nat} {t : TypeId} {v : Value} {xs : List P2} {r : Option Nat} (h : OwP w B t v xs) (k : w.grownBy w' r) (hr : ∀ g, v.ownBlock = some g → r ≠ some g) : OwP w' B t v xs := gb_own h k hr
theorem OwI.in' {w : World} {B n c : Nat} {A : Option Addr} {xs : List Int} (h : OwI w B (.slice A n c) xs) : In w w.heap.size A xs := by
  obtain ⟨A', c', e, _, _, hi⟩ := h.shape
  injection e with e1 e2 e3
  subst e1
  exact hi
theorem OwI.len {w : World} {B n c : Nat} {A : Option Addr} {xs : List Int} (h : OwI w B (.slice A n c) xs) : n = xs.length := by
  obtain ⟨A', c', e, _, _, hi⟩ := h.shape
  injection e

end Go.Proofs.Ytdcghlklikbfcaa
