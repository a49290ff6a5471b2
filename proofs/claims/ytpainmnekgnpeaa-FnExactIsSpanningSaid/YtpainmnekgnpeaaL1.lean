import Derived.Test.YtpainmnekgnpeaaRows
import Derived.Test.YtpainmnekgnpeaaM2
import Derived.Test.YtpainmnekgnpeaaA7
import Derived.Test.YtpainmnekgnpeaaR1
import Derived.Outline
import Derived.Lib.Hide
namespace Go.Proofs.Ytpainmnekgnpeaa
open Go.RowKit Go.Sort Go.BigFrame

theorem madeCells_two (z : Value) (n : Nat) : madeCells #[z, z] n = (List.replicate n z).toArray := by
  apply Array.ext
  · simp [madeCells]
  · intro i h1 h2
    have hi : i < n := by simpa [madeCells] using h1
    rcases Nat.mod_two_eq_zero_or_one i with h | h <;> simp [madeCells, h]
/-- make of a slice of two-cell elements -/
theorem run_mk2 {P : Program} (t e : TypeId) (i : TypeInfo) (a z : Value) (ht : P.underlying t = some (.slice e)) (hi : P.info? e = some i) (hz : i.zero = some a) (hs : i.size = 2) (hzc : a.cells = #[z, z])
    (n : Nat) (hb : i.bytes * n ≤ 281474976710656) (h63 : n ≤ 9223372036854775807) (w : World) :
    (Instr.makeSlice t (.int .i64 (n : Int)) (.int .i64 (n : Int))).run P w = .ok (.slice (some ⟨w.heap.size, 0, none⟩) n n) (w.alloc (.cells (List.replicate (n * 2) z).toArray e)) := by
  have hb' : (i.bytes : Int) * (n : Int) ≤ 281474976710656 := by
    have h : ((i.bytes * n : Nat) : Int) ≤ 281474976710656 := by omega
    rwa [Int.natCast_mul] at h
  have hr := run_make (P := P) w t e i a ht hi hz .i64 .i64 n n (by omega) (by omega) hb' (by omega)
  simp only [Int.toNat_natCast, hs, hzc] at hr
  rw [hr, madeCells_two]
theorem Ext.froz {w w1 : World} (hb : Ext w w1) {b o : Nat} (hlt : b < w.heap.size) (h : w.frozen? ⟨b, o, none⟩ = false) : w1.frozen? ⟨b, o, none⟩ = false := by
  rw [Below.frozen hb (p := ⟨b, o, none⟩) hlt]; exact h
theorem fil_get' (xs : List Value) (z : Value) (k : Nat) (h : k < xs.length) : (fil xs z k)[k]? = some z := fil_get xs z k h
theorem fil_set2 (l : List P2) (z : Value) (k : Nat) (hk : k < l.length) :
    ((fil (l.flatMap pc) z (k * 2)).set (k * 2) (.int .i64 (gp l k).1)).set (k * 2 + 1) (.int .i64 (gp l k).2) = fil (l.flatMap pc) z ((k + 1) * 2) := by
  have hl := pcs_length l
  obtain ⟨h1, h2⟩ := pcs_get l k hk
  rw [gp_nat l k hk]
  have g1 : (l.flatMap pc)[k * 2]'(by omega) = .int .i64 l[k].1 := by rw [List.getElem?_eq_getElem (by omega)] at h1; injection h1
  have g2 : (l.flatMap pc)[k * 2 + 1]'(by omega) = .int .i64 l[k].2 := by rw [List.getElem?_eq_getElem (by omega)] at h2; injection h2
  rw [← g1, fil_set _ _ _ (by omega), ← g2, fil_set _ _ _ (by omega)]
  congr 1
  omega
theorem Bk.pr {w : World} {g : Nat} {t : TypeId} {l : List P2} (h : Bk w g t (l.flatMap pc)) : Pr w w.heap.size (some ⟨g, 0, none⟩) l := h.sl (pcs_length l)

set_option maxHeartbeats 400000 in
theorem szNodeS_c (A : Option Addr) (n c : Nat) (left : Int) (w : World) (hn : n ≤ 9223372036854775807) (hl : 0 ≤ left ∧ left ≤ 1048576) :
    Calls Try.prog 49 #[.slice A n c, .int .i64 left] w fun e w' => e = .returned (.int .i64 (if left - n < 0 then -1 else left - n)) ∧ w = w' := by
  go_enter Try.func49, Try.ntmps49
  by_cases h : left - (n : Int) < 0
  · go_wp2
    go_ret
    exact ⟨ret_i (by first | rfl | rw [if_pos (by omega)] | rw [if_neg (by omega)]), rfl⟩
  · go_wp2
    go_ret
    exact ⟨ret_i (by first | rfl | rw [if_pos (by omega)] | rw [if_neg (by omega)]), rfl⟩
set_option maxHeartbeats 400000 in
theorem szLeadS_c (A : Option Addr) (n c : Nat) (left : Int) (w : World) (hn : n ≤ 9223372036854775807) (hl : 0 ≤ left ∧ left ≤ 1048576) :
    Calls Try.prog 50 #[.slice A n c, .int .i64 left] w fun e w' => e = .returned (.int .i64 (if left - n < 0 then -1 else left - n)) ∧ w = w' := by
  go_enter Try.func50, Try.ntmps50
  by_cases h : left - (n : Int) < 0
  · go_wp2
    go_ret
    exact ⟨ret_i (by first | rfl | rw [if_pos (by omega)] | rw [if_neg (by omega)]), rfl⟩
  · go_wp2
    go_ret
    exact ⟨ret_i (by first | rfl | rw [if_pos (by omega)] | rw [if_neg (by omega)]), rfl⟩
set_option maxHeartbeats 800000 in
theorem szWindow_c (A B : Option Addr) (n c m d : Nat) (w : World) (hn : n ≤ 9223372036854775807) (hm : m ≤ 9223372036854775807) :
    Calls Try.prog 19 #[.agg #[.slice A n c, .slice B m d], .int .i64 1048576] w fun e w' => e = .returned (.int .i64 (if (1048576 : Int) - n - m < 0 then -1 else 1048576 - n - m)) ∧ Ext w w' := by
  go_enter Try.func19, Try.ntmps19
  go_wp2_with fail
  refine (szNodeS_c A n c 1048576 _ hn (by omega)).mono ?_
  rintro e w1 ⟨rfl, rfl⟩
  by_cases h : (1048576 : Int) - (n : Int) < 0
  · rw [if_pos h]
    go_wp2
    go_ret
    exact ⟨ret_i (by first | rfl | rw [if_pos (by omega)] | rw [if_neg (by omega)]), (by repeat first | exact Ext.refl _ | assumption | refine Ext.drew ?_ | refine Ext.alloc ?_ _ | refine Ext.setCell ?_ (by simp) | refine Ext.setCell ?_ (by simp; omega) | refine Ext.trans ?_ (by assumption))⟩
  · rw [if_neg h]
    go_wp2_with fail
    refine (szLeadS_c B m d _ _ hm (by omega)).mono ?_
    rintro e w1 ⟨rfl, rfl⟩
    by_cases h2 : (1048576 : Int) - (n : Int) - m < 0
    · rw [if_pos h2]
      go_wp2
      go_ret
      exact ⟨ret_i (by first | rfl | rw [if_pos (by omega)] | rw [if_neg (by omega)]), (by repeat first | exact Ext.refl _ | assumption | refine Ext.drew ?_ | refine Ext.alloc ?_ _ | refine Ext.setCell ?_ (by simp) | refine Ext.setCell ?_ (by simp; omega) | refine Ext.trans ?_ (by assumption))⟩
    · rw [if_neg h2]
      go_wp2
      go_ret
      exact ⟨ret_i (by first | rfl | rw [if_pos (by omega)] | rw [if_neg (by omega)]), (by repeat first | exact Ext.refl _ | assumption | refine Ext.drew ?_ | refine Ext.alloc ?_ _ | refine Ext.setCell ?_ (by simp) | refine Ext.setCell ?_ (by simp; omega) | refine Ext.trans ?_ (by assumption))⟩


theorem infoNode : (Try.prog.info? 47).map (fun i => (i.zero, i.size, i.bytes)) = some (some (.agg #[.int .i64 0, .int .i64 0]), 2, 16) := by kernel_rfl
set_option maxHeartbeats 400000 in
theorem toNode_c (x y : Int) (w : World) :
    Calls Try.prog 29 #[.agg #[.int .i64 x, .int .i64 y]] w fun e w' => e = .returned (.agg #[.int .i64 x, .int .i64 y]) ∧ Ext w w' := by
  go_enter Try.func29, Try.ntmps29
  go_wp2
  (try simp only [Exit.inBlock, Exit.then])
  refine bodyPost_ret (by simp [results, Try.results29, go_sem]; try rfl) rfl ?_
  exact ⟨rfl, (by repeat first | exact Ext.refl _ | assumption | refine Ext.drew ?_ | refine Ext.alloc ?_ _ | refine Ext.setCell ?_ (by simp) | refine Ext.setCell ?_ (by simp; omega) | refine Ext.trans ?_ (by assumption))⟩

set_option maxHeartbeats 1000000 in
theorem toNodeS_c (A : Option Addr) (c : Nat) (l : List P2) (w : World) (hl : l.length ≤ 1048576) (h : Pr w w.heap.size A l) :
    Calls Try.prog 52 #[.slice A l.length c] w fun e w' => ∃ g, e = .returned (.slice (some ⟨g, 0, none⟩) l.length l.length) ∧ w.heap.size ≤ g ∧ Bk w' g 47 (l.flatMap pc) ∧ Ext w w' := by
  obtain ⟨i0, hi, hz0, hz1, hz2⟩ := info_parts infoNode
  have hmk := fun W => run_mk2 (P := Try.prog) 33 47 i0 _ (.int .i64 0) Try.underlying33 hi hz0 hz1 rfl l.length (by rw [hz2]; omega) (by omega) W
  clear hi hz0 hz1 hz2
  go_enter Try.func52, Try.ntmps52
  go_wp2
  clear hmk
  have hpl := pcs_length l
  go_loopw [4] (fun i wr => ∃ k : Nat, k ≤ l.length ∧ i = .int .i64 k ∧ Bk wr w.heap.size 47 (fil (l.flatMap pc) (.int .i64 0) (k * 2)) ∧ Ext w wr) (fun i _ => l.length - (intOf i).toNat)
  case atStart => exact ⟨0, by omega, rfl, by rw [Nat.zero_mul, fil_zero, hpl]; exact Bk.new _ _ rfl, (Ext.refl _).alloc _⟩
  case round =>
    obtain ⟨k, hk, rfl, hB, hx⟩ := hrel
    obtain ⟨wo, rfl⟩ : ∃ x : World, x = wr := ⟨_, rfl⟩
    by_cases hlt : k < l.length
    · obtain ⟨b, off, rfl, hbb, c1, c2⟩ := (h.ext hx).gp_ hlt
      have hset := fil_set2 l (.int .i64 0) k hlt
      have Hset := Lib.hid hset
      clear hset hpl
      go_wp2_with fail
      refine (toNode_c _ _ _).mono ?_
      rintro e w2 ⟨rfl, hb⟩
      have hB2 := hB.ext hb
      have hpl := pcs_length l
      have c3 : w2.cell? ⟨w.heap.size, k * 2, none⟩ = some (.int .i64 0) := by rw [hB2.cell]; exact fil_get _ _ _ (by omega)
      have c4 : w2.cell? ⟨w.heap.size, k * 2 + 1, none⟩ = some (.int .i64 0) := by
        rw [hB2.cell]
        unfold fil
        rw [List.getElem?_append_right (by rw [List.length_take]; omega), List.getElem?_replicate, if_pos (by rw [List.length_take]; omega)]
      have c5 := hB2.froz (k * 2)
      have c6 := hB2.froz (k * 2 + 1)
      have hk2 : (k : Int) < l.length := by omega
      clear hpl
      go_wp2
      go_roundw
      case rel =>
        refine ⟨k + 1, by omega, by go_num, ?_, ((hx.trans hb).setCell (by simp)).setCell (by simp)⟩
        have := (hB2.set_ (k * 2) (.int .i64 (gp l k).1)).set_ (k * 2 + 1) (.int .i64 (gp l k).2)
        rw [Hset.out] at this
        exact this
      case measure => simp [intOf]; omega
    · obtain rfl : k = l.length := by omega
      have e := fil_all (l.flatMap pc) (.int .i64 0)
      rw [hpl] at e
      rw [e] at hB
      go_wp2
      go_ret
      exact ⟨_, rfl, Nat.le_refl _, hB, hx⟩

theorem infoLead : (Try.prog.info? 65).map (fun i => (i.zero, i.size, i.bytes)) = some (some (.agg #[.int .i64 0, .int .i64 0]), 2, 16) := by kernel_rfl
set_option maxHeartbeats 400000 in
theorem toLead_c (x y : Int) (w : World) :
    Calls Try.prog 90 #[.agg #[.int .i64 x, .int .i64 y]] w fun e w' => e = .returned (.agg #[.int .i64 x, .int .i64 y]) ∧ Ext w w' := by
  go_enter Try.func90, Try.ntmps90
  go_wp2
  (try simp only [Exit.inBlock, Exit.then])
  refine bodyPost_ret (by simp [results, Try.results90, go_sem]; try rfl) rfl ?_
  exact ⟨rfl, (by repeat first | exact Ext.refl _ | assumption | refine Ext.drew ?_ | refine Ext.alloc ?_ _ | refine Ext.setCell ?_ (by simp) | refine Ext.setCell ?_ (by simp; omega) | refine Ext.trans ?_ (by assumption))⟩

set_option maxHeartbeats 1000000 in
theorem toLeadS_c (A : Option Addr) (c : Nat) (l : List P2) (w : World) (hl : l.length ≤ 1048576) (h : Pr w w.heap.size A l) :
    Calls Try.prog 53 #[.slice A l.length c] w fun e w' => ∃ g, e = .returned (.slice (some ⟨g, 0, none⟩) l.length l.length) ∧ w.heap.size ≤ g ∧ Bk w' g 65 (l.flatMap pc) ∧ Ext w w' := by
  obtain ⟨i0, hi, hz0, hz1, hz2⟩ := info_parts infoLead
  have hmk := fun W => run_mk2 (P := Try.prog) 34 65 i0 _ (.int .i64 0) Try.underlying34 hi hz0 hz1 rfl l.length (by rw [hz2]; omega) (by omega) W
  clear hi hz0 hz1 hz2
  go_enter Try.func53, Try.ntmps53
  go_wp2
  clear hmk
  have hpl := pcs_length l
  go_loopw [4] (fun i wr => ∃ k : Nat, k ≤ l.length ∧ i = .int .i64 k ∧ Bk wr w.heap.size 65 (fil (l.flatMap pc) (.int .i64 0) (k * 2)) ∧ Ext w wr) (fun i _ => l.length - (intOf i).toNat)
  case atStart => exact ⟨0, by omega, rfl, by rw [Nat.zero_mul, fil_zero, hpl]; exact Bk.new _ _ rfl, (Ext.refl _).alloc _⟩
  case round =>
    obtain ⟨k, hk, rfl, hB, hx⟩ := hrel
    obtain ⟨wo, rfl⟩ : ∃ x : World, x = wr := ⟨_, rfl⟩
    by_cases hlt : k < l.length
    · obtain ⟨b, off, rfl, hbb, c1, c2⟩ := (h.ext hx).gp_ hlt
      have hset := fil_set2 l (.int .i64 0) k hlt
      have Hset := Lib.hid hset
      clear hset hpl
      go_wp2_with fail
      refine (toLead_c _ _ _).mono ?_
      rintro e w2 ⟨rfl, hb⟩
      have hB2 := hB.ext hb
      have hpl := pcs_length l
      have c3 : w2.cell? ⟨w.heap.size, k * 2, none⟩ = some (.int .i64 0) := by rw [hB2.cell]; exact fil_get _ _ _ (by omega)
      have c4 : w2.cell? ⟨w.heap.size, k * 2 + 1, none⟩ = some (.int .i64 0) := by
        rw [hB2.cell]
        unfold fil
        rw [List.getElem?_append_right (by rw [List.length_take]; omega), List.getElem?_replicate, if_pos (by rw [List.length_take]; omega)]
      have c5 := hB2.froz (k * 2)
      have c6 := hB2.froz (k * 2 + 1)
      have hk2 : (k : Int) < l.length := by omega
      clear hpl
      go_wp2
      go_roundw
      case rel =>
        refine ⟨k + 1, by omega, by go_num, ?_, ((hx.trans hb).setCell (by simp)).setCell (by simp)⟩
        have := (hB2.set_ (k * 2) (.int .i64 (gp l k).1)).set_ (k * 2 + 1) (.int .i64 (gp l k).2)
        rw [Hset.out] at this
        exact this
      case measure => simp [intOf]; omega
    · obtain rfl : k = l.length := by omega
      have e := fil_all (l.flatMap pc) (.int .i64 0)
      rw [hpl] at e
      rw [e] at hB
      go_wp2
      go_ret
      exact ⟨_, rfl, Nat.le_refl _, hB, hx⟩
end Go.Proofs.Ytpainmnekgnpeaa
