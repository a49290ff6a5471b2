import Derived.Test.YtpainmnekgnpeaaL1
import Derived.Test.YtpainmnekgnpeaaB0
import Derived.BigQuiet
import Derived.WalkLawsBesides
namespace Go.Proofs.Ytpainmnekgnpeaa
open Go.RowKit Go.Sort Go.BigFrame

set_option maxHeartbeats 400000 in
theorem eqNode_c (x y : Int) (w : World) :
    Calls Try.prog 92 #[.agg #[.int .i64 x, .int .i64 y], .agg #[.int .i64 x, .int .i64 y]] w fun e w' => e = .returned (.bool true) ∧ Ext w w' := by
  have h1 : (x != x) = false := by simp
  have h2 : (y != y) = false := by simp
  go_enter Try.func92, Try.ntmps92
  go_wp2
  go_ret
  exact ⟨rfl, (by repeat first | exact Ext.refl _ | assumption | refine Ext.drew ?_ | refine Ext.alloc ?_ _ | refine Ext.setCell ?_ (by simp) | refine Ext.setCell ?_ (by simp; omega) | refine Ext.trans ?_ (by assumption))⟩

set_option maxRecDepth 100000 in
set_option maxHeartbeats 1000000 in
theorem eqNodeS_c (A B : Option Addr) (c d : Nat) (l : List P2) (w : World) (hl : l.length ≤ 2000000) (h : Pr w w.heap.size A l) (h' : Pr w w.heap.size B l) :
    Calls Try.prog 55 #[.slice A l.length c, .slice B l.length d] w fun e w' => e = .returned (.bool true) ∧ Ext w w' := by
  have hd : ((l.length : Int) != (l.length : Int)) = false := by simp
  go_enter Try.func55, Try.ntmps55
  go_wp2
  go_loopw [5] (fun i wr => ∃ k : Nat, k ≤ l.length ∧ i = .int .i64 k ∧ Ext w wr) (fun i _ => l.length - (intOf i).toNat)
  case atStart => exact ⟨0, by omega, rfl, Ext.refl _⟩
  case round =>
    obtain ⟨k, hk, rfl, hx⟩ := hrel
    obtain ⟨wo, rfl⟩ : ∃ x : World, x = wr := ⟨_, rfl⟩
    by_cases hlt : k < l.length
    · obtain ⟨b, off, rfl, hbb, c1, c2⟩ := (h.ext hx).gp_ hlt
      obtain ⟨b', off', rfl, hbb', c3, c4⟩ := (h'.ext hx).gp_ hlt
      have d1 := cell_regrown c1
      have d2 := cell_regrown c2
      have d3 := cell_regrown c3
      have d4 := cell_regrown c4
      have hi : (k : Int) < l.length := by omega
      go_wp2
      refine rx_open [(true, 0, some 17, 1), (true, 0, some 18, 32), (true, 3, some 19, 393216), (true, 4, some 20, 524288), (true, 0, some 21, 2), (true, 0, some 22, 32), (true, 48, some 23, 6291456), (true, 64, some 24, 8388608), (false, 136, some 25, 17825792), (true, 256, some 26, 33554432)] 0 10 mixd rfl (by kernel_rfl) (by kernel_rfl) (by kernel_rfl) ?_
      refine rx_run (run := [0, 1, 2, 3, 4, 5, 6, 7]) (k := 2) (m' := 255) rfl (by kernel_rfl) (by kernel_rfl) (by kernel_rfl) (fm_cons rfl <| fm_cons rfl <| fm_cons rfl <| fm_cons rfl <| fm_cons rfl <| fm_cons rfl <| fm_cons rfl <| fm_cons rfl <| List.filterMap_nil) (by repeat first | exact Ext.refl _ | assumption | refine Ext.drew ?_ | refine Ext.alloc ?_ _ | refine Ext.setCell ?_ (by simp) | refine Ext.setCell ?_ (by simp; omega) | refine Ext.trans ?_ (by assumption)) ?_
      repeat (go_big_quiet_step ((fail)))
      refine wpQuiet_nil ?_
      refine rx_op 8 (k := 1) (m' := 511) rfl rfl (by kernel_rfl) (by kernel_rfl) ?_
      go_wp2_with ((go_at_call 92; refine (eqNode_c _ _ _).mono ?_; rintro e w5 ⟨rfl, hb5⟩))
      refine rx_on (by repeat first | exact Ext.refl _ | assumption | refine Ext.drew ?_ | refine Ext.alloc ?_ _ | refine Ext.setCell ?_ (by simp) | refine Ext.setCell ?_ (by simp; omega) | refine Ext.trans ?_ (by assumption)) ?_
      refine rx_run (run := [9]) (k := 0) (m' := 1023) rfl (by kernel_rfl) (by kernel_rfl) (by kernel_rfl) (fm_cons rfl <| List.filterMap_nil) (by repeat first | exact Ext.refl _ | assumption | refine Ext.drew ?_ | refine Ext.alloc ?_ _ | refine Ext.setCell ?_ (by simp) | refine Ext.setCell ?_ (by simp; omega) | refine Ext.trans ?_ (by assumption)) ?_
      repeat (go_big_quiet_step ((fail)))
      refine wpQuiet_nil ?_
      refine rx_end (by kernel_rfl) ?_
      go_wp2
      go_roundw
      case rel => exact ⟨k + 1, by omega, by go_num, hx.trans (by repeat first | exact Ext.refl _ | assumption | refine Ext.drew ?_ | refine Ext.alloc ?_ _ | refine Ext.setCell ?_ (by simp) | refine Ext.setCell ?_ (by simp; omega) | refine Ext.trans ?_ (by assumption))⟩
      case measure => simp [intOf]; omega
    · go_wp2
      go_ret
      exact ⟨rfl, hx⟩

set_option maxHeartbeats 400000 in
theorem eqLead_c (x y : Int) (w : World) :
    Calls Try.prog 93 #[.agg #[.int .i64 x, .int .i64 y], .agg #[.int .i64 x, .int .i64 y]] w fun e w' => e = .returned (.bool true) ∧ Ext w w' := by
  have h1 : (x != x) = false := by simp
  have h2 : (y != y) = false := by simp
  go_enter Try.func93, Try.ntmps93
  go_wp2
  go_ret
  exact ⟨rfl, (by repeat first | exact Ext.refl _ | assumption | refine Ext.drew ?_ | refine Ext.alloc ?_ _ | refine Ext.setCell ?_ (by simp) | refine Ext.setCell ?_ (by simp; omega) | refine Ext.trans ?_ (by assumption))⟩

set_option maxRecDepth 100000 in
set_option maxHeartbeats 1000000 in
theorem eqLeadS_c (A B : Option Addr) (c d : Nat) (l : List P2) (w : World) (hl : l.length ≤ 2000000) (h : Pr w w.heap.size A l) (h' : Pr w w.heap.size B l) :
    Calls Try.prog 56 #[.slice A l.length c, .slice B l.length d] w fun e w' => e = .returned (.bool true) ∧ Ext w w' := by
  have hd : ((l.length : Int) != (l.length : Int)) = false := by simp
  go_enter Try.func56, Try.ntmps56
  go_wp2
  go_loopw [5] (fun i wr => ∃ k : Nat, k ≤ l.length ∧ i = .int .i64 k ∧ Ext w wr) (fun i _ => l.length - (intOf i).toNat)
  case atStart => exact ⟨0, by omega, rfl, Ext.refl _⟩
  case round =>
    obtain ⟨k, hk, rfl, hx⟩ := hrel
    obtain ⟨wo, rfl⟩ : ∃ x : World, x = wr := ⟨_, rfl⟩
    by_cases hlt : k < l.length
    · obtain ⟨b, off, rfl, hbb, c1, c2⟩ := (h.ext hx).gp_ hlt
      obtain ⟨b', off', rfl, hbb', c3, c4⟩ := (h'.ext hx).gp_ hlt
      have d1 := cell_regrown c1
      have d2 := cell_regrown c2
      have d3 := cell_regrown c3
      have d4 := cell_regrown c4
      have hi : (k : Int) < l.length := by omega
      go_wp2
      refine rx_open [(true, 0, some 17, 1), (true, 0, some 18, 32), (true, 3, some 19, 393216), (true, 4, some 20, 524288), (true, 0, some 21, 2), (true, 0, some 22, 32), (true, 48, some 23, 6291456), (true, 64, some 24, 8388608), (false, 136, some 25, 17825792), (true, 256, some 26, 33554432)] 0 10 mixd rfl (by kernel_rfl) (by kernel_rfl) (by kernel_rfl) ?_
      refine rx_run (run := [0, 1, 2, 3, 4, 5, 6, 7]) (k := 2) (m' := 255) rfl (by kernel_rfl) (by kernel_rfl) (by kernel_rfl) (fm_cons rfl <| fm_cons rfl <| fm_cons rfl <| fm_cons rfl <| fm_cons rfl <| fm_cons rfl <| fm_cons rfl <| fm_cons rfl <| List.filterMap_nil) (by repeat first | exact Ext.refl _ | assumption | refine Ext.drew ?_ | refine Ext.alloc ?_ _ | refine Ext.setCell ?_ (by simp) | refine Ext.setCell ?_ (by simp; omega) | refine Ext.trans ?_ (by assumption)) ?_
      repeat (go_big_quiet_step ((fail)))
      refine wpQuiet_nil ?_
      refine rx_op 8 (k := 1) (m' := 511) rfl rfl (by kernel_rfl) (by kernel_rfl) ?_
      go_wp2_with ((go_at_call 93; refine (eqLead_c _ _ _).mono ?_; rintro e w5 ⟨rfl, hb5⟩))
      refine rx_on (by repeat first | exact Ext.refl _ | assumption | refine Ext.drew ?_ | refine Ext.alloc ?_ _ | refine Ext.setCell ?_ (by simp) | refine Ext.setCell ?_ (by simp; omega) | refine Ext.trans ?_ (by assumption)) ?_
      refine rx_run (run := [9]) (k := 0) (m' := 1023) rfl (by kernel_rfl) (by kernel_rfl) (by kernel_rfl) (fm_cons rfl <| List.filterMap_nil) (by repeat first | exact Ext.refl _ | assumption | refine Ext.drew ?_ | refine Ext.alloc ?_ _ | refine Ext.setCell ?_ (by simp) | refine Ext.setCell ?_ (by simp; omega) | refine Ext.trans ?_ (by assumption)) ?_
      repeat (go_big_quiet_step ((fail)))
      refine wpQuiet_nil ?_
      refine rx_end (by kernel_rfl) ?_
      go_wp2
      go_roundw
      case rel => exact ⟨k + 1, by omega, by go_num, hx.trans (by repeat first | exact Ext.refl _ | assumption | refine Ext.drew ?_ | refine Ext.alloc ?_ _ | refine Ext.setCell ?_ (by simp) | refine Ext.setCell ?_ (by simp; omega) | refine Ext.trans ?_ (by assumption))⟩
      case measure => simp [intOf]; omega
    · go_wp2
      go_ret
      exact ⟨rfl, hx⟩

set_option maxRecDepth 100000 in
set_option maxHeartbeats 1000000 in
theorem eqWindow_c (A B A' B' : Option Addr) (c d c' d' : Nat) (ns ls : List P2) (w : World) (hl : ns.length ≤ 2000000) (hm : ls.length ≤ 2000000) (h : Pr w w.heap.size A ns) (h' : Pr w w.heap.size A' ns) (g : Pr w w.heap.size B ls) (g' : Pr w w.heap.size B' ls) :
    Calls Try.prog 23 #[.agg #[.slice A ns.length c, .slice B ls.length d], .agg #[.slice A' ns.length c', .slice B' ls.length d']] w fun e w' => e = .returned (.bool true) ∧ Ext w w' := by
  go_enter Try.func23, Try.ntmps23
  go_wp2_with fail
  refine (eqNodeS_c A A' c c' ns _ hl (h.ext (by repeat first | exact Ext.refl _ | assumption | refine Ext.drew ?_ | refine Ext.alloc ?_ _ | refine Ext.setCell ?_ (by simp) | refine Ext.setCell ?_ (by simp; omega) | refine Ext.trans ?_ (by assumption))) (h'.ext (by repeat first | exact Ext.refl _ | assumption | refine Ext.drew ?_ | refine Ext.alloc ?_ _ | refine Ext.setCell ?_ (by simp) | refine Ext.setCell ?_ (by simp; omega) | refine Ext.trans ?_ (by assumption)))).mono ?_
  rintro e w1 ⟨rfl, hb⟩
  have k0 := hb.lit (b := w.heap.size) (o := 1) (v := .slice B ls.length d) (by go_simp)
  have k1 := hb.lit (b := w.heap.size + 1) (o := 1) (v := .slice B' ls.length d') (by go_simp)
  have hx : Ext w w1 := (by repeat first | exact Ext.refl _ | assumption | refine Ext.drew ?_ | refine Ext.alloc ?_ _ | refine Ext.setCell ?_ (by simp) | refine Ext.setCell ?_ (by simp; omega) | refine Ext.trans ?_ (by assumption))
  clear hb
  go_wp2_with fail
  refine (eqLeadS_c B B' d d' ls _ hm (g.ext hx) (g'.ext hx)).mono ?_
  rintro e w2 ⟨rfl, hb⟩
  go_wp2
  go_ret
  exact ⟨rfl, hx.trans hb⟩

set_option maxRecDepth 100000 in
set_option maxHeartbeats 1000000 in
theorem toWindow_c (A B : Option Addr) (c d : Nat) (ns ls : List P2) (w : World) (hl : ns.length ≤ 1048576) (hm : ls.length ≤ 1048576) (h : Pr w w.heap.size A ns) (g : Pr w w.heap.size B ls) :
    Calls Try.prog 21 #[.agg #[.slice A ns.length c, .slice B ls.length d]] w fun e w' => ∃ g1 g2, e = .returned (.agg #[.slice (some ⟨g1, 0, none⟩) ns.length ns.length, .slice (some ⟨g2, 0, none⟩) ls.length ls.length]) ∧
      w.heap.size ≤ g1 ∧ g1 < g2 ∧ Bk w' g1 47 (ns.flatMap pc) ∧ Bk w' g2 65 (ls.flatMap pc) ∧ Ext w w' := by
  go_enter Try.func21, Try.ntmps21
  go_wp2_with fail
  refine (toNodeS_c A c ns _ hl (h.ext (by repeat first | exact Ext.refl _ | assumption | refine Ext.drew ?_ | refine Ext.alloc ?_ _ | refine Ext.setCell ?_ (by simp) | refine Ext.setCell ?_ (by simp; omega) | refine Ext.trans ?_ (by assumption)))).mono ?_
  rintro e w1 ⟨g1, rfl, hg1, hB1, hb⟩
  have k0 := hb.lit (b := w.heap.size) (o := 1) (v := .slice B ls.length d) (by go_simp)
  have k1 := hb.lit (b := w.heap.size + 2) (o := 0) (v := .slice none 0 0) (by go_simp)
  have k2 := hb.lit (b := w.heap.size + 2) (o := 1) (v := .slice none 0 0) (by go_simp)
  have k3 := hb.lit (b := w.heap.size + 1) (o := 0) (v := .slice none 0 0) (by go_simp)
  have k4 := hb.lit (b := w.heap.size + 1) (o := 1) (v := .slice none 0 0) (by go_simp)
  have f1 := hb.froz (b := w.heap.size + 2) (o := 0) (by simp) (by go_simp)
  have f2 := hb.froz (b := w.heap.size + 2) (o := 1) (by simp) (by go_simp)
  have f3 := hb.froz (b := w.heap.size + 1) (o := 0) (by simp) (by go_simp)
  have f4 := hb.froz (b := w.heap.size + 1) (o := 1) (by simp) (by go_simp)
  have hg1' : w.heap.size + 3 ≤ g1 := by simpa using hg1
  have hx : Ext w w1 := (by repeat first | exact Ext.refl _ | assumption | refine Ext.drew ?_ | refine Ext.alloc ?_ _ | refine Ext.setCell ?_ (by simp) | refine Ext.setCell ?_ (by simp; omega) | refine Ext.trans ?_ (by assumption))
  have hsz := hB1.lt
  go_wp2_with fail
  have hxs : Ext w (w1.setCell ⟨w.heap.size + 1 + 1, 0, none⟩ (.slice (some ⟨g1, 0, none⟩) ns.length ns.length)) := hx.setCell (by simp; omega)
  have hsz1 : w.heap.size + 3 ≤ w1.heap.size := by omega
  have hB1' : Bk (w1.setCell ⟨w.heap.size + 1 + 1, 0, none⟩ (.slice (some ⟨g1, 0, none⟩) ns.length ns.length)) g1 47 (ns.flatMap pc) := hB1.far (by simp; omega) _
  refine (toLeadS_c B d ls _ hm (g.ext hxs)).mono ?_
  rintro e w2 ⟨g2, rfl, hg2, hB2, hb2⟩
  have m1 := hb2.lit (b := w.heap.size + 2) (o := 0) (v := .slice (some ⟨g1, 0, none⟩) ns.length ns.length) (by go_simp)
  have m2 := hb2.lit (b := w.heap.size + 2) (o := 1) (v := .slice none 0 0) (by go_simp)
  have m3 := hb2.lit (b := w.heap.size + 1) (o := 0) (v := .slice none 0 0) (by go_simp)
  have m4 := hb2.lit (b := w.heap.size + 1) (o := 1) (v := .slice none 0 0) (by go_simp)
  have n1 := hb2.froz (b := w.heap.size + 2) (o := 0) (by simp; omega) (by go_simp)
  have n2 := hb2.froz (b := w.heap.size + 2) (o := 1) (by simp; omega) (by go_simp)
  have n3 := hb2.froz (b := w.heap.size + 1) (o := 0) (by simp; omega) (by go_simp)
  have n4 := hb2.froz (b := w.heap.size + 1) (o := 1) (by simp; omega) (by go_simp)
  have hx2 := hxs.trans hb2
  have hB1'' := hB1'.ext hb2
  have hg2' : w1.heap.size ≤ g2 := by simpa using hg2
  clear k0 k1 k2 k3 k4 f1 f2 f3 f4 hb hb2 hB1' hxs hx hB1
  have q1 : (((w2.setCell ⟨w.heap.size + 1 + 1, 1, none⟩ (.slice (some ⟨g2, 0, none⟩) ls.length ls.length)).setCell ⟨w.heap.size + 1, 0, none⟩ (.slice (some ⟨g1, 0, none⟩) ns.length ns.length)).setCell ⟨w.heap.size + 1, 1, none⟩ (.slice (some ⟨g2, 0, none⟩) ls.length ls.length)).cell? ⟨w.heap.size + 1, 0, none⟩ = some (.slice (some ⟨g1, 0, none⟩) ns.length ns.length) := by go_simp
  have q2 : (((w2.setCell ⟨w.heap.size + 1 + 1, 1, none⟩ (.slice (some ⟨g2, 0, none⟩) ls.length ls.length)).setCell ⟨w.heap.size + 1, 0, none⟩ (.slice (some ⟨g1, 0, none⟩) ns.length ns.length)).setCell ⟨w.heap.size + 1, 1, none⟩ (.slice (some ⟨g2, 0, none⟩) ls.length ls.length)).cell? ⟨w.heap.size + 1, 1, none⟩ = some (.slice (some ⟨g2, 0, none⟩) ls.length ls.length) := by go_simp
  go_wp2
  (try simp only [Exit.inBlock, Exit.then])
  refine bodyPost_ret (by simp [results, Try.results21, go_sem, q1, q2]; try rfl) rfl ?_
  refine ⟨g1, g2, rfl, by omega, by omega, ?_, ?_, ?_⟩
  · exact ((hB1''.far (by simp; omega) _).far (by simp; omega) _).far (by simp; omega) _
  · exact ((hB2.far (by simp; omega) _).far (by simp; omega) _).far (by simp; omega) _
  · exact ((hx2.setCell (by simp; omega)).setCell (by simp)).setCell (by simp)
end Go.Proofs.Ytpainmnekgnpeaa
