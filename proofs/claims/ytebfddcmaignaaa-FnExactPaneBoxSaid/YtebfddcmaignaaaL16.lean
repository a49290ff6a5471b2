import Derived.Test.YtebfddcmaignaaaG9
import Derived.Test.YtebfddcmaignaaaD27
import Derived.Deep.DeepCutAuto
namespace Go.Proofs.Ytebfddcmaignaaa
open Go.RowKit Go.Sort Go.BigFrame
set_option maxRecDepth 100000 in
set_option maxHeartbeats 4000000 in
theorem law_PaneBox (A B : Option Addr) (n c m d : Nat) (ns ls : List P2) (k : Int) (w : World) (hn : n = ns.length) (hm : m = ls.length) (hn63 : n ≤ 9223372036854775807) (hm63 : m ≤ 9223372036854775807) (h : Pr w w.heap.size A ns) (g : Pr w w.heap.size B ls) :
    Calls Try.prog 7 #[.agg #[.slice A n c, .slice B m d], .int .i64 k] w fun e w' => e = .returned (.bool true) ∧ Ext w w' := by
  subst hn
  subst hm
  obtain ⟨⟨⟨ax, ay⟩, ⟨bx, by'⟩⟩, hbx⟩ : ∃ Q : P2 × P2, vPaneBox ns ls k = Q := ⟨_, rfl⟩
  have HI : ∀ (A B : Option Addr) (c d : Nat) (w : World), Wn w A c B d ns ls → Calls Try.prog 42 #[.agg #[.slice A ns.length c, .slice B ls.length d], .int .i64 k] w fun e w' => e = .returned (.tuple #[.agg #[.int .i64 ax, .int .i64 ay], .agg #[.int .i64 bx, .int .i64 by']]) ∧ Ext w w' := fun A B c d w h => by
    have := PaneBox_i A B c d ns ls k w h
    rw [hbx] at this
    exact this
  have HS : ∀ (A B : Option Addr) (c d : Nat) (w : World), Wn w A c B d ns ls → Calls Try.prog 41 #[.agg #[.slice A ns.length c, .slice B ls.length d], .int .i64 k] w fun e w' => e = .returned (.tuple #[.agg #[.int .i64 ax, .int .i64 ay], .agg #[.int .i64 bx, .int .i64 by']]) ∧ Ext w w' := fun A B c d w h => by
    have := PaneBox_s A B c d ns ls k w h
    rw [hbx] at this
    exact this
  have HI := Lib.hid HI
  have HS := Lib.hid HS
  clear hbx
  go_enter Try.func7, Try.ntmps7
  go_wp2_with fail
  refine (szWindow_c A B _ c _ d _ hn63 hm63).mono ?_
  rintro e w1 ⟨rfl, hb⟩
  have k0 := hb.lit (b := w.heap.size) (o := 0) (v := .slice A ns.length c) (by go_simp)
  have k1 := hb.lit (b := w.heap.size) (o := 1) (v := .slice B ls.length d) (by go_simp)
  have hx : Ext w w1 := (by repeat first | exact Ext.refl _ | assumption | refine Ext.drew ?_ | refine Ext.alloc ?_ _ | refine Ext.setCell ?_ (by simp) | refine Ext.setCell ?_ (by simp; omega) | refine Ext.trans ?_ (by assumption))
  clear hb
  by_cases hz : (1048576 : Int) - ns.length - ls.length < 0
  · rw [if_pos hz]
    go_wp2
    go_ret
    exact ⟨rfl, hx⟩
  rw [if_neg hz]
  have hl : ns.length ≤ 1048576 := by omega
  have hm : ls.length ≤ 1048576 := by omega
  go_wp2_with fail
  refine (toWindow_c A B c d ns ls _ hl hm (h.ext hx) (g.ext hx)).mono ?_
  rintro e w2 ⟨g1, g2, rfl, -, -, hB1, hB2, hb⟩
  have k0 := hb.lit k0
  have k1 := hb.lit k1
  have hx := hx.trans hb
  clear hb
  go_wp2_with fail
  refine (HS.out _ _ _ _ _ (Wn.of hl hm hB1 hB2)).mono ?_
  rintro e w3 ⟨rfl, hb⟩
  have k0 := hb.lit k0
  have k1 := hb.lit k1
  have hx := hx.trans hb
  clear hb
  clear hB1 hB2
  have hs3 : w.heap.size < w3.heap.size := block_lt_of_cell k0
  go_wp2_with fail
  refine (toWindow_c A B c d ns ls _ hl hm (h.ext (hx.trans (by repeat first | exact Ext.refl _ | assumption | refine Ext.drew ?_ | refine Ext.alloc ?_ _ | refine Ext.setCell ?_ (by simp) | refine Ext.setCell ?_ (by simp; omega) | refine Ext.trans ?_ (by assumption)))) (g.ext (hx.trans (by repeat first | exact Ext.refl _ | assumption | refine Ext.drew ?_ | refine Ext.alloc ?_ _ | refine Ext.setCell ?_ (by simp) | refine Ext.setCell ?_ (by simp; omega) | refine Ext.trans ?_ (by assumption))))).mono ?_
  rintro e w4 ⟨g3, g4, rfl, -, -, hB3, hB4, hb⟩
  have s0 := hb.lit (b := w3.heap.size) (o := 0) (v := .int .i64 ax) (by go_simp)
  have s1 := hb.lit (b := w3.heap.size) (o := 1) (v := .int .i64 ay) (by go_simp)
  have s2 := hb.lit (b := w3.heap.size + 1) (o := 0) (v := .int .i64 bx) (by go_simp)
  have s3 := hb.lit (b := w3.heap.size + 1) (o := 1) (v := .int .i64 by') (by go_simp)
  have hx34 : Ext w3 w4 := (by repeat first | exact Ext.refl _ | assumption | refine Ext.drew ?_ | refine Ext.alloc ?_ _ | refine Ext.setCell ?_ (by simp) | refine Ext.setCell ?_ (by simp; omega) | refine Ext.trans ?_ (by assumption))
  have k0 := hx34.lit k0
  have k1 := hx34.lit k1
  have hx := hx.trans hx34
  have hs0 : w.heap.size < w4.heap.size := block_lt_of_cell k0
  clear hb hx34
  go_wp2_with fail
  refine (HI.out _ _ _ _ _ ((Wn.of hl hm hB3 hB4).ext (by repeat first | exact Ext.refl _ | assumption | refine Ext.drew ?_ | refine Ext.alloc ?_ _ | refine Ext.setCell ?_ (by simp) | refine Ext.setCell ?_ (by simp; omega) | refine Ext.trans ?_ (by assumption)))).mono ?_
  rintro e w5 ⟨rfl, hb⟩
  have k2 := hb.lit (b := w4.heap.size) (o := 0) (v := .slice (some ⟨g3, 0, none⟩) ns.length ns.length) (by go_simp)
  have k3 := hb.lit (b := w4.heap.size) (o := 1) (v := .slice (some ⟨g4, 0, none⟩) ls.length ls.length) (by go_simp)
  have hx45 : Ext w4 w5 := (by repeat first | exact Ext.refl _ | assumption | refine Ext.drew ?_ | refine Ext.alloc ?_ _ | refine Ext.setCell ?_ (by simp) | refine Ext.setCell ?_ (by simp; omega) | refine Ext.trans ?_ (by assumption))
  clear hb
  have k0 := hx45.lit k0
  have k1 := hx45.lit k1
  have s0 := hx45.lit s0
  have s1 := hx45.lit s1
  have s2 := hx45.lit s2
  have s3 := hx45.lit s3
  have hB3 := hB3.ext hx45
  have hB4 := hB4.ext hx45
  have hx := hx.trans hx45
  clear hx45
  have t0 : w.heap.size < w5.heap.size := block_lt_of_cell k0
  have t1 : w3.heap.size < w5.heap.size := block_lt_of_cell s0
  have t2 : w3.heap.size + 1 < w5.heap.size := block_lt_of_cell s2
  have t3 : w4.heap.size < w5.heap.size := block_lt_of_cell k2
  go_wp2_with fail
  refine (eqNode_c ax ay _).mono ?_
  rintro e w6 ⟨rfl, hb⟩
  have p2 := hb.lit (b := w5.heap.size + 1) (o := 0) (v := .int .i64 bx) (by go_simp)
  have p3 := hb.lit (b := w5.heap.size + 1) (o := 1) (v := .int .i64 by') (by go_simp)
  have hx56 : Ext w5 w6 := (by repeat first | exact Ext.refl _ | assumption | refine Ext.drew ?_ | refine Ext.alloc ?_ _ | refine Ext.setCell ?_ (by simp) | refine Ext.setCell ?_ (by simp; omega) | refine Ext.trans ?_ (by assumption))
  clear hb
  have k0 := hx56.lit k0
  have k1 := hx56.lit k1
  have k2 := hx56.lit k2
  have k3 := hx56.lit k3
  have s2 := hx56.lit s2
  have s3 := hx56.lit s3
  have hB3 := hB3.ext hx56
  have hB4 := hB4.ext hx56
  have hx := hx.trans hx56
  clear hx56
  go_wp2_with fail
  refine (eqNode_c bx by' _).mono ?_
  rintro e w7 ⟨rfl, hb⟩
  have k0 := hb.lit k0
  have k1 := hb.lit k1
  have k2 := hb.lit k2
  have k3 := hb.lit k3
  have hB3 := hB3.ext hb
  have hB4 := hB4.ext hb
  have hx := hx.trans hb
  clear hb
  go_wp2_with fail
  have d0 := cell_regrown k0
  have d1 := cell_regrown k1
  have d2 := cell_regrown k2
  have d3 := cell_regrown k3
  refine rx_open [(true, 0, some 41, 256), (true, 0, some 42, 4), (false, 2, some 43, 4398046511104), (false, 5, some 44, 10995116277760), (true, 8, some 45, 17592186044416)] 0 5 mixd rfl (by kernel_rfl) (by kernel_rfl) (by kernel_rfl) ?_
  refine rx_run (run := [0, 1]) (k := 3) (m' := 3) rfl (by kernel_rfl) (by kernel_rfl) (by kernel_rfl) (fm_cons rfl <| fm_cons rfl <| List.filterMap_nil) (by repeat first | exact Ext.refl _ | assumption | refine Ext.drew ?_ | refine Ext.alloc ?_ _ | refine Ext.setCell ?_ (by simp) | refine Ext.setCell ?_ (by simp; omega) | refine Ext.trans ?_ (by assumption)) ?_
  repeat (go_big_quiet_step ((fail)))
  refine wpQuiet_nil ?_
  refine rx_op 2 (k := 2) (m' := 7) rfl rfl (by kernel_rfl) (by kernel_rfl) ?_
  go_wp2_with (first | (go_at_call 27; refine (toWindow_c A B c d ns ls _ hl hm (h.ext (hx.trans (by repeat first | exact Ext.refl _ | assumption | refine Ext.drew ?_ | refine Ext.alloc ?_ _ | refine Ext.setCell ?_ (by simp) | refine Ext.setCell ?_ (by simp; omega) | refine Ext.trans ?_ (by assumption)))) (g.ext (hx.trans (by repeat first | exact Ext.refl _ | assumption | refine Ext.drew ?_ | refine Ext.alloc ?_ _ | refine Ext.setCell ?_ (by simp) | refine Ext.setCell ?_ (by simp; omega) | refine Ext.trans ?_ (by assumption))))).mono ?_; rintro e w6 ⟨g5, g6, rfl, -, -, hB5, hB6, hb6⟩) | (go_at_call 31; refine (eqWindow_c _ _ _ _ _ _ _ _ ns ls _ (by omega) (by omega) (hB3.ext (by repeat first | exact Ext.refl _ | assumption | refine Ext.drew ?_ | refine Ext.alloc ?_ _ | refine Ext.setCell ?_ (by simp) | refine Ext.setCell ?_ (by simp; omega) | refine Ext.trans ?_ (by assumption))).pr (hB5.ext (by repeat first | exact Ext.refl _ | assumption | refine Ext.drew ?_ | refine Ext.alloc ?_ _ | refine Ext.setCell ?_ (by simp) | refine Ext.setCell ?_ (by simp; omega) | refine Ext.trans ?_ (by assumption))).pr (hB4.ext (by repeat first | exact Ext.refl _ | assumption | refine Ext.drew ?_ | refine Ext.alloc ?_ _ | refine Ext.setCell ?_ (by simp) | refine Ext.setCell ?_ (by simp; omega) | refine Ext.trans ?_ (by assumption))).pr (hB6.ext (by repeat first | exact Ext.refl _ | assumption | refine Ext.drew ?_ | refine Ext.alloc ?_ _ | refine Ext.setCell ?_ (by simp) | refine Ext.setCell ?_ (by simp; omega) | refine Ext.trans ?_ (by assumption))).pr).mono ?_; rintro e w7 ⟨rfl, hb7⟩))
  refine rx_on (by repeat first | exact Ext.refl _ | assumption | refine Ext.drew ?_ | refine Ext.alloc ?_ _ | refine Ext.setCell ?_ (by simp) | refine Ext.setCell ?_ (by simp; omega) | refine Ext.trans ?_ (by assumption)) ?_
  refine rx_op 3 (k := 1) (m' := 15) rfl rfl (by kernel_rfl) (by kernel_rfl) ?_
  go_wp2_with (first | (go_at_call 27; refine (toWindow_c A B c d ns ls _ hl hm (h.ext (hx.trans (by repeat first | exact Ext.refl _ | assumption | refine Ext.drew ?_ | refine Ext.alloc ?_ _ | refine Ext.setCell ?_ (by simp) | refine Ext.setCell ?_ (by simp; omega) | refine Ext.trans ?_ (by assumption)))) (g.ext (hx.trans (by repeat first | exact Ext.refl _ | assumption | refine Ext.drew ?_ | refine Ext.alloc ?_ _ | refine Ext.setCell ?_ (by simp) | refine Ext.setCell ?_ (by simp; omega) | refine Ext.trans ?_ (by assumption))))).mono ?_; rintro e w6 ⟨g5, g6, rfl, -, -, hB5, hB6, hb6⟩) | (go_at_call 31; refine (eqWindow_c _ _ _ _ _ _ _ _ ns ls _ (by omega) (by omega) (hB3.ext (by repeat first | exact Ext.refl _ | assumption | refine Ext.drew ?_ | refine Ext.alloc ?_ _ | refine Ext.setCell ?_ (by simp) | refine Ext.setCell ?_ (by simp; omega) | refine Ext.trans ?_ (by assumption))).pr (hB5.ext (by repeat first | exact Ext.refl _ | assumption | refine Ext.drew ?_ | refine Ext.alloc ?_ _ | refine Ext.setCell ?_ (by simp) | refine Ext.setCell ?_ (by simp; omega) | refine Ext.trans ?_ (by assumption))).pr (hB4.ext (by repeat first | exact Ext.refl _ | assumption | refine Ext.drew ?_ | refine Ext.alloc ?_ _ | refine Ext.setCell ?_ (by simp) | refine Ext.setCell ?_ (by simp; omega) | refine Ext.trans ?_ (by assumption))).pr (hB6.ext (by repeat first | exact Ext.refl _ | assumption | refine Ext.drew ?_ | refine Ext.alloc ?_ _ | refine Ext.setCell ?_ (by simp) | refine Ext.setCell ?_ (by simp; omega) | refine Ext.trans ?_ (by assumption))).pr).mono ?_; rintro e w7 ⟨rfl, hb7⟩))
  refine rx_on (by repeat first | exact Ext.refl _ | assumption | refine Ext.drew ?_ | refine Ext.alloc ?_ _ | refine Ext.setCell ?_ (by simp) | refine Ext.setCell ?_ (by simp; omega) | refine Ext.trans ?_ (by assumption)) ?_
  refine rx_run (run := [4]) (k := 0) (m' := 31) rfl (by kernel_rfl) (by kernel_rfl) (by kernel_rfl) (fm_cons rfl <| List.filterMap_nil) (by repeat first | exact Ext.refl _ | assumption | refine Ext.drew ?_ | refine Ext.alloc ?_ _ | refine Ext.setCell ?_ (by simp) | refine Ext.setCell ?_ (by simp; omega) | refine Ext.trans ?_ (by assumption)) ?_
  repeat (go_big_quiet_step ((fail)))
  refine wpQuiet_nil ?_
  refine rx_end (by kernel_rfl) ?_
  go_wp2
  go_ret
  exact ⟨rfl, hx.trans (by repeat first | exact Ext.refl _ | assumption | refine Ext.drew ?_ | refine Ext.alloc ?_ _ | refine Ext.setCell ?_ (by simp) | refine Ext.setCell ?_ (by simp; omega) | refine Ext.trans ?_ (by assumption))⟩
end Go.Proofs.Ytebfddcmaignaaa
