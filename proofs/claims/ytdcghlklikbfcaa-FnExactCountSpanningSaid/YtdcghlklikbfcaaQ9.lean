import Derived.Test.YtdcghlklikbfcaaQ8
import Derived.Test.YtdcghlklikbfcaaG9
import Derived.Deep.DeepCutAuto
namespace Go.Proofs.Ytdcghlklikbfcaa
open Go.RowKit Go.Sort Go.BigFrame Dt
set_option maxRecDepth 100000 in
set_option maxHeartbeats 2000000 in
theorem law_CountSpanning (A B : Option Addr) (n c m d : Nat) (ns ls : List P2) (w : World) (hn : n = ns.length) (hm : m = ls.length) (hn63 : n ≤ 9223372036854775807) (hm63 : m ≤ 9223372036854775807) (h : Pr w w.heap.size A ns) (g : Pr w w.heap.size B ls) :
    Calls Try.prog 3 #[.agg #[.slice A n c, .slice B m d]] w fun e w' => e = .returned (.bool true) ∧ Ext w w' := by
  subst hn
  subst hm
  go_enter Try.func3, Try.ntmps3
  go_wp2_with fail
  refine (szWindow_c A B _ c _ d _ hn63 hm63).mono ?_
  rintro e w1 ⟨rfl, hb⟩
  have k0 := hb.lit (b := w.heap.size) (o := 0) (v := .slice A ns.length c) (by go_simp)
  have k1 := hb.lit (b := w.heap.size) (o := 1) (v := .slice B ls.length d) (by go_simp)
  have hx : Ext w w1 := (by repeat first | exact Ext.refl _ | assumption | refine Ext.drew ?_ | refine Ext.alloc ?_ _ | refine Ext.setCell ?_ (by simp) | refine Ext.setCell ?_ (by simp; omega) | refine Ext.trans ?_ (by assumption))
  clear hb
  by_cases hz : (1048576 : Int) - ns.length - ls.length < 0
  · rw [if_pos hz]
    go_wp2
    go_ret
    exact ⟨rfl, hx⟩
  rw [if_neg hz]
  have hl : ns.length ≤ 1048576 := by omega
  have hm : ls.length ≤ 1048576 := by omega
  go_wp2_with fail
  refine (toWindow_c A B c d ns ls _ hl hm (h.ext hx) (g.ext hx)).mono ?_
  rintro e w2 ⟨g1, g2, rfl, -, -, hB1, hB2, hb⟩
  have k0 := hb.lit k0
  have k1 := hb.lit k1
  have hx := hx.trans hb
  clear hb
  go_wp2_with fail
  refine (CountSpanning_s _ _ _ _ ns ls _ (Wn.of hl hm hB1 hB2)).mono ?_
  rintro e w3 ⟨rfl, hb⟩
  have k0 := hb.lit k0
  have k1 := hb.lit k1
  have hx := hx.trans hb
  have hs3w : w.heap.size < w3.heap.size := block_lt_of_cell k0
  clear hb hB1 hB2
  go_wp2_with fail
  refine (toWindow_c A B c d ns ls _ hl hm (h.ext hx) (g.ext hx)).mono ?_
  rintro e w4 ⟨g3, g4, rfl, hg3, hg4, hB3, hB4, hb⟩
  have k0 := hb.lit k0
  have k1 := hb.lit k1
  have hx := hx.trans hb
  have hx34 := hb
  clear hb
  have hs0 : w.heap.size < w4.heap.size := block_lt_of_cell k0
  go_wp2_with fail
  refine (CountSpanning_i _ _ _ _ ns ls _ ((Wn.of hl hm hB3 hB4).ext (by repeat first | exact Ext.refl _ | assumption | refine Ext.drew ?_ | refine Ext.alloc ?_ _ | refine Ext.setCell ?_ (by simp) | refine Ext.setCell ?_ (by simp; omega) | refine Ext.trans ?_ (by assumption)))).mono ?_
  rintro e w5 ⟨rfl, hb⟩
  have k0 := hb.lit (b := w.heap.size) (o := 0) (v := .slice A ns.length c) (by go_simp)
  have k1 := hb.lit (b := w.heap.size) (o := 1) (v := .slice B ls.length d) (by go_simp)
  have k2 := hb.lit (b := w4.heap.size) (o := 0) (v := .slice (some ⟨g3, 0, none⟩) ns.length ns.length) (by go_simp)
  have k3 := hb.lit (b := w4.heap.size) (o := 1) (v := .slice (some ⟨g4, 0, none⟩) ls.length ls.length) (by go_simp)
  have hx45 : Ext w4 w5 := (by repeat first | exact Ext.refl _ | assumption | refine Ext.drew ?_ | refine Ext.alloc ?_ _ | refine Ext.setCell ?_ (by simp) | refine Ext.setCell ?_ (by simp; omega) | refine Ext.trans ?_ (by assumption))
  have hx := hx.trans hx45
  have hB3 := hB3.ext hx45
  have hB4 := hB4.ext hx45
  clear hb
  have hc : (vCountSpanning ns ls != vCountSpanning ns ls ) = false := by simp
  go_wp2_with fail
  have d0 := cell_regrown k0
  have d1 := cell_regrown k1
  have d2 := cell_regrown k2
  have d3 := cell_regrown k3
  refine rx_open [(true, 0, some 22, 32), (true, 0, some 23, 2), (false, 2, some 24, 8388608), (false, 5, some 25, 20971520), (true, 8, some 26, 33554432)] 0 5 mixd rfl (by kernel_rfl) (by kernel_rfl) (by kernel_rfl) ?_
  refine rx_run (run := [0, 1]) (k := 3) (m' := 3) rfl (by kernel_rfl) (by kernel_rfl) (by kernel_rfl) (fm_cons rfl <| fm_cons rfl <| List.filterMap_nil) (by repeat first | exact Ext.refl _ | assumption | refine Ext.drew ?_ | refine Ext.alloc ?_ _ | refine Ext.setCell ?_ (by simp) | refine Ext.setCell ?_ (by simp; omega) | refine Ext.trans ?_ (by assumption)) ?_
  repeat (go_big_quiet_step ((fail)))
  refine wpQuiet_nil ?_
  refine rx_op 2 (k := 2) (m' := 7) rfl rfl (by kernel_rfl) (by kernel_rfl) ?_
  go_wp2_with (first | (go_at_call 7; refine (toWindow_c A B c d ns ls _ hl hm (h.ext (hx.trans (by repeat first | exact Ext.refl _ | assumption | refine Ext.drew ?_ | refine Ext.alloc ?_ _ | refine Ext.setCell ?_ (by simp) | refine Ext.setCell ?_ (by simp; omega) | refine Ext.trans ?_ (by assumption)))) (g.ext (hx.trans (by repeat first | exact Ext.refl _ | assumption | refine Ext.drew ?_ | refine Ext.alloc ?_ _ | refine Ext.setCell ?_ (by simp) | refine Ext.setCell ?_ (by simp; omega) | refine Ext.trans ?_ (by assumption))))).mono ?_; rintro e w6 ⟨g5, g6, rfl, -, -, hB5, hB6, hb6⟩) | (go_at_call 9; refine (eqWindow_c _ _ _ _ _ _ _ _ ns ls _ (by omega) (by omega) (hB3.ext (by repeat first | exact Ext.refl _ | assumption | refine Ext.drew ?_ | refine Ext.alloc ?_ _ | refine Ext.setCell ?_ (by simp) | refine Ext.setCell ?_ (by simp; omega) | refine Ext.trans ?_ (by assumption))).pr (hB5.ext (by repeat first | exact Ext.refl _ | assumption | refine Ext.drew ?_ | refine Ext.alloc ?_ _ | refine Ext.setCell ?_ (by simp) | refine Ext.setCell ?_ (by simp; omega) | refine Ext.trans ?_ (by assumption))).pr (hB4.ext (by repeat first | exact Ext.refl _ | assumption | refine Ext.drew ?_ | refine Ext.alloc ?_ _ | refine Ext.setCell ?_ (by simp) | refine Ext.setCell ?_ (by simp; omega) | refine Ext.trans ?_ (by assumption))).pr (hB6.ext (by repeat first | exact Ext.refl _ | assumption | refine Ext.drew ?_ | refine Ext.alloc ?_ _ | refine Ext.setCell ?_ (by simp) | refine Ext.setCell ?_ (by simp; omega) | refine Ext.trans ?_ (by assumption))).pr).mono ?_; rintro e w7 ⟨rfl, hb7⟩))
  refine rx_on (by repeat first | exact Ext.refl _ | assumption | refine Ext.drew ?_ | refine Ext.alloc ?_ _ | refine Ext.setCell ?_ (by simp) | refine Ext.setCell ?_ (by simp; omega) | refine Ext.trans ?_ (by assumption)) ?_
  refine rx_op 3 (k := 1) (m' := 15) rfl rfl (by kernel_rfl) (by kernel_rfl) ?_
  go_wp2_with (first | (go_at_call 7; refine (toWindow_c A B c d ns ls _ hl hm (h.ext (hx.trans (by repeat first | exact Ext.refl _ | assumption | refine Ext.drew ?_ | refine Ext.alloc ?_ _ | refine Ext.setCell ?_ (by simp) | refine Ext.setCell ?_ (by simp; omega) | refine Ext.trans ?_ (by assumption)))) (g.ext (hx.trans (by repeat first | exact Ext.refl _ | assumption | refine Ext.drew ?_ | refine Ext.alloc ?_ _ | refine Ext.setCell ?_ (by simp) | refine Ext.setCell ?_ (by simp; omega) | refine Ext.trans ?_ (by assumption))))).mono ?_; rintro e w6 ⟨g5, g6, rfl, -, -, hB5, hB6, hb6⟩) | (go_at_call 9; refine (eqWindow_c _ _ _ _ _ _ _ _ ns ls _ (by omega) (by omega) (hB3.ext (by repeat first | exact Ext.refl _ | assumption | refine Ext.drew ?_ | refine Ext.alloc ?_ _ | refine Ext.setCell ?_ (by simp) | refine Ext.setCell ?_ (by simp; omega) | refine Ext.trans ?_ (by assumption))).pr (hB5.ext (by repeat first | exact Ext.refl _ | assumption | refine Ext.drew ?_ | refine Ext.alloc ?_ _ | refine Ext.setCell ?_ (by simp) | refine Ext.setCell ?_ (by simp; omega) | refine Ext.trans ?_ (by assumption))).pr (hB4.ext (by repeat first | exact Ext.refl _ | assumption | refine Ext.drew ?_ | refine Ext.alloc ?_ _ | refine Ext.setCell ?_ (by simp) | refine Ext.setCell ?_ (by simp; omega) | refine Ext.trans ?_ (by assumption))).pr (hB6.ext (by repeat first | exact Ext.refl _ | assumption | refine Ext.drew ?_ | refine Ext.alloc ?_ _ | refine Ext.setCell ?_ (by simp) | refine Ext.setCell ?_ (by simp; omega) | refine Ext.trans ?_ (by assumption))).pr).mono ?_; rintro e w7 ⟨rfl, hb7⟩))
  refine rx_on (by repeat first | exact Ext.refl _ | assumption | refine Ext.drew ?_ | refine Ext.alloc ?_ _ | refine Ext.setCell ?_ (by simp) | refine Ext.setCell ?_ (by simp; omega) | refine Ext.trans ?_ (by assumption)) ?_
  refine rx_run (run := [4]) (k := 0) (m' := 31) rfl (by kernel_rfl) (by kernel_rfl) (by kernel_rfl) (fm_cons rfl <| List.filterMap_nil) (by repeat first | exact Ext.refl _ | assumption | refine Ext.drew ?_ | refine Ext.alloc ?_ _ | refine Ext.setCell ?_ (by simp) | refine Ext.setCell ?_ (by simp; omega) | refine Ext.trans ?_ (by assumption)) ?_
  repeat (go_big_quiet_step ((fail)))
  refine wpQuiet_nil ?_
  refine rx_end (by kernel_rfl) ?_
  go_wp2
  go_ret
  exact ⟨rfl, hx.trans (by repeat first | exact Ext.refl _ | assumption | refine Ext.drew ?_ | refine Ext.alloc ?_ _ | refine Ext.setCell ?_ (by simp) | refine Ext.setCell ?_ (by simp; omega) | refine Ext.trans ?_ (by assumption))⟩
end Go.Proofs.Ytdcghlklikbfcaa
