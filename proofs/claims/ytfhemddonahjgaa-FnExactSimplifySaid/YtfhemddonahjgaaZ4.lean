import Derived.Test.YtfhemddonahjgaaZ2
import Derived.Test.YtfhemddonahjgaaZ3
import Derived.Test.YtfhemddonahjgaaW0
namespace Go.Proofs.Ytfhemddonahjgaa
open Go.RowKit Go.Sort Go.BigFrame
set_option maxRecDepth 100000 in
set_option maxHeartbeats 8000000 in
theorem law_Simplify (A B : Option Addr) (n c m d : Nat) (ns ls : List P2) (w : World) (hn : n = ns.length) (hm : m = ls.length) (hn63 : n ≤ 9223372036854775807) (hm63 : m ≤ 9223372036854775807) (h : Pr w w.heap.size A ns) (g : Pr w w.heap.size B ls) :
    Calls Try.prog 6 #[.agg #[.slice A n c, .slice B m d]] w fun e w' => e = .returned (.bool true) ∧ Ext w w' := by
  subst hn
  subst hm
  have hlen := vSimplify_len ns ls 
  obtain ⟨⟨rn, rl⟩, hv⟩ : ∃ Q, vSimplify ns ls = Q := ⟨_, rfl⟩
  rw [hv] at hlen
  have HR := Lib.hid hv
  obtain ⟨hrn, hrl⟩ := hlen
  have hrn : rn.length ≤ ns.length + 1 := hrn
  have hrl : rl.length ≤ ls.length + 1 := hrl
  clear hv
  go_enter Try.func6, Try.ntmps6
  go_wp2_with fail
  refine (szWindow_c A B _ c _ d _ hn63 hm63).mono ?_
  rintro e w1 ⟨rfl, hb⟩
  have k0 := hb.lit (b := w.heap.size) (o := 0) (v := .slice A ns.length c) (by go_simp)
  have k1 := hb.lit (b := w.heap.size) (o := 1) (v := .slice B ls.length d) (by go_simp)
  have hx : Ext w w1 := (by repeat first | exact Ext.refl _ | assumption | refine Ext.drew ?_ | refine Ext.alloc ?_ _ | refine Ext.setCell ?_ (by simp) | refine Ext.setCell ?_ (by simp; omega) | refine Ext.trans ?_ (by assumption))
  clear hb
  by_cases hz : (1048576 : Int) - ns.length - ls.length < 0
  · rw [if_pos hz]
    go_wp2
    go_ret
    exact ⟨rfl, hx⟩
  rw [if_neg hz]
  have hl : ns.length ≤ 1048576 := by omega
  have hm : ls.length ≤ 1048576 := by omega
  go_wp2_with fail
  refine (toWindow_c A B c d ns ls _ hl hm (h.ext hx) (g.ext hx)).mono ?_
  rintro e wa ⟨g1, g2, rfl, -, -, hB1, hB2, hb⟩
  have k0 := hb.lit k0
  have k1 := hb.lit k1
  have hx := hx.trans hb
  clear hb
  go_wp2_with fail
  refine (Simplify_s _ _ _ _ ns ls _ (Wn.of hl hm hB1 hB2)).mono ?_
  rw [HR.out]
  rintro e wd ⟨v7, v8, rfl, o7, o8, hb⟩
  have k0 := hb.lit k0
  have k1 := hb.lit k1
  have hx := hx.trans hb
  clear hb
  clear hB1 hB2
  obtain ⟨A7, c7, rfl, -, -, -⟩ := OwP.shape o7
  obtain ⟨A8, c8, rfl, -, -, -⟩ := OwP.shape o8
  go_upto_region 6 with fail
  have t0 : (wd.alloc (.cells #[.slice A7 rn.length c7, .slice A8 rl.length c8] 32)).cell? ⟨wd.heap.size, 0, none⟩ = some (.slice A7 rn.length c7) := by go_simp
  have t1 : (wd.alloc (.cells #[.slice A7 rn.length c7, .slice A8 rl.length c8] 32)).cell? ⟨wd.heap.size, 1, none⟩ = some (.slice A8 rl.length c8) := by go_simp
  have hx2 : Ext wd (wd.alloc (.cells #[.slice A7 rn.length c7, .slice A8 rl.length c8] 32)) := (Ext.refl _).alloc _
  generalize (wd.alloc (.cells #[.slice A7 rn.length c7, .slice A8 rl.length c8] 32)) = w2 at *
  generalize hgb0 : wd.heap.size = gb at *
  have k0 := hx2.lit k0
  have k1 := hx2.lit k1
  have o7 := o7.ext hx2
  have o8 := o8.ext hx2
  have hx := hx.trans hx2
  clear hx2
  have hgb : gb < w2.heap.size := block_lt_of_cell t0
  have HO7 := Lib.hid (fun q hq => (OwP.blk o7 q hq).2)
  have HO8 := Lib.hid (fun q hq => (OwP.blk o8 q hq).2)
  have hs2 : w.heap.size < w2.heap.size := block_lt_of_cell k0
  go_wp2_with fail
  refine (toWindow_c A B c d ns ls _ hl hm (h.ext hx) (g.ext hx)).mono ?_
  rintro e w3 ⟨g3, g4, rfl, hg3, hg34, hB3, hB4, hb⟩
  have k0 := hb.lit k0
  have k1 := hb.lit k1
  have t0 := hb.lit t0
  have t1 := hb.lit t1
  have o7 := o7.ext hb
  have o8 := o8.ext hb
  have hx := hx.trans hb
  clear hb
  have hg4 := hB4.lt
  go_upto_region 7 with fail
  have x0 : (w3.alloc (.cells #[.slice (some ⟨g3, 0, none⟩) ns.length ns.length, .slice (some ⟨g4, 0, none⟩) ls.length ls.length] 32)).cell? ⟨w3.heap.size, 0, none⟩ = some (.slice (some ⟨g3, 0, none⟩) ns.length ns.length) := by go_simp
  have x1 : (w3.alloc (.cells #[.slice (some ⟨g3, 0, none⟩) ns.length ns.length, .slice (some ⟨g4, 0, none⟩) ls.length ls.length] 32)).cell? ⟨w3.heap.size, 1, none⟩ = some (.slice (some ⟨g4, 0, none⟩) ls.length ls.length) := by go_simp
  have hx34 : Ext w3 (w3.alloc (.cells #[.slice (some ⟨g3, 0, none⟩) ns.length ns.length, .slice (some ⟨g4, 0, none⟩) ls.length ls.length] 32)) := (Ext.refl _).alloc _
  have hs34 : (w3.alloc (.cells #[.slice (some ⟨g3, 0, none⟩) ns.length ns.length, .slice (some ⟨g4, 0, none⟩) ls.length ls.length] 32)).heap.size = w3.heap.size + 1 := by simp
  generalize (w3.alloc (.cells #[.slice (some ⟨g3, 0, none⟩) ns.length ns.length, .slice (some ⟨g4, 0, none⟩) ls.length ls.length] 32)) = w4 at *
  generalize hgx : w3.heap.size = gx at *
  have HS4 : Hid (w4.heap.size = gx + 1) := Lib.hid hs34
  have k0 := hx34.lit k0
  have k1 := hx34.lit k1
  have t0 := hx34.lit t0
  have t1 := hx34.lit t1
  have o7 := o7.ext hx34
  have o8 := o8.ext hx34
  have hB3 := hB3.ext hx34
  have hB4 := hB4.ext hx34
  have hx := hx.trans hx34
  clear hx34
  clear hs34
  go_wp2_with fail
  refine (Simplify_i _ _ _ _ ns ls _ (Wn.of hl hm hB3 hB4)).mono ?_
  rw [HR.out]
  rintro e we ⟨v9, v10, rfl, o9, o10, hb⟩
  have hgiS := hb.size
  have k0 := hb.lit k0
  have k1 := hb.lit k1
  have t0 := hb.lit t0
  have t1 := hb.lit t1
  have x0 := hb.lit x0
  have x1 := hb.lit x1
  have o7 := o7.ext hb
  have o8 := o8.ext hb
  have hB3 := hB3.ext hb
  have hB4 := hB4.ext hb
  have hx := hx.trans hb
  clear hb
  obtain ⟨A9, c9, rfl, -, -, -⟩ := OwP.shape o9
  obtain ⟨A10, c10, rfl, -, -, -⟩ := OwP.shape o10
  rw [HS4.out] at o9 o10
  go_upto_region 8 with fail
  have u0 : (we.alloc (.cells #[.slice A9 rn.length c9, .slice A10 rl.length c10] 32)).cell? ⟨we.heap.size, 0, none⟩ = some (.slice A9 rn.length c9) := by go_simp
  have u1 : (we.alloc (.cells #[.slice A9 rn.length c9, .slice A10 rl.length c10] 32)).cell? ⟨we.heap.size, 1, none⟩ = some (.slice A10 rl.length c10) := by go_simp
  have hx5 : Ext we (we.alloc (.cells #[.slice A9 rn.length c9, .slice A10 rl.length c10] 32)) := (Ext.refl _).alloc _
  have HQ9 : Hid (∀ q, (Value.slice A9 rn.length c9).ownBlock = some q → q ≠ we.heap.size) := Lib.hid (fun q hq => by have := (OwP.blk o9 q hq).2; omega)
  have HQ10 : Hid (∀ q, (Value.slice A10 rl.length c10).ownBlock = some q → q ≠ we.heap.size) := Lib.hid (fun q hq => by have := (OwP.blk o10 q hq).2; omega)
  have hgi : gx + 1 ≤ we.heap.size := by rw [← HS4.out]; exact hgiS
  generalize (we.alloc (.cells #[.slice A9 rn.length c9, .slice A10 rl.length c10] 32)) = w5 at *
  clear hgiS
  generalize hgi0 : we.heap.size = gi at *
  have k0 := hx5.lit k0
  have k1 := hx5.lit k1
  have t0 := hx5.lit t0
  have t1 := hx5.lit t1
  have x0 := hx5.lit x0
  have x1 := hx5.lit x1
  have o7 := o7.ext hx5
  have o8 := o8.ext hx5
  have o9 := o9.ext hx5
  have o10 := o10.ext hx5
  have hB3 := hB3.ext hx5
  have hB4 := hB4.ext hx5
  have hx := hx.trans hx5
  clear hx5
  go_wp2_with fail
  refine (eqWindow_c _ _ _ _ _ _ _ _ rn rl _ (by omega) (by omega) (pr_of o9) (pr_of o7) (pr_of o10) (pr_of o8)).mono ?_
  rintro e w6 ⟨rfl, hb⟩
  have k0 := hb.lit k0
  have k1 := hb.lit k1
  have t0 := hb.lit t0
  have t1 := hb.lit t1
  have x0 := hb.lit x0
  have x1 := hb.lit x1
  have u0 := hb.lit u0
  have u1 := hb.lit u1
  have o7 := o7.ext hb
  have o8 := o8.ext hb
  have o9 := o9.ext hb
  have o10 := o10.ext hb
  have hB3 := hB3.ext hb
  have hB4 := hB4.ext hb
  have hx := hx.trans hb
  clear hb
  go_upto_region 10 with fail
  go_cut [31] (fun sx wx => sx = .bool false ∧ Ext w6 wx)
  case first =>
    have d0 := cell_regrown k0
    have d1 := cell_regrown k1
    have d2 := cell_regrown x0
    have d3 := cell_regrown x1
    refine rx_open [(true, 0, some 27, 32), (true, 0, some 28, 2), (false, 2, some 29, 268435456), (false, 5, some 30, 671088640), (true, 8, some 31, 1073741824)] 0 5 mixd rfl (by kernel_rfl) (by kernel_rfl) (by kernel_rfl) ?_
    refine rx_run (run := [0, 1]) (k := 3) (m' := 3) rfl (by kernel_rfl) (by kernel_rfl) (by kernel_rfl) (fm_cons rfl <| fm_cons rfl <| List.filterMap_nil) (by repeat first | exact Ext.refl _ | assumption | refine Ext.drew ?_ | refine Ext.alloc ?_ _ | refine Ext.setCell ?_ (by simp) | refine Ext.setCell ?_ (by simp; omega) | refine Ext.trans ?_ (by assumption)) ?_
    repeat (go_big_quiet_step ((fail)))
    refine wpQuiet_nil ?_
    refine rx_op 2 (k := 2) (m' := 7) rfl rfl (by kernel_rfl) (by kernel_rfl) ?_
    go_wp2_with (first | (go_at_call 10; refine (toWindow_c A B c d ns ls _ hl hm (h.ext (hx.trans (by repeat first | exact Ext.refl _ | assumption | refine Ext.drew ?_ | refine Ext.alloc ?_ _ | refine Ext.setCell ?_ (by simp) | refine Ext.setCell ?_ (by simp; omega) | refine Ext.trans ?_ (by assumption)))) (g.ext (hx.trans (by repeat first | exact Ext.refl _ | assumption | refine Ext.drew ?_ | refine Ext.alloc ?_ _ | refine Ext.setCell ?_ (by simp) | refine Ext.setCell ?_ (by simp; omega) | refine Ext.trans ?_ (by assumption))))).mono ?_; rintro e w8 ⟨g5, g6, rfl, -, -, hB5, hB6, hb6⟩) | (go_at_call 13; refine (eqWindow_c _ _ _ _ _ _ _ _ ns ls _ (by omega) (by omega) (hB3.ext (by repeat first | exact Ext.refl _ | assumption | refine Ext.drew ?_ | refine Ext.alloc ?_ _ | refine Ext.setCell ?_ (by simp) | refine Ext.setCell ?_ (by simp; omega) | refine Ext.trans ?_ (by assumption))).pr (hB5.ext (by repeat first | exact Ext.refl _ | assumption | refine Ext.drew ?_ | refine Ext.alloc ?_ _ | refine Ext.setCell ?_ (by simp) | refine Ext.setCell ?_ (by simp; omega) | refine Ext.trans ?_ (by assumption))).pr (hB4.ext (by repeat first | exact Ext.refl _ | assumption | refine Ext.drew ?_ | refine Ext.alloc ?_ _ | refine Ext.setCell ?_ (by simp) | refine Ext.setCell ?_ (by simp; omega) | refine Ext.trans ?_ (by assumption))).pr (hB6.ext (by repeat first | exact Ext.refl _ | assumption | refine Ext.drew ?_ | refine Ext.alloc ?_ _ | refine Ext.setCell ?_ (by simp) | refine Ext.setCell ?_ (by simp; omega) | refine Ext.trans ?_ (by assumption))).pr).mono ?_; rintro e w9 ⟨rfl, hb7⟩))
    refine rx_on (by repeat first | exact Ext.refl _ | assumption | refine Ext.drew ?_ | refine Ext.alloc ?_ _ | refine Ext.setCell ?_ (by simp) | refine Ext.setCell ?_ (by simp; omega) | refine Ext.trans ?_ (by assumption)) ?_
    refine rx_op 3 (k := 1) (m' := 15) rfl rfl (by kernel_rfl) (by kernel_rfl) ?_
    go_wp2_with (first | (go_at_call 10; refine (toWindow_c A B c d ns ls _ hl hm (h.ext (hx.trans (by repeat first | exact Ext.refl _ | assumption | refine Ext.drew ?_ | refine Ext.alloc ?_ _ | refine Ext.setCell ?_ (by simp) | refine Ext.setCell ?_ (by simp; omega) | refine Ext.trans ?_ (by assumption)))) (g.ext (hx.trans (by repeat first | exact Ext.refl _ | assumption | refine Ext.drew ?_ | refine Ext.alloc ?_ _ | refine Ext.setCell ?_ (by simp) | refine Ext.setCell ?_ (by simp; omega) | refine Ext.trans ?_ (by assumption))))).mono ?_; rintro e w8 ⟨g5, g6, rfl, -, -, hB5, hB6, hb6⟩) | (go_at_call 13; refine (eqWindow_c _ _ _ _ _ _ _ _ ns ls _ (by omega) (by omega) (hB3.ext (by repeat first | exact Ext.refl _ | assumption | refine Ext.drew ?_ | refine Ext.alloc ?_ _ | refine Ext.setCell ?_ (by simp) | refine Ext.setCell ?_ (by simp; omega) | refine Ext.trans ?_ (by assumption))).pr (hB5.ext (by repeat first | exact Ext.refl _ | assumption | refine Ext.drew ?_ | refine Ext.alloc ?_ _ | refine Ext.setCell ?_ (by simp) | refine Ext.setCell ?_ (by simp; omega) | refine Ext.trans ?_ (by assumption))).pr (hB4.ext (by repeat first | exact Ext.refl _ | assumption | refine Ext.drew ?_ | refine Ext.alloc ?_ _ | refine Ext.setCell ?_ (by simp) | refine Ext.setCell ?_ (by simp; omega) | refine Ext.trans ?_ (by assumption))).pr (hB6.ext (by repeat first | exact Ext.refl _ | assumption | refine Ext.drew ?_ | refine Ext.alloc ?_ _ | refine Ext.setCell ?_ (by simp) | refine Ext.setCell ?_ (by simp; omega) | refine Ext.trans ?_ (by assumption))).pr).mono ?_; rintro e w9 ⟨rfl, hb7⟩))
    refine rx_on (by repeat first | exact Ext.refl _ | assumption | refine Ext.drew ?_ | refine Ext.alloc ?_ _ | refine Ext.setCell ?_ (by simp) | refine Ext.setCell ?_ (by simp; omega) | refine Ext.trans ?_ (by assumption)) ?_
    refine rx_run (run := [4]) (k := 0) (m' := 31) rfl (by kernel_rfl) (by kernel_rfl) (by kernel_rfl) (fm_cons rfl <| List.filterMap_nil) (by repeat first | exact Ext.refl _ | assumption | refine Ext.drew ?_ | refine Ext.alloc ?_ _ | refine Ext.setCell ?_ (by simp) | refine Ext.setCell ?_ (by simp; omega) | refine Ext.trans ?_ (by assumption)) ?_
    repeat (go_big_quiet_step ((fail)))
    refine wpQuiet_nil ?_
    refine rx_end (by kernel_rfl) ?_
    go_wp2
    go_meet
    exact ⟨rfl, (by repeat first | exact Ext.refl _ | assumption | refine Ext.drew ?_ | refine Ext.alloc ?_ _ | refine Ext.setCell ?_ (by simp) | refine Ext.setCell ?_ (by simp; omega) | refine Ext.trans ?_ (by assumption))⟩
  case rest =>
    obtain ⟨rfl, hb⟩ := hcut
    obtain ⟨w7, rfl⟩ : ∃ x : World, x = wc := ⟨_, rfl⟩
    have k0 := hb.lit k0
    have k1 := hb.lit k1
    have t0 := hb.lit t0
    have t1 := hb.lit t1
    have x0 := hb.lit x0
    have x1 := hb.lit x1
    have u0 := hb.lit u0
    have u1 := hb.lit u1
    have o7 := o7.ext hb
    have o8 := o8.ext hb
    have o9 := o9.ext hb
    have o10 := o10.ext hb
    have hB3 := hB3.ext hb
    have hB4 := hB4.ext hb
    have hx := hx.trans hb
    clear hb
    have oN : OwP w7 g3 36 (.slice (some ⟨g3, 0, none⟩) ns.length ns.length) ns := OwP.new hB3 (Nat.le_refl _) (by unfold maxLen; omega)
    have oL : OwP w7 g4 52 (.slice (some ⟨g4, 0, none⟩) ls.length ls.length) ls := OwP.new hB4 (Nat.le_refl _) (by unfold maxLen; omega)
    clear hB3 hB4
    go_wp2_with fail
    refine (markWindow_c _ _ _ _ _ _ ns ls 1 _ oN oL (by omega) (by omega) (by omega) (by omega) (OwP.dj oN oL (by decide))).mono ?_
    rintro e w8 ⟨rfl, -, -, wm, gr1, gr2⟩
    have k0 := gb_lit gr2 (gb_lit gr1 k0 (fun e => by simp [Value.ownBlock] at e; omega)) (fun e => by simp [Value.ownBlock] at e; omega)
    have k1 := gb_lit gr2 (gb_lit gr1 k1 (fun e => by simp [Value.ownBlock] at e; omega)) (fun e => by simp [Value.ownBlock] at e; omega)
    have t0 := gb_lit gr2 (gb_lit gr1 t0 (fun e => by simp [Value.ownBlock] at e; omega)) (fun e => by simp [Value.ownBlock] at e; omega)
    have t1 := gb_lit gr2 (gb_lit gr1 t1 (fun e => by simp [Value.ownBlock] at e; omega)) (fun e => by simp [Value.ownBlock] at e; omega)
    have u0 := gb_lit gr2 (gb_lit gr1 u0 (fun e => by simp [Value.ownBlock] at e; omega)) (fun e => by simp [Value.ownBlock] at e; omega)
    have u1 := gb_lit gr2 (gb_lit gr1 u1 (fun e => by simp [Value.ownBlock] at e; omega)) (fun e => by simp [Value.ownBlock] at e; omega)
    have o7 := (OwP.gb o7 gr1 (fun q hq e => by have := HO7.out q hq; simp [Value.ownBlock] at e; omega)).gb gr2 (fun q hq e => by have := HO7.out q hq; simp [Value.ownBlock] at e; omega)
    have o8 := (OwP.gb o8 gr1 (fun q hq e => by have := HO8.out q hq; simp [Value.ownBlock] at e; omega)).gb gr2 (fun q hq e => by have := HO8.out q hq; simp [Value.ownBlock] at e; omega)
    have o9 := (OwP.gb o9 gr1 (fun q hq e => by have := (OwP.blk o9 q hq).1; simp [Value.ownBlock] at e; omega)).gb gr2 (fun q hq e => by have := (OwP.blk o9 q hq).1; simp [Value.ownBlock] at e; omega)
    have o10 := (OwP.gb o10 gr1 (fun q hq e => by have := (OwP.blk o10 q hq).1; simp [Value.ownBlock] at e; omega)).gb gr2 (fun q hq e => by have := (OwP.blk o10 q hq).1; simp [Value.ownBlock] at e; omega)
    have hx := gb_ext2 (gb_ext2 hx gr1 (fun q e => by simp [Value.ownBlock] at e; omega)) gr2 (fun q e => by simp [Value.ownBlock] at e; omega)
    clear gr1 gr2 oN oL x0 x1
    go_wp2_with fail
    refine (eqWindow_c _ _ _ _ _ _ _ _ rn rl _ (by omega) (by omega) (pr_of o9) (pr_of o7) (pr_of o10) (pr_of o8)).mono ?_
    rintro e w9 ⟨rfl, hb⟩
    have k0 := hb.lit k0
    have k1 := hb.lit k1
    have t0 := hb.lit t0
    have t1 := hb.lit t1
    have u0 := hb.lit u0
    have u1 := hb.lit u1
    have o7 := o7.ext hb
    have o8 := o8.ext hb
    have o9 := o9.ext hb
    have o10 := o10.ext hb
    have hx := hx.trans hb
    clear hb
    go_wp2_with fail
    refine (markWindow_c _ _ _ _ _ _ rn rl 1 _ o9 o10 (by omega) (by omega) (by omega) (by omega) (OwP.dj o9 o10 (by decide))).mono ?_
    rintro e w10 ⟨rfl, p9, p10, wm, gr1, gr2⟩
    have hr1 : ∀ q, (Value.slice A9 rn.length c9).ownBlock = some q → gx + 1 ≤ q := fun q hq => (OwP.blk o9 q hq).1
    have hr2 : ∀ q, (Value.slice A10 rl.length c10).ownBlock = some q → gx + 1 ≤ q := fun q hq => (OwP.blk o10 q hq).1
    have k0 := gb_lit gr2 (gb_lit gr1 k0 (fun e => by have := hr1 _ e; omega)) (fun e => by have := hr2 _ e; omega)
    have k1 := gb_lit gr2 (gb_lit gr1 k1 (fun e => by have := hr1 _ e; omega)) (fun e => by have := hr2 _ e; omega)
    have t0 := gb_lit gr2 (gb_lit gr1 t0 (fun e => by have := hr1 _ e; omega)) (fun e => by have := hr2 _ e; omega)
    have t1 := gb_lit gr2 (gb_lit gr1 t1 (fun e => by have := hr1 _ e; omega)) (fun e => by have := hr2 _ e; omega)
    have u0 := gb_lit gr2 (gb_lit gr1 u0 (fun e => HQ9.out _ e rfl)) (fun e => HQ10.out _ e rfl)
    have u1 := gb_lit gr2 (gb_lit gr1 u1 (fun e => HQ9.out _ e rfl)) (fun e => HQ10.out _ e rfl)
    have o7 := (OwP.gb o7 gr1 (fun q hq e => by have := HO7.out q hq; have := hr1 q e; omega)).gb gr2 (fun q hq e => by have := HO7.out q hq; have := hr2 q e; omega)
    have o8 := (OwP.gb o8 gr1 (fun q hq e => by have := HO8.out q hq; have := hr1 q e; omega)).gb gr2 (fun q hq e => by have := HO8.out q hq; have := hr2 q e; omega)
    have hx := gb_ext2 (gb_ext2 hx gr1 (fun q e => by have := hr1 q e; omega)) gr2 (fun q e => by have := hr2 q e; omega)
    clear gr1 gr2 o9 o10 hr1 hr2
    go_wp2_with fail
    refine (heldWindow_c _ _ _ _ _ _ rn.length rl.length 1 _ p9 p10 (by omega) (by omega) (by omega) (by omega)).mono ?_
    rintro e w11 ⟨rfl, hb⟩
    have hbn : ((1 : Int) + 2 * (rn.length : Int) + 2 * (rl.length : Int) != 1 + 2 * (rn.length : Int) + 2 * (rl.length : Int)) = false := by simp
    have k0 := hb.lit k0
    have k1 := hb.lit k1
    have t0 := hb.lit t0
    have t1 := hb.lit t1
    have u0 := hb.lit u0
    have u1 := hb.lit u1
    have o7 := o7.ext hb
    have o8 := o8.ext hb
    have p9 := p9.ext hb
    have p10 := p10.ext hb
    have hx := hx.trans hb
    clear hb
    go_wp2_with fail
    refine (toWindow_c A B c d ns ls _ hl hm (h.ext hx) (g.ext hx)).mono ?_
    rintro e wf ⟨g5, g6, rfl, -, -, hB5, hB6, hb⟩
    have t0 := hb.lit t0
    have t1 := hb.lit t1
    have u0 := hb.lit u0
    have u1 := hb.lit u1
    have o7 := o7.ext hb
    have o8 := o8.ext hb
    have p9 := p9.ext hb
    have p10 := p10.ext hb
    have hx := hx.trans hb
    clear hb
    go_wp2_with fail
    refine (Simplify_i _ _ _ _ ns ls _ (Wn.of hl hm hB5 hB6)).mono ?_
    rw [HR.out]
    rintro e wg ⟨v11, v12, rfl, o11, o12, hb⟩
    have t0 := hb.lit t0
    have t1 := hb.lit t1
    have u0 := hb.lit u0
    have u1 := hb.lit u1
    have o7 := o7.ext hb
    have o8 := o8.ext hb
    have p9 := p9.ext hb
    have p10 := p10.ext hb
    have hx := hx.trans hb
    clear hb
    obtain ⟨A11, c11, rfl, -, -, -⟩ := OwP.shape o11
    obtain ⟨A12, c12, rfl, -, -, -⟩ := OwP.shape o12
    go_upto_region 25 with fail
    have y0 : (wg.alloc (.cells #[.slice A11 rn.length c11, .slice A12 rl.length c12] 32)).cell? ⟨wg.heap.size, 0, none⟩ = some (.slice A11 rn.length c11) := by go_simp
    have y1 : (wg.alloc (.cells #[.slice A11 rn.length c11, .slice A12 rl.length c12] 32)).cell? ⟨wg.heap.size, 1, none⟩ = some (.slice A12 rl.length c12) := by go_simp
    have hx6 : Ext wg (wg.alloc (.cells #[.slice A11 rn.length c11, .slice A12 rl.length c12] 32)) := (Ext.refl _).alloc _
    generalize (wg.alloc (.cells #[.slice A11 rn.length c11, .slice A12 rl.length c12] 32)) = w12 at *
    have t0 := hx6.lit t0
    have t1 := hx6.lit t1
    have u0 := hx6.lit u0
    have u1 := hx6.lit u1
    have o7 := o7.ext hx6
    have o8 := o8.ext hx6
    have p9 := p9.ext hx6
    have p10 := p10.ext hx6
    have o11 := o11.ext hx6
    have o12 := o12.ext hx6
    have hx := hx.trans hx6
    clear hx6
    go_wp2_with fail
    refine (eqWindow_c _ _ _ _ _ _ _ _ rn rl _ (by omega) (by omega) (pr_of o11) (pr_of o7) (pr_of o12) (pr_of o8)).mono ?_
    rintro e w13 ⟨rfl, hb⟩
    have u0 := hb.lit u0
    have u1 := hb.lit u1
    have p9 := p9.ext hb
    have p10 := p10.ext hb
    have hx := hx.trans hb
    clear hb
    go_wp2_with fail
    refine (heldWindow_c _ _ _ _ _ _ rn.length rl.length 1 _ p9 p10 (by omega) (by omega) (by omega) (by omega)).mono ?_
    rintro e w14 ⟨rfl, hb⟩
    go_wp2
    go_ret
    exact ⟨rfl, hx.trans hb⟩
end Go.Proofs.Ytfhemddonahjgaa
