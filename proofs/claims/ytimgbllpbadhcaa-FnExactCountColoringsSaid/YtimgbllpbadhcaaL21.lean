import Derived.Test.YtimgbllpbadhcaaG9
import Derived.Test.YtimgbllpbadhcaaD40
import Derived.Deep.DeepCutAuto
namespace Go.Proofs.Ytimgbllpbadhcaa
open Go.RowKit Go.Sort Go.BigFrame
set_option maxRecDepth 100000 in
set_option maxHeartbeats 4000000 in
theorem law_ColorWith (A B : Option Addr) (n c m d : Nat) (ns ls : List P2) (k : Int) (w : World) (hn : n = ns.length) (hm : m = ls.length) (hn63 : n ≤ 9223372036854775807) (hm63 : m ≤ 9223372036854775807) (h : Pr w w.heap.size A ns) (g : Pr w w.heap.size B ls) :
    Calls Try.prog 13 #[.agg #[.slice A n c, .slice B m d], .int .i64 k] w fun e w' => e = .returned (.bool true) ∧ Ext w w' := by
  subst hn
  subst hm
  have hlen := vColorWith_len ns ls k 
  go_enter Try.func13, Try.ntmps13
  go_wp2_with fail
  refine (szWindow_c A B _ c _ d _ hn63 hm63).mono ?_
  rintro e w1 ⟨rfl, hb⟩
  have k0 := hb.lit (b := w.heap.size) (o := 0) (v := .slice A ns.length c) (by go_simp)
  have k1 := hb.lit (b := w.heap.size) (o := 1) (v := .slice B ls.length d) (by go_simp)
  have hx : Ext w w1 := (by repeat first | exact Ext.refl _ | assumption | refine Ext.drew ?_ | refine Ext.alloc ?_ _ | refine Ext.setCell ?_ (by simp) | refine Ext.setCell ?_ (by simp; omega) | refine Ext.trans ?_ (by assumption))
  clear hb
  by_cases hz : (1048576 : Int) - ns.length - ls.length < 0
  · rw [if_pos hz]
    go_wp2
    go_ret
    exact ⟨rfl, hx⟩
  rw [if_neg hz]
  have hl : ns.length ≤ 1048576 := by omega
  have hm : ls.length ≤ 1048576 := by omega
  go_wp2_with fail
  refine (toWindow_c A B c d ns ls _ hl hm (h.ext hx) (g.ext hx)).mono ?_
  rintro e w2 ⟨g1, g2, rfl, -, -, hB1, hB2, hb⟩
  have k0 := hb.lit k0
  have k1 := hb.lit k1
  have hx := hx.trans hb
  clear hb
  go_wp2_with fail
  refine (ColorWith_s _ _ _ _ ns ls k _ (Wn.of hl hm hB1 hB2)).mono ?_
  rintro e w3 ⟨vs, rfl, hs, hb⟩
  obtain ⟨As, cs, rfl, -, -, -⟩ := hs.shape
  have k0 := hb.lit k0
  have k1 := hb.lit k1
  have hx := hx.trans hb
  have hs3w : w.heap.size < w3.heap.size := block_lt_of_cell k0
  clear hb hB1 hB2
  go_wp2_with fail
  refine (toWindow_c A B c d ns ls _ hl hm (h.ext hx) (g.ext hx)).mono ?_
  rintro e w4 ⟨g3, g4, rfl, hg3, hg4, hB3, hB4, hb⟩
  have k0 := hb.lit k0
  have k1 := hb.lit k1
  have hx := hx.trans hb
  have hx34 := hb
  clear hb
  have hs0 : w.heap.size < w4.heap.size := block_lt_of_cell k0
  go_wp2_with fail
  have hsx : ∀ q, (Value.slice As (vColorWith ns ls k ).1.length cs).ownBlock = some q → q < g3 := fun q hq => by
    have h1 := (hs.blk q hq).2
    have h2 := hg3
    omega
  have hs := hs.ext hx34
  refine (ColorWith_i _ _ _ _ ns ls k _ ((Wn.of hl hm hB3 hB4).ext (by repeat first | exact Ext.refl _ | assumption | refine Ext.drew ?_ | refine Ext.alloc ?_ _ | refine Ext.setCell ?_ (by simp) | refine Ext.setCell ?_ (by simp; omega) | refine Ext.trans ?_ (by assumption)))).mono ?_
  rintro e w5 ⟨vi, rfl, hi, hb⟩
  obtain ⟨Ai, ci, rfl, -, -, -⟩ := hi.shape
  have hix : ∀ q, (Value.slice Ai (vColorWith ns ls k ).1.length ci).ownBlock = some q → w4.heap.size < q := fun q hq => by
    have h1 := (hi.blk q hq).1
    simp at h1
    omega
  have hg4x := hB4.lt
  have hg3x := hB3.lt
  have k0 := hb.lit (b := w.heap.size) (o := 0) (v := .slice A ns.length c) (by go_simp)
  have k1 := hb.lit (b := w.heap.size) (o := 1) (v := .slice B ls.length d) (by go_simp)
  have k2 := hb.lit (b := w4.heap.size) (o := 0) (v := .slice (some ⟨g3, 0, none⟩) ns.length ns.length) (by go_simp)
  have k3 := hb.lit (b := w4.heap.size) (o := 1) (v := .slice (some ⟨g4, 0, none⟩) ls.length ls.length) (by go_simp)
  have hx45 : Ext w4 w5 := (by repeat first | exact Ext.refl _ | assumption | refine Ext.drew ?_ | refine Ext.alloc ?_ _ | refine Ext.setCell ?_ (by simp) | refine Ext.setCell ?_ (by simp; omega) | refine Ext.trans ?_ (by assumption))
  have hx := hx.trans hx45
  have hB3 := hB3.ext hx45
  have hB4 := hB4.ext hx45
  clear hb
  have hs := hs.ext hx45
  generalize hxs : (vColorWith ns ls k ).1 = xs at *
  generalize hbs : (vColorWith ns ls k ).2 = bb at *
  have HBS := Lib.hid hbs
  have hbb2 : (bb != bb) = false := by simp
  clear hbs
  have HXS := Lib.hid hxs
  clear hxs
  go_wp2_with fail
  refine (eqIntS_t _ _ _ _ xs _ (by omega) hi.in' hs.in').mono ?_
  rintro e w6 ⟨rfl, hb⟩
  have k0 := hb.lit k0
  have k1 := hb.lit k1
  have k2 := hb.lit k2
  have k3 := hb.lit k3
  have hx := hx.trans hb
  have hB3 := hB3.ext hb
  have hB4 := hB4.ext hb
  have hs := hs.ext hb
  have hi := hi.ext hb
  clear hb
  go_wp2_with fail
  go_cut [49] (fun sx wx => sx = .bool false ∧ Ext w6 wx)
  case first =>
    have d0 := cell_regrown k0
    have d1 := cell_regrown k1
    have d2 := cell_regrown k2
    have d3 := cell_regrown k3
    refine rx_open [(true, 0, some 45, 256), (true, 0, some 46, 4), (false, 2, some 47, 70368744177664), (false, 5, some 48, 175921860444160), (true, 8, some 49, 281474976710656)] 0 5 mixd rfl (by kernel_rfl) (by kernel_rfl) (by kernel_rfl) ?_
    refine rx_run (run := [0, 1]) (k := 3) (m' := 3) rfl (by kernel_rfl) (by kernel_rfl) (by kernel_rfl) (fm_cons rfl <| fm_cons rfl <| List.filterMap_nil) (by repeat first | exact Ext.refl _ | assumption | refine Ext.drew ?_ | refine Ext.alloc ?_ _ | refine Ext.setCell ?_ (by simp) | refine Ext.setCell ?_ (by simp; omega) | refine Ext.trans ?_ (by assumption)) ?_
    repeat (go_big_quiet_step ((fail)))
    refine wpQuiet_nil ?_
    refine rx_op 2 (k := 2) (m' := 7) rfl rfl (by kernel_rfl) (by kernel_rfl) ?_
    go_wp2_with (first | (go_at_call 20; refine (toWindow_c A B c d ns ls _ hl hm (h.ext (hx.trans (by repeat first | exact Ext.refl _ | assumption | refine Ext.drew ?_ | refine Ext.alloc ?_ _ | refine Ext.setCell ?_ (by simp) | refine Ext.setCell ?_ (by simp; omega) | refine Ext.trans ?_ (by assumption)))) (g.ext (hx.trans (by repeat first | exact Ext.refl _ | assumption | refine Ext.drew ?_ | refine Ext.alloc ?_ _ | refine Ext.setCell ?_ (by simp) | refine Ext.setCell ?_ (by simp; omega) | refine Ext.trans ?_ (by assumption))))).mono ?_; rintro e w8 ⟨g5, g6, rfl, -, -, hB5, hB6, hb6⟩) | (go_at_call 23; refine (eqWindow_c _ _ _ _ _ _ _ _ ns ls _ (by omega) (by omega) (hB3.ext (by repeat first | exact Ext.refl _ | assumption | refine Ext.drew ?_ | refine Ext.alloc ?_ _ | refine Ext.setCell ?_ (by simp) | refine Ext.setCell ?_ (by simp; omega) | refine Ext.trans ?_ (by assumption))).pr (hB5.ext (by repeat first | exact Ext.refl _ | assumption | refine Ext.drew ?_ | refine Ext.alloc ?_ _ | refine Ext.setCell ?_ (by simp) | refine Ext.setCell ?_ (by simp; omega) | refine Ext.trans ?_ (by assumption))).pr (hB4.ext (by repeat first | exact Ext.refl _ | assumption | refine Ext.drew ?_ | refine Ext.alloc ?_ _ | refine Ext.setCell ?_ (by simp) | refine Ext.setCell ?_ (by simp; omega) | refine Ext.trans ?_ (by assumption))).pr (hB6.ext (by repeat first | exact Ext.refl _ | assumption | refine Ext.drew ?_ | refine Ext.alloc ?_ _ | refine Ext.setCell ?_ (by simp) | refine Ext.setCell ?_ (by simp; omega) | refine Ext.trans ?_ (by assumption))).pr).mono ?_; rintro e w9 ⟨rfl, hb7⟩))
    refine rx_on (by repeat first | exact Ext.refl _ | assumption | refine Ext.drew ?_ | refine Ext.alloc ?_ _ | refine Ext.setCell ?_ (by simp) | refine Ext.setCell ?_ (by simp; omega) | refine Ext.trans ?_ (by assumption)) ?_
    refine rx_op 3 (k := 1) (m' := 15) rfl rfl (by kernel_rfl) (by kernel_rfl) ?_
    go_wp2_with (first | (go_at_call 20; refine (toWindow_c A B c d ns ls _ hl hm (h.ext (hx.trans (by repeat first | exact Ext.refl _ | assumption | refine Ext.drew ?_ | refine Ext.alloc ?_ _ | refine Ext.setCell ?_ (by simp) | refine Ext.setCell ?_ (by simp; omega) | refine Ext.trans ?_ (by assumption)))) (g.ext (hx.trans (by repeat first | exact Ext.refl _ | assumption | refine Ext.drew ?_ | refine Ext.alloc ?_ _ | refine Ext.setCell ?_ (by simp) | refine Ext.setCell ?_ (by simp; omega) | refine Ext.trans ?_ (by assumption))))).mono ?_; rintro e w8 ⟨g5, g6, rfl, -, -, hB5, hB6, hb6⟩) | (go_at_call 23; refine (eqWindow_c _ _ _ _ _ _ _ _ ns ls _ (by omega) (by omega) (hB3.ext (by repeat first | exact Ext.refl _ | assumption | refine Ext.drew ?_ | refine Ext.alloc ?_ _ | refine Ext.setCell ?_ (by simp) | refine Ext.setCell ?_ (by simp; omega) | refine Ext.trans ?_ (by assumption))).pr (hB5.ext (by repeat first | exact Ext.refl _ | assumption | refine Ext.drew ?_ | refine Ext.alloc ?_ _ | refine Ext.setCell ?_ (by simp) | refine Ext.setCell ?_ (by simp; omega) | refine Ext.trans ?_ (by assumption))).pr (hB4.ext (by repeat first | exact Ext.refl _ | assumption | refine Ext.drew ?_ | refine Ext.alloc ?_ _ | refine Ext.setCell ?_ (by simp) | refine Ext.setCell ?_ (by simp; omega) | refine Ext.trans ?_ (by assumption))).pr (hB6.ext (by repeat first | exact Ext.refl _ | assumption | refine Ext.drew ?_ | refine Ext.alloc ?_ _ | refine Ext.setCell ?_ (by simp) | refine Ext.setCell ?_ (by simp; omega) | refine Ext.trans ?_ (by assumption))).pr).mono ?_; rintro e w9 ⟨rfl, hb7⟩))
    refine rx_on (by repeat first | exact Ext.refl _ | assumption | refine Ext.drew ?_ | refine Ext.alloc ?_ _ | refine Ext.setCell ?_ (by simp) | refine Ext.setCell ?_ (by simp; omega) | refine Ext.trans ?_ (by assumption)) ?_
    refine rx_run (run := [4]) (k := 0) (m' := 31) rfl (by kernel_rfl) (by kernel_rfl) (by kernel_rfl) (fm_cons rfl <| List.filterMap_nil) (by repeat first | exact Ext.refl _ | assumption | refine Ext.drew ?_ | refine Ext.alloc ?_ _ | refine Ext.setCell ?_ (by simp) | refine Ext.setCell ?_ (by simp; omega) | refine Ext.trans ?_ (by assumption)) ?_
    repeat (go_big_quiet_step ((fail)))
    refine wpQuiet_nil ?_
    refine rx_end (by kernel_rfl) ?_
    go_wp2
    go_meet
    exact ⟨rfl, (by repeat first | exact Ext.refl _ | assumption | refine Ext.drew ?_ | refine Ext.alloc ?_ _ | refine Ext.setCell ?_ (by simp) | refine Ext.setCell ?_ (by simp; omega) | refine Ext.trans ?_ (by assumption))⟩
  case rest =>
    obtain ⟨rfl, hcut⟩ := hcut
    have k0 := hcut.lit k0
    have k1 := hcut.lit k1
    have k2 := hcut.lit k2
    have k3 := hcut.lit k3
    have hx := hx.trans hcut
    have hB3 := hB3.ext hcut
    have hB4 := hB4.ext hcut
    have hs := hs.ext hcut
    have hi := hi.ext hcut
    clear hcut
    obtain ⟨w7, rfl⟩ : ∃ x : World, x = wc := ⟨_, rfl⟩
    have oN : OwP w7 g3 36 (.slice (some ⟨g3, 0, none⟩) ns.length ns.length) ns := OwP.new hB3 (Nat.le_refl _) (by unfold maxLen; omega)
    have oL : OwP w7 g4 67 (.slice (some ⟨g4, 0, none⟩) ls.length ls.length) ls := OwP.new hB4 (Nat.le_refl _) (by unfold maxLen; omega)
    have hxw := hx
    have hs0' : w.heap.size < g3 := by have := hg3; omega
    go_wp2_with fail
    refine (markWindow_c _ _ _ _ _ _ ns ls 1 _ oN oL (by omega) (by omega) (by omega) (by omega) (fun q hq e => by simp [Value.ownBlock] at hq e; omega)).mono ?_
    rintro e w8 ⟨rfl, -, -, wm, gr1, gr2⟩
    have k0 := gb_lit gr2 (gb_lit gr1 k0 (fun e => by simp [Value.ownBlock] at e; omega)) (fun e => by simp [Value.ownBlock] at e; omega)
    have k1 := gb_lit gr2 (gb_lit gr1 k1 (fun e => by simp [Value.ownBlock] at e; omega)) (fun e => by simp [Value.ownBlock] at e; omega)
    have hs := (hs.gb gr1 (fun q hq e => by have := hsx q hq; simp [Value.ownBlock] at e; omega)).gb gr2 (fun q hq e => by have := hsx q hq; simp [Value.ownBlock] at e; omega)
    have hi := (hi.gb gr1 (fun q hq e => by have := hix q hq; simp [Value.ownBlock] at e; omega)).gb gr2 (fun q hq e => by have := hix q hq; simp [Value.ownBlock] at e; omega)
    have hx := gb_ext2 (gb_ext2 hx gr1 (fun q e => by simp [Value.ownBlock] at e; omega)) gr2 (fun q e => by simp [Value.ownBlock] at e; omega)
    clear gr1 gr2 oN oL hB3 hB4 k2 k3 hxw
    go_wp2_with fail
    refine (eqIntS_t _ _ _ _ xs _ (by omega) hi.in' hs.in').mono ?_
    rintro e w9 ⟨rfl, hb⟩
    have k0 := hb.lit k0
    have k1 := hb.lit k1
    have hx := hx.trans hb
    have hs := hs.ext hb
    have hi := hi.ext hb
    clear hb
    go_wp2_with fail
    refine (markIntS_c _ xs 1 _ hi (by omega) (by omega) (by omega)).mono ?_
    rintro e w10 ⟨rfl, hi, gr⟩
    have hsd : ∀ q, (Value.slice As xs.length cs).ownBlock = some q → (Value.slice Ai xs.length ci).ownBlock ≠ some q := fun q hq e => by have h1 := hsx q hq; have h2 := hix q e; omega
    have k0 := gb_lit gr k0 (fun e => by have := hix _ e; omega)
    have k1 := gb_lit gr k1 (fun e => by have := hix _ e; omega)
    have hs := hs.gb gr hsd
    have hx := gb_ext2 hx gr (fun q e => by have := hix q e; omega)
    clear gr
    go_wp2_with fail
    refine (heldIntS_c _ _ 1 _ hi (by omega) (by omega) (by omega)).mono ?_
    rintro e w11 ⟨rfl, rfl⟩
    have hbn : ((1 : Int) + (xs.length : Int) != 1 + (xs.length : Int)) = false := by simp
    go_wp2_with fail
    refine (toWindow_c A B c d ns ls _ hl hm (h.ext hx) (g.ext hx)).mono ?_
    rintro e w12 ⟨g5, g6, rfl, hg5, hg6, hB5, hB6, hb⟩
    have hx := hx.trans hb
    have hs := hs.ext hb
    have hi := hi.ext hb
    clear hb
    go_wp2_with fail
    refine (ColorWith_i _ _ _ _ ns ls k _ (Wn.of hl hm hB5 hB6)).mono ?_
    rintro e w13 ⟨vj, rfl, hj, hb⟩
    have hx := hx.trans hb
    have hs := hs.ext hb
    have hi := hi.ext hb
    clear hb
    rw [HXS.out] at hj
    rw [HBS.out]
    obtain ⟨Aj, cj, rfl, -, -, -⟩ := hj.shape
    go_wp2_with fail
    refine (eqIntS_t _ _ _ _ xs _ (by omega) hj.in' hs.in').mono ?_
    rintro e w14 ⟨rfl, hb⟩
    have hx := hx.trans hb
    have hi := hi.ext hb
    clear hb
    go_wp2_with fail
    refine (heldIntS_c _ _ 1 _ hi (by omega) (by omega) (by omega)).mono ?_
    rintro e w15 ⟨rfl, rfl⟩
    go_wp2
    go_ret
    exact ⟨rfl, hx⟩
set_option maxRecDepth 100000 in
set_option maxHeartbeats 2000000 in
theorem law_CountColorings (A B : Option Addr) (n c m d : Nat) (ns ls : List P2) (k : Int) (w : World) (hn : n = ns.length) (hm : m = ls.length) (hn63 : n ≤ 9223372036854775807) (hm63 : m ≤ 9223372036854775807) (h : Pr w w.heap.size A ns) (g : Pr w w.heap.size B ls) :
    Calls Try.prog 8 #[.agg #[.slice A n c, .slice B m d], .int .i64 k] w fun e w' => e = .returned (.bool true) ∧ Ext w w' := by
  subst hn
  subst hm
  go_enter Try.func8, Try.ntmps8
  go_wp2_with fail
  refine (szWindow_c A B _ c _ d _ hn63 hm63).mono ?_
  rintro e w1 ⟨rfl, hb⟩
  have k0 := hb.lit (b := w.heap.size) (o := 0) (v := .slice A ns.length c) (by go_simp)
  have k1 := hb.lit (b := w.heap.size) (o := 1) (v := .slice B ls.length d) (by go_simp)
  have hx : Ext w w1 := (by repeat first | exact Ext.refl _ | assumption | refine Ext.drew ?_ | refine Ext.alloc ?_ _ | refine Ext.setCell ?_ (by simp) | refine Ext.setCell ?_ (by simp; omega) | refine Ext.trans ?_ (by assumption))
  clear hb
  by_cases hz : (1048576 : Int) - ns.length - ls.length < 0
  · rw [if_pos hz]
    go_wp2
    go_ret
    exact ⟨rfl, hx⟩
  rw [if_neg hz]
  have hl : ns.length ≤ 1048576 := by omega
  have hm : ls.length ≤ 1048576 := by omega
  go_wp2_with fail
  refine (toWindow_c A B c d ns ls _ hl hm (h.ext hx) (g.ext hx)).mono ?_
  rintro e w2 ⟨g1, g2, rfl, -, -, hB1, hB2, hb⟩
  have k0 := hb.lit k0
  have k1 := hb.lit k1
  have hx := hx.trans hb
  clear hb
  go_wp2_with fail
  refine (CountColorings_s _ _ _ _ ns ls k _ (Wn.of hl hm hB1 hB2)).mono ?_
  rintro e w3 ⟨rfl, hb⟩
  have k0 := hb.lit k0
  have k1 := hb.lit k1
  have hx := hx.trans hb
  have hs3w : w.heap.size < w3.heap.size := block_lt_of_cell k0
  clear hb hB1 hB2
  go_wp2_with fail
  refine (toWindow_c A B c d ns ls _ hl hm (h.ext hx) (g.ext hx)).mono ?_
  rintro e w4 ⟨g3, g4, rfl, hg3, hg4, hB3, hB4, hb⟩
  have k0 := hb.lit k0
  have k1 := hb.lit k1
  have hx := hx.trans hb
  have hx34 := hb
  clear hb
  have hs0 : w.heap.size < w4.heap.size := block_lt_of_cell k0
  go_wp2_with fail
  refine (CountColorings_i _ _ _ _ ns ls k _ ((Wn.of hl hm hB3 hB4).ext (by repeat first | exact Ext.refl _ | assumption | refine Ext.drew ?_ | refine Ext.alloc ?_ _ | refine Ext.setCell ?_ (by simp) | refine Ext.setCell ?_ (by simp; omega) | refine Ext.trans ?_ (by assumption)))).mono ?_
  rintro e w5 ⟨rfl, hb⟩
  have k0 := hb.lit (b := w.heap.size) (o := 0) (v := .slice A ns.length c) (by go_simp)
  have k1 := hb.lit (b := w.heap.size) (o := 1) (v := .slice B ls.length d) (by go_simp)
  have k2 := hb.lit (b := w4.heap.size) (o := 0) (v := .slice (some ⟨g3, 0, none⟩) ns.length ns.length) (by go_simp)
  have k3 := hb.lit (b := w4.heap.size) (o := 1) (v := .slice (some ⟨g4, 0, none⟩) ls.length ls.length) (by go_simp)
  have hx45 : Ext w4 w5 := (by repeat first | exact Ext.refl _ | assumption | refine Ext.drew ?_ | refine Ext.alloc ?_ _ | refine Ext.setCell ?_ (by simp) | refine Ext.setCell ?_ (by simp; omega) | refine Ext.trans ?_ (by assumption))
  have hx := hx.trans hx45
  have hB3 := hB3.ext hx45
  have hB4 := hB4.ext hx45
  clear hb
  have hc : (vCountColorings ns ls k != vCountColorings ns ls k ) = false := by simp
  go_wp2_with fail
  have d0 := cell_regrown k0
  have d1 := cell_regrown k1
  have d2 := cell_regrown k2
  have d3 := cell_regrown k3
  refine rx_open [(true, 0, some 26, 128), (true, 0, some 27, 4), (false, 2, some 28, 134217728), (false, 5, some 29, 335544320), (true, 8, some 30, 536870912)] 0 5 mixd rfl (by kernel_rfl) (by kernel_rfl) (by kernel_rfl) ?_
  refine rx_run (run := [0, 1]) (k := 3) (m' := 3) rfl (by kernel_rfl) (by kernel_rfl) (by kernel_rfl) (fm_cons rfl <| fm_cons rfl <| List.filterMap_nil) (by repeat first | exact Ext.refl _ | assumption | refine Ext.drew ?_ | refine Ext.alloc ?_ _ | refine Ext.setCell ?_ (by simp) | refine Ext.setCell ?_ (by simp; omega) | refine Ext.trans ?_ (by assumption)) ?_
  repeat (go_big_quiet_step ((fail)))
  refine wpQuiet_nil ?_
  refine rx_op 2 (k := 2) (m' := 7) rfl rfl (by kernel_rfl) (by kernel_rfl) ?_
  go_wp2_with (first | (go_at_call 20; refine (toWindow_c A B c d ns ls _ hl hm (h.ext (hx.trans (by repeat first | exact Ext.refl _ | assumption | refine Ext.drew ?_ | refine Ext.alloc ?_ _ | refine Ext.setCell ?_ (by simp) | refine Ext.setCell ?_ (by simp; omega) | refine Ext.trans ?_ (by assumption)))) (g.ext (hx.trans (by repeat first | exact Ext.refl _ | assumption | refine Ext.drew ?_ | refine Ext.alloc ?_ _ | refine Ext.setCell ?_ (by simp) | refine Ext.setCell ?_ (by simp; omega) | refine Ext.trans ?_ (by assumption))))).mono ?_; rintro e w6 ⟨g5, g6, rfl, -, -, hB5, hB6, hb6⟩) | (go_at_call 23; refine (eqWindow_c _ _ _ _ _ _ _ _ ns ls _ (by omega) (by omega) (hB3.ext (by repeat first | exact Ext.refl _ | assumption | refine Ext.drew ?_ | refine Ext.alloc ?_ _ | refine Ext.setCell ?_ (by simp) | refine Ext.setCell ?_ (by simp; omega) | refine Ext.trans ?_ (by assumption))).pr (hB5.ext (by repeat first | exact Ext.refl _ | assumption | refine Ext.drew ?_ | refine Ext.alloc ?_ _ | refine Ext.setCell ?_ (by simp) | refine Ext.setCell ?_ (by simp; omega) | refine Ext.trans ?_ (by assumption))).pr (hB4.ext (by repeat first | exact Ext.refl _ | assumption | refine Ext.drew ?_ | refine Ext.alloc ?_ _ | refine Ext.setCell ?_ (by simp) | refine Ext.setCell ?_ (by simp; omega) | refine Ext.trans ?_ (by assumption))).pr (hB6.ext (by repeat first | exact Ext.refl _ | assumption | refine Ext.drew ?_ | refine Ext.alloc ?_ _ | refine Ext.setCell ?_ (by simp) | refine Ext.setCell ?_ (by simp; omega) | refine Ext.trans ?_ (by assumption))).pr).mono ?_; rintro e w7 ⟨rfl, hb7⟩))
  refine rx_on (by repeat first | exact Ext.refl _ | assumption | refine Ext.drew ?_ | refine Ext.alloc ?_ _ | refine Ext.setCell ?_ (by simp) | refine Ext.setCell ?_ (by simp; omega) | refine Ext.trans ?_ (by assumption)) ?_
  refine rx_op 3 (k := 1) (m' := 15) rfl rfl (by kernel_rfl) (by kernel_rfl) ?_
  go_wp2_with (first | (go_at_call 20; refine (toWindow_c A B c d ns ls _ hl hm (h.ext (hx.trans (by repeat first | exact Ext.refl _ | assumption | refine Ext.drew ?_ | refine Ext.alloc ?_ _ | refine Ext.setCell ?_ (by simp) | refine Ext.setCell ?_ (by simp; omega) | refine Ext.trans ?_ (by assumption)))) (g.ext (hx.trans (by repeat first | exact Ext.refl _ | assumption | refine Ext.drew ?_ | refine Ext.alloc ?_ _ | refine Ext.setCell ?_ (by simp) | refine Ext.setCell ?_ (by simp; omega) | refine Ext.trans ?_ (by assumption))))).mono ?_; rintro e w6 ⟨g5, g6, rfl, -, -, hB5, hB6, hb6⟩) | (go_at_call 23; refine (eqWindow_c _ _ _ _ _ _ _ _ ns ls _ (by omega) (by omega) (hB3.ext (by repeat first | exact Ext.refl _ | assumption | refine Ext.drew ?_ | refine Ext.alloc ?_ _ | refine Ext.setCell ?_ (by simp) | refine Ext.setCell ?_ (by simp; omega) | refine Ext.trans ?_ (by assumption))).pr (hB5.ext (by repeat first | exact Ext.refl _ | assumption | refine Ext.drew ?_ | refine Ext.alloc ?_ _ | refine Ext.setCell ?_ (by simp) | refine Ext.setCell ?_ (by simp; omega) | refine Ext.trans ?_ (by assumption))).pr (hB4.ext (by repeat first | exact Ext.refl _ | assumption | refine Ext.drew ?_ | refine Ext.alloc ?_ _ | refine Ext.setCell ?_ (by simp) | refine Ext.setCell ?_ (by simp; omega) | refine Ext.trans ?_ (by assumption))).pr (hB6.ext (by repeat first | exact Ext.refl _ | assumption | refine Ext.drew ?_ | refine Ext.alloc ?_ _ | refine Ext.setCell ?_ (by simp) | refine Ext.setCell ?_ (by simp; omega) | refine Ext.trans ?_ (by assumption))).pr).mono ?_; rintro e w7 ⟨rfl, hb7⟩))
  refine rx_on (by repeat first | exact Ext.refl _ | assumption | refine Ext.drew ?_ | refine Ext.alloc ?_ _ | refine Ext.setCell ?_ (by simp) | refine Ext.setCell ?_ (by simp; omega) | refine Ext.trans ?_ (by assumption)) ?_
  refine rx_run (run := [4]) (k := 0) (m' := 31) rfl (by kernel_rfl) (by kernel_rfl) (by kernel_rfl) (fm_cons rfl <| List.filterMap_nil) (by repeat first | exact Ext.refl _ | assumption | refine Ext.drew ?_ | refine Ext.alloc ?_ _ | refine Ext.setCell ?_ (by simp) | refine Ext.setCell ?_ (by simp; omega) | refine Ext.trans ?_ (by assumption)) ?_
  repeat (go_big_quiet_step ((fail)))
  refine wpQuiet_nil ?_
  refine rx_end (by kernel_rfl) ?_
  go_wp2
  go_ret
  exact ⟨rfl, hx.trans (by repeat first | exact Ext.refl _ | assumption | refine Ext.drew ?_ | refine Ext.alloc ?_ _ | refine Ext.setCell ?_ (by simp) | refine Ext.setCell ?_ (by simp; omega) | refine Ext.trans ?_ (by assumption))⟩
set_option maxRecDepth 100000 in
set_option maxHeartbeats 2000000 in
theorem law_FewestColors (A B : Option Addr) (n c m d : Nat) (ns ls : List P2) (w : World) (hn : n = ns.length) (hm : m = ls.length) (hn63 : n ≤ 9223372036854775807) (hm63 : m ≤ 9223372036854775807) (h : Pr w w.heap.size A ns) (g : Pr w w.heap.size B ls) :
    Calls Try.prog 10 #[.agg #[.slice A n c, .slice B m d]] w fun e w' => e = .returned (.bool true) ∧ Ext w w' := by
  subst hn
  subst hm
  go_enter Try.func10, Try.ntmps10
  go_wp2_with fail
  refine (szWindow_c A B _ c _ d _ hn63 hm63).mono ?_
  rintro e w1 ⟨rfl, hb⟩
  have k0 := hb.lit (b := w.heap.size) (o := 0) (v := .slice A ns.length c) (by go_simp)
  have k1 := hb.lit (b := w.heap.size) (o := 1) (v := .slice B ls.length d) (by go_simp)
  have hx : Ext w w1 := (by repeat first | exact Ext.refl _ | assumption | refine Ext.drew ?_ | refine Ext.alloc ?_ _ | refine Ext.setCell ?_ (by simp) | refine Ext.setCell ?_ (by simp; omega) | refine Ext.trans ?_ (by assumption))
  clear hb
  by_cases hz : (1048576 : Int) - ns.length - ls.length < 0
  · rw [if_pos hz]
    go_wp2
    go_ret
    exact ⟨rfl, hx⟩
  rw [if_neg hz]
  have hl : ns.length ≤ 1048576 := by omega
  have hm : ls.length ≤ 1048576 := by omega
  go_wp2_with fail
  refine (toWindow_c A B c d ns ls _ hl hm (h.ext hx) (g.ext hx)).mono ?_
  rintro e w2 ⟨g1, g2, rfl, -, -, hB1, hB2, hb⟩
  have k0 := hb.lit k0
  have k1 := hb.lit k1
  have hx := hx.trans hb
  clear hb
  go_wp2_with fail
  refine (FewestColors_s _ _ _ _ ns ls _ (Wn.of hl hm hB1 hB2)).mono ?_
  rintro e w3 ⟨rfl, hb⟩
  have k0 := hb.lit k0
  have k1 := hb.lit k1
  have hx := hx.trans hb
  have hs3w : w.heap.size < w3.heap.size := block_lt_of_cell k0
  clear hb hB1 hB2
  go_wp2_with fail
  refine (toWindow_c A B c d ns ls _ hl hm (h.ext hx) (g.ext hx)).mono ?_
  rintro e w4 ⟨g3, g4, rfl, hg3, hg4, hB3, hB4, hb⟩
  have k0 := hb.lit k0
  have k1 := hb.lit k1
  have hx := hx.trans hb
  have hx34 := hb
  clear hb
  have hs0 : w.heap.size < w4.heap.size := block_lt_of_cell k0
  go_wp2_with fail
  refine (FewestColors_i _ _ _ _ ns ls _ ((Wn.of hl hm hB3 hB4).ext (by repeat first | exact Ext.refl _ | assumption | refine Ext.drew ?_ | refine Ext.alloc ?_ _ | refine Ext.setCell ?_ (by simp) | refine Ext.setCell ?_ (by simp; omega) | refine Ext.trans ?_ (by assumption)))).mono ?_
  rintro e w5 ⟨rfl, hb⟩
  have k0 := hb.lit (b := w.heap.size) (o := 0) (v := .slice A ns.length c) (by go_simp)
  have k1 := hb.lit (b := w.heap.size) (o := 1) (v := .slice B ls.length d) (by go_simp)
  have k2 := hb.lit (b := w4.heap.size) (o := 0) (v := .slice (some ⟨g3, 0, none⟩) ns.length ns.length) (by go_simp)
  have k3 := hb.lit (b := w4.heap.size) (o := 1) (v := .slice (some ⟨g4, 0, none⟩) ls.length ls.length) (by go_simp)
  have hx45 : Ext w4 w5 := (by repeat first | exact Ext.refl _ | assumption | refine Ext.drew ?_ | refine Ext.alloc ?_ _ | refine Ext.setCell ?_ (by simp) | refine Ext.setCell ?_ (by simp; omega) | refine Ext.trans ?_ (by assumption))
  have hx := hx.trans hx45
  have hB3 := hB3.ext hx45
  have hB4 := hB4.ext hx45
  clear hb
  have hc : (vFewestColors ns ls != vFewestColors ns ls ) = false := by simp
  go_wp2_with fail
  have d0 := cell_regrown k0
  have d1 := cell_regrown k1
  have d2 := cell_regrown k2
  have d3 := cell_regrown k3
  refine rx_open [(true, 0, some 22, 32), (true, 0, some 23, 2), (false, 2, some 24, 8388608), (false, 5, some 25, 20971520), (true, 8, some 26, 33554432)] 0 5 mixd rfl (by kernel_rfl) (by kernel_rfl) (by kernel_rfl) ?_
  refine rx_run (run := [0, 1]) (k := 3) (m' := 3) rfl (by kernel_rfl) (by kernel_rfl) (by kernel_rfl) (fm_cons rfl <| fm_cons rfl <| List.filterMap_nil) (by repeat first | exact Ext.refl _ | assumption | refine Ext.drew ?_ | refine Ext.alloc ?_ _ | refine Ext.setCell ?_ (by simp) | refine Ext.setCell ?_ (by simp; omega) | refine Ext.trans ?_ (by assumption)) ?_
  repeat (go_big_quiet_step ((fail)))
  refine wpQuiet_nil ?_
  refine rx_op 2 (k := 2) (m' := 7) rfl rfl (by kernel_rfl) (by kernel_rfl) ?_
  go_wp2_with (first | (go_at_call 20; refine (toWindow_c A B c d ns ls _ hl hm (h.ext (hx.trans (by repeat first | exact Ext.refl _ | assumption | refine Ext.drew ?_ | refine Ext.alloc ?_ _ | refine Ext.setCell ?_ (by simp) | refine Ext.setCell ?_ (by simp; omega) | refine Ext.trans ?_ (by assumption)))) (g.ext (hx.trans (by repeat first | exact Ext.refl _ | assumption | refine Ext.drew ?_ | refine Ext.alloc ?_ _ | refine Ext.setCell ?_ (by simp) | refine Ext.setCell ?_ (by simp; omega) | refine Ext.trans ?_ (by assumption))))).mono ?_; rintro e w6 ⟨g5, g6, rfl, -, -, hB5, hB6, hb6⟩) | (go_at_call 23; refine (eqWindow_c _ _ _ _ _ _ _ _ ns ls _ (by omega) (by omega) (hB3.ext (by repeat first | exact Ext.refl _ | assumption | refine Ext.drew ?_ | refine Ext.alloc ?_ _ | refine Ext.setCell ?_ (by simp) | refine Ext.setCell ?_ (by simp; omega) | refine Ext.trans ?_ (by assumption))).pr (hB5.ext (by repeat first | exact Ext.refl _ | assumption | refine Ext.drew ?_ | refine Ext.alloc ?_ _ | refine Ext.setCell ?_ (by simp) | refine Ext.setCell ?_ (by simp; omega) | refine Ext.trans ?_ (by assumption))).pr (hB4.ext (by repeat first | exact Ext.refl _ | assumption | refine Ext.drew ?_ | refine Ext.alloc ?_ _ | refine Ext.setCell ?_ (by simp) | refine Ext.setCell ?_ (by simp; omega) | refine Ext.trans ?_ (by assumption))).pr (hB6.ext (by repeat first | exact Ext.refl _ | assumption | refine Ext.drew ?_ | refine Ext.alloc ?_ _ | refine Ext.setCell ?_ (by simp) | refine Ext.setCell ?_ (by simp; omega) | refine Ext.trans ?_ (by assumption))).pr).mono ?_; rintro e w7 ⟨rfl, hb7⟩))
  refine rx_on (by repeat first | exact Ext.refl _ | assumption | refine Ext.drew ?_ | refine Ext.alloc ?_ _ | refine Ext.setCell ?_ (by simp) | refine Ext.setCell ?_ (by simp; omega) | refine Ext.trans ?_ (by assumption)) ?_
  refine rx_op 3 (k := 1) (m' := 15) rfl rfl (by kernel_rfl) (by kernel_rfl) ?_
  go_wp2_with (first | (go_at_call 20; refine (toWindow_c A B c d ns ls _ hl hm (h.ext (hx.trans (by repeat first | exact Ext.refl _ | assumption | refine Ext.drew ?_ | refine Ext.alloc ?_ _ | refine Ext.setCell ?_ (by simp) | refine Ext.setCell ?_ (by simp; omega) | refine Ext.trans ?_ (by assumption)))) (g.ext (hx.trans (by repeat first | exact Ext.refl _ | assumption | refine Ext.drew ?_ | refine Ext.alloc ?_ _ | refine Ext.setCell ?_ (by simp) | refine Ext.setCell ?_ (by simp; omega) | refine Ext.trans ?_ (by assumption))))).mono ?_; rintro e w6 ⟨g5, g6, rfl, -, -, hB5, hB6, hb6⟩) | (go_at_call 23; refine (eqWindow_c _ _ _ _ _ _ _ _ ns ls _ (by omega) (by omega) (hB3.ext (by repeat first | exact Ext.refl _ | assumption | refine Ext.drew ?_ | refine Ext.alloc ?_ _ | refine Ext.setCell ?_ (by simp) | refine Ext.setCell ?_ (by simp; omega) | refine Ext.trans ?_ (by assumption))).pr (hB5.ext (by repeat first | exact Ext.refl _ | assumption | refine Ext.drew ?_ | refine Ext.alloc ?_ _ | refine Ext.setCell ?_ (by simp) | refine Ext.setCell ?_ (by simp; omega) | refine Ext.trans ?_ (by assumption))).pr (hB4.ext (by repeat first | exact Ext.refl _ | assumption | refine Ext.drew ?_ | refine Ext.alloc ?_ _ | refine Ext.setCell ?_ (by simp) | refine Ext.setCell ?_ (by simp; omega) | refine Ext.trans ?_ (by assumption))).pr (hB6.ext (by repeat first | exact Ext.refl _ | assumption | refine Ext.drew ?_ | refine Ext.alloc ?_ _ | refine Ext.setCell ?_ (by simp) | refine Ext.setCell ?_ (by simp; omega) | refine Ext.trans ?_ (by assumption))).pr).mono ?_; rintro e w7 ⟨rfl, hb7⟩))
  refine rx_on (by repeat first | exact Ext.refl _ | assumption | refine Ext.drew ?_ | refine Ext.alloc ?_ _ | refine Ext.setCell ?_ (by simp) | refine Ext.setCell ?_ (by simp; omega) | refine Ext.trans ?_ (by assumption)) ?_
  refine rx_run (run := [4]) (k := 0) (m' := 31) rfl (by kernel_rfl) (by kernel_rfl) (by kernel_rfl) (fm_cons rfl <| List.filterMap_nil) (by repeat first | exact Ext.refl _ | assumption | refine Ext.drew ?_ | refine Ext.alloc ?_ _ | refine Ext.setCell ?_ (by simp) | refine Ext.setCell ?_ (by simp; omega) | refine Ext.trans ?_ (by assumption)) ?_
  repeat (go_big_quiet_step ((fail)))
  refine wpQuiet_nil ?_
  refine rx_end (by kernel_rfl) ?_
  go_wp2
  go_ret
  exact ⟨rfl, hx.trans (by repeat first | exact Ext.refl _ | assumption | refine Ext.drew ?_ | refine Ext.alloc ?_ _ | refine Ext.setCell ?_ (by simp) | refine Ext.setCell ?_ (by simp; omega) | refine Ext.trans ?_ (by assumption))⟩
end Go.Proofs.Ytimgbllpbadhcaa
