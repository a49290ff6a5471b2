import Derived.Test.YtimgbllpbadhcaaGreatG9
import Derived.Test.YtimgbllpbadhcaaGreatE3
import Derived.Test.YtimgbllpbadhcaaGreatE4
import Derived.Deep.DeepCutAuto
namespace Go.Proofs.YtimgbllpbadhcaaGreat
open Go.RowKit Go.Sort Go.BigFrame
set_option maxRecDepth 100000 in
set_option maxHeartbeats 8000000 in
theorem law_FreeFace (A B : Option Addr) (n c m d : Nat) (ns ls : List P2) (X : Option Addr) (xn xc : Nat) (xs : List Int) (k k' : Int) (w : World) (hn : n = ns.length) (hm : m = ls.length) (hn63 : n ≤ 9223372036854775807) (hm63 : m ≤ 9223372036854775807) (h : Pr w w.heap.size A ns) (g : Pr w w.heap.size B ls)
    (hxn : xn = xs.length) (hx63 : xn ≤ 9223372036854775807) (hX : In w w.heap.size X xs) :
    Calls Tryz.prog 3 #[.agg #[.slice A n c, .slice B m d], .slice X xn xc, .int .i64 k, .int .i64 k'] w fun e w' => e = .returned (.bool true) ∧ Ext w w' := by
  subst hn
  subst hm
  subst hxn
  by_cases hbig : (1048576 : Int) < (xs.length : Int)
  · go_enter Tryz.func3, Tryz.ntmps3
    go_wp2
    go_ret
    exact ⟨rfl, (by repeat first | exact Ext.refl _ | assumption | refine Ext.drew ?_ | refine Ext.alloc ?_ _ | refine Ext.setCell ?_ (by simp) | refine Ext.setCell ?_ (by simp; omega) | refine Ext.trans ?_ (by assumption))⟩
  have hxl : xs.length ≤ 1048576 := by omega
  have hlen := vFreeFace_len ns ls xs k k' (by omega)
  go_enter Tryz.func3, Tryz.ntmps3
  go_wp2_with fail
  refine (szWindow_c A B _ c _ d _ hn63 hm63).mono ?_
  rintro e w1 ⟨rfl, hb⟩
  have k0 := hb.lit (b := w.heap.size) (o := 0) (v := .slice A ns.length c) (by go_simp)
  have k1 := hb.lit (b := w.heap.size) (o := 1) (v := .slice B ls.length d) (by go_simp)
  have hx : Ext w w1 := (by repeat first | exact Ext.refl _ | assumption | refine Ext.drew ?_ | refine Ext.alloc ?_ _ | refine Ext.setCell ?_ (by simp) | refine Ext.setCell ?_ (by simp; omega) | refine Ext.trans ?_ (by assumption))
  clear hb
  by_cases hz : (1048576 : Int) - ns.length - ls.length < 0
  · rw [if_pos hz]
    go_wp2
    go_ret
    exact ⟨rfl, hx⟩
  rw [if_neg hz]
  have hl : ns.length ≤ 1048576 := by omega
  have hm : ls.length ≤ 1048576 := by omega
  go_wp2_with fail
  refine (toWindow_c A B c d ns ls _ hl hm (h.ext hx) (g.ext hx)).mono ?_
  rintro e w2 ⟨g1, g2, rfl, -, -, hB1, hB2, hb⟩
  have k0 := hb.lit k0
  have k1 := hb.lit k1
  have hx := hx.trans hb
  clear hb
  go_wp2_with fail
  refine (toIntS_c X xc xs _ hxl (hX.ext hx)).mono ?_
  rintro e w20 ⟨g9, rfl, -, hB9, hb⟩
  have k0 := hb.lit k0
  have k1 := hb.lit k1
  have hB1 := hB1.ext hb
  have hB2 := hB2.ext hb
  have hx := hx.trans hb
  clear hb
  go_wp2_with fail
  refine (FreeFace_s _ _ _ _ ns ls _ _ xs k k' _ (Wn.of hl hm hB1 hB2) hB9.in_ (by omega)).mono ?_
  rintro e w3 ⟨vs, rfl, hs, hb⟩
  obtain ⟨As, cs, rfl, -, -, -⟩ := hs.shape
  clear hB9
  have k0 := hb.lit k0
  have k1 := hb.lit k1
  have hx := hx.trans hb
  have hs3w : w.heap.size < w3.heap.size := block_lt_of_cell k0
  clear hb hB1 hB2
  go_wp2_with fail
  refine (toWindow_c A B c d ns ls _ hl hm (h.ext hx) (g.ext hx)).mono ?_
  rintro e w4 ⟨g3, g4, rfl, hg3, hg4, hB3, hB4, hb⟩
  have k0 := hb.lit k0
  have k1 := hb.lit k1
  have hx := hx.trans hb
  have hx34 := hb
  clear hb
  have hs0 : w.heap.size < w4.heap.size := block_lt_of_cell k0
  go_wp2_with fail
  have hsx : ∀ q, (Value.slice As (vFreeFace ns ls xs k k' ).1.length cs).ownBlock = some q → q < g3 := fun q hq => by
    have h1 := (hs.blk q hq).2
    have h2 := hg3
    omega
  have hs := hs.ext hx34
  refine (toIntS_c X xc xs _ hxl (hX.ext (hx.trans (by repeat first | exact Ext.refl _ | assumption | refine Ext.drew ?_ | refine Ext.alloc ?_ _ | refine Ext.setCell ?_ (by simp) | refine Ext.setCell ?_ (by simp; omega) | refine Ext.trans ?_ (by assumption))))).mono ?_
  rintro e w5 ⟨g7, rfl, hg7, hB7, hb⟩
  have hg7' : w4.heap.size < g7 := by simp at hg7; omega
  have hg4x := hB4.lt
  have hg3x := hB3.lt
  have k0 := hb.lit (b := w.heap.size) (o := 0) (v := .slice A ns.length c) (by go_simp)
  have k1 := hb.lit (b := w.heap.size) (o := 1) (v := .slice B ls.length d) (by go_simp)
  have k2 := hb.lit (b := w4.heap.size) (o := 0) (v := .slice (some ⟨g3, 0, none⟩) ns.length ns.length) (by go_simp)
  have k3 := hb.lit (b := w4.heap.size) (o := 1) (v := .slice (some ⟨g4, 0, none⟩) ls.length ls.length) (by go_simp)
  have hx45 : Ext w4 w5 := (by repeat first | exact Ext.refl _ | assumption | refine Ext.drew ?_ | refine Ext.alloc ?_ _ | refine Ext.setCell ?_ (by simp) | refine Ext.setCell ?_ (by simp; omega) | refine Ext.trans ?_ (by assumption))
  have hx := hx.trans hx45
  have hB3 := hB3.ext hx45
  have hB4 := hB4.ext hx45
  clear hb
  have hs := hs.ext hx45
  have hg7x := hB7.lt
  go_wp2_with fail
  refine (FreeFace_i _ _ _ _ ns ls _ _ xs k k' _ (Wn.of hl hm hB3 hB4) hB7.in_ (by omega)).mono ?_
  rintro e w6 ⟨vi, rfl, hi, hb⟩
  obtain ⟨Ai, ci, rfl, -, -, -⟩ := hi.shape
  have hix : ∀ q, (Value.slice Ai (vFreeFace ns ls xs k k' ).1.length ci).ownBlock = some q → g7 < q := fun q hq => by
    have h1 := (hi.blk q hq).1
    omega
  have k0 := hb.lit k0
  have k1 := hb.lit k1
  have k2 := hb.lit k2
  have k3 := hb.lit k3
  have hB3 := hB3.ext hb
  have hB4 := hB4.ext hb
  have hB7 := hB7.ext hb
  have hs := hs.ext hb
  have hx := hx.trans hb
  clear hb
  generalize hxs : (vFreeFace ns ls xs k k' ).1 = ys at *
  generalize hbs : (vFreeFace ns ls xs k k' ).2 = bb at *
  have HBS := Lib.hid hbs
  have hbb2 : (bb != bb) = false := by simp
  clear hbs
  have HXS := Lib.hid hxs
  clear hxs
  go_wp2_with fail
  refine (eqIntS_t _ _ _ _ ys _ (by omega) hi.in' hs.in').mono ?_
  rintro e w7 ⟨rfl, hb⟩
  have k0 := hb.lit k0
  have k1 := hb.lit k1
  have k2 := hb.lit k2
  have k3 := hb.lit k3
  have hB3 := hB3.ext hb
  have hB4 := hB4.ext hb
  have hB7 := hB7.ext hb
  have hs := hs.ext hb
  have hi := hi.ext hb
  have hx := hx.trans hb
  clear hb
  go_wp2_with fail
  go_cut [64] (fun sx wx => sx = .bool false ∧ Ext w7 wx)
  case first =>
    have d0 := cell_regrown k0
    have d1 := cell_regrown k1
    have d2 := cell_regrown k2
    have d3 := cell_regrown k3
    refine rx_open [(true, 0, some 60, 4096), (true, 0, some 61, 16), (false, 2, some 62, 2305843009213693952), (false, 5, some 63, 5764607523034234880), (true, 8, some 64, 9223372036854775808)] 0 5 mixd rfl (by kernel_rfl) (by kernel_rfl) (by kernel_rfl) ?_
    refine rx_run (run := [0, 1]) (k := 3) (m' := 3) rfl (by kernel_rfl) (by kernel_rfl) (by kernel_rfl) (fm_cons rfl <| fm_cons rfl <| List.filterMap_nil) (by repeat first | exact Ext.refl _ | assumption | refine Ext.drew ?_ | refine Ext.alloc ?_ _ | refine Ext.setCell ?_ (by simp) | refine Ext.setCell ?_ (by simp; omega) | refine Ext.trans ?_ (by assumption)) ?_
    repeat (go_big_quiet_step ((fail)))
    refine wpQuiet_nil ?_
    refine rx_op 2 (k := 2) (m' := 7) rfl rfl (by kernel_rfl) (by kernel_rfl) ?_
    go_wp2_with (first | (go_at_call 6; refine (toWindow_c A B c d ns ls _ hl hm (h.ext (hx.trans (by repeat first | exact Ext.refl _ | assumption | refine Ext.drew ?_ | refine Ext.alloc ?_ _ | refine Ext.setCell ?_ (by simp) | refine Ext.setCell ?_ (by simp; omega) | refine Ext.trans ?_ (by assumption)))) (g.ext (hx.trans (by repeat first | exact Ext.refl _ | assumption | refine Ext.drew ?_ | refine Ext.alloc ?_ _ | refine Ext.setCell ?_ (by simp) | refine Ext.setCell ?_ (by simp; omega) | refine Ext.trans ?_ (by assumption))))).mono ?_; rintro e w8 ⟨g5, g6, rfl, -, -, hB5, hB6, hb6⟩) | (go_at_call 10; refine (eqWindow_c _ _ _ _ _ _ _ _ ns ls _ (by omega) (by omega) (hB3.ext (by repeat first | exact Ext.refl _ | assumption | refine Ext.drew ?_ | refine Ext.alloc ?_ _ | refine Ext.setCell ?_ (by simp) | refine Ext.setCell ?_ (by simp; omega) | refine Ext.trans ?_ (by assumption))).pr (hB5.ext (by repeat first | exact Ext.refl _ | assumption | refine Ext.drew ?_ | refine Ext.alloc ?_ _ | refine Ext.setCell ?_ (by simp) | refine Ext.setCell ?_ (by simp; omega) | refine Ext.trans ?_ (by assumption))).pr (hB4.ext (by repeat first | exact Ext.refl _ | assumption | refine Ext.drew ?_ | refine Ext.alloc ?_ _ | refine Ext.setCell ?_ (by simp) | refine Ext.setCell ?_ (by simp; omega) | refine Ext.trans ?_ (by assumption))).pr (hB6.ext (by repeat first | exact Ext.refl _ | assumption | refine Ext.drew ?_ | refine Ext.alloc ?_ _ | refine Ext.setCell ?_ (by simp) | refine Ext.setCell ?_ (by simp; omega) | refine Ext.trans ?_ (by assumption))).pr).mono ?_; rintro e w9 ⟨rfl, hb7⟩))
    refine rx_on (by repeat first | exact Ext.refl _ | assumption | refine Ext.drew ?_ | refine Ext.alloc ?_ _ | refine Ext.setCell ?_ (by simp) | refine Ext.setCell ?_ (by simp; omega) | refine Ext.trans ?_ (by assumption)) ?_
    refine rx_op 3 (k := 1) (m' := 15) rfl rfl (by kernel_rfl) (by kernel_rfl) ?_
    go_wp2_with (first | (go_at_call 6; refine (toWindow_c A B c d ns ls _ hl hm (h.ext (hx.trans (by repeat first | exact Ext.refl _ | assumption | refine Ext.drew ?_ | refine Ext.alloc ?_ _ | refine Ext.setCell ?_ (by simp) | refine Ext.setCell ?_ (by simp; omega) | refine Ext.trans ?_ (by assumption)))) (g.ext (hx.trans (by repeat first | exact Ext.refl _ | assumption | refine Ext.drew ?_ | refine Ext.alloc ?_ _ | refine Ext.setCell ?_ (by simp) | refine Ext.setCell ?_ (by simp; omega) | refine Ext.trans ?_ (by assumption))))).mono ?_; rintro e w8 ⟨g5, g6, rfl, -, -, hB5, hB6, hb6⟩) | (go_at_call 10; refine (eqWindow_c _ _ _ _ _ _ _ _ ns ls _ (by omega) (by omega) (hB3.ext (by repeat first | exact Ext.refl _ | assumption | refine Ext.drew ?_ | refine Ext.alloc ?_ _ | refine Ext.setCell ?_ (by simp) | refine Ext.setCell ?_ (by simp; omega) | refine Ext.trans ?_ (by assumption))).pr (hB5.ext (by repeat first | exact Ext.refl _ | assumption | refine Ext.drew ?_ | refine Ext.alloc ?_ _ | refine Ext.setCell ?_ (by simp) | refine Ext.setCell ?_ (by simp; omega) | refine Ext.trans ?_ (by assumption))).pr (hB4.ext (by repeat first | exact Ext.refl _ | assumption | refine Ext.drew ?_ | refine Ext.alloc ?_ _ | refine Ext.setCell ?_ (by simp) | refine Ext.setCell ?_ (by simp; omega) | refine Ext.trans ?_ (by assumption))).pr (hB6.ext (by repeat first | exact Ext.refl _ | assumption | refine Ext.drew ?_ | refine Ext.alloc ?_ _ | refine Ext.setCell ?_ (by simp) | refine Ext.setCell ?_ (by simp; omega) | refine Ext.trans ?_ (by assumption))).pr).mono ?_; rintro e w9 ⟨rfl, hb7⟩))
    refine rx_on (by repeat first | exact Ext.refl _ | assumption | refine Ext.drew ?_ | refine Ext.alloc ?_ _ | refine Ext.setCell ?_ (by simp) | refine Ext.setCell ?_ (by simp; omega) | refine Ext.trans ?_ (by assumption)) ?_
    refine rx_run (run := [4]) (k := 0) (m' := 31) rfl (by kernel_rfl) (by kernel_rfl) (by kernel_rfl) (fm_cons rfl <| List.filterMap_nil) (by repeat first | exact Ext.refl _ | assumption | refine Ext.drew ?_ | refine Ext.alloc ?_ _ | refine Ext.setCell ?_ (by simp) | refine Ext.setCell ?_ (by simp; omega) | refine Ext.trans ?_ (by assumption)) ?_
    repeat (go_big_quiet_step ((fail)))
    refine wpQuiet_nil ?_
    refine rx_end (by kernel_rfl) ?_
    go_wp2
    go_meet
    exact ⟨rfl, (by repeat first | exact Ext.refl _ | assumption | refine Ext.drew ?_ | refine Ext.alloc ?_ _ | refine Ext.setCell ?_ (by simp) | refine Ext.setCell ?_ (by simp; omega) | refine Ext.trans ?_ (by assumption))⟩
  case rest =>
    obtain ⟨rfl, hb⟩ := hcut
    obtain ⟨w8, rfl⟩ : ∃ x : World, x = wc := ⟨_, rfl⟩
    have k0 := hb.lit k0
    have k1 := hb.lit k1
    have k2 := hb.lit k2
    have k3 := hb.lit k3
    have hB3 := hB3.ext hb
    have hB4 := hB4.ext hb
    have hB7 := hB7.ext hb
    have hs := hs.ext hb
    have hi := hi.ext hb
    have hx := hx.trans hb
    clear hb
    go_wp2_with fail
    refine (toIntS_c X xc xs _ hxl (hX.ext hx)).mono ?_
    rintro e w9 ⟨g8, rfl, -, hB8, hb⟩
    have k0 := hb.lit k0
    have k1 := hb.lit k1
    have k2 := hb.lit k2
    have k3 := hb.lit k3
    have hB3 := hB3.ext hb
    have hB4 := hB4.ext hb
    have hB7 := hB7.ext hb
    have hs := hs.ext hb
    have hi := hi.ext hb
    have hx := hx.trans hb
    clear hb
    go_wp2_with fail
    refine (eqIntS_t _ _ _ _ xs _ (by omega) hB7.in_ hB8.in_).mono ?_
    rintro e w10 ⟨rfl, hb⟩
    have k0 := hb.lit k0
    have k1 := hb.lit k1
    have k2 := hb.lit k2
    have k3 := hb.lit k3
    have hB3 := hB3.ext hb
    have hB4 := hB4.ext hb
    have hB7 := hB7.ext hb
    have hs := hs.ext hb
    have hi := hi.ext hb
    have hx := hx.trans hb
    clear hb
    clear hB8
    have oN : OwP w10 g3 67 (.slice (some ⟨g3, 0, none⟩) ns.length ns.length) ns := OwP.new hB3 (Nat.le_refl _) (by unfold maxLen; omega)
    have oL : OwP w10 g4 71 (.slice (some ⟨g4, 0, none⟩) ls.length ls.length) ls := OwP.new hB4 (Nat.le_refl _) (by unfold maxLen; omega)
    have oX : OwI w10 g7 (.slice (some ⟨g7, 0, none⟩) xs.length xs.length) xs := OwI.new hB7 (Nat.le_refl _) (by unfold maxLen; omega)
    have hs0' : w.heap.size < g3 := by have := hg3; omega
    go_wp2_with fail
    refine (markWindow_c _ _ _ _ _ _ ns ls 1 _ oN oL (by omega) (by omega) (by omega) (by omega) (fun q hq e => by simp [Value.ownBlock] at hq e; omega)).mono ?_
    rintro e w11 ⟨rfl, -, -, wm, gr1, gr2⟩
    have k0 := gb_lit gr2 (gb_lit gr1 k0 (fun e => by simp [Value.ownBlock] at e; omega)) (fun e => by simp [Value.ownBlock] at e; omega)
    have k1 := gb_lit gr2 (gb_lit gr1 k1 (fun e => by simp [Value.ownBlock] at e; omega)) (fun e => by simp [Value.ownBlock] at e; omega)
    have hs := (hs.gb gr1 (fun q hq e => by have := hsx q hq; simp [Value.ownBlock] at e; omega)).gb gr2 (fun q hq e => by have := hsx q hq; simp [Value.ownBlock] at e; omega)
    have hi := (hi.gb gr1 (fun q hq e => by have := hix q hq; simp [Value.ownBlock] at e; omega)).gb gr2 (fun q hq e => by have := hix q hq; simp [Value.ownBlock] at e; omega)
    have oX := (oX.gb gr1 (fun q hq e => by simp [Value.ownBlock] at hq e; omega)).gb gr2 (fun q hq e => by simp [Value.ownBlock] at hq e; omega)
    have hx := gb_ext2 (gb_ext2 hx gr1 (fun q e => by simp [Value.ownBlock] at e; omega)) gr2 (fun q e => by simp [Value.ownBlock] at e; omega)
    clear gr1 gr2 oN oL hB3 hB4 k2 k3
    go_wp2_with fail
    refine (markIntS_c _ xs _ _ oX (by omega) (by omega) (by omega)).mono ?_
    rintro e w12 ⟨rfl, -, gr⟩
    have k0 := gb_lit gr k0 (fun e => by simp [Value.ownBlock] at e; omega)
    have k1 := gb_lit gr k1 (fun e => by simp [Value.ownBlock] at e; omega)
    have hs := hs.gb gr (fun q hq e => by have := hsx q hq; simp [Value.ownBlock] at e; omega)
    have hi := hi.gb gr (fun q hq e => by have := hix q hq; simp [Value.ownBlock] at e; omega)
    have hx := gb_ext2 hx gr (fun q e => by simp [Value.ownBlock] at e; omega)
    clear gr oX hB7
    go_wp2_with fail
    refine (eqIntS_t _ _ _ _ ys _ (by omega) hi.in' hs.in').mono ?_
    rintro e w13 ⟨rfl, hb⟩
    have k0 := hb.lit k0
    have k1 := hb.lit k1
    have hs := hs.ext hb
    have hi := hi.ext hb
    have hx := hx.trans hb
    clear hb
    go_wp2_with fail
    refine (markIntS_c _ ys 1 _ hi (by omega) (by omega) (by omega)).mono ?_
    rintro e w14 ⟨rfl, hi, gr⟩
    have hsd : ∀ q, (Value.slice As ys.length cs).ownBlock = some q → (Value.slice Ai ys.length ci).ownBlock ≠ some q := fun q hq e => by have h1 := hsx q hq; have h2 := hix q e; omega
    have k0 := gb_lit gr k0 (fun e => by have := hix _ e; omega)
    have k1 := gb_lit gr k1 (fun e => by have := hix _ e; omega)
    have hs := hs.gb gr hsd
    have hx := gb_ext2 hx gr (fun q e => by have := hix q e; omega)
    clear gr
    go_wp2_with fail
    refine (heldIntS_c _ _ 1 _ hi (by omega) (by omega) (by omega)).mono ?_
    rintro e w15 ⟨rfl, rfl⟩
    have hbn : ((1 : Int) + (ys.length : Int) != 1 + (ys.length : Int)) = false := by simp
    go_wp2_with fail
    refine (toWindow_c A B c d ns ls _ hl hm (h.ext hx) (g.ext hx)).mono ?_
    rintro e w16 ⟨g5, g6, rfl, hg5, hg6, hB5, hB6, hb⟩
    have hs := hs.ext hb
    have hi := hi.ext hb
    have hx := hx.trans hb
    clear hb
    go_wp2_with fail
    refine (toIntS_c X xc xs _ hxl (hX.ext hx)).mono ?_
    rintro e w17 ⟨g8, rfl, -, hB8, hb⟩
    have hs := hs.ext hb
    have hi := hi.ext hb
    have hB5 := hB5.ext hb
    have hB6 := hB6.ext hb
    have hx := hx.trans hb
    clear hb
    go_wp2_with fail
    refine (FreeFace_i _ _ _ _ ns ls _ _ xs k k' _ (Wn.of hl hm hB5 hB6) hB8.in_ (by omega)).mono ?_
    rintro e w18 ⟨vj, rfl, hj, hb⟩
    have hs := hs.ext hb
    have hi := hi.ext hb
    have hx := hx.trans hb
    clear hb
    rw [HXS.out] at hj
    rw [HBS.out]
    obtain ⟨Aj, cj, rfl, -, -, -⟩ := hj.shape
    go_wp2_with fail
    refine (eqIntS_t _ _ _ _ ys _ (by omega) hj.in' hs.in').mono ?_
    rintro e w19 ⟨rfl, hb⟩
    have hi := hi.ext hb
    have hx := hx.trans hb
    clear hb
    go_wp2_with fail
    refine (heldIntS_c _ _ 1 _ hi (by omega) (by omega) (by omega)).mono ?_
    rintro e w20 ⟨rfl, rfl⟩
    go_wp2
    go_ret
    exact ⟨rfl, hx⟩
end Go.Proofs.YtimgbllpbadhcaaGreat
