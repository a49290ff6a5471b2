import Derived.Test.YtfhemddonahjgaaV2
import Derived.Test.YtfhemddonahjgaaV3
import Derived.Test.YtfhemddonahjgaaG9
import Derived.Test.YtfhemddonahjgaaR2
import Derived.Deep.DeepCutAuto
namespace Go.Proofs.Ytfhemddonahjgaa
open Go.RowKit Go.Sort Go.BigFrame

theorem vSplitLead_len (ns ls : List P2) (k : Int) (p : P2) : (vSplitLead ns ls k p).1.1.length ≤ ns.length + 1 ∧ (vSplitLead ns ls k p).1.2.length ≤ ls.length + 1 := by
  unfold vSplitLead
  split
  · exact ⟨by simp, by simp [spLs]⟩
  · exact ⟨by simp, by simp⟩
theorem pr_of {w : World} {B n c : Nat} {t : TypeId} {A : Option Addr} {l : List P2} (h : OwP w B t (.slice A n c) l) : Pr w w.heap.size A l := by
  obtain ⟨A1, c1, e1, _, _, a3⟩ := h.shape
  injection e1 with e1 _ _
  subst e1
  exact a3

section
variable {P : Program} {Q : Exit → Act → World → Prop} {W w : World} {l : List Oper} {a : Act}
theorem rx_genD {SL : List Sm} {L k m : Nat} {u0 u1 : Value} {T : TypeId} (hW : Ext W w)
    (h : ∀ w', Ext w w' → w'.cell? ⟨w.heap.size, 0, none⟩ = some u0 → w'.cell? ⟨w.heap.size, 1, none⟩ = some u1 → w'.frozen? ⟨w.heap.size, 0, none⟩ = false → w'.frozen? ⟨w.heap.size, 1, none⟩ = false → w.heap.size < w'.heap.size → W.heap.size ≤ w.heap.size →
      Rx P Q W l SL L k m a w') : Rx P Q W l SL L k m a (w.alloc (.cells #[u0, u1] T)).drew := by
  refine h _ (((Ext.refl w).alloc _).drew) ?_ ?_ ?_ ?_ (by show w.heap.size < (w.alloc _).heap.size; simp) hW.size
  · show (w.alloc _).cell? _ = _
    rw [cell_of_row _ w.heap.size 0 _ T (0, 0) (heap_alloc_new w _)]; rfl
  · show (w.alloc _).cell? _ = _
    rw [cell_of_row _ w.heap.size 1 _ T (0, 0) (heap_alloc_new w _)]; rfl
  · show (w.alloc _).frozen? _ = _
    exact frozen_of_row _ w.heap.size 0 _ T (heap_alloc_new w _)
  · show (w.alloc _).frozen? _ = _
    exact frozen_of_row _ w.heap.size 1 _ T (heap_alloc_new w _)
end
set_option maxRecDepth 100000 in
set_option maxHeartbeats 8000000 in
theorem law_SplitLead (A B : Option Addr) (n c m d : Nat) (ns ls : List P2) (k px py : Int) (w : World) (hn : n = ns.length) (hm : m = ls.length) (hn63 : n ≤ 9223372036854775807) (hm63 : m ≤ 9223372036854775807) (h : Pr w w.heap.size A ns) (g : Pr w w.heap.size B ls) :
    Calls Try.prog 3 #[.agg #[.slice A n c, .slice B m d], .int .i64 k, .agg #[.int .i64 px, .int .i64 py]] w fun e w' => e = .returned (.bool true) ∧ Ext w w' := by
  subst hn
  subst hm
  have hlen := vSplitLead_len ns ls k (px, py)
  obtain ⟨⟨⟨rn, rl⟩, bb⟩, hv⟩ : ∃ Q, vSplitLead ns ls k (px, py) = Q := ⟨_, rfl⟩
  rw [hv] at hlen
  have HR := Lib.hid hv
  have hbb2 : (bb != bb) = false := by simp
  obtain ⟨hrn, hrl⟩ := hlen
  have hrn : rn.length ≤ ns.length + 1 := hrn
  have hrl : rl.length ≤ ls.length + 1 := hrl
  clear hv
  go_enter Try.func3, Try.ntmps3
  go_wp2_with fail
  refine (szWindow_c A B _ c _ d _ hn63 hm63).mono ?_
  rintro e w1 ⟨rfl, hb⟩
  have k0 := hb.lit (b := w.heap.size) (o := 0) (v := .slice A ns.length c) (by go_simp)
  have k1 := hb.lit (b := w.heap.size) (o := 1) (v := .slice B ls.length d) (by go_simp)
  have n0 := hb.lit (b := w.heap.size + 1) (o := 0) (v := .int .i64 px) (by go_simp)
  have n1 := hb.lit (b := w.heap.size + 1) (o := 1) (v := .int .i64 py) (by go_simp)
  have hx : Ext w w1 := (by repeat first | exact Ext.refl _ | assumption | refine Ext.drew ?_ | refine Ext.alloc ?_ _ | refine Ext.setCell ?_ (by simp) | refine Ext.setCell ?_ (by simp; omega) | refine Ext.trans ?_ (by assumption))
  have hs1 : w.heap.size + 1 < w1.heap.size := block_lt_of_cell n0
  clear hb
  by_cases hz : (1048576 : Int) - ns.length - ls.length < 0
  · rw [if_pos hz]
    go_wp2
    go_ret
    exact ⟨rfl, hx⟩
  rw [if_neg hz]
  have hl : ns.length ≤ 1048576 := by omega
  have hm : ls.length ≤ 1048576 := by omega
  generalize hb1 : w.heap.size + 1 = b1 at *
  go_upto_region 5 with fail
  go_cut [8, 9] (fun s8 s9 wx => ∃ (gb : Nat) (A7 A8 : Option Addr) (c7 c8 : Nat), s8 = .pointer (some ⟨gb, 0, none⟩) ∧ s9 = .bool bb ∧ wx.cell? ⟨gb, 0, none⟩ = some (.slice A7 rn.length c7) ∧ wx.cell? ⟨gb, 1, none⟩ = some (.slice A8 rl.length c8) ∧ OwP wx w1.heap.size 36 (.slice A7 rn.length c7) rn ∧ OwP wx w1.heap.size 52 (.slice A8 rl.length c8) rl ∧ w1.heap.size ≤ gb ∧ (∀ q, (Value.slice A7 rn.length c7).ownBlock = some q → q ≠ gb) ∧ (∀ q, (Value.slice A8 rl.length c8).ownBlock = some q → q ≠ gb) ∧ Ext w1 wx)
  case first =>
    have d0 := cell_regrown k0
    have d1 := cell_regrown k1
    have d2 := cell_regrown n0
    have d3 := cell_regrown n1
    refine rx_open [(true, 0, some 24, 8), (false, 1, some 25, 16777216), (true, 0, some 26, 2), (true, 0, some 27, 32), (false, 10, some 28, 134217728), (false, 22, some 29, 369098752), (true, 32, some 23, 536870912), (true, 64, some 30, 8388608), (true, 64, some 31, 8388608), (false, 0, some 8, 0), (false, 767, none, 1073742080), (true, 2047, some 9, 2147483648)] 0 12 mixd rfl (by kernel_rfl) (by kernel_rfl) (by kernel_rfl) ?_
    refine rx_run (run := [0, 2, 3]) (k := 9) (m' := 13) rfl (by kernel_rfl) (by kernel_rfl) (by kernel_rfl) (fm_cons rfl <| fm_cons rfl <| fm_cons rfl <| List.filterMap_nil) (by repeat first | exact Ext.refl _ | assumption | refine Ext.setCell ?_ (by assumption) | refine Ext.drew ?_ | refine Ext.alloc ?_ _ | refine Ext.trans ?_ (by assumption)) ?_
    repeat (go_big_quiet_step ((fail)))
    refine wpQuiet_nil ?_
    refine rx_two 1 9 (k := 8) (mi := 15) (mj := 525) rfl rfl rfl (by kernel_rfl) (by kernel_rfl) (by kernel_rfl) ?_ ?_
    · skip
      go_wp2_with (first | (go_at_call 10; refine (toWindow_c A B c d ns ls _ hl hm (h.ext (hx.trans (by repeat first | exact Ext.refl _ | assumption | refine Ext.drew ?_ | refine Ext.alloc ?_ _ | refine Ext.setCell ?_ (by simp) | refine Ext.setCell ?_ (by simp; omega) | refine Ext.trans ?_ (by assumption)))) (g.ext (hx.trans (by repeat first | exact Ext.refl _ | assumption | refine Ext.drew ?_ | refine Ext.alloc ?_ _ | refine Ext.setCell ?_ (by simp) | refine Ext.setCell ?_ (by simp; omega) | refine Ext.trans ?_ (by assumption))))).mono ?_; rintro e wa ⟨g1, g2, rfl, -, -, hB1, hB2, hba⟩) | (go_at_call 11; refine (toNode_c px py _).mono ?_; rintro e wb ⟨rfl, hbb⟩) | (go_at_call 9; refine (SplitLead_s _ _ _ _ ns ls k px py _ (Wn.of hl hm (hB1.ext (by repeat first | exact Ext.refl _ | assumption | refine Ext.drew ?_ | refine Ext.alloc ?_ _ | refine Ext.setCell ?_ (by simp) | refine Ext.setCell ?_ (by simp; omega) | refine Ext.trans ?_ (by assumption))) (hB2.ext (by repeat first | exact Ext.refl _ | assumption | refine Ext.drew ?_ | refine Ext.alloc ?_ _ | refine Ext.setCell ?_ (by simp) | refine Ext.setCell ?_ (by simp; omega) | refine Ext.trans ?_ (by assumption))))).mono ?_; rw [HR.out]; rintro e wd ⟨v7, v8, rfl, o7, o8, hbd⟩; obtain ⟨A7, c7, rfl, -, -, -⟩ := OwP.shape o7; obtain ⟨A8, c8, rfl, -, -, -⟩ := OwP.shape o8))
      refine rx_on (by repeat first | exact Ext.refl _ | assumption | refine Ext.setCell ?_ (by assumption) | refine Ext.drew ?_ | refine Ext.alloc ?_ _ | refine Ext.trans ?_ (by assumption)) ?_
      refine rx_two 4 9 (k := 7) (mi := 31) (mj := 527) rfl rfl rfl (by kernel_rfl) (by kernel_rfl) (by kernel_rfl) ?_ ?_
      · skip
        go_wp2_with (first | (go_at_call 10; refine (toWindow_c A B c d ns ls _ hl hm (h.ext (hx.trans (by repeat first | exact Ext.refl _ | assumption | refine Ext.drew ?_ | refine Ext.alloc ?_ _ | refine Ext.setCell ?_ (by simp) | refine Ext.setCell ?_ (by simp; omega) | refine Ext.trans ?_ (by assumption)))) (g.ext (hx.trans (by repeat first | exact Ext.refl _ | assumption | refine Ext.drew ?_ | refine Ext.alloc ?_ _ | refine Ext.setCell ?_ (by simp) | refine Ext.setCell ?_ (by simp; omega) | refine Ext.trans ?_ (by assumption))))).mono ?_; rintro e wa ⟨g1, g2, rfl, -, -, hB1, hB2, hba⟩) | (go_at_call 11; refine (toNode_c px py _).mono ?_; rintro e wb ⟨rfl, hbb⟩) | (go_at_call 9; refine (SplitLead_s _ _ _ _ ns ls k px py _ (Wn.of hl hm (hB1.ext (by repeat first | exact Ext.refl _ | assumption | refine Ext.drew ?_ | refine Ext.alloc ?_ _ | refine Ext.setCell ?_ (by simp) | refine Ext.setCell ?_ (by simp; omega) | refine Ext.trans ?_ (by assumption))) (hB2.ext (by repeat first | exact Ext.refl _ | assumption | refine Ext.drew ?_ | refine Ext.alloc ?_ _ | refine Ext.setCell ?_ (by simp) | refine Ext.setCell ?_ (by simp; omega) | refine Ext.trans ?_ (by assumption))))).mono ?_; rw [HR.out]; rintro e wd ⟨v7, v8, rfl, o7, o8, hbd⟩; obtain ⟨A7, c7, rfl, -, -, -⟩ := OwP.shape o7; obtain ⟨A8, c8, rfl, -, -, -⟩ := OwP.shape o8))
        refine rx_on (by repeat first | exact Ext.refl _ | assumption | refine Ext.setCell ?_ (by assumption) | refine Ext.drew ?_ | refine Ext.alloc ?_ _ | refine Ext.trans ?_ (by assumption)) ?_
        refine rx_two 5 9 (k := 6) (mi := 63) (mj := 543) rfl rfl rfl (by kernel_rfl) (by kernel_rfl) (by kernel_rfl) ?_ ?_
        · skip
          go_wp2_with (first | (go_at_call 10; refine (toWindow_c A B c d ns ls _ hl hm (h.ext (hx.trans (by repeat first | exact Ext.refl _ | assumption | refine Ext.drew ?_ | refine Ext.alloc ?_ _ | refine Ext.setCell ?_ (by simp) | refine Ext.setCell ?_ (by simp; omega) | refine Ext.trans ?_ (by assumption)))) (g.ext (hx.trans (by repeat first | exact Ext.refl _ | assumption | refine Ext.drew ?_ | refine Ext.alloc ?_ _ | refine Ext.setCell ?_ (by simp) | refine Ext.setCell ?_ (by simp; omega) | refine Ext.trans ?_ (by assumption))))).mono ?_; rintro e wa ⟨g1, g2, rfl, -, -, hB1, hB2, hba⟩) | (go_at_call 11; refine (toNode_c px py _).mono ?_; rintro e wb ⟨rfl, hbb⟩) | (go_at_call 9; refine (SplitLead_s _ _ _ _ ns ls k px py _ (Wn.of hl hm (hB1.ext (by repeat first | exact Ext.refl _ | assumption | refine Ext.drew ?_ | refine Ext.alloc ?_ _ | refine Ext.setCell ?_ (by simp) | refine Ext.setCell ?_ (by simp; omega) | refine Ext.trans ?_ (by assumption))) (hB2.ext (by repeat first | exact Ext.refl _ | assumption | refine Ext.drew ?_ | refine Ext.alloc ?_ _ | refine Ext.setCell ?_ (by simp) | refine Ext.setCell ?_ (by simp; omega) | refine Ext.trans ?_ (by assumption))))).mono ?_; rw [HR.out]; rintro e wd ⟨v7, v8, rfl, o7, o8, hbd⟩; obtain ⟨A7, c7, rfl, -, -, -⟩ := OwP.shape o7; obtain ⟨A8, c8, rfl, -, -, -⟩ := OwP.shape o8))
          refine rx_on (by repeat first | exact Ext.refl _ | assumption | refine Ext.setCell ?_ (by assumption) | refine Ext.drew ?_ | refine Ext.alloc ?_ _ | refine Ext.trans ?_ (by assumption)) ?_
          refine rx_run (run := [6, 7, 8]) (k := 3) (m' := 511) rfl (by kernel_rfl) (by kernel_rfl) (by kernel_rfl) (fm_cons rfl <| fm_cons rfl <| fm_cons rfl <| List.filterMap_nil) (by repeat first | exact Ext.refl _ | assumption | refine Ext.setCell ?_ (by assumption) | refine Ext.drew ?_ | refine Ext.alloc ?_ _ | refine Ext.trans ?_ (by assumption)) ?_
          repeat (go_big_quiet_step ((fail)))
          refine wpQuiet_nil ?_
          refine rx_op 9 (k := 2) (m' := 1023) rfl rfl (by kernel_rfl) (by kernel_rfl) ?_
          go_wp2
          refine rx_on (by repeat first | exact Ext.refl _ | assumption | refine Ext.setCell ?_ (by assumption) | refine Ext.drew ?_ | refine Ext.alloc ?_ _ | refine Ext.trans ?_ (by assumption)) ?_
          refine rx_gen (by repeat first | exact Ext.refl _ | assumption | refine Ext.setCell ?_ (by assumption) | refine Ext.drew ?_ | refine Ext.alloc ?_ _ | refine Ext.trans ?_ (by assumption)) ?_
          intro wA8 hbA8 a8_0 a8_1 f8_0 f8_1 s8 l8
          refine rx_op 10 (k := 1) (m' := 2047) rfl rfl (by kernel_rfl) (by kernel_rfl) ?_
          go_wp2
          refine rx_on (by repeat first | exact Ext.refl _ | assumption | refine Ext.setCell ?_ (by assumption) | refine Ext.drew ?_ | refine Ext.alloc ?_ _ | refine Ext.trans ?_ (by assumption)) ?_
          refine rx_run (run := [11]) (k := 0) (m' := 4095) rfl (by kernel_rfl) (by kernel_rfl) (by kernel_rfl) (fm_cons rfl <| List.filterMap_nil) (by repeat first | exact Ext.refl _ | assumption | refine Ext.setCell ?_ (by assumption) | refine Ext.drew ?_ | refine Ext.alloc ?_ _ | refine Ext.trans ?_ (by assumption)) ?_
          repeat (go_big_quiet_step ((fail)))
          refine wpQuiet_nil ?_
          refine rx_end (by kernel_rfl) ?_
          (go_wp2; go_meet; refine ⟨_, A7, A8, c7, c8, rfl, rfl, by go_simp, by go_simp, ?_, ?_, by assumption, ?_, ?_, (by repeat first | exact Ext.refl _ | assumption | refine Ext.setCell ?_ (by assumption) | refine Ext.drew ?_ | refine Ext.alloc ?_ _ | refine Ext.trans ?_ (by assumption))⟩; (first | exact OwP.more (OwP.gb2 o7 (gb_set (gb_set (gb_refl _ (some _)) 0 _) 1 _) (by omega)) (by first | omega | exact (show Ext w1 _ from (by repeat first | exact Ext.refl _ | assumption | refine Ext.setCell ?_ (by assumption) | refine Ext.drew ?_ | refine Ext.alloc ?_ _ | refine Ext.trans ?_ (by assumption))).size) | exact OwP.more (OwP.gb (OwP.ext2 o7 (by assumption)) (gb_set (gb_set (gb_refl _ (some _)) 0 _) 1 _) (fun q hq e => by have h1 := (World.ownsRow.lt o7 q hq).2; have e := Option.some.inj e; omega)) (by first | omega | exact (show Ext w1 _ from (by repeat first | exact Ext.refl _ | assumption | refine Ext.setCell ?_ (by assumption) | refine Ext.drew ?_ | refine Ext.alloc ?_ _ | refine Ext.trans ?_ (by assumption))).size)); (first | exact OwP.more (OwP.gb2 o8 (gb_set (gb_set (gb_refl _ (some _)) 0 _) 1 _) (by omega)) (by first | omega | exact (show Ext w1 _ from (by repeat first | exact Ext.refl _ | assumption | refine Ext.setCell ?_ (by assumption) | refine Ext.drew ?_ | refine Ext.alloc ?_ _ | refine Ext.trans ?_ (by assumption))).size) | exact OwP.more (OwP.gb (OwP.ext2 o8 (by assumption)) (gb_set (gb_set (gb_refl _ (some _)) 0 _) 1 _) (fun q hq e => by have h1 := (World.ownsRow.lt o8 q hq).2; have e := Option.some.inj e; omega)) (by first | omega | exact (show Ext w1 _ from (by repeat first | exact Ext.refl _ | assumption | refine Ext.setCell ?_ (by assumption) | refine Ext.drew ?_ | refine Ext.alloc ?_ _ | refine Ext.trans ?_ (by assumption))).size)); (exact fun q hq => by have h1 := World.ownsRow.lt o7 q hq; omega); (exact fun q hq => by have h1 := World.ownsRow.lt o8 q hq; omega))
        · skip
          go_wp2
          refine rx_on (by repeat first | exact Ext.refl _ | assumption | refine Ext.setCell ?_ (by assumption) | refine Ext.drew ?_ | refine Ext.alloc ?_ _ | refine Ext.trans ?_ (by assumption)) ?_
          refine rx_gen (by repeat first | exact Ext.refl _ | assumption | refine Ext.setCell ?_ (by assumption) | refine Ext.drew ?_ | refine Ext.alloc ?_ _ | refine Ext.trans ?_ (by assumption)) ?_
          intro wA8 hbA8 a8_0 a8_1 f8_0 f8_1 s8 l8
          refine rx_op 5 (k := 5) (m' := 575) rfl rfl (by kernel_rfl) (by kernel_rfl) ?_
          go_wp2_with (first | (go_at_call 10; refine (toWindow_c A B c d ns ls _ hl hm (h.ext (hx.trans (by repeat first | exact Ext.refl _ | assumption | refine Ext.drew ?_ | refine Ext.alloc ?_ _ | refine Ext.setCell ?_ (by simp) | refine Ext.setCell ?_ (by simp; omega) | refine Ext.trans ?_ (by assumption)))) (g.ext (hx.trans (by repeat first | exact Ext.refl _ | assumption | refine Ext.drew ?_ | refine Ext.alloc ?_ _ | refine Ext.setCell ?_ (by simp) | refine Ext.setCell ?_ (by simp; omega) | refine Ext.trans ?_ (by assumption))))).mono ?_; rintro e wa ⟨g1, g2, rfl, -, -, hB1, hB2, hba⟩; have a8_0 := hba.lit a8_0; have a8_1 := hba.lit a8_1; have f8_0 := hba.frz s8 f8_0; have f8_1 := hba.frz s8 f8_1; have s8 := Nat.lt_of_lt_of_le s8 hba.size) | (go_at_call 11; refine (toNode_c px py _).mono ?_; rintro e wb ⟨rfl, hbb⟩; have a8_0 := hbb.lit a8_0; have a8_1 := hbb.lit a8_1; have f8_0 := hbb.frz s8 f8_0; have f8_1 := hbb.frz s8 f8_1; have s8 := Nat.lt_of_lt_of_le s8 hbb.size) | (go_at_call 9; refine (SplitLead_s _ _ _ _ ns ls k px py _ (Wn.of hl hm (hB1.ext (by repeat first | exact Ext.refl _ | assumption | refine Ext.drew ?_ | refine Ext.alloc ?_ _ | refine Ext.setCell ?_ (by simp) | refine Ext.setCell ?_ (by simp; omega) | refine Ext.trans ?_ (by assumption))) (hB2.ext (by repeat first | exact Ext.refl _ | assumption | refine Ext.drew ?_ | refine Ext.alloc ?_ _ | refine Ext.setCell ?_ (by simp) | refine Ext.setCell ?_ (by simp; omega) | refine Ext.trans ?_ (by assumption))))).mono ?_; rw [HR.out]; rintro e wd ⟨v7, v8, rfl, o7, o8, hbd⟩; obtain ⟨A7, c7, rfl, -, -, -⟩ := OwP.shape o7; obtain ⟨A8, c8, rfl, -, -, -⟩ := OwP.shape o8; have a8_0 := hbd.lit a8_0; have a8_1 := hbd.lit a8_1; have f8_0 := hbd.frz s8 f8_0; have f8_1 := hbd.frz s8 f8_1; have s8 := Nat.lt_of_lt_of_le s8 hbd.size))
          refine rx_on (by repeat first | exact Ext.refl _ | assumption | refine Ext.setCell ?_ (by assumption) | refine Ext.drew ?_ | refine Ext.alloc ?_ _ | refine Ext.trans ?_ (by assumption)) ?_
          refine rx_run (run := [6, 7, 8]) (k := 2) (m' := 1023) rfl (by kernel_rfl) (by kernel_rfl) (by kernel_rfl) (fm_cons rfl <| fm_cons rfl <| fm_cons rfl <| List.filterMap_nil) (by repeat first | exact Ext.refl _ | assumption | refine Ext.setCell ?_ (by assumption) | refine Ext.drew ?_ | refine Ext.alloc ?_ _ | refine Ext.trans ?_ (by assumption)) ?_
          repeat (go_big_quiet_step ((fail)))
          refine wpQuiet_nil ?_
          refine rx_op 10 (k := 1) (m' := 2047) rfl rfl (by kernel_rfl) (by kernel_rfl) ?_
          go_wp2
          refine rx_on (by repeat first | exact Ext.refl _ | assumption | refine Ext.setCell ?_ (by assumption) | refine Ext.drew ?_ | refine Ext.alloc ?_ _ | refine Ext.trans ?_ (by assumption)) ?_
          refine rx_run (run := [11]) (k := 0) (m' := 4095) rfl (by kernel_rfl) (by kernel_rfl) (by kernel_rfl) (fm_cons rfl <| List.filterMap_nil) (by repeat first | exact Ext.refl _ | assumption | refine Ext.setCell ?_ (by assumption) | refine Ext.drew ?_ | refine Ext.alloc ?_ _ | refine Ext.trans ?_ (by assumption)) ?_
          repeat (go_big_quiet_step ((fail)))
          refine wpQuiet_nil ?_
          refine rx_end (by kernel_rfl) ?_
          (go_wp2; go_meet; refine ⟨_, A7, A8, c7, c8, rfl, rfl, by go_simp, by go_simp, ?_, ?_, by assumption, ?_, ?_, (by repeat first | exact Ext.refl _ | assumption | refine Ext.setCell ?_ (by assumption) | refine Ext.drew ?_ | refine Ext.alloc ?_ _ | refine Ext.trans ?_ (by assumption))⟩; (first | exact OwP.more (OwP.gb2 o7 (gb_set (gb_set (gb_refl _ (some _)) 0 _) 1 _) (by omega)) (by first | omega | exact (show Ext w1 _ from (by repeat first | exact Ext.refl _ | assumption | refine Ext.setCell ?_ (by assumption) | refine Ext.drew ?_ | refine Ext.alloc ?_ _ | refine Ext.trans ?_ (by assumption))).size) | exact OwP.more (OwP.gb (OwP.ext2 o7 (by assumption)) (gb_set (gb_set (gb_refl _ (some _)) 0 _) 1 _) (fun q hq e => by have h1 := (World.ownsRow.lt o7 q hq).2; have e := Option.some.inj e; omega)) (by first | omega | exact (show Ext w1 _ from (by repeat first | exact Ext.refl _ | assumption | refine Ext.setCell ?_ (by assumption) | refine Ext.drew ?_ | refine Ext.alloc ?_ _ | refine Ext.trans ?_ (by assumption))).size)); (first | exact OwP.more (OwP.gb2 o8 (gb_set (gb_set (gb_refl _ (some _)) 0 _) 1 _) (by omega)) (by first | omega | exact (show Ext w1 _ from (by repeat first | exact Ext.refl _ | assumption | refine Ext.setCell ?_ (by assumption) | refine Ext.drew ?_ | refine Ext.alloc ?_ _ | refine Ext.trans ?_ (by assumption))).size) | exact OwP.more (OwP.gb (OwP.ext2 o8 (by assumption)) (gb_set (gb_set (gb_refl _ (some _)) 0 _) 1 _) (fun q hq e => by have h1 := (World.ownsRow.lt o8 q hq).2; have e := Option.some.inj e; omega)) (by first | omega | exact (show Ext w1 _ from (by repeat first | exact Ext.refl _ | assumption | refine Ext.setCell ?_ (by assumption) | refine Ext.drew ?_ | refine Ext.alloc ?_ _ | refine Ext.trans ?_ (by assumption))).size)); (exact fun q hq => by have h1 := World.ownsRow.lt o7 q hq; omega); (exact fun q hq => by have h1 := World.ownsRow.lt o8 q hq; omega))
      · skip
        go_wp2
        refine rx_on (by repeat first | exact Ext.refl _ | assumption | refine Ext.setCell ?_ (by assumption) | refine Ext.drew ?_ | refine Ext.alloc ?_ _ | refine Ext.trans ?_ (by assumption)) ?_
        refine rx_gen (by repeat first | exact Ext.refl _ | assumption | refine Ext.setCell ?_ (by assumption) | refine Ext.drew ?_ | refine Ext.alloc ?_ _ | refine Ext.trans ?_ (by assumption)) ?_
        intro wA8 hbA8 a8_0 a8_1 f8_0 f8_1 s8 l8
        refine rx_op 4 (k := 6) (m' := 543) rfl rfl (by kernel_rfl) (by kernel_rfl) ?_
        go_wp2_with (first | (go_at_call 10; refine (toWindow_c A B c d ns ls _ hl hm (h.ext (hx.trans (by repeat first | exact Ext.refl _ | assumption | refine Ext.drew ?_ | refine Ext.alloc ?_ _ | refine Ext.setCell ?_ (by simp) | refine Ext.setCell ?_ (by simp; omega) | refine Ext.trans ?_ (by assumption)))) (g.ext (hx.trans (by repeat first | exact Ext.refl _ | assumption | refine Ext.drew ?_ | refine Ext.alloc ?_ _ | refine Ext.setCell ?_ (by simp) | refine Ext.setCell ?_ (by simp; omega) | refine Ext.trans ?_ (by assumption))))).mono ?_; rintro e wa ⟨g1, g2, rfl, -, -, hB1, hB2, hba⟩; have a8_0 := hba.lit a8_0; have a8_1 := hba.lit a8_1; have f8_0 := hba.frz s8 f8_0; have f8_1 := hba.frz s8 f8_1; have s8 := Nat.lt_of_lt_of_le s8 hba.size) | (go_at_call 11; refine (toNode_c px py _).mono ?_; rintro e wb ⟨rfl, hbb⟩; have a8_0 := hbb.lit a8_0; have a8_1 := hbb.lit a8_1; have f8_0 := hbb.frz s8 f8_0; have f8_1 := hbb.frz s8 f8_1; have s8 := Nat.lt_of_lt_of_le s8 hbb.size) | (go_at_call 9; refine (SplitLead_s _ _ _ _ ns ls k px py _ (Wn.of hl hm (hB1.ext (by repeat first | exact Ext.refl _ | assumption | refine Ext.drew ?_ | refine Ext.alloc ?_ _ | refine Ext.setCell ?_ (by simp) | refine Ext.setCell ?_ (by simp; omega) | refine Ext.trans ?_ (by assumption))) (hB2.ext (by repeat first | exact Ext.refl _ | assumption | refine Ext.drew ?_ | refine Ext.alloc ?_ _ | refine Ext.setCell ?_ (by simp) | refine Ext.setCell ?_ (by simp; omega) | refine Ext.trans ?_ (by assumption))))).mono ?_; rw [HR.out]; rintro e wd ⟨v7, v8, rfl, o7, o8, hbd⟩; obtain ⟨A7, c7, rfl, -, -, -⟩ := OwP.shape o7; obtain ⟨A8, c8, rfl, -, -, -⟩ := OwP.shape o8; have a8_0 := hbd.lit a8_0; have a8_1 := hbd.lit a8_1; have f8_0 := hbd.frz s8 f8_0; have f8_1 := hbd.frz s8 f8_1; have s8 := Nat.lt_of_lt_of_le s8 hbd.size))
        refine rx_on (by repeat first | exact Ext.refl _ | assumption | refine Ext.setCell ?_ (by assumption) | refine Ext.drew ?_ | refine Ext.alloc ?_ _ | refine Ext.trans ?_ (by assumption)) ?_
        refine rx_op 5 (k := 5) (m' := 575) rfl rfl (by kernel_rfl) (by kernel_rfl) ?_
        go_wp2_with (first | (go_at_call 10; refine (toWindow_c A B c d ns ls _ hl hm (h.ext (hx.trans (by repeat first | exact Ext.refl _ | assumption | refine Ext.drew ?_ | refine Ext.alloc ?_ _ | refine Ext.setCell ?_ (by simp) | refine Ext.setCell ?_ (by simp; omega) | refine Ext.trans ?_ (by assumption)))) (g.ext (hx.trans (by repeat first | exact Ext.refl _ | assumption | refine Ext.drew ?_ | refine Ext.alloc ?_ _ | refine Ext.setCell ?_ (by simp) | refine Ext.setCell ?_ (by simp; omega) | refine Ext.trans ?_ (by assumption))))).mono ?_; rintro e wa ⟨g1, g2, rfl, -, -, hB1, hB2, hba⟩; have a8_0 := hba.lit a8_0; have a8_1 := hba.lit a8_1; have f8_0 := hba.frz s8 f8_0; have f8_1 := hba.frz s8 f8_1; have s8 := Nat.lt_of_lt_of_le s8 hba.size) | (go_at_call 11; refine (toNode_c px py _).mono ?_; rintro e wb ⟨rfl, hbb⟩; have a8_0 := hbb.lit a8_0; have a8_1 := hbb.lit a8_1; have f8_0 := hbb.frz s8 f8_0; have f8_1 := hbb.frz s8 f8_1; have s8 := Nat.lt_of_lt_of_le s8 hbb.size) | (go_at_call 9; refine (SplitLead_s _ _ _ _ ns ls k px py _ (Wn.of hl hm (hB1.ext (by repeat first | exact Ext.refl _ | assumption | refine Ext.drew ?_ | refine Ext.alloc ?_ _ | refine Ext.setCell ?_ (by simp) | refine Ext.setCell ?_ (by simp; omega) | refine Ext.trans ?_ (by assumption))) (hB2.ext (by repeat first | exact Ext.refl _ | assumption | refine Ext.drew ?_ | refine Ext.alloc ?_ _ | refine Ext.setCell ?_ (by simp) | refine Ext.setCell ?_ (by simp; omega) | refine Ext.trans ?_ (by assumption))))).mono ?_; rw [HR.out]; rintro e wd ⟨v7, v8, rfl, o7, o8, hbd⟩; obtain ⟨A7, c7, rfl, -, -, -⟩ := OwP.shape o7; obtain ⟨A8, c8, rfl, -, -, -⟩ := OwP.shape o8; have a8_0 := hbd.lit a8_0; have a8_1 := hbd.lit a8_1; have f8_0 := hbd.frz s8 f8_0; have f8_1 := hbd.frz s8 f8_1; have s8 := Nat.lt_of_lt_of_le s8 hbd.size))
        refine rx_on (by repeat first | exact Ext.refl _ | assumption | refine Ext.setCell ?_ (by assumption) | refine Ext.drew ?_ | refine Ext.alloc ?_ _ | refine Ext.trans ?_ (by assumption)) ?_
        refine rx_run (run := [6, 7, 8]) (k := 2) (m' := 1023) rfl (by kernel_rfl) (by kernel_rfl) (by kernel_rfl) (fm_cons rfl <| fm_cons rfl <| fm_cons rfl <| List.filterMap_nil) (by repeat first | exact Ext.refl _ | assumption | refine Ext.setCell ?_ (by assumption) | refine Ext.drew ?_ | refine Ext.alloc ?_ _ | refine Ext.trans ?_ (by assumption)) ?_
        repeat (go_big_quiet_step ((fail)))
        refine wpQuiet_nil ?_
        refine rx_op 10 (k := 1) (m' := 2047) rfl rfl (by kernel_rfl) (by kernel_rfl) ?_
        go_wp2
        refine rx_on (by repeat first | exact Ext.refl _ | assumption | refine Ext.setCell ?_ (by assumption) | refine Ext.drew ?_ | refine Ext.alloc ?_ _ | refine Ext.trans ?_ (by assumption)) ?_
        refine rx_run (run := [11]) (k := 0) (m' := 4095) rfl (by kernel_rfl) (by kernel_rfl) (by kernel_rfl) (fm_cons rfl <| List.filterMap_nil) (by repeat first | exact Ext.refl _ | assumption | refine Ext.setCell ?_ (by assumption) | refine Ext.drew ?_ | refine Ext.alloc ?_ _ | refine Ext.trans ?_ (by assumption)) ?_
        repeat (go_big_quiet_step ((fail)))
        refine wpQuiet_nil ?_
        refine rx_end (by kernel_rfl) ?_
        (go_wp2; go_meet; refine ⟨_, A7, A8, c7, c8, rfl, rfl, by go_simp, by go_simp, ?_, ?_, by assumption, ?_, ?_, (by repeat first | exact Ext.refl _ | assumption | refine Ext.setCell ?_ (by assumption) | refine Ext.drew ?_ | refine Ext.alloc ?_ _ | refine Ext.trans ?_ (by assumption))⟩; (first | exact OwP.more (OwP.gb2 o7 (gb_set (gb_set (gb_refl _ (some _)) 0 _) 1 _) (by omega)) (by first | omega | exact (show Ext w1 _ from (by repeat first | exact Ext.refl _ | assumption | refine Ext.setCell ?_ (by assumption) | refine Ext.drew ?_ | refine Ext.alloc ?_ _ | refine Ext.trans ?_ (by assumption))).size) | exact OwP.more (OwP.gb (OwP.ext2 o7 (by assumption)) (gb_set (gb_set (gb_refl _ (some _)) 0 _) 1 _) (fun q hq e => by have h1 := (World.ownsRow.lt o7 q hq).2; have e := Option.some.inj e; omega)) (by first | omega | exact (show Ext w1 _ from (by repeat first | exact Ext.refl _ | assumption | refine Ext.setCell ?_ (by assumption) | refine Ext.drew ?_ | refine Ext.alloc ?_ _ | refine Ext.trans ?_ (by assumption))).size)); (first | exact OwP.more (OwP.gb2 o8 (gb_set (gb_set (gb_refl _ (some _)) 0 _) 1 _) (by omega)) (by first | omega | exact (show Ext w1 _ from (by repeat first | exact Ext.refl _ | assumption | refine Ext.setCell ?_ (by assumption) | refine Ext.drew ?_ | refine Ext.alloc ?_ _ | refine Ext.trans ?_ (by assumption))).size) | exact OwP.more (OwP.gb (OwP.ext2 o8 (by assumption)) (gb_set (gb_set (gb_refl _ (some _)) 0 _) 1 _) (fun q hq e => by have h1 := (World.ownsRow.lt o8 q hq).2; have e := Option.some.inj e; omega)) (by first | omega | exact (show Ext w1 _ from (by repeat first | exact Ext.refl _ | assumption | refine Ext.setCell ?_ (by assumption) | refine Ext.drew ?_ | refine Ext.alloc ?_ _ | refine Ext.trans ?_ (by assumption))).size)); (exact fun q hq => by have h1 := World.ownsRow.lt o7 q hq; omega); (exact fun q hq => by have h1 := World.ownsRow.lt o8 q hq; omega))
    · skip
      go_wp2
      refine rx_on (by repeat first | exact Ext.refl _ | assumption | refine Ext.setCell ?_ (by assumption) | refine Ext.drew ?_ | refine Ext.alloc ?_ _ | refine Ext.trans ?_ (by assumption)) ?_
      refine rx_genD (by repeat first | exact Ext.refl _ | assumption | refine Ext.setCell ?_ (by assumption) | refine Ext.drew ?_ | refine Ext.alloc ?_ _ | refine Ext.trans ?_ (by assumption)) ?_
      intro wA8 hbA8 a8_0 a8_1 f8_0 f8_1 s8 l8
      refine rx_op 1 (k := 7) (m' := 527) rfl rfl (by kernel_rfl) (by kernel_rfl) ?_
      go_wp2_with (first | (go_at_call 10; refine (toWindow_c A B c d ns ls _ hl hm (h.ext (hx.trans (by repeat first | exact Ext.refl _ | assumption | refine Ext.drew ?_ | refine Ext.alloc ?_ _ | refine Ext.setCell ?_ (by simp) | refine Ext.setCell ?_ (by simp; omega) | refine Ext.trans ?_ (by assumption)))) (g.ext (hx.trans (by repeat first | exact Ext.refl _ | assumption | refine Ext.drew ?_ | refine Ext.alloc ?_ _ | refine Ext.setCell ?_ (by simp) | refine Ext.setCell ?_ (by simp; omega) | refine Ext.trans ?_ (by assumption))))).mono ?_; rintro e wa ⟨g1, g2, rfl, -, -, hB1, hB2, hba⟩; have a8_0 := hba.lit a8_0; have a8_1 := hba.lit a8_1; have f8_0 := hba.frz s8 f8_0; have f8_1 := hba.frz s8 f8_1; have s8 := Nat.lt_of_lt_of_le s8 hba.size) | (go_at_call 11; refine (toNode_c px py _).mono ?_; rintro e wb ⟨rfl, hbb⟩; have a8_0 := hbb.lit a8_0; have a8_1 := hbb.lit a8_1; have f8_0 := hbb.frz s8 f8_0; have f8_1 := hbb.frz s8 f8_1; have s8 := Nat.lt_of_lt_of_le s8 hbb.size) | (go_at_call 9; refine (SplitLead_s _ _ _ _ ns ls k px py _ (Wn.of hl hm (hB1.ext (by repeat first | exact Ext.refl _ | assumption | refine Ext.drew ?_ | refine Ext.alloc ?_ _ | refine Ext.setCell ?_ (by simp) | refine Ext.setCell ?_ (by simp; omega) | refine Ext.trans ?_ (by assumption))) (hB2.ext (by repeat first | exact Ext.refl _ | assumption | refine Ext.drew ?_ | refine Ext.alloc ?_ _ | refine Ext.setCell ?_ (by simp) | refine Ext.setCell ?_ (by simp; omega) | refine Ext.trans ?_ (by assumption))))).mono ?_; rw [HR.out]; rintro e wd ⟨v7, v8, rfl, o7, o8, hbd⟩; obtain ⟨A7, c7, rfl, -, -, -⟩ := OwP.shape o7; obtain ⟨A8, c8, rfl, -, -, -⟩ := OwP.shape o8; have a8_0 := hbd.lit a8_0; have a8_1 := hbd.lit a8_1; have f8_0 := hbd.frz s8 f8_0; have f8_1 := hbd.frz s8 f8_1; have s8 := Nat.lt_of_lt_of_le s8 hbd.size))
      refine rx_on (by repeat first | exact Ext.refl _ | assumption | refine Ext.setCell ?_ (by assumption) | refine Ext.drew ?_ | refine Ext.alloc ?_ _ | refine Ext.trans ?_ (by assumption)) ?_
      refine rx_op 4 (k := 6) (m' := 543) rfl rfl (by kernel_rfl) (by kernel_rfl) ?_
      go_wp2_with (first | (go_at_call 10; refine (toWindow_c A B c d ns ls _ hl hm (h.ext (hx.trans (by repeat first | exact Ext.refl _ | assumption | refine Ext.drew ?_ | refine Ext.alloc ?_ _ | refine Ext.setCell ?_ (by simp) | refine Ext.setCell ?_ (by simp; omega) | refine Ext.trans ?_ (by assumption)))) (g.ext (hx.trans (by repeat first | exact Ext.refl _ | assumption | refine Ext.drew ?_ | refine Ext.alloc ?_ _ | refine Ext.setCell ?_ (by simp) | refine Ext.setCell ?_ (by simp; omega) | refine Ext.trans ?_ (by assumption))))).mono ?_; rintro e wa ⟨g1, g2, rfl, -, -, hB1, hB2, hba⟩; have a8_0 := hba.lit a8_0; have a8_1 := hba.lit a8_1; have f8_0 := hba.frz s8 f8_0; have f8_1 := hba.frz s8 f8_1; have s8 := Nat.lt_of_lt_of_le s8 hba.size) | (go_at_call 11; refine (toNode_c px py _).mono ?_; rintro e wb ⟨rfl, hbb⟩; have a8_0 := hbb.lit a8_0; have a8_1 := hbb.lit a8_1; have f8_0 := hbb.frz s8 f8_0; have f8_1 := hbb.frz s8 f8_1; have s8 := Nat.lt_of_lt_of_le s8 hbb.size) | (go_at_call 9; refine (SplitLead_s _ _ _ _ ns ls k px py _ (Wn.of hl hm (hB1.ext (by repeat first | exact Ext.refl _ | assumption | refine Ext.drew ?_ | refine Ext.alloc ?_ _ | refine Ext.setCell ?_ (by simp) | refine Ext.setCell ?_ (by simp; omega) | refine Ext.trans ?_ (by assumption))) (hB2.ext (by repeat first | exact Ext.refl _ | assumption | refine Ext.drew ?_ | refine Ext.alloc ?_ _ | refine Ext.setCell ?_ (by simp) | refine Ext.setCell ?_ (by simp; omega) | refine Ext.trans ?_ (by assumption))))).mono ?_; rw [HR.out]; rintro e wd ⟨v7, v8, rfl, o7, o8, hbd⟩; obtain ⟨A7, c7, rfl, -, -, -⟩ := OwP.shape o7; obtain ⟨A8, c8, rfl, -, -, -⟩ := OwP.shape o8; have a8_0 := hbd.lit a8_0; have a8_1 := hbd.lit a8_1; have f8_0 := hbd.frz s8 f8_0; have f8_1 := hbd.frz s8 f8_1; have s8 := Nat.lt_of_lt_of_le s8 hbd.size))
      refine rx_on (by repeat first | exact Ext.refl _ | assumption | refine Ext.setCell ?_ (by assumption) | refine Ext.drew ?_ | refine Ext.alloc ?_ _ | refine Ext.trans ?_ (by assumption)) ?_
      refine rx_op 5 (k := 5) (m' := 575) rfl rfl (by kernel_rfl) (by kernel_rfl) ?_
      go_wp2_with (first | (go_at_call 10; refine (toWindow_c A B c d ns ls _ hl hm (h.ext (hx.trans (by repeat first | exact Ext.refl _ | assumption | refine Ext.drew ?_ | refine Ext.alloc ?_ _ | refine Ext.setCell ?_ (by simp) | refine Ext.setCell ?_ (by simp; omega) | refine Ext.trans ?_ (by assumption)))) (g.ext (hx.trans (by repeat first | exact Ext.refl _ | assumption | refine Ext.drew ?_ | refine Ext.alloc ?_ _ | refine Ext.setCell ?_ (by simp) | refine Ext.setCell ?_ (by simp; omega) | refine Ext.trans ?_ (by assumption))))).mono ?_; rintro e wa ⟨g1, g2, rfl, -, -, hB1, hB2, hba⟩; have a8_0 := hba.lit a8_0; have a8_1 := hba.lit a8_1; have f8_0 := hba.frz s8 f8_0; have f8_1 := hba.frz s8 f8_1; have s8 := Nat.lt_of_lt_of_le s8 hba.size) | (go_at_call 11; refine (toNode_c px py _).mono ?_; rintro e wb ⟨rfl, hbb⟩; have a8_0 := hbb.lit a8_0; have a8_1 := hbb.lit a8_1; have f8_0 := hbb.frz s8 f8_0; have f8_1 := hbb.frz s8 f8_1; have s8 := Nat.lt_of_lt_of_le s8 hbb.size) | (go_at_call 9; refine (SplitLead_s _ _ _ _ ns ls k px py _ (Wn.of hl hm (hB1.ext (by repeat first | exact Ext.refl _ | assumption | refine Ext.drew ?_ | refine Ext.alloc ?_ _ | refine Ext.setCell ?_ (by simp) | refine Ext.setCell ?_ (by simp; omega) | refine Ext.trans ?_ (by assumption))) (hB2.ext (by repeat first | exact Ext.refl _ | assumption | refine Ext.drew ?_ | refine Ext.alloc ?_ _ | refine Ext.setCell ?_ (by simp) | refine Ext.setCell ?_ (by simp; omega) | refine Ext.trans ?_ (by assumption))))).mono ?_; rw [HR.out]; rintro e wd ⟨v7, v8, rfl, o7, o8, hbd⟩; obtain ⟨A7, c7, rfl, -, -, -⟩ := OwP.shape o7; obtain ⟨A8, c8, rfl, -, -, -⟩ := OwP.shape o8; have a8_0 := hbd.lit a8_0; have a8_1 := hbd.lit a8_1; have f8_0 := hbd.frz s8 f8_0; have f8_1 := hbd.frz s8 f8_1; have s8 := Nat.lt_of_lt_of_le s8 hbd.size))
      refine rx_on (by repeat first | exact Ext.refl _ | assumption | refine Ext.setCell ?_ (by assumption) | refine Ext.drew ?_ | refine Ext.alloc ?_ _ | refine Ext.trans ?_ (by assumption)) ?_
      refine rx_run (run := [6, 7, 8]) (k := 2) (m' := 1023) rfl (by kernel_rfl) (by kernel_rfl) (by kernel_rfl) (fm_cons rfl <| fm_cons rfl <| fm_cons rfl <| List.filterMap_nil) (by repeat first | exact Ext.refl _ | assumption | refine Ext.setCell ?_ (by assumption) | refine Ext.drew ?_ | refine Ext.alloc ?_ _ | refine Ext.trans ?_ (by assumption)) ?_
      repeat (go_big_quiet_step ((fail)))
      refine wpQuiet_nil ?_
      refine rx_op 10 (k := 1) (m' := 2047) rfl rfl (by kernel_rfl) (by kernel_rfl) ?_
      go_wp2
      refine rx_on (by repeat first | exact Ext.refl _ | assumption | refine Ext.setCell ?_ (by assumption) | refine Ext.drew ?_ | refine Ext.alloc ?_ _ | refine Ext.trans ?_ (by assumption)) ?_
      refine rx_run (run := [11]) (k := 0) (m' := 4095) rfl (by kernel_rfl) (by kernel_rfl) (by kernel_rfl) (fm_cons rfl <| List.filterMap_nil) (by repeat first | exact Ext.refl _ | assumption | refine Ext.setCell ?_ (by assumption) | refine Ext.drew ?_ | refine Ext.alloc ?_ _ | refine Ext.trans ?_ (by assumption)) ?_
      repeat (go_big_quiet_step ((fail)))
      refine wpQuiet_nil ?_
      refine rx_end (by kernel_rfl) ?_
      (go_wp2; go_meet; refine ⟨_, A7, A8, c7, c8, rfl, rfl, by go_simp, by go_simp, ?_, ?_, by assumption, ?_, ?_, (by repeat first | exact Ext.refl _ | assumption | refine Ext.setCell ?_ (by assumption) | refine Ext.drew ?_ | refine Ext.alloc ?_ _ | refine Ext.trans ?_ (by assumption))⟩; (first | exact OwP.more (OwP.gb2 o7 (gb_set (gb_set (gb_refl _ (some _)) 0 _) 1 _) (by omega)) (by first | omega | exact (show Ext w1 _ from (by repeat first | exact Ext.refl _ | assumption | refine Ext.setCell ?_ (by assumption) | refine Ext.drew ?_ | refine Ext.alloc ?_ _ | refine Ext.trans ?_ (by assumption))).size) | exact OwP.more (OwP.gb (OwP.ext2 o7 (by assumption)) (gb_set (gb_set (gb_refl _ (some _)) 0 _) 1 _) (fun q hq e => by have h1 := (World.ownsRow.lt o7 q hq).2; have e := Option.some.inj e; omega)) (by first | omega | exact (show Ext w1 _ from (by repeat first | exact Ext.refl _ | assumption | refine Ext.setCell ?_ (by assumption) | refine Ext.drew ?_ | refine Ext.alloc ?_ _ | refine Ext.trans ?_ (by assumption))).size)); (first | exact OwP.more (OwP.gb2 o8 (gb_set (gb_set (gb_refl _ (some _)) 0 _) 1 _) (by omega)) (by first | omega | exact (show Ext w1 _ from (by repeat first | exact Ext.refl _ | assumption | refine Ext.setCell ?_ (by assumption) | refine Ext.drew ?_ | refine Ext.alloc ?_ _ | refine Ext.trans ?_ (by assumption))).size) | exact OwP.more (OwP.gb (OwP.ext2 o8 (by assumption)) (gb_set (gb_set (gb_refl _ (some _)) 0 _) 1 _) (fun q hq e => by have h1 := (World.ownsRow.lt o8 q hq).2; have e := Option.some.inj e; omega)) (by first | omega | exact (show Ext w1 _ from (by repeat first | exact Ext.refl _ | assumption | refine Ext.setCell ?_ (by assumption) | refine Ext.drew ?_ | refine Ext.alloc ?_ _ | refine Ext.trans ?_ (by assumption))).size)); (exact fun q hq => by have h1 := World.ownsRow.lt o7 q hq; omega); (exact fun q hq => by have h1 := World.ownsRow.lt o8 q hq; omega))
  case rest =>
    obtain ⟨gb, A7, A8, c7, c8, rfl, rfl, t0, t1, o7, o8, -, -, -, hb5⟩ := hcut
    obtain ⟨w2, rfl⟩ : ∃ x : World, x = wc := ⟨_, rfl⟩
    have k0 := hb5.lit k0
    have k1 := hb5.lit k1
    have n0 := hb5.lit n0
    have n1 := hb5.lit n1
    have hx := hx.trans hb5
    clear hb5
    have hgb : gb < w2.heap.size := block_lt_of_cell t0
    have ho7 := fun q hq => (OwP.blk o7 q hq).2
    have ho8 := fun q hq => (OwP.blk o8 q hq).2
    have HO7 := Lib.hid ho7
    have HO8 := Lib.hid ho8
    have hs2 : w.heap.size < w2.heap.size ∧ b1 < w2.heap.size := ⟨block_lt_of_cell k0, block_lt_of_cell n0⟩
    clear ho7 ho8 hs1
    go_wp2_with fail
    refine (toWindow_c A B c d ns ls _ hl hm (h.ext hx) (g.ext hx)).mono ?_
    rintro e w3 ⟨g3, g4, rfl, hg3, hg34, hB3, hB4, hb⟩
    have k0 := hb.lit k0
    have k1 := hb.lit k1
    have n0 := hb.lit n0
    have n1 := hb.lit n1
    have t0 := hb.lit t0
    have t1 := hb.lit t1
    have o7 := o7.ext hb
    have o8 := o8.ext hb
    have hx := hx.trans hb
    clear hb
    have hg4 := hB4.lt
    go_upto_region 7 with fail
    have x0 : (w3.alloc (.cells #[.slice (some ⟨g3, 0, none⟩) ns.length ns.length, .slice (some ⟨g4, 0, none⟩) ls.length ls.length] 32)).cell? ⟨w3.heap.size, 0, none⟩ = some (.slice (some ⟨g3, 0, none⟩) ns.length ns.length) := by go_simp
    have x1 : (w3.alloc (.cells #[.slice (some ⟨g3, 0, none⟩) ns.length ns.length, .slice (some ⟨g4, 0, none⟩) ls.length ls.length] 32)).cell? ⟨w3.heap.size, 1, none⟩ = some (.slice (some ⟨g4, 0, none⟩) ls.length ls.length) := by go_simp
    have hx34 : Ext w3 (w3.alloc (.cells #[.slice (some ⟨g3, 0, none⟩) ns.length ns.length, .slice (some ⟨g4, 0, none⟩) ls.length ls.length] 32)) := (Ext.refl _).alloc _
    have hs34 : (w3.alloc (.cells #[.slice (some ⟨g3, 0, none⟩) ns.length ns.length, .slice (some ⟨g4, 0, none⟩) ls.length ls.length] 32)).heap.size = w3.heap.size + 1 := by simp
    generalize (w3.alloc (.cells #[.slice (some ⟨g3, 0, none⟩) ns.length ns.length, .slice (some ⟨g4, 0, none⟩) ls.length ls.length] 32)) = w4 at *
    generalize hgx : w3.heap.size = gx at *
    have HS4 : Hid (w4.heap.size = gx + 1) := Lib.hid hs34
    have k0 := hx34.lit k0
    have k1 := hx34.lit k1
    have n0 := hx34.lit n0
    have n1 := hx34.lit n1
    have t0 := hx34.lit t0
    have t1 := hx34.lit t1
    have o7 := o7.ext hx34
    have o8 := o8.ext hx34
    have hB3 := hB3.ext hx34
    have hB4 := hB4.ext hx34
    have hx := hx.trans hx34
    clear hx34
    clear hs34
    go_cut [11, 12] (fun s8 s9 wx => ∃ (gb : Nat) (A7 A8 : Option Addr) (c7 c8 : Nat), s8 = .pointer (some ⟨gb, 0, none⟩) ∧ s9 = .bool bb ∧ wx.cell? ⟨gb, 0, none⟩ = some (.slice A7 rn.length c7) ∧ wx.cell? ⟨gb, 1, none⟩ = some (.slice A8 rl.length c8) ∧ OwP wx w4.heap.size 36 (.slice A7 rn.length c7) rn ∧ OwP wx w4.heap.size 52 (.slice A8 rl.length c8) rl ∧ w4.heap.size ≤ gb ∧ (∀ q, (Value.slice A7 rn.length c7).ownBlock = some q → q ≠ gb) ∧ (∀ q, (Value.slice A8 rl.length c8).ownBlock = some q → q ≠ gb) ∧ Ext w4 wx)
    case first =>
      have d0 := cell_regrown x0
      have d1 := cell_regrown x1
      have d2 := cell_regrown n0
      have d3 := cell_regrown n1
      clear o7 o8
      refine rx_open [(true, 0, some 35, 1024), (true, 0, some 36, 2), (true, 0, some 37, 32), (false, 4, some 38, 137438953472), (false, 11, some 39, 377957122048), (true, 16, some 34, 549755813888), (true, 32, some 40, 17179869184), (true, 32, some 41, 17179869184), (false, 0, some 11, 0), (false, 383, none, 1099511629824), (true, 1023, some 12, 2199023255552)] 0 11 mixd rfl (by kernel_rfl) (by kernel_rfl) (by kernel_rfl) ?_
      refine rx_run (run := [0, 1, 2]) (k := 8) (m' := 7) rfl (by kernel_rfl) (by kernel_rfl) (by kernel_rfl) (fm_cons rfl <| fm_cons rfl <| fm_cons rfl <| List.filterMap_nil) (by repeat first | exact Ext.refl _ | assumption | refine Ext.setCell ?_ (by assumption) | refine Ext.drew ?_ | refine Ext.alloc ?_ _ | refine Ext.trans ?_ (by assumption)) ?_
      repeat (go_big_quiet_step ((fail)))
      refine wpQuiet_nil ?_
      refine rx_two 3 8 (k := 7) (mi := 15) (mj := 263) rfl rfl rfl (by kernel_rfl) (by kernel_rfl) (by kernel_rfl) ?_ ?_
      · skip
        go_wp2_with (first | (go_at_call 11; refine (toNode_c px py _).mono ?_; rintro e wb ⟨rfl, hbb⟩) | (go_at_call 12; refine (SplitLead_i _ _ _ _ ns ls k px py _ (Wn.of hl hm (hB3.ext (by repeat first | exact Ext.refl _ | assumption | refine Ext.drew ?_ | refine Ext.alloc ?_ _ | refine Ext.setCell ?_ (by simp) | refine Ext.setCell ?_ (by simp; omega) | refine Ext.trans ?_ (by assumption))) (hB4.ext (by repeat first | exact Ext.refl _ | assumption | refine Ext.drew ?_ | refine Ext.alloc ?_ _ | refine Ext.setCell ?_ (by simp) | refine Ext.setCell ?_ (by simp; omega) | refine Ext.trans ?_ (by assumption))))).mono ?_; rw [HR.out]; rintro e wd ⟨v7, v8, rfl, o7, o8, hbd⟩; obtain ⟨A7, c7, rfl, -, -, -⟩ := OwP.shape o7; obtain ⟨A8, c8, rfl, -, -, -⟩ := OwP.shape o8))
        refine rx_on (by repeat first | exact Ext.refl _ | assumption | refine Ext.setCell ?_ (by assumption) | refine Ext.drew ?_ | refine Ext.alloc ?_ _ | refine Ext.trans ?_ (by assumption)) ?_
        refine rx_two 4 8 (k := 6) (mi := 31) (mj := 271) rfl rfl rfl (by kernel_rfl) (by kernel_rfl) (by kernel_rfl) ?_ ?_
        · skip
          go_wp2_with (first | (go_at_call 11; refine (toNode_c px py _).mono ?_; rintro e wb ⟨rfl, hbb⟩) | (go_at_call 12; refine (SplitLead_i _ _ _ _ ns ls k px py _ (Wn.of hl hm (hB3.ext (by repeat first | exact Ext.refl _ | assumption | refine Ext.drew ?_ | refine Ext.alloc ?_ _ | refine Ext.setCell ?_ (by simp) | refine Ext.setCell ?_ (by simp; omega) | refine Ext.trans ?_ (by assumption))) (hB4.ext (by repeat first | exact Ext.refl _ | assumption | refine Ext.drew ?_ | refine Ext.alloc ?_ _ | refine Ext.setCell ?_ (by simp) | refine Ext.setCell ?_ (by simp; omega) | refine Ext.trans ?_ (by assumption))))).mono ?_; rw [HR.out]; rintro e wd ⟨v7, v8, rfl, o7, o8, hbd⟩; obtain ⟨A7, c7, rfl, -, -, -⟩ := OwP.shape o7; obtain ⟨A8, c8, rfl, -, -, -⟩ := OwP.shape o8))
          refine rx_on (by repeat first | exact Ext.refl _ | assumption | refine Ext.setCell ?_ (by assumption) | refine Ext.drew ?_ | refine Ext.alloc ?_ _ | refine Ext.trans ?_ (by assumption)) ?_
          refine rx_run (run := [5, 6, 7]) (k := 3) (m' := 255) rfl (by kernel_rfl) (by kernel_rfl) (by kernel_rfl) (fm_cons rfl <| fm_cons rfl <| fm_cons rfl <| List.filterMap_nil) (by repeat first | exact Ext.refl _ | assumption | refine Ext.setCell ?_ (by assumption) | refine Ext.drew ?_ | refine Ext.alloc ?_ _ | refine Ext.trans ?_ (by assumption)) ?_
          repeat (go_big_quiet_step ((fail)))
          refine wpQuiet_nil ?_
          refine rx_op 8 (k := 2) (m' := 511) rfl rfl (by kernel_rfl) (by kernel_rfl) ?_
          go_wp2
          refine rx_on (by repeat first | exact Ext.refl _ | assumption | refine Ext.setCell ?_ (by assumption) | refine Ext.drew ?_ | refine Ext.alloc ?_ _ | refine Ext.trans ?_ (by assumption)) ?_
          refine rx_gen (by repeat first | exact Ext.refl _ | assumption | refine Ext.setCell ?_ (by assumption) | refine Ext.drew ?_ | refine Ext.alloc ?_ _ | refine Ext.trans ?_ (by assumption)) ?_
          intro wA11 hbA11 a11_0 a11_1 f11_0 f11_1 s11 l11
          refine rx_op 9 (k := 1) (m' := 1023) rfl rfl (by kernel_rfl) (by kernel_rfl) ?_
          go_wp2
          refine rx_on (by repeat first | exact Ext.refl _ | assumption | refine Ext.setCell ?_ (by assumption) | refine Ext.drew ?_ | refine Ext.alloc ?_ _ | refine Ext.trans ?_ (by assumption)) ?_
          refine rx_run (run := [10]) (k := 0) (m' := 2047) rfl (by kernel_rfl) (by kernel_rfl) (by kernel_rfl) (fm_cons rfl <| List.filterMap_nil) (by repeat first | exact Ext.refl _ | assumption | refine Ext.setCell ?_ (by assumption) | refine Ext.drew ?_ | refine Ext.alloc ?_ _ | refine Ext.trans ?_ (by assumption)) ?_
          repeat (go_big_quiet_step ((fail)))
          refine wpQuiet_nil ?_
          refine rx_end (by kernel_rfl) ?_
          (go_wp2; go_meet; refine ⟨_, A7, A8, c7, c8, rfl, rfl, by go_simp, by go_simp, ?_, ?_, by assumption, ?_, ?_, (by repeat first | exact Ext.refl _ | assumption | refine Ext.setCell ?_ (by assumption) | refine Ext.drew ?_ | refine Ext.alloc ?_ _ | refine Ext.trans ?_ (by assumption))⟩; (first | exact OwP.more (OwP.gb2 o7 (gb_set (gb_set (gb_refl _ (some _)) 0 _) 1 _) (by omega)) (by first | omega | exact (show Ext w4 _ from (by repeat first | exact Ext.refl _ | assumption | refine Ext.setCell ?_ (by assumption) | refine Ext.drew ?_ | refine Ext.alloc ?_ _ | refine Ext.trans ?_ (by assumption))).size) | exact OwP.more (OwP.gb (OwP.ext2 o7 (by assumption)) (gb_set (gb_set (gb_refl _ (some _)) 0 _) 1 _) (fun q hq e => by have h1 := (World.ownsRow.lt o7 q hq).2; have e := Option.some.inj e; omega)) (by first | omega | exact (show Ext w4 _ from (by repeat first | exact Ext.refl _ | assumption | refine Ext.setCell ?_ (by assumption) | refine Ext.drew ?_ | refine Ext.alloc ?_ _ | refine Ext.trans ?_ (by assumption))).size)); (first | exact OwP.more (OwP.gb2 o8 (gb_set (gb_set (gb_refl _ (some _)) 0 _) 1 _) (by omega)) (by first | omega | exact (show Ext w4 _ from (by repeat first | exact Ext.refl _ | assumption | refine Ext.setCell ?_ (by assumption) | refine Ext.drew ?_ | refine Ext.alloc ?_ _ | refine Ext.trans ?_ (by assumption))).size) | exact OwP.more (OwP.gb (OwP.ext2 o8 (by assumption)) (gb_set (gb_set (gb_refl _ (some _)) 0 _) 1 _) (fun q hq e => by have h1 := (World.ownsRow.lt o8 q hq).2; have e := Option.some.inj e; omega)) (by first | omega | exact (show Ext w4 _ from (by repeat first | exact Ext.refl _ | assumption | refine Ext.setCell ?_ (by assumption) | refine Ext.drew ?_ | refine Ext.alloc ?_ _ | refine Ext.trans ?_ (by assumption))).size)); (exact fun q hq => by have h1 := World.ownsRow.lt o7 q hq; omega); (exact fun q hq => by have h1 := World.ownsRow.lt o8 q hq; omega))
        · skip
          go_wp2
          refine rx_on (by repeat first | exact Ext.refl _ | assumption | refine Ext.setCell ?_ (by assumption) | refine Ext.drew ?_ | refine Ext.alloc ?_ _ | refine Ext.trans ?_ (by assumption)) ?_
          refine rx_gen (by repeat first | exact Ext.refl _ | assumption | refine Ext.setCell ?_ (by assumption) | refine Ext.drew ?_ | refine Ext.alloc ?_ _ | refine Ext.trans ?_ (by assumption)) ?_
          intro wA11 hbA11 a11_0 a11_1 f11_0 f11_1 s11 l11
          refine rx_op 4 (k := 5) (m' := 287) rfl rfl (by kernel_rfl) (by kernel_rfl) ?_
          go_wp2_with (first | (go_at_call 11; refine (toNode_c px py _).mono ?_; rintro e wb ⟨rfl, hbb⟩; have a11_0 := hbb.lit a11_0; have a11_1 := hbb.lit a11_1; have f11_0 := hbb.frz s11 f11_0; have f11_1 := hbb.frz s11 f11_1; have s11 := Nat.lt_of_lt_of_le s11 hbb.size) | (go_at_call 12; refine (SplitLead_i _ _ _ _ ns ls k px py _ (Wn.of hl hm (hB3.ext (by repeat first | exact Ext.refl _ | assumption | refine Ext.drew ?_ | refine Ext.alloc ?_ _ | refine Ext.setCell ?_ (by simp) | refine Ext.setCell ?_ (by simp; omega) | refine Ext.trans ?_ (by assumption))) (hB4.ext (by repeat first | exact Ext.refl _ | assumption | refine Ext.drew ?_ | refine Ext.alloc ?_ _ | refine Ext.setCell ?_ (by simp) | refine Ext.setCell ?_ (by simp; omega) | refine Ext.trans ?_ (by assumption))))).mono ?_; rw [HR.out]; rintro e wd ⟨v7, v8, rfl, o7, o8, hbd⟩; obtain ⟨A7, c7, rfl, -, -, -⟩ := OwP.shape o7; obtain ⟨A8, c8, rfl, -, -, -⟩ := OwP.shape o8; have a11_0 := hbd.lit a11_0; have a11_1 := hbd.lit a11_1; have f11_0 := hbd.frz s11 f11_0; have f11_1 := hbd.frz s11 f11_1; have s11 := Nat.lt_of_lt_of_le s11 hbd.size))
          refine rx_on (by repeat first | exact Ext.refl _ | assumption | refine Ext.setCell ?_ (by assumption) | refine Ext.drew ?_ | refine Ext.alloc ?_ _ | refine Ext.trans ?_ (by assumption)) ?_
          refine rx_run (run := [5, 6, 7]) (k := 2) (m' := 511) rfl (by kernel_rfl) (by kernel_rfl) (by kernel_rfl) (fm_cons rfl <| fm_cons rfl <| fm_cons rfl <| List.filterMap_nil) (by repeat first | exact Ext.refl _ | assumption | refine Ext.setCell ?_ (by assumption) | refine Ext.drew ?_ | refine Ext.alloc ?_ _ | refine Ext.trans ?_ (by assumption)) ?_
          repeat (go_big_quiet_step ((fail)))
          refine wpQuiet_nil ?_
          refine rx_op 9 (k := 1) (m' := 1023) rfl rfl (by kernel_rfl) (by kernel_rfl) ?_
          go_wp2
          refine rx_on (by repeat first | exact Ext.refl _ | assumption | refine Ext.setCell ?_ (by assumption) | refine Ext.drew ?_ | refine Ext.alloc ?_ _ | refine Ext.trans ?_ (by assumption)) ?_
          refine rx_run (run := [10]) (k := 0) (m' := 2047) rfl (by kernel_rfl) (by kernel_rfl) (by kernel_rfl) (fm_cons rfl <| List.filterMap_nil) (by repeat first | exact Ext.refl _ | assumption | refine Ext.setCell ?_ (by assumption) | refine Ext.drew ?_ | refine Ext.alloc ?_ _ | refine Ext.trans ?_ (by assumption)) ?_
          repeat (go_big_quiet_step ((fail)))
          refine wpQuiet_nil ?_
          refine rx_end (by kernel_rfl) ?_
          (go_wp2; go_meet; refine ⟨_, A7, A8, c7, c8, rfl, rfl, by go_simp, by go_simp, ?_, ?_, by assumption, ?_, ?_, (by repeat first | exact Ext.refl _ | assumption | refine Ext.setCell ?_ (by assumption) | refine Ext.drew ?_ | refine Ext.alloc ?_ _ | refine Ext.trans ?_ (by assumption))⟩; (first | exact OwP.more (OwP.gb2 o7 (gb_set (gb_set (gb_refl _ (some _)) 0 _) 1 _) (by omega)) (by first | omega | exact (show Ext w4 _ from (by repeat first | exact Ext.refl _ | assumption | refine Ext.setCell ?_ (by assumption) | refine Ext.drew ?_ | refine Ext.alloc ?_ _ | refine Ext.trans ?_ (by assumption))).size) | exact OwP.more (OwP.gb (OwP.ext2 o7 (by assumption)) (gb_set (gb_set (gb_refl _ (some _)) 0 _) 1 _) (fun q hq e => by have h1 := (World.ownsRow.lt o7 q hq).2; have e := Option.some.inj e; omega)) (by first | omega | exact (show Ext w4 _ from (by repeat first | exact Ext.refl _ | assumption | refine Ext.setCell ?_ (by assumption) | refine Ext.drew ?_ | refine Ext.alloc ?_ _ | refine Ext.trans ?_ (by assumption))).size)); (first | exact OwP.more (OwP.gb2 o8 (gb_set (gb_set (gb_refl _ (some _)) 0 _) 1 _) (by omega)) (by first | omega | exact (show Ext w4 _ from (by repeat first | exact Ext.refl _ | assumption | refine Ext.setCell ?_ (by assumption) | refine Ext.drew ?_ | refine Ext.alloc ?_ _ | refine Ext.trans ?_ (by assumption))).size) | exact OwP.more (OwP.gb (OwP.ext2 o8 (by assumption)) (gb_set (gb_set (gb_refl _ (some _)) 0 _) 1 _) (fun q hq e => by have h1 := (World.ownsRow.lt o8 q hq).2; have e := Option.some.inj e; omega)) (by first | omega | exact (show Ext w4 _ from (by repeat first | exact Ext.refl _ | assumption | refine Ext.setCell ?_ (by assumption) | refine Ext.drew ?_ | refine Ext.alloc ?_ _ | refine Ext.trans ?_ (by assumption))).size)); (exact fun q hq => by have h1 := World.ownsRow.lt o7 q hq; omega); (exact fun q hq => by have h1 := World.ownsRow.lt o8 q hq; omega))
      · skip
        go_wp2
        refine rx_on (by repeat first | exact Ext.refl _ | assumption | refine Ext.setCell ?_ (by assumption) | refine Ext.drew ?_ | refine Ext.alloc ?_ _ | refine Ext.trans ?_ (by assumption)) ?_
        refine rx_genD (by repeat first | exact Ext.refl _ | assumption | refine Ext.setCell ?_ (by assumption) | refine Ext.drew ?_ | refine Ext.alloc ?_ _ | refine Ext.trans ?_ (by assumption)) ?_
        intro wA11 hbA11 a11_0 a11_1 f11_0 f11_1 s11 l11
        refine rx_op 3 (k := 6) (m' := 271) rfl rfl (by kernel_rfl) (by kernel_rfl) ?_
        go_wp2_with (first | (go_at_call 11; refine (toNode_c px py _).mono ?_; rintro e wb ⟨rfl, hbb⟩; have a11_0 := hbb.lit a11_0; have a11_1 := hbb.lit a11_1; have f11_0 := hbb.frz s11 f11_0; have f11_1 := hbb.frz s11 f11_1; have s11 := Nat.lt_of_lt_of_le s11 hbb.size) | (go_at_call 12; refine (SplitLead_i _ _ _ _ ns ls k px py _ (Wn.of hl hm (hB3.ext (by repeat first | exact Ext.refl _ | assumption | refine Ext.drew ?_ | refine Ext.alloc ?_ _ | refine Ext.setCell ?_ (by simp) | refine Ext.setCell ?_ (by simp; omega) | refine Ext.trans ?_ (by assumption))) (hB4.ext (by repeat first | exact Ext.refl _ | assumption | refine Ext.drew ?_ | refine Ext.alloc ?_ _ | refine Ext.setCell ?_ (by simp) | refine Ext.setCell ?_ (by simp; omega) | refine Ext.trans ?_ (by assumption))))).mono ?_; rw [HR.out]; rintro e wd ⟨v7, v8, rfl, o7, o8, hbd⟩; obtain ⟨A7, c7, rfl, -, -, -⟩ := OwP.shape o7; obtain ⟨A8, c8, rfl, -, -, -⟩ := OwP.shape o8; have a11_0 := hbd.lit a11_0; have a11_1 := hbd.lit a11_1; have f11_0 := hbd.frz s11 f11_0; have f11_1 := hbd.frz s11 f11_1; have s11 := Nat.lt_of_lt_of_le s11 hbd.size))
        refine rx_on (by repeat first | exact Ext.refl _ | assumption | refine Ext.setCell ?_ (by assumption) | refine Ext.drew ?_ | refine Ext.alloc ?_ _ | refine Ext.trans ?_ (by assumption)) ?_
        refine rx_op 4 (k := 5) (m' := 287) rfl rfl (by kernel_rfl) (by kernel_rfl) ?_
        go_wp2_with (first | (go_at_call 11; refine (toNode_c px py _).mono ?_; rintro e wb ⟨rfl, hbb⟩; have a11_0 := hbb.lit a11_0; have a11_1 := hbb.lit a11_1; have f11_0 := hbb.frz s11 f11_0; have f11_1 := hbb.frz s11 f11_1; have s11 := Nat.lt_of_lt_of_le s11 hbb.size) | (go_at_call 12; refine (SplitLead_i _ _ _ _ ns ls k px py _ (Wn.of hl hm (hB3.ext (by repeat first | exact Ext.refl _ | assumption | refine Ext.drew ?_ | refine Ext.alloc ?_ _ | refine Ext.setCell ?_ (by simp) | refine Ext.setCell ?_ (by simp; omega) | refine Ext.trans ?_ (by assumption))) (hB4.ext (by repeat first | exact Ext.refl _ | assumption | refine Ext.drew ?_ | refine Ext.alloc ?_ _ | refine Ext.setCell ?_ (by simp) | refine Ext.setCell ?_ (by simp; omega) | refine Ext.trans ?_ (by assumption))))).mono ?_; rw [HR.out]; rintro e wd ⟨v7, v8, rfl, o7, o8, hbd⟩; obtain ⟨A7, c7, rfl, -, -, -⟩ := OwP.shape o7; obtain ⟨A8, c8, rfl, -, -, -⟩ := OwP.shape o8; have a11_0 := hbd.lit a11_0; have a11_1 := hbd.lit a11_1; have f11_0 := hbd.frz s11 f11_0; have f11_1 := hbd.frz s11 f11_1; have s11 := Nat.lt_of_lt_of_le s11 hbd.size))
        refine rx_on (by repeat first | exact Ext.refl _ | assumption | refine Ext.setCell ?_ (by assumption) | refine Ext.drew ?_ | refine Ext.alloc ?_ _ | refine Ext.trans ?_ (by assumption)) ?_
        refine rx_run (run := [5, 6, 7]) (k := 2) (m' := 511) rfl (by kernel_rfl) (by kernel_rfl) (by kernel_rfl) (fm_cons rfl <| fm_cons rfl <| fm_cons rfl <| List.filterMap_nil) (by repeat first | exact Ext.refl _ | assumption | refine Ext.setCell ?_ (by assumption) | refine Ext.drew ?_ | refine Ext.alloc ?_ _ | refine Ext.trans ?_ (by assumption)) ?_
        repeat (go_big_quiet_step ((fail)))
        refine wpQuiet_nil ?_
        refine rx_op 9 (k := 1) (m' := 1023) rfl rfl (by kernel_rfl) (by kernel_rfl) ?_
        go_wp2
        refine rx_on (by repeat first | exact Ext.refl _ | assumption | refine Ext.setCell ?_ (by assumption) | refine Ext.drew ?_ | refine Ext.alloc ?_ _ | refine Ext.trans ?_ (by assumption)) ?_
        refine rx_run (run := [10]) (k := 0) (m' := 2047) rfl (by kernel_rfl) (by kernel_rfl) (by kernel_rfl) (fm_cons rfl <| List.filterMap_nil) (by repeat first | exact Ext.refl _ | assumption | refine Ext.setCell ?_ (by assumption) | refine Ext.drew ?_ | refine Ext.alloc ?_ _ | refine Ext.trans ?_ (by assumption)) ?_
        repeat (go_big_quiet_step ((fail)))
        refine wpQuiet_nil ?_
        refine rx_end (by kernel_rfl) ?_
        (go_wp2; go_meet; refine ⟨_, A7, A8, c7, c8, rfl, rfl, by go_simp, by go_simp, ?_, ?_, by assumption, ?_, ?_, (by repeat first | exact Ext.refl _ | assumption | refine Ext.setCell ?_ (by assumption) | refine Ext.drew ?_ | refine Ext.alloc ?_ _ | refine Ext.trans ?_ (by assumption))⟩; (first | exact OwP.more (OwP.gb2 o7 (gb_set (gb_set (gb_refl _ (some _)) 0 _) 1 _) (by omega)) (by first | omega | exact (show Ext w4 _ from (by repeat first | exact Ext.refl _ | assumption | refine Ext.setCell ?_ (by assumption) | refine Ext.drew ?_ | refine Ext.alloc ?_ _ | refine Ext.trans ?_ (by assumption))).size) | exact OwP.more (OwP.gb (OwP.ext2 o7 (by assumption)) (gb_set (gb_set (gb_refl _ (some _)) 0 _) 1 _) (fun q hq e => by have h1 := (World.ownsRow.lt o7 q hq).2; have e := Option.some.inj e; omega)) (by first | omega | exact (show Ext w4 _ from (by repeat first | exact Ext.refl _ | assumption | refine Ext.setCell ?_ (by assumption) | refine Ext.drew ?_ | refine Ext.alloc ?_ _ | refine Ext.trans ?_ (by assumption))).size)); (first | exact OwP.more (OwP.gb2 o8 (gb_set (gb_set (gb_refl _ (some _)) 0 _) 1 _) (by omega)) (by first | omega | exact (show Ext w4 _ from (by repeat first | exact Ext.refl _ | assumption | refine Ext.setCell ?_ (by assumption) | refine Ext.drew ?_ | refine Ext.alloc ?_ _ | refine Ext.trans ?_ (by assumption))).size) | exact OwP.more (OwP.gb (OwP.ext2 o8 (by assumption)) (gb_set (gb_set (gb_refl _ (some _)) 0 _) 1 _) (fun q hq e => by have h1 := (World.ownsRow.lt o8 q hq).2; have e := Option.some.inj e; omega)) (by first | omega | exact (show Ext w4 _ from (by repeat first | exact Ext.refl _ | assumption | refine Ext.setCell ?_ (by assumption) | refine Ext.drew ?_ | refine Ext.alloc ?_ _ | refine Ext.trans ?_ (by assumption))).size)); (exact fun q hq => by have h1 := World.ownsRow.lt o7 q hq; omega); (exact fun q hq => by have h1 := World.ownsRow.lt o8 q hq; omega))
    case rest =>
      obtain ⟨gi, A9, A10, c9, c10, rfl, rfl, u0, u1, o9, o10, hgi, hq9, hq10, hb7⟩ := hcut
      obtain ⟨w5, rfl⟩ : ∃ x : World, x = wc := ⟨_, rfl⟩
      rw [HS4.out] at o9 o10 hgi
      have HQ9 := Lib.hid hq9
      have HQ10 := Lib.hid hq10
      clear hq9 hq10
      have k0 := hb7.lit k0
      have k1 := hb7.lit k1
      have n0 := hb7.lit n0
      have n1 := hb7.lit n1
      have t0 := hb7.lit t0
      have t1 := hb7.lit t1
      have x0 := hb7.lit x0
      have x1 := hb7.lit x1
      have o7 := o7.ext hb7
      have o8 := o8.ext hb7
      have hB3 := hB3.ext hb7
      have hB4 := hB4.ext hb7
      have hx := hx.trans hb7
      clear hb7
      go_wp2_with fail
      refine (eqWindow_c _ _ _ _ _ _ _ _ rn rl _ (by omega) (by omega) (pr_of o9) (pr_of o7) (pr_of o10) (pr_of o8)).mono ?_
      rintro e w6 ⟨rfl, hb⟩
      have k0 := hb.lit k0
      have k1 := hb.lit k1
      have n0 := hb.lit n0
      have n1 := hb.lit n1
      have t0 := hb.lit t0
      have t1 := hb.lit t1
      have x0 := hb.lit x0
      have x1 := hb.lit x1
      have u0 := hb.lit u0
      have u1 := hb.lit u1
      have o7 := o7.ext hb
      have o8 := o8.ext hb
      have o9 := o9.ext hb
      have o10 := o10.ext hb
      have hB3 := hB3.ext hb
      have hB4 := hB4.ext hb
      have hx := hx.trans hb
      clear hb
      go_upto_region 10 with fail
      go_cut [55] (fun sx wx => sx = .bool false ∧ Ext w6 wx)
      case first =>
        have d0 := cell_regrown k0
        have d1 := cell_regrown k1
        have d2 := cell_regrown x0
        have d3 := cell_regrown x1
        refine rx_open [(true, 0, some 51, 1024), (true, 0, some 52, 8), (false, 2, some 53, 4503599627370496), (false, 5, some 54, 11258999068426240), (true, 8, some 55, 18014398509481984)] 0 5 mixd rfl (by kernel_rfl) (by kernel_rfl) (by kernel_rfl) ?_
        refine rx_run (run := [0, 1]) (k := 3) (m' := 3) rfl (by kernel_rfl) (by kernel_rfl) (by kernel_rfl) (fm_cons rfl <| fm_cons rfl <| List.filterMap_nil) (by repeat first | exact Ext.refl _ | assumption | refine Ext.drew ?_ | refine Ext.alloc ?_ _ | refine Ext.setCell ?_ (by simp) | refine Ext.setCell ?_ (by simp; omega) | refine Ext.trans ?_ (by assumption)) ?_
        repeat (go_big_quiet_step ((fail)))
        refine wpQuiet_nil ?_
        refine rx_op 2 (k := 2) (m' := 7) rfl rfl (by kernel_rfl) (by kernel_rfl) ?_
        go_wp2_with (first | (go_at_call 10; refine (toWindow_c A B c d ns ls _ hl hm (h.ext (hx.trans (by repeat first | exact Ext.refl _ | assumption | refine Ext.drew ?_ | refine Ext.alloc ?_ _ | refine Ext.setCell ?_ (by simp) | refine Ext.setCell ?_ (by simp; omega) | refine Ext.trans ?_ (by assumption)))) (g.ext (hx.trans (by repeat first | exact Ext.refl _ | assumption | refine Ext.drew ?_ | refine Ext.alloc ?_ _ | refine Ext.setCell ?_ (by simp) | refine Ext.setCell ?_ (by simp; omega) | refine Ext.trans ?_ (by assumption))))).mono ?_; rintro e w8 ⟨g5, g6, rfl, -, -, hB5, hB6, hb6⟩) | (go_at_call 13; refine (eqWindow_c _ _ _ _ _ _ _ _ ns ls _ (by omega) (by omega) (hB3.ext (by repeat first | exact Ext.refl _ | assumption | refine Ext.drew ?_ | refine Ext.alloc ?_ _ | refine Ext.setCell ?_ (by simp) | refine Ext.setCell ?_ (by simp; omega) | refine Ext.trans ?_ (by assumption))).pr (hB5.ext (by repeat first | exact Ext.refl _ | assumption | refine Ext.drew ?_ | refine Ext.alloc ?_ _ | refine Ext.setCell ?_ (by simp) | refine Ext.setCell ?_ (by simp; omega) | refine Ext.trans ?_ (by assumption))).pr (hB4.ext (by repeat first | exact Ext.refl _ | assumption | refine Ext.drew ?_ | refine Ext.alloc ?_ _ | refine Ext.setCell ?_ (by simp) | refine Ext.setCell ?_ (by simp; omega) | refine Ext.trans ?_ (by assumption))).pr (hB6.ext (by repeat first | exact Ext.refl _ | assumption | refine Ext.drew ?_ | refine Ext.alloc ?_ _ | refine Ext.setCell ?_ (by simp) | refine Ext.setCell ?_ (by simp; omega) | refine Ext.trans ?_ (by assumption))).pr).mono ?_; rintro e w9 ⟨rfl, hb7⟩))
        refine rx_on (by repeat first | exact Ext.refl _ | assumption | refine Ext.drew ?_ | refine Ext.alloc ?_ _ | refine Ext.setCell ?_ (by simp) | refine Ext.setCell ?_ (by simp; omega) | refine Ext.trans ?_ (by assumption)) ?_
        refine rx_op 3 (k := 1) (m' := 15) rfl rfl (by kernel_rfl) (by kernel_rfl) ?_
        go_wp2_with (first | (go_at_call 10; refine (toWindow_c A B c d ns ls _ hl hm (h.ext (hx.trans (by repeat first | exact Ext.refl _ | assumption | refine Ext.drew ?_ | refine Ext.alloc ?_ _ | refine Ext.setCell ?_ (by simp) | refine Ext.setCell ?_ (by simp; omega) | refine Ext.trans ?_ (by assumption)))) (g.ext (hx.trans (by repeat first | exact Ext.refl _ | assumption | refine Ext.drew ?_ | refine Ext.alloc ?_ _ | refine Ext.setCell ?_ (by simp) | refine Ext.setCell ?_ (by simp; omega) | refine Ext.trans ?_ (by assumption))))).mono ?_; rintro e w8 ⟨g5, g6, rfl, -, -, hB5, hB6, hb6⟩) | (go_at_call 13; refine (eqWindow_c _ _ _ _ _ _ _ _ ns ls _ (by omega) (by omega) (hB3.ext (by repeat first | exact Ext.refl _ | assumption | refine Ext.drew ?_ | refine Ext.alloc ?_ _ | refine Ext.setCell ?_ (by simp) | refine Ext.setCell ?_ (by simp; omega) | refine Ext.trans ?_ (by assumption))).pr (hB5.ext (by repeat first | exact Ext.refl _ | assumption | refine Ext.drew ?_ | refine Ext.alloc ?_ _ | refine Ext.setCell ?_ (by simp) | refine Ext.setCell ?_ (by simp; omega) | refine Ext.trans ?_ (by assumption))).pr (hB4.ext (by repeat first | exact Ext.refl _ | assumption | refine Ext.drew ?_ | refine Ext.alloc ?_ _ | refine Ext.setCell ?_ (by simp) | refine Ext.setCell ?_ (by simp; omega) | refine Ext.trans ?_ (by assumption))).pr (hB6.ext (by repeat first | exact Ext.refl _ | assumption | refine Ext.drew ?_ | refine Ext.alloc ?_ _ | refine Ext.setCell ?_ (by simp) | refine Ext.setCell ?_ (by simp; omega) | refine Ext.trans ?_ (by assumption))).pr).mono ?_; rintro e w9 ⟨rfl, hb7⟩))
        refine rx_on (by repeat first | exact Ext.refl _ | assumption | refine Ext.drew ?_ | refine Ext.alloc ?_ _ | refine Ext.setCell ?_ (by simp) | refine Ext.setCell ?_ (by simp; omega) | refine Ext.trans ?_ (by assumption)) ?_
        refine rx_run (run := [4]) (k := 0) (m' := 31) rfl (by kernel_rfl) (by kernel_rfl) (by kernel_rfl) (fm_cons rfl <| List.filterMap_nil) (by repeat first | exact Ext.refl _ | assumption | refine Ext.drew ?_ | refine Ext.alloc ?_ _ | refine Ext.setCell ?_ (by simp) | refine Ext.setCell ?_ (by simp; omega) | refine Ext.trans ?_ (by assumption)) ?_
        repeat (go_big_quiet_step ((fail)))
        refine wpQuiet_nil ?_
        refine rx_end (by kernel_rfl) ?_
        go_wp2
        go_meet
        exact ⟨rfl, (by repeat first | exact Ext.refl _ | assumption | refine Ext.drew ?_ | refine Ext.alloc ?_ _ | refine Ext.setCell ?_ (by simp) | refine Ext.setCell ?_ (by simp; omega) | refine Ext.trans ?_ (by assumption))⟩
      case rest =>
        obtain ⟨rfl, hb⟩ := hcut
        obtain ⟨w7, rfl⟩ : ∃ x : World, x = wc := ⟨_, rfl⟩
        have k0 := hb.lit k0
        have k1 := hb.lit k1
        have n0 := hb.lit n0
        have n1 := hb.lit n1
        have t0 := hb.lit t0
        have t1 := hb.lit t1
        have x0 := hb.lit x0
        have x1 := hb.lit x1
        have u0 := hb.lit u0
        have u1 := hb.lit u1
        have o7 := o7.ext hb
        have o8 := o8.ext hb
        have o9 := o9.ext hb
        have o10 := o10.ext hb
        have hB3 := hB3.ext hb
        have hB4 := hB4.ext hb
        have hx := hx.trans hb
        clear hb
        have oN : OwP w7 g3 36 (.slice (some ⟨g3, 0, none⟩) ns.length ns.length) ns := OwP.new hB3 (Nat.le_refl _) (by unfold maxLen; omega)
        have oL : OwP w7 g4 52 (.slice (some ⟨g4, 0, none⟩) ls.length ls.length) ls := OwP.new hB4 (Nat.le_refl _) (by unfold maxLen; omega)
        clear hB3 hB4
        go_wp2_with fail
        refine (markWindow_c _ _ _ _ _ _ ns ls 1 _ oN oL (by omega) (by omega) (by omega) (by omega) (OwP.dj oN oL (by decide))).mono ?_
        rintro e w8 ⟨rfl, -, -, wm, gr1, gr2⟩
        have k0 := gb_lit gr2 (gb_lit gr1 k0 (fun e => by simp [Value.ownBlock] at e; omega)) (fun e => by simp [Value.ownBlock] at e; omega)
        have k1 := gb_lit gr2 (gb_lit gr1 k1 (fun e => by simp [Value.ownBlock] at e; omega)) (fun e => by simp [Value.ownBlock] at e; omega)
        have n0 := gb_lit gr2 (gb_lit gr1 n0 (fun e => by simp [Value.ownBlock] at e; omega)) (fun e => by simp [Value.ownBlock] at e; omega)
        have n1 := gb_lit gr2 (gb_lit gr1 n1 (fun e => by simp [Value.ownBlock] at e; omega)) (fun e => by simp [Value.ownBlock] at e; omega)
        have t0 := gb_lit gr2 (gb_lit gr1 t0 (fun e => by simp [Value.ownBlock] at e; omega)) (fun e => by simp [Value.ownBlock] at e; omega)
        have t1 := gb_lit gr2 (gb_lit gr1 t1 (fun e => by simp [Value.ownBlock] at e; omega)) (fun e => by simp [Value.ownBlock] at e; omega)
        have u0 := gb_lit gr2 (gb_lit gr1 u0 (fun e => by simp [Value.ownBlock] at e; omega)) (fun e => by simp [Value.ownBlock] at e; omega)
        have u1 := gb_lit gr2 (gb_lit gr1 u1 (fun e => by simp [Value.ownBlock] at e; omega)) (fun e => by simp [Value.ownBlock] at e; omega)
        have o7 := (OwP.gb o7 gr1 (fun q hq e => by have := HO7.out q hq; simp [Value.ownBlock] at e; omega)).gb gr2 (fun q hq e => by have := HO7.out q hq; simp [Value.ownBlock] at e; omega)
        have o8 := (OwP.gb o8 gr1 (fun q hq e => by have := HO8.out q hq; simp [Value.ownBlock] at e; omega)).gb gr2 (fun q hq e => by have := HO8.out q hq; simp [Value.ownBlock] at e; omega)
        have o9 := (OwP.gb o9 gr1 (fun q hq e => by have := (OwP.blk o9 q hq).1; simp [Value.ownBlock] at e; omega)).gb gr2 (fun q hq e => by have := (OwP.blk o9 q hq).1; simp [Value.ownBlock] at e; omega)
        have o10 := (OwP.gb o10 gr1 (fun q hq e => by have := (OwP.blk o10 q hq).1; simp [Value.ownBlock] at e; omega)).gb gr2 (fun q hq e => by have := (OwP.blk o10 q hq).1; simp [Value.ownBlock] at e; omega)
        have hx := gb_ext2 (gb_ext2 hx gr1 (fun q e => by simp [Value.ownBlock] at e; omega)) gr2 (fun q e => by simp [Value.ownBlock] at e; omega)
        clear gr1 gr2 oN oL x0 x1
        go_wp2_with fail
        refine (eqWindow_c _ _ _ _ _ _ _ _ rn rl _ (by omega) (by omega) (pr_of o9) (pr_of o7) (pr_of o10) (pr_of o8)).mono ?_
        rintro e w9 ⟨rfl, hb⟩
        have k0 := hb.lit k0
        have k1 := hb.lit k1
        have n0 := hb.lit n0
        have n1 := hb.lit n1
        have t0 := hb.lit t0
        have t1 := hb.lit t1
        have u0 := hb.lit u0
        have u1 := hb.lit u1
        have o7 := o7.ext hb
        have o8 := o8.ext hb
        have o9 := o9.ext hb
        have o10 := o10.ext hb
        have hx := hx.trans hb
        clear hb
        go_wp2_with fail
        refine (markWindow_c _ _ _ _ _ _ rn rl 1 _ o9 o10 (by omega) (by omega) (by omega) (by omega) (OwP.dj o9 o10 (by decide))).mono ?_
        rintro e w10 ⟨rfl, p9, p10, wm, gr1, gr2⟩
        have hr1 : ∀ q, (Value.slice A9 rn.length c9).ownBlock = some q → gx + 1 ≤ q := fun q hq => (OwP.blk o9 q hq).1
        have hr2 : ∀ q, (Value.slice A10 rl.length c10).ownBlock = some q → gx + 1 ≤ q := fun q hq => (OwP.blk o10 q hq).1
        have k0 := gb_lit gr2 (gb_lit gr1 k0 (fun e => by have := hr1 _ e; omega)) (fun e => by have := hr2 _ e; omega)
        have k1 := gb_lit gr2 (gb_lit gr1 k1 (fun e => by have := hr1 _ e; omega)) (fun e => by have := hr2 _ e; omega)
        have n0 := gb_lit gr2 (gb_lit gr1 n0 (fun e => by have := hr1 _ e; omega)) (fun e => by have := hr2 _ e; omega)
        have n1 := gb_lit gr2 (gb_lit gr1 n1 (fun e => by have := hr1 _ e; omega)) (fun e => by have := hr2 _ e; omega)
        have t0 := gb_lit gr2 (gb_lit gr1 t0 (fun e => by have := hr1 _ e; omega)) (fun e => by have := hr2 _ e; omega)
        have t1 := gb_lit gr2 (gb_lit gr1 t1 (fun e => by have := hr1 _ e; omega)) (fun e => by have := hr2 _ e; omega)
        have u0 := gb_lit gr2 (gb_lit gr1 u0 (fun e => HQ9.out _ e rfl)) (fun e => HQ10.out _ e rfl)
        have u1 := gb_lit gr2 (gb_lit gr1 u1 (fun e => HQ9.out _ e rfl)) (fun e => HQ10.out _ e rfl)
        have o7 := (OwP.gb o7 gr1 (fun q hq e => by have := HO7.out q hq; have := hr1 q e; omega)).gb gr2 (fun q hq e => by have := HO7.out q hq; have := hr2 q e; omega)
        have o8 := (OwP.gb o8 gr1 (fun q hq e => by have := HO8.out q hq; have := hr1 q e; omega)).gb gr2 (fun q hq e => by have := HO8.out q hq; have := hr2 q e; omega)
        have hx := gb_ext2 (gb_ext2 hx gr1 (fun q e => by have := hr1 q e; omega)) gr2 (fun q e => by have := hr2 q e; omega)
        clear gr1 gr2 o9 o10 hr1 hr2
        go_wp2_with fail
        refine (heldWindow_c _ _ _ _ _ _ rn.length rl.length 1 _ p9 p10 (by omega) (by omega) (by omega) (by omega)).mono ?_
        rintro e w11 ⟨rfl, hb⟩
        have hbn : ((1 : Int) + 2 * (rn.length : Int) + 2 * (rl.length : Int) != 1 + 2 * (rn.length : Int) + 2 * (rl.length : Int)) = false := by simp
        have k0 := hb.lit k0
        have k1 := hb.lit k1
        have n0 := hb.lit n0
        have n1 := hb.lit n1
        have t0 := hb.lit t0
        have t1 := hb.lit t1
        have u0 := hb.lit u0
        have u1 := hb.lit u1
        have o7 := o7.ext hb
        have o8 := o8.ext hb
        have p9 := p9.ext hb
        have p10 := p10.ext hb
        have hx := hx.trans hb
        clear hb
        go_upto_region 24 with fail
        go_cut [16, 17] (fun s8 s9 wx => ∃ (gb : Nat) (A7 A8 : Option Addr) (c7 c8 : Nat), s8 = .pointer (some ⟨gb, 0, none⟩) ∧ s9 = .bool bb ∧ wx.cell? ⟨gb, 0, none⟩ = some (.slice A7 rn.length c7) ∧ wx.cell? ⟨gb, 1, none⟩ = some (.slice A8 rl.length c8) ∧ OwP wx w11.heap.size 36 (.slice A7 rn.length c7) rn ∧ OwP wx w11.heap.size 52 (.slice A8 rl.length c8) rl ∧ w11.heap.size ≤ gb ∧ (∀ q, (Value.slice A7 rn.length c7).ownBlock = some q → q ≠ gb) ∧ (∀ q, (Value.slice A8 rl.length c8).ownBlock = some q → q ≠ gb) ∧ Ext w11 wx)
        case first =>
          have d0 := cell_regrown k0
          have d1 := cell_regrown k1
          have d2 := cell_regrown n0
          have d3 := cell_regrown n1
          clear o7 o8 p9 p10 t0 t1 u0 u1 HO7 HO8 HQ9 HQ10 hbn hgb hg3 hg34 hg4 hgi HS4 hs2 k0 k1 n0 n1
          refine rx_open [(true, 0, some 84, 8), (false, 1, some 85, 19342813113834066795298816), (true, 0, some 86, 2), (true, 0, some 87, 32), (false, 10, some 88, 154742504910672534362390528), (false, 22, some 89, 425541888504349469496573952), (true, 32, some 83, 618970019642690137449562112), (true, 64, some 90, 9671406556917033397649408), (true, 64, some 91, 9671406556917033397649408), (false, 0, some 16, 0), (false, 767, none, 1237940039285380274899189760), (true, 2047, some 17, 2475880078570760549798248448)] 0 12 mixd rfl (by kernel_rfl) (by kernel_rfl) (by kernel_rfl) ?_
          refine rx_run (run := [0, 2, 3]) (k := 9) (m' := 13) rfl (by kernel_rfl) (by kernel_rfl) (by kernel_rfl) (fm_cons rfl <| fm_cons rfl <| fm_cons rfl <| List.filterMap_nil) (by repeat first | exact Ext.refl _ | assumption | refine Ext.setCell ?_ (by assumption) | refine Ext.drew ?_ | refine Ext.alloc ?_ _ | refine Ext.trans ?_ (by assumption)) ?_
          repeat (go_big_quiet_step ((fail)))
          refine wpQuiet_nil ?_
          refine rx_two 1 9 (k := 8) (mi := 15) (mj := 525) rfl rfl rfl (by kernel_rfl) (by kernel_rfl) (by kernel_rfl) ?_ ?_
          · skip
            go_wp2_with (first | (go_at_call 10; refine (toWindow_c A B c d ns ls _ hl hm (h.ext (hx.trans (by repeat first | exact Ext.refl _ | assumption | refine Ext.drew ?_ | refine Ext.alloc ?_ _ | refine Ext.setCell ?_ (by simp) | refine Ext.setCell ?_ (by simp; omega) | refine Ext.trans ?_ (by assumption)))) (g.ext (hx.trans (by repeat first | exact Ext.refl _ | assumption | refine Ext.drew ?_ | refine Ext.alloc ?_ _ | refine Ext.setCell ?_ (by simp) | refine Ext.setCell ?_ (by simp; omega) | refine Ext.trans ?_ (by assumption))))).mono ?_; rintro e wa ⟨g1, g2, rfl, -, -, hB1, hB2, hba⟩) | (go_at_call 11; refine (toNode_c px py _).mono ?_; rintro e wb ⟨rfl, hbb⟩) | (go_at_call 12; refine (SplitLead_i _ _ _ _ ns ls k px py _ (Wn.of hl hm (hB1.ext (by repeat first | exact Ext.refl _ | assumption | refine Ext.drew ?_ | refine Ext.alloc ?_ _ | refine Ext.setCell ?_ (by simp) | refine Ext.setCell ?_ (by simp; omega) | refine Ext.trans ?_ (by assumption))) (hB2.ext (by repeat first | exact Ext.refl _ | assumption | refine Ext.drew ?_ | refine Ext.alloc ?_ _ | refine Ext.setCell ?_ (by simp) | refine Ext.setCell ?_ (by simp; omega) | refine Ext.trans ?_ (by assumption))))).mono ?_; rw [HR.out]; rintro e wd ⟨v7, v8, rfl, o7, o8, hbd⟩; obtain ⟨A7, c7, rfl, -, -, -⟩ := OwP.shape o7; obtain ⟨A8, c8, rfl, -, -, -⟩ := OwP.shape o8))
            refine rx_on (by repeat first | exact Ext.refl _ | assumption | refine Ext.setCell ?_ (by assumption) | refine Ext.drew ?_ | refine Ext.alloc ?_ _ | refine Ext.trans ?_ (by assumption)) ?_
            refine rx_two 4 9 (k := 7) (mi := 31) (mj := 527) rfl rfl rfl (by kernel_rfl) (by kernel_rfl) (by kernel_rfl) ?_ ?_
            · skip
              go_wp2_with (first | (go_at_call 10; refine (toWindow_c A B c d ns ls _ hl hm (h.ext (hx.trans (by repeat first | exact Ext.refl _ | assumption | refine Ext.drew ?_ | refine Ext.alloc ?_ _ | refine Ext.setCell ?_ (by simp) | refine Ext.setCell ?_ (by simp; omega) | refine Ext.trans ?_ (by assumption)))) (g.ext (hx.trans (by repeat first | exact Ext.refl _ | assumption | refine Ext.drew ?_ | refine Ext.alloc ?_ _ | refine Ext.setCell ?_ (by simp) | refine Ext.setCell ?_ (by simp; omega) | refine Ext.trans ?_ (by assumption))))).mono ?_; rintro e wa ⟨g1, g2, rfl, -, -, hB1, hB2, hba⟩) | (go_at_call 11; refine (toNode_c px py _).mono ?_; rintro e wb ⟨rfl, hbb⟩) | (go_at_call 12; refine (SplitLead_i _ _ _ _ ns ls k px py _ (Wn.of hl hm (hB1.ext (by repeat first | exact Ext.refl _ | assumption | refine Ext.drew ?_ | refine Ext.alloc ?_ _ | refine Ext.setCell ?_ (by simp) | refine Ext.setCell ?_ (by simp; omega) | refine Ext.trans ?_ (by assumption))) (hB2.ext (by repeat first | exact Ext.refl _ | assumption | refine Ext.drew ?_ | refine Ext.alloc ?_ _ | refine Ext.setCell ?_ (by simp) | refine Ext.setCell ?_ (by simp; omega) | refine Ext.trans ?_ (by assumption))))).mono ?_; rw [HR.out]; rintro e wd ⟨v7, v8, rfl, o7, o8, hbd⟩; obtain ⟨A7, c7, rfl, -, -, -⟩ := OwP.shape o7; obtain ⟨A8, c8, rfl, -, -, -⟩ := OwP.shape o8))
              refine rx_on (by repeat first | exact Ext.refl _ | assumption | refine Ext.setCell ?_ (by assumption) | refine Ext.drew ?_ | refine Ext.alloc ?_ _ | refine Ext.trans ?_ (by assumption)) ?_
              refine rx_two 5 9 (k := 6) (mi := 63) (mj := 543) rfl rfl rfl (by kernel_rfl) (by kernel_rfl) (by kernel_rfl) ?_ ?_
              · skip
                go_wp2_with (first | (go_at_call 10; refine (toWindow_c A B c d ns ls _ hl hm (h.ext (hx.trans (by repeat first | exact Ext.refl _ | assumption | refine Ext.drew ?_ | refine Ext.alloc ?_ _ | refine Ext.setCell ?_ (by simp) | refine Ext.setCell ?_ (by simp; omega) | refine Ext.trans ?_ (by assumption)))) (g.ext (hx.trans (by repeat first | exact Ext.refl _ | assumption | refine Ext.drew ?_ | refine Ext.alloc ?_ _ | refine Ext.setCell ?_ (by simp) | refine Ext.setCell ?_ (by simp; omega) | refine Ext.trans ?_ (by assumption))))).mono ?_; rintro e wa ⟨g1, g2, rfl, -, -, hB1, hB2, hba⟩) | (go_at_call 11; refine (toNode_c px py _).mono ?_; rintro e wb ⟨rfl, hbb⟩) | (go_at_call 12; refine (SplitLead_i _ _ _ _ ns ls k px py _ (Wn.of hl hm (hB1.ext (by repeat first | exact Ext.refl _ | assumption | refine Ext.drew ?_ | refine Ext.alloc ?_ _ | refine Ext.setCell ?_ (by simp) | refine Ext.setCell ?_ (by simp; omega) | refine Ext.trans ?_ (by assumption))) (hB2.ext (by repeat first | exact Ext.refl _ | assumption | refine Ext.drew ?_ | refine Ext.alloc ?_ _ | refine Ext.setCell ?_ (by simp) | refine Ext.setCell ?_ (by simp; omega) | refine Ext.trans ?_ (by assumption))))).mono ?_; rw [HR.out]; rintro e wd ⟨v7, v8, rfl, o7, o8, hbd⟩; obtain ⟨A7, c7, rfl, -, -, -⟩ := OwP.shape o7; obtain ⟨A8, c8, rfl, -, -, -⟩ := OwP.shape o8))
                refine rx_on (by repeat first | exact Ext.refl _ | assumption | refine Ext.setCell ?_ (by assumption) | refine Ext.drew ?_ | refine Ext.alloc ?_ _ | refine Ext.trans ?_ (by assumption)) ?_
                refine rx_run (run := [6, 7, 8]) (k := 3) (m' := 511) rfl (by kernel_rfl) (by kernel_rfl) (by kernel_rfl) (fm_cons rfl <| fm_cons rfl <| fm_cons rfl <| List.filterMap_nil) (by repeat first | exact Ext.refl _ | assumption | refine Ext.setCell ?_ (by assumption) | refine Ext.drew ?_ | refine Ext.alloc ?_ _ | refine Ext.trans ?_ (by assumption)) ?_
                repeat (go_big_quiet_step ((fail)))
                refine wpQuiet_nil ?_
                refine rx_op 9 (k := 2) (m' := 1023) rfl rfl (by kernel_rfl) (by kernel_rfl) ?_
                go_wp2
                refine rx_on (by repeat first | exact Ext.refl _ | assumption | refine Ext.setCell ?_ (by assumption) | refine Ext.drew ?_ | refine Ext.alloc ?_ _ | refine Ext.trans ?_ (by assumption)) ?_
                refine rx_gen (by repeat first | exact Ext.refl _ | assumption | refine Ext.setCell ?_ (by assumption) | refine Ext.drew ?_ | refine Ext.alloc ?_ _ | refine Ext.trans ?_ (by assumption)) ?_
                intro wA16 hbA16 a16_0 a16_1 f16_0 f16_1 s16 l16
                refine rx_op 10 (k := 1) (m' := 2047) rfl rfl (by kernel_rfl) (by kernel_rfl) ?_
                go_wp2
                refine rx_on (by repeat first | exact Ext.refl _ | assumption | refine Ext.setCell ?_ (by assumption) | refine Ext.drew ?_ | refine Ext.alloc ?_ _ | refine Ext.trans ?_ (by assumption)) ?_
                refine rx_run (run := [11]) (k := 0) (m' := 4095) rfl (by kernel_rfl) (by kernel_rfl) (by kernel_rfl) (fm_cons rfl <| List.filterMap_nil) (by repeat first | exact Ext.refl _ | assumption | refine Ext.setCell ?_ (by assumption) | refine Ext.drew ?_ | refine Ext.alloc ?_ _ | refine Ext.trans ?_ (by assumption)) ?_
                repeat (go_big_quiet_step ((fail)))
                refine wpQuiet_nil ?_
                refine rx_end (by kernel_rfl) ?_
                (go_wp2; go_meet; refine ⟨_, A7, A8, c7, c8, rfl, rfl, by go_simp, by go_simp, ?_, ?_, by assumption, ?_, ?_, (by repeat first | exact Ext.refl _ | assumption | refine Ext.setCell ?_ (by assumption) | refine Ext.drew ?_ | refine Ext.alloc ?_ _ | refine Ext.trans ?_ (by assumption))⟩; (first | exact OwP.more (OwP.gb2 o7 (gb_set (gb_set (gb_refl _ (some _)) 0 _) 1 _) (by omega)) (by first | omega | exact (show Ext w11 _ from (by repeat first | exact Ext.refl _ | assumption | refine Ext.setCell ?_ (by assumption) | refine Ext.drew ?_ | refine Ext.alloc ?_ _ | refine Ext.trans ?_ (by assumption))).size) | exact OwP.more (OwP.gb (OwP.ext2 o7 (by assumption)) (gb_set (gb_set (gb_refl _ (some _)) 0 _) 1 _) (fun q hq e => by have h1 := (World.ownsRow.lt o7 q hq).2; have e := Option.some.inj e; omega)) (by first | omega | exact (show Ext w11 _ from (by repeat first | exact Ext.refl _ | assumption | refine Ext.setCell ?_ (by assumption) | refine Ext.drew ?_ | refine Ext.alloc ?_ _ | refine Ext.trans ?_ (by assumption))).size)); (first | exact OwP.more (OwP.gb2 o8 (gb_set (gb_set (gb_refl _ (some _)) 0 _) 1 _) (by omega)) (by first | omega | exact (show Ext w11 _ from (by repeat first | exact Ext.refl _ | assumption | refine Ext.setCell ?_ (by assumption) | refine Ext.drew ?_ | refine Ext.alloc ?_ _ | refine Ext.trans ?_ (by assumption))).size) | exact OwP.more (OwP.gb (OwP.ext2 o8 (by assumption)) (gb_set (gb_set (gb_refl _ (some _)) 0 _) 1 _) (fun q hq e => by have h1 := (World.ownsRow.lt o8 q hq).2; have e := Option.some.inj e; omega)) (by first | omega | exact (show Ext w11 _ from (by repeat first | exact Ext.refl _ | assumption | refine Ext.setCell ?_ (by assumption) | refine Ext.drew ?_ | refine Ext.alloc ?_ _ | refine Ext.trans ?_ (by assumption))).size)); (exact fun q hq => by have h1 := World.ownsRow.lt o7 q hq; omega); (exact fun q hq => by have h1 := World.ownsRow.lt o8 q hq; omega))
              · skip
                go_wp2
                refine rx_on (by repeat first | exact Ext.refl _ | assumption | refine Ext.setCell ?_ (by assumption) | refine Ext.drew ?_ | refine Ext.alloc ?_ _ | refine Ext.trans ?_ (by assumption)) ?_
                refine rx_gen (by repeat first | exact Ext.refl _ | assumption | refine Ext.setCell ?_ (by assumption) | refine Ext.drew ?_ | refine Ext.alloc ?_ _ | refine Ext.trans ?_ (by assumption)) ?_
                intro wA16 hbA16 a16_0 a16_1 f16_0 f16_1 s16 l16
                refine rx_op 5 (k := 5) (m' := 575) rfl rfl (by kernel_rfl) (by kernel_rfl) ?_
                go_wp2_with (first | (go_at_call 10; refine (toWindow_c A B c d ns ls _ hl hm (h.ext (hx.trans (by repeat first | exact Ext.refl _ | assumption | refine Ext.drew ?_ | refine Ext.alloc ?_ _ | refine Ext.setCell ?_ (by simp) | refine Ext.setCell ?_ (by simp; omega) | refine Ext.trans ?_ (by assumption)))) (g.ext (hx.trans (by repeat first | exact Ext.refl _ | assumption | refine Ext.drew ?_ | refine Ext.alloc ?_ _ | refine Ext.setCell ?_ (by simp) | refine Ext.setCell ?_ (by simp; omega) | refine Ext.trans ?_ (by assumption))))).mono ?_; rintro e wa ⟨g1, g2, rfl, -, -, hB1, hB2, hba⟩; have a16_0 := hba.lit a16_0; have a16_1 := hba.lit a16_1; have f16_0 := hba.frz s16 f16_0; have f16_1 := hba.frz s16 f16_1; have s16 := Nat.lt_of_lt_of_le s16 hba.size) | (go_at_call 11; refine (toNode_c px py _).mono ?_; rintro e wb ⟨rfl, hbb⟩; have a16_0 := hbb.lit a16_0; have a16_1 := hbb.lit a16_1; have f16_0 := hbb.frz s16 f16_0; have f16_1 := hbb.frz s16 f16_1; have s16 := Nat.lt_of_lt_of_le s16 hbb.size) | (go_at_call 12; refine (SplitLead_i _ _ _ _ ns ls k px py _ (Wn.of hl hm (hB1.ext (by repeat first | exact Ext.refl _ | assumption | refine Ext.drew ?_ | refine Ext.alloc ?_ _ | refine Ext.setCell ?_ (by simp) | refine Ext.setCell ?_ (by simp; omega) | refine Ext.trans ?_ (by assumption))) (hB2.ext (by repeat first | exact Ext.refl _ | assumption | refine Ext.drew ?_ | refine Ext.alloc ?_ _ | refine Ext.setCell ?_ (by simp) | refine Ext.setCell ?_ (by simp; omega) | refine Ext.trans ?_ (by assumption))))).mono ?_; rw [HR.out]; rintro e wd ⟨v7, v8, rfl, o7, o8, hbd⟩; obtain ⟨A7, c7, rfl, -, -, -⟩ := OwP.shape o7; obtain ⟨A8, c8, rfl, -, -, -⟩ := OwP.shape o8; have a16_0 := hbd.lit a16_0; have a16_1 := hbd.lit a16_1; have f16_0 := hbd.frz s16 f16_0; have f16_1 := hbd.frz s16 f16_1; have s16 := Nat.lt_of_lt_of_le s16 hbd.size))
                refine rx_on (by repeat first | exact Ext.refl _ | assumption | refine Ext.setCell ?_ (by assumption) | refine Ext.drew ?_ | refine Ext.alloc ?_ _ | refine Ext.trans ?_ (by assumption)) ?_
                refine rx_run (run := [6, 7, 8]) (k := 2) (m' := 1023) rfl (by kernel_rfl) (by kernel_rfl) (by kernel_rfl) (fm_cons rfl <| fm_cons rfl <| fm_cons rfl <| List.filterMap_nil) (by repeat first | exact Ext.refl _ | assumption | refine Ext.setCell ?_ (by assumption) | refine Ext.drew ?_ | refine Ext.alloc ?_ _ | refine Ext.trans ?_ (by assumption)) ?_
                repeat (go_big_quiet_step ((fail)))
                refine wpQuiet_nil ?_
                refine rx_op 10 (k := 1) (m' := 2047) rfl rfl (by kernel_rfl) (by kernel_rfl) ?_
                go_wp2
                refine rx_on (by repeat first | exact Ext.refl _ | assumption | refine Ext.setCell ?_ (by assumption) | refine Ext.drew ?_ | refine Ext.alloc ?_ _ | refine Ext.trans ?_ (by assumption)) ?_
                refine rx_run (run := [11]) (k := 0) (m' := 4095) rfl (by kernel_rfl) (by kernel_rfl) (by kernel_rfl) (fm_cons rfl <| List.filterMap_nil) (by repeat first | exact Ext.refl _ | assumption | refine Ext.setCell ?_ (by assumption) | refine Ext.drew ?_ | refine Ext.alloc ?_ _ | refine Ext.trans ?_ (by assumption)) ?_
                repeat (go_big_quiet_step ((fail)))
                refine wpQuiet_nil ?_
                refine rx_end (by kernel_rfl) ?_
                (go_wp2; go_meet; refine ⟨_, A7, A8, c7, c8, rfl, rfl, by go_simp, by go_simp, ?_, ?_, by assumption, ?_, ?_, (by repeat first | exact Ext.refl _ | assumption | refine Ext.setCell ?_ (by assumption) | refine Ext.drew ?_ | refine Ext.alloc ?_ _ | refine Ext.trans ?_ (by assumption))⟩; (first | exact OwP.more (OwP.gb2 o7 (gb_set (gb_set (gb_refl _ (some _)) 0 _) 1 _) (by omega)) (by first | omega | exact (show Ext w11 _ from (by repeat first | exact Ext.refl _ | assumption | refine Ext.setCell ?_ (by assumption) | refine Ext.drew ?_ | refine Ext.alloc ?_ _ | refine Ext.trans ?_ (by assumption))).size) | exact OwP.more (OwP.gb (OwP.ext2 o7 (by assumption)) (gb_set (gb_set (gb_refl _ (some _)) 0 _) 1 _) (fun q hq e => by have h1 := (World.ownsRow.lt o7 q hq).2; have e := Option.some.inj e; omega)) (by first | omega | exact (show Ext w11 _ from (by repeat first | exact Ext.refl _ | assumption | refine Ext.setCell ?_ (by assumption) | refine Ext.drew ?_ | refine Ext.alloc ?_ _ | refine Ext.trans ?_ (by assumption))).size)); (first | exact OwP.more (OwP.gb2 o8 (gb_set (gb_set (gb_refl _ (some _)) 0 _) 1 _) (by omega)) (by first | omega | exact (show Ext w11 _ from (by repeat first | exact Ext.refl _ | assumption | refine Ext.setCell ?_ (by assumption) | refine Ext.drew ?_ | refine Ext.alloc ?_ _ | refine Ext.trans ?_ (by assumption))).size) | exact OwP.more (OwP.gb (OwP.ext2 o8 (by assumption)) (gb_set (gb_set (gb_refl _ (some _)) 0 _) 1 _) (fun q hq e => by have h1 := (World.ownsRow.lt o8 q hq).2; have e := Option.some.inj e; omega)) (by first | omega | exact (show Ext w11 _ from (by repeat first | exact Ext.refl _ | assumption | refine Ext.setCell ?_ (by assumption) | refine Ext.drew ?_ | refine Ext.alloc ?_ _ | refine Ext.trans ?_ (by assumption))).size)); (exact fun q hq => by have h1 := World.ownsRow.lt o7 q hq; omega); (exact fun q hq => by have h1 := World.ownsRow.lt o8 q hq; omega))
            · skip
              go_wp2
              refine rx_on (by repeat first | exact Ext.refl _ | assumption | refine Ext.setCell ?_ (by assumption) | refine Ext.drew ?_ | refine Ext.alloc ?_ _ | refine Ext.trans ?_ (by assumption)) ?_
              refine rx_gen (by repeat first | exact Ext.refl _ | assumption | refine Ext.setCell ?_ (by assumption) | refine Ext.drew ?_ | refine Ext.alloc ?_ _ | refine Ext.trans ?_ (by assumption)) ?_
              intro wA16 hbA16 a16_0 a16_1 f16_0 f16_1 s16 l16
              refine rx_op 4 (k := 6) (m' := 543) rfl rfl (by kernel_rfl) (by kernel_rfl) ?_
              go_wp2_with (first | (go_at_call 10; refine (toWindow_c A B c d ns ls _ hl hm (h.ext (hx.trans (by repeat first | exact Ext.refl _ | assumption | refine Ext.drew ?_ | refine Ext.alloc ?_ _ | refine Ext.setCell ?_ (by simp) | refine Ext.setCell ?_ (by simp; omega) | refine Ext.trans ?_ (by assumption)))) (g.ext (hx.trans (by repeat first | exact Ext.refl _ | assumption | refine Ext.drew ?_ | refine Ext.alloc ?_ _ | refine Ext.setCell ?_ (by simp) | refine Ext.setCell ?_ (by simp; omega) | refine Ext.trans ?_ (by assumption))))).mono ?_; rintro e wa ⟨g1, g2, rfl, -, -, hB1, hB2, hba⟩; have a16_0 := hba.lit a16_0; have a16_1 := hba.lit a16_1; have f16_0 := hba.frz s16 f16_0; have f16_1 := hba.frz s16 f16_1; have s16 := Nat.lt_of_lt_of_le s16 hba.size) | (go_at_call 11; refine (toNode_c px py _).mono ?_; rintro e wb ⟨rfl, hbb⟩; have a16_0 := hbb.lit a16_0; have a16_1 := hbb.lit a16_1; have f16_0 := hbb.frz s16 f16_0; have f16_1 := hbb.frz s16 f16_1; have s16 := Nat.lt_of_lt_of_le s16 hbb.size) | (go_at_call 12; refine (SplitLead_i _ _ _ _ ns ls k px py _ (Wn.of hl hm (hB1.ext (by repeat first | exact Ext.refl _ | assumption | refine Ext.drew ?_ | refine Ext.alloc ?_ _ | refine Ext.setCell ?_ (by simp) | refine Ext.setCell ?_ (by simp; omega) | refine Ext.trans ?_ (by assumption))) (hB2.ext (by repeat first | exact Ext.refl _ | assumption | refine Ext.drew ?_ | refine Ext.alloc ?_ _ | refine Ext.setCell ?_ (by simp) | refine Ext.setCell ?_ (by simp; omega) | refine Ext.trans ?_ (by assumption))))).mono ?_; rw [HR.out]; rintro e wd ⟨v7, v8, rfl, o7, o8, hbd⟩; obtain ⟨A7, c7, rfl, -, -, -⟩ := OwP.shape o7; obtain ⟨A8, c8, rfl, -, -, -⟩ := OwP.shape o8; have a16_0 := hbd.lit a16_0; have a16_1 := hbd.lit a16_1; have f16_0 := hbd.frz s16 f16_0; have f16_1 := hbd.frz s16 f16_1; have s16 := Nat.lt_of_lt_of_le s16 hbd.size))
              refine rx_on (by repeat first | exact Ext.refl _ | assumption | refine Ext.setCell ?_ (by assumption) | refine Ext.drew ?_ | refine Ext.alloc ?_ _ | refine Ext.trans ?_ (by assumption)) ?_
              refine rx_op 5 (k := 5) (m' := 575) rfl rfl (by kernel_rfl) (by kernel_rfl) ?_
              go_wp2_with (first | (go_at_call 10; refine (toWindow_c A B c d ns ls _ hl hm (h.ext (hx.trans (by repeat first | exact Ext.refl _ | assumption | refine Ext.drew ?_ | refine Ext.alloc ?_ _ | refine Ext.setCell ?_ (by simp) | refine Ext.setCell ?_ (by simp; omega) | refine Ext.trans ?_ (by assumption)))) (g.ext (hx.trans (by repeat first | exact Ext.refl _ | assumption | refine Ext.drew ?_ | refine Ext.alloc ?_ _ | refine Ext.setCell ?_ (by simp) | refine Ext.setCell ?_ (by simp; omega) | refine Ext.trans ?_ (by assumption))))).mono ?_; rintro e wa ⟨g1, g2, rfl, -, -, hB1, hB2, hba⟩; have a16_0 := hba.lit a16_0; have a16_1 := hba.lit a16_1; have f16_0 := hba.frz s16 f16_0; have f16_1 := hba.frz s16 f16_1; have s16 := Nat.lt_of_lt_of_le s16 hba.size) | (go_at_call 11; refine (toNode_c px py _).mono ?_; rintro e wb ⟨rfl, hbb⟩; have a16_0 := hbb.lit a16_0; have a16_1 := hbb.lit a16_1; have f16_0 := hbb.frz s16 f16_0; have f16_1 := hbb.frz s16 f16_1; have s16 := Nat.lt_of_lt_of_le s16 hbb.size) | (go_at_call 12; refine (SplitLead_i _ _ _ _ ns ls k px py _ (Wn.of hl hm (hB1.ext (by repeat first | exact Ext.refl _ | assumption | refine Ext.drew ?_ | refine Ext.alloc ?_ _ | refine Ext.setCell ?_ (by simp) | refine Ext.setCell ?_ (by simp; omega) | refine Ext.trans ?_ (by assumption))) (hB2.ext (by repeat first | exact Ext.refl _ | assumption | refine Ext.drew ?_ | refine Ext.alloc ?_ _ | refine Ext.setCell ?_ (by simp) | refine Ext.setCell ?_ (by simp; omega) | refine Ext.trans ?_ (by assumption))))).mono ?_; rw [HR.out]; rintro e wd ⟨v7, v8, rfl, o7, o8, hbd⟩; obtain ⟨A7, c7, rfl, -, -, -⟩ := OwP.shape o7; obtain ⟨A8, c8, rfl, -, -, -⟩ := OwP.shape o8; have a16_0 := hbd.lit a16_0; have a16_1 := hbd.lit a16_1; have f16_0 := hbd.frz s16 f16_0; have f16_1 := hbd.frz s16 f16_1; have s16 := Nat.lt_of_lt_of_le s16 hbd.size))
              refine rx_on (by repeat first | exact Ext.refl _ | assumption | refine Ext.setCell ?_ (by assumption) | refine Ext.drew ?_ | refine Ext.alloc ?_ _ | refine Ext.trans ?_ (by assumption)) ?_
              refine rx_run (run := [6, 7, 8]) (k := 2) (m' := 1023) rfl (by kernel_rfl) (by kernel_rfl) (by kernel_rfl) (fm_cons rfl <| fm_cons rfl <| fm_cons rfl <| List.filterMap_nil) (by repeat first | exact Ext.refl _ | assumption | refine Ext.setCell ?_ (by assumption) | refine Ext.drew ?_ | refine Ext.alloc ?_ _ | refine Ext.trans ?_ (by assumption)) ?_
              repeat (go_big_quiet_step ((fail)))
              refine wpQuiet_nil ?_
              refine rx_op 10 (k := 1) (m' := 2047) rfl rfl (by kernel_rfl) (by kernel_rfl) ?_
              go_wp2
              refine rx_on (by repeat first | exact Ext.refl _ | assumption | refine Ext.setCell ?_ (by assumption) | refine Ext.drew ?_ | refine Ext.alloc ?_ _ | refine Ext.trans ?_ (by assumption)) ?_
              refine rx_run (run := [11]) (k := 0) (m' := 4095) rfl (by kernel_rfl) (by kernel_rfl) (by kernel_rfl) (fm_cons rfl <| List.filterMap_nil) (by repeat first | exact Ext.refl _ | assumption | refine Ext.setCell ?_ (by assumption) | refine Ext.drew ?_ | refine Ext.alloc ?_ _ | refine Ext.trans ?_ (by assumption)) ?_
              repeat (go_big_quiet_step ((fail)))
              refine wpQuiet_nil ?_
              refine rx_end (by kernel_rfl) ?_
              (go_wp2; go_meet; refine ⟨_, A7, A8, c7, c8, rfl, rfl, by go_simp, by go_simp, ?_, ?_, by assumption, ?_, ?_, (by repeat first | exact Ext.refl _ | assumption | refine Ext.setCell ?_ (by assumption) | refine Ext.drew ?_ | refine Ext.alloc ?_ _ | refine Ext.trans ?_ (by assumption))⟩; (first | exact OwP.more (OwP.gb2 o7 (gb_set (gb_set (gb_refl _ (some _)) 0 _) 1 _) (by omega)) (by first | omega | exact (show Ext w11 _ from (by repeat first | exact Ext.refl _ | assumption | refine Ext.setCell ?_ (by assumption) | refine Ext.drew ?_ | refine Ext.alloc ?_ _ | refine Ext.trans ?_ (by assumption))).size) | exact OwP.more (OwP.gb (OwP.ext2 o7 (by assumption)) (gb_set (gb_set (gb_refl _ (some _)) 0 _) 1 _) (fun q hq e => by have h1 := (World.ownsRow.lt o7 q hq).2; have e := Option.some.inj e; omega)) (by first | omega | exact (show Ext w11 _ from (by repeat first | exact Ext.refl _ | assumption | refine Ext.setCell ?_ (by assumption) | refine Ext.drew ?_ | refine Ext.alloc ?_ _ | refine Ext.trans ?_ (by assumption))).size)); (first | exact OwP.more (OwP.gb2 o8 (gb_set (gb_set (gb_refl _ (some _)) 0 _) 1 _) (by omega)) (by first | omega | exact (show Ext w11 _ from (by repeat first | exact Ext.refl _ | assumption | refine Ext.setCell ?_ (by assumption) | refine Ext.drew ?_ | refine Ext.alloc ?_ _ | refine Ext.trans ?_ (by assumption))).size) | exact OwP.more (OwP.gb (OwP.ext2 o8 (by assumption)) (gb_set (gb_set (gb_refl _ (some _)) 0 _) 1 _) (fun q hq e => by have h1 := (World.ownsRow.lt o8 q hq).2; have e := Option.some.inj e; omega)) (by first | omega | exact (show Ext w11 _ from (by repeat first | exact Ext.refl _ | assumption | refine Ext.setCell ?_ (by assumption) | refine Ext.drew ?_ | refine Ext.alloc ?_ _ | refine Ext.trans ?_ (by assumption))).size)); (exact fun q hq => by have h1 := World.ownsRow.lt o7 q hq; omega); (exact fun q hq => by have h1 := World.ownsRow.lt o8 q hq; omega))
          · skip
            go_wp2
            refine rx_on (by repeat first | exact Ext.refl _ | assumption | refine Ext.setCell ?_ (by assumption) | refine Ext.drew ?_ | refine Ext.alloc ?_ _ | refine Ext.trans ?_ (by assumption)) ?_
            refine rx_genD (by repeat first | exact Ext.refl _ | assumption | refine Ext.setCell ?_ (by assumption) | refine Ext.drew ?_ | refine Ext.alloc ?_ _ | refine Ext.trans ?_ (by assumption)) ?_
            intro wA16 hbA16 a16_0 a16_1 f16_0 f16_1 s16 l16
            refine rx_op 1 (k := 7) (m' := 527) rfl rfl (by kernel_rfl) (by kernel_rfl) ?_
            go_wp2_with (first | (go_at_call 10; refine (toWindow_c A B c d ns ls _ hl hm (h.ext (hx.trans (by repeat first | exact Ext.refl _ | assumption | refine Ext.drew ?_ | refine Ext.alloc ?_ _ | refine Ext.setCell ?_ (by simp) | refine Ext.setCell ?_ (by simp; omega) | refine Ext.trans ?_ (by assumption)))) (g.ext (hx.trans (by repeat first | exact Ext.refl _ | assumption | refine Ext.drew ?_ | refine Ext.alloc ?_ _ | refine Ext.setCell ?_ (by simp) | refine Ext.setCell ?_ (by simp; omega) | refine Ext.trans ?_ (by assumption))))).mono ?_; rintro e wa ⟨g1, g2, rfl, -, -, hB1, hB2, hba⟩; have a16_0 := hba.lit a16_0; have a16_1 := hba.lit a16_1; have f16_0 := hba.frz s16 f16_0; have f16_1 := hba.frz s16 f16_1; have s16 := Nat.lt_of_lt_of_le s16 hba.size) | (go_at_call 11; refine (toNode_c px py _).mono ?_; rintro e wb ⟨rfl, hbb⟩; have a16_0 := hbb.lit a16_0; have a16_1 := hbb.lit a16_1; have f16_0 := hbb.frz s16 f16_0; have f16_1 := hbb.frz s16 f16_1; have s16 := Nat.lt_of_lt_of_le s16 hbb.size) | (go_at_call 12; refine (SplitLead_i _ _ _ _ ns ls k px py _ (Wn.of hl hm (hB1.ext (by repeat first | exact Ext.refl _ | assumption | refine Ext.drew ?_ | refine Ext.alloc ?_ _ | refine Ext.setCell ?_ (by simp) | refine Ext.setCell ?_ (by simp; omega) | refine Ext.trans ?_ (by assumption))) (hB2.ext (by repeat first | exact Ext.refl _ | assumption | refine Ext.drew ?_ | refine Ext.alloc ?_ _ | refine Ext.setCell ?_ (by simp) | refine Ext.setCell ?_ (by simp; omega) | refine Ext.trans ?_ (by assumption))))).mono ?_; rw [HR.out]; rintro e wd ⟨v7, v8, rfl, o7, o8, hbd⟩; obtain ⟨A7, c7, rfl, -, -, -⟩ := OwP.shape o7; obtain ⟨A8, c8, rfl, -, -, -⟩ := OwP.shape o8; have a16_0 := hbd.lit a16_0; have a16_1 := hbd.lit a16_1; have f16_0 := hbd.frz s16 f16_0; have f16_1 := hbd.frz s16 f16_1; have s16 := Nat.lt_of_lt_of_le s16 hbd.size))
            refine rx_on (by repeat first | exact Ext.refl _ | assumption | refine Ext.setCell ?_ (by assumption) | refine Ext.drew ?_ | refine Ext.alloc ?_ _ | refine Ext.trans ?_ (by assumption)) ?_
            refine rx_op 4 (k := 6) (m' := 543) rfl rfl (by kernel_rfl) (by kernel_rfl) ?_
            go_wp2_with (first | (go_at_call 10; refine (toWindow_c A B c d ns ls _ hl hm (h.ext (hx.trans (by repeat first | exact Ext.refl _ | assumption | refine Ext.drew ?_ | refine Ext.alloc ?_ _ | refine Ext.setCell ?_ (by simp) | refine Ext.setCell ?_ (by simp; omega) | refine Ext.trans ?_ (by assumption)))) (g.ext (hx.trans (by repeat first | exact Ext.refl _ | assumption | refine Ext.drew ?_ | refine Ext.alloc ?_ _ | refine Ext.setCell ?_ (by simp) | refine Ext.setCell ?_ (by simp; omega) | refine Ext.trans ?_ (by assumption))))).mono ?_; rintro e wa ⟨g1, g2, rfl, -, -, hB1, hB2, hba⟩; have a16_0 := hba.lit a16_0; have a16_1 := hba.lit a16_1; have f16_0 := hba.frz s16 f16_0; have f16_1 := hba.frz s16 f16_1; have s16 := Nat.lt_of_lt_of_le s16 hba.size) | (go_at_call 11; refine (toNode_c px py _).mono ?_; rintro e wb ⟨rfl, hbb⟩; have a16_0 := hbb.lit a16_0; have a16_1 := hbb.lit a16_1; have f16_0 := hbb.frz s16 f16_0; have f16_1 := hbb.frz s16 f16_1; have s16 := Nat.lt_of_lt_of_le s16 hbb.size) | (go_at_call 12; refine (SplitLead_i _ _ _ _ ns ls k px py _ (Wn.of hl hm (hB1.ext (by repeat first | exact Ext.refl _ | assumption | refine Ext.drew ?_ | refine Ext.alloc ?_ _ | refine Ext.setCell ?_ (by simp) | refine Ext.setCell ?_ (by simp; omega) | refine Ext.trans ?_ (by assumption))) (hB2.ext (by repeat first | exact Ext.refl _ | assumption | refine Ext.drew ?_ | refine Ext.alloc ?_ _ | refine Ext.setCell ?_ (by simp) | refine Ext.setCell ?_ (by simp; omega) | refine Ext.trans ?_ (by assumption))))).mono ?_; rw [HR.out]; rintro e wd ⟨v7, v8, rfl, o7, o8, hbd⟩; obtain ⟨A7, c7, rfl, -, -, -⟩ := OwP.shape o7; obtain ⟨A8, c8, rfl, -, -, -⟩ := OwP.shape o8; have a16_0 := hbd.lit a16_0; have a16_1 := hbd.lit a16_1; have f16_0 := hbd.frz s16 f16_0; have f16_1 := hbd.frz s16 f16_1; have s16 := Nat.lt_of_lt_of_le s16 hbd.size))
            refine rx_on (by repeat first | exact Ext.refl _ | assumption | refine Ext.setCell ?_ (by assumption) | refine Ext.drew ?_ | refine Ext.alloc ?_ _ | refine Ext.trans ?_ (by assumption)) ?_
            refine rx_op 5 (k := 5) (m' := 575) rfl rfl (by kernel_rfl) (by kernel_rfl) ?_
            go_wp2_with (first | (go_at_call 10; refine (toWindow_c A B c d ns ls _ hl hm (h.ext (hx.trans (by repeat first | exact Ext.refl _ | assumption | refine Ext.drew ?_ | refine Ext.alloc ?_ _ | refine Ext.setCell ?_ (by simp) | refine Ext.setCell ?_ (by simp; omega) | refine Ext.trans ?_ (by assumption)))) (g.ext (hx.trans (by repeat first | exact Ext.refl _ | assumption | refine Ext.drew ?_ | refine Ext.alloc ?_ _ | refine Ext.setCell ?_ (by simp) | refine Ext.setCell ?_ (by simp; omega) | refine Ext.trans ?_ (by assumption))))).mono ?_; rintro e wa ⟨g1, g2, rfl, -, -, hB1, hB2, hba⟩; have a16_0 := hba.lit a16_0; have a16_1 := hba.lit a16_1; have f16_0 := hba.frz s16 f16_0; have f16_1 := hba.frz s16 f16_1; have s16 := Nat.lt_of_lt_of_le s16 hba.size) | (go_at_call 11; refine (toNode_c px py _).mono ?_; rintro e wb ⟨rfl, hbb⟩; have a16_0 := hbb.lit a16_0; have a16_1 := hbb.lit a16_1; have f16_0 := hbb.frz s16 f16_0; have f16_1 := hbb.frz s16 f16_1; have s16 := Nat.lt_of_lt_of_le s16 hbb.size) | (go_at_call 12; refine (SplitLead_i _ _ _ _ ns ls k px py _ (Wn.of hl hm (hB1.ext (by repeat first | exact Ext.refl _ | assumption | refine Ext.drew ?_ | refine Ext.alloc ?_ _ | refine Ext.setCell ?_ (by simp) | refine Ext.setCell ?_ (by simp; omega) | refine Ext.trans ?_ (by assumption))) (hB2.ext (by repeat first | exact Ext.refl _ | assumption | refine Ext.drew ?_ | refine Ext.alloc ?_ _ | refine Ext.setCell ?_ (by simp) | refine Ext.setCell ?_ (by simp; omega) | refine Ext.trans ?_ (by assumption))))).mono ?_; rw [HR.out]; rintro e wd ⟨v7, v8, rfl, o7, o8, hbd⟩; obtain ⟨A7, c7, rfl, -, -, -⟩ := OwP.shape o7; obtain ⟨A8, c8, rfl, -, -, -⟩ := OwP.shape o8; have a16_0 := hbd.lit a16_0; have a16_1 := hbd.lit a16_1; have f16_0 := hbd.frz s16 f16_0; have f16_1 := hbd.frz s16 f16_1; have s16 := Nat.lt_of_lt_of_le s16 hbd.size))
            refine rx_on (by repeat first | exact Ext.refl _ | assumption | refine Ext.setCell ?_ (by assumption) | refine Ext.drew ?_ | refine Ext.alloc ?_ _ | refine Ext.trans ?_ (by assumption)) ?_
            refine rx_run (run := [6, 7, 8]) (k := 2) (m' := 1023) rfl (by kernel_rfl) (by kernel_rfl) (by kernel_rfl) (fm_cons rfl <| fm_cons rfl <| fm_cons rfl <| List.filterMap_nil) (by repeat first | exact Ext.refl _ | assumption | refine Ext.setCell ?_ (by assumption) | refine Ext.drew ?_ | refine Ext.alloc ?_ _ | refine Ext.trans ?_ (by assumption)) ?_
            repeat (go_big_quiet_step ((fail)))
            refine wpQuiet_nil ?_
            refine rx_op 10 (k := 1) (m' := 2047) rfl rfl (by kernel_rfl) (by kernel_rfl) ?_
            go_wp2
            refine rx_on (by repeat first | exact Ext.refl _ | assumption | refine Ext.setCell ?_ (by assumption) | refine Ext.drew ?_ | refine Ext.alloc ?_ _ | refine Ext.trans ?_ (by assumption)) ?_
            refine rx_run (run := [11]) (k := 0) (m' := 4095) rfl (by kernel_rfl) (by kernel_rfl) (by kernel_rfl) (fm_cons rfl <| List.filterMap_nil) (by repeat first | exact Ext.refl _ | assumption | refine Ext.setCell ?_ (by assumption) | refine Ext.drew ?_ | refine Ext.alloc ?_ _ | refine Ext.trans ?_ (by assumption)) ?_
            repeat (go_big_quiet_step ((fail)))
            refine wpQuiet_nil ?_
            refine rx_end (by kernel_rfl) ?_
            (go_wp2; go_meet; refine ⟨_, A7, A8, c7, c8, rfl, rfl, by go_simp, by go_simp, ?_, ?_, by assumption, ?_, ?_, (by repeat first | exact Ext.refl _ | assumption | refine Ext.setCell ?_ (by assumption) | refine Ext.drew ?_ | refine Ext.alloc ?_ _ | refine Ext.trans ?_ (by assumption))⟩; (first | exact OwP.more (OwP.gb2 o7 (gb_set (gb_set (gb_refl _ (some _)) 0 _) 1 _) (by omega)) (by first | omega | exact (show Ext w11 _ from (by repeat first | exact Ext.refl _ | assumption | refine Ext.setCell ?_ (by assumption) | refine Ext.drew ?_ | refine Ext.alloc ?_ _ | refine Ext.trans ?_ (by assumption))).size) | exact OwP.more (OwP.gb (OwP.ext2 o7 (by assumption)) (gb_set (gb_set (gb_refl _ (some _)) 0 _) 1 _) (fun q hq e => by have h1 := (World.ownsRow.lt o7 q hq).2; have e := Option.some.inj e; omega)) (by first | omega | exact (show Ext w11 _ from (by repeat first | exact Ext.refl _ | assumption | refine Ext.setCell ?_ (by assumption) | refine Ext.drew ?_ | refine Ext.alloc ?_ _ | refine Ext.trans ?_ (by assumption))).size)); (first | exact OwP.more (OwP.gb2 o8 (gb_set (gb_set (gb_refl _ (some _)) 0 _) 1 _) (by omega)) (by first | omega | exact (show Ext w11 _ from (by repeat first | exact Ext.refl _ | assumption | refine Ext.setCell ?_ (by assumption) | refine Ext.drew ?_ | refine Ext.alloc ?_ _ | refine Ext.trans ?_ (by assumption))).size) | exact OwP.more (OwP.gb (OwP.ext2 o8 (by assumption)) (gb_set (gb_set (gb_refl _ (some _)) 0 _) 1 _) (fun q hq e => by have h1 := (World.ownsRow.lt o8 q hq).2; have e := Option.some.inj e; omega)) (by first | omega | exact (show Ext w11 _ from (by repeat first | exact Ext.refl _ | assumption | refine Ext.setCell ?_ (by assumption) | refine Ext.drew ?_ | refine Ext.alloc ?_ _ | refine Ext.trans ?_ (by assumption))).size)); (exact fun q hq => by have h1 := World.ownsRow.lt o7 q hq; omega); (exact fun q hq => by have h1 := World.ownsRow.lt o8 q hq; omega))
        case rest =>
          obtain ⟨gj, A11, A12, c11, c12, rfl, rfl, y0, y1, o11, o12, -, -, -, hb12⟩ := hcut
          obtain ⟨w12, rfl⟩ : ∃ x : World, x = wc := ⟨_, rfl⟩
          have t0 := hb12.lit t0
          have t1 := hb12.lit t1
          have u0 := hb12.lit u0
          have u1 := hb12.lit u1
          have o7 := o7.ext hb12
          have o8 := o8.ext hb12
          have p9 := p9.ext hb12
          have p10 := p10.ext hb12
          have hx := hx.trans hb12
          clear hb12
          go_wp2_with fail
          refine (eqWindow_c _ _ _ _ _ _ _ _ rn rl _ (by omega) (by omega) (pr_of o11) (pr_of o7) (pr_of o12) (pr_of o8)).mono ?_
          rintro e w13 ⟨rfl, hb⟩
          have u0 := hb.lit u0
          have u1 := hb.lit u1
          have p9 := p9.ext hb
          have p10 := p10.ext hb
          have hx := hx.trans hb
          clear hb
          go_wp2_with fail
          refine (heldWindow_c _ _ _ _ _ _ rn.length rl.length 1 _ p9 p10 (by omega) (by omega) (by omega) (by omega)).mono ?_
          rintro e w14 ⟨rfl, hb⟩
          go_wp2
          go_ret
          exact ⟨rfl, hx.trans hb⟩
end Go.Proofs.Ytfhemddonahjgaa
