import Derived.Test.YtpainmnekgnpeaaA4
import Derived.Deep.DeepCutAuto
import Derived.Lib.Hide
import Derived.Test.YtpainmnekgnpeaaP1
namespace Go.Proofs.Ytpainmnekgnpeaa
open Go.RowKit Go.Sort Go.BigFrame

theorem Pr.gp_ {w : World} {B : Nat} {A : Option Addr} {l : List P2} (h : Pr w B A l) {k : Nat} (hk : k < l.length) :
    ∃ b off, A = some ⟨b, off, none⟩ ∧ b < B ∧ w.cell? ⟨b, off + k * 2, none⟩ = some (.int .i64 (gp l k).1) ∧ w.cell? ⟨b, off + k * 2 + 1, none⟩ = some (.int .i64 (gp l k).2) := by
  rw [gp_nat l k hk]; exact h.at_ hk

set_option maxRecDepth 100000 in
set_option maxHeartbeats 2000000 in
theorem IsOnLead_i (A : Option Addr) (c : Nat) (ns : List (Int × Int)) (p q x y : Int) (w : World) (hl : ns.length ≤ 2000000) (h : Pr w w.heap.size A ns) :
    Calls Try.prog 103 #[.slice A ns.length c, .agg #[.int .i64 p, .int .i64 q], .agg #[.int .i64 x, .int .i64 y]] w fun e w' => e = .returned (.bool (onl ns (p, q) (x, y))) ∧ Ext w w' := by
  by_cases h1 : lok ns (p, q) = true
  · obtain ⟨i, j, rfl, rfl, hij, hi, hj, n1, n2, -⟩ := lok_spec h1
    have Hd : Hid (onl ns (↑i, ↑j) (x, y) = (peq (x, y) (gp ns i) || peq (x, y) (gp ns j) || btw (gp ns i) (gp ns j) (x, y))) := Lib.hid (by simp only [onl, h1, Bool.true_and])
    go_enter Try.func103, Try.ntmps103
    go_wp2_with fail
    refine (LeadOk_i A c ns _ _ _ hl (h.ext (by repeat first | exact Ext.refl _ | assumption | refine Ext.drew ?_ | refine Ext.alloc ?_ _ | refine Ext.setCell ?_ (by simp) | refine Ext.setCell ?_ (by simp; omega) | refine Ext.trans ?_ (by assumption)))).mono ?_
    rintro e w1 ⟨rfl, hb⟩
    have k0 := hb.lit (b := w.heap.size) (o := 0) (v := .int .i64 i) (by go_simp)
    have k1 := hb.lit (b := w.heap.size) (o := 1) (v := .int .i64 j) (by go_simp)
    have e5 := hb.lit (b := w.heap.size + 1) (o := 0) (v := .int .i64 x) (by go_simp)
    have e6 := hb.lit (b := w.heap.size + 1) (o := 1) (v := .int .i64 y) (by go_simp)
    have hx : Ext w w1 := (by repeat first | exact Ext.refl _ | assumption | refine Ext.drew ?_ | refine Ext.alloc ?_ _ | refine Ext.setCell ?_ (by simp) | refine Ext.setCell ?_ (by simp; omega) | refine Ext.trans ?_ (by assumption))
    rw [h1]
    clear hb
    obtain ⟨b, off, rfl, hbb, c1, c2⟩ := (h.ext hx).gp_ hi
    obtain ⟨b', off', he, hbb', c3, c4⟩ := (h.ext hx).gp_ hj
    obtain ⟨rfl, rfl⟩ : b = b' ∧ off = off' := by simpa using he
    clear he hbb'
    go_upto_region 3 with fail
    go_cut [7, 8] (fun s7 s8 wx => ∃ g7 g8, s7 = .pointer (some ⟨g7, 0, none⟩) ∧ s8 = .pointer (some ⟨g8, 0, none⟩) ∧ wx.cell? ⟨g7, 0, none⟩ = some (.int .i64 (gp ns i).1) ∧ wx.cell? ⟨g7, 1, none⟩ = some (.int .i64 (gp ns i).2) ∧ wx.cell? ⟨g8, 0, none⟩ = some (.int .i64 (gp ns j).1) ∧ wx.cell? ⟨g8, 1, none⟩ = some (.int .i64 (gp ns j).2) ∧ Ext w1 wx)
    case first =>
      have d0 := cell_regrown k0
      have d1 := cell_regrown k1
      have d2 := cell_regrown c1
      have d3 := cell_regrown c2
      have d4 := cell_regrown c3
      have d5 := cell_regrown c4
      refine rx_open [(true, 0, some 13, 1), (true, 0, some 14, 16), (true, 2, some 15, 16384), (true, 5, some 16, 40960), (true, 8, some 17, 65536), (true, 0, some 18, 1), (true, 0, some 19, 16), (true, 64, some 20, 524288), (true, 160, some 21, 1310720), (true, 256, some 22, 2097152), (false, 0, some 7, 0), (false, 0, some 8, 0), (false, 3103, none, 131200), (false, 8191, none, 4194560)] 8192 14 mixd rfl (by kernel_rfl) (by kernel_rfl) (by kernel_rfl) ?_
      refine rx_run (run := [0, 1, 2, 3, 4, 5, 6, 7, 8, 9]) (k := 4) (m' := 1023) rfl (by kernel_rfl) (by kernel_rfl) (by kernel_rfl) (fm_cons rfl <| fm_cons rfl <| fm_cons rfl <| fm_cons rfl <| fm_cons rfl <| fm_cons rfl <| fm_cons rfl <| fm_cons rfl <| fm_cons rfl <| fm_cons rfl <| List.filterMap_nil) (by repeat first | exact Ext.refl _ | assumption | refine Ext.drew ?_ | refine Ext.alloc ?_ _ | refine Ext.setCell ?_ (by simp) | refine Ext.setCell ?_ (by simp; omega) | refine Ext.trans ?_ (by assumption)) ?_
      repeat (go_big_quiet_step ((fail)))
      refine wpQuiet_nil ?_
      refine rx_two 10 11 (k := 3) (mi := 2047) (mj := 3071) rfl rfl rfl (by kernel_rfl) (by kernel_rfl) (by kernel_rfl) ?_ ?_
      go_wp2
      refine rx_on (by repeat first | exact Ext.refl _ | assumption | refine Ext.drew ?_ | refine Ext.alloc ?_ _ | refine Ext.setCell ?_ (by simp) | refine Ext.setCell ?_ (by simp; omega) | refine Ext.trans ?_ (by assumption)) ?_
      refine rx_op 11 (k := 2) (m' := 4095) rfl rfl (by kernel_rfl) (by kernel_rfl) ?_
      go_wp2
      refine rx_on (by repeat first | exact Ext.refl _ | assumption | refine Ext.drew ?_ | refine Ext.alloc ?_ _ | refine Ext.setCell ?_ (by simp) | refine Ext.setCell ?_ (by simp; omega) | refine Ext.trans ?_ (by assumption)) ?_
      refine rx_op 12 (k := 1) (m' := 8191) rfl rfl (by kernel_rfl) (by kernel_rfl) ?_
      go_wp2
      refine rx_on (by repeat first | exact Ext.refl _ | assumption | refine Ext.drew ?_ | refine Ext.alloc ?_ _ | refine Ext.setCell ?_ (by simp) | refine Ext.setCell ?_ (by simp; omega) | refine Ext.trans ?_ (by assumption)) ?_
      refine rx_op 13 (k := 0) (m' := 16383) rfl rfl (by kernel_rfl) (by kernel_rfl) ?_
      go_wp2
      refine rx_lst (by decide) ?_
      refine rx_end (by kernel_rfl) ?_
      rotate_left
      go_wp2
      refine rx_on (by repeat first | exact Ext.refl _ | assumption | refine Ext.drew ?_ | refine Ext.alloc ?_ _ | refine Ext.setCell ?_ (by simp) | refine Ext.setCell ?_ (by simp; omega) | refine Ext.trans ?_ (by assumption)) ?_
      refine rx_op 10 (k := 2) (m' := 4095) rfl rfl (by kernel_rfl) (by kernel_rfl) ?_
      go_wp2
      refine rx_on (by repeat first | exact Ext.refl _ | assumption | refine Ext.drew ?_ | refine Ext.alloc ?_ _ | refine Ext.setCell ?_ (by simp) | refine Ext.setCell ?_ (by simp; omega) | refine Ext.trans ?_ (by assumption)) ?_
      refine rx_op 12 (k := 1) (m' := 8191) rfl rfl (by kernel_rfl) (by kernel_rfl) ?_
      go_wp2
      refine rx_on (by repeat first | exact Ext.refl _ | assumption | refine Ext.drew ?_ | refine Ext.alloc ?_ _ | refine Ext.setCell ?_ (by simp) | refine Ext.setCell ?_ (by simp; omega) | refine Ext.trans ?_ (by assumption)) ?_
      refine rx_op 13 (k := 0) (m' := 16383) rfl rfl (by kernel_rfl) (by kernel_rfl) ?_
      go_wp2
      refine rx_lst (by decide) ?_
      refine rx_end (by kernel_rfl) ?_
      rotate_left
      all_goals (go_wp2; go_meet; exact ⟨_, _, rfl, rfl, by go_simp, by go_simp, by go_simp, by go_simp, (by repeat first | exact Ext.refl _ | assumption | refine Ext.drew ?_ | refine Ext.alloc ?_ _ | refine Ext.setCell ?_ (by simp) | refine Ext.setCell ?_ (by simp; omega) | refine Ext.trans ?_ (by assumption))⟩)
    case rest =>
      obtain ⟨g7, g8, rfl, rfl, e1, e2, e3, e4, hx7⟩ := hcut
      have e5 := hx7.lit e5
      have e6 := hx7.lit e6
      have hx := hx.trans hx7
      clear c1 c2 c3 c4 k0 k1 hx7
      obtain ⟨w4, rfl⟩ : ∃ x : World, x = wc := ⟨_, rfl⟩
      generalize gp ns i = a at *
      generalize gp ns j = b at *
      obtain ⟨ax, ay⟩ := a
      obtain ⟨bx, by'⟩ := b
      go_wp2_with (go_at_call 65; refine (IsBetween_i _ _ _ _ _ _ _).mono ?_; rintro e w2 ⟨rfl, hb2⟩; have hx := hx.trans hb2; clear hb2)
      all_goals go_ret
      all_goals refine ⟨ret_b ?_, (by assumption)⟩
      all_goals (rw [Hd.out]; simp_all)
  · have h1' := eq_false_of_ne_true h1
    have hd : onl ns (p, q) (x, y) = false := by simp only [onl, h1', Bool.false_and]
    clear h1
    go_enter Try.func103, Try.ntmps103
    go_wp2_with fail
    refine (LeadOk_i A c ns _ _ _ hl (h.ext (by repeat first | exact Ext.refl _ | assumption | refine Ext.drew ?_ | refine Ext.alloc ?_ _ | refine Ext.setCell ?_ (by simp) | refine Ext.setCell ?_ (by simp; omega) | refine Ext.trans ?_ (by assumption)))).mono ?_
    rintro e w1 ⟨rfl, hb⟩
    have hx : Ext w w1 := (by repeat first | exact Ext.refl _ | assumption | refine Ext.drew ?_ | refine Ext.alloc ?_ _ | refine Ext.setCell ?_ (by simp) | refine Ext.setCell ?_ (by simp; omega) | refine Ext.trans ?_ (by assumption))
    rw [h1']
    clear hb
    go_wp2
    go_ret
    exact ⟨ret_b hd.symm, hx⟩

set_option maxRecDepth 100000 in
set_option maxHeartbeats 2000000 in
theorem IsOnLead_s (A : Option Addr) (c : Nat) (ns : List (Int × Int)) (p q x y : Int) (w : World) (hl : ns.length ≤ 2000000) (h : Pr w w.heap.size A ns) :
    Calls Try.prog 97 #[.slice A ns.length c, .agg #[.int .i64 p, .int .i64 q], .agg #[.int .i64 x, .int .i64 y]] w fun e w' => e = .returned (.bool (onl ns (p, q) (x, y))) ∧ Ext w w' := by
  by_cases h1 : lok ns (p, q) = true
  · obtain ⟨i, j, rfl, rfl, hij, hi, hj, n1, n2, -⟩ := lok_spec h1
    have Hd : Hid (onl ns (↑i, ↑j) (x, y) = (peq (x, y) (gp ns i) || peq (x, y) (gp ns j) || btw (gp ns i) (gp ns j) (x, y))) := Lib.hid (by simp only [onl, h1, Bool.true_and])
    go_enter Try.func97, Try.ntmps97
    go_wp2_with fail
    refine (LeadOk_s A c ns _ _ _ hl (h.ext (by repeat first | exact Ext.refl _ | assumption | refine Ext.drew ?_ | refine Ext.alloc ?_ _ | refine Ext.setCell ?_ (by simp) | refine Ext.setCell ?_ (by simp; omega) | refine Ext.trans ?_ (by assumption)))).mono ?_
    rintro e w1 ⟨rfl, hb⟩
    have k0 := hb.lit (b := w.heap.size) (o := 0) (v := .int .i64 i) (by go_simp)
    have k1 := hb.lit (b := w.heap.size) (o := 1) (v := .int .i64 j) (by go_simp)
    have e5 := hb.lit (b := w.heap.size + 1) (o := 0) (v := .int .i64 x) (by go_simp)
    have e6 := hb.lit (b := w.heap.size + 1) (o := 1) (v := .int .i64 y) (by go_simp)
    have hx : Ext w w1 := (by repeat first | exact Ext.refl _ | assumption | refine Ext.drew ?_ | refine Ext.alloc ?_ _ | refine Ext.setCell ?_ (by simp) | refine Ext.setCell ?_ (by simp; omega) | refine Ext.trans ?_ (by assumption))
    rw [h1]
    clear hb
    obtain ⟨b, off, rfl, hbb, c1, c2⟩ := (h.ext hx).gp_ hi
    obtain ⟨b', off', he, hbb', c3, c4⟩ := (h.ext hx).gp_ hj
    obtain ⟨rfl, rfl⟩ : b = b' ∧ off = off' := by simpa using he
    clear he hbb'
    go_upto_region 3 with fail
    go_cut [7] (fun s wx => ∃ g, s = .pointer (some ⟨g, 0, none⟩) ∧ wx.cell? ⟨g, 0, none⟩ = some (.int .i64 (gp ns i).1) ∧ wx.cell? ⟨g, 1, none⟩ = some (.int .i64 (gp ns i).2) ∧ Ext w1 wx)
    case first =>
      go_wp2
      go_meet
      exact ⟨_, rfl, by go_simp, by go_simp, (by repeat first | exact Ext.refl _ | assumption | refine Ext.drew ?_ | refine Ext.alloc ?_ _ | refine Ext.setCell ?_ (by simp) | refine Ext.setCell ?_ (by simp; omega) | refine Ext.trans ?_ (by assumption))⟩
    case rest =>
      obtain ⟨g7, rfl, e1, e2, hx7⟩ := hcut
      have e5 := hx7.lit e5
      have e6 := hx7.lit e6
      have k0 := hx7.lit k0
      have k1 := hx7.lit k1
      have c3 := hx7.lit c3
      have c4 := hx7.lit c4
      have hx := hx.trans hx7
      clear c1 c2 hx7
      obtain ⟨w3, rfl⟩ : ∃ x : World, x = wc := ⟨_, rfl⟩
      go_upto_region 4 with fail
      go_cut [8] (fun s wx => ∃ g, s = .pointer (some ⟨g, 0, none⟩) ∧ wx.cell? ⟨g, 0, none⟩ = some (.int .i64 (gp ns j).1) ∧ wx.cell? ⟨g, 1, none⟩ = some (.int .i64 (gp ns j).2) ∧ Ext w3 wx)
      case first =>
        go_wp2
        go_meet
        exact ⟨_, rfl, by go_simp, by go_simp, (by repeat first | exact Ext.refl _ | assumption | refine Ext.drew ?_ | refine Ext.alloc ?_ _ | refine Ext.setCell ?_ (by simp) | refine Ext.setCell ?_ (by simp; omega) | refine Ext.trans ?_ (by assumption))⟩
      case rest =>
        obtain ⟨g8, rfl, e3, e4, hx7⟩ := hcut
        have e1 := hx7.lit e1
        have e2 := hx7.lit e2
        have e5 := hx7.lit e5
        have e6 := hx7.lit e6
        have hx := hx.trans hx7
        clear c3 c4 k0 k1 hx7
        obtain ⟨w4, rfl⟩ : ∃ x : World, x = wc := ⟨_, rfl⟩
        generalize gp ns i = a at *
        generalize gp ns j = b at *
        obtain ⟨ax, ay⟩ := a
        obtain ⟨bx, by'⟩ := b
        go_wp2_with (go_at_call 62; refine (IsBetween_s _ _ _ _ _ _ _).mono ?_; rintro e w2 ⟨rfl, hb2⟩; have hx := hx.trans hb2; clear hb2)
        all_goals go_ret
        all_goals refine ⟨ret_b ?_, (by assumption)⟩
        all_goals (rw [Hd.out]; simp_all)
  · have h1' := eq_false_of_ne_true h1
    have hd : onl ns (p, q) (x, y) = false := by simp only [onl, h1', Bool.false_and]
    clear h1
    go_enter Try.func97, Try.ntmps97
    go_wp2_with fail
    refine (LeadOk_s A c ns _ _ _ hl (h.ext (by repeat first | exact Ext.refl _ | assumption | refine Ext.drew ?_ | refine Ext.alloc ?_ _ | refine Ext.setCell ?_ (by simp) | refine Ext.setCell ?_ (by simp; omega) | refine Ext.trans ?_ (by assumption)))).mono ?_
    rintro e w1 ⟨rfl, hb⟩
    have hx : Ext w w1 := (by repeat first | exact Ext.refl _ | assumption | refine Ext.drew ?_ | refine Ext.alloc ?_ _ | refine Ext.setCell ?_ (by simp) | refine Ext.setCell ?_ (by simp; omega) | refine Ext.trans ?_ (by assumption))
    rw [h1']
    clear hb
    go_wp2
    go_ret
    exact ⟨ret_b hd.symm, hx⟩
end Go.Proofs.Ytpainmnekgnpeaa
