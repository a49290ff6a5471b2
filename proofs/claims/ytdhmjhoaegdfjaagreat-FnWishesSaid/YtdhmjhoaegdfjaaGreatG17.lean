import Derived.Test.YtdhmjhoaegdfjaaGreatG8
import Derived.Test.YtdhmjhoaegdfjaaGreatG6
import Derived.Test.YtdhmjhoaegdfjaaGreatR2
import Derived.Deep.DeepCutAuto
import Derived.Outline
import Derived.Test.YtdhmjhoaegdfjaaGreatG9
import Derived.Test.YtdhmjhoaegdfjaaGreatR3
import Derived.Lib.Strings
import Derived.Lib.Slices
import Derived.Lib.Small
import Derived.Lib.Walk
import Derived.Lib.BitFns
namespace Go.Proofs.YtdhmjhoaegdfjaaGreat
open Go.RowKit Go.Sort Go.BigFrame

set_option maxHeartbeats 1000000 in
theorem HalfPlane_i (ax ay bx by' : Int) (w : World) :
    Calls Tryz.prog 107 #[.agg #[.int .i64 ax, .int .i64 ay], .agg #[.int .i64 bx, .int .i64 by']] w fun e w' => e = .returned (.int .i64 (halfp (ax, ay) (bx, by'))) ∧ Ext w w' := by
  have HH : Hid (halfp (ax, ay) (bx, by') = if ay < by' ∨ (by' = ay ∧ ax < bx) then 0 else 1) := Lib.hid rfl
  by_cases h1 : ay < by'
  · skip
    go_enter Tryz.func107, Tryz.ntmps107
    go_wp2
    go_ret
    exact ⟨ret_i (by rw [HH.out, if_pos (.inl h1)]), (by repeat first | exact Ext.refl _ | assumption | refine Ext.drew ?_ | refine Ext.alloc ?_ _ | refine Ext.setCell ?_ (by simp) | refine Ext.setCell ?_ (by simp; omega) | refine Ext.trans ?_ (by assumption))⟩
  · by_cases h2 : by' = ay
    · subst h2
      by_cases h3 : ax < bx
      · skip
        go_enter Tryz.func107, Tryz.ntmps107
        go_wp2
        go_ret
        exact ⟨ret_i (by rw [HH.out, if_pos (.inr (by simp [h3]))]), (by repeat first | exact Ext.refl _ | assumption | refine Ext.drew ?_ | refine Ext.alloc ?_ _ | refine Ext.setCell ?_ (by simp) | refine Ext.setCell ?_ (by simp; omega) | refine Ext.trans ?_ (by assumption))⟩
      · skip
        go_enter Tryz.func107, Tryz.ntmps107
        go_wp2
        go_ret
        exact ⟨ret_i (by rw [HH.out, if_neg (by omega)]), (by repeat first | exact Ext.refl _ | assumption | refine Ext.drew ?_ | refine Ext.alloc ?_ _ | refine Ext.setCell ?_ (by simp) | refine Ext.setCell ?_ (by simp; omega) | refine Ext.trans ?_ (by assumption))⟩
    · have h2' : (by' == ay) = false := beq_eq_false_iff_ne.2 h2
      go_enter Tryz.func107, Tryz.ntmps107
      go_wp2
      go_ret
      exact ⟨ret_i (by rw [HH.out, if_neg (by omega)]), (by repeat first | exact Ext.refl _ | assumption | refine Ext.drew ?_ | refine Ext.alloc ?_ _ | refine Ext.setCell ?_ (by simp) | refine Ext.setCell ?_ (by simp; omega) | refine Ext.trans ?_ (by assumption))⟩


set_option maxRecDepth 100000 in
set_option maxHeartbeats 2000000 in
theorem IsBeforeAround_i (ax ay bx by' cx cy : Int) (w : World) (n1 : nok (ax, ay) = true) (n2 : nok (bx, by') = true) (n3 : nok (cx, cy) = true) :
    Calls Tryz.prog 103 #[.agg #[.int .i64 ax, .int .i64 ay], .agg #[.int .i64 bx, .int .i64 by'], .agg #[.int .i64 cx, .int .i64 cy]] w fun e w' => e = .returned (.bool (bfa (ax, ay) (bx, by') (cx, cy))) ∧ Ext w w' := by
  have HB : Hid (bfa (ax, ay) (bx, by') (cx, cy) = if halfp (ax, ay) (bx, by') = halfp (ax, ay) (cx, cy) then decide (0 < turn0 (ax, ay) (bx, by') (cx, cy)) else decide (halfp (ax, ay) (bx, by') < halfp (ax, ay) (cx, cy))) := Lib.hid rfl
  have hn : (nok (ax, ay) && nok (bx, by') && nok (cx, cy)) = true := by rw [n1, n2, n3]; rfl
  have HT : Hid (turn (ax, ay) (bx, by') (cx, cy) = turn0 (ax, ay) (bx, by') (cx, cy)) := Lib.hid (turn_eq n1 n2 n3)
  go_enter Tryz.func103, Tryz.ntmps103
  go_wp2_with fail
  refine (nodesOk3 (ax, ay) (bx, by') (cx, cy) _ _ (heap_new _ (by simp))).mono ?_
  rintro e w1 ⟨rfl, hb⟩
  have k0 := hb.lit (b := w.heap.size) (o := 0) (v := .int .i64 ax) (by go_simp)
  have k1 := hb.lit (b := w.heap.size) (o := 1) (v := .int .i64 ay) (by go_simp)
  have k2 := hb.lit (b := w.heap.size + 1) (o := 0) (v := .int .i64 bx) (by go_simp)
  have k3 := hb.lit (b := w.heap.size + 1) (o := 1) (v := .int .i64 by') (by go_simp)
  have k4 := hb.lit (b := w.heap.size + 1 + 1) (o := 0) (v := .int .i64 cx) (by go_simp)
  have k5 := hb.lit (b := w.heap.size + 1 + 1) (o := 1) (v := .int .i64 cy) (by go_simp)
  have hx : Ext w w1 := (by repeat first | exact Ext.refl _ | assumption | refine Ext.drew ?_ | refine Ext.alloc ?_ _ | refine Ext.setCell ?_ (by simp) | refine Ext.setCell ?_ (by simp; omega) | refine Ext.trans ?_ (by assumption))
  clear hb
  rw [hn]
  go_wp2_with fail
  go_cut [7, 8] (fun s s' wx => s = .int .i64 (halfp (ax, ay) (bx, by')) ∧ s' = .int .i64 (halfp (ax, ay) (cx, cy)) ∧ Ext w1 wx)
  case first =>
    have d0 := cell_regrown k0
    have d1 := cell_regrown k1
    have d2 := cell_regrown k2
    have d3 := cell_regrown k3
    have d4 := cell_regrown k4
    have d5 := cell_regrown k5
    refine rx_open [(true, 0, some 15, 8), (true, 0, some 16, 16), (false, 3, some 17, 98304), (true, 0, some 18, 8), (true, 0, some 19, 32), (false, 28, some 20, 786432), (true, 39, some 7, 131072), (true, 127, some 8, 1048576)] 0 8 mixd rfl (by kernel_rfl) (by kernel_rfl) (by kernel_rfl) ?_
    refine rx_run (run := [0, 1, 3, 4]) (k := 4) (m' := 27) rfl (by kernel_rfl) (by kernel_rfl) (by kernel_rfl) (fm_cons rfl <| fm_cons rfl <| fm_cons rfl <| fm_cons rfl <| List.filterMap_nil) (by repeat first | exact Ext.refl _ | assumption | refine Ext.drew ?_ | refine Ext.alloc ?_ _ | refine Ext.setCell ?_ (by simp) | refine Ext.setCell ?_ (by simp; omega) | refine Ext.trans ?_ (by assumption)) ?_
    repeat (go_big_quiet_step ((fail)))
    refine wpQuiet_nil ?_
    refine rx_op 2 (k := 3) (m' := 31) rfl rfl (by kernel_rfl) (by kernel_rfl) ?_
    go_wp2_with ((go_at_call 107; refine (HalfPlane_i _ _ _ _ _).mono ?_; rintro e w5 ⟨rfl, hb5⟩))
    refine rx_on (by repeat first | exact Ext.refl _ | assumption | refine Ext.drew ?_ | refine Ext.alloc ?_ _ | refine Ext.setCell ?_ (by simp) | refine Ext.setCell ?_ (by simp; omega) | refine Ext.trans ?_ (by assumption)) ?_
    refine rx_op 5 (k := 2) (m' := 63) rfl rfl (by kernel_rfl) (by kernel_rfl) ?_
    go_wp2_with ((go_at_call 107; refine (HalfPlane_i _ _ _ _ _).mono ?_; rintro e w5 ⟨rfl, hb5⟩))
    refine rx_on (by repeat first | exact Ext.refl _ | assumption | refine Ext.drew ?_ | refine Ext.alloc ?_ _ | refine Ext.setCell ?_ (by simp) | refine Ext.setCell ?_ (by simp; omega) | refine Ext.trans ?_ (by assumption)) ?_
    refine rx_run (run := [6, 7]) (k := 0) (m' := 255) rfl (by kernel_rfl) (by kernel_rfl) (by kernel_rfl) (fm_cons rfl <| fm_cons rfl <| List.filterMap_nil) (by repeat first | exact Ext.refl _ | assumption | refine Ext.drew ?_ | refine Ext.alloc ?_ _ | refine Ext.setCell ?_ (by simp) | refine Ext.setCell ?_ (by simp; omega) | refine Ext.trans ?_ (by assumption)) ?_
    repeat (go_big_quiet_step ((fail)))
    refine wpQuiet_nil ?_
    refine rx_end (by kernel_rfl) ?_
    all_goals (go_wp2; go_meet; exact ⟨rfl, rfl, (by repeat first | exact Ext.refl _ | assumption | refine Ext.drew ?_ | refine Ext.alloc ?_ _ | refine Ext.setCell ?_ (by simp) | refine Ext.setCell ?_ (by simp; omega) | refine Ext.trans ?_ (by assumption))⟩)
  case rest =>
    obtain ⟨rfl, rfl, hb⟩ := hcut
    obtain ⟨w2, rfl⟩ : ∃ x : World, x = wc := ⟨_, rfl⟩
    have k0 := hb.lit k0
    have k1 := hb.lit k1
    have k2 := hb.lit k2
    have k3 := hb.lit k3
    have k4 := hb.lit k4
    have k5 := hb.lit k5
    have hx := hx.trans hb
    clear hb
    generalize halfp (ax, ay) (bx, by') = x at *
    generalize halfp (ax, ay) (cx, cy) = y at *
    by_cases hlt : x < y
    · have HB2 : Hid (bfa (ax, ay) (bx, by') (cx, cy) = true) := Lib.hid (by rw [HB.out, if_neg (by omega)]; simpa using hlt)
      clear HB
      go_wp2
      go_ret
      exact ⟨ret_b (by rw [HB2.out]), hx⟩
    · by_cases he : x = y
      · subst he
        have HB2 : Hid (bfa (ax, ay) (bx, by') (cx, cy) = decide (0 < turn0 (ax, ay) (bx, by') (cx, cy))) := Lib.hid (by rw [HB.out, if_pos rfl])
        clear HB
        go_wp2_with fail
        refine (TurnOf_i' ax ay bx by' cx cy _).mono ?_
        rw [HT.out]
        rintro e w3 ⟨rfl, hb⟩
        go_wp2
        go_ret
        exact ⟨ret_b (by rw [HB2.out]), hx.trans hb⟩
      · have HB2 : Hid (bfa (ax, ay) (bx, by') (cx, cy) = false) := Lib.hid (by rw [HB.out, if_neg he]; simpa using hlt)
        have he' : (x == y) = false := beq_eq_false_iff_ne.2 he
        clear HB
        go_wp2
        go_ret
        exact ⟨ret_b (by rw [HB2.out]), hx⟩

set_option maxRecDepth 100000 in
set_option maxHeartbeats 1000000 in
theorem dartFrom_c (A B : Option Addr) (c d : Nat) (ns ls : List P2) (k : Nat) (w : World) (h : Wn w A c B d ns ls) (hk : k < 2 * ls.length) :
    Calls Tryz.prog 97 #[.agg #[.slice A ns.length c, .slice B ls.length d], .int .i64 (k : Int)] w fun e w' => e = .returned (.int .i64 (dEnds ls k).1) ∧ Ext w w' := by
  have hm := h.hm
  have HE : Hid (dEnds ls k = if k % 2 = 1 then ((gp ls (k / 2 : Nat)).2, (gp ls (k / 2 : Nat)).1) else gp ls (k / 2 : Nat)) := Lib.hid rfl
  have hk2 : k / 2 < ls.length := by omega
  have hdv : ((k : Int) / 2).toNat = k / 2 := by omega
  have hdl : (k : Int) / 2 < ls.length := by omega
  have hd0 : 0 ≤ (k : Int) / 2 := by omega
  obtain ⟨b, off, rfl, hbb, c1, c2⟩ := h.g.gp_ hk2
  generalize gp ls (k / 2 : Nat) = L at *
  obtain ⟨p, q⟩ := L
  by_cases ho : k % 2 = 1
  · have hmd : ¬ (k : Int) % 2 = 0 := by omega
    have hmd' : ((k : Int) % 2 == 0) = false := beq_eq_false_iff_ne.2 hmd
    rw [if_pos ho] at HE
    clear ho
    go_enter Tryz.func97, Tryz.ntmps97
    go_wp2
    go_ret
    exact ⟨by rw [HE.out]; rfl, (by repeat first | exact Ext.refl _ | assumption | refine Ext.drew ?_ | refine Ext.alloc ?_ _ | refine Ext.setCell ?_ (by simp) | refine Ext.setCell ?_ (by simp; omega) | refine Ext.trans ?_ (by assumption))⟩
  · have hmd : (k : Int) % 2 = 0 := by omega
    rw [if_neg ho] at HE
    clear ho
    go_enter Tryz.func97, Tryz.ntmps97
    go_wp2
    go_ret
    exact ⟨by rw [HE.out]; rfl, (by repeat first | exact Ext.refl _ | assumption | refine Ext.drew ?_ | refine Ext.alloc ?_ _ | refine Ext.setCell ?_ (by simp) | refine Ext.setCell ?_ (by simp; omega) | refine Ext.trans ?_ (by assumption))⟩

theorem xor1_w (x : Nat) (h : x < 2 ^ 40) : bits .xor .i64 (x : Int) 1 = ((x ^^^ 1 : Nat) : Int) := by
  have h1 : x ^^^ 1 < 2 ^ 40 := Nat.xor_lt_two_pow h (by omega)
  show IntKind.i64.wrap ((BitVec.ofInt 64 (x : Int) ^^^ BitVec.ofInt 64 ((1 : Nat) : Int)).toNat : Int) = _
  rw [BitVec.toNat_xor, ofInt_64 x (by omega), ofInt_64 1 (by omega), IntKind.wrap_i64]
  omega
theorem xor1_div (d : Nat) : (d ^^^ 1) / 2 = d / 2 := by
  have h1 : (d ^^^ 1) / 2 ^ 1 = d / 2 ^ 1 := by rw [Nat.xor_div_two_pow]; simp
  simpa using h1
theorem xor1_mod (d : Nat) : (d ^^^ 1) % 2 = 1 - d % 2 := by
  have h1 : (d ^^^ 1) % 2 ^ 1 = (d % 2 ^ 1) ^^^ (1 % 2 ^ 1) := Nat.xor_mod_two_pow
  have h2 : d % 2 = 0 ∨ d % 2 = 1 := by omega
  rcases h2 with h2 | h2 <;> simp [h2] at h1 ⊢ <;> exact h1
theorem dEnds_xor (ls : List P2) (d : Nat) : dEnds ls (d ^^^ 1) = ((dEnds ls d).2, (dEnds ls d).1) := by
  unfold dEnds
  rw [xor1_div, xor1_mod]
  by_cases h : d % 2 = 1
  · rw [if_pos h, if_neg (by omega)]
  · rw [if_neg h, if_pos (by omega)]
end Go.Proofs.YtdhmjhoaegdfjaaGreat

namespace Go.Proofs.YtdhmjhoaegdfjaaGreat
open Go.RowKit Go.Sort Go.BigFrame

/-- what the comparison hands back -/
def cmpv (ns ls : List P2) (k : Int) (x y : Nat) : Int := if dlt ns ls k x y = true then -1 else 1

set_option maxRecDepth 100000 in
set_option maxHeartbeats 40000000 in
theorem cmp_c (gw gk : Nat) (A B : Option Addr) (c d : Nat) (ns ls : List P2) (k x y : Nat) (w : World) (h : Wn w A c B d ns ls) (hW : WOk ns ls) (hk : k < ns.length) (hx : x < 2 * ls.length) (hy : y < 2 * ls.length) (hxy : x ≠ y)
    (k0 : w.cell? ⟨gw, 0, none⟩ = some (.slice A ns.length c)) (k1 : w.cell? ⟨gw, 1, none⟩ = some (.slice B ls.length d)) (kk : w.cell? ⟨gk, 0, none⟩ = some (.int .i64 (k : Int))) :
    Calls Tryz.prog 102 #[.int .i64 (x : Int), .int .i64 (y : Int), .pointer (some ⟨gw, 0, none⟩), .pointer (some ⟨gk, 0, none⟩)] w fun e w' => e = .returned (.int .i64 (cmpv ns ls k x y)) ∧ Ext w w' := by
  have hn := hW.hi
  have hm := hW.le
  have hne : ((x : Int) == (y : Int)) = false := beq_eq_false_iff_ne.2 (by omega)
  obtain ⟨f1, t1, e1, -, ht1⟩ := dEnds_ok hW hx
  obtain ⟨f2, t2, e2, -, ht2⟩ := dEnds_ok hW hy
  have HX : Hid ((dEnds ls (x ^^^ 1)).1 = (t1 : Int)) := Lib.hid (by rw [dEnds_xor, e1])
  have HY : Hid ((dEnds ls (y ^^^ 1)).1 = (t2 : Int)) := Lib.hid (by rw [dEnds_xor, e2])
  have HC : Hid (cmpv ns ls k x y = if bfa (gp ns k) (gp ns t1) (gp ns t2) = true then -1 else 1) := Lib.hid (by unfold cmpv dlt; rw [e1, e2])
  have hx1 := xor1_lt hx
  have hy1 := xor1_lt hy
  have xx := xor1_w x (by omega)
  have xy := xor1_w y (by omega)
  have q1 := nok_at hW hk
  have q2 := nok_at hW ht1
  have q3 := nok_at hW ht2
  obtain ⟨bb, off, rfl, hbb, n1, n2⟩ := h.h.gp_ hk
  obtain ⟨b', off', he, hbb', n3, n4⟩ := h.h.gp_ ht1
  obtain ⟨rfl, rfl⟩ : bb = b' ∧ off = off' := by simpa using he
  clear he hbb'
  obtain ⟨b', off', he, hbb', n5, n6⟩ := h.h.gp_ ht2
  obtain ⟨rfl, rfl⟩ : bb = b' ∧ off = off' := by simpa using he
  clear he hbb' hW e1 e2
  have u1 : (k : Int) < ns.length := by omega
  have u2 : (t1 : Int) < ns.length := by omega
  have u3 : (t2 : Int) < ns.length := by omega
  generalize gp ns k = X at *
  generalize gp ns t1 = Y at *
  generalize gp ns t2 = Z at *
  obtain ⟨ax, ay⟩ := X
  obtain ⟨bx, by'⟩ := Y
  obtain ⟨cx, cy⟩ := Z
  generalize x ^^^ 1 = x1 at *
  generalize y ^^^ 1 = y1 at *
  go_enter Tryz.func102, Tryz.ntmps102
  go_wp2_with fail
  go_cut [7, 8, 9] (fun s7 s8 s9 wx => ∃ g7 g8 g9, s7 = .pointer (some ⟨g7, 0, none⟩) ∧ s8 = .pointer (some ⟨g8, 0, none⟩) ∧ s9 = .pointer (some ⟨g9, 0, none⟩) ∧ wx.cell? ⟨g7, 0, none⟩ = some (.int .i64 ax) ∧ wx.cell? ⟨g7, 1, none⟩ = some (.int .i64 ay) ∧
    wx.cell? ⟨g8, 0, none⟩ = some (.int .i64 bx) ∧ wx.cell? ⟨g8, 1, none⟩ = some (.int .i64 by') ∧ wx.cell? ⟨g9, 0, none⟩ = some (.int .i64 cx) ∧ wx.cell? ⟨g9, 1, none⟩ = some (.int .i64 cy) ∧ Ext w wx)
  case first =>
    have d0 := cell_regrown k0
    have d1 := cell_regrown k1
    have d2 := cell_regrown kk
    have d3 := cell_regrown n1
    have d4 := cell_regrown n2
    have d5 := cell_regrown n3
    have d6 := cell_regrown n4
    have d7 := cell_regrown n5
    have d8 := cell_regrown n6
    refine rx_open [(true, 0, some 10, 4), (true, 1, some 11, 1024), (true, 0, some 12, 8), (true, 6, some 13, 6144), (true, 8, some 14, 8192), (true, 0, some 15, 4), (true, 32, some 16, 32768), (true, 0, some 17, 4), (true, 0, some 18, 1), (true, 256, some 19, 262144), (false, 640, some 20, 655360), (true, 1088, some 21, 1114112), (true, 2048, some 22, 2097152), (true, 0, some 23, 4), (true, 8192, some 24, 8388608), (true, 0, some 25, 4), (true, 0, some 26, 2), (true, 65536, some 27, 67108864), (false, 164864, some 28, 167772160), (true, 278528, some 29, 285212672), (true, 524288, some 30, 536870912), (false, 0, some 7, 0), (false, 0, some 8, 0), (false, 0, some 9, 0), (false, 14942239, none, 16512), (false, 31465471, none, 4194560), (false, 67108863, none, 1073742336)] 67108864 27 mixd rfl (by kernel_rfl) (by kernel_rfl) (by kernel_rfl) ?_
    have hxc := Ext.drew (Ext.refl w)
    obtain ⟨wz, hwz⟩ : ∃ x : World, x = w.drew := ⟨_, rfl⟩
    rw [← hwz]
    rw [← hwz] at hxc
    clear hwz
    apply rx_memo
    intro M23
    apply rx_memo
    intro M22
    apply rx_memo
    intro M21
    apply rx_memo
    intro M20
    apply rx_memo
    intro M19
    apply rx_memo
    intro M18
    apply rx_memo
    intro M17
    apply rx_memo
    intro M16
    apply rx_memo
    intro M15
    apply rx_memo
    intro M14
    apply rx_memo
    intro M13
    apply rx_memo
    intro M12
    apply rx_memo
    intro M11
    apply rx_memo
    intro M10
    apply rx_memo
    intro M9
    apply rx_memo
    intro M8
    apply rx_memo
    intro M7
    apply rx_memo
    intro M6
    apply rx_memo
    intro M5
    apply rx_memo
    intro M4
    apply rx_memo
    intro M3
    apply rx_memo
    intro M2
    apply rx_memo
    intro M1
    · skip
      refine rx_run (run := [0, 1, 2, 3, 4, 5, 6, 7, 8, 9, 13, 14, 15, 16, 17]) (k := 12) (m' := 254975) rfl (by kernel_rfl) (by kernel_rfl) (by kernel_rfl) (fm_cons rfl <| fm_cons rfl <| fm_cons rfl <| fm_cons rfl <| fm_cons rfl <| fm_cons rfl <| fm_cons rfl <| fm_cons rfl <| fm_cons rfl <| fm_cons rfl <| fm_cons rfl <| fm_cons rfl <| fm_cons rfl <| fm_cons rfl <| fm_cons rfl <| List.filterMap_nil) hxc ?_
      repeat (go_big_quiet_step ((fail)))
      refine wpQuiet_nil ?_
      refine rx_four 10 21 22 23 (k := 11) (mi := 255999) (mj := 2352127) (mk := 4449279) (ml := 8643583) rfl rfl rfl rfl rfl (by kernel_rfl) (by kernel_rfl) (by kernel_rfl) (by kernel_rfl) (by kernel_rfl) ?_ ?_ ?_ ?_
      · skip
        go_wp2_with (go_at_call 97; ((with_reducible refine (dartFrom_c _ _ _ _ ns ls x1 _ (h.ext hxc) hx1).mono ?_); rw [HX.out]; rintro e w5 ⟨rfl, hb5⟩); replace hxc := Ext.trans hxc hb5; clear hb5)
        refine rx_on hxc ?_
        refine rx_run (run := [11, 12]) (k := 9) (m' := 262143) rfl (by kernel_rfl) (by kernel_rfl) (by kernel_rfl) (fm_cons rfl <| fm_cons rfl <| List.filterMap_nil) hxc ?_
        repeat (go_big_quiet_step ((fail)))
        refine wpQuiet_nil ?_
        revert hxc
        revert w5
        exact M7
      · skip
        go_wp2
        refine rx_on (Ext.alloc hxc _) ?_
        generalize hg : (wz).heap.size = g7
        refine rx_gen3 hxc hg ?_
        intro wn hbn hxn v7
        clear hg hbn
        replace hxc := hxn
        clear hxn
        revert v7
        revert hxc
        revert wn
        revert g7
        exact M1
      · skip
        go_wp2
        refine rx_on (Ext.alloc hxc _) ?_
        generalize hg : (wz).heap.size = g8
        refine rx_gen3 hxc hg ?_
        intro wn hbn hxn v8
        clear hg hbn
        replace hxc := hxn
        clear hxn
        revert v8
        revert hxc
        revert wn
        revert g8
        exact M2
      · skip
        go_wp2
        refine rx_on (Ext.alloc hxc _) ?_
        generalize hg : (wz).heap.size = g9
        refine rx_gen3 hxc hg ?_
        intro wn hbn hxn v9
        clear hg hbn
        replace hxc := hxn
        clear hxn
        revert v9
        revert hxc
        revert wn
        revert g9
        exact M3
    · skip
      intro g7 wz hxc v7
      refine rx_three 10 22 23 (k := 10) (mi := 2353151) (mj := 6546431) (mk := 10740735) rfl rfl rfl rfl (by kernel_rfl) (by kernel_rfl) (by kernel_rfl) (by kernel_rfl) ?_ ?_ ?_
      · skip
        go_wp2_with (go_at_call 97; ((with_reducible refine (dartFrom_c _ _ _ _ ns ls x1 _ (h.ext hxc) hx1).mono ?_); rw [HX.out]; rintro e w5 ⟨rfl, hb5⟩); replace hxc := Ext.trans hxc hb5; replace v7 := v7.ext hb5; clear hb5)
        refine rx_on hxc ?_
        refine rx_run (run := [11, 12]) (k := 8) (m' := 2359295) rfl (by kernel_rfl) (by kernel_rfl) (by kernel_rfl) (fm_cons rfl <| fm_cons rfl <| List.filterMap_nil) hxc ?_
        repeat (go_big_quiet_step ((fail)))
        refine wpQuiet_nil ?_
        revert v7
        revert hxc
        revert w5
        revert g7
        exact M9
      · skip
        go_wp2
        refine rx_on (Ext.alloc hxc _) ?_
        generalize hg : (wz).heap.size = g8
        refine rx_gen3 hxc hg ?_
        intro wn hbn hxn v8
        have n7_8 : g7 ≠ g8 := by have := v7.2.2.2.2.1; omega
        have n8_7 := Ne.symm n7_8
        replace v7 := v7.ext hbn
        clear hg hbn
        replace hxc := hxn
        clear hxn
        revert n8_7
        revert n7_8
        revert v8
        revert v7
        revert hxc
        revert wn
        revert g8
        revert g7
        exact M4
      · skip
        go_wp2
        refine rx_on (Ext.alloc hxc _) ?_
        generalize hg : (wz).heap.size = g9
        refine rx_gen3 hxc hg ?_
        intro wn hbn hxn v9
        have n7_9 : g7 ≠ g9 := by have := v7.2.2.2.2.1; omega
        have n9_7 := Ne.symm n7_9
        replace v7 := v7.ext hbn
        clear hg hbn
        replace hxc := hxn
        clear hxn
        revert n9_7
        revert n7_9
        revert v9
        revert v7
        revert hxc
        revert wn
        revert g9
        revert g7
        exact M5
    · skip
      intro g8 wz hxc v8
      refine rx_three 10 21 23 (k := 10) (mi := 4450303) (mj := 6546431) (mk := 12837887) rfl rfl rfl rfl (by kernel_rfl) (by kernel_rfl) (by kernel_rfl) (by kernel_rfl) ?_ ?_ ?_
      · skip
        go_wp2_with (go_at_call 97; ((with_reducible refine (dartFrom_c _ _ _ _ ns ls x1 _ (h.ext hxc) hx1).mono ?_); rw [HX.out]; rintro e w5 ⟨rfl, hb5⟩); replace hxc := Ext.trans hxc hb5; replace v8 := v8.ext hb5; clear hb5)
        refine rx_on hxc ?_
        refine rx_run (run := [11, 12]) (k := 8) (m' := 4456447) rfl (by kernel_rfl) (by kernel_rfl) (by kernel_rfl) (fm_cons rfl <| fm_cons rfl <| List.filterMap_nil) hxc ?_
        repeat (go_big_quiet_step ((fail)))
        refine wpQuiet_nil ?_
        revert v8
        revert hxc
        revert w5
        revert g8
        exact M10
      · skip
        go_wp2
        refine rx_on (Ext.alloc hxc _) ?_
        generalize hg : (wz).heap.size = g7
        refine rx_gen3 hxc hg ?_
        intro wn hbn hxn v7
        have n8_7 : g8 ≠ g7 := by have := v8.2.2.2.2.1; omega
        have n7_8 := Ne.symm n8_7
        replace v8 := v8.ext hbn
        clear hg hbn
        replace hxc := hxn
        clear hxn
        revert n8_7
        revert n7_8
        revert v8
        revert v7
        revert hxc
        revert wn
        revert g8
        revert g7
        exact M4
      · skip
        go_wp2
        refine rx_on (Ext.alloc hxc _) ?_
        generalize hg : (wz).heap.size = g9
        refine rx_gen3 hxc hg ?_
        intro wn hbn hxn v9
        have n8_9 : g8 ≠ g9 := by have := v8.2.2.2.2.1; omega
        have n9_8 := Ne.symm n8_9
        replace v8 := v8.ext hbn
        clear hg hbn
        replace hxc := hxn
        clear hxn
        revert n9_8
        revert n8_9
        revert v9
        revert v8
        revert hxc
        revert wn
        revert g9
        revert g8
        exact M6
    · skip
      intro g9 wz hxc v9
      refine rx_three 10 21 22 (k := 10) (mi := 8644607) (mj := 10740735) (mk := 12837887) rfl rfl rfl rfl (by kernel_rfl) (by kernel_rfl) (by kernel_rfl) (by kernel_rfl) ?_ ?_ ?_
      · skip
        go_wp2_with (go_at_call 97; ((with_reducible refine (dartFrom_c _ _ _ _ ns ls x1 _ (h.ext hxc) hx1).mono ?_); rw [HX.out]; rintro e w5 ⟨rfl, hb5⟩); replace hxc := Ext.trans hxc hb5; replace v9 := v9.ext hb5; clear hb5)
        refine rx_on hxc ?_
        refine rx_run (run := [11, 12]) (k := 8) (m' := 8650751) rfl (by kernel_rfl) (by kernel_rfl) (by kernel_rfl) (fm_cons rfl <| fm_cons rfl <| List.filterMap_nil) hxc ?_
        repeat (go_big_quiet_step ((fail)))
        refine wpQuiet_nil ?_
        revert v9
        revert hxc
        revert w5
        revert g9
        exact M11
      · skip
        go_wp2
        refine rx_on (Ext.alloc hxc _) ?_
        generalize hg : (wz).heap.size = g7
        refine rx_gen3 hxc hg ?_
        intro wn hbn hxn v7
        have n9_7 : g9 ≠ g7 := by have := v9.2.2.2.2.1; omega
        have n7_9 := Ne.symm n9_7
        replace v9 := v9.ext hbn
        clear hg hbn
        replace hxc := hxn
        clear hxn
        revert n9_7
        revert n7_9
        revert v9
        revert v7
        revert hxc
        revert wn
        revert g9
        revert g7
        exact M5
      · skip
        go_wp2
        refine rx_on (Ext.alloc hxc _) ?_
        generalize hg : (wz).heap.size = g8
        refine rx_gen3 hxc hg ?_
        intro wn hbn hxn v8
        have n9_8 : g9 ≠ g8 := by have := v9.2.2.2.2.1; omega
        have n8_9 := Ne.symm n9_8
        replace v9 := v9.ext hbn
        clear hg hbn
        replace hxc := hxn
        clear hxn
        revert n9_8
        revert n8_9
        revert v9
        revert v8
        revert hxc
        revert wn
        revert g9
        revert g8
        exact M6
    · skip
      intro g7 g8 wz hxc v7 v8 n7_8 n8_7
      refine rx_two 10 23 (k := 9) (mi := 6547455) (mj := 14935039) rfl rfl rfl (by kernel_rfl) (by kernel_rfl) (by kernel_rfl) ?_ ?_
      · skip
        go_wp2_with (go_at_call 97; ((with_reducible refine (dartFrom_c _ _ _ _ ns ls x1 _ (h.ext hxc) hx1).mono ?_); rw [HX.out]; rintro e w5 ⟨rfl, hb5⟩); replace hxc := Ext.trans hxc hb5; replace v7 := v7.ext hb5; replace v8 := v8.ext hb5; clear hb5)
        refine rx_on hxc ?_
        refine rx_run (run := [11, 12]) (k := 7) (m' := 6553599) rfl (by kernel_rfl) (by kernel_rfl) (by kernel_rfl) (fm_cons rfl <| fm_cons rfl <| List.filterMap_nil) hxc ?_
        repeat (go_big_quiet_step ((fail)))
        refine wpQuiet_nil ?_
        revert n8_7
        revert n7_8
        revert v8
        revert v7
        revert hxc
        revert w5
        revert g8
        revert g7
        exact M12
      · skip
        go_wp2
        refine rx_on (Ext.alloc hxc _) ?_
        generalize hg : (wz).heap.size = g9
        refine rx_gen3 hxc hg ?_
        intro wn hbn hxn v9
        have n7_9 : g7 ≠ g9 := by have := v7.2.2.2.2.1; omega
        have n9_7 := Ne.symm n7_9
        replace v7 := v7.ext hbn
        have n8_9 : g8 ≠ g9 := by have := v8.2.2.2.2.1; omega
        have n9_8 := Ne.symm n8_9
        replace v8 := v8.ext hbn
        clear hg hbn
        replace hxc := hxn
        clear hxn
        revert n9_8
        revert n9_7
        revert n8_9
        revert n8_7
        revert n7_9
        revert n7_8
        revert v9
        revert v8
        revert v7
        revert hxc
        revert wn
        revert g9
        revert g8
        revert g7
        exact M8
    · skip
      intro g7 g9 wz hxc v7 v9 n7_9 n9_7
      refine rx_two 10 22 (k := 9) (mi := 10741759) (mj := 14935039) rfl rfl rfl (by kernel_rfl) (by kernel_rfl) (by kernel_rfl) ?_ ?_
      · skip
        go_wp2_with (go_at_call 97; ((with_reducible refine (dartFrom_c _ _ _ _ ns ls x1 _ (h.ext hxc) hx1).mono ?_); rw [HX.out]; rintro e w5 ⟨rfl, hb5⟩); replace hxc := Ext.trans hxc hb5; replace v7 := v7.ext hb5; replace v9 := v9.ext hb5; clear hb5)
        refine rx_on hxc ?_
        refine rx_run (run := [11, 12]) (k := 7) (m' := 10747903) rfl (by kernel_rfl) (by kernel_rfl) (by kernel_rfl) (fm_cons rfl <| fm_cons rfl <| List.filterMap_nil) hxc ?_
        repeat (go_big_quiet_step ((fail)))
        refine wpQuiet_nil ?_
        revert n9_7
        revert n7_9
        revert v9
        revert v7
        revert hxc
        revert w5
        revert g9
        revert g7
        exact M13
      · skip
        go_wp2
        refine rx_on (Ext.alloc hxc _) ?_
        generalize hg : (wz).heap.size = g8
        refine rx_gen3 hxc hg ?_
        intro wn hbn hxn v8
        have n7_8 : g7 ≠ g8 := by have := v7.2.2.2.2.1; omega
        have n8_7 := Ne.symm n7_8
        replace v7 := v7.ext hbn
        have n9_8 : g9 ≠ g8 := by have := v9.2.2.2.2.1; omega
        have n8_9 := Ne.symm n9_8
        replace v9 := v9.ext hbn
        clear hg hbn
        replace hxc := hxn
        clear hxn
        revert n9_8
        revert n9_7
        revert n8_9
        revert n8_7
        revert n7_9
        revert n7_8
        revert v9
        revert v8
        revert v7
        revert hxc
        revert wn
        revert g9
        revert g8
        revert g7
        exact M8
    · skip
      intro g8 g9 wz hxc v8 v9 n8_9 n9_8
      refine rx_two 10 21 (k := 9) (mi := 12838911) (mj := 14935039) rfl rfl rfl (by kernel_rfl) (by kernel_rfl) (by kernel_rfl) ?_ ?_
      · skip
        go_wp2_with (go_at_call 97; ((with_reducible refine (dartFrom_c _ _ _ _ ns ls x1 _ (h.ext hxc) hx1).mono ?_); rw [HX.out]; rintro e w5 ⟨rfl, hb5⟩); replace hxc := Ext.trans hxc hb5; replace v8 := v8.ext hb5; replace v9 := v9.ext hb5; clear hb5)
        refine rx_on hxc ?_
        refine rx_run (run := [11, 12]) (k := 7) (m' := 12845055) rfl (by kernel_rfl) (by kernel_rfl) (by kernel_rfl) (fm_cons rfl <| fm_cons rfl <| List.filterMap_nil) hxc ?_
        repeat (go_big_quiet_step ((fail)))
        refine wpQuiet_nil ?_
        revert n9_8
        revert n8_9
        revert v9
        revert v8
        revert hxc
        revert w5
        revert g9
        revert g8
        exact M14
      · skip
        go_wp2
        refine rx_on (Ext.alloc hxc _) ?_
        generalize hg : (wz).heap.size = g7
        refine rx_gen3 hxc hg ?_
        intro wn hbn hxn v7
        have n8_7 : g8 ≠ g7 := by have := v8.2.2.2.2.1; omega
        have n7_8 := Ne.symm n8_7
        replace v8 := v8.ext hbn
        have n9_7 : g9 ≠ g7 := by have := v9.2.2.2.2.1; omega
        have n7_9 := Ne.symm n9_7
        replace v9 := v9.ext hbn
        clear hg hbn
        replace hxc := hxn
        clear hxn
        revert n9_8
        revert n9_7
        revert n8_9
        revert n8_7
        revert n7_9
        revert n7_8
        revert v9
        revert v8
        revert v7
        revert hxc
        revert wn
        revert g9
        revert g8
        revert g7
        exact M8
    · skip
      intro wz hxc
      refine rx_four 18 21 22 23 (k := 8) (mi := 524287) (mj := 2359295) (mk := 4456447) (ml := 8650751) rfl rfl rfl rfl rfl (by kernel_rfl) (by kernel_rfl) (by kernel_rfl) (by kernel_rfl) (by kernel_rfl) ?_ ?_ ?_ ?_
      · skip
        go_wp2_with (go_at_call 97; ((with_reducible refine (dartFrom_c _ _ _ _ ns ls y1 _ (h.ext hxc) hy1).mono ?_); rw [HY.out]; rintro e w5 ⟨rfl, hb5⟩); replace hxc := Ext.trans hxc hb5; clear hb5)
        refine rx_on hxc ?_
        refine rx_run (run := [19, 20]) (k := 6) (m' := 2097151) rfl (by kernel_rfl) (by kernel_rfl) (by kernel_rfl) (fm_cons rfl <| fm_cons rfl <| List.filterMap_nil) hxc ?_
        repeat (go_big_quiet_step ((fail)))
        refine wpQuiet_nil ?_
        revert hxc
        revert w5
        exact M15
      · skip
        go_wp2
        refine rx_on (Ext.alloc hxc _) ?_
        generalize hg : (wz).heap.size = g7
        refine rx_gen3 hxc hg ?_
        intro wn hbn hxn v7
        clear hg hbn
        replace hxc := hxn
        clear hxn
        revert v7
        revert hxc
        revert wn
        revert g7
        exact M9
      · skip
        go_wp2
        refine rx_on (Ext.alloc hxc _) ?_
        generalize hg : (wz).heap.size = g8
        refine rx_gen3 hxc hg ?_
        intro wn hbn hxn v8
        clear hg hbn
        replace hxc := hxn
        clear hxn
        revert v8
        revert hxc
        revert wn
        revert g8
        exact M10
      · skip
        go_wp2
        refine rx_on (Ext.alloc hxc _) ?_
        generalize hg : (wz).heap.size = g9
        refine rx_gen3 hxc hg ?_
        intro wn hbn hxn v9
        clear hg hbn
        replace hxc := hxn
        clear hxn
        revert v9
        revert hxc
        revert wn
        revert g9
        exact M11
    · skip
      intro g7 g8 g9 wz hxc v7 v8 v9 n7_8 n7_9 n8_7 n8_9 n9_7 n9_8
      refine rx_op 10 (k := 8) (m' := 14936063) rfl rfl (by kernel_rfl) (by kernel_rfl) ?_
      go_wp2_with (go_at_call 97; ((with_reducible refine (dartFrom_c _ _ _ _ ns ls x1 _ (h.ext hxc) hx1).mono ?_); rw [HX.out]; rintro e w5 ⟨rfl, hb5⟩); replace hxc := Ext.trans hxc hb5; replace v7 := v7.ext hb5; replace v8 := v8.ext hb5; replace v9 := v9.ext hb5; clear hb5)
      refine rx_on hxc ?_
      refine rx_run (run := [11, 12]) (k := 6) (m' := 14942207) rfl (by kernel_rfl) (by kernel_rfl) (by kernel_rfl) (fm_cons rfl <| fm_cons rfl <| List.filterMap_nil) hxc ?_
      repeat (go_big_quiet_step ((fail)))
      refine wpQuiet_nil ?_
      revert n9_8
      revert n9_7
      revert n8_9
      revert n8_7
      revert n7_9
      revert n7_8
      revert v9
      revert v8
      revert v7
      revert hxc
      revert w5
      revert g9
      revert g8
      revert g7
      exact M16
    · skip
      intro g7 wz hxc v7
      refine rx_three 18 22 23 (k := 7) (mi := 2621439) (mj := 6553599) (mk := 10747903) rfl rfl rfl rfl (by kernel_rfl) (by kernel_rfl) (by kernel_rfl) (by kernel_rfl) ?_ ?_ ?_
      · skip
        go_wp2_with (go_at_call 97; ((with_reducible refine (dartFrom_c _ _ _ _ ns ls y1 _ (h.ext hxc) hy1).mono ?_); rw [HY.out]; rintro e w5 ⟨rfl, hb5⟩); replace hxc := Ext.trans hxc hb5; replace v7 := v7.ext hb5; clear hb5)
        refine rx_on hxc ?_
        refine rx_run (run := [19, 20]) (k := 5) (m' := 4194303) rfl (by kernel_rfl) (by kernel_rfl) (by kernel_rfl) (fm_cons rfl <| fm_cons rfl <| List.filterMap_nil) hxc ?_
        repeat (go_big_quiet_step ((fail)))
        refine wpQuiet_nil ?_
        revert v7
        revert hxc
        revert w5
        revert g7
        exact M17
      · skip
        go_wp2
        refine rx_on (Ext.alloc hxc _) ?_
        generalize hg : (wz).heap.size = g8
        refine rx_gen3 hxc hg ?_
        intro wn hbn hxn v8
        have n7_8 : g7 ≠ g8 := by have := v7.2.2.2.2.1; omega
        have n8_7 := Ne.symm n7_8
        replace v7 := v7.ext hbn
        clear hg hbn
        replace hxc := hxn
        clear hxn
        revert n8_7
        revert n7_8
        revert v8
        revert v7
        revert hxc
        revert wn
        revert g8
        revert g7
        exact M12
      · skip
        go_wp2
        refine rx_on (Ext.alloc hxc _) ?_
        generalize hg : (wz).heap.size = g9
        refine rx_gen3 hxc hg ?_
        intro wn hbn hxn v9
        have n7_9 : g7 ≠ g9 := by have := v7.2.2.2.2.1; omega
        have n9_7 := Ne.symm n7_9
        replace v7 := v7.ext hbn
        clear hg hbn
        replace hxc := hxn
        clear hxn
        revert n9_7
        revert n7_9
        revert v9
        revert v7
        revert hxc
        revert wn
        revert g9
        revert g7
        exact M13
    · skip
      intro g8 wz hxc v8
      refine rx_three 18 21 23 (k := 7) (mi := 4718591) (mj := 6553599) (mk := 12845055) rfl rfl rfl rfl (by kernel_rfl) (by kernel_rfl) (by kernel_rfl) (by kernel_rfl) ?_ ?_ ?_
      · skip
        go_wp2_with (go_at_call 97; ((with_reducible refine (dartFrom_c _ _ _ _ ns ls y1 _ (h.ext hxc) hy1).mono ?_); rw [HY.out]; rintro e w5 ⟨rfl, hb5⟩); replace hxc := Ext.trans hxc hb5; replace v8 := v8.ext hb5; clear hb5)
        refine rx_on hxc ?_
        refine rx_run (run := [19, 20]) (k := 5) (m' := 6291455) rfl (by kernel_rfl) (by kernel_rfl) (by kernel_rfl) (fm_cons rfl <| fm_cons rfl <| List.filterMap_nil) hxc ?_
        repeat (go_big_quiet_step ((fail)))
        refine wpQuiet_nil ?_
        revert v8
        revert hxc
        revert w5
        revert g8
        exact M18
      · skip
        go_wp2
        refine rx_on (Ext.alloc hxc _) ?_
        generalize hg : (wz).heap.size = g7
        refine rx_gen3 hxc hg ?_
        intro wn hbn hxn v7
        have n8_7 : g8 ≠ g7 := by have := v8.2.2.2.2.1; omega
        have n7_8 := Ne.symm n8_7
        replace v8 := v8.ext hbn
        clear hg hbn
        replace hxc := hxn
        clear hxn
        revert n8_7
        revert n7_8
        revert v8
        revert v7
        revert hxc
        revert wn
        revert g8
        revert g7
        exact M12
      · skip
        go_wp2
        refine rx_on (Ext.alloc hxc _) ?_
        generalize hg : (wz).heap.size = g9
        refine rx_gen3 hxc hg ?_
        intro wn hbn hxn v9
        have n8_9 : g8 ≠ g9 := by have := v8.2.2.2.2.1; omega
        have n9_8 := Ne.symm n8_9
        replace v8 := v8.ext hbn
        clear hg hbn
        replace hxc := hxn
        clear hxn
        revert n9_8
        revert n8_9
        revert v9
        revert v8
        revert hxc
        revert wn
        revert g9
        revert g8
        exact M14
    · skip
      intro g9 wz hxc v9
      refine rx_three 18 21 22 (k := 7) (mi := 8912895) (mj := 10747903) (mk := 12845055) rfl rfl rfl rfl (by kernel_rfl) (by kernel_rfl) (by kernel_rfl) (by kernel_rfl) ?_ ?_ ?_
      · skip
        go_wp2_with (go_at_call 97; ((with_reducible refine (dartFrom_c _ _ _ _ ns ls y1 _ (h.ext hxc) hy1).mono ?_); rw [HY.out]; rintro e w5 ⟨rfl, hb5⟩); replace hxc := Ext.trans hxc hb5; replace v9 := v9.ext hb5; clear hb5)
        refine rx_on hxc ?_
        refine rx_run (run := [19, 20]) (k := 5) (m' := 10485759) rfl (by kernel_rfl) (by kernel_rfl) (by kernel_rfl) (fm_cons rfl <| fm_cons rfl <| List.filterMap_nil) hxc ?_
        repeat (go_big_quiet_step ((fail)))
        refine wpQuiet_nil ?_
        revert v9
        revert hxc
        revert w5
        revert g9
        exact M19
      · skip
        go_wp2
        refine rx_on (Ext.alloc hxc _) ?_
        generalize hg : (wz).heap.size = g7
        refine rx_gen3 hxc hg ?_
        intro wn hbn hxn v7
        have n9_7 : g9 ≠ g7 := by have := v9.2.2.2.2.1; omega
        have n7_9 := Ne.symm n9_7
        replace v9 := v9.ext hbn
        clear hg hbn
        replace hxc := hxn
        clear hxn
        revert n9_7
        revert n7_9
        revert v9
        revert v7
        revert hxc
        revert wn
        revert g9
        revert g7
        exact M13
      · skip
        go_wp2
        refine rx_on (Ext.alloc hxc _) ?_
        generalize hg : (wz).heap.size = g8
        refine rx_gen3 hxc hg ?_
        intro wn hbn hxn v8
        have n9_8 : g9 ≠ g8 := by have := v9.2.2.2.2.1; omega
        have n8_9 := Ne.symm n9_8
        replace v9 := v9.ext hbn
        clear hg hbn
        replace hxc := hxn
        clear hxn
        revert n9_8
        revert n8_9
        revert v9
        revert v8
        revert hxc
        revert wn
        revert g9
        revert g8
        exact M14
    · skip
      intro g7 g8 wz hxc v7 v8 n7_8 n8_7
      refine rx_two 18 23 (k := 6) (mi := 6815743) (mj := 14942207) rfl rfl rfl (by kernel_rfl) (by kernel_rfl) (by kernel_rfl) ?_ ?_
      · skip
        go_wp2_with (go_at_call 97; ((with_reducible refine (dartFrom_c _ _ _ _ ns ls y1 _ (h.ext hxc) hy1).mono ?_); rw [HY.out]; rintro e w5 ⟨rfl, hb5⟩); replace hxc := Ext.trans hxc hb5; replace v7 := v7.ext hb5; replace v8 := v8.ext hb5; clear hb5)
        refine rx_on hxc ?_
        refine rx_run (run := [19, 20]) (k := 4) (m' := 8388607) rfl (by kernel_rfl) (by kernel_rfl) (by kernel_rfl) (fm_cons rfl <| fm_cons rfl <| List.filterMap_nil) hxc ?_
        repeat (go_big_quiet_step ((fail)))
        refine wpQuiet_nil ?_
        revert n8_7
        revert n7_8
        revert v8
        revert v7
        revert hxc
        revert w5
        revert g8
        revert g7
        exact M20
      · skip
        go_wp2
        refine rx_on (Ext.alloc hxc _) ?_
        generalize hg : (wz).heap.size = g9
        refine rx_gen3 hxc hg ?_
        intro wn hbn hxn v9
        have n7_9 : g7 ≠ g9 := by have := v7.2.2.2.2.1; omega
        have n9_7 := Ne.symm n7_9
        replace v7 := v7.ext hbn
        have n8_9 : g8 ≠ g9 := by have := v8.2.2.2.2.1; omega
        have n9_8 := Ne.symm n8_9
        replace v8 := v8.ext hbn
        clear hg hbn
        replace hxc := hxn
        clear hxn
        revert n9_8
        revert n9_7
        revert n8_9
        revert n8_7
        revert n7_9
        revert n7_8
        revert v9
        revert v8
        revert v7
        revert hxc
        revert wn
        revert g9
        revert g8
        revert g7
        exact M16
    · skip
      intro g7 g9 wz hxc v7 v9 n7_9 n9_7
      refine rx_two 18 22 (k := 6) (mi := 11010047) (mj := 14942207) rfl rfl rfl (by kernel_rfl) (by kernel_rfl) (by kernel_rfl) ?_ ?_
      · skip
        go_wp2_with (go_at_call 97; ((with_reducible refine (dartFrom_c _ _ _ _ ns ls y1 _ (h.ext hxc) hy1).mono ?_); rw [HY.out]; rintro e w5 ⟨rfl, hb5⟩); replace hxc := Ext.trans hxc hb5; replace v7 := v7.ext hb5; replace v9 := v9.ext hb5; clear hb5)
        refine rx_on hxc ?_
        refine rx_run (run := [19, 20]) (k := 4) (m' := 12582911) rfl (by kernel_rfl) (by kernel_rfl) (by kernel_rfl) (fm_cons rfl <| fm_cons rfl <| List.filterMap_nil) hxc ?_
        repeat (go_big_quiet_step ((fail)))
        refine wpQuiet_nil ?_
        revert n9_7
        revert n7_9
        revert v9
        revert v7
        revert hxc
        revert w5
        revert g9
        revert g7
        exact M21
      · skip
        go_wp2
        refine rx_on (Ext.alloc hxc _) ?_
        generalize hg : (wz).heap.size = g8
        refine rx_gen3 hxc hg ?_
        intro wn hbn hxn v8
        have n7_8 : g7 ≠ g8 := by have := v7.2.2.2.2.1; omega
        have n8_7 := Ne.symm n7_8
        replace v7 := v7.ext hbn
        have n9_8 : g9 ≠ g8 := by have := v9.2.2.2.2.1; omega
        have n8_9 := Ne.symm n9_8
        replace v9 := v9.ext hbn
        clear hg hbn
        replace hxc := hxn
        clear hxn
        revert n9_8
        revert n9_7
        revert n8_9
        revert n8_7
        revert n7_9
        revert n7_8
        revert v9
        revert v8
        revert v7
        revert hxc
        revert wn
        revert g9
        revert g8
        revert g7
        exact M16
    · skip
      intro g8 g9 wz hxc v8 v9 n8_9 n9_8
      refine rx_two 18 21 (k := 6) (mi := 13107199) (mj := 14942207) rfl rfl rfl (by kernel_rfl) (by kernel_rfl) (by kernel_rfl) ?_ ?_
      · skip
        go_wp2_with (go_at_call 97; ((with_reducible refine (dartFrom_c _ _ _ _ ns ls y1 _ (h.ext hxc) hy1).mono ?_); rw [HY.out]; rintro e w5 ⟨rfl, hb5⟩); replace hxc := Ext.trans hxc hb5; replace v8 := v8.ext hb5; replace v9 := v9.ext hb5; clear hb5)
        refine rx_on hxc ?_
        refine rx_run (run := [19, 20]) (k := 4) (m' := 14680063) rfl (by kernel_rfl) (by kernel_rfl) (by kernel_rfl) (fm_cons rfl <| fm_cons rfl <| List.filterMap_nil) hxc ?_
        repeat (go_big_quiet_step ((fail)))
        refine wpQuiet_nil ?_
        revert n9_8
        revert n8_9
        revert v9
        revert v8
        revert hxc
        revert w5
        revert g9
        revert g8
        exact M22
      · skip
        go_wp2
        refine rx_on (Ext.alloc hxc _) ?_
        generalize hg : (wz).heap.size = g7
        refine rx_gen3 hxc hg ?_
        intro wn hbn hxn v7
        have n8_7 : g8 ≠ g7 := by have := v8.2.2.2.2.1; omega
        have n7_8 := Ne.symm n8_7
        replace v8 := v8.ext hbn
        have n9_7 : g9 ≠ g7 := by have := v9.2.2.2.2.1; omega
        have n7_9 := Ne.symm n9_7
        replace v9 := v9.ext hbn
        clear hg hbn
        replace hxc := hxn
        clear hxn
        revert n9_8
        revert n9_7
        revert n8_9
        revert n8_7
        revert n7_9
        revert n7_8
        revert v9
        revert v8
        revert v7
        revert hxc
        revert wn
        revert g9
        revert g8
        revert g7
        exact M16
    · skip
      intro wz hxc
      refine rx_three 21 22 23 (k := 5) (mi := 4194303) (mj := 6291455) (mk := 10485759) rfl rfl rfl rfl (by kernel_rfl) (by kernel_rfl) (by kernel_rfl) (by kernel_rfl) ?_ ?_ ?_
      · skip
        go_wp2
        refine rx_on (Ext.alloc hxc _) ?_
        generalize hg : (wz).heap.size = g7
        refine rx_gen3 hxc hg ?_
        intro wn hbn hxn v7
        clear hg hbn
        replace hxc := hxn
        clear hxn
        revert v7
        revert hxc
        revert wn
        revert g7
        exact M17
      · skip
        go_wp2
        refine rx_on (Ext.alloc hxc _) ?_
        generalize hg : (wz).heap.size = g8
        refine rx_gen3 hxc hg ?_
        intro wn hbn hxn v8
        clear hg hbn
        replace hxc := hxn
        clear hxn
        revert v8
        revert hxc
        revert wn
        revert g8
        exact M18
      · skip
        go_wp2
        refine rx_on (Ext.alloc hxc _) ?_
        generalize hg : (wz).heap.size = g9
        refine rx_gen3 hxc hg ?_
        intro wn hbn hxn v9
        clear hg hbn
        replace hxc := hxn
        clear hxn
        revert v9
        revert hxc
        revert wn
        revert g9
        exact M19
    · skip
      intro g7 g8 g9 wz hxc v7 v8 v9 n7_8 n7_9 n8_7 n8_9 n9_7 n9_8
      refine rx_op 18 (k := 5) (m' := 15204351) rfl rfl (by kernel_rfl) (by kernel_rfl) ?_
      go_wp2_with (go_at_call 97; ((with_reducible refine (dartFrom_c _ _ _ _ ns ls y1 _ (h.ext hxc) hy1).mono ?_); rw [HY.out]; rintro e w5 ⟨rfl, hb5⟩); replace hxc := Ext.trans hxc hb5; replace v7 := v7.ext hb5; replace v8 := v8.ext hb5; replace v9 := v9.ext hb5; clear hb5)
      refine rx_on hxc ?_
      refine rx_run (run := [19, 20]) (k := 3) (m' := 16777215) rfl (by kernel_rfl) (by kernel_rfl) (by kernel_rfl) (fm_cons rfl <| fm_cons rfl <| List.filterMap_nil) hxc ?_
      repeat (go_big_quiet_step ((fail)))
      refine wpQuiet_nil ?_
      revert n9_8
      revert n9_7
      revert n8_9
      revert n8_7
      revert n7_9
      revert n7_8
      revert v9
      revert v8
      revert v7
      revert hxc
      revert w5
      revert g9
      revert g8
      revert g7
      exact M23
    · skip
      intro g7 wz hxc v7
      refine rx_two 22 23 (k := 4) (mi := 8388607) (mj := 12582911) rfl rfl rfl (by kernel_rfl) (by kernel_rfl) (by kernel_rfl) ?_ ?_
      · skip
        go_wp2
        refine rx_on (Ext.alloc hxc _) ?_
        generalize hg : (wz).heap.size = g8
        refine rx_gen3 hxc hg ?_
        intro wn hbn hxn v8
        have n7_8 : g7 ≠ g8 := by have := v7.2.2.2.2.1; omega
        have n8_7 := Ne.symm n7_8
        replace v7 := v7.ext hbn
        clear hg hbn
        replace hxc := hxn
        clear hxn
        revert n8_7
        revert n7_8
        revert v8
        revert v7
        revert hxc
        revert wn
        revert g8
        revert g7
        exact M20
      · skip
        go_wp2
        refine rx_on (Ext.alloc hxc _) ?_
        generalize hg : (wz).heap.size = g9
        refine rx_gen3 hxc hg ?_
        intro wn hbn hxn v9
        have n7_9 : g7 ≠ g9 := by have := v7.2.2.2.2.1; omega
        have n9_7 := Ne.symm n7_9
        replace v7 := v7.ext hbn
        clear hg hbn
        replace hxc := hxn
        clear hxn
        revert n9_7
        revert n7_9
        revert v9
        revert v7
        revert hxc
        revert wn
        revert g9
        revert g7
        exact M21
    · skip
      intro g8 wz hxc v8
      refine rx_two 21 23 (k := 4) (mi := 8388607) (mj := 14680063) rfl rfl rfl (by kernel_rfl) (by kernel_rfl) (by kernel_rfl) ?_ ?_
      · skip
        go_wp2
        refine rx_on (Ext.alloc hxc _) ?_
        generalize hg : (wz).heap.size = g7
        refine rx_gen3 hxc hg ?_
        intro wn hbn hxn v7
        have n8_7 : g8 ≠ g7 := by have := v8.2.2.2.2.1; omega
        have n7_8 := Ne.symm n8_7
        replace v8 := v8.ext hbn
        clear hg hbn
        replace hxc := hxn
        clear hxn
        revert n8_7
        revert n7_8
        revert v8
        revert v7
        revert hxc
        revert wn
        revert g8
        revert g7
        exact M20
      · skip
        go_wp2
        refine rx_on (Ext.alloc hxc _) ?_
        generalize hg : (wz).heap.size = g9
        refine rx_gen3 hxc hg ?_
        intro wn hbn hxn v9
        have n8_9 : g8 ≠ g9 := by have := v8.2.2.2.2.1; omega
        have n9_8 := Ne.symm n8_9
        replace v8 := v8.ext hbn
        clear hg hbn
        replace hxc := hxn
        clear hxn
        revert n9_8
        revert n8_9
        revert v9
        revert v8
        revert hxc
        revert wn
        revert g9
        revert g8
        exact M22
    · skip
      intro g9 wz hxc v9
      refine rx_two 21 22 (k := 4) (mi := 12582911) (mj := 14680063) rfl rfl rfl (by kernel_rfl) (by kernel_rfl) (by kernel_rfl) ?_ ?_
      · skip
        go_wp2
        refine rx_on (Ext.alloc hxc _) ?_
        generalize hg : (wz).heap.size = g7
        refine rx_gen3 hxc hg ?_
        intro wn hbn hxn v7
        have n9_7 : g9 ≠ g7 := by have := v9.2.2.2.2.1; omega
        have n7_9 := Ne.symm n9_7
        replace v9 := v9.ext hbn
        clear hg hbn
        replace hxc := hxn
        clear hxn
        revert n9_7
        revert n7_9
        revert v9
        revert v7
        revert hxc
        revert wn
        revert g9
        revert g7
        exact M21
      · skip
        go_wp2
        refine rx_on (Ext.alloc hxc _) ?_
        generalize hg : (wz).heap.size = g8
        refine rx_gen3 hxc hg ?_
        intro wn hbn hxn v8
        have n9_8 : g9 ≠ g8 := by have := v9.2.2.2.2.1; omega
        have n8_9 := Ne.symm n9_8
        replace v9 := v9.ext hbn
        clear hg hbn
        replace hxc := hxn
        clear hxn
        revert n9_8
        revert n8_9
        revert v9
        revert v8
        revert hxc
        revert wn
        revert g9
        revert g8
        exact M22
    · skip
      intro g7 g8 wz hxc v7 v8 n7_8 n8_7
      refine rx_op 23 (k := 3) (m' := 16777215) rfl rfl (by kernel_rfl) (by kernel_rfl) ?_
      go_wp2
      refine rx_on (Ext.alloc hxc _) ?_
      generalize hg : (wz).heap.size = g9
      refine rx_gen3 hxc hg ?_
      intro wn hbn hxn v9
      have n7_9 : g7 ≠ g9 := by have := v7.2.2.2.2.1; omega
      have n9_7 := Ne.symm n7_9
      replace v7 := v7.ext hbn
      have n8_9 : g8 ≠ g9 := by have := v8.2.2.2.2.1; omega
      have n9_8 := Ne.symm n8_9
      replace v8 := v8.ext hbn
      clear hg hbn
      replace hxc := hxn
      clear hxn
      revert n9_8
      revert n9_7
      revert n8_9
      revert n8_7
      revert n7_9
      revert n7_8
      revert v9
      revert v8
      revert v7
      revert hxc
      revert wn
      revert g9
      revert g8
      revert g7
      exact M23
    · skip
      intro g7 g9 wz hxc v7 v9 n7_9 n9_7
      refine rx_op 22 (k := 3) (m' := 16777215) rfl rfl (by kernel_rfl) (by kernel_rfl) ?_
      go_wp2
      refine rx_on (Ext.alloc hxc _) ?_
      generalize hg : (wz).heap.size = g8
      refine rx_gen3 hxc hg ?_
      intro wn hbn hxn v8
      have n7_8 : g7 ≠ g8 := by have := v7.2.2.2.2.1; omega
      have n8_7 := Ne.symm n7_8
      replace v7 := v7.ext hbn
      have n9_8 : g9 ≠ g8 := by have := v9.2.2.2.2.1; omega
      have n8_9 := Ne.symm n9_8
      replace v9 := v9.ext hbn
      clear hg hbn
      replace hxc := hxn
      clear hxn
      revert n9_8
      revert n9_7
      revert n8_9
      revert n8_7
      revert n7_9
      revert n7_8
      revert v9
      revert v8
      revert v7
      revert hxc
      revert wn
      revert g9
      revert g8
      revert g7
      exact M23
    · skip
      intro g8 g9 wz hxc v8 v9 n8_9 n9_8
      refine rx_op 21 (k := 3) (m' := 16777215) rfl rfl (by kernel_rfl) (by kernel_rfl) ?_
      go_wp2
      refine rx_on (Ext.alloc hxc _) ?_
      generalize hg : (wz).heap.size = g7
      refine rx_gen3 hxc hg ?_
      intro wn hbn hxn v7
      have n8_7 : g8 ≠ g7 := by have := v8.2.2.2.2.1; omega
      have n7_8 := Ne.symm n8_7
      replace v8 := v8.ext hbn
      have n9_7 : g9 ≠ g7 := by have := v9.2.2.2.2.1; omega
      have n7_9 := Ne.symm n9_7
      replace v9 := v9.ext hbn
      clear hg hbn
      replace hxc := hxn
      clear hxn
      revert n9_8
      revert n9_7
      revert n8_9
      revert n8_7
      revert n7_9
      revert n7_8
      revert v9
      revert v8
      revert v7
      revert hxc
      revert wn
      revert g9
      revert g8
      revert g7
      exact M23
    · skip
      intro g7 g8 g9 wz hxc v7 v8 v9 n7_8 n7_9 n8_7 n8_9 n9_7 n9_8
      obtain ⟨a7_0, a7_1, f7_0, f7_1, s7, l7⟩ := v7
      obtain ⟨a8_0, a8_1, f8_0, f8_1, s8, l8⟩ := v8
      obtain ⟨a9_0, a9_1, f9_0, f9_1, s9, l9⟩ := v9
      refine rx_op 24 (k := 2) (m' := 33554431) rfl rfl (by kernel_rfl) (by kernel_rfl) ?_
      go_wp2
      refine rx_on (by repeat first | exact Ext.refl _ | assumption | refine Ext.setCell ?_ (by assumption)) ?_
      refine rx_op 25 (k := 1) (m' := 67108863) rfl rfl (by kernel_rfl) (by kernel_rfl) ?_
      go_wp2
      refine rx_on (by repeat first | exact Ext.refl _ | assumption | refine Ext.setCell ?_ (by assumption)) ?_
      refine rx_op 26 (k := 0) (m' := 134217727) rfl rfl (by kernel_rfl) (by kernel_rfl) ?_
      go_wp2
      refine rx_lst (by decide) ?_
      refine rx_end (by kernel_rfl) ?_
      (go_wp2; go_meet; exact ⟨_, _, _, rfl, rfl, rfl, by go_simp, by go_simp, by go_simp, by go_simp, by go_simp, by go_simp, (by repeat first | exact Ext.refl _ | assumption | refine Ext.setCell ?_ (by assumption) | refine Ext.drew ?_ | refine Ext.alloc ?_ _ | refine Ext.trans ?_ (by assumption))⟩)
  case rest =>
    obtain ⟨g7, g8, g9, rfl, rfl, rfl, a0, a1, a2, a3, a4, a5, hb⟩ := hcut
    obtain ⟨w2, rfl⟩ : ∃ x : World, x = wc := ⟨_, rfl⟩
    clear k0 k1 kk n1 n2 n3 n4 n5 n6 xx xy
    go_wp2_with fail
    refine (IsBeforeAround_i _ _ _ _ _ _ _ q1 q2 q3).mono ?_
    rintro e w3 ⟨rfl, hb3⟩
    generalize bfa (ax, ay) (bx, by') (cx, cy) = r at *
    by_cases hr : r = true
    · subst hr
      go_wp2
      go_ret
      exact ⟨ret_i (by rw [HC.out]; rfl), hb.trans hb3⟩
    · have hr' := eq_false_of_ne_true hr
      subst hr'
      go_wp2
      go_ret
      exact ⟨ret_i (by rw [HC.out]; rfl), hb.trans hb3⟩
end Go.Proofs.YtdhmjhoaegdfjaaGreat

namespace Go.Proofs.YtdhmjhoaegdfjaaGreat
open Go.RowKit Go.Sort Go.BigFrame

theorem idxOf_at {l : List Nat} {d j : Nat} (hj : j < l.length) (h : l.getD j 0 = d) (hn : ∀ i, i < j → l.getD i 0 ≠ d) : l.idxOf d = j := by
  induction l generalizing j with
  | nil => simp at hj
  | cons a t ih =>
    rw [List.idxOf_cons]
    cases j with
    | zero =>
      have : a = d := by simpa using h
      simp [this]
    | succ j =>
      have h0 : a ≠ d := by have := hn 0 (by omega); simpa using this
      have : (a == d) = false := beq_eq_false_iff_ne.2 h0
      rw [this]
      simp only [cond_false]
      rw [ih (by simpa using hj) (by simpa using h) (fun i hi => by have := hn (i + 1) (by omega); simpa using this)]

set_option maxHeartbeats 1000000 in
theorem Index_c (A : Option Addr) (c : Nat) (l : List Nat) (d : Nat) (w : World) (h : In w w.heap.size A (nl l)) (hl : l.length ≤ 1000) (hd : d ∈ l) :
    Calls Tryz.prog 98 #[.slice A l.length c, .int .i64 (d : Int)] w fun e w' => e = .returned (.int .i64 ((l.idxOf d : Nat) : Int)) ∧ w = w' := by
  have HL := Lib.hid (nl_len l)
  have hil := List.idxOf_lt_length_of_mem hd
  have HI : Hid (l.getD (l.idxOf d) 0 = d) := Lib.hid (by rw [getD_at l hil]; exact List.getElem_idxOf hil)
  go_enter Tryz.func98, Tryz.ntmps98
  go_wp2
  go_loop [5, 8] (fun _ i => ∃ j : Nat, j ≤ l.length ∧ i = .int .i64 j ∧ Hid (∀ i, i < j → l.getD i 0 ≠ d)) (fun _ i => l.length - (intOf i).toNat)
  case atStart => exact ⟨0, by omega, rfl, Lib.hid (fun i hi => by omega)⟩
  case round =>
    obtain ⟨j, hj, rfl, ha⟩ := hrel
    by_cases hlt : j < l.length
    · obtain ⟨b, off, rfl, hbb, c1⟩ := h.gi_ (k := j) (by rw [HL.out]; exact hlt)
      rw [nl_gi l hlt] at c1
      by_cases he : l.getD j 0 = d
      · have HE := Lib.hid (idxOf_at hlt he ha.out)
        rw [he] at c1
        have hq : ((d : Int) == (d : Int)) = true := by simp
        go_wp2
        go_ret
        exact ⟨ret_i (by rw [HE.out]), rfl⟩
      · have hk : Hid (∀ i, i < j + 1 → l.getD i 0 ≠ d) := Lib.hid (fun i hi => by
          rcases Nat.lt_succ_iff_lt_or_eq.1 hi with h | h
          · exact ha.out i h
          · subst h; exact he)
        have hq : ((d : Int) == ((l.getD j 0 : Nat) : Int)) = false := beq_eq_false_iff_ne.2 (by omega)
        generalize l.getD j 0 = x at *
        go_wp2
        go_round
        case rel => exact ⟨j + 1, by omega, by go_num, hk⟩
        case measure => simp [intOf]; omega
    · exfalso
      have := ha.out (l.idxOf d) (by omega)
      exact this HI.out

/-! ### the sort -/
def insAll (lt : Nat → Nat → Bool) : List Nat → List Nat → List Nat
  | acc, [] => acc
  | acc, d :: t => insAll lt (ins lt d acc) t
theorem insAll_snoc (lt : Nat → Nat → Bool) : ∀ (l acc : List Nat) (d : Nat), insAll lt acc (l ++ [d]) = ins lt d (insAll lt acc l)
  | [], _, _ => rfl
  | x :: t, acc, d => insAll_snoc lt t (ins lt x acc) d
theorem insAll_len (lt : Nat → Nat → Bool) : ∀ (l acc : List Nat), (insAll lt acc l).length = acc.length + l.length
  | [], _ => rfl
  | x :: t, acc => by
    show (insAll lt (ins lt x acc) t).length = _
    rw [insAll_len lt t, (ins_perm lt x acc).length_eq]
    simp; omega
theorem insAll_mem (lt : Nat → Nat → Bool) : ∀ (l acc : List Nat) (x : Nat), x ∈ insAll lt acc l ↔ x ∈ acc ∨ x ∈ l
  | [], acc, x => by simp [insAll]
  | y :: t, acc, x => by
    show x ∈ insAll lt (ins lt y acc) t ↔ _
    rw [insAll_mem lt t, (ins_perm lt y acc).mem_iff]
    simp only [List.mem_cons]
    constructor
    · rintro ((h | h) | h)
      · exact .inr (.inl h)
      · exact .inl h
      · exact .inr (.inr h)
    · rintro (h | h | h)
      · exact .inl (.inr h)
      · exact .inl (.inl h)
      · exact .inr h
theorem arnN_insAll (ns ls : List P2) (k : Int) : ∀ j, arnN ns ls k j = insAll (dlt ns ls k) [] (dAt ls k j)
  | 0 => rfl
  | j + 1 => by
    have ih := arnN_insAll ns ls k j
    unfold arnN dAt
    rw [List.range_succ, List.filter_append]
    by_cases h : (dEnds ls j).1 = k
    · rw [if_pos h]
      have : List.filter (fun d => decide ((dEnds ls d).1 = k)) [j] = [j] := by simp [h]
      rw [this, insAll_snoc, ih]
      rfl
    · rw [if_neg h]
      have : List.filter (fun d => decide ((dEnds ls d).1 = k)) [j] = [] := by simp [h]
      rw [this, List.append_nil]
      exact ih
/-- sorted ahead of the i-th, the i-th on its way at place a -/
def srt (lt : Nat → Nat → Bool) (l : List Nat) (i a : Nat) : List Int := mid (insAll lt [] (l.take i)) a (l.getD i 0 : Nat) ++ nl (l.drop (i + 1))
def srd (lt : Nat → Nat → Bool) (l : List Nat) (i : Nat) : List Int := nl (insAll lt [] (l.take i)) ++ nl (l.drop i)
section
variable {lt : Nat → Nat → Bool} {l : List Nat} {i a : Nat}
theorem acc_len (hi : i ≤ l.length) : (insAll lt [] (l.take i)).length = i := by rw [insAll_len, List.length_take]; simp; omega
theorem srt_len (hi : i < l.length) (ha : a ≤ i) : (srt lt l i a).length = l.length := by
  unfold srt
  rw [List.length_append, mid_len (by rw [acc_len (by omega)]; exact ha), acc_len (by omega), nl_len, List.length_drop]; omega
theorem srd_len (hi : i ≤ l.length) : (srd lt l i).length = l.length := by
  unfold srd
  rw [List.length_append, nl_len, nl_len, acc_len hi, List.length_drop]; omega
theorem gi_left {L M : List Int} {j : Nat} (h : j < L.length) : gi (L ++ M) j = gi L j := by
  rw [gi_nat _ _ (by rw [List.length_append]; omega), gi_nat _ _ h, List.getElem_append_left h]
theorem srt_at (hi : i < l.length) (ha : a ≤ i) : gi (srt lt l i a) a = (l.getD i 0 : Nat) := by
  have h1 := acc_len (lt := lt) (l := l) (i := i) (by omega)
  unfold srt
  rw [gi_left (by rw [mid_len (by omega)]; omega), mid_at (by omega)]
theorem srt_before (hi : i < l.length) (ha : a < i) : gi (srt lt l i (a + 1)) a = ((insAll lt [] (l.take i)).getD a 0 : Nat) := by
  have h1 := acc_len (lt := lt) (l := l) (i := i) (by omega)
  unfold srt
  rw [gi_left (by rw [mid_len (by omega)]; omega), mid_lt (by omega)]
theorem srt_swap (hi : i < l.length) (ha : a < i) : ((srt lt l i (a + 1)).set (a + 1) ((insAll lt [] (l.take i)).getD a 0 : Nat)).set a (l.getD i 0 : Nat) = srt lt l i a := by
  have h1 := acc_len (lt := lt) (l := l) (i := i) (by omega)
  unfold srt
  rw [List.set_append_left _ _ (by rw [mid_len (by omega)]; omega), mid_shift (by omega), List.set_append_left _ _ (by rw [mid_len (by omega)]; omega), mid_set (by omega)]
theorem srt_start (hi : i < l.length) : srd lt l i = srt lt l i i := by
  have h1 := acc_len (lt := lt) (l := l) (i := i) (by omega)
  unfold srd srt mid
  generalize insAll lt [] (l.take i) = acc at *
  rw [show List.take i acc = acc from List.take_of_length_le (by omega), show List.drop i acc = [] from List.drop_of_length_le (by omega), List.drop_eq_getElem_cons hi, getD_at l hi]
  simp only [nl, List.map_cons, List.map_nil, List.append_assoc, List.cons_append, List.nil_append]
theorem srt_end (hi : i < l.length) (h : insPos lt (l.getD i 0) (insAll lt [] (l.take i)) (insAll lt [] (l.take i)).length = a) : srt lt l i a = srd lt l (i + 1) := by
  unfold srt srd
  rw [mid_ins h, List.take_succ_eq_append_getElem hi, insAll_snoc, getD_at l hi]
end
theorem srd_zero (lt : Nat → Nat → Bool) (l : List Nat) : srd lt l 0 = nl l := by simp [srd, insAll, nl]
theorem srd_one (lt : Nat → Nat → Bool) (l : List Nat) (h : 0 < l.length) : srd lt l 1 = nl l := by
  rw [← srt_end (a := 0) h rfl, ← srt_start h, srd_zero]
theorem srd_all (lt : Nat → Nat → Bool) (l : List Nat) : srd lt l l.length = nl (insAll lt [] l) := by simp [srd, nl]

set_option maxRecDepth 100000 in
set_option maxHeartbeats 8000000 in
theorem insSort_c (W : World) (gw gk : Nat) (A B : Option Addr) (c d : Nat) (ns ls : List P2) (k : Nat) (v : Value) (l : List Nat) (w : World) (h : Wn W A c B d ns ls) (hW : WOk ns ls) (hk : k < ns.length)
    (k0 : W.cell? ⟨gw, 0, none⟩ = some (.slice A ns.length c)) (k1 : W.cell? ⟨gw, 1, none⟩ = some (.slice B ls.length d)) (kk : W.cell? ⟨gk, 0, none⟩ = some (.int .i64 (k : Int)))
    (hx : Ext W w) (hv : OwI w W.heap.size v (nl l)) (hl : l.length ≤ 40) (hn : l.Nodup) (hm : ∀ x ∈ l, x < 2 * ls.length) :
    Calls Tryz.prog 109 #[v, .int .i64 0, .int .i64 (l.length : Int), .func (.func 102) #[] #[.pointer (some ⟨gw, 0, none⟩), .pointer (some ⟨gk, 0, none⟩)]] w
      fun e w' => (∃ u, e = .returned u) ∧ OwI w' W.heap.size v (nl (insAll (dlt ns ls k) [] l)) ∧ Ext W w' := by
  have HN := Lib.hid hn
  have HM := Lib.hid hm
  have HW := Lib.hid hW
  clear hn hm hW
  have HNL := Lib.hid (nl_len l)
  have HD : Hid (∀ x y : Nat, cmpv ns ls k x y = if dlt ns ls k x y = true then -1 else 1) := Lib.hid (fun _ _ => rfl)
  generalize hP : dlt ns ls k = P at *
  clear hP
  rcases Nat.eq_zero_or_pos l.length with h0 | h0
  · have hl0 : l = [] := by simpa using h0
    subst hl0
    go_enter Tryz.func109, Tryz.ntmps109
    go_wp2_with fail
    go_loop [8] (fun i => i = .int .i64 1) (fun _ => 0)
    case atStart => rfl
    case round =>
      obtain rfl := hrel
      go_wp2
      go_end0
      exact ⟨⟨_, rfl⟩, hv, hx⟩
  obtain ⟨g, cp, rfl, hcap, hgB, hgw, -, -⟩ := hv.gi_ (j := 0) (by rw [HNL.out]; exact h0)
  rw [HNL.out] at hv hcap
  rw [HNL.out]
  go_enter Tryz.func109, Tryz.ntmps109
  go_wp2_with fail
  go_loopw [8, 9] (fun i _ wr => ∃ q : Nat, 1 ≤ q ∧ q ≤ l.length ∧ i = .int .i64 q ∧ OwI wr W.heap.size (.slice (some ⟨g, 0, none⟩) l.length cp) (srd P l q) ∧ Ext W wr) (fun i _ _ => l.length - (intOf i).toNat)
  case atStart => exact ⟨1, Nat.le_refl _, h0, rfl, by rw [srd_one _ _ h0]; exact hv, hx⟩
  case round =>
    clear hv hx hgw
    obtain ⟨q, hq1, hq, rfl, hv, hx⟩ := hrel
    obtain ⟨wo, rfl⟩ : ∃ x : World, x = wr := ⟨_, rfl⟩
    by_cases hlt : q < l.length
    · rw [srt_start hlt] at hv
      have HAL := Lib.hid (acc_len (lt := P) (l := l) (i := q) (by omega))
      go_wp2_with fail
      go_loopw [9] (fun i wr => ∃ a : Nat, a ≤ q ∧ i = .int .i64 a ∧ OwI wr W.heap.size (.slice (some ⟨g, 0, none⟩) l.length cp) (srt P l q a) ∧ Hid (insPos P (l.getD q 0) (insAll P [] (l.take q)) (insAll P [] (l.take q)).length = insPos P (l.getD q 0) (insAll P [] (l.take q)) a) ∧ Ext W wr) (fun i _ => (intOf i).toNat)
      case atStart => exact ⟨q, Nat.le_refl _, rfl, hv, Lib.hid (by rw [HAL.out]), hx⟩
      case round =>
        clear hv hx
        obtain ⟨a, ha, rfl, hv, Hp, hx⟩ := hrel
        obtain ⟨w3, rfl⟩ : ∃ x : World, x = wr := ⟨_, rfl⟩
        have HSL := Lib.hid (srt_len (lt := P) hlt ha)
        rcases a with _ | a
        · have Hend := Lib.hid (srt_end (lt := P) (a := 0) hlt Hp.out)
          have hd0 : decide ((0 : Int) < ((0 : Nat) : Int)) = false := decide_eq_false (by omega)
          rw [Hend.out] at hv
          go_wp2_with fail
          refine rx_open [(true, 0, some 18, 512), (true, 0, some 19, 2), (true, 3, some 20, 786432), (true, 4, some 21, 1048576), (true, 8, some 22, 2097160), (true, 8, some 23, 2097153), (true, 8, some 24, 2097664), (true, 104, some 25, 27262976), (true, 136, some 26, 35651584), (true, 8, some 27, 2097153), (true, 8, some 28, 2097664), (true, 1032, some 29, 270532608), (true, 2568, some 30, 673185792), (true, 4104, some 31, 1075838976), (false, 8472, some 32, 2220883968), (true, 16392, some 33, 4297064448), (true, 32776, some 34, 8592031744)] 0 17 mixd rfl (by kernel_rfl) (by kernel_rfl) (by kernel_rfl) ?_
          refine rx_run (run := [0, 1, 2, 3, 4, 5, 6, 7, 8, 9, 10, 11, 12, 13]) (k := 3) (m' := 16383) rfl (by kernel_rfl) (by kernel_rfl) (by kernel_rfl) (fm_cons rfl <| fm_cons rfl <| fm_cons rfl <| fm_cons rfl <| fm_cons rfl <| fm_cons rfl <| fm_cons rfl <| fm_cons rfl <| fm_cons rfl <| fm_cons rfl <| fm_cons rfl <| fm_cons rfl <| fm_cons rfl <| fm_cons rfl <| List.filterMap_nil) (by repeat first | exact Ext.refl _ | assumption | refine Ext.drew ?_ | refine Ext.alloc ?_ _ | refine Ext.setCell ?_ (by simp) | refine Ext.setCell ?_ (by simp; omega) | refine Ext.trans ?_ (by assumption)) ?_
          repeat (go_big_quiet_step ((fail)))
          refine wpQuiet_nil ?_
          refine rx_op 14 (k := 2) (m' := 32767) rfl rfl (by kernel_rfl) (by kernel_rfl) ?_
          go_wp2_with (fail)
          refine rx_on (by repeat first | exact Ext.refl _ | assumption | refine Ext.drew ?_ | refine Ext.alloc ?_ _ | refine Ext.setCell ?_ (by simp) | refine Ext.setCell ?_ (by simp; omega) | refine Ext.trans ?_ (by assumption)) ?_
          refine rx_run (run := [15, 16]) (k := 0) (m' := 131071) rfl (by kernel_rfl) (by kernel_rfl) (by kernel_rfl) (fm_cons rfl <| fm_cons rfl <| List.filterMap_nil) (by repeat first | exact Ext.refl _ | assumption | refine Ext.drew ?_ | refine Ext.alloc ?_ _ | refine Ext.setCell ?_ (by simp) | refine Ext.setCell ?_ (by simp; omega) | refine Ext.trans ?_ (by assumption)) ?_
          repeat (go_big_quiet_step ((fail)))
          refine wpQuiet_nil ?_
          refine rx_end (by kernel_rfl) ?_
          go_wp2
          go_roundw
          case rel => exact ⟨q + 1, by omega, by omega, by go_num, hv.ext (by repeat first | exact Ext.refl _ | assumption | refine Ext.drew ?_ | refine Ext.alloc ?_ _ | refine Ext.setCell ?_ (by simp) | refine Ext.setCell ?_ (by simp; omega) | refine Ext.trans ?_ (by assumption)), hx.trans (by repeat first | exact Ext.refl _ | assumption | refine Ext.drew ?_ | refine Ext.alloc ?_ _ | refine Ext.setCell ?_ (by simp) | refine Ext.setCell ?_ (by simp; omega) | refine Ext.trans ?_ (by assumption))⟩
          case measure => first | (simp [intOf]; done) | (simp [intOf]; omega)
        · have c1 := (hv.cel (j := a) (by rw [HSL.out]; omega)).1
          have c2 := (hv.cel (j := a + 1) (by rw [HSL.out]; omega)).1
          have HA1 := Lib.hid (srt_before (lt := P) (a := a) hlt (by omega))
          have HA2 := Lib.hid (srt_at (lt := P) hlt ha)
          rw [HA1.out] at c1
          rw [HA2.out] at c2
          have HB : Hid (insPos P (l.getD q 0) (insAll P [] (l.take q)) (a + 1) = if P (l.getD q 0) ((insAll P [] (l.take q)).getD a 0) = true then insPos P (l.getD q 0) (insAll P [] (l.take q)) a else a + 1) := Lib.hid rfl
          have HED := Lib.hid (srt_end (lt := P) (a := a + 1) hlt)
          have HSW := Lib.hid (srt_swap (lt := P) (l := l) (i := q) (a := a) hlt (by omega))
          have hxm : l.getD q 0 < 2 * ls.length := HM.out _ (by rw [getD_at l hlt]; exact List.getElem_mem hlt)
          have hym : (insAll P [] (l.take q)).getD a 0 ∈ l.take q := by
            have := HAL.out
            rw [getD_at _ (by omega)]
            have h1 := List.getElem_mem (l := insAll P [] (l.take q)) (n := a) (by omega)
            rw [insAll_mem] at h1
            simpa using h1
          have hym2 : (insAll P [] (l.take q)).getD a 0 < 2 * ls.length := HM.out _ (List.mem_of_mem_take hym)
          have hne : l.getD q 0 ≠ (insAll P [] (l.take q)).getD a 0 := by
            intro e
            rw [← e, getD_at l hlt] at hym
            obtain ⟨i, hi, e2⟩ := List.getElem_of_mem hym
            rw [List.length_take] at hi
            rw [List.getElem_take] at e2
            exact (List.pairwise_iff_getElem.1 HN.out i q (by omega) hlt (by omega)) e2
          have HDx := Lib.hid (HD.out (l.getD q 0) ((insAll P [] (l.take q)).getD a 0))
          clear hym
          generalize l.getD q 0 = x at *
          generalize (insAll P [] (l.take q)).getD a 0 = y at *
          have hd0 : decide ((0 : Int) < ((a + 1 : Nat) : Int)) = true := decide_eq_true (by omega)
          have hj1 : IntKind.i64.wrap (((a + 1 : Nat) : Int) - 1) = (a : Int) := by rw [IntKind.wrap_i64]; omega
          have hj2 : IntKind.i64.wrap ((a : Int) + 1 - 1) = (a : Int) := by rw [IntKind.wrap_i64]; omega
          have hai : (a : Int) < l.length := by omega
          have hai1 : ((a + 1 : Nat) : Int) < l.length := by omega
          have d1 := cell_regrown c1
          have d2 := cell_regrown c2
          by_cases hp : P x y = true
          · have HDy := Lib.hid (HDx.out.trans (if_pos hp))
            have HPos : Hid (insPos P x (insAll P [] (l.take q)) (insAll P [] (l.take q)).length = insPos P x (insAll P [] (l.take q)) a) := Lib.hid (by rw [Hp.out, HB.out, if_pos hp])
            clear HDx hp Hp HB HED
            go_wp2_with fail
            refine rx_open [(true, 0, some 18, 512), (true, 0, some 19, 2), (true, 3, some 20, 786432), (true, 4, some 21, 1048576), (true, 8, some 22, 2097160), (true, 8, some 23, 2097153), (true, 8, some 24, 2097664), (true, 104, some 25, 27262976), (true, 136, some 26, 35651584), (true, 8, some 27, 2097153), (true, 8, some 28, 2097664), (true, 1032, some 29, 270532608), (true, 2568, some 30, 673185792), (true, 4104, some 31, 1075838976), (false, 8472, some 32, 2220883968), (true, 16392, some 33, 4297064448), (true, 32776, some 34, 8592031744)] 0 17 mixd rfl (by kernel_rfl) (by kernel_rfl) (by kernel_rfl) ?_
            refine rx_run (run := [0, 1, 2, 3, 4, 5, 6, 7, 8, 9, 10, 11, 12, 13]) (k := 3) (m' := 16383) rfl (by kernel_rfl) (by kernel_rfl) (by kernel_rfl) (fm_cons rfl <| fm_cons rfl <| fm_cons rfl <| fm_cons rfl <| fm_cons rfl <| fm_cons rfl <| fm_cons rfl <| fm_cons rfl <| fm_cons rfl <| fm_cons rfl <| fm_cons rfl <| fm_cons rfl <| fm_cons rfl <| fm_cons rfl <| List.filterMap_nil) (by repeat first | exact Ext.refl _ | assumption | refine Ext.drew ?_ | refine Ext.alloc ?_ _ | refine Ext.setCell ?_ (by simp) | refine Ext.setCell ?_ (by simp; omega) | refine Ext.trans ?_ (by assumption)) ?_
            repeat (go_big_quiet_step ((fail)))
            refine wpQuiet_nil ?_
            refine rx_op 14 (k := 2) (m' := 32767) rfl rfl (by kernel_rfl) (by kernel_rfl) ?_
            go_wp2_with ((go_at_call 102; refine (cmp_c gw gk A B c d ns ls k x y _ (h.ext (hx.trans (by repeat first | exact Ext.refl _ | assumption | refine Ext.drew ?_ | refine Ext.alloc ?_ _ | refine Ext.setCell ?_ (by simp) | refine Ext.setCell ?_ (by simp; omega) | refine Ext.trans ?_ (by assumption)))) HW.out hk hxm hym2 hne ((hx.trans (by repeat first | exact Ext.refl _ | assumption | refine Ext.drew ?_ | refine Ext.alloc ?_ _ | refine Ext.setCell ?_ (by simp) | refine Ext.setCell ?_ (by simp; omega) | refine Ext.trans ?_ (by assumption))).lit k0) ((hx.trans (by repeat first | exact Ext.refl _ | assumption | refine Ext.drew ?_ | refine Ext.alloc ?_ _ | refine Ext.setCell ?_ (by simp) | refine Ext.setCell ?_ (by simp; omega) | refine Ext.trans ?_ (by assumption))).lit k1) ((hx.trans (by repeat first | exact Ext.refl _ | assumption | refine Ext.drew ?_ | refine Ext.alloc ?_ _ | refine Ext.setCell ?_ (by simp) | refine Ext.setCell ?_ (by simp; omega) | refine Ext.trans ?_ (by assumption))).lit kk)).mono ?_; rw [HDy.out]; rintro e w6 ⟨rfl, hb6⟩))
            refine rx_on (by repeat first | exact Ext.refl _ | assumption | refine Ext.drew ?_ | refine Ext.alloc ?_ _ | refine Ext.setCell ?_ (by simp) | refine Ext.setCell ?_ (by simp; omega) | refine Ext.trans ?_ (by assumption)) ?_
            refine rx_run (run := [15, 16]) (k := 0) (m' := 131071) rfl (by kernel_rfl) (by kernel_rfl) (by kernel_rfl) (fm_cons rfl <| fm_cons rfl <| List.filterMap_nil) (by repeat first | exact Ext.refl _ | assumption | refine Ext.drew ?_ | refine Ext.alloc ?_ _ | refine Ext.setCell ?_ (by simp) | refine Ext.setCell ?_ (by simp; omega) | refine Ext.trans ?_ (by assumption)) ?_
            repeat (go_big_quiet_step ((fail)))
            refine wpQuiet_nil ?_
            refine rx_end (by kernel_rfl) ?_
            have hx6 : Ext w3 w6 := (by repeat first | exact Ext.refl _ | assumption | refine Ext.drew ?_ | refine Ext.alloc ?_ _ | refine Ext.setCell ?_ (by simp) | refine Ext.setCell ?_ (by simp; omega) | refine Ext.trans ?_ (by assumption))
            have hx := hx.trans hx6
            have hv := hv.ext hx6
            obtain ⟨c1, y1⟩ := hv.cel (j := a) (by rw [HSL.out]; omega)
            obtain ⟨c2, y2⟩ := hv.cel (j := a + 1) (by rw [HSL.out]; omega)
            rw [HA1.out] at c1
            rw [HA2.out] at c2
            have d1 := cell_regrown c1
            have d2 := cell_regrown c2
            clear hb6 hx6
            have hset := ((hv.ext (Ext.drew (Ext.refl w6))).set_ HSL.out.symm (a + 1) (y : Int)).set_ (by rw [List.length_set, HSL.out]) a (x : Int)
            rw [HSW.out] at hset
            have Hset := Lib.hid hset
            clear hset hv
            go_wp2_with fail
            refine Fr.rx_open [(true, 0, some 37, 1), (true, 0, some 38, 512), (true, 0, some 39, 1), (true, 0, some 40, 512), (true, 8, some 41, 1099511627776), (true, 0, some 42, 1), (true, 0, some 43, 512), (true, 64, some 44, 8796093022208), (true, 160, some 45, 21990232555520), (true, 256, some 46, 35184372088832), (true, 0, some 47, 1), (true, 0, some 48, 512), (true, 3072, some 49, 422212465065984), (true, 4096, some 50, 562949953421312), (true, 9187, some 51, 412316860416), (false, 25571, none, 2322168557862912), (true, 65535, some 52, 2748779069440), (false, 131071, none, 5629499534213120)] 9527906273786276976974489008089510150144 18 mixd rfl (by kernel_rfl) (by kernel_rfl) (by kernel_rfl) ?_
            refine Fr.rx_free (run := [2, 3, 4]) (k := 15) (m' := 28) rfl (by kernel_rfl) (by kernel_rfl) (fm_cons rfl <| fm_cons rfl <| fm_cons rfl <| List.filterMap_nil) ?_
            repeat (go_big_quiet_step ((fail)))
            refine wpQuiet_nil ?_
            refine Fr.rx_run (run := [0, 1, 5, 6, 7, 8, 9, 10, 11, 12, 13, 14]) (k := 3) (m' := 32767) rfl (by kernel_rfl) (by kernel_rfl) (by kernel_rfl) (fm_cons rfl <| fm_cons rfl <| fm_cons rfl <| fm_cons rfl <| fm_cons rfl <| fm_cons rfl <| fm_cons rfl <| fm_cons rfl <| fm_cons rfl <| fm_cons rfl <| fm_cons rfl <| fm_cons rfl <| List.filterMap_nil) (by repeat first | exact Ext.refl _ | assumption | refine Ext.drew ?_ | refine Ext.alloc ?_ _ | refine Ext.setCell ?_ (by simp) | refine Ext.setCell ?_ (by simp; omega) | refine Ext.trans ?_ (by assumption)) ?_
            repeat (go_big_quiet_step ((fail)))
            refine wpQuiet_nil ?_
            refine Fr.rx_op 15 (k := 2) (m' := 65535) rfl rfl (by kernel_rfl) (by kernel_rfl) ?_
            go_wp2
            refine Fr.rx_lst (by decide) ?_
            refine Fr.rx_op 16 (k := 1) (m' := 131071) rfl rfl (by kernel_rfl) (by kernel_rfl) ?_
            go_wp2
            refine Fr.rx_lst (by decide) ?_
            refine Fr.rx_op 17 (k := 0) (m' := 262143) rfl rfl (by kernel_rfl) (by kernel_rfl) ?_
            go_wp2
            refine Fr.rx_lst (by decide) ?_
            refine Fr.rx_end (by kernel_rfl) ?_
            go_wp2
            go_roundw
            case rel => exact ⟨a, by omega, by go_num, Hset.out, HPos, ((hx.trans (Ext.drew (Ext.refl w6))).setCell (by simpa using hgB)).setCell (by simpa using hgB)⟩
            case measure => first | (simp [intOf]; done) | (simp [intOf]; omega)
          · have HDy := Lib.hid (HDx.out.trans (if_neg hp))
            have Hend := Lib.hid (HED.out (by rw [Hp.out, HB.out, if_neg hp]))
            clear HDx hp Hp HB HED
            go_wp2_with fail
            refine rx_open [(true, 0, some 18, 512), (true, 0, some 19, 2), (true, 3, some 20, 786432), (true, 4, some 21, 1048576), (true, 8, some 22, 2097160), (true, 8, some 23, 2097153), (true, 8, some 24, 2097664), (true, 104, some 25, 27262976), (true, 136, some 26, 35651584), (true, 8, some 27, 2097153), (true, 8, some 28, 2097664), (true, 1032, some 29, 270532608), (true, 2568, some 30, 673185792), (true, 4104, some 31, 1075838976), (false, 8472, some 32, 2220883968), (true, 16392, some 33, 4297064448), (true, 32776, some 34, 8592031744)] 0 17 mixd rfl (by kernel_rfl) (by kernel_rfl) (by kernel_rfl) ?_
            refine rx_run (run := [0, 1, 2, 3, 4, 5, 6, 7, 8, 9, 10, 11, 12, 13]) (k := 3) (m' := 16383) rfl (by kernel_rfl) (by kernel_rfl) (by kernel_rfl) (fm_cons rfl <| fm_cons rfl <| fm_cons rfl <| fm_cons rfl <| fm_cons rfl <| fm_cons rfl <| fm_cons rfl <| fm_cons rfl <| fm_cons rfl <| fm_cons rfl <| fm_cons rfl <| fm_cons rfl <| fm_cons rfl <| fm_cons rfl <| List.filterMap_nil) (by repeat first | exact Ext.refl _ | assumption | refine Ext.drew ?_ | refine Ext.alloc ?_ _ | refine Ext.setCell ?_ (by simp) | refine Ext.setCell ?_ (by simp; omega) | refine Ext.trans ?_ (by assumption)) ?_
            repeat (go_big_quiet_step ((fail)))
            refine wpQuiet_nil ?_
            refine rx_op 14 (k := 2) (m' := 32767) rfl rfl (by kernel_rfl) (by kernel_rfl) ?_
            go_wp2_with ((go_at_call 102; refine (cmp_c gw gk A B c d ns ls k x y _ (h.ext (hx.trans (by repeat first | exact Ext.refl _ | assumption | refine Ext.drew ?_ | refine Ext.alloc ?_ _ | refine Ext.setCell ?_ (by simp) | refine Ext.setCell ?_ (by simp; omega) | refine Ext.trans ?_ (by assumption)))) HW.out hk hxm hym2 hne ((hx.trans (by repeat first | exact Ext.refl _ | assumption | refine Ext.drew ?_ | refine Ext.alloc ?_ _ | refine Ext.setCell ?_ (by simp) | refine Ext.setCell ?_ (by simp; omega) | refine Ext.trans ?_ (by assumption))).lit k0) ((hx.trans (by repeat first | exact Ext.refl _ | assumption | refine Ext.drew ?_ | refine Ext.alloc ?_ _ | refine Ext.setCell ?_ (by simp) | refine Ext.setCell ?_ (by simp; omega) | refine Ext.trans ?_ (by assumption))).lit k1) ((hx.trans (by repeat first | exact Ext.refl _ | assumption | refine Ext.drew ?_ | refine Ext.alloc ?_ _ | refine Ext.setCell ?_ (by simp) | refine Ext.setCell ?_ (by simp; omega) | refine Ext.trans ?_ (by assumption))).lit kk)).mono ?_; rw [HDy.out]; rintro e w6 ⟨rfl, hb6⟩))
            refine rx_on (by repeat first | exact Ext.refl _ | assumption | refine Ext.drew ?_ | refine Ext.alloc ?_ _ | refine Ext.setCell ?_ (by simp) | refine Ext.setCell ?_ (by simp; omega) | refine Ext.trans ?_ (by assumption)) ?_
            refine rx_run (run := [15, 16]) (k := 0) (m' := 131071) rfl (by kernel_rfl) (by kernel_rfl) (by kernel_rfl) (fm_cons rfl <| fm_cons rfl <| List.filterMap_nil) (by repeat first | exact Ext.refl _ | assumption | refine Ext.drew ?_ | refine Ext.alloc ?_ _ | refine Ext.setCell ?_ (by simp) | refine Ext.setCell ?_ (by simp; omega) | refine Ext.trans ?_ (by assumption)) ?_
            repeat (go_big_quiet_step ((fail)))
            refine wpQuiet_nil ?_
            refine rx_end (by kernel_rfl) ?_
            go_wp2
            rw [Hend.out] at hv
            go_roundw
            case rel => exact ⟨q + 1, by omega, by omega, by go_num, hv.ext (by repeat first | exact Ext.refl _ | assumption | refine Ext.drew ?_ | refine Ext.alloc ?_ _ | refine Ext.setCell ?_ (by simp) | refine Ext.setCell ?_ (by simp; omega) | refine Ext.trans ?_ (by assumption)), hx.trans (by repeat first | exact Ext.refl _ | assumption | refine Ext.drew ?_ | refine Ext.alloc ?_ _ | refine Ext.setCell ?_ (by simp) | refine Ext.setCell ?_ (by simp; omega) | refine Ext.trans ?_ (by assumption))⟩
            case measure => first | (simp [intOf]; done) | (simp [intOf]; omega)
    · obtain rfl : q = l.length := by omega
      rw [srd_all] at hv
      go_wp2
      go_end0
      exact ⟨⟨_, rfl⟩, hv, hx⟩
end Go.Proofs.YtdhmjhoaegdfjaaGreat

namespace Go.Proofs.YtdhmjhoaegdfjaaGreat
open Go.RowKit Go.Sort Go.BigFrame

theorem dAt_yes {ls : List P2} {k : Int} {j : Nat} (h : (dEnds ls j).1 = k) : nl (dAt ls k (j + 1)) = nl (dAt ls k j) ++ [(j : Int)] := by
  unfold dAt nl
  rw [List.range_succ, List.filter_append]
  simp [h]
theorem dAt_no {ls : List P2} {k : Int} {j : Nat} (h : ¬ (dEnds ls j).1 = k) : dAt ls k (j + 1) = dAt ls k j := by
  unfold dAt
  rw [List.range_succ, List.filter_append]
  simp [h]
theorem dAt_len' (ls : List P2) (k : Int) (j : Nat) : (dAt ls k j).length ≤ j := by
  unfold dAt
  have := List.length_filter_le (fun d => decide ((dEnds ls d).1 = k)) (List.range j)
  rwa [List.length_range] at this
theorem dAt_small {ns ls : List P2} (hW : WOk ns ls) {k : Nat} : (dAt ls k (2 * ls.length)).length ≤ 20 := by
  rw [dAt_len hW k _ (Nat.le_refl _)]
  have := lat_len ls k ls.length
  have := hW.le
  omega

set_option maxHeartbeats 4000000 in
set_option maxRecDepth 100000 in
theorem Len64_c (x : Int) (w : World) (h0 : 0 ≤ x) (h1 : x ≤ 255) : Calls Tryz.prog 118 #[.int .u64 x] w fun e w' => (∃ z, e = .returned (.int .i64 z)) ∧ w = w' := by
  go_enter Tryz.func118, Tryz.ntmps118
  go_wp2
  go_ret
  exact ⟨⟨_, rfl⟩, rfl⟩
theorem Len_c (x : Int) (w : World) (h0 : 0 ≤ x) (h1 : x ≤ 255) : Calls Tryz.prog 106 #[.int .u64 x] w fun e w' => (∃ z, e = .returned (.int .i64 z)) ∧ w = w' := by
  go_enter Tryz.func106, Tryz.ntmps106
  go_wp2_with fail
  refine (Len64_c x _ h0 h1).mono ?_
  rintro e w' ⟨⟨z, rfl⟩, rfl⟩
  go_wp2
  go_ret
  exact ⟨⟨_, rfl⟩, rfl⟩

set_option maxRecDepth 100000 in
set_option maxHeartbeats 4000000 in
theorem pdq_c (W : World) (gw gk : Nat) (A B : Option Addr) (c d : Nat) (ns ls : List P2) (k : Nat) (v : Value) (l : List Nat) (z : Int) (w : World) (h : Wn W A c B d ns ls) (hW : WOk ns ls) (hk : k < ns.length)
    (k0 : W.cell? ⟨gw, 0, none⟩ = some (.slice A ns.length c)) (k1 : W.cell? ⟨gw, 1, none⟩ = some (.slice B ls.length d)) (kk : W.cell? ⟨gk, 0, none⟩ = some (.int .i64 (k : Int)))
    (hx : Ext W w) (hv : OwI w W.heap.size v (nl l)) (hl : l.length ≤ 12) (hn : l.Nodup) (hm : ∀ x ∈ l, x < 2 * ls.length) :
    Calls Tryz.prog 105 #[v, .int .i64 0, .int .i64 (l.length : Int), .int .i64 z, .func (.func 102) #[] #[.pointer (some ⟨gw, 0, none⟩), .pointer (some ⟨gk, 0, none⟩)]] w
      fun e w' => (∃ u, e = .returned u) ∧ OwI w' W.heap.size v (nl (insAll (dlt ns ls k) [] l)) ∧ Ext W w' := by
  have HN := Lib.hid hn
  have HM := Lib.hid hm
  have HW := Lib.hid hW
  clear hn hm hW
  go_enter Tryz.func105, Tryz.ntmps105
  go_wp2_with fail
  refine wp_loop_rounds 1 ?_
  rw [rounds_succ]
  go_wp2_with fail
  refine (insSort_c W gw gk A B c d ns ls k v l _ h HW.out hk k0 k1 kk hx hv (by omega) HN.out HM.out).mono ?_
  rintro e w' ⟨⟨u, rfl⟩, hv', hx'⟩
  go_wp2
  refine bodyPost_ret (results_none rfl _ _ _) rfl ?_
  exact ⟨⟨_, rfl⟩, hv', hx'⟩

set_option maxRecDepth 100000 in
set_option maxHeartbeats 4000000 in
theorem SortFunc_c (W : World) (gw gk : Nat) (A B : Option Addr) (c d : Nat) (ns ls : List P2) (k : Nat) (v : Value) (l : List Nat) (w : World) (h : Wn W A c B d ns ls) (hW : WOk ns ls) (hk : k < ns.length)
    (k0 : W.cell? ⟨gw, 0, none⟩ = some (.slice A ns.length c)) (k1 : W.cell? ⟨gw, 1, none⟩ = some (.slice B ls.length d)) (kk : W.cell? ⟨gk, 0, none⟩ = some (.int .i64 (k : Int)))
    (hx : Ext W w) (hv : OwI w W.heap.size v (nl l)) (hl : l.length ≤ 12) (hn : l.Nodup) (hm : ∀ x ∈ l, x < 2 * ls.length) :
    Calls Tryz.prog 101 #[v, .func (.func 102) #[] #[.pointer (some ⟨gw, 0, none⟩), .pointer (some ⟨gk, 0, none⟩)]] w
      fun e w' => (∃ u, e = .returned u) ∧ OwI w' W.heap.size v (nl (insAll (dlt ns ls k) [] l)) ∧ Ext W w' := by
  have HN := Lib.hid hn
  have HM := Lib.hid hm
  have HW := Lib.hid hW
  clear hn hm hW
  obtain ⟨A5, c5, e5, -, -, -⟩ := hv.shape
  rw [nl_len] at e5
  subst e5
  go_enter Tryz.func101, Tryz.ntmps101
  go_wp2_with fail
  refine (Len_c _ _ (by omega) (by omega)).mono ?_
  rintro e w' ⟨⟨z, rfl⟩, rfl⟩
  go_wp2_with fail
  refine (pdq_c W gw gk A B c d ns ls k _ l z _ h HW.out hk k0 k1 kk hx hv hl HN.out HM.out).mono ?_
  rintro e w' ⟨⟨u, rfl⟩, hv', hx'⟩
  go_wp2
  go_end0
  exact ⟨⟨_, rfl⟩, hv', hx'⟩

theorem ld_ne {ns ls : List P2} (hW : WOk ns ls) {i j : Nat} (hi : i < ls.length) (hj : j < i) : gp ls i ≠ gp ls j := by
  intro e
  obtain ⟨h1, h2, -⟩ := hW.ld i hi
  have h3 := h2 j hj
  rw [← e] at h3
  have : dox ns (gp ls i) (gp ls i) = true := by
    unfold dox dox4
    simp [h1, peq]
  rw [this] at h3
  cases h3
theorem ld_lt {ns ls : List P2} (hW : WOk ns ls) {i : Nat} (hi : i < ls.length) : (gp ls i).1 < (gp ls i).2 := by
  obtain ⟨h1, -, -⟩ := hW.ld i hi
  generalize gp ls i = L at *
  obtain ⟨p, q⟩ := L
  obtain ⟨a, b, rfl, rfl, hab, -⟩ := lok_spec h1
  simp; omega
theorem ld_inj {ns ls : List P2} (hW : WOk ns ls) {i j : Nat} (hi : i < ls.length) (hj : j < ls.length) (e : gp ls i = gp ls j) : i = j := by
  rcases Nat.lt_trichotomy i j with h | h | h
  · exact absurd e.symm (ld_ne hW hj h)
  · exact h
  · exact absurd e (ld_ne hW hi h)
theorem dEnds_inj {ns ls : List P2} (hW : WOk ns ls) {d e : Nat} (hd : d < 2 * ls.length) (he : e < 2 * ls.length) (h : dEnds ls d = dEnds ls e) : d = e := by
  have h1 := ld_lt hW (i := d / 2) (by omega)
  have h2 := ld_lt hW (i := e / 2) (by omega)
  have h3 : gp ls (d / 2 : Nat) = gp ls (e / 2 : Nat) → d / 2 = e / 2 := ld_inj hW (by omega) (by omega)
  unfold dEnds at h
  generalize gp ls (d / 2 : Nat) = L at *
  generalize gp ls (e / 2 : Nat) = M at *
  obtain ⟨p, q⟩ := L
  obtain ⟨r, s⟩ := M
  simp only [Prod.mk.injEq] at h3 h1 h2
  split at h <;> split at h <;> simp only [Prod.mk.injEq] at h
  · have := h3 ⟨h.2, h.1⟩; omega
  · omega
  · omega
  · have := h3 h; omega
theorem arnd_small {ns ls : List P2} (hW : WOk ns ls) (k : Nat) : (dAt ls k (2 * ls.length)).length ≤ 12 := by
  apply Classical.byContradiction
  intro hgt
  have hn := hW.hi
  have hmem : ∀ i, i ≤ ns.length → (dAt ls k (2 * ls.length)).getD i 0 < 2 * ls.length ∧ (dEnds ls ((dAt ls k (2 * ls.length)).getD i 0)).1 = k := by
    intro i hi
    have hil : i < (dAt ls k (2 * ls.length)).length := by omega
    rw [getD_at _ hil]
    have h1 := List.getElem_mem hil
    generalize (dAt ls k (2 * ls.length))[i] = x at *
    unfold dAt at h1
    rw [List.mem_filter, List.mem_range, decide_eq_true_eq] at h1
    exact h1
  obtain ⟨i, j, hij, hj, e⟩ := php ns.length (fun i => (dEnds ls ((dAt ls k (2 * ls.length)).getD i 0)).2.toNat) (fun i hi => by
    obtain ⟨a, b, e, ha, hb⟩ := dEnds_ok hW (hmem i hi).1
    show (dEnds ls ((dAt ls k (2 * ls.length)).getD i 0)).2.toNat < ns.length
    rw [e]; simpa using hb)
  have hi := hmem i (by omega)
  have hj' := hmem j hj
  have hil : i < (dAt ls k (2 * ls.length)).length := by omega
  have hjl : j < (dAt ls k (2 * ls.length)).length := by omega
  have hne := nodup_getD_inj (nperm_range (p := fun d => decide ((dEnds ls d).1 = k)) (2 * ls.length)) (i := i) (j := j) hil hjl
  have heq : (dAt ls k (2 * ls.length)).getD i 0 = (dAt ls k (2 * ls.length)).getD j 0 := by
    apply dEnds_inj hW hi.1 hj'.1
    obtain ⟨a, b, e1, ha, hb⟩ := dEnds_ok hW hi.1
    obtain ⟨a', b', e2, ha', hb'⟩ := dEnds_ok hW hj'.1
    have h1 := hi.2
    have h2 := hj'.2
    (try simp only at e)
    rw [e1] at h1 e ⊢
    rw [e2] at h2 e ⊢
    simp only at h1 h2 e ⊢
    simp at e
    rw [h1, h2, e]
  have := hne heq
  omega

set_option maxRecDepth 100000 in
set_option maxHeartbeats 4000000 in
theorem around_c (A B : Option Addr) (c d : Nat) (ns ls : List P2) (k : Nat) (w : World) (h : Wn w A c B d ns ls) (hW : WOk ns ls) (hk : k < ns.length) :
    Calls Tryz.prog 96 #[.agg #[.slice A ns.length c, .slice B ls.length d], .int .i64 (k : Int)] w fun e w' => ∃ v, e = .returned v ∧ OwI w' w.heap.size v (nl (arnd ns ls k)) ∧ Ext w w' := by
  have hn := hW.hi
  have hm := hW.le
  have HW := Lib.hid hW
  clear hW
  go_enter Tryz.func96, Tryz.ntmps96
  go_wp2_with fail
  have k0 : (w.alloc (.cells #[.slice A ns.length c, .slice B ls.length d] 27)).cell? ⟨w.heap.size, 0, none⟩ = some (.slice A ns.length c) := by go_simp
  have k1 : (w.alloc (.cells #[.slice A ns.length c, .slice B ls.length d] 27)).cell? ⟨w.heap.size, 1, none⟩ = some (.slice B ls.length d) := by go_simp
  have hx : Ext w (w.alloc (.cells #[.slice A ns.length c, .slice B ls.length d] 27)) := (by repeat first | exact Ext.refl _ | assumption | refine Ext.drew ?_ | refine Ext.alloc ?_ _ | refine Ext.setCell ?_ (by simp) | refine Ext.setCell ?_ (by simp; omega) | refine Ext.trans ?_ (by assumption))
  have hsz1 : w.heap.size + 1 = (w.alloc (.cells #[.slice A ns.length c, .slice B ls.length d] 27)).heap.size := by simp
  generalize (w.alloc (.cells #[.slice A ns.length c, .slice B ls.length d] 27)) = w1 at *
  (try rw [hsz1])
  have kk : (w1.alloc (.cells #[.int .i64 (k : Int)] 3)).cell? ⟨w1.heap.size, 0, none⟩ = some (.int .i64 (k : Int)) := by go_simp
  have hx2 : Ext w1 (w1.alloc (.cells #[.int .i64 (k : Int)] 3)) := (by repeat first | exact Ext.refl _ | assumption | refine Ext.drew ?_ | refine Ext.alloc ?_ _ | refine Ext.setCell ?_ (by simp) | refine Ext.setCell ?_ (by simp; omega) | refine Ext.trans ?_ (by assumption))
  generalize (w1.alloc (.cells #[.int .i64 (k : Int)] 3)) = w2 at *
  have k0 := hx2.lit k0
  have k1 := hx2.lit k1
  have hx := hx.trans hx2
  clear hx2
  go_loopw [5, 6] (fun v i wr => ∃ j : Nat, j ≤ 2 * ls.length ∧ i = .int .i64 j ∧ OwI wr w2.heap.size v (nl (dAt ls k j)) ∧ Ext w2 wr) (fun _ i _ => 2 * ls.length - (intOf i).toNat)
  case atStart => exact ⟨0, by omega, rfl, OwI.nil _ _, Ext.refl _⟩
  case round =>
    obtain ⟨j, hj, rfl, hv, hxr⟩ := hrel
    obtain ⟨wo, rfl⟩ : ∃ x : World, x = wr := ⟨_, rfl⟩
    have hx0 := hx.trans hxr
    have kk0 := k0
    have kk1 := k1
    have kkk := kk
    have k0 := hxr.lit k0
    have k1 := hxr.lit k1
    have kk := hxr.lit kk
    by_cases hlt : j < 2 * ls.length
    · have hji : (j : Int) < 2 * (ls.length : Int) := by omega
      obtain ⟨f, t, hft, hf, ht⟩ := dEnds_ok HW.out hlt
      have HF : Hid ((dEnds ls j).1 = (f : Int)) := Lib.hid (by rw [hft])
      have hsz := hxr.size
      have hln := dAt_len' ls k j
      have HL := Lib.hid (nl_len (dAt ls k j))
      clear hft
      go_upto_region 5 with fail
      go_cut [19] (fun s wx => s = .bool ((f : Int) == (k : Int)) ∧ Ext wo wx)
      case first =>
        have d0 := cell_regrown k0
        have d1 := cell_regrown k1
        have d2 := cell_regrown kk
        refine rx_open [(true, 0, some 15, 4), (true, 0, some 16, 64), (false, 3, some 17, 98304), (true, 0, some 18, 8), (true, 12, some 19, 393216)] 0 5 mixd rfl (by kernel_rfl) (by kernel_rfl) (by kernel_rfl) ?_
        refine rx_run (run := [0, 1, 3]) (k := 2) (m' := 11) rfl (by kernel_rfl) (by kernel_rfl) (by kernel_rfl) (fm_cons rfl <| fm_cons rfl <| fm_cons rfl <| List.filterMap_nil) (by repeat first | exact Ext.refl _ | assumption | refine Ext.drew ?_ | refine Ext.alloc ?_ _ | refine Ext.setCell ?_ (by simp) | refine Ext.setCell ?_ (by simp; omega) | refine Ext.trans ?_ (by assumption)) ?_
        repeat (go_big_quiet_step ((fail)))
        refine wpQuiet_nil ?_
        refine rx_op 2 (k := 1) (m' := 15) rfl rfl (by kernel_rfl) (by kernel_rfl) ?_
        go_wp2_with ((go_at_call 97; refine (dartFrom_c A B c d ns ls j _ (h.ext (hx0.trans (by repeat first | exact Ext.refl _ | assumption | refine Ext.drew ?_ | refine Ext.alloc ?_ _ | refine Ext.setCell ?_ (by simp) | refine Ext.setCell ?_ (by simp; omega) | refine Ext.trans ?_ (by assumption)))) hlt).mono ?_; rw [HF.out]; rintro e w5 ⟨rfl, hb5⟩))
        refine rx_on (by repeat first | exact Ext.refl _ | assumption | refine Ext.drew ?_ | refine Ext.alloc ?_ _ | refine Ext.setCell ?_ (by simp) | refine Ext.setCell ?_ (by simp; omega) | refine Ext.trans ?_ (by assumption)) ?_
        refine rx_run (run := [4]) (k := 0) (m' := 31) rfl (by kernel_rfl) (by kernel_rfl) (by kernel_rfl) (fm_cons rfl <| List.filterMap_nil) (by repeat first | exact Ext.refl _ | assumption | refine Ext.drew ?_ | refine Ext.alloc ?_ _ | refine Ext.setCell ?_ (by simp) | refine Ext.setCell ?_ (by simp; omega) | refine Ext.trans ?_ (by assumption)) ?_
        repeat (go_big_quiet_step ((fail)))
        refine wpQuiet_nil ?_
        refine rx_end (by kernel_rfl) ?_
        all_goals (go_wp2; go_meet; exact ⟨rfl, (by repeat first | exact Ext.refl _ | assumption | refine Ext.drew ?_ | refine Ext.alloc ?_ _ | refine Ext.setCell ?_ (by simp) | refine Ext.setCell ?_ (by simp; omega) | refine Ext.trans ?_ (by assumption))⟩)
      case rest =>
        obtain ⟨rfl, hb⟩ := hcut
        obtain ⟨w3, rfl⟩ : ∃ x : World, x = wc := ⟨_, rfl⟩
        have hv := hv.ext hb
        have hxr := hxr.trans hb
        have hsz := hxr.size
        clear hb
        by_cases hfk : f = k
        · subst hfk
          have Hs := Lib.hid (dAt_yes HF.out)
          have hbq : ((f : Int) == (f : Int)) = true := by simp
          rw [hbq]
          go_wp2_with (at_builtin; refine az_int2 (B0 := 0) _ _ rfl rfl rfl (.of (hv.ext ((Ext.refl w3).alloc _))) (g := w3.heap.size) (y := j) (by first | rfl | simp) (by go_simp) (by rw [HL.out]; omega) (by simp; omega) ?_)
          intro v' w' h1 h3
          go_wp2
          go_roundw
          case rel => exact ⟨j + 1, by omega, by go_num, by rw [Hs.out]; exact h1, h3 _ (hxr.trans (by repeat first | exact Ext.refl _ | assumption | refine Ext.drew ?_ | refine Ext.alloc ?_ _ | refine Ext.setCell ?_ (by simp) | refine Ext.setCell ?_ (by simp; omega) | refine Ext.trans ?_ (by assumption))) (Nat.le_refl _)⟩
          case measure => first | (simp [intOf]; done) | (simp [intOf]; omega)
        · have Hs := Lib.hid (dAt_no (ls := ls) (k := (k : Int)) (j := j) (by rw [HF.out]; omega))
          have hbq : ((f : Int) == (k : Int)) = false := beq_eq_false_iff_ne.2 (by omega)
          rw [hbq]
          go_wp2
          go_roundw
          case rel => exact ⟨j + 1, by omega, by go_num, by rw [Hs.out]; exact hv, hxr⟩
          case measure => first | (simp [intOf]; done) | (simp [intOf]; omega)
    · obtain rfl : j = 2 * ls.length := by omega
      have HA : Hid (arnd ns ls k = insAll (dlt ns ls k) [] (dAt ls k (2 * ls.length))) := Lib.hid (arnN_insAll ns ls k _)
      go_wp2_with fail
      refine (SortFunc_c w2 w.heap.size w1.heap.size A B c d ns ls k _ (dAt ls k (2 * ls.length)) _ (h.ext hx) HW.out hk kk0 kk1 kkk hxr hv (arnd_small HW.out k) (nperm_range _) (fun x hx => by have := List.mem_range.1 (List.mem_filter.1 hx).1; exact this)).mono ?_
      rintro e w4 ⟨⟨u, rfl⟩, hv4, hx4⟩
      go_wp2
      go_ret
      exact ⟨_, rfl, by rw [HA.out]; exact hv4.more hx.size, hx.trans hx4⟩
end Go.Proofs.YtdhmjhoaegdfjaaGreat

namespace Go.Proofs.YtdhmjhoaegdfjaaGreat
open Go.RowKit Go.Sort Go.BigFrame

theorem prev_idx {L k : Nat} (hk : k < L) : (((k : Int) + -1 + (L : Int)) % (L : Int)) = (((k + (L - 1)) % L : Nat) : Int) := by
  have : (k : Int) + -1 + (L : Int) = ((k + (L - 1) : Nat) : Int) := by omega
  rw [this]; norm_cast
theorem prevD_eq (ns ls : List P2) (x : Nat) : prevD ns ls x = (arnd ns ls (dEnds ls x).1).getD (((arnd ns ls (dEnds ls x).1).idxOf x + ((arnd ns ls (dEnds ls x).1).length - 1)) % (arnd ns ls (dEnds ls x).1).length) 0 := rfl
theorem arnd_len40 (ns ls : List P2) (k : Int) (hm : ls.length ≤ 20) : (arnd ns ls k).length ≤ 40 := by
  have := arnN_len ns ls k (2 * ls.length)
  unfold arnd; omega

set_option maxRecDepth 100000 in
set_option maxHeartbeats 4000000 in
theorem beside_c (A B : Option Addr) (c d : Nat) (ns ls : List P2) (x : Nat) (w : World) (h : Wn w A c B d ns ls) (hW : WOk ns ls) (hxd : x < 2 * ls.length) :
    Calls Tryz.prog 80 #[.agg #[.slice A ns.length c, .slice B ls.length d], .int .i64 (x : Int), .int .i64 (-1)] w fun e w' => e = .returned (.int .i64 ((prevD ns ls x : Nat) : Int)) ∧ Ext w w' := by
  have hm := hW.le
  have HW := Lib.hid hW
  obtain ⟨f, t, hft, hf, ht⟩ := dEnds_ok hW hxd
  have HF : Hid ((dEnds ls x).1 = (f : Int)) := Lib.hid (by rw [hft])
  have hxm := arnd_self (ns := ns) hxd
  have HE := Lib.hid (prevD_eq ns ls x)
  rw [HF.out] at HE hxm
  have hl := arnd_len40 ns ls f hm
  clear hW hft
  generalize hLL : arnd ns ls f = l at *
  have HLL := Lib.hid hLL
  clear hLL
  have hil := List.idxOf_lt_length_of_mem hxm
  have HNL := Lib.hid (nl_len l)
  have HPI : Hid (((l.idxOf x : Int) + -1) % (l.length : Int) = (((l.idxOf x + (l.length - 1)) % l.length : Nat) : Int)) := Lib.hid (by rw [← prev_idx hil, Int.add_emod_right])
  have hpl : (l.idxOf x + (l.length - 1)) % l.length < l.length := Nat.mod_lt _ (by omega)
  have hxm2 := hxm
  go_enter Tryz.func80, Tryz.ntmps80
  go_wp2_with fail
  have k0 : (w.alloc (.cells #[.slice A ns.length c, .slice B ls.length d] 27)).cell? ⟨w.heap.size, 0, none⟩ = some (.slice A ns.length c) := by go_simp
  have k1 : (w.alloc (.cells #[.slice A ns.length c, .slice B ls.length d] 27)).cell? ⟨w.heap.size, 1, none⟩ = some (.slice B ls.length d) := by go_simp
  have hx : Ext w (w.alloc (.cells #[.slice A ns.length c, .slice B ls.length d] 27)) := (by repeat first | exact Ext.refl _ | assumption | refine Ext.drew ?_ | refine Ext.alloc ?_ _ | refine Ext.setCell ?_ (by simp) | refine Ext.setCell ?_ (by simp; omega) | refine Ext.trans ?_ (by assumption))
  have hsz1 : w.heap.size + 1 = (w.alloc (.cells #[.slice A ns.length c, .slice B ls.length d] 27)).heap.size := by simp
  generalize (w.alloc (.cells #[.slice A ns.length c, .slice B ls.length d] 27)) = w1 at *
  (try rw [hsz1])
  go_cut [7] (fun s wx => ∃ v, s = v ∧ OwI wx w1.heap.size v (nl l) ∧ Ext w1 wx)
  case first =>
    have d0 := cell_regrown k0
    have d1 := cell_regrown k1
    refine rx_open [(true, 0, some 8, 8), (true, 0, some 9, 8), (true, 0, some 10, 2), (false, 6, some 11, 1536), (false, 9, some 12, 2304), (true, 31, some 7, 4096)] 0 6 mixd rfl (by kernel_rfl) (by kernel_rfl) (by kernel_rfl) ?_
    refine rx_run (run := [0, 1, 2]) (k := 3) (m' := 7) rfl (by kernel_rfl) (by kernel_rfl) (by kernel_rfl) (fm_cons rfl <| fm_cons rfl <| fm_cons rfl <| List.filterMap_nil) (by repeat first | exact Ext.refl _ | assumption | refine Ext.drew ?_ | refine Ext.alloc ?_ _ | refine Ext.setCell ?_ (by simp) | refine Ext.setCell ?_ (by simp; omega) | refine Ext.trans ?_ (by assumption)) ?_
    repeat (go_big_quiet_step ((fail)))
    refine wpQuiet_nil ?_
    refine rx_op 3 (k := 2) (m' := 15) rfl rfl (by kernel_rfl) (by kernel_rfl) ?_
    go_wp2_with (first | (go_at_call 97; refine (dartFrom_c A B c d ns ls x _ (h.ext (hx.trans (by repeat first | exact Ext.refl _ | assumption | refine Ext.drew ?_ | refine Ext.alloc ?_ _ | refine Ext.setCell ?_ (by simp) | refine Ext.setCell ?_ (by simp; omega) | refine Ext.trans ?_ (by assumption)))) hxd).mono ?_; rw [HF.out]; rintro e w5 ⟨rfl, hb5⟩) | (go_at_call 96; refine (around_c A B c d ns ls f _ (h.ext (hx.trans (by repeat first | exact Ext.refl _ | assumption | refine Ext.drew ?_ | refine Ext.alloc ?_ _ | refine Ext.setCell ?_ (by simp) | refine Ext.setCell ?_ (by simp; omega) | refine Ext.trans ?_ (by assumption)))) HW.out hf).mono ?_; rw [HLL.out]; rintro e w6 ⟨v, rfl, hv, hb6⟩))
    refine rx_on (by repeat first | exact Ext.refl _ | assumption | refine Ext.drew ?_ | refine Ext.alloc ?_ _ | refine Ext.setCell ?_ (by simp) | refine Ext.setCell ?_ (by simp; omega) | refine Ext.trans ?_ (by assumption)) ?_
    refine rx_op 4 (k := 1) (m' := 31) rfl rfl (by kernel_rfl) (by kernel_rfl) ?_
    go_wp2_with (first | (go_at_call 97; refine (dartFrom_c A B c d ns ls x _ (h.ext (hx.trans (by repeat first | exact Ext.refl _ | assumption | refine Ext.drew ?_ | refine Ext.alloc ?_ _ | refine Ext.setCell ?_ (by simp) | refine Ext.setCell ?_ (by simp; omega) | refine Ext.trans ?_ (by assumption)))) hxd).mono ?_; rw [HF.out]; rintro e w5 ⟨rfl, hb5⟩) | (go_at_call 96; refine (around_c A B c d ns ls f _ (h.ext (hx.trans (by repeat first | exact Ext.refl _ | assumption | refine Ext.drew ?_ | refine Ext.alloc ?_ _ | refine Ext.setCell ?_ (by simp) | refine Ext.setCell ?_ (by simp; omega) | refine Ext.trans ?_ (by assumption)))) HW.out hf).mono ?_; rw [HLL.out]; rintro e w6 ⟨v, rfl, hv, hb6⟩))
    refine rx_on (by repeat first | exact Ext.refl _ | assumption | refine Ext.drew ?_ | refine Ext.alloc ?_ _ | refine Ext.setCell ?_ (by simp) | refine Ext.setCell ?_ (by simp; omega) | refine Ext.trans ?_ (by assumption)) ?_
    refine rx_run (run := [5]) (k := 0) (m' := 63) rfl (by kernel_rfl) (by kernel_rfl) (by kernel_rfl) (fm_cons rfl <| List.filterMap_nil) (by repeat first | exact Ext.refl _ | assumption | refine Ext.drew ?_ | refine Ext.alloc ?_ _ | refine Ext.setCell ?_ (by simp) | refine Ext.setCell ?_ (by simp; omega) | refine Ext.trans ?_ (by assumption)) ?_
    repeat (go_big_quiet_step ((fail)))
    refine wpQuiet_nil ?_
    refine rx_end (by kernel_rfl) ?_
    all_goals (go_wp2; go_meet; exact ⟨_, rfl, (hv.more (show Ext w1 w5 from (by repeat first | exact Ext.refl _ | assumption | refine Ext.drew ?_ | refine Ext.alloc ?_ _ | refine Ext.setCell ?_ (by simp) | refine Ext.setCell ?_ (by simp; omega) | refine Ext.trans ?_ (by assumption))).size).ext (by repeat first | exact Ext.refl _ | assumption | refine Ext.drew ?_ | refine Ext.alloc ?_ _ | refine Ext.setCell ?_ (by simp) | refine Ext.setCell ?_ (by simp; omega) | refine Ext.trans ?_ (by assumption)), (by repeat first | exact Ext.refl _ | assumption | refine Ext.drew ?_ | refine Ext.alloc ?_ _ | refine Ext.setCell ?_ (by simp) | refine Ext.setCell ?_ (by simp; omega) | refine Ext.trans ?_ (by assumption))⟩)
  case rest =>
    obtain ⟨v, rfl, hv, hb⟩ := hcut
    obtain ⟨w2, rfl⟩ : ∃ x : World, x = wc := ⟨_, rfl⟩
    have hx := hx.trans hb
    obtain ⟨A5, c5, rfl, -, -, hin⟩ := hv.shape
    rw [HNL.out]
    have HIN := Lib.hid hin
    go_wp2_with fail
    refine (Index_c A5 c5 l x _ hin (by omega) hxm).mono ?_
    rintro e w3 ⟨rfl, rfl⟩
    obtain ⟨b, off, rfl, hbb, c1⟩ := HIN.out.gi_ (k := (l.idxOf x + (l.length - 1)) % l.length) (by rw [HNL.out]; exact hpl)
    rw [nl_gi l hpl, ← HE.out] at c1
    have hpi := HPI.out
    generalize (l.idxOf x + (l.length - 1)) % l.length = p at *
    generalize hy : prevD ns ls x = y at *
    have hpl2 : (p : Int) < l.length := by omega
    go_wp2
    go_ret
    exact ⟨by rw [hy]; rfl, hx⟩
end Go.Proofs.YtdhmjhoaegdfjaaGreat
