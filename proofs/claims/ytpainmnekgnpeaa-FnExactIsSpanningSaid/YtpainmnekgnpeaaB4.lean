import Derived.Test.YtpainmnekgnpeaaB3
import Derived.Test.YtpainmnekgnpeaaA10
namespace Go.Proofs.Ytpainmnekgnpeaa
open Go.RowKit Go.Sort Go.BigFrame

/-- A window stands in the world. -/
structure Wn (w : World) (A : Option Addr) (c : Nat) (B : Option Addr) (d : Nat) (ns ls : List P2) : Prop where
  hl : ns.length ≤ 2000000
  hm : ls.length ≤ 2000000
  hc : ns.length ≤ c
  hd : ls.length ≤ d
  hcm : c ≤ 2000000
  hdm : d ≤ 2000000
  h : Pr w w.heap.size A ns
  g : Pr w w.heap.size B ls
theorem Wn.ext {w w' : World} {A : Option Addr} {c : Nat} {B : Option Addr} {d : Nat} {ns ls : List P2} (h : Wn w A c B d ns ls) (hx : Ext w w') : Wn w' A c B d ns ls :=
  ⟨h.hl, h.hm, h.hc, h.hd, h.hcm, h.hdm, h.h.ext hx, h.g.ext hx⟩
section
variable {w : World} {A : Option Addr} {c : Nat} {B : Option Addr} {d : Nat} {ns ls : List P2}
theorem WindowOk_i' (h : Wn w A c B d ns ls) : Calls Try.prog 58 #[.agg #[.slice A ns.length c, .slice B ls.length d]] w fun e w' => e = .returned (.bool (wok ns ls)) ∧ Ext w w' :=
  WindowOk_i A B c d ns ls w h.hl h.hm h.hc h.hd h.hcm h.hdm h.h h.g
theorem WindowOk_s' (h : Wn w A c B d ns ls) : Calls Try.prog 57 #[.agg #[.slice A ns.length c, .slice B ls.length d]] w fun e w' => e = .returned (.bool (wok ns ls)) ∧ Ext w w' :=
  WindowOk_s A B c d ns ls w h.hl h.hm h.hc h.hd h.hcm h.hdm h.h h.g
theorem partOf_c' (h : Wn w A c B d ns ls) (hw : WOk ns ls) {k : Nat} (hk : k < ns.length) :
    Calls Try.prog 76 #[.agg #[.slice A ns.length c, .slice B ls.length d], .int .i64 (k : Int)] w fun e w' => ∃ v, e = .returned v ∧ OwI w' w.heap.size v (partL ns.length ls k) ∧ Ext w w' :=
  partOf_c A B c d ns ls k w hw.hi hw.le (vd_of_ok hw) hk h.g
theorem l07Parts_c' (h : Wn w A c B d ns ls) (hw : WOk ns ls) :
    Calls Try.prog 74 #[.agg #[.slice A ns.length c, .slice B ls.length d]] w fun e w' => ∃ v, e = .returned v ∧ OwI w' w.heap.size v (labs ns.length ls) ∧ Ext w w' :=
  l07Parts_c A B c d ns ls w hw.lo hw.hi hw.le (vd_of_ok hw) h.g
end

def cparts (ns ls : List P2) : Int := if wok ns ls = true then (nparts ns.length ls ns.length : Nat) else 0
theorem partL_gi0 {n : Nat} {ls : List P2} (hv : Vd n ls) {k : Nat} (hk : k < n) : gi (partL n ls k) (0 : Nat) = gi (labs n ls) k := by
  have h := partL_head hv hk
  cases hp : partL n ls k with
  | nil => rw [hp] at h; cases h
  | cons a t => rw [hp] at h; simp at h; rw [← h]; rfl

set_option maxRecDepth 100000 in
set_option maxHeartbeats 2000000 in
theorem CountParts_i (A B : Option Addr) (c d : Nat) (ns ls : List P2) (w : World) (h : Wn w A c B d ns ls) :
    Calls Try.prog 91 #[.agg #[.slice A ns.length c, .slice B ls.length d]] w fun e w' => e = .returned (.int .i64 (cparts ns ls)) ∧ Ext w w' := by
  by_cases hw : wok ns ls = true
  · have hW := wok_iff.1 hw
    have Hv := Lib.hid (vd_of_ok hW)
    have hn := hW.hi
    have HW := Lib.hid hW
    clear hW
    go_enter Try.func91, Try.ntmps91
    go_wp2_with fail
    refine (WindowOk_i' (h.ext (by repeat first | exact Ext.refl _ | assumption | refine Ext.drew ?_ | refine Ext.alloc ?_ _ | refine Ext.setCell ?_ (by simp) | refine Ext.setCell ?_ (by simp; omega) | refine Ext.trans ?_ (by assumption)))).mono ?_
    rintro e w1 ⟨rfl, hb⟩
    have k0 := hb.lit (b := w.heap.size) (o := 0) (v := .slice A ns.length c) (by go_simp)
    have k1 := hb.lit (b := w.heap.size) (o := 1) (v := .slice B ls.length d) (by go_simp)
    have hx : Ext w w1 := (by repeat first | exact Ext.refl _ | assumption | refine Ext.drew ?_ | refine Ext.alloc ?_ _ | refine Ext.setCell ?_ (by simp) | refine Ext.setCell ?_ (by simp; omega) | refine Ext.trans ?_ (by assumption))
    rw [hw]
    clear hb
    go_wp2_with fail
    go_loopw [3, 11] (fun s i wr => ∃ k : Nat, k ≤ ns.length ∧ i = .int .i64 k ∧ s = .int .i64 (nparts ns.length ls k : Nat) ∧ Ext w1 wr) (fun _ i _ => ns.length - (intOf i).toNat)
    case atStart => exact ⟨0, by omega, rfl, rfl, Ext.refl _⟩
    case round =>
      obtain ⟨k, hk, rfl, rfl, hxr⟩ := hrel
      obtain ⟨wo, rfl⟩ : ∃ x : World, x = wr := ⟨_, rfl⟩
      have hx0 := hx.trans hxr
      have k0 := hxr.lit k0
      have k1 := hxr.lit k1
      by_cases hlt : k < ns.length
      · go_wp2_with fail
        refine (partOf_c' (h.ext hx0) HW.out hlt).mono ?_
        rintro e w2 ⟨v, rfl, hv, hx2⟩
        obtain ⟨g, cp, rfl, -, hgB, hgw, c1, -⟩ := hv.gi_ (j := 0) (by have := partL_ne Hv.out hlt; cases h0 : partL ns.length ls k with | nil => exact absurd h0 this | cons a t => simp)
        rw [partL_gi0 Hv.out hlt] at c1
        have hle : 0 < (partL ns.length ls k).length := by have := partL_ne Hv.out hlt; cases h0 : partL ns.length ls k with | nil => exact absurd h0 this | cons a t => simp
        have hnp := nparts_succ ns.length ls k
        have hnl := nparts_le ns.length ls k
        have c1' : w2.cell? ⟨g, 0, none⟩ = some (.int .i64 (gi (labs ns.length ls) k)) := c1
        clear c1
        generalize gi (labs ns.length ls) k = q at *
        by_cases hq : q = (k : Int)
        · rw [if_pos hq] at hnp
          have Hnp := Lib.hid hnp
          clear hnp
          go_wp2
          go_roundw
          case rel => exact ⟨k + 1, by omega, by go_num, by rw [Hnp.out]; go_num, hxr.trans hx2⟩
          case measure => simp [intOf]; omega
        · rw [if_neg hq] at hnp
          have Hnp := Lib.hid hnp
          clear hnp
          go_wp2
          go_roundw
          case rel => exact ⟨k + 1, by omega, by go_num, by rw [Hnp.out]; rfl, hxr.trans hx2⟩
          case measure => simp [intOf]; omega
      · obtain rfl : k = ns.length := by omega
        go_wp2
        go_ret
        exact ⟨ret_i (by rw [cparts, if_pos hw]), hx0⟩
  · have hw' := eq_false_of_ne_true hw
    go_enter Try.func91, Try.ntmps91
    go_wp2_with fail
    refine (WindowOk_i' (h.ext (by repeat first | exact Ext.refl _ | assumption | refine Ext.drew ?_ | refine Ext.alloc ?_ _ | refine Ext.setCell ?_ (by simp) | refine Ext.setCell ?_ (by simp; omega) | refine Ext.trans ?_ (by assumption)))).mono ?_
    rintro e w1 ⟨rfl, hb⟩
    rw [hw']
    go_wp2
    go_ret
    exact ⟨ret_i (by rw [cparts, if_neg hw]), (by repeat first | exact Ext.refl _ | assumption | refine Ext.drew ?_ | refine Ext.alloc ?_ _ | refine Ext.setCell ?_ (by simp) | refine Ext.setCell ?_ (by simp; omega) | refine Ext.trans ?_ (by assumption))⟩

set_option maxRecDepth 100000 in
set_option maxHeartbeats 2000000 in
theorem CountParts_s (A B : Option Addr) (c d : Nat) (ns ls : List P2) (w : World) (h : Wn w A c B d ns ls) :
    Calls Try.prog 89 #[.agg #[.slice A ns.length c, .slice B ls.length d]] w fun e w' => e = .returned (.int .i64 (cparts ns ls)) ∧ Ext w w' := by
  by_cases hw : wok ns ls = true
  · have hW := wok_iff.1 hw
    have Hv := Lib.hid (vd_of_ok hW)
    have hn := hW.hi
    have HW := Lib.hid hW
    clear hW
    go_enter Try.func89, Try.ntmps89
    go_wp2_with fail
    refine (WindowOk_s' (h.ext (by repeat first | exact Ext.refl _ | assumption | refine Ext.drew ?_ | refine Ext.alloc ?_ _ | refine Ext.setCell ?_ (by simp) | refine Ext.setCell ?_ (by simp; omega) | refine Ext.trans ?_ (by assumption)))).mono ?_
    rintro e w1 ⟨rfl, hb⟩
    have k0 := hb.lit (b := w.heap.size) (o := 0) (v := .slice A ns.length c) (by go_simp)
    have k1 := hb.lit (b := w.heap.size) (o := 1) (v := .slice B ls.length d) (by go_simp)
    have hx : Ext w w1 := (by repeat first | exact Ext.refl _ | assumption | refine Ext.drew ?_ | refine Ext.alloc ?_ _ | refine Ext.setCell ?_ (by simp) | refine Ext.setCell ?_ (by simp; omega) | refine Ext.trans ?_ (by assumption))
    rw [hw]
    clear hb
    go_wp2_with fail
    refine (l07Parts_c' (h.ext hx) HW.out).mono ?_
    rintro e w2 ⟨v, rfl, hv, hx2⟩
    have hx := hx.trans hx2
    have hL := (linv Hv.out).len
    have Hlo := Lib.hid HW.out.lo
    obtain ⟨g, cp, rfl, -, hgB, hgw, -, -⟩ := hv.gi_ (j := 0) (by have := Hlo.out; omega)
    rw [hL] at hv
    rw [hL]
    generalize hLL : labs ns.length ls = L at *
    have HLL := Lib.hid hLL
    clear hLL
    go_wp2_with fail
    go_loopw [4, 5] (fun s i wr => ∃ k : Nat, k ≤ ns.length ∧ i = .int .i64 k ∧ s = .int .i64 (nparts ns.length ls k : Nat) ∧ w2 = wr) (fun _ i _ => ns.length - (intOf i).toNat)
    case atStart => exact ⟨0, by omega, rfl, rfl, rfl⟩
    case round =>
      obtain ⟨k, hk, rfl, rfl, rfl⟩ := hrel
      by_cases hlt : k < ns.length
      · have c1 := (hv.cel (j := k) (by omega)).1
        have hnp := nparts_succ ns.length ls k
        have hnl := nparts_le ns.length ls k
        rw [HLL.out] at hnp
        generalize gi L k = q at *
        by_cases hq : q = (k : Int)
        · rw [if_pos hq] at hnp
          have Hnp := Lib.hid hnp
          clear hnp
          go_wp2
          go_roundw
          case rel => exact ⟨k + 1, by omega, by go_num, by rw [Hnp.out]; go_num, by first | rfl | trivial⟩
          case measure => simp [intOf]; omega
        · rw [if_neg hq] at hnp
          have Hnp := Lib.hid hnp
          clear hnp
          go_wp2
          go_roundw
          case rel => exact ⟨k + 1, by omega, by go_num, by rw [Hnp.out]; rfl, by first | rfl | trivial⟩
          case measure => simp [intOf]; omega
      · obtain rfl : k = ns.length := by omega
        go_wp2
        go_ret
        exact ⟨ret_i (by rw [cparts, if_pos hw]), hx⟩
  · have hw' := eq_false_of_ne_true hw
    go_enter Try.func89, Try.ntmps89
    go_wp2_with fail
    refine (WindowOk_s' (h.ext (by repeat first | exact Ext.refl _ | assumption | refine Ext.drew ?_ | refine Ext.alloc ?_ _ | refine Ext.setCell ?_ (by simp) | refine Ext.setCell ?_ (by simp; omega) | refine Ext.trans ?_ (by assumption)))).mono ?_
    rintro e w1 ⟨rfl, hb⟩
    rw [hw']
    go_wp2
    go_ret
    exact ⟨ret_i (by rw [cparts, if_neg hw]), (by repeat first | exact Ext.refl _ | assumption | refine Ext.drew ?_ | refine Ext.alloc ?_ _ | refine Ext.setCell ?_ (by simp) | refine Ext.setCell ?_ (by simp; omega) | refine Ext.trans ?_ (by assumption))⟩
end Go.Proofs.Ytpainmnekgnpeaa
