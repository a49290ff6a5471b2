import Derived.Test.YtpainmnekgnpeaaB6
namespace Go.Proofs.Ytpainmnekgnpeaa
open Go.RowKit Go.Sort Go.BigFrame

set_option maxRecDepth 100000 in
set_option maxHeartbeats 2000000 in
theorem LeadsAt_s (A B : Option Addr) (c d : Nat) (ns ls : List P2) (k : Int) (w : World) (h : Wn w A c B d ns ls) :
    Calls Try.prog 60 #[.agg #[.slice A ns.length c, .slice B ls.length d], .int .i64 k] w fun e w' => ∃ v, e = .returned v ∧ OwI w' w.heap.size v (leadsAt ns ls k) ∧ Ext w w' := by
  have hnl := h.hl
  have hml := h.hm
  go_enter Try.func60, Try.ntmps60
  go_wp2_with fail
  have k0 : (w.alloc (.cells #[.slice A ns.length c, .slice B ls.length d] 36)).cell? ⟨w.heap.size, 0, none⟩ = some (.slice A ns.length c) := by go_simp
  have k1 : (w.alloc (.cells #[.slice A ns.length c, .slice B ls.length d] 36)).cell? ⟨w.heap.size, 1, none⟩ = some (.slice B ls.length d) := by go_simp
  have hx : Ext w (w.alloc (.cells #[.slice A ns.length c, .slice B ls.length d] 36)) := (by repeat first | exact Ext.refl _ | assumption | refine Ext.drew ?_ | refine Ext.alloc ?_ _ | refine Ext.setCell ?_ (by simp) | refine Ext.setCell ?_ (by simp; omega) | refine Ext.trans ?_ (by assumption))
  have hsz1 : w.heap.size + 1 = (w.alloc (.cells #[.slice A ns.length c, .slice B ls.length d] 36)).heap.size := by simp
  generalize (w.alloc (.cells #[.slice A ns.length c, .slice B ls.length d] 36)) = w1 at *
  rw [hsz1]
  have hv0 : OwI (w1.alloc (.cells #[] 3)) w1.heap.size (.slice (some ⟨w1.heap.size, 0, none⟩) 0 0) (lat ls k 0) := OwI.new (xs := []) (Bk.new _ [] rfl) (Nat.le_refl _) (by simp)
  have hx2 : Ext w1 (w1.alloc (.cells #[] 3)) := (by repeat first | exact Ext.refl _ | assumption | refine Ext.drew ?_ | refine Ext.alloc ?_ _ | refine Ext.setCell ?_ (by simp) | refine Ext.setCell ?_ (by simp; omega) | refine Ext.trans ?_ (by assumption))
  generalize (w1.alloc (.cells #[] 3)) = w2 at *
  by_cases hw : hasN ns ls k = true
  · have hok : wok ns ls = true := by simp only [hasN, Bool.and_eq_true] at hw; exact hw.1
    have hwi : wi k 0 (ns.length - 1) = true := by simp only [hasN, Bool.and_eq_true] at hw; exact hw.2
    have hm := (hasN_ok hw).1.le
    go_loopw [5, 6] (fun v i wr => ∃ j : Nat, j ≤ ls.length ∧ i = .int .i64 j ∧ OwI wr w1.heap.size v (lat ls k j) ∧ Ext w1 wr) (fun _ i _ => ls.length - (intOf i).toNat)
    case atStart => exact ⟨0, by omega, rfl, hv0, hx2⟩
    case round =>
      clear hv0 hx2
      obtain ⟨j, hj, rfl, hv, hxr⟩ := hrel
      obtain ⟨wo, rfl⟩ : ∃ x : World, x = wr := ⟨_, rfl⟩
      have hx0 := hx.trans hxr
      have k0 := hxr.lit k0
      have k1 := hxr.lit k1
      by_cases hlt : j < ls.length
      · have hji : (j : Int) < ls.length := by omega
        go_wp2_with fail
        refine (WindowOk_s' (h.ext hx0)).mono ?_
        rintro e w3 ⟨rfl, hb⟩
        have k0 := hb.lit k0
        have k1 := hb.lit k1
        have hx0 := hx0.trans hb
        have hxr := hxr.trans hb
        have hv := hv.ext hb
        rw [hok]
        clear hb
        go_wp2_with fail
        refine (l01In_c _ _ _ _).mono ?_
        rintro e w4 ⟨rfl, rfl⟩
        rw [hwi]
        obtain ⟨b, off, rfl, hbb, c1, c2⟩ := (h.ext hx0).g.gp_ hlt
        have hs := lat_succ ls k j
        have hln := lat_len ls k j
        have hsz := hxr.size
        unfold atL at hs
        generalize gp ls j = L at *
        obtain ⟨p, q⟩ := L
        have Hs := Lib.hid hs
        clear hs
        by_cases hz : p = k ∨ q = k
        · have Hs2 : Hid (lat ls k (j + 1) = lat ls k j ++ [(j : Int)]) := Lib.hid (by rw [Hs.out, if_pos (by simpa using hz)])
          rcases hz with hz | hz
          · subst hz
            go_wp2_with (at_builtin; refine ap_int Try.underlying22 infoI2 _ _ rfl rfl rfl (hv.ext ((Ext.refl w3).alloc _)) (g := w3.heap.size) (y := j) (by first | rfl | simp) (by go_simp) (by omega) (by simp; omega) ?_)
            intro v' w' h1 h2 h3
            go_wp2
            go_roundw
            case rel => exact ⟨j + 1, by omega, by go_num, by rw [Hs2.out]; exact h1, h3 _ (hxr.trans (by repeat first | exact Ext.refl _ | assumption | refine Ext.drew ?_ | refine Ext.alloc ?_ _ | refine Ext.setCell ?_ (by simp) | refine Ext.setCell ?_ (by simp; omega) | refine Ext.trans ?_ (by assumption))) (Nat.le_refl _)⟩
            case measure => simp [intOf]; omega
          · subst hz
            by_cases hpq : p = q
            · subst hpq
              go_wp2_with (at_builtin; refine ap_int Try.underlying22 infoI2 _ _ rfl rfl rfl (hv.ext ((Ext.refl w3).alloc _)) (g := w3.heap.size) (y := j) (by first | rfl | simp) (by go_simp) (by omega) (by simp; omega) ?_)
              intro v' w' h1 h2 h3
              go_wp2
              go_roundw
              case rel => exact ⟨j + 1, by omega, by go_num, by rw [Hs2.out]; exact h1, h3 _ (hxr.trans (by repeat first | exact Ext.refl _ | assumption | refine Ext.drew ?_ | refine Ext.alloc ?_ _ | refine Ext.setCell ?_ (by simp) | refine Ext.setCell ?_ (by simp; omega) | refine Ext.trans ?_ (by assumption))) (Nat.le_refl _)⟩
              case measure => simp [intOf]; omega
            · skip
              go_wp2_with (at_builtin; refine ap_int Try.underlying22 infoI2 _ _ rfl rfl rfl (hv.ext ((Ext.refl w3).alloc _)) (g := w3.heap.size) (y := j) (by first | rfl | simp) (by go_simp) (by omega) (by simp; omega) ?_)
              intro v' w' h1 h2 h3
              go_wp2
              go_roundw
              case rel => exact ⟨j + 1, by omega, by go_num, by rw [Hs2.out]; exact h1, h3 _ (hxr.trans (by repeat first | exact Ext.refl _ | assumption | refine Ext.drew ?_ | refine Ext.alloc ?_ _ | refine Ext.setCell ?_ (by simp) | refine Ext.setCell ?_ (by simp; omega) | refine Ext.trans ?_ (by assumption))) (Nat.le_refl _)⟩
              case measure => simp [intOf]; omega
        · have Hs2 : Hid (lat ls k (j + 1) = lat ls k j) := Lib.hid (by rw [Hs.out, if_neg (by simpa using hz)])
          have z1 : ¬ p = k := fun e => hz (.inl e)
          have z2 : ¬ q = k := fun e => hz (.inr e)
          have z3 : (p == k) = false := beq_eq_false_iff_ne.2 z1
          have z4 : (q == k) = false := beq_eq_false_iff_ne.2 z2
          clear hz
          go_wp2
          go_roundw
          case rel => exact ⟨j + 1, by omega, by go_num, by rw [Hs2.out]; exact hv, hxr⟩
          case measure => simp [intOf]; omega
      · obtain rfl : j = ls.length := by omega
        go_wp2
        go_ret
        exact ⟨_, rfl, by rw [leadsAt, if_pos hw]; exact hv.more hx.size, hx0⟩
  · have hw' := eq_false_of_ne_true hw
    go_loopw [5, 6] (fun v i wr => i = .int .i64 (0 : Nat) ∧ OwI wr w1.heap.size v [] ∧ Ext w1 wr) (fun _ i _ => 0)
    case atStart => exact ⟨rfl, hv0, hx2⟩
    case round =>
      clear hv0 hx2
      obtain ⟨rfl, hv, hxr⟩ := hrel
      obtain ⟨wo, rfl⟩ : ∃ x : World, x = wr := ⟨_, rfl⟩
      have hx0 := hx.trans hxr
      have k0 := hxr.lit k0
      have k1 := hxr.lit k1
      by_cases hlt : 0 < ls.length
      · have hji : ((0 : Nat) : Int) < ls.length := by omega
        go_wp2_with fail
        refine (WindowOk_s' (h.ext hx0)).mono ?_
        rintro e w3 ⟨rfl, hb⟩
        have k0 := hb.lit k0
        have k1 := hb.lit k1
        have hx0 := hx0.trans hb
        have hv := hv.ext hb
        clear hb
        by_cases hok : wok ns ls = true
        · have hwi : wi k 0 (ns.length - 1) = false := by rw [hasN, hok, Bool.true_and] at hw'; exact hw'
          rw [hok]
          go_wp2_with fail
          refine (l01In_c _ _ _ _).mono ?_
          rintro e w4 ⟨rfl, rfl⟩
          rw [hwi]
          go_wp2
          go_ret
          exact ⟨_, rfl, by rw [leadsAt, if_neg hw]; exact hv.more hx.size, hx0⟩
        · rw [eq_false_of_ne_true hok]
          go_wp2
          go_ret
          exact ⟨_, rfl, by rw [leadsAt, if_neg hw]; exact hv.more hx.size, hx0⟩
      · go_wp2
        go_ret
        exact ⟨_, rfl, by rw [leadsAt, if_neg hw]; exact hv.more hx.size, hx0⟩

set_option maxRecDepth 100000 in
set_option maxHeartbeats 2000000 in
theorem DegreeOf_i (A B : Option Addr) (c d : Nat) (ns ls : List P2) (k : Int) (w : World) (h : Wn w A c B d ns ls) :
    Calls Try.prog 63 #[.agg #[.slice A ns.length c, .slice B ls.length d], .int .i64 k] w fun e w' => e = .returned (.int .i64 (degOf ns ls k)) ∧ Ext w w' := by
  by_cases hw : hasN ns ls k = true
  · go_enter Try.func63, Try.ntmps63
    go_wp2_with fail
    refine (hasNode_c A B c d ns ls k _ (h.ext (by repeat first | exact Ext.refl _ | assumption | refine Ext.drew ?_ | refine Ext.alloc ?_ _ | refine Ext.setCell ?_ (by simp) | refine Ext.setCell ?_ (by simp; omega) | refine Ext.trans ?_ (by assumption)))).mono ?_
    rintro e w1 ⟨rfl, hb⟩
    have k0 := hb.lit (b := w.heap.size) (o := 0) (v := .slice A ns.length c) (by go_simp)
    have k1 := hb.lit (b := w.heap.size) (o := 1) (v := .slice B ls.length d) (by go_simp)
    have hx : Ext w w1 := (by repeat first | exact Ext.refl _ | assumption | refine Ext.drew ?_ | refine Ext.alloc ?_ _ | refine Ext.setCell ?_ (by simp) | refine Ext.setCell ?_ (by simp; omega) | refine Ext.trans ?_ (by assumption))
    rw [hw]
    clear hb
    go_wp2_with fail
    refine (LeadsAt_i A B c d ns ls k _ (h.ext hx)).mono ?_
    rintro e w2 ⟨v, rfl, hv, hb⟩
    obtain ⟨A', c', rfl, -, -, -⟩ := hv.shape
    go_wp2
    go_ret
    exact ⟨ret_i (by rw [degOf, if_pos hw]), hx.trans hb⟩
  · have hw' := eq_false_of_ne_true hw
    go_enter Try.func63, Try.ntmps63
    go_wp2_with fail
    refine (hasNode_c A B c d ns ls k _ (h.ext (by repeat first | exact Ext.refl _ | assumption | refine Ext.drew ?_ | refine Ext.alloc ?_ _ | refine Ext.setCell ?_ (by simp) | refine Ext.setCell ?_ (by simp; omega) | refine Ext.trans ?_ (by assumption)))).mono ?_
    rintro e w1 ⟨rfl, hb⟩
    rw [hw']
    go_wp2
    go_ret
    exact ⟨ret_i (by rw [degOf, if_neg hw]), (by repeat first | exact Ext.refl _ | assumption | refine Ext.drew ?_ | refine Ext.alloc ?_ _ | refine Ext.setCell ?_ (by simp) | refine Ext.setCell ?_ (by simp; omega) | refine Ext.trans ?_ (by assumption))⟩

set_option maxRecDepth 100000 in
set_option maxHeartbeats 2000000 in
theorem DegreeOf_s (A B : Option Addr) (c d : Nat) (ns ls : List P2) (k : Int) (w : World) (h : Wn w A c B d ns ls) :
    Calls Try.prog 59 #[.agg #[.slice A ns.length c, .slice B ls.length d], .int .i64 k] w fun e w' => e = .returned (.int .i64 (degOf ns ls k)) ∧ Ext w w' := by
  have hnl := h.hl
  by_cases hok : wok ns ls = true
  · by_cases hwi : wi k 0 (ns.length - 1) = true
    · have hw : hasN ns ls k = true := by rw [hasN, hok, hwi]; rfl
      go_enter Try.func59, Try.ntmps59
      go_wp2_with fail
      refine (WindowOk_s' (h.ext (by repeat first | exact Ext.refl _ | assumption | refine Ext.drew ?_ | refine Ext.alloc ?_ _ | refine Ext.setCell ?_ (by simp) | refine Ext.setCell ?_ (by simp; omega) | refine Ext.trans ?_ (by assumption)))).mono ?_
      rintro e w1 ⟨rfl, hb⟩
      have k0 := hb.lit (b := w.heap.size) (o := 0) (v := .slice A ns.length c) (by go_simp)
      have k1 := hb.lit (b := w.heap.size) (o := 1) (v := .slice B ls.length d) (by go_simp)
      have hx : Ext w w1 := (by repeat first | exact Ext.refl _ | assumption | refine Ext.drew ?_ | refine Ext.alloc ?_ _ | refine Ext.setCell ?_ (by simp) | refine Ext.setCell ?_ (by simp; omega) | refine Ext.trans ?_ (by assumption))
      clear hb
      rw [hok]
      go_wp2_with fail
      refine (l01In_c _ _ _ _).mono ?_
      rintro e w4 ⟨rfl, rfl⟩
      rw [hwi]
      go_wp2_with fail
      refine (LeadsAt_s A B c d ns ls k _ (h.ext hx)).mono ?_
      rintro e w2 ⟨v, rfl, hv, hb⟩
      obtain ⟨A', c', rfl, -, -, -⟩ := hv.shape
      go_wp2
      go_ret
      exact ⟨ret_i (by rw [degOf, if_pos hw]), hx.trans hb⟩
    · have hwi := eq_false_of_ne_true hwi
      have hw : ¬ hasN ns ls k = true := by rw [hasN, hok, hwi]; simp
      go_enter Try.func59, Try.ntmps59
      go_wp2_with fail
      refine (WindowOk_s' (h.ext (by repeat first | exact Ext.refl _ | assumption | refine Ext.drew ?_ | refine Ext.alloc ?_ _ | refine Ext.setCell ?_ (by simp) | refine Ext.setCell ?_ (by simp; omega) | refine Ext.trans ?_ (by assumption)))).mono ?_
      rintro e w1 ⟨rfl, hb⟩
      have k0 := hb.lit (b := w.heap.size) (o := 0) (v := .slice A ns.length c) (by go_simp)
      have k1 := hb.lit (b := w.heap.size) (o := 1) (v := .slice B ls.length d) (by go_simp)
      have hx : Ext w w1 := (by repeat first | exact Ext.refl _ | assumption | refine Ext.drew ?_ | refine Ext.alloc ?_ _ | refine Ext.setCell ?_ (by simp) | refine Ext.setCell ?_ (by simp; omega) | refine Ext.trans ?_ (by assumption))
      clear hb
      rw [hok]
      go_wp2_with fail
      refine (l01In_c _ _ _ _).mono ?_
      rintro e w4 ⟨rfl, rfl⟩
      rw [hwi]
      go_wp2
      go_ret
      exact ⟨ret_i (by rw [degOf, if_neg hw]), hx⟩
  · have hok := eq_false_of_ne_true hok
    have hw : ¬ hasN ns ls k = true := by rw [hasN, hok]; simp
    go_enter Try.func59, Try.ntmps59
    go_wp2_with fail
    refine (WindowOk_s' (h.ext (by repeat first | exact Ext.refl _ | assumption | refine Ext.drew ?_ | refine Ext.alloc ?_ _ | refine Ext.setCell ?_ (by simp) | refine Ext.setCell ?_ (by simp; omega) | refine Ext.trans ?_ (by assumption)))).mono ?_
    rintro e w1 ⟨rfl, hb⟩
    have k0 := hb.lit (b := w.heap.size) (o := 0) (v := .slice A ns.length c) (by go_simp)
    have k1 := hb.lit (b := w.heap.size) (o := 1) (v := .slice B ls.length d) (by go_simp)
    have hx : Ext w w1 := (by repeat first | exact Ext.refl _ | assumption | refine Ext.drew ?_ | refine Ext.alloc ?_ _ | refine Ext.setCell ?_ (by simp) | refine Ext.setCell ?_ (by simp; omega) | refine Ext.trans ?_ (by assumption))
    clear hb
    rw [hok]
    go_wp2
    go_ret
    exact ⟨ret_i (by rw [degOf, if_neg hw]), hx⟩
end Go.Proofs.Ytpainmnekgnpeaa
