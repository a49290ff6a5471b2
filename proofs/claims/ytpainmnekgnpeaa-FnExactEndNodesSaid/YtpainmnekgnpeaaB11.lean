import Derived.Test.YtpainmnekgnpeaaB9
import Derived.Test.YtpainmnekgnpeaaM4
namespace Go.Proofs.Ytpainmnekgnpeaa
open Go.RowKit Go.Sort Go.BigFrame

theorem straight_ok {ns ls : List P2} {k : Int} (h : straight ns ls k = true) : WOk ns ls := by
  simp only [straight, Bool.and_eq_true, decide_eq_true_eq] at h
  exact (str_facts h.1).1
def vStraightNodes (ns ls : List P2) : List Int := flt (fun i => straight ns ls (i : Nat)) ns.length
theorem vStraightNodes_len (ns ls : List P2) : (vStraightNodes ns ls).length ≤ 1000 := by
  unfold vStraightNodes
  by_cases h : ∃ i : Nat, straight ns ls i = true
  · obtain ⟨i, hi⟩ := h
    have := (straight_ok hi).hi
    have := flt_len (fun i => straight ns ls (i : Nat)) ns.length
    omega
  · rw [flt_none (fun i _ => by rw [Bool.eq_false_iff]; exact fun e => h ⟨i, e⟩)]
    simp

set_option maxRecDepth 100000 in
set_option maxHeartbeats 2000000 in
theorem StraightNodes_i (A B : Option Addr) (c d : Nat) (ns ls : List P2) (w : World) (h : Wn w A c B d ns ls) :
    Calls Try.prog 44 #[.agg #[.slice A ns.length c, .slice B ls.length d]] w fun e w' => ∃ v, e = .returned v ∧ OwI w' w.heap.size v (vStraightNodes ns ls) ∧ Ext w w' := by
  have hnl := h.hl
  have HV : Hid (vStraightNodes ns ls = flt (fun i => straight ns ls (i : Nat)) ns.length) := Lib.hid rfl
  have HP : Hid (∀ j : Nat, (fun i : Nat => straight ns ls (i : Nat)) j = straight ns ls j) := Lib.hid (fun _ => rfl)
  generalize (fun i : Nat => straight ns ls (i : Nat)) = P at *
  go_enter Try.func44, Try.ntmps44
  go_wp2_with fail
  have k0 : (w.alloc (.cells #[.slice A ns.length c, .slice B ls.length d] 36)).cell? ⟨w.heap.size, 0, none⟩ = some (.slice A ns.length c) := by go_simp
  have k1 : (w.alloc (.cells #[.slice A ns.length c, .slice B ls.length d] 36)).cell? ⟨w.heap.size, 1, none⟩ = some (.slice B ls.length d) := by go_simp
  have hx : Ext w (w.alloc (.cells #[.slice A ns.length c, .slice B ls.length d] 36)) := (by repeat first | exact Ext.refl _ | assumption | refine Ext.drew ?_ | refine Ext.alloc ?_ _ | refine Ext.setCell ?_ (by simp) | refine Ext.setCell ?_ (by simp; omega) | refine Ext.trans ?_ (by assumption))
  have hsz1 : w.heap.size + 1 = (w.alloc (.cells #[.slice A ns.length c, .slice B ls.length d] 36)).heap.size := by simp
  generalize (w.alloc (.cells #[.slice A ns.length c, .slice B ls.length d] 36)) = w1 at *
  (try rw [hsz1])
  go_loopw [3, 4, 8] (fun v _ i wr => ∃ j : Nat, j ≤ ns.length ∧ i = .int .i64 j ∧ OzI wr w.heap.size w1.heap.size v (flt P j) ∧ Ext w1 wr) (fun _ _ i _ => ns.length - (intOf i).toNat)
  case atStart => exact ⟨0, by omega, rfl, .of (OwI.nil _ _), Ext.refl _⟩
  case round =>
    obtain ⟨j, hj, rfl, hv, hxr⟩ := hrel
    obtain ⟨wo, rfl⟩ : ∃ x : World, x = wr := ⟨_, rfl⟩
    have hx0 := hx.trans hxr
    have k0 := hxr.lit k0
    have k1 := hxr.lit k1
    by_cases hlt : j < ns.length
    · go_wp2_with fail
      refine (IsStraightNode_i A B c d ns ls _ _ (h.ext hx0)).mono ?_
      rintro e w3 ⟨rfl, hb⟩
      have hxr := hxr.trans hb
      have hv := hv.ext hb
      clear hb
      by_cases hs : straight ns ls j = true
      · have Hs := Lib.hid (flt_yes (p := P) (j := j) (by rw [HP.out]; exact hs))
        rw [hs]
        have hsz := hxr.size
        have hln := flt_len P j
        go_wp2_with (at_builtin; refine az_int _ _ rfl rfl rfl (hv.ext ((Ext.refl w3).alloc _)) (g := w3.heap.size) (y := j) (by first | rfl | simp) (by go_simp) (by omega) (by simp; omega) ?_)
        intro v' w' h1 h3
        go_wp2
        go_roundw
        case rel => exact ⟨j + 1, by omega, by go_num, by rw [Hs.out]; exact h1, h3 _ (hxr.trans (by repeat first | exact Ext.refl _ | assumption | refine Ext.drew ?_ | refine Ext.alloc ?_ _ | refine Ext.setCell ?_ (by simp) | refine Ext.setCell ?_ (by simp; omega) | refine Ext.trans ?_ (by assumption))) (Nat.le_refl _)⟩
        case measure => first | (simp [intOf]; done) | (simp [intOf]; omega)
      · have hs' := eq_false_of_ne_true hs
        have Hs := Lib.hid (flt_no (p := P) (j := j) (by rw [HP.out]; exact hs'))
        rw [hs']
        go_wp2
        go_roundw
        case rel => exact ⟨j + 1, by omega, by go_num, by rw [Hs.out]; exact hv, hxr⟩
        case measure => first | (simp [intOf]; done) | (simp [intOf]; omega)
    · obtain rfl : j = ns.length := by omega
      go_wp2
      go_ret
      exact ⟨_, rfl, by rw [HV.out]; exact hv.own (by omega), hx0⟩

set_option maxRecDepth 100000 in
set_option maxHeartbeats 2000000 in
theorem StraightNodes_s (A B : Option Addr) (c d : Nat) (ns ls : List P2) (w : World) (h : Wn w A c B d ns ls) :
    Calls Try.prog 43 #[.agg #[.slice A ns.length c, .slice B ls.length d]] w fun e w' => ∃ v, e = .returned v ∧ OwI w' w.heap.size v (vStraightNodes ns ls) ∧ Ext w w' := by
  have hnl := h.hl
  have HV : Hid (vStraightNodes ns ls = flt (fun i => straight ns ls (i : Nat)) ns.length) := Lib.hid rfl
  have HP : Hid (∀ j : Nat, (fun i : Nat => straight ns ls (i : Nat)) j = straight ns ls j) := Lib.hid (fun _ => rfl)
  generalize (fun i : Nat => straight ns ls (i : Nat)) = P at *
  go_enter Try.func43, Try.ntmps43
  go_wp2_with fail
  have k0 : (w.alloc (.cells #[.slice A ns.length c, .slice B ls.length d] 36)).cell? ⟨w.heap.size, 0, none⟩ = some (.slice A ns.length c) := by go_simp
  have k1 : (w.alloc (.cells #[.slice A ns.length c, .slice B ls.length d] 36)).cell? ⟨w.heap.size, 1, none⟩ = some (.slice B ls.length d) := by go_simp
  have hx : Ext w (w.alloc (.cells #[.slice A ns.length c, .slice B ls.length d] 36)) := (by repeat first | exact Ext.refl _ | assumption | refine Ext.drew ?_ | refine Ext.alloc ?_ _ | refine Ext.setCell ?_ (by simp) | refine Ext.setCell ?_ (by simp; omega) | refine Ext.trans ?_ (by assumption))
  have hsz1 : w.heap.size + 1 = (w.alloc (.cells #[.slice A ns.length c, .slice B ls.length d] 36)).heap.size := by simp
  generalize (w.alloc (.cells #[.slice A ns.length c, .slice B ls.length d] 36)) = w1 at *
  (try rw [hsz1])
  have hv0 : OzI (w1.alloc (.cells #[] 3)) w.heap.size w1.heap.size (.slice (some ⟨w1.heap.size, 0, none⟩) 0 0) (flt P 0) := OzI.zero _ (by omega) rfl
  have hx2 : Ext w1 (w1.alloc (.cells #[] 3)) := (by repeat first | exact Ext.refl _ | assumption | refine Ext.drew ?_ | refine Ext.alloc ?_ _ | refine Ext.setCell ?_ (by simp) | refine Ext.setCell ?_ (by simp; omega) | refine Ext.trans ?_ (by assumption))
  generalize (w1.alloc (.cells #[] 3)) = w2 at *
  go_loopw [3, 4] (fun v i wr => ∃ j : Nat, j ≤ ns.length ∧ i = .int .i64 j ∧ OzI wr w.heap.size w1.heap.size v (flt P j) ∧ Ext w1 wr) (fun _ i _ => ns.length - (intOf i).toNat)
  case atStart => exact ⟨0, by omega, rfl, hv0, hx2⟩
  case round =>
    clear hv0
    obtain ⟨j, hj, rfl, hv, hxr⟩ := hrel
    obtain ⟨wo, rfl⟩ : ∃ x : World, x = wr := ⟨_, rfl⟩
    have hx0 := hx.trans hxr
    have k0 := hxr.lit k0
    have k1 := hxr.lit k1
    by_cases hlt : j < ns.length
    · go_wp2_with fail
      refine (IsStraightNode_s A B c d ns ls _ _ (h.ext hx0)).mono ?_
      rintro e w3 ⟨rfl, hb⟩
      have hxr := hxr.trans hb
      have hv := hv.ext hb
      clear hb
      by_cases hs : straight ns ls j = true
      · have Hs := Lib.hid (flt_yes (p := P) (j := j) (by rw [HP.out]; exact hs))
        rw [hs]
        have hsz := hxr.size
        have hln := flt_len P j
        go_wp2_with (at_builtin; refine az_int _ _ rfl rfl rfl (hv.ext ((Ext.refl w3).alloc _)) (g := w3.heap.size) (y := j) (by first | rfl | simp) (by go_simp) (by omega) (by simp; omega) ?_)
        intro v' w' h1 h3
        go_wp2
        go_roundw
        case rel => exact ⟨j + 1, by omega, by go_num, by rw [Hs.out]; exact h1, h3 _ (hxr.trans (by repeat first | exact Ext.refl _ | assumption | refine Ext.drew ?_ | refine Ext.alloc ?_ _ | refine Ext.setCell ?_ (by simp) | refine Ext.setCell ?_ (by simp; omega) | refine Ext.trans ?_ (by assumption))) (Nat.le_refl _)⟩
        case measure => first | (simp [intOf]; done) | (simp [intOf]; omega)
      · have hs' := eq_false_of_ne_true hs
        have Hs := Lib.hid (flt_no (p := P) (j := j) (by rw [HP.out]; exact hs'))
        rw [hs']
        go_wp2
        go_roundw
        case rel => exact ⟨j + 1, by omega, by go_num, by rw [Hs.out]; exact hv, hxr⟩
        case measure => first | (simp [intOf]; done) | (simp [intOf]; omega)
    · obtain rfl : j = ns.length := by omega
      go_wp2
      go_ret
      exact ⟨_, rfl, by rw [HV.out]; exact hv.own (by omega), hx0⟩

def vEndNodes (ns ls : List P2) : List Int := if wok ns ls = true then flt (fun i => decide (degOf ns ls (i : Nat) = 1)) ns.length else []
theorem vEndNodes_len (ns ls : List P2) : (vEndNodes ns ls).length ≤ 1000 := by
  unfold vEndNodes
  split
  · rename_i h
    have := (wok_iff.1 h).hi
    have := flt_len (fun i => decide (degOf ns ls (i : Nat) = 1)) ns.length
    omega
  · simp
set_option maxRecDepth 100000 in
set_option maxHeartbeats 2000000 in
theorem EndNodes_i (A B : Option Addr) (c d : Nat) (ns ls : List P2) (w : World) (h : Wn w A c B d ns ls) :
    Calls Try.prog 42 #[.agg #[.slice A ns.length c, .slice B ls.length d]] w fun e w' => ∃ v, e = .returned v ∧ OwI w' w.heap.size v (vEndNodes ns ls) ∧ Ext w w' := by
  have hnl := h.hl
  have HV : Hid (vEndNodes ns ls = if wok ns ls = true then flt (fun i => decide (degOf ns ls (i : Nat) = 1)) ns.length else []) := Lib.hid rfl
  have HP : Hid (∀ j : Nat, (fun i : Nat => decide (degOf ns ls (i : Nat) = 1)) j = decide (degOf ns ls j = 1)) := Lib.hid (fun _ => rfl)
  generalize (fun i : Nat => decide (degOf ns ls (i : Nat) = 1)) = P at *
  by_cases hw : wok ns ls = true
  · rw [if_pos hw] at HV
    go_enter Try.func42, Try.ntmps42
    go_wp2_with fail
    have k0 : (w.alloc (.cells #[.slice A ns.length c, .slice B ls.length d] 36)).cell? ⟨w.heap.size, 0, none⟩ = some (.slice A ns.length c) := by go_simp
    have k1 : (w.alloc (.cells #[.slice A ns.length c, .slice B ls.length d] 36)).cell? ⟨w.heap.size, 1, none⟩ = some (.slice B ls.length d) := by go_simp
    have hx : Ext w (w.alloc (.cells #[.slice A ns.length c, .slice B ls.length d] 36)) := (by repeat first | exact Ext.refl _ | assumption | refine Ext.drew ?_ | refine Ext.alloc ?_ _ | refine Ext.setCell ?_ (by simp) | refine Ext.setCell ?_ (by simp; omega) | refine Ext.trans ?_ (by assumption))
    have hsz1 : w.heap.size + 1 = (w.alloc (.cells #[.slice A ns.length c, .slice B ls.length d] 36)).heap.size := by simp
    generalize (w.alloc (.cells #[.slice A ns.length c, .slice B ls.length d] 36)) = w0 at *
    (try rw [hsz1])
    refine (WindowOk_i' (h.ext hx)).mono ?_
    rintro e w1 ⟨rfl, hb⟩
    have k0 := hb.lit k0
    have k1 := hb.lit k1
    have hx := hx.trans hb
    clear hb
    rw [hw]
    go_wp2_with fail
    go_loopw [3, 4, 11] (fun v _ i wr => ∃ j : Nat, j ≤ ns.length ∧ i = .int .i64 j ∧ OzI wr w.heap.size w1.heap.size v (flt P j) ∧ Ext w1 wr) (fun _ _ i _ => ns.length - (intOf i).toNat)
    case atStart => exact ⟨0, by omega, rfl, .of (OwI.nil _ _), Ext.refl _⟩
    case round =>
      obtain ⟨j, hj, rfl, hv, hxr⟩ := hrel
      obtain ⟨wo, rfl⟩ : ∃ x : World, x = wr := ⟨_, rfl⟩
      have hx0 := hx.trans hxr
      have k0 := hxr.lit k0
      have k1 := hxr.lit k1
      by_cases hlt : j < ns.length
      · go_wp2_with fail
        refine (DegreeOf_i A B c d ns ls _ _ (h.ext hx0)).mono ?_
        rintro e w3 ⟨rfl, hb⟩
        have hxr := hxr.trans hb
        have hv := hv.ext hb
        clear hb
        by_cases hs : degOf ns ls j = 1
        · have Hs := Lib.hid (flt_yes (p := P) (j := j) (by rw [HP.out]; exact decide_eq_true hs))
          rw [hs]
          have hsz := hxr.size
          have hln := flt_len P j
          go_wp2_with (at_builtin; refine az_int _ _ rfl rfl rfl (hv.ext ((Ext.refl w3).alloc _)) (g := w3.heap.size) (y := j) (by first | rfl | simp) (by go_simp) (by omega) (by simp; omega) ?_)
          intro v' w' h1 h3
          go_wp2
          go_roundw
          case rel => exact ⟨j + 1, by omega, by go_num, by rw [Hs.out]; exact h1, h3 _ (hxr.trans (by repeat first | exact Ext.refl _ | assumption | refine Ext.drew ?_ | refine Ext.alloc ?_ _ | refine Ext.setCell ?_ (by simp) | refine Ext.setCell ?_ (by simp; omega) | refine Ext.trans ?_ (by assumption))) (Nat.le_refl _)⟩
          case measure => first | (simp [intOf]; done) | (simp [intOf]; omega)
        · have Hs := Lib.hid (flt_no (p := P) (j := j) (by rw [HP.out]; exact decide_eq_false hs))
          have hs' : (degOf ns ls j == 1) = false := beq_eq_false_iff_ne.2 hs
          go_wp2
          go_roundw
          case rel => exact ⟨j + 1, by omega, by go_num, by rw [Hs.out]; exact hv, hxr⟩
          case measure => first | (simp [intOf]; done) | (simp [intOf]; omega)
      · obtain rfl : j = ns.length := by omega
        go_wp2
        go_ret
        exact ⟨_, rfl, by rw [HV.out]; exact hv.own hx.size, hx0⟩
  · rw [if_neg hw] at HV
    have hw' := eq_false_of_ne_true hw
    go_enter Try.func42, Try.ntmps42
    go_wp2_with fail
    refine (WindowOk_i' (h.ext (by repeat first | exact Ext.refl _ | assumption | refine Ext.drew ?_ | refine Ext.alloc ?_ _ | refine Ext.setCell ?_ (by simp) | refine Ext.setCell ?_ (by simp; omega) | refine Ext.trans ?_ (by assumption)))).mono ?_
    rintro e w1 ⟨rfl, hb⟩
    rw [hw']
    go_wp2
    go_ret
    exact ⟨_, rfl, by rw [HV.out]; exact OwI.nil _ _, (by repeat first | exact Ext.refl _ | assumption | refine Ext.drew ?_ | refine Ext.alloc ?_ _ | refine Ext.setCell ?_ (by simp) | refine Ext.setCell ?_ (by simp; omega) | refine Ext.trans ?_ (by assumption))⟩
end Go.Proofs.Ytpainmnekgnpeaa
