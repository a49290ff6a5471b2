import Derived.Test.YtdhmjhoaegdfjaaG18
namespace Go.Proofs.Ytdhmjhoaegdfjaa
open Go.RowKit Go.Sort Go.BigFrame

theorem sides_nn {ns ls : List P2} (hw : whole ns ls = true) {d : Nat} (hd : d < 2 * ls.length) : 0 ≤ gi (vSides ns ls) d := by rw [vSides_gi hw hd]; omega
theorem vIsLoose_yes {ns ls : List P2} (hw : whole ns ls = true) {j : Nat} (hj : j < ls.length) : vIsLoose ns ls j = decide (gi (vSides ns ls) (2 * (j : Int)) = gi (vSides ns ls) (2 * (j : Int) + 1)) := by
  have hk : wi (j : Int) 0 (ls.length - 1) = true := wi_iff.2 (by omega)
  have h0 := sides_nn hw (d := 2 * j) (by omega)
  have e : ((2 * j : Nat) : Int) = 2 * (j : Int) := by omega
  rw [e] at h0
  unfold vIsLoose vSidesOf
  rw [if_pos ⟨hw, hk⟩]
  simp [h0]
theorem vIsLoose_no {ns ls : List P2} (hw : whole ns ls = false) (k : Int) : vIsLoose ns ls k = false := by
  unfold vIsLoose vSidesOf
  rw [hw, if_neg (by simp)]
  simp
def vLooseLeads (ns ls : List P2) : List Int := flt (fun i => vIsLoose ns ls (i : Nat)) ls.length
theorem vLooseLeads_len (ns ls : List P2) : (vLooseLeads ns ls).length ≤ 1000 := by
  unfold vLooseLeads
  by_cases h : whole ns ls = true
  · have := (whole_ok h).1.le
    have := flt_len (fun i => vIsLoose ns ls (i : Nat)) ls.length
    omega
  · rw [flt_none (fun i _ => vIsLoose_no (eq_false_of_ne_true h) _)]
    simp

set_option maxRecDepth 100000 in
set_option maxHeartbeats 2000000 in
theorem LooseLeads_i (A B : Option Addr) (c d : Nat) (ns ls : List P2) (w : World) (h : Wn w A c B d ns ls) :
    Calls Try.prog 48 #[.agg #[.slice A ns.length c, .slice B ls.length d]] w fun e w' => ∃ v, e = .returned v ∧ OwI w' w.heap.size v (vLooseLeads ns ls) ∧ Ext w w' := by
  have hnl := h.hm
  have HV : Hid (vLooseLeads ns ls = flt (fun i => vIsLoose ns ls (i : Nat)) ls.length) := Lib.hid rfl
  have HP : Hid (∀ j : Nat, (fun i : Nat => vIsLoose ns ls (i : Nat)) j = vIsLoose ns ls j) := Lib.hid (fun _ => rfl)
  generalize (fun i : Nat => vIsLoose ns ls (i : Nat)) = P at *
  go_enter Try.func48, Try.ntmps48
  go_wp2_with fail
  have k0 : (w.alloc (.cells #[.slice A ns.length c, .slice B ls.length d] 27)).cell? ⟨w.heap.size, 0, none⟩ = some (.slice A ns.length c) := by go_simp
  have k1 : (w.alloc (.cells #[.slice A ns.length c, .slice B ls.length d] 27)).cell? ⟨w.heap.size, 1, none⟩ = some (.slice B ls.length d) := by go_simp
  have hx : Ext w (w.alloc (.cells #[.slice A ns.length c, .slice B ls.length d] 27)) := (by repeat first | exact Ext.refl _ | assumption | refine Ext.drew ?_ | refine Ext.alloc ?_ _ | refine Ext.setCell ?_ (by simp) | refine Ext.setCell ?_ (by simp; omega) | refine Ext.trans ?_ (by assumption))
  have hsz1 : w.heap.size + 1 = (w.alloc (.cells #[.slice A ns.length c, .slice B ls.length d] 27)).heap.size := by simp
  generalize (w.alloc (.cells #[.slice A ns.length c, .slice B ls.length d] 27)) = w1 at *
  (try rw [hsz1])
  go_loopw [3, 4, 8] (fun v _ i wr => ∃ j : Nat, j ≤ ls.length ∧ i = .int .i64 j ∧ OzI wr w.heap.size w1.heap.size v (flt P j) ∧ Ext w1 wr) (fun _ _ i _ => ls.length - (intOf i).toNat)
  case atStart => exact ⟨0, by omega, rfl, .of (OwI.nil _ _), Ext.refl _⟩
  case round =>
    obtain ⟨j, hj, rfl, hv, hxr⟩ := hrel
    obtain ⟨wo, rfl⟩ : ∃ x : World, x = wr := ⟨_, rfl⟩
    have hx0 := hx.trans hxr
    have k0 := hxr.lit k0
    have k1 := hxr.lit k1
    by_cases hlt : j < ls.length
    · go_wp2_with fail
      refine (IsLoose_i A B c d ns ls _ _ (h.ext hx0)).mono ?_
      rintro e w3 ⟨rfl, hb⟩
      have hxr := hxr.trans hb
      have hv := hv.ext hb
      clear hb
      by_cases hs : vIsLoose ns ls j = true
      · have Hs := Lib.hid (flt_yes (p := P) (j := j) (by rw [HP.out]; exact hs))
        rw [hs]
        have hsz := hxr.size
        have hln := flt_len P j
        go_wp2_with (at_builtin; refine az_int _ _ rfl rfl rfl (hv.ext ((Ext.refl w3).alloc _)) (g := w3.heap.size) (y := j) (by first | rfl | simp) (by go_simp) (by omega) (by simp; omega) ?_)
        intro v' w' h1 h3
        go_wp2
        go_roundw
        case rel => exact ⟨j + 1, by omega, by go_num, by rw [Hs.out]; exact h1, h3 _ (hxr.trans (by repeat first | exact Ext.refl _ | assumption | refine Ext.drew ?_ | refine Ext.alloc ?_ _ | refine Ext.setCell ?_ (by simp) | refine Ext.setCell ?_ (by simp; omega) | refine Ext.trans ?_ (by assumption))) (Nat.le_refl _)⟩
        case measure => first | (simp [intOf]; done) | (simp [intOf]; omega)
      · have hs' := eq_false_of_ne_true hs
        have Hs := Lib.hid (flt_no (p := P) (j := j) (by rw [HP.out]; exact hs'))
        rw [hs']
        go_wp2
        go_roundw
        case rel => exact ⟨j + 1, by omega, by go_num, by rw [Hs.out]; exact hv, hxr⟩
        case measure => first | (simp [intOf]; done) | (simp [intOf]; omega)
    · obtain rfl : j = ls.length := by omega
      go_wp2
      go_ret
      exact ⟨_, rfl, by rw [HV.out]; exact hv.own (by omega), hx0⟩

def vIsTight (ns ls : List P2) : Bool := whole ns ls && decide ((vLooseLeads ns ls).length = 0)
set_option maxRecDepth 100000 in
set_option maxHeartbeats 2000000 in
theorem IsTight_i (A B : Option Addr) (c d : Nat) (ns ls : List P2) (w : World) (h : Wn w A c B d ns ls) :
    Calls Try.prog 57 #[.agg #[.slice A ns.length c, .slice B ls.length d]] w fun e w' => e = .returned (.bool (vIsTight ns ls)) ∧ Ext w w' := by
  have HV : Hid (vIsTight ns ls = (whole ns ls && decide ((vLooseLeads ns ls).length = 0))) := Lib.hid rfl
  by_cases hw : whole ns ls = true
  · skip
    go_enter Try.func57, Try.ntmps57
    go_wp2_with fail
    have k0 : (w.alloc (.cells #[.slice A ns.length c, .slice B ls.length d] 27)).cell? ⟨w.heap.size, 0, none⟩ = some (.slice A ns.length c) := by go_simp
    have k1 : (w.alloc (.cells #[.slice A ns.length c, .slice B ls.length d] 27)).cell? ⟨w.heap.size, 1, none⟩ = some (.slice B ls.length d) := by go_simp
    have hx : Ext w (w.alloc (.cells #[.slice A ns.length c, .slice B ls.length d] 27)) := (by repeat first | exact Ext.refl _ | assumption | refine Ext.drew ?_ | refine Ext.alloc ?_ _ | refine Ext.setCell ?_ (by simp) | refine Ext.setCell ?_ (by simp; omega) | refine Ext.trans ?_ (by assumption))
    have hsz1 : w.heap.size + 1 = (w.alloc (.cells #[.slice A ns.length c, .slice B ls.length d] 27)).heap.size := by simp
    generalize (w.alloc (.cells #[.slice A ns.length c, .slice B ls.length d] 27)) = w0 at *
    (try rw [hsz1])
    refine (IsWhole_i _ _ _ _ ns ls _ (h.ext hx)).mono ?_
    rintro e w1 ⟨rfl, hb⟩
    have k0 := hb.lit k0
    have k1 := hb.lit k1
    have hx := hx.trans hb
    clear hb
    rw [hw]
    go_wp2_with fail
    refine (LooseLeads_i _ _ _ _ ns ls _ (h.ext hx)).mono ?_
    rintro e w2 ⟨v, rfl, hv, hb⟩
    obtain ⟨A1, c1, rfl, -, -, -⟩ := hv.shape
    have hl := vLooseLeads_len ns ls
    generalize (vLooseLeads ns ls).length = n at *
    go_wp2
    go_ret
    exact ⟨ret_b (by rw [HV.out, hw, Bool.true_and, Bool.eq_iff_iff, beq_iff_eq, decide_eq_true_eq]; omega), hx.trans hb⟩
  · have hw' := eq_false_of_ne_true hw
    go_enter Try.func57, Try.ntmps57
    go_wp2_with fail
    have k0 : (w.alloc (.cells #[.slice A ns.length c, .slice B ls.length d] 27)).cell? ⟨w.heap.size, 0, none⟩ = some (.slice A ns.length c) := by go_simp
    have k1 : (w.alloc (.cells #[.slice A ns.length c, .slice B ls.length d] 27)).cell? ⟨w.heap.size, 1, none⟩ = some (.slice B ls.length d) := by go_simp
    have hx : Ext w (w.alloc (.cells #[.slice A ns.length c, .slice B ls.length d] 27)) := (by repeat first | exact Ext.refl _ | assumption | refine Ext.drew ?_ | refine Ext.alloc ?_ _ | refine Ext.setCell ?_ (by simp) | refine Ext.setCell ?_ (by simp; omega) | refine Ext.trans ?_ (by assumption))
    have hsz1 : w.heap.size + 1 = (w.alloc (.cells #[.slice A ns.length c, .slice B ls.length d] 27)).heap.size := by simp
    generalize (w.alloc (.cells #[.slice A ns.length c, .slice B ls.length d] 27)) = w0 at *
    (try rw [hsz1])
    refine (IsWhole_i _ _ _ _ ns ls _ (h.ext hx)).mono ?_
    rintro e w1 ⟨rfl, hb⟩
    have k0 := hb.lit k0
    have k1 := hb.lit k1
    have hx := hx.trans hb
    clear hb
    rw [hw']
    go_wp2
    go_ret
    exact ⟨ret_b (by rw [HV.out, hw']; rfl), hx⟩
end Go.Proofs.Ytdhmjhoaegdfjaa
