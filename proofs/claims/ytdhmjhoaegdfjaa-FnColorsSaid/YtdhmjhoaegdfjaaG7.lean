import Derived.Test.YtdhmjhoaegdfjaaG6
import Derived.Test.YtdhmjhoaegdfjaaG1
namespace Go.Proofs.Ytdhmjhoaegdfjaa
open Go.RowKit Go.Sort Go.BigFrame

def hasN (ns ls : List P2) (k : Int) : Bool := wok ns ls && wi k 0 (ns.length - 1)
theorem hasN_ok {ns ls : List P2} {k : Int} (h : hasN ns ls k = true) : WOk ns ls ∧ ∃ i : Nat, k = i ∧ i < ns.length := by
  simp only [hasN, wi, Bool.and_eq_true, decide_eq_true_eq] at h
  exact ⟨wok_iff.1 h.1, k.toNat, by omega, by omega⟩
def atL (l : P2) (k : Int) : Bool := decide (l.1 = k) || decide (l.2 = k)
/-- the leads at node k, of the first j -/
def lat (ls : List P2) (k : Int) (j : Nat) : List Int := ((List.range j).filter (fun i => atL (gp ls (i : Nat)) k)).map (fun i : Nat => (i : Int))
theorem lat_succ (ls : List P2) (k : Int) (j : Nat) : lat ls k (j + 1) = if atL (gp ls j) k = true then lat ls k j ++ [(j : Int)] else lat ls k j := by
  unfold lat
  rw [List.range_succ, List.filter_append]
  split
  · rename_i h; simp [h]
  · rename_i h; simp [h]
theorem lat_len (ls : List P2) (k : Int) (j : Nat) : (lat ls k j).length ≤ j := by
  unfold lat
  rw [List.length_map]
  have := List.length_filter_le (fun i => atL (gp ls (i : Nat)) k) (List.range j)
  rwa [List.length_range] at this
def leadsAt (ns ls : List P2) (k : Int) : List Int := if hasN ns ls k = true then lat ls k ls.length else []
theorem leadsAt_len (ns ls : List P2) (k : Int) : (leadsAt ns ls k).length ≤ 20 := by
  unfold leadsAt
  split
  · rename_i h
    have := (hasN_ok h).1.le
    have := lat_len ls k ls.length
    omega
  · simp
def degOf (ns ls : List P2) (k : Int) : Int := if hasN ns ls k = true then ((leadsAt ns ls k).length : Nat) else -1
def oend (l : P2) (k : Int) : Int := if k = l.1 then l.2 else if k = l.2 then l.1 else -1

set_option maxHeartbeats 1000000 in
theorem hasNode_c (A B : Option Addr) (c d : Nat) (ns ls : List P2) (k : Int) (w : World) (h : Wn w A c B d ns ls) :
    Calls Try.prog 78 #[.agg #[.slice A ns.length c, .slice B ls.length d], .int .i64 k] w fun e w' => e = .returned (.bool (hasN ns ls k)) ∧ Ext w w' := by
  have hl := h.hl
  by_cases hw : wok ns ls = true
  · go_enter Try.func78, Try.ntmps78
    go_wp2_with fail
    refine (WindowOk_i' (h.ext (by repeat first | exact Ext.refl _ | assumption | refine Ext.drew ?_ | refine Ext.alloc ?_ _ | refine Ext.setCell ?_ (by simp) | refine Ext.setCell ?_ (by simp; omega) | refine Ext.trans ?_ (by assumption)))).mono ?_
    rintro e w1 ⟨rfl, hb⟩
    have k0 := hb.lit (b := w.heap.size) (o := 0) (v := .slice A ns.length c) (by go_simp)
    have hx : Ext w w1 := (by repeat first | exact Ext.refl _ | assumption | refine Ext.drew ?_ | refine Ext.alloc ?_ _ | refine Ext.setCell ?_ (by simp) | refine Ext.setCell ?_ (by simp; omega) | refine Ext.trans ?_ (by assumption))
    rw [hw]
    clear hb
    go_wp2_with fail
    refine (within_c _ _ _ _).mono ?_
    rintro e w2 ⟨rfl, rfl⟩
    go_wp2
    all_goals
      go_ret
      refine ⟨ret_b ?_, hx⟩
      simp_all [hasN]
  · have hw := eq_false_of_ne_true hw
    go_enter Try.func78, Try.ntmps78
    go_wp2_with fail
    refine (WindowOk_i' (h.ext (by repeat first | exact Ext.refl _ | assumption | refine Ext.drew ?_ | refine Ext.alloc ?_ _ | refine Ext.setCell ?_ (by simp) | refine Ext.setCell ?_ (by simp; omega) | refine Ext.trans ?_ (by assumption)))).mono ?_
    rintro e w1 ⟨rfl, hb⟩
    rw [hw]
    go_wp2
    go_ret
    exact ⟨ret_b (by rw [hasN, hw]; rfl), (by repeat first | exact Ext.refl _ | assumption | refine Ext.drew ?_ | refine Ext.alloc ?_ _ | refine Ext.setCell ?_ (by simp) | refine Ext.setCell ?_ (by simp; omega) | refine Ext.trans ?_ (by assumption))⟩

set_option maxRecDepth 100000 in
set_option maxHeartbeats 2000000 in
theorem LeadsAt_i (A B : Option Addr) (c d : Nat) (ns ls : List P2) (k : Int) (w : World) (h : Wn w A c B d ns ls) :
    Calls Try.prog 123 #[.agg #[.slice A ns.length c, .slice B ls.length d], .int .i64 k] w fun e w' => ∃ v, e = .returned v ∧ OwI w' w.heap.size v (leadsAt ns ls k) ∧ Ext w w' := by
  by_cases hw : hasN ns ls k = true
  · have hm := (hasN_ok hw).1.le
    go_enter Try.func123, Try.ntmps123
    go_wp2_with fail
    refine (hasNode_c A B c d ns ls k _ (h.ext (by repeat first | exact Ext.refl _ | assumption | refine Ext.drew ?_ | refine Ext.alloc ?_ _ | refine Ext.setCell ?_ (by simp) | refine Ext.setCell ?_ (by simp; omega) | refine Ext.trans ?_ (by assumption)))).mono ?_
    rintro e w1 ⟨rfl, hb⟩
    have k1 := hb.lit (b := w.heap.size) (o := 1) (v := .slice B ls.length d) (by go_simp)
    have hx : Ext w w1 := (by repeat first | exact Ext.refl _ | assumption | refine Ext.drew ?_ | refine Ext.alloc ?_ _ | refine Ext.setCell ?_ (by simp) | refine Ext.setCell ?_ (by simp; omega) | refine Ext.trans ?_ (by assumption))
    rw [hw]
    clear hb
    go_wp2_with fail
    go_loopw [5, 15] (fun v i wr => ∃ j : Nat, j ≤ ls.length ∧ i = .int .i64 j ∧ OwI wr w1.heap.size v (lat ls k j) ∧ Ext w1 wr) (fun _ i _ => ls.length - (intOf i).toNat)
    case atStart => exact ⟨0, by omega, rfl, OwI.nil _ _, Ext.refl _⟩
    case round =>
      obtain ⟨j, hj, rfl, hv, hxr⟩ := hrel
      obtain ⟨wo, rfl⟩ : ∃ x : World, x = wr := ⟨_, rfl⟩
      have hx0 := hx.trans hxr
      have k1 := hxr.lit k1
      by_cases hlt : j < ls.length
      · obtain ⟨b, off, rfl, hbb, c1, c2⟩ := (h.ext hx0).g.gp_ hlt
        have hs := lat_succ ls k j
        have hln := lat_len ls k j
        have hsz := hxr.size
        unfold atL at hs
        generalize gp ls j = L at *
        obtain ⟨p, q⟩ := L
        have Hs := Lib.hid hs
        clear hs
        have hq : Ext wo (wo.alloc (.cells #[.int .i64 p, .int .i64 q] 67)) := (by repeat first | exact Ext.refl _ | assumption | refine Ext.drew ?_ | refine Ext.alloc ?_ _ | refine Ext.setCell ?_ (by simp) | refine Ext.setCell ?_ (by simp; omega) | refine Ext.trans ?_ (by assumption))
        by_cases hz : p = k ∨ q = k
        · have Hs2 : Hid (lat ls k (j + 1) = lat ls k j ++ [(j : Int)]) := Lib.hid (by rw [Hs.out, if_pos (by simpa using hz)])
          rcases hz with hz | hz
          · subst hz
            go_wp2_with (at_builtin; go_loud (refine ap_int Try.underlying29 infoI2 _ _ rfl rfl rfl ((hv.ext hq).ext ((Ext.refl _).alloc _)) (g := wo.heap.size + 1) (y := j) (by first | rfl | simp) (by go_simp) (by omega) (by simp; omega) ?_))
            intro v' w' h1 h2 h3
            go_wp2
            go_roundw
            case rel => exact ⟨j + 1, by omega, by go_num, by rw [Hs2.out]; exact h1, h3 _ (hxr.trans (by repeat first | exact Ext.refl _ | assumption | refine Ext.drew ?_ | refine Ext.alloc ?_ _ | refine Ext.setCell ?_ (by simp) | refine Ext.setCell ?_ (by simp; omega) | refine Ext.trans ?_ (by assumption))) (Nat.le_refl _)⟩
            case measure => simp [intOf]; omega
          · subst hz
            by_cases hpq : p = q
            · subst hpq
              go_wp2_with (at_builtin; go_loud (refine ap_int Try.underlying29 infoI2 _ _ rfl rfl rfl ((hv.ext hq).ext ((Ext.refl _).alloc _)) (g := wo.heap.size + 1) (y := j) (by first | rfl | simp) (by go_simp) (by omega) (by simp; omega) ?_))
              intro v' w' h1 h2 h3
              go_wp2
              go_roundw
              case rel => exact ⟨j + 1, by omega, by go_num, by rw [Hs2.out]; exact h1, h3 _ (hxr.trans (by repeat first | exact Ext.refl _ | assumption | refine Ext.drew ?_ | refine Ext.alloc ?_ _ | refine Ext.setCell ?_ (by simp) | refine Ext.setCell ?_ (by simp; omega) | refine Ext.trans ?_ (by assumption))) (Nat.le_refl _)⟩
              case measure => simp [intOf]; omega
            · skip
              go_wp2_with (at_builtin; go_loud (refine ap_int Try.underlying29 infoI2 _ _ rfl rfl rfl ((hv.ext hq).ext ((Ext.refl _).alloc _)) (g := wo.heap.size + 1) (y := j) (by first | rfl | simp) (by go_simp) (by omega) (by simp; omega) ?_))
              intro v' w' h1 h2 h3
              go_wp2
              go_roundw
              case rel => exact ⟨j + 1, by omega, by go_num, by rw [Hs2.out]; exact h1, h3 _ (hxr.trans (by repeat first | exact Ext.refl _ | assumption | refine Ext.drew ?_ | refine Ext.alloc ?_ _ | refine Ext.setCell ?_ (by simp) | refine Ext.setCell ?_ (by simp; omega) | refine Ext.trans ?_ (by assumption))) (Nat.le_refl _)⟩
              case measure => simp [intOf]; omega
        · have Hs2 : Hid (lat ls k (j + 1) = lat ls k j) := Lib.hid (by rw [Hs.out, if_neg (by simpa using hz)])
          have z1 : ¬ p = k := fun e => hz (.inl e)
          have z2 : ¬ q = k := fun e => hz (.inr e)
          have z3 : (p == k) = false := beq_eq_false_iff_ne.2 z1
          have z4 : (q == k) = false := beq_eq_false_iff_ne.2 z2
          clear hz
          go_wp2
          go_roundw
          case rel => exact ⟨j + 1, by omega, by go_num, by rw [Hs2.out]; exact hv.ext hq, hxr.trans hq⟩
          case measure => simp [intOf]; omega
      · obtain rfl : j = ls.length := by omega
        go_wp2
        go_ret
        exact ⟨_, rfl, by rw [leadsAt, if_pos hw]; exact hv.more hx.size, hx0⟩
  · have hw' := eq_false_of_ne_true hw
    go_enter Try.func123, Try.ntmps123
    go_wp2_with fail
    refine (hasNode_c A B c d ns ls k _ (h.ext (by repeat first | exact Ext.refl _ | assumption | refine Ext.drew ?_ | refine Ext.alloc ?_ _ | refine Ext.setCell ?_ (by simp) | refine Ext.setCell ?_ (by simp; omega) | refine Ext.trans ?_ (by assumption)))).mono ?_
    rintro e w1 ⟨rfl, hb⟩
    rw [hw']
    go_wp2
    go_ret
    exact ⟨_, rfl, by rw [leadsAt, if_neg hw]; exact OwI.nil _ _, (by repeat first | exact Ext.refl _ | assumption | refine Ext.drew ?_ | refine Ext.alloc ?_ _ | refine Ext.setCell ?_ (by simp) | refine Ext.setCell ?_ (by simp; omega) | refine Ext.trans ?_ (by assumption))⟩
end Go.Proofs.Ytdhmjhoaegdfjaa

namespace Go.Proofs.Ytdhmjhoaegdfjaa
open Go.RowKit Go.Sort Go.BigFrame

set_option maxRecDepth 100000 in
set_option maxHeartbeats 2000000 in
theorem LeadsAt_s (A B : Option Addr) (c d : Nat) (ns ls : List P2) (k : Int) (w : World) (h : Wn w A c B d ns ls) :
    Calls Try.prog 83 #[.agg #[.slice A ns.length c, .slice B ls.length d], .int .i64 k] w fun e w' => ∃ v, e = .returned v ∧ OwI w' w.heap.size v (leadsAt ns ls k) ∧ Ext w w' := by
  have hnl := h.hl
  have hml := h.hm
  go_enter Try.func83, Try.ntmps83
  go_wp2_with fail
  have k0 : (w.alloc (.cells #[.slice A ns.length c, .slice B ls.length d] 27)).cell? ⟨w.heap.size, 0, none⟩ = some (.slice A ns.length c) := by go_simp
  have k1 : (w.alloc (.cells #[.slice A ns.length c, .slice B ls.length d] 27)).cell? ⟨w.heap.size, 1, none⟩ = some (.slice B ls.length d) := by go_simp
  have hx : Ext w (w.alloc (.cells #[.slice A ns.length c, .slice B ls.length d] 27)) := (by repeat first | exact Ext.refl _ | assumption | refine Ext.drew ?_ | refine Ext.alloc ?_ _ | refine Ext.setCell ?_ (by simp) | refine Ext.setCell ?_ (by simp; omega) | refine Ext.trans ?_ (by assumption))
  have hsz1 : w.heap.size + 1 = (w.alloc (.cells #[.slice A ns.length c, .slice B ls.length d] 27)).heap.size := by simp
  generalize (w.alloc (.cells #[.slice A ns.length c, .slice B ls.length d] 27)) = w1 at *
  rw [hsz1]
  have hv0 : OwI (w1.alloc (.cells #[] 3)) w1.heap.size (.slice (some ⟨w1.heap.size, 0, none⟩) 0 0) (lat ls k 0) := OwI.new (xs := []) (Bk.new _ [] rfl) (Nat.le_refl _) (by simp)
  have hx2 : Ext w1 (w1.alloc (.cells #[] 3)) := (by repeat first | exact Ext.refl _ | assumption | refine Ext.drew ?_ | refine Ext.alloc ?_ _ | refine Ext.setCell ?_ (by simp) | refine Ext.setCell ?_ (by simp; omega) | refine Ext.trans ?_ (by assumption))
  generalize (w1.alloc (.cells #[] 3)) = w2 at *
  by_cases hw : hasN ns ls k = true
  · have hok : wok ns ls = true := by simp only [hasN, Bool.and_eq_true] at hw; exact hw.1
    have hwi : wi k 0 (ns.length - 1) = true := by simp only [hasN, Bool.and_eq_true] at hw; exact hw.2
    have hm := (hasN_ok hw).1.le
    go_loopw [5, 6] (fun v i wr => ∃ j : Nat, j ≤ ls.length ∧ i = .int .i64 j ∧ OwI wr w1.heap.size v (lat ls k j) ∧ Ext w1 wr) (fun _ i _ => ls.length - (intOf i).toNat)
    case atStart => exact ⟨0, by omega, rfl, hv0, hx2⟩
    case round =>
      clear hv0 hx2
      obtain ⟨j, hj, rfl, hv, hxr⟩ := hrel
      obtain ⟨wo, rfl⟩ : ∃ x : World, x = wr := ⟨_, rfl⟩
      have hx0 := hx.trans hxr
      have k0 := hxr.lit k0
      have k1 := hxr.lit k1
      by_cases hlt : j < ls.length
      · have hji : (j : Int) < ls.length := by omega
        go_wp2_with fail
        refine (WindowOk_s' (h.ext hx0)).mono ?_
        rintro e w3 ⟨rfl, hb⟩
        have k0 := hb.lit k0
        have k1 := hb.lit k1
        have hx0 := hx0.trans hb
        have hxr := hxr.trans hb
        have hv := hv.ext hb
        rw [hok]
        clear hb
        go_wp2_with fail
        refine (l01In_c _ _ _ _).mono ?_
        rintro e w4 ⟨rfl, rfl⟩
        rw [hwi]
        obtain ⟨b, off, rfl, hbb, c1, c2⟩ := (h.ext hx0).g.gp_ hlt
        have hs := lat_succ ls k j
        have hln := lat_len ls k j
        have hsz := hxr.size
        unfold atL at hs
        generalize gp ls j = L at *
        obtain ⟨p, q⟩ := L
        have Hs := Lib.hid hs
        clear hs
        by_cases hz : p = k ∨ q = k
        · have Hs2 : Hid (lat ls k (j + 1) = lat ls k j ++ [(j : Int)]) := Lib.hid (by rw [Hs.out, if_pos (by simpa using hz)])
          rcases hz with hz | hz
          · subst hz
            go_wp2_with (at_builtin; refine ap_int Try.underlying29 infoI2 _ _ rfl rfl rfl (hv.ext ((Ext.refl w3).alloc _)) (g := w3.heap.size) (y := j) (by first | rfl | simp) (by go_simp) (by omega) (by simp; omega) ?_)
            intro v' w' h1 h2 h3
            go_wp2
            go_roundw
            case rel => exact ⟨j + 1, by omega, by go_num, by rw [Hs2.out]; exact h1, h3 _ (hxr.trans (by repeat first | exact Ext.refl _ | assumption | refine Ext.drew ?_ | refine Ext.alloc ?_ _ | refine Ext.setCell ?_ (by simp) | refine Ext.setCell ?_ (by simp; omega) | refine Ext.trans ?_ (by assumption))) (Nat.le_refl _)⟩
            case measure => simp [intOf]; omega
          · subst hz
            by_cases hpq : p = q
            · subst hpq
              go_wp2_with (at_builtin; refine ap_int Try.underlying29 infoI2 _ _ rfl rfl rfl (hv.ext ((Ext.refl w3).alloc _)) (g := w3.heap.size) (y := j) (by first | rfl | simp) (by go_simp) (by omega) (by simp; omega) ?_)
              intro v' w' h1 h2 h3
              go_wp2
              go_roundw
              case rel => exact ⟨j + 1, by omega, by go_num, by rw [Hs2.out]; exact h1, h3 _ (hxr.trans (by repeat first | exact Ext.refl _ | assumption | refine Ext.drew ?_ | refine Ext.alloc ?_ _ | refine Ext.setCell ?_ (by simp) | refine Ext.setCell ?_ (by simp; omega) | refine Ext.trans ?_ (by assumption))) (Nat.le_refl _)⟩
              case measure => simp [intOf]; omega
            · skip
              go_wp2_with (at_builtin; refine ap_int Try.underlying29 infoI2 _ _ rfl rfl rfl (hv.ext ((Ext.refl w3).alloc _)) (g := w3.heap.size) (y := j) (by first | rfl | simp) (by go_simp) (by omega) (by simp; omega) ?_)
              intro v' w' h1 h2 h3
              go_wp2
              go_roundw
              case rel => exact ⟨j + 1, by omega, by go_num, by rw [Hs2.out]; exact h1, h3 _ (hxr.trans (by repeat first | exact Ext.refl _ | assumption | refine Ext.drew ?_ | refine Ext.alloc ?_ _ | refine Ext.setCell ?_ (by simp) | refine Ext.setCell ?_ (by simp; omega) | refine Ext.trans ?_ (by assumption))) (Nat.le_refl _)⟩
              case measure => simp [intOf]; omega
        · have Hs2 : Hid (lat ls k (j + 1) = lat ls k j) := Lib.hid (by rw [Hs.out, if_neg (by simpa using hz)])
          have z1 : ¬ p = k := fun e => hz (.inl e)
          have z2 : ¬ q = k := fun e => hz (.inr e)
          have z3 : (p == k) = false := beq_eq_false_iff_ne.2 z1
          have z4 : (q == k) = false := beq_eq_false_iff_ne.2 z2
          clear hz
          go_wp2
          go_roundw
          case rel => exact ⟨j + 1, by omega, by go_num, by rw [Hs2.out]; exact hv, hxr⟩
          case measure => simp [intOf]; omega
      · obtain rfl : j = ls.length := by omega
        go_wp2
        go_ret
        exact ⟨_, rfl, by rw [leadsAt, if_pos hw]; exact hv.more hx.size, hx0⟩
  · have hw' := eq_false_of_ne_true hw
    go_loopw [5, 6] (fun v i wr => i = .int .i64 (0 : Nat) ∧ OwI wr w1.heap.size v [] ∧ Ext w1 wr) (fun _ i _ => 0)
    case atStart => exact ⟨rfl, hv0, hx2⟩
    case round =>
      clear hv0 hx2
      obtain ⟨rfl, hv, hxr⟩ := hrel
      obtain ⟨wo, rfl⟩ : ∃ x : World, x = wr := ⟨_, rfl⟩
      have hx0 := hx.trans hxr
      have k0 := hxr.lit k0
      have k1 := hxr.lit k1
      by_cases hlt : 0 < ls.length
      · have hji : ((0 : Nat) : Int) < ls.length := by omega
        go_wp2_with fail
        refine (WindowOk_s' (h.ext hx0)).mono ?_
        rintro e w3 ⟨rfl, hb⟩
        have k0 := hb.lit k0
        have k1 := hb.lit k1
        have hx0 := hx0.trans hb
        have hv := hv.ext hb
        clear hb
        by_cases hok : wok ns ls = true
        · have hwi : wi k 0 (ns.length - 1) = false := by rw [hasN, hok, Bool.true_and] at hw'; exact hw'
          rw [hok]
          go_wp2_with fail
          refine (l01In_c _ _ _ _).mono ?_
          rintro e w4 ⟨rfl, rfl⟩
          rw [hwi]
          go_wp2
          go_ret
          exact ⟨_, rfl, by rw [leadsAt, if_neg hw]; exact hv.more hx.size, hx0⟩
        · rw [eq_false_of_ne_true hok]
          go_wp2
          go_ret
          exact ⟨_, rfl, by rw [leadsAt, if_neg hw]; exact hv.more hx.size, hx0⟩
      · go_wp2
        go_ret
        exact ⟨_, rfl, by rw [leadsAt, if_neg hw]; exact hv.more hx.size, hx0⟩

set_option maxRecDepth 100000 in
set_option maxHeartbeats 2000000 in
theorem DegreeOf_i (A B : Option Addr) (c d : Nat) (ns ls : List P2) (k : Int) (w : World) (h : Wn w A c B d ns ls) :
    Calls Try.prog 93 #[.agg #[.slice A ns.length c, .slice B ls.length d], .int .i64 k] w fun e w' => e = .returned (.int .i64 (degOf ns ls k)) ∧ Ext w w' := by
  by_cases hw : hasN ns ls k = true
  · go_enter Try.func93, Try.ntmps93
    go_wp2_with fail
    refine (hasNode_c A B c d ns ls k _ (h.ext (by repeat first | exact Ext.refl _ | assumption | refine Ext.drew ?_ | refine Ext.alloc ?_ _ | refine Ext.setCell ?_ (by simp) | refine Ext.setCell ?_ (by simp; omega) | refine Ext.trans ?_ (by assumption)))).mono ?_
    rintro e w1 ⟨rfl, hb⟩
    have k0 := hb.lit (b := w.heap.size) (o := 0) (v := .slice A ns.length c) (by go_simp)
    have k1 := hb.lit (b := w.heap.size) (o := 1) (v := .slice B ls.length d) (by go_simp)
    have hx : Ext w w1 := (by repeat first | exact Ext.refl _ | assumption | refine Ext.drew ?_ | refine Ext.alloc ?_ _ | refine Ext.setCell ?_ (by simp) | refine Ext.setCell ?_ (by simp; omega) | refine Ext.trans ?_ (by assumption))
    rw [hw]
    clear hb
    go_wp2_with fail
    refine (LeadsAt_i A B c d ns ls k _ (h.ext hx)).mono ?_
    rintro e w2 ⟨v, rfl, hv, hb⟩
    obtain ⟨A', c', rfl, -, -, -⟩ := hv.shape
    go_wp2
    go_ret
    exact ⟨ret_i (by rw [degOf, if_pos hw]), hx.trans hb⟩
  · have hw' := eq_false_of_ne_true hw
    go_enter Try.func93, Try.ntmps93
    go_wp2_with fail
    refine (hasNode_c A B c d ns ls k _ (h.ext (by repeat first | exact Ext.refl _ | assumption | refine Ext.drew ?_ | refine Ext.alloc ?_ _ | refine Ext.setCell ?_ (by simp) | refine Ext.setCell ?_ (by simp; omega) | refine Ext.trans ?_ (by assumption)))).mono ?_
    rintro e w1 ⟨rfl, hb⟩
    rw [hw']
    go_wp2
    go_ret
    exact ⟨ret_i (by rw [degOf, if_neg hw]), (by repeat first | exact Ext.refl _ | assumption | refine Ext.drew ?_ | refine Ext.alloc ?_ _ | refine Ext.setCell ?_ (by simp) | refine Ext.setCell ?_ (by simp; omega) | refine Ext.trans ?_ (by assumption))⟩

set_option maxRecDepth 100000 in
set_option maxHeartbeats 2000000 in
theorem DegreeOf_s (A B : Option Addr) (c d : Nat) (ns ls : List P2) (k : Int) (w : World) (h : Wn w A c B d ns ls) :
    Calls Try.prog 38 #[.agg #[.slice A ns.length c, .slice B ls.length d], .int .i64 k] w fun e w' => e = .returned (.int .i64 (degOf ns ls k)) ∧ Ext w w' := by
  have hnl := h.hl
  by_cases hok : wok ns ls = true
  · by_cases hwi : wi k 0 (ns.length - 1) = true
    · have hw : hasN ns ls k = true := by rw [hasN, hok, hwi]; rfl
      go_enter Try.func38, Try.ntmps38
      go_wp2_with fail
      refine (WindowOk_s' (h.ext (by repeat first | exact Ext.refl _ | assumption | refine Ext.drew ?_ | refine Ext.alloc ?_ _ | refine Ext.setCell ?_ (by simp) | refine Ext.setCell ?_ (by simp; omega) | refine Ext.trans ?_ (by assumption)))).mono ?_
      rintro e w1 ⟨rfl, hb⟩
      have k0 := hb.lit (b := w.heap.size) (o := 0) (v := .slice A ns.length c) (by go_simp)
      have k1 := hb.lit (b := w.heap.size) (o := 1) (v := .slice B ls.length d) (by go_simp)
      have hx : Ext w w1 := (by repeat first | exact Ext.refl _ | assumption | refine Ext.drew ?_ | refine Ext.alloc ?_ _ | refine Ext.setCell ?_ (by simp) | refine Ext.setCell ?_ (by simp; omega) | refine Ext.trans ?_ (by assumption))
      clear hb
      rw [hok]
      go_wp2_with fail
      refine (l01In_c _ _ _ _).mono ?_
      rintro e w4 ⟨rfl, rfl⟩
      rw [hwi]
      go_wp2_with fail
      refine (LeadsAt_s A B c d ns ls k _ (h.ext hx)).mono ?_
      rintro e w2 ⟨v, rfl, hv, hb⟩
      obtain ⟨A', c', rfl, -, -, -⟩ := hv.shape
      go_wp2
      go_ret
      exact ⟨ret_i (by rw [degOf, if_pos hw]), hx.trans hb⟩
    · have hwi := eq_false_of_ne_true hwi
      have hw : ¬ hasN ns ls k = true := by rw [hasN, hok, hwi]; simp
      go_enter Try.func38, Try.ntmps38
      go_wp2_with fail
      refine (WindowOk_s' (h.ext (by repeat first | exact Ext.refl _ | assumption | refine Ext.drew ?_ | refine Ext.alloc ?_ _ | refine Ext.setCell ?_ (by simp) | refine Ext.setCell ?_ (by simp; omega) | refine Ext.trans ?_ (by assumption)))).mono ?_
      rintro e w1 ⟨rfl, hb⟩
      have k0 := hb.lit (b := w.heap.size) (o := 0) (v := .slice A ns.length c) (by go_simp)
      have k1 := hb.lit (b := w.heap.size) (o := 1) (v := .slice B ls.length d) (by go_simp)
      have hx : Ext w w1 := (by repeat first | exact Ext.refl _ | assumption | refine Ext.drew ?_ | refine Ext.alloc ?_ _ | refine Ext.setCell ?_ (by simp) | refine Ext.setCell ?_ (by simp; omega) | refine Ext.trans ?_ (by assumption))
      clear hb
      rw [hok]
      go_wp2_with fail
      refine (l01In_c _ _ _ _).mono ?_
      rintro e w4 ⟨rfl, rfl⟩
      rw [hwi]
      go_wp2
      go_ret
      exact ⟨ret_i (by rw [degOf, if_neg hw]), hx⟩
  · have hok := eq_false_of_ne_true hok
    have hw : ¬ hasN ns ls k = true := by rw [hasN, hok]; simp
    go_enter Try.func38, Try.ntmps38
    go_wp2_with fail
    refine (WindowOk_s' (h.ext (by repeat first | exact Ext.refl _ | assumption | refine Ext.drew ?_ | refine Ext.alloc ?_ _ | refine Ext.setCell ?_ (by simp) | refine Ext.setCell ?_ (by simp; omega) | refine Ext.trans ?_ (by assumption)))).mono ?_
    rintro e w1 ⟨rfl, hb⟩
    have k0 := hb.lit (b := w.heap.size) (o := 0) (v := .slice A ns.length c) (by go_simp)
    have k1 := hb.lit (b := w.heap.size) (o := 1) (v := .slice B ls.length d) (by go_simp)
    have hx : Ext w w1 := (by repeat first | exact Ext.refl _ | assumption | refine Ext.drew ?_ | refine Ext.alloc ?_ _ | refine Ext.setCell ?_ (by simp) | refine Ext.setCell ?_ (by simp; omega) | refine Ext.trans ?_ (by assumption))
    clear hb
    rw [hok]
    go_wp2
    go_ret
    exact ⟨ret_i (by rw [degOf, if_neg hw]), hx⟩
end Go.Proofs.Ytdhmjhoaegdfjaa

namespace Go.Proofs.Ytdhmjhoaegdfjaa
open Go.RowKit Go.Sort Go.BigFrame

theorem lat_mem {ls : List P2} {k : Int} {j : Nat} {x : Int} (h : x ∈ lat ls k j) : ∃ i : Nat, x = i ∧ i < j ∧ atL (gp ls i) k = true := by
  unfold lat at h
  rw [List.mem_map] at h
  obtain ⟨i, hi, rfl⟩ := h
  rw [List.mem_filter, List.mem_range] at hi
  exact ⟨i, rfl, hi.1, hi.2⟩
theorem leadsAt_mem {ns ls : List P2} {k : Int} {x : Int} (h : x ∈ leadsAt ns ls k) : hasN ns ls k = true ∧ ∃ i : Nat, x = i ∧ i < ls.length ∧ atL (gp ls i) k = true := by
  unfold leadsAt at h
  split at h
  · rename_i hh; exact ⟨hh, lat_mem h⟩
  · cases h
theorem gi_mem {l : List Int} {j : Nat} (h : j < l.length) : gi l j ∈ l := by rw [gi_nat l j h]; exact List.getElem_mem h
/-- the other end of a lead at a node is a node -/
theorem oend_ok {ns ls : List P2} {k : Int} {i : Nat} (hw : hasN ns ls k = true) (hi : i < ls.length) (ha : atL (gp ls i) k = true) : ∃ a : Nat, oend (gp ls i) k = a ∧ a < ns.length := by
  have hv := vd_of_ok (hasN_ok hw).1
  obtain ⟨f, t, e, hf, ht⟩ := hv (gp ls i) (by rw [gp_nat ls i hi]; exact List.getElem_mem hi)
  rw [e] at ha ⊢
  simp only [atL, Bool.or_eq_true, decide_eq_true_eq] at ha
  unfold oend
  by_cases h1 : k = (f : Int)
  · exact ⟨t, by simp [h1], ht⟩
  · have h2 : k = (t : Int) := by rcases ha with h | h <;> omega
    exact ⟨f, by first | (simp [h2]; done) | (simp [h2]; omega), hf⟩
def ends (ns ls : List P2) (k : Int) : List Int := (leadsAt ns ls k).map (fun i => oend (gp ls i) k)

def straight (ns ls : List P2) (k : Int) : Bool :=
  decide (degOf ns ls k = 2) && btw (gp ns (oend (gp ls (gi (leadsAt ns ls k) (0 : Nat))) k)) (gp ns (oend (gp ls (gi (leadsAt ns ls k) (1 : Nat))) k)) (gp ns k)
theorem str_facts {ns ls : List P2} {k : Int} (h : degOf ns ls k = 2) : WOk ns ls ∧ (leadsAt ns ls k).length = 2 ∧ ∃ kk i0 i1 a b : Nat, k = kk ∧ kk < ns.length ∧ gi (leadsAt ns ls k) (0 : Nat) = i0 ∧ gi (leadsAt ns ls k) (1 : Nat) = i1 ∧
    i0 < ls.length ∧ i1 < ls.length ∧ oend (gp ls i0) k = a ∧ a < ns.length ∧ oend (gp ls i1) k = b ∧ b < ns.length := by
  unfold degOf at h
  split at h
  · rename_i hw
    have hlen : (leadsAt ns ls k).length = 2 := by omega
    obtain ⟨hW, kk, hk, hkn⟩ := hasN_ok hw
    obtain ⟨-, i0, e0, hi0, ha0⟩ := leadsAt_mem (gi_mem (l := leadsAt ns ls k) (j := 0) (by omega))
    obtain ⟨-, i1, e1, hi1, ha1⟩ := leadsAt_mem (gi_mem (l := leadsAt ns ls k) (j := 1) (by omega))
    obtain ⟨a, ha, han⟩ := oend_ok hw hi0 ha0
    obtain ⟨b, hb, hbn⟩ := oend_ok hw hi1 ha1
    exact ⟨hW, hlen, kk, i0, i1, a, b, hk, hkn, e0, e1, hi0, hi1, ha, han, hb, hbn⟩
  · omega
end Go.Proofs.Ytdhmjhoaegdfjaa

namespace Go.Proofs.Ytdhmjhoaegdfjaa
open Go.RowKit Go.Sort Go.BigFrame

theorem Ext.frz {w w1 : World} (hb : Ext w w1) {b o : Nat} (hlt : b < w.heap.size) (h : w.frozen? ⟨b, o, none⟩ = false) : w1.frozen? ⟨b, o, none⟩ = false := by
  rw [Below.frozen hb (p := ⟨b, o, none⟩) hlt]; exact h
theorem ends_gi {ns ls : List P2} {k : Int} {j : Nat} (h : j < (leadsAt ns ls k).length) : gi (ends ns ls k) j = oend (gp ls (gi (leadsAt ns ls k) j)) k := by
  rw [gi_nat _ j (by simpa [ends] using h), gi_nat _ j h]
  simp [ends]

end Go.Proofs.Ytdhmjhoaegdfjaa

namespace Go.Proofs.Ytdhmjhoaegdfjaa
open Go.RowKit Go.Sort Go.BigFrame

theorem straight_ok {ns ls : List P2} {k : Int} (h : straight ns ls k = true) : WOk ns ls := by
  simp only [straight, Bool.and_eq_true, decide_eq_true_eq] at h
  exact (str_facts h.1).1
def vStraightNodes (ns ls : List P2) : List Int := flt (fun i => straight ns ls (i : Nat)) ns.length
theorem vStraightNodes_len (ns ls : List P2) : (vStraightNodes ns ls).length ≤ 1000 := by
  unfold vStraightNodes
  by_cases h : ∃ i : Nat, straight ns ls i = true
  · obtain ⟨i, hi⟩ := h
    have := (straight_ok hi).hi
    have := flt_len (fun i => straight ns ls (i : Nat)) ns.length
    omega
  · rw [flt_none (fun i _ => by rw [Bool.eq_false_iff]; exact fun e => h ⟨i, e⟩)]
    simp

def vEndNodes (ns ls : List P2) : List Int := if wok ns ls = true then flt (fun i => decide (degOf ns ls (i : Nat) = 1)) ns.length else []
theorem vEndNodes_len (ns ls : List P2) : (vEndNodes ns ls).length ≤ 1000 := by
  unfold vEndNodes
  split
  · rename_i h
    have := (wok_iff.1 h).hi
    have := flt_len (fun i => decide (degOf ns ls (i : Nat) = 1)) ns.length
    omega
  · simp
set_option maxRecDepth 100000 in
set_option maxHeartbeats 2000000 in
theorem EndNodes_i (A B : Option Addr) (c d : Nat) (ns ls : List P2) (w : World) (h : Wn w A c B d ns ls) :
    Calls Try.prog 53 #[.agg #[.slice A ns.length c, .slice B ls.length d]] w fun e w' => ∃ v, e = .returned v ∧ OwI w' w.heap.size v (vEndNodes ns ls) ∧ Ext w w' := by
  have hnl := h.hl
  have HV : Hid (vEndNodes ns ls = if wok ns ls = true then flt (fun i => decide (degOf ns ls (i : Nat) = 1)) ns.length else []) := Lib.hid rfl
  have HP : Hid (∀ j : Nat, (fun i : Nat => decide (degOf ns ls (i : Nat) = 1)) j = decide (degOf ns ls j = 1)) := Lib.hid (fun _ => rfl)
  generalize (fun i : Nat => decide (degOf ns ls (i : Nat) = 1)) = P at *
  by_cases hw : wok ns ls = true
  · rw [if_pos hw] at HV
    go_enter Try.func53, Try.ntmps53
    go_wp2_with fail
    have k0 : (w.alloc (.cells #[.slice A ns.length c, .slice B ls.length d] 27)).cell? ⟨w.heap.size, 0, none⟩ = some (.slice A ns.length c) := by go_simp
    have k1 : (w.alloc (.cells #[.slice A ns.length c, .slice B ls.length d] 27)).cell? ⟨w.heap.size, 1, none⟩ = some (.slice B ls.length d) := by go_simp
    have hx : Ext w (w.alloc (.cells #[.slice A ns.length c, .slice B ls.length d] 27)) := (by repeat first | exact Ext.refl _ | assumption | refine Ext.drew ?_ | refine Ext.alloc ?_ _ | refine Ext.setCell ?_ (by simp) | refine Ext.setCell ?_ (by simp; omega) | refine Ext.trans ?_ (by assumption))
    have hsz1 : w.heap.size + 1 = (w.alloc (.cells #[.slice A ns.length c, .slice B ls.length d] 27)).heap.size := by simp
    generalize (w.alloc (.cells #[.slice A ns.length c, .slice B ls.length d] 27)) = w0 at *
    (try rw [hsz1])
    refine (WindowOk_i' (h.ext hx)).mono ?_
    rintro e w1 ⟨rfl, hb⟩
    have k0 := hb.lit k0
    have k1 := hb.lit k1
    have hx := hx.trans hb
    clear hb
    rw [hw]
    go_wp2_with fail
    go_loopw [3, 4, 11] (fun v _ i wr => ∃ j : Nat, j ≤ ns.length ∧ i = .int .i64 j ∧ OzI wr w.heap.size w1.heap.size v (flt P j) ∧ Ext w1 wr) (fun _ _ i _ => ns.length - (intOf i).toNat)
    case atStart => exact ⟨0, by omega, rfl, .of (OwI.nil _ _), Ext.refl _⟩
    case round =>
      obtain ⟨j, hj, rfl, hv, hxr⟩ := hrel
      obtain ⟨wo, rfl⟩ : ∃ x : World, x = wr := ⟨_, rfl⟩
      have hx0 := hx.trans hxr
      have k0 := hxr.lit k0
      have k1 := hxr.lit k1
      by_cases hlt : j < ns.length
      · go_wp2_with fail
        refine (DegreeOf_i A B c d ns ls _ _ (h.ext hx0)).mono ?_
        rintro e w3 ⟨rfl, hb⟩
        have hxr := hxr.trans hb
        have hv := hv.ext hb
        clear hb
        by_cases hs : degOf ns ls j = 1
        · have Hs := Lib.hid (flt_yes (p := P) (j := j) (by rw [HP.out]; exact decide_eq_true hs))
          rw [hs]
          have hsz := hxr.size
          have hln := flt_len P j
          go_wp2_with (at_builtin; refine az_int _ _ rfl rfl rfl (hv.ext ((Ext.refl w3).alloc _)) (g := w3.heap.size) (y := j) (by first | rfl | simp) (by go_simp) (by omega) (by simp; omega) ?_)
          intro v' w' h1 h3
          go_wp2
          go_roundw
          case rel => exact ⟨j + 1, by omega, by go_num, by rw [Hs.out]; exact h1, h3 _ (hxr.trans (by repeat first | exact Ext.refl _ | assumption | refine Ext.drew ?_ | refine Ext.alloc ?_ _ | refine Ext.setCell ?_ (by simp) | refine Ext.setCell ?_ (by simp; omega) | refine Ext.trans ?_ (by assumption))) (Nat.le_refl _)⟩
          case measure => first | (simp [intOf]; done) | (simp [intOf]; omega)
        · have Hs := Lib.hid (flt_no (p := P) (j := j) (by rw [HP.out]; exact decide_eq_false hs))
          have hs' : (degOf ns ls j == 1) = false := beq_eq_false_iff_ne.2 hs
          go_wp2
          go_roundw
          case rel => exact ⟨j + 1, by omega, by go_num, by rw [Hs.out]; exact hv, hxr⟩
          case measure => first | (simp [intOf]; done) | (simp [intOf]; omega)
      · obtain rfl : j = ns.length := by omega
        go_wp2
        go_ret
        exact ⟨_, rfl, by rw [HV.out]; exact hv.own hx.size, hx0⟩
  · rw [if_neg hw] at HV
    have hw' := eq_false_of_ne_true hw
    go_enter Try.func53, Try.ntmps53
    go_wp2_with fail
    refine (WindowOk_i' (h.ext (by repeat first | exact Ext.refl _ | assumption | refine Ext.drew ?_ | refine Ext.alloc ?_ _ | refine Ext.setCell ?_ (by simp) | refine Ext.setCell ?_ (by simp; omega) | refine Ext.trans ?_ (by assumption)))).mono ?_
    rintro e w1 ⟨rfl, hb⟩
    rw [hw']
    go_wp2
    go_ret
    exact ⟨_, rfl, by rw [HV.out]; exact OwI.nil _ _, (by repeat first | exact Ext.refl _ | assumption | refine Ext.drew ?_ | refine Ext.alloc ?_ _ | refine Ext.setCell ?_ (by simp) | refine Ext.setCell ?_ (by simp; omega) | refine Ext.trans ?_ (by assumption))⟩
end Go.Proofs.Ytdhmjhoaegdfjaa
