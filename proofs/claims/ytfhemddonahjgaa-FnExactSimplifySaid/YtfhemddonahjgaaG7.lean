import Derived.Test.YtfhemddonahjgaaG6
import Derived.Test.YtfhemddonahjgaaG1
namespace Go.Proofs.Ytfhemddonahjgaa
open Go.RowKit Go.Sort Go.BigFrame

def hasN (ns ls : List P2) (k : Int) : Bool := wok ns ls && wi k 0 (ns.length - 1)
theorem hasN_ok {ns ls : List P2} {k : Int} (h : hasN ns ls k = true) : WOk ns ls ∧ ∃ i : Nat, k = i ∧ i < ns.length := by
  simp only [hasN, wi, Bool.and_eq_true, decide_eq_true_eq] at h
  exact ⟨wok_iff.1 h.1, k.toNat, by omega, by omega⟩
def atL (l : P2) (k : Int) : Bool := decide (l.1 = k) || decide (l.2 = k)
/-- the leads at node k, of the first j -/
def lat (ls : List P2) (k : Int) (j : Nat) : List Int := ((List.range j).filter (fun i => atL (gp ls (i : Nat)) k)).map (fun i : Nat => (i : Int))
theorem lat_succ (ls : List P2) (k : Int) (j : Nat) : lat ls k (j + 1) = if atL (gp ls j) k = true then lat ls k j ++ [(j : Int)] else lat ls k j := by
  unfold lat
  rw [List.range_succ, List.filter_append]
  split
  · rename_i h; simp [h]
  · rename_i h; simp [h]
theorem lat_len (ls : List P2) (k : Int) (j : Nat) : (lat ls k j).length ≤ j := by
  unfold lat
  rw [List.length_map]
  have := List.length_filter_le (fun i => atL (gp ls (i : Nat)) k) (List.range j)
  rwa [List.length_range] at this
def leadsAt (ns ls : List P2) (k : Int) : List Int := if hasN ns ls k = true then lat ls k ls.length else []
theorem leadsAt_len (ns ls : List P2) (k : Int) : (leadsAt ns ls k).length ≤ 20 := by
  unfold leadsAt
  split
  · rename_i h
    have := (hasN_ok h).1.le
    have := lat_len ls k ls.length
    omega
  · simp
def degOf (ns ls : List P2) (k : Int) : Int := if hasN ns ls k = true then ((leadsAt ns ls k).length : Nat) else -1
def oend (l : P2) (k : Int) : Int := if k = l.1 then l.2 else if k = l.2 then l.1 else -1

set_option maxHeartbeats 1000000 in
theorem hasNode_c (A B : Option Addr) (c d : Nat) (ns ls : List P2) (k : Int) (w : World) (h : Wn w A c B d ns ls) :
    Calls Try.prog 42 #[.agg #[.slice A ns.length c, .slice B ls.length d], .int .i64 k] w fun e w' => e = .returned (.bool (hasN ns ls k)) ∧ Ext w w' := by
  have hl := h.hl
  by_cases hw : wok ns ls = true
  · go_enter Try.func42, Try.ntmps42
    go_wp2_with fail
    refine (WindowOk_i' (h.ext (by repeat first | exact Ext.refl _ | assumption | refine Ext.drew ?_ | refine Ext.alloc ?_ _ | refine Ext.setCell ?_ (by simp) | refine Ext.setCell ?_ (by simp; omega) | refine Ext.trans ?_ (by assumption)))).mono ?_
    rintro e w1 ⟨rfl, hb⟩
    have k0 := hb.lit (b := w.heap.size) (o := 0) (v := .slice A ns.length c) (by go_simp)
    have hx : Ext w w1 := (by repeat first | exact Ext.refl _ | assumption | refine Ext.drew ?_ | refine Ext.alloc ?_ _ | refine Ext.setCell ?_ (by simp) | refine Ext.setCell ?_ (by simp; omega) | refine Ext.trans ?_ (by assumption))
    rw [hw]
    clear hb
    go_wp2_with fail
    refine (within_c _ _ _ _).mono ?_
    rintro e w2 ⟨rfl, rfl⟩
    go_wp2
    all_goals
      go_ret
      refine ⟨ret_b ?_, hx⟩
      simp_all [hasN]
  · have hw := eq_false_of_ne_true hw
    go_enter Try.func42, Try.ntmps42
    go_wp2_with fail
    refine (WindowOk_i' (h.ext (by repeat first | exact Ext.refl _ | assumption | refine Ext.drew ?_ | refine Ext.alloc ?_ _ | refine Ext.setCell ?_ (by simp) | refine Ext.setCell ?_ (by simp; omega) | refine Ext.trans ?_ (by assumption)))).mono ?_
    rintro e w1 ⟨rfl, hb⟩
    rw [hw]
    go_wp2
    go_ret
    exact ⟨ret_b (by rw [hasN, hw]; rfl), (by repeat first | exact Ext.refl _ | assumption | refine Ext.drew ?_ | refine Ext.alloc ?_ _ | refine Ext.setCell ?_ (by simp) | refine Ext.setCell ?_ (by simp; omega) | refine Ext.trans ?_ (by assumption))⟩

set_option maxHeartbeats 1000000 in
theorem OtherEnd_i (p q k : Int) (w : World) : Calls Try.prog 74 #[.agg #[.int .i64 p, .int .i64 q], .int .i64 k] w fun e w' => e = .returned (.int .i64 (oend (p, q) k)) ∧ Ext w w' := by
  unfold oend
  by_cases h1 : k = p
  · rw [if_pos h1]
    go_enter Try.func74, Try.ntmps74
    go_wp2
    go_ret
    exact ⟨rfl, (by repeat first | exact Ext.refl _ | assumption | refine Ext.drew ?_ | refine Ext.alloc ?_ _ | refine Ext.setCell ?_ (by simp) | refine Ext.setCell ?_ (by simp; omega) | refine Ext.trans ?_ (by assumption))⟩
  · rw [if_neg h1]
    by_cases h2 : k = q
    · rw [if_pos h2]
      go_enter Try.func74, Try.ntmps74
      go_wp2
      go_ret
      exact ⟨rfl, (by repeat first | exact Ext.refl _ | assumption | refine Ext.drew ?_ | refine Ext.alloc ?_ _ | refine Ext.setCell ?_ (by simp) | refine Ext.setCell ?_ (by simp; omega) | refine Ext.trans ?_ (by assumption))⟩
    · rw [if_neg h2]
      go_enter Try.func74, Try.ntmps74
      go_wp2
      go_ret
      exact ⟨rfl, (by repeat first | exact Ext.refl _ | assumption | refine Ext.drew ?_ | refine Ext.alloc ?_ _ | refine Ext.setCell ?_ (by simp) | refine Ext.setCell ?_ (by simp; omega) | refine Ext.trans ?_ (by assumption))⟩
set_option maxHeartbeats 1000000 in
theorem OtherEnd_s (p q k : Int) (w : World) : Calls Try.prog 46 #[.agg #[.int .i64 p, .int .i64 q], .int .i64 k] w fun e w' => e = .returned (.int .i64 (oend (p, q) k)) ∧ Ext w w' := by
  unfold oend
  by_cases h1 : k = p
  · rw [if_pos h1]
    go_enter Try.func46, Try.ntmps46
    go_wp2
    go_ret
    exact ⟨rfl, (by repeat first | exact Ext.refl _ | assumption | refine Ext.drew ?_ | refine Ext.alloc ?_ _ | refine Ext.setCell ?_ (by simp) | refine Ext.setCell ?_ (by simp; omega) | refine Ext.trans ?_ (by assumption))⟩
  · rw [if_neg h1]
    by_cases h2 : k = q
    · rw [if_pos h2]
      go_enter Try.func46, Try.ntmps46
      go_wp2
      go_ret
      exact ⟨rfl, (by repeat first | exact Ext.refl _ | assumption | refine Ext.drew ?_ | refine Ext.alloc ?_ _ | refine Ext.setCell ?_ (by simp) | refine Ext.setCell ?_ (by simp; omega) | refine Ext.trans ?_ (by assumption))⟩
    · rw [if_neg h2]
      go_enter Try.func46, Try.ntmps46
      go_wp2
      go_ret
      exact ⟨rfl, (by repeat first | exact Ext.refl _ | assumption | refine Ext.drew ?_ | refine Ext.alloc ?_ _ | refine Ext.setCell ?_ (by simp) | refine Ext.setCell ?_ (by simp; omega) | refine Ext.trans ?_ (by assumption))⟩

set_option maxRecDepth 100000 in
set_option maxHeartbeats 2000000 in
theorem LeadsAt_i (A B : Option Addr) (c d : Nat) (ns ls : List P2) (k : Int) (w : World) (h : Wn w A c B d ns ls) :
    Calls Try.prog 49 #[.agg #[.slice A ns.length c, .slice B ls.length d], .int .i64 k] w fun e w' => ∃ v, e = .returned v ∧ OwI w' w.heap.size v (leadsAt ns ls k) ∧ Ext w w' := by
  by_cases hw : hasN ns ls k = true
  · have hm := (hasN_ok hw).1.le
    go_enter Try.func49, Try.ntmps49
    go_wp2_with fail
    refine (hasNode_c A B c d ns ls k _ (h.ext (by repeat first | exact Ext.refl _ | assumption | refine Ext.drew ?_ | refine Ext.alloc ?_ _ | refine Ext.setCell ?_ (by simp) | refine Ext.setCell ?_ (by simp; omega) | refine Ext.trans ?_ (by assumption)))).mono ?_
    rintro e w1 ⟨rfl, hb⟩
    have k1 := hb.lit (b := w.heap.size) (o := 1) (v := .slice B ls.length d) (by go_simp)
    have hx : Ext w w1 := (by repeat first | exact Ext.refl _ | assumption | refine Ext.drew ?_ | refine Ext.alloc ?_ _ | refine Ext.setCell ?_ (by simp) | refine Ext.setCell ?_ (by simp; omega) | refine Ext.trans ?_ (by assumption))
    rw [hw]
    clear hb
    go_wp2_with fail
    go_loopw [5, 15] (fun v i wr => ∃ j : Nat, j ≤ ls.length ∧ i = .int .i64 j ∧ OwI wr w1.heap.size v (lat ls k j) ∧ Ext w1 wr) (fun _ i _ => ls.length - (intOf i).toNat)
    case atStart => exact ⟨0, by omega, rfl, OwI.nil _ _, Ext.refl _⟩
    case round =>
      obtain ⟨j, hj, rfl, hv, hxr⟩ := hrel
      obtain ⟨wo, rfl⟩ : ∃ x : World, x = wr := ⟨_, rfl⟩
      have hx0 := hx.trans hxr
      have k1 := hxr.lit k1
      by_cases hlt : j < ls.length
      · obtain ⟨b, off, rfl, hbb, c1, c2⟩ := (h.ext hx0).g.gp_ hlt
        have hs := lat_succ ls k j
        have hln := lat_len ls k j
        have hsz := hxr.size
        unfold atL at hs
        generalize gp ls j = L at *
        obtain ⟨p, q⟩ := L
        have Hs := Lib.hid hs
        clear hs
        have hq : Ext wo (wo.alloc (.cells #[.int .i64 p, .int .i64 q] 52)) := (by repeat first | exact Ext.refl _ | assumption | refine Ext.drew ?_ | refine Ext.alloc ?_ _ | refine Ext.setCell ?_ (by simp) | refine Ext.setCell ?_ (by simp; omega) | refine Ext.trans ?_ (by assumption))
        by_cases hz : p = k ∨ q = k
        · have Hs2 : Hid (lat ls k (j + 1) = lat ls k j ++ [(j : Int)]) := Lib.hid (by rw [Hs.out, if_pos (by simpa using hz)])
          rcases hz with hz | hz
          · subst hz
            go_wp2_with (at_builtin; go_loud (refine ap_int Try.underlying61 infoI2 _ _ rfl rfl rfl ((hv.ext hq).ext ((Ext.refl _).alloc _)) (g := wo.heap.size + 1) (y := j) (by first | rfl | simp) (by go_simp) (by omega) (by simp; omega) ?_))
            intro v' w' h1 h2 h3
            go_wp2
            go_roundw
            case rel => exact ⟨j + 1, by omega, by go_num, by rw [Hs2.out]; exact h1, h3 _ (hxr.trans (by repeat first | exact Ext.refl _ | assumption | refine Ext.drew ?_ | refine Ext.alloc ?_ _ | refine Ext.setCell ?_ (by simp) | refine Ext.setCell ?_ (by simp; omega) | refine Ext.trans ?_ (by assumption))) (Nat.le_refl _)⟩
            case measure => simp [intOf]; omega
          · subst hz
            by_cases hpq : p = q
            · subst hpq
              go_wp2_with (at_builtin; go_loud (refine ap_int Try.underlying61 infoI2 _ _ rfl rfl rfl ((hv.ext hq).ext ((Ext.refl _).alloc _)) (g := wo.heap.size + 1) (y := j) (by first | rfl | simp) (by go_simp) (by omega) (by simp; omega) ?_))
              intro v' w' h1 h2 h3
              go_wp2
              go_roundw
              case rel => exact ⟨j + 1, by omega, by go_num, by rw [Hs2.out]; exact h1, h3 _ (hxr.trans (by repeat first | exact Ext.refl _ | assumption | refine Ext.drew ?_ | refine Ext.alloc ?_ _ | refine Ext.setCell ?_ (by simp) | refine Ext.setCell ?_ (by simp; omega) | refine Ext.trans ?_ (by assumption))) (Nat.le_refl _)⟩
              case measure => simp [intOf]; omega
            · skip
              go_wp2_with (at_builtin; go_loud (refine ap_int Try.underlying61 infoI2 _ _ rfl rfl rfl ((hv.ext hq).ext ((Ext.refl _).alloc _)) (g := wo.heap.size + 1) (y := j) (by first | rfl | simp) (by go_simp) (by omega) (by simp; omega) ?_))
              intro v' w' h1 h2 h3
              go_wp2
              go_roundw
              case rel => exact ⟨j + 1, by omega, by go_num, by rw [Hs2.out]; exact h1, h3 _ (hxr.trans (by repeat first | exact Ext.refl _ | assumption | refine Ext.drew ?_ | refine Ext.alloc ?_ _ | refine Ext.setCell ?_ (by simp) | refine Ext.setCell ?_ (by simp; omega) | refine Ext.trans ?_ (by assumption))) (Nat.le_refl _)⟩
              case measure => simp [intOf]; omega
        · have Hs2 : Hid (lat ls k (j + 1) = lat ls k j) := Lib.hid (by rw [Hs.out, if_neg (by simpa using hz)])
          have z1 : ¬ p = k := fun e => hz (.inl e)
          have z2 : ¬ q = k := fun e => hz (.inr e)
          have z3 : (p == k) = false := beq_eq_false_iff_ne.2 z1
          have z4 : (q == k) = false := beq_eq_false_iff_ne.2 z2
          clear hz
          go_wp2
          go_roundw
          case rel => exact ⟨j + 1, by omega, by go_num, by rw [Hs2.out]; exact hv.ext hq, hxr.trans hq⟩
          case measure => simp [intOf]; omega
      · obtain rfl : j = ls.length := by omega
        go_wp2
        go_ret
        exact ⟨_, rfl, by rw [leadsAt, if_pos hw]; exact hv.more hx.size, hx0⟩
  · have hw' := eq_false_of_ne_true hw
    go_enter Try.func49, Try.ntmps49
    go_wp2_with fail
    refine (hasNode_c A B c d ns ls k _ (h.ext (by repeat first | exact Ext.refl _ | assumption | refine Ext.drew ?_ | refine Ext.alloc ?_ _ | refine Ext.setCell ?_ (by simp) | refine Ext.setCell ?_ (by simp; omega) | refine Ext.trans ?_ (by assumption)))).mono ?_
    rintro e w1 ⟨rfl, hb⟩
    rw [hw']
    go_wp2
    go_ret
    exact ⟨_, rfl, by rw [leadsAt, if_neg hw]; exact OwI.nil _ _, (by repeat first | exact Ext.refl _ | assumption | refine Ext.drew ?_ | refine Ext.alloc ?_ _ | refine Ext.setCell ?_ (by simp) | refine Ext.setCell ?_ (by simp; omega) | refine Ext.trans ?_ (by assumption))⟩
end Go.Proofs.Ytfhemddonahjgaa

namespace Go.Proofs.Ytfhemddonahjgaa
open Go.RowKit Go.Sort Go.BigFrame

set_option maxRecDepth 100000 in
set_option maxHeartbeats 2000000 in
theorem LeadsAt_s (A B : Option Addr) (c d : Nat) (ns ls : List P2) (k : Int) (w : World) (h : Wn w A c B d ns ls) :
    Calls Try.prog 45 #[.agg #[.slice A ns.length c, .slice B ls.length d], .int .i64 k] w fun e w' => ∃ v, e = .returned v ∧ OwI w' w.heap.size v (leadsAt ns ls k) ∧ Ext w w' := by
  have hnl := h.hl
  have hml := h.hm
  go_enter Try.func45, Try.ntmps45
  go_wp2_with fail
  have k0 : (w.alloc (.cells #[.slice A ns.length c, .slice B ls.length d] 32)).cell? ⟨w.heap.size, 0, none⟩ = some (.slice A ns.length c) := by go_simp
  have k1 : (w.alloc (.cells #[.slice A ns.length c, .slice B ls.length d] 32)).cell? ⟨w.heap.size, 1, none⟩ = some (.slice B ls.length d) := by go_simp
  have hx : Ext w (w.alloc (.cells #[.slice A ns.length c, .slice B ls.length d] 32)) := (by repeat first | exact Ext.refl _ | assumption | refine Ext.drew ?_ | refine Ext.alloc ?_ _ | refine Ext.setCell ?_ (by simp) | refine Ext.setCell ?_ (by simp; omega) | refine Ext.trans ?_ (by assumption))
  have hsz1 : w.heap.size + 1 = (w.alloc (.cells #[.slice A ns.length c, .slice B ls.length d] 32)).heap.size := by simp
  generalize (w.alloc (.cells #[.slice A ns.length c, .slice B ls.length d] 32)) = w1 at *
  rw [hsz1]
  have hv0 : OwI (w1.alloc (.cells #[] 3)) w1.heap.size (.slice (some ⟨w1.heap.size, 0, none⟩) 0 0) (lat ls k 0) := OwI.new (xs := []) (Bk.new _ [] rfl) (Nat.le_refl _) (by simp)
  have hx2 : Ext w1 (w1.alloc (.cells #[] 3)) := (by repeat first | exact Ext.refl _ | assumption | refine Ext.drew ?_ | refine Ext.alloc ?_ _ | refine Ext.setCell ?_ (by simp) | refine Ext.setCell ?_ (by simp; omega) | refine Ext.trans ?_ (by assumption))
  generalize (w1.alloc (.cells #[] 3)) = w2 at *
  by_cases hw : hasN ns ls k = true
  · have hok : wok ns ls = true := by simp only [hasN, Bool.and_eq_true] at hw; exact hw.1
    have hwi : wi k 0 (ns.length - 1) = true := by simp only [hasN, Bool.and_eq_true] at hw; exact hw.2
    have hm := (hasN_ok hw).1.le
    go_loopw [5, 6] (fun v i wr => ∃ j : Nat, j ≤ ls.length ∧ i = .int .i64 j ∧ OwI wr w1.heap.size v (lat ls k j) ∧ Ext w1 wr) (fun _ i _ => ls.length - (intOf i).toNat)
    case atStart => exact ⟨0, by omega, rfl, hv0, hx2⟩
    case round =>
      clear hv0 hx2
      obtain ⟨j, hj, rfl, hv, hxr⟩ := hrel
      obtain ⟨wo, rfl⟩ : ∃ x : World, x = wr := ⟨_, rfl⟩
      have hx0 := hx.trans hxr
      have k0 := hxr.lit k0
      have k1 := hxr.lit k1
      by_cases hlt : j < ls.length
      · have hji : (j : Int) < ls.length := by omega
        go_wp2_with fail
        refine (WindowOk_s' (h.ext hx0)).mono ?_
        rintro e w3 ⟨rfl, hb⟩
        have k0 := hb.lit k0
        have k1 := hb.lit k1
        have hx0 := hx0.trans hb
        have hxr := hxr.trans hb
        have hv := hv.ext hb
        rw [hok]
        clear hb
        go_wp2_with fail
        refine (l01In_c _ _ _ _).mono ?_
        rintro e w4 ⟨rfl, rfl⟩
        rw [hwi]
        obtain ⟨b, off, rfl, hbb, c1, c2⟩ := (h.ext hx0).g.gp_ hlt
        have hs := lat_succ ls k j
        have hln := lat_len ls k j
        have hsz := hxr.size
        unfold atL at hs
        generalize gp ls j = L at *
        obtain ⟨p, q⟩ := L
        have Hs := Lib.hid hs
        clear hs
        by_cases hz : p = k ∨ q = k
        · have Hs2 : Hid (lat ls k (j + 1) = lat ls k j ++ [(j : Int)]) := Lib.hid (by rw [Hs.out, if_pos (by simpa using hz)])
          rcases hz with hz | hz
          · subst hz
            go_wp2_with (at_builtin; refine ap_int Try.underlying61 infoI2 _ _ rfl rfl rfl (hv.ext ((Ext.refl w3).alloc _)) (g := w3.heap.size) (y := j) (by first | rfl | simp) (by go_simp) (by omega) (by simp; omega) ?_)
            intro v' w' h1 h2 h3
            go_wp2
            go_roundw
            case rel => exact ⟨j + 1, by omega, by go_num, by rw [Hs2.out]; exact h1, h3 _ (hxr.trans (by repeat first | exact Ext.refl _ | assumption | refine Ext.drew ?_ | refine Ext.alloc ?_ _ | refine Ext.setCell ?_ (by simp) | refine Ext.setCell ?_ (by simp; omega) | refine Ext.trans ?_ (by assumption))) (Nat.le_refl _)⟩
            case measure => simp [intOf]; omega
          · subst hz
            by_cases hpq : p = q
            · subst hpq
              go_wp2_with (at_builtin; refine ap_int Try.underlying61 infoI2 _ _ rfl rfl rfl (hv.ext ((Ext.refl w3).alloc _)) (g := w3.heap.size) (y := j) (by first | rfl | simp) (by go_simp) (by omega) (by simp; omega) ?_)
              intro v' w' h1 h2 h3
              go_wp2
              go_roundw
              case rel => exact ⟨j + 1, by omega, by go_num, by rw [Hs2.out]; exact h1, h3 _ (hxr.trans (by repeat first | exact Ext.refl _ | assumption | refine Ext.drew ?_ | refine Ext.alloc ?_ _ | refine Ext.setCell ?_ (by simp) | refine Ext.setCell ?_ (by simp; omega) | refine Ext.trans ?_ (by assumption))) (Nat.le_refl _)⟩
              case measure => simp [intOf]; omega
            · skip
              go_wp2_with (at_builtin; refine ap_int Try.underlying61 infoI2 _ _ rfl rfl rfl (hv.ext ((Ext.refl w3).alloc _)) (g := w3.heap.size) (y := j) (by first | rfl | simp) (by go_simp) (by omega) (by simp; omega) ?_)
              intro v' w' h1 h2 h3
              go_wp2
              go_roundw
              case rel => exact ⟨j + 1, by omega, by go_num, by rw [Hs2.out]; exact h1, h3 _ (hxr.trans (by repeat first | exact Ext.refl _ | assumption | refine Ext.drew ?_ | refine Ext.alloc ?_ _ | refine Ext.setCell ?_ (by simp) | refine Ext.setCell ?_ (by simp; omega) | refine Ext.trans ?_ (by assumption))) (Nat.le_refl _)⟩
              case measure => simp [intOf]; omega
        · have Hs2 : Hid (lat ls k (j + 1) = lat ls k j) := Lib.hid (by rw [Hs.out, if_neg (by simpa using hz)])
          have z1 : ¬ p = k := fun e => hz (.inl e)
          have z2 : ¬ q = k := fun e => hz (.inr e)
          have z3 : (p == k) = false := beq_eq_false_iff_ne.2 z1
          have z4 : (q == k) = false := beq_eq_false_iff_ne.2 z2
          clear hz
          go_wp2
          go_roundw
          case rel => exact ⟨j + 1, by omega, by go_num, by rw [Hs2.out]; exact hv, hxr⟩
          case measure => simp [intOf]; omega
      · obtain rfl : j = ls.length := by omega
        go_wp2
        go_ret
        exact ⟨_, rfl, by rw [leadsAt, if_pos hw]; exact hv.more hx.size, hx0⟩
  · have hw' := eq_false_of_ne_true hw
    go_loopw [5, 6] (fun v i wr => i = .int .i64 (0 : Nat) ∧ OwI wr w1.heap.size v [] ∧ Ext w1 wr) (fun _ i _ => 0)
    case atStart => exact ⟨rfl, hv0, hx2⟩
    case round =>
      clear hv0 hx2
      obtain ⟨rfl, hv, hxr⟩ := hrel
      obtain ⟨wo, rfl⟩ : ∃ x : World, x = wr := ⟨_, rfl⟩
      have hx0 := hx.trans hxr
      have k0 := hxr.lit k0
      have k1 := hxr.lit k1
      by_cases hlt : 0 < ls.length
      · have hji : ((0 : Nat) : Int) < ls.length := by omega
        go_wp2_with fail
        refine (WindowOk_s' (h.ext hx0)).mono ?_
        rintro e w3 ⟨rfl, hb⟩
        have k0 := hb.lit k0
        have k1 := hb.lit k1
        have hx0 := hx0.trans hb
        have hv := hv.ext hb
        clear hb
        by_cases hok : wok ns ls = true
        · have hwi : wi k 0 (ns.length - 1) = false := by rw [hasN, hok, Bool.true_and] at hw'; exact hw'
          rw [hok]
          go_wp2_with fail
          refine (l01In_c _ _ _ _).mono ?_
          rintro e w4 ⟨rfl, rfl⟩
          rw [hwi]
          go_wp2
          go_ret
          exact ⟨_, rfl, by rw [leadsAt, if_neg hw]; exact hv.more hx.size, hx0⟩
        · rw [eq_false_of_ne_true hok]
          go_wp2
          go_ret
          exact ⟨_, rfl, by rw [leadsAt, if_neg hw]; exact hv.more hx.size, hx0⟩
      · go_wp2
        go_ret
        exact ⟨_, rfl, by rw [leadsAt, if_neg hw]; exact hv.more hx.size, hx0⟩

set_option maxRecDepth 100000 in
set_option maxHeartbeats 2000000 in
theorem DegreeOf_i (A B : Option Addr) (c d : Nat) (ns ls : List P2) (k : Int) (w : World) (h : Wn w A c B d ns ls) :
    Calls Try.prog 73 #[.agg #[.slice A ns.length c, .slice B ls.length d], .int .i64 k] w fun e w' => e = .returned (.int .i64 (degOf ns ls k)) ∧ Ext w w' := by
  by_cases hw : hasN ns ls k = true
  · go_enter Try.func73, Try.ntmps73
    go_wp2_with fail
    refine (hasNode_c A B c d ns ls k _ (h.ext (by repeat first | exact Ext.refl _ | assumption | refine Ext.drew ?_ | refine Ext.alloc ?_ _ | refine Ext.setCell ?_ (by simp) | refine Ext.setCell ?_ (by simp; omega) | refine Ext.trans ?_ (by assumption)))).mono ?_
    rintro e w1 ⟨rfl, hb⟩
    have k0 := hb.lit (b := w.heap.size) (o := 0) (v := .slice A ns.length c) (by go_simp)
    have k1 := hb.lit (b := w.heap.size) (o := 1) (v := .slice B ls.length d) (by go_simp)
    have hx : Ext w w1 := (by repeat first | exact Ext.refl _ | assumption | refine Ext.drew ?_ | refine Ext.alloc ?_ _ | refine Ext.setCell ?_ (by simp) | refine Ext.setCell ?_ (by simp; omega) | refine Ext.trans ?_ (by assumption))
    rw [hw]
    clear hb
    go_wp2_with fail
    refine (LeadsAt_i A B c d ns ls k _ (h.ext hx)).mono ?_
    rintro e w2 ⟨v, rfl, hv, hb⟩
    obtain ⟨A', c', rfl, -, -, -⟩ := hv.shape
    go_wp2
    go_ret
    exact ⟨ret_i (by rw [degOf, if_pos hw]), hx.trans hb⟩
  · have hw' := eq_false_of_ne_true hw
    go_enter Try.func73, Try.ntmps73
    go_wp2_with fail
    refine (hasNode_c A B c d ns ls k _ (h.ext (by repeat first | exact Ext.refl _ | assumption | refine Ext.drew ?_ | refine Ext.alloc ?_ _ | refine Ext.setCell ?_ (by simp) | refine Ext.setCell ?_ (by simp; omega) | refine Ext.trans ?_ (by assumption)))).mono ?_
    rintro e w1 ⟨rfl, hb⟩
    rw [hw']
    go_wp2
    go_ret
    exact ⟨ret_i (by rw [degOf, if_neg hw]), (by repeat first | exact Ext.refl _ | assumption | refine Ext.drew ?_ | refine Ext.alloc ?_ _ | refine Ext.setCell ?_ (by simp) | refine Ext.setCell ?_ (by simp; omega) | refine Ext.trans ?_ (by assumption))⟩

set_option maxRecDepth 100000 in
set_option maxHeartbeats 2000000 in
theorem DegreeOf_s (A B : Option Addr) (c d : Nat) (ns ls : List P2) (k : Int) (w : World) (h : Wn w A c B d ns ls) :
    Calls Try.prog 72 #[.agg #[.slice A ns.length c, .slice B ls.length d], .int .i64 k] w fun e w' => e = .returned (.int .i64 (degOf ns ls k)) ∧ Ext w w' := by
  have hnl := h.hl
  by_cases hok : wok ns ls = true
  · by_cases hwi : wi k 0 (ns.length - 1) = true
    · have hw : hasN ns ls k = true := by rw [hasN, hok, hwi]; rfl
      go_enter Try.func72, Try.ntmps72
      go_wp2_with fail
      refine (WindowOk_s' (h.ext (by repeat first | exact Ext.refl _ | assumption | refine Ext.drew ?_ | refine Ext.alloc ?_ _ | refine Ext.setCell ?_ (by simp) | refine Ext.setCell ?_ (by simp; omega) | refine Ext.trans ?_ (by assumption)))).mono ?_
      rintro e w1 ⟨rfl, hb⟩
      have k0 := hb.lit (b := w.heap.size) (o := 0) (v := .slice A ns.length c) (by go_simp)
      have k1 := hb.lit (b := w.heap.size) (o := 1) (v := .slice B ls.length d) (by go_simp)
      have hx : Ext w w1 := (by repeat first | exact Ext.refl _ | assumption | refine Ext.drew ?_ | refine Ext.alloc ?_ _ | refine Ext.setCell ?_ (by simp) | refine Ext.setCell ?_ (by simp; omega) | refine Ext.trans ?_ (by assumption))
      clear hb
      rw [hok]
      go_wp2_with fail
      refine (l01In_c _ _ _ _).mono ?_
      rintro e w4 ⟨rfl, rfl⟩
      rw [hwi]
      go_wp2_with fail
      refine (LeadsAt_s A B c d ns ls k _ (h.ext hx)).mono ?_
      rintro e w2 ⟨v, rfl, hv, hb⟩
      obtain ⟨A', c', rfl, -, -, -⟩ := hv.shape
      go_wp2
      go_ret
      exact ⟨ret_i (by rw [degOf, if_pos hw]), hx.trans hb⟩
    · have hwi := eq_false_of_ne_true hwi
      have hw : ¬ hasN ns ls k = true := by rw [hasN, hok, hwi]; simp
      go_enter Try.func72, Try.ntmps72
      go_wp2_with fail
      refine (WindowOk_s' (h.ext (by repeat first | exact Ext.refl _ | assumption | refine Ext.drew ?_ | refine Ext.alloc ?_ _ | refine Ext.setCell ?_ (by simp) | refine Ext.setCell ?_ (by simp; omega) | refine Ext.trans ?_ (by assumption)))).mono ?_
      rintro e w1 ⟨rfl, hb⟩
      have k0 := hb.lit (b := w.heap.size) (o := 0) (v := .slice A ns.length c) (by go_simp)
      have k1 := hb.lit (b := w.heap.size) (o := 1) (v := .slice B ls.length d) (by go_simp)
      have hx : Ext w w1 := (by repeat first | exact Ext.refl _ | assumption | refine Ext.drew ?_ | refine Ext.alloc ?_ _ | refine Ext.setCell ?_ (by simp) | refine Ext.setCell ?_ (by simp; omega) | refine Ext.trans ?_ (by assumption))
      clear hb
      rw [hok]
      go_wp2_with fail
      refine (l01In_c _ _ _ _).mono ?_
      rintro e w4 ⟨rfl, rfl⟩
      rw [hwi]
      go_wp2
      go_ret
      exact ⟨ret_i (by rw [degOf, if_neg hw]), hx⟩
  · have hok := eq_false_of_ne_true hok
    have hw : ¬ hasN ns ls k = true := by rw [hasN, hok]; simp
    go_enter Try.func72, Try.ntmps72
    go_wp2_with fail
    refine (WindowOk_s' (h.ext (by repeat first | exact Ext.refl _ | assumption | refine Ext.drew ?_ | refine Ext.alloc ?_ _ | refine Ext.setCell ?_ (by simp) | refine Ext.setCell ?_ (by simp; omega) | refine Ext.trans ?_ (by assumption)))).mono ?_
    rintro e w1 ⟨rfl, hb⟩
    have k0 := hb.lit (b := w.heap.size) (o := 0) (v := .slice A ns.length c) (by go_simp)
    have k1 := hb.lit (b := w.heap.size) (o := 1) (v := .slice B ls.length d) (by go_simp)
    have hx : Ext w w1 := (by repeat first | exact Ext.refl _ | assumption | refine Ext.drew ?_ | refine Ext.alloc ?_ _ | refine Ext.setCell ?_ (by simp) | refine Ext.setCell ?_ (by simp; omega) | refine Ext.trans ?_ (by assumption))
    clear hb
    rw [hok]
    go_wp2
    go_ret
    exact ⟨ret_i (by rw [degOf, if_neg hw]), hx⟩
end Go.Proofs.Ytfhemddonahjgaa

namespace Go.Proofs.Ytfhemddonahjgaa
open Go.RowKit Go.Sort Go.BigFrame

theorem lat_mem {ls : List P2} {k : Int} {j : Nat} {x : Int} (h : x ∈ lat ls k j) : ∃ i : Nat, x = i ∧ i < j ∧ atL (gp ls i) k = true := by
  unfold lat at h
  rw [List.mem_map] at h
  obtain ⟨i, hi, rfl⟩ := h
  rw [List.mem_filter, List.mem_range] at hi
  exact ⟨i, rfl, hi.1, hi.2⟩
theorem leadsAt_mem {ns ls : List P2} {k : Int} {x : Int} (h : x ∈ leadsAt ns ls k) : hasN ns ls k = true ∧ ∃ i : Nat, x = i ∧ i < ls.length ∧ atL (gp ls i) k = true := by
  unfold leadsAt at h
  split at h
  · rename_i hh; exact ⟨hh, lat_mem h⟩
  · cases h
theorem gi_mem {l : List Int} {j : Nat} (h : j < l.length) : gi l j ∈ l := by rw [gi_nat l j h]; exact List.getElem_mem h
/-- the other end of a lead at a node is a node -/
theorem oend_ok {ns ls : List P2} {k : Int} {i : Nat} (hw : hasN ns ls k = true) (hi : i < ls.length) (ha : atL (gp ls i) k = true) : ∃ a : Nat, oend (gp ls i) k = a ∧ a < ns.length := by
  have hv := vd_of_ok (hasN_ok hw).1
  obtain ⟨f, t, e, hf, ht⟩ := hv (gp ls i) (by rw [gp_nat ls i hi]; exact List.getElem_mem hi)
  rw [e] at ha ⊢
  simp only [atL, Bool.or_eq_true, decide_eq_true_eq] at ha
  unfold oend
  by_cases h1 : k = (f : Int)
  · exact ⟨t, by simp [h1], ht⟩
  · have h2 : k = (t : Int) := by rcases ha with h | h <;> omega
    exact ⟨f, by first | (simp [h2]; done) | (simp [h2]; omega), hf⟩
def ends (ns ls : List P2) (k : Int) : List Int := (leadsAt ns ls k).map (fun i => oend (gp ls i) k)

set_option maxRecDepth 100000 in
set_option maxHeartbeats 2000000 in
theorem otherEnds_c (A B : Option Addr) (c d : Nat) (ns ls : List P2) (k : Int) (w : World) (h : Wn w A c B d ns ls) :
    Calls Try.prog 48 #[.agg #[.slice A ns.length c, .slice B ls.length d], .int .i64 k] w fun e w' => ∃ v, e = .returned v ∧ OwI w' w.heap.size v (ends ns ls k) ∧ Ext w w' := by
  have hll := leadsAt_len ns ls k
  go_enter Try.func48, Try.ntmps48
  go_wp2_with fail
  refine (LeadsAt_i A B c d ns ls k _ (h.ext (by repeat first | exact Ext.refl _ | assumption | refine Ext.drew ?_ | refine Ext.alloc ?_ _ | refine Ext.setCell ?_ (by simp) | refine Ext.setCell ?_ (by simp; omega) | refine Ext.trans ?_ (by assumption)))).mono ?_
  rintro e w1 ⟨v0, rfl, hv0, hb⟩
  have k1 := hb.lit (b := w.heap.size) (o := 1) (v := .slice B ls.length d) (by go_simp)
  have hx : Ext w w1 := (by repeat first | exact Ext.refl _ | assumption | refine Ext.drew ?_ | refine Ext.alloc ?_ _ | refine Ext.setCell ?_ (by simp) | refine Ext.setCell ?_ (by simp; omega) | refine Ext.trans ?_ (by assumption))
  clear hb
  obtain ⟨A', c', rfl, -, -, -⟩ := hv0.shape
  go_wp2_with fail
  go_loopw [5, 7, 12] (fun v _ i wr => ∃ j : Nat, j ≤ (leadsAt ns ls k).length ∧ i = .int .i64 j ∧ OwI wr w1.heap.size v (((leadsAt ns ls k).take j).map (fun i => oend (gp ls i) k)) ∧ Ext w1 wr) (fun _ _ i _ => (leadsAt ns ls k).length - (intOf i).toNat)
  case atStart => exact ⟨0, by omega, rfl, OwI.nil _ _, Ext.refl _⟩
  case round =>
    obtain ⟨j, hj, rfl, hv, hxr⟩ := hrel
    obtain ⟨wo, rfl⟩ : ∃ x : World, x = wr := ⟨_, rfl⟩
    have hx0 := hx.trans hxr
    have k1 := hxr.lit k1
    by_cases hlt : j < (leadsAt ns ls k).length
    · obtain ⟨g, cp, he, -, -, -, c0, -⟩ := (hv0.ext hxr).gi_ hlt
      obtain ⟨hw, i, hi, him, hia⟩ := leadsAt_mem (gi_mem hlt)
      rw [hi] at c0
      obtain ⟨b, off, rfl, hbb, c1, c2⟩ := (h.ext hx0).g.gp_ him
      have hnext : ((leadsAt ns ls k).take (j + 1)).map (fun i => oend (gp ls i) k) = ((leadsAt ns ls k).take j).map (fun i => oend (gp ls i) k) ++ [oend (gp ls i) k] := by
        rw [List.take_succ_eq_append_getElem hlt, List.map_append, ← gi_nat _ j hlt, hi]; rfl
      have Hn := Lib.hid hnext
      clear hnext hi
      have hlen : (((leadsAt ns ls k).take j).map (fun i => oend (gp ls i) k)).length ≤ 20 := by rw [List.length_map, List.length_take]; omega
      injection he with he1 he2 he3
      subst he1
      subst he3
      generalize gp ls i = L at *
      obtain ⟨p, q⟩ := L
      have hii : (i : Int) < ls.length := by omega
      go_wp2_with fail
      refine (OtherEnd_i _ _ _ _).mono ?_
      rintro e w3 ⟨rfl, hb⟩
      have hxr := hxr.trans hb
      have hv := hv.ext hb
      have hsz := hxr.size
      go_wp2_with (at_builtin; refine ap_int Try.underlying61 infoI2 _ _ rfl rfl rfl (hv.ext ((Ext.refl w3).alloc _)) (g := w3.heap.size) (y := oend (p, q) k) (by first | rfl | simp) (by go_simp) (by omega) (by simp; omega) ?_)
      intro v' w' h1 h2 h3
      go_wp2
      go_roundw
      case rel => exact ⟨j + 1, by omega, by go_num, by rw [Hn.out, List.map_take]; exact h1, h3 _ (hxr.trans (by repeat first | exact Ext.refl _ | assumption | refine Ext.drew ?_ | refine Ext.alloc ?_ _ | refine Ext.setCell ?_ (by simp) | refine Ext.setCell ?_ (by simp; omega) | refine Ext.trans ?_ (by assumption))) (Nat.le_refl _)⟩
      case measure => simp [intOf]; omega
    · obtain rfl : j = (leadsAt ns ls k).length := by omega
      rw [List.take_of_length_le (Nat.le_refl _)] at hv
      go_wp2
      go_ret
      exact ⟨_, rfl, hv.more hx.size, hx0⟩

def straight (ns ls : List P2) (k : Int) : Bool :=
  decide (degOf ns ls k = 2) && btw (gp ns (oend (gp ls (gi (leadsAt ns ls k) (0 : Nat))) k)) (gp ns (oend (gp ls (gi (leadsAt ns ls k) (1 : Nat))) k)) (gp ns k)
theorem str_facts {ns ls : List P2} {k : Int} (h : degOf ns ls k = 2) : WOk ns ls ∧ (leadsAt ns ls k).length = 2 ∧ ∃ kk i0 i1 a b : Nat, k = kk ∧ kk < ns.length ∧ gi (leadsAt ns ls k) (0 : Nat) = i0 ∧ gi (leadsAt ns ls k) (1 : Nat) = i1 ∧
    i0 < ls.length ∧ i1 < ls.length ∧ oend (gp ls i0) k = a ∧ a < ns.length ∧ oend (gp ls i1) k = b ∧ b < ns.length := by
  unfold degOf at h
  split at h
  · rename_i hw
    have hlen : (leadsAt ns ls k).length = 2 := by omega
    obtain ⟨hW, kk, hk, hkn⟩ := hasN_ok hw
    obtain ⟨-, i0, e0, hi0, ha0⟩ := leadsAt_mem (gi_mem (l := leadsAt ns ls k) (j := 0) (by omega))
    obtain ⟨-, i1, e1, hi1, ha1⟩ := leadsAt_mem (gi_mem (l := leadsAt ns ls k) (j := 1) (by omega))
    obtain ⟨a, ha, han⟩ := oend_ok hw hi0 ha0
    obtain ⟨b, hb, hbn⟩ := oend_ok hw hi1 ha1
    exact ⟨hW, hlen, kk, i0, i1, a, b, hk, hkn, e0, e1, hi0, hi1, ha, han, hb, hbn⟩
  · omega
end Go.Proofs.Ytfhemddonahjgaa

namespace Go.Proofs.Ytfhemddonahjgaa
open Go.RowKit Go.Sort Go.BigFrame

theorem Ext.frz {w w1 : World} (hb : Ext w w1) {b o : Nat} (hlt : b < w.heap.size) (h : w.frozen? ⟨b, o, none⟩ = false) : w1.frozen? ⟨b, o, none⟩ = false := by
  rw [Below.frozen hb (p := ⟨b, o, none⟩) hlt]; exact h
theorem ends_gi {ns ls : List P2} {k : Int} {j : Nat} (h : j < (leadsAt ns ls k).length) : gi (ends ns ls k) j = oend (gp ls (gi (leadsAt ns ls k) j)) k := by
  rw [gi_nat _ j (by simpa [ends] using h), gi_nat _ j h]
  simp [ends]

set_option maxRecDepth 100000 in
set_option maxHeartbeats 4000000 in
theorem IsStraightNode_i (A B : Option Addr) (c d : Nat) (ns ls : List P2) (k : Int) (w : World) (h : Wn w A c B d ns ls) :
    Calls Try.prog 47 #[.agg #[.slice A ns.length c, .slice B ls.length d], .int .i64 k] w fun e w' => e = .returned (.bool (straight ns ls k)) ∧ Ext w w' := by
  by_cases hd : degOf ns ls k = 2
  · obtain ⟨hW, hlen, kk, i0, i1, a, b, rfl, hk, e0, e1, hi0, hi1, ha, han, hb', hbn⟩ := str_facts hd
    have hn := hW.hi
    have Hd : Hid (straight ns ls kk = btw (gp ns a) (gp ns b) (gp ns kk)) := Lib.hid (by rw [straight, hd, e0, e1, ha, hb']; simp)
    have hE0 : gi (ends ns ls kk) (0 : Nat) = a := by rw [ends_gi (by omega), e0, ha]
    have hE1 : gi (ends ns ls kk) (1 : Nat) = b := by rw [ends_gi (by omega), e1, hb']
    have hEl : (ends ns ls kk).length = 2 := by simp [ends, hlen]
    clear hW e0 e1 ha hb' hlen
    go_enter Try.func47, Try.ntmps47
    go_wp2_with fail
    refine (DegreeOf_i A B c d ns ls _ _ (h.ext (by repeat first | exact Ext.refl _ | assumption | refine Ext.drew ?_ | refine Ext.alloc ?_ _ | refine Ext.setCell ?_ (by simp) | refine Ext.setCell ?_ (by simp; omega) | refine Ext.trans ?_ (by assumption)))).mono ?_
    rintro e w1 ⟨rfl, hb⟩
    have k0 := hb.lit (b := w.heap.size) (o := 0) (v := .slice A ns.length c) (by go_simp)
    have k1 := hb.lit (b := w.heap.size) (o := 1) (v := .slice B ls.length d) (by go_simp)
    have hx : Ext w w1 := (by repeat first | exact Ext.refl _ | assumption | refine Ext.drew ?_ | refine Ext.alloc ?_ _ | refine Ext.setCell ?_ (by simp) | refine Ext.setCell ?_ (by simp; omega) | refine Ext.trans ?_ (by assumption))
    rw [hd]
    clear hb
    go_wp2_with fail
    refine (otherEnds_c A B c d ns ls _ _ (h.ext hx)).mono ?_
    rintro e w2 ⟨v, rfl, hv, hb⟩
    have k0 := hb.lit k0
    have hx := hx.trans hb
    obtain ⟨g, cp, rfl, -, -, -, -, -⟩ := hv.gi_ (j := 0) (by omega)
    have q0 := (hv.cel (j := 0) (by omega)).1
    have q1 := (hv.cel (j := 1) (by omega)).1
    rw [hE0] at q0
    rw [hE1] at q1
    rw [hEl]
    clear hv hb hE0 hE1 hEl
    obtain ⟨bb, off, rfl, hbb, c1, c2⟩ := (h.ext hx).h.gp_ han
    obtain ⟨b', off', he, hbb', c3, c4⟩ := (h.ext hx).h.gp_ hbn
    obtain ⟨rfl, rfl⟩ : bb = b' ∧ off = off' := by simpa using he
    clear he hbb'
    obtain ⟨b', off', he, hbb', c5, c6⟩ := (h.ext hx).h.gp_ hk
    obtain ⟨rfl, rfl⟩ : bb = b' ∧ off = off' := by simpa using he
    clear he hbb'
    generalize gp ns a = X at *
    generalize gp ns b = Y at *
    generalize gp ns kk = Z at *
    obtain ⟨ax, ay⟩ := X
    obtain ⟨bx, by'⟩ := Y
    obtain ⟨cx, cy⟩ := Z
    go_wp2_with fail
    have d0 := cell_regrown k0
    have d1 := cell_regrown c1
    have d2 := cell_regrown c2
    have d3 := cell_regrown c3
    have d4 := cell_regrown c4
    have d5 := cell_regrown c5
    have d6 := cell_regrown c6
    have d7 := cell_regrown q0
    have d8 := cell_regrown q1
    have u1 : (a : Int) < ns.length := by omega
    have u2 : (b : Int) < ns.length := by omega
    have u3 : (kk : Int) < ns.length := by omega
    refine rx_open [(true, 0, some 13, 4), (true, 1, some 14, 8192), (true, 0, some 15, 32), (true, 4, some 16, 32768), (true, 8, some 17, 65536), (true, 18, some 18, 147456), (true, 32, some 19, 262144), (true, 0, some 20, 4), (true, 128, some 21, 1048576), (true, 0, some 22, 32), (true, 512, some 23, 4194304), (true, 1024, some 24, 8388608), (true, 2304, some 25, 18874368), (true, 4096, some 26, 33554432), (true, 0, some 27, 4), (true, 16384, some 28, 134217728), (true, 0, some 29, 2), (true, 98304, some 30, 805306368), (true, 131072, some 31, 1073741824), (false, 270400, some 32, 2215116800), (true, 1048575, some 4, 4294967296)] 0 21 mixd rfl (by kernel_rfl) (by kernel_rfl) (by kernel_rfl) ?_
    refine rx_run (run := [0, 1, 2, 3, 4, 5, 6, 7, 8, 9, 10, 11, 12, 13, 14, 15, 16, 17, 18]) (k := 2) (m' := 524287) rfl (by kernel_rfl) (by kernel_rfl) (by kernel_rfl) (fm_cons rfl <| fm_cons rfl <| fm_cons rfl <| fm_cons rfl <| fm_cons rfl <| fm_cons rfl <| fm_cons rfl <| fm_cons rfl <| fm_cons rfl <| fm_cons rfl <| fm_cons rfl <| fm_cons rfl <| fm_cons rfl <| fm_cons rfl <| fm_cons rfl <| fm_cons rfl <| fm_cons rfl <| fm_cons rfl <| fm_cons rfl <| List.filterMap_nil) (by repeat first | exact Ext.refl _ | assumption | refine Ext.drew ?_ | refine Ext.alloc ?_ _ | refine Ext.setCell ?_ (by simp) | refine Ext.setCell ?_ (by simp; omega) | refine Ext.trans ?_ (by assumption)) ?_
    repeat (go_big_quiet_step ((fail)))
    refine wpQuiet_nil ?_
    refine rx_op 19 (k := 1) (m' := 1048575) rfl rfl (by kernel_rfl) (by kernel_rfl) ?_
    go_wp2_with ((go_at_call 34; refine (IsBetween_i _ _ _ _ _ _ _).mono ?_; rintro e w5 ⟨rfl, hb5⟩))
    refine rx_on (by repeat first | exact Ext.refl _ | assumption | refine Ext.drew ?_ | refine Ext.alloc ?_ _ | refine Ext.setCell ?_ (by simp) | refine Ext.setCell ?_ (by simp; omega) | refine Ext.trans ?_ (by assumption)) ?_
    refine rx_run (run := [20]) (k := 0) (m' := 2097151) rfl (by kernel_rfl) (by kernel_rfl) (by kernel_rfl) (fm_cons rfl <| List.filterMap_nil) (by repeat first | exact Ext.refl _ | assumption | refine Ext.drew ?_ | refine Ext.alloc ?_ _ | refine Ext.setCell ?_ (by simp) | refine Ext.setCell ?_ (by simp; omega) | refine Ext.trans ?_ (by assumption)) ?_
    repeat (go_big_quiet_step ((fail)))
    refine wpQuiet_nil ?_
    refine rx_end (by kernel_rfl) ?_
    go_wp2
    go_ret
    exact ⟨ret_b (by rw [Hd.out]), hx.trans (by repeat first | exact Ext.refl _ | assumption | refine Ext.drew ?_ | refine Ext.alloc ?_ _ | refine Ext.setCell ?_ (by simp) | refine Ext.setCell ?_ (by simp; omega) | refine Ext.trans ?_ (by assumption))⟩
  · go_enter Try.func47, Try.ntmps47
    go_wp2_with fail
    refine (DegreeOf_i A B c d ns ls _ _ (h.ext (by repeat first | exact Ext.refl _ | assumption | refine Ext.drew ?_ | refine Ext.alloc ?_ _ | refine Ext.setCell ?_ (by simp) | refine Ext.setCell ?_ (by simp; omega) | refine Ext.trans ?_ (by assumption)))).mono ?_
    rintro e w1 ⟨rfl, hb⟩
    have hx : Ext w w1 := (by repeat first | exact Ext.refl _ | assumption | refine Ext.drew ?_ | refine Ext.alloc ?_ _ | refine Ext.setCell ?_ (by simp) | refine Ext.setCell ?_ (by simp; omega) | refine Ext.trans ?_ (by assumption))
    have hs : straight ns ls k = false := by simp [straight, hd]
    have hd' : (degOf ns ls k != 2) = true := bne_iff_ne.2 hd
    have Hs := Lib.hid hs
    clear hs
    go_wp2
    go_ret
    exact ⟨ret_b (by rw [Hs.out]), hx⟩

set_option maxRecDepth 100000 in
set_option maxHeartbeats 4000000 in
theorem IsStraightNode_s (A B : Option Addr) (c d : Nat) (ns ls : List P2) (k : Int) (w : World) (h : Wn w A c B d ns ls) :
    Calls Try.prog 44 #[.agg #[.slice A ns.length c, .slice B ls.length d], .int .i64 k] w fun e w' => e = .returned (.bool (straight ns ls k)) ∧ Ext w w' := by
  by_cases hd : degOf ns ls k = 2
  · obtain ⟨hW, hlen, kk, i0, i1, a, b, rfl, hk, e0, e1, hi0, hi1, ha, han, hb', hbn⟩ := str_facts hd
    have hn := hW.hi
    have hm := hW.le
    have Hd : Hid (straight ns ls kk = btw (gp ns a) (gp ns b) (gp ns kk)) := Lib.hid (by rw [straight, hd, e0, e1, ha, hb']; simp)
    have Ha := Lib.hid ha
    have Hb := Lib.hid hb'
    clear hW ha hb'
    go_enter Try.func44, Try.ntmps44
    go_wp2_with fail
    refine (DegreeOf_s A B c d ns ls _ _ (h.ext (by repeat first | exact Ext.refl _ | assumption | refine Ext.drew ?_ | refine Ext.alloc ?_ _ | refine Ext.setCell ?_ (by simp) | refine Ext.setCell ?_ (by simp; omega) | refine Ext.trans ?_ (by assumption)))).mono ?_
    rintro e w1 ⟨rfl, hb⟩
    have k0 := hb.lit (b := w.heap.size) (o := 0) (v := .slice A ns.length c) (by go_simp)
    have k1 := hb.lit (b := w.heap.size) (o := 1) (v := .slice B ls.length d) (by go_simp)
    have hx : Ext w w1 := (by repeat first | exact Ext.refl _ | assumption | refine Ext.drew ?_ | refine Ext.alloc ?_ _ | refine Ext.setCell ?_ (by simp) | refine Ext.setCell ?_ (by simp; omega) | refine Ext.trans ?_ (by assumption))
    rw [hd]
    clear hb
    go_wp2_with fail
    refine (LeadsAt_s A B c d ns ls _ _ (h.ext hx)).mono ?_
    rintro e w2 ⟨v, rfl, hv, hb⟩
    have k0 := hb.lit k0
    have k1 := hb.lit k1
    have hx := hx.trans hb
    obtain ⟨g, cp, rfl, -, -, -, -, -⟩ := hv.gi_ (j := 0) (by omega)
    have q0 := (hv.cel (j := 0) (by omega)).1
    have q1 := (hv.cel (j := 1) (by omega)).1
    rw [e0] at q0
    rw [e1] at q1
    rw [hlen]
    clear hv hb e0 e1 hlen
    obtain ⟨bb, off, rfl, hbb, c1, c2⟩ := (h.ext hx).h.gp_ han
    obtain ⟨b', off', he, hbb', c3, c4⟩ := (h.ext hx).h.gp_ hbn
    obtain ⟨rfl, rfl⟩ : bb = b' ∧ off = off' := by simpa using he
    clear he hbb'
    obtain ⟨b', off', he, hbb', c5, c6⟩ := (h.ext hx).h.gp_ hk
    obtain ⟨rfl, rfl⟩ : bb = b' ∧ off = off' := by simpa using he
    clear he hbb'
    obtain ⟨lb, lof, rfl, hlb, l1, l2⟩ := (h.ext hx).g.gp_ hi0
    obtain ⟨b', off', he, hbb', l3, l4⟩ := (h.ext hx).g.gp_ hi1
    obtain ⟨rfl, rfl⟩ : lb = b' ∧ lof = off' := by simpa using he
    clear he hbb'
    generalize gp ns a = X at *
    generalize gp ns b = Y at *
    generalize gp ns kk = Z at *
    generalize gp ls i0 = U at *
    generalize gp ls i1 = V at *
    obtain ⟨ax, ay⟩ := X
    obtain ⟨bx, by'⟩ := Y
    obtain ⟨cx, cy⟩ := Z
    obtain ⟨ux, uy⟩ := U
    obtain ⟨vx, vy⟩ := V
    have u1 : (a : Int) < ns.length := by omega
    have u2 : (b : Int) < ns.length := by omega
    have u3 : (kk : Int) < ns.length := by omega
    have u4 : (i0 : Int) < ls.length := by omega
    have u5 : (i1 : Int) < ls.length := by omega
    go_upto_region 4 with fail
    go_cut [6] (fun s6 wx => ∃ g6, s6 = .pointer (some ⟨g6, 0, none⟩) ∧ wx.cell? ⟨g6, 0, none⟩ = some (.int .i64 ax) ∧ wx.cell? ⟨g6, 1, none⟩ = some (.int .i64 ay) ∧ Ext w2 wx)
    case first =>
      have d0 := cell_regrown k0
      have d1 := cell_regrown k1
      have d2 := cell_regrown q0
      have d3 := cell_regrown l1
      have d4 := cell_regrown l2
      have d5 := cell_regrown c1
      have d6 := cell_regrown c2
      have hbs := hx.size
      refine rx_open [(true, 0, some 15, 4), (true, 1, some 16, 32768), (true, 0, some 17, 4), (true, 4, some 18, 131072), (true, 0, some 19, 32), (true, 16, some 20, 524288), (true, 32, some 21, 1048576), (true, 72, some 22, 2359296), (true, 128, some 23, 4194304), (true, 0, some 24, 2), (false, 768, some 25, 25165824), (true, 1026, some 26, 33619968), (true, 2048, some 27, 67108864), (false, 0, some 6, 0), (false, 16383, none, 134217792)] 16384 15 mixd rfl (by kernel_rfl) (by kernel_rfl) (by kernel_rfl) ?_
      refine rx_run (run := [0, 1, 2, 3, 4, 5, 6, 7, 8, 9]) (k := 5) (m' := 1023) rfl (by kernel_rfl) (by kernel_rfl) (by kernel_rfl) (fm_cons rfl <| fm_cons rfl <| fm_cons rfl <| fm_cons rfl <| fm_cons rfl <| fm_cons rfl <| fm_cons rfl <| fm_cons rfl <| fm_cons rfl <| fm_cons rfl <| List.filterMap_nil) (by repeat first | exact Ext.refl _ | assumption | refine Ext.drew ?_ | refine Ext.alloc ?_ _ | refine Ext.setCell ?_ (by simp) | refine Ext.setCell ?_ (by simp; omega) | refine Ext.trans ?_ (by assumption)) ?_
      repeat (go_big_quiet_step ((fail)))
      refine wpQuiet_nil ?_
      refine rx_two 10 13 (k := 4) (mi := 2047) (mj := 9215) rfl rfl rfl (by kernel_rfl) (by kernel_rfl) (by kernel_rfl) ?_ ?_
      go_wp2_with (go_at_call 46; refine (OtherEnd_s _ _ _ _).mono ?_; rw [Ha.out]; rintro e w5 ⟨rfl, hb5⟩)
      refine rx_on (by repeat first | exact Ext.refl _ | assumption | refine Ext.drew ?_ | refine Ext.alloc ?_ _ | refine Ext.setCell ?_ (by simp) | refine Ext.setCell ?_ (by simp; omega) | refine Ext.trans ?_ (by assumption)) ?_
      refine rx_run (run := [11, 12]) (k := 2) (m' := 8191) rfl (by kernel_rfl) (by kernel_rfl) (by kernel_rfl) (fm_cons rfl <| fm_cons rfl <| List.filterMap_nil) (by repeat first | exact Ext.refl _ | assumption | refine Ext.drew ?_ | refine Ext.alloc ?_ _ | refine Ext.setCell ?_ (by simp) | refine Ext.setCell ?_ (by simp; omega) | refine Ext.trans ?_ (by assumption)) ?_
      repeat (go_big_quiet_step ((fail)))
      refine wpQuiet_nil ?_
      refine rx_op 13 (k := 1) (m' := 16383) rfl rfl (by kernel_rfl) (by kernel_rfl) ?_
      go_wp2
      refine rx_on (by repeat first | exact Ext.refl _ | assumption | refine Ext.drew ?_ | refine Ext.alloc ?_ _ | refine Ext.setCell ?_ (by simp) | refine Ext.setCell ?_ (by simp; omega) | refine Ext.trans ?_ (by assumption)) ?_
      refine rx_op 14 (k := 0) (m' := 32767) rfl rfl (by kernel_rfl) (by kernel_rfl) ?_
      go_wp2
      refine rx_lst (by decide) ?_
      refine rx_end (by kernel_rfl) ?_
      rotate_left
      go_wp2
      refine rx_on (by repeat first | exact Ext.refl _ | assumption | refine Ext.drew ?_ | refine Ext.alloc ?_ _ | refine Ext.setCell ?_ (by simp) | refine Ext.setCell ?_ (by simp; omega) | refine Ext.trans ?_ (by assumption)) ?_
      refine rx_op 10 (k := 3) (m' := 10239) rfl rfl (by kernel_rfl) (by kernel_rfl) ?_
      go_wp2_with (go_at_call 46; refine (OtherEnd_s _ _ _ _).mono ?_; rw [Ha.out]; rintro e w5 ⟨rfl, hb5⟩; have z0 := hb5.lit (b := w2.heap.size) (o := 0) (v := .int .i64 0) (by go_simp); have y0 := hb5.frz (b := w2.heap.size) (o := 0) (by simp) (by go_simp); have z1 := hb5.lit (b := w2.heap.size) (o := 1) (v := .int .i64 0) (by go_simp); have y1 := hb5.frz (b := w2.heap.size) (o := 1) (by simp) (by go_simp))
      refine rx_on (by repeat first | exact Ext.refl _ | assumption | refine Ext.drew ?_ | refine Ext.alloc ?_ _ | refine Ext.setCell ?_ (by simp) | refine Ext.setCell ?_ (by simp; omega) | refine Ext.trans ?_ (by assumption)) ?_
      refine rx_run (run := [11, 12]) (k := 1) (m' := 16383) rfl (by kernel_rfl) (by kernel_rfl) (by kernel_rfl) (fm_cons rfl <| fm_cons rfl <| List.filterMap_nil) (by repeat first | exact Ext.refl _ | assumption | refine Ext.drew ?_ | refine Ext.alloc ?_ _ | refine Ext.setCell ?_ (by simp) | refine Ext.setCell ?_ (by simp; omega) | refine Ext.trans ?_ (by assumption)) ?_
      repeat (go_big_quiet_step ((fail)))
      refine wpQuiet_nil ?_
      refine rx_op 14 (k := 0) (m' := 32767) rfl rfl (by kernel_rfl) (by kernel_rfl) ?_
      go_wp2
      refine rx_lst (by decide) ?_
      refine rx_end (by kernel_rfl) ?_
      rotate_left
      all_goals (go_wp2; go_meet; exact ⟨_, rfl, by go_simp, by go_simp, (by repeat first | exact Ext.refl _ | assumption | refine Ext.drew ?_ | refine Ext.alloc ?_ _ | refine Ext.setCell ?_ (by simp) | refine Ext.setCell ?_ (by simp; omega) | refine Ext.trans ?_ (by assumption))⟩)
    case rest =>
      obtain ⟨g6, rfl, m1, m2, hx6⟩ := hcut
      have k0 := hx6.lit k0
      have k1 := hx6.lit k1
      have q1 := hx6.lit q1
      have l3 := hx6.lit l3
      have l4 := hx6.lit l4
      have c3 := hx6.lit c3
      have c4 := hx6.lit c4
      have c5 := hx6.lit c5
      have c6 := hx6.lit c6
      have hx := hx.trans hx6
      clear c1 c2 l1 l2 q0 hx6
      obtain ⟨w3, rfl⟩ : ∃ w3 : World, w3 = wc := ⟨_, rfl⟩
      go_upto_region 5 with fail
      go_cut [7] (fun s7 wx => ∃ g7, s7 = .pointer (some ⟨g7, 0, none⟩) ∧ wx.cell? ⟨g7, 0, none⟩ = some (.int .i64 bx) ∧ wx.cell? ⟨g7, 1, none⟩ = some (.int .i64 by') ∧ Ext w3 wx)
      case first =>
        have d0 := cell_regrown k0
        have d1 := cell_regrown k1
        have d2 := cell_regrown q1
        have d3 := cell_regrown l3
        have d4 := cell_regrown l4
        have d5 := cell_regrown c3
        have d6 := cell_regrown c4
        have hbs := hx.size
        refine rx_open [(true, 0, some 28, 4), (true, 1, some 29, 268435456), (true, 0, some 30, 4), (true, 4, some 31, 1073741824), (true, 0, some 32, 32), (true, 16, some 33, 4294967296), (true, 32, some 34, 8589934592), (true, 72, some 35, 19327352832), (true, 128, some 36, 34359738368), (true, 0, some 37, 2), (false, 768, some 38, 206158430208), (true, 1026, some 39, 275414777856), (true, 2048, some 40, 549755813888), (false, 0, some 7, 0), (false, 16383, none, 1099511627904)] 16384 15 mixd rfl (by kernel_rfl) (by kernel_rfl) (by kernel_rfl) ?_
        refine rx_run (run := [0, 1, 2, 3, 4, 5, 6, 7, 8, 9]) (k := 5) (m' := 1023) rfl (by kernel_rfl) (by kernel_rfl) (by kernel_rfl) (fm_cons rfl <| fm_cons rfl <| fm_cons rfl <| fm_cons rfl <| fm_cons rfl <| fm_cons rfl <| fm_cons rfl <| fm_cons rfl <| fm_cons rfl <| fm_cons rfl <| List.filterMap_nil) (by repeat first | exact Ext.refl _ | assumption | refine Ext.drew ?_ | refine Ext.alloc ?_ _ | refine Ext.setCell ?_ (by simp) | refine Ext.setCell ?_ (by simp; omega) | refine Ext.trans ?_ (by assumption)) ?_
        repeat (go_big_quiet_step ((fail)))
        refine wpQuiet_nil ?_
        refine rx_two 10 13 (k := 4) (mi := 2047) (mj := 9215) rfl rfl rfl (by kernel_rfl) (by kernel_rfl) (by kernel_rfl) ?_ ?_
        go_wp2_with (go_at_call 46; refine (OtherEnd_s _ _ _ _).mono ?_; rw [Hb.out]; rintro e w5 ⟨rfl, hb5⟩)
        refine rx_on (by repeat first | exact Ext.refl _ | assumption | refine Ext.drew ?_ | refine Ext.alloc ?_ _ | refine Ext.setCell ?_ (by simp) | refine Ext.setCell ?_ (by simp; omega) | refine Ext.trans ?_ (by assumption)) ?_
        refine rx_run (run := [11, 12]) (k := 2) (m' := 8191) rfl (by kernel_rfl) (by kernel_rfl) (by kernel_rfl) (fm_cons rfl <| fm_cons rfl <| List.filterMap_nil) (by repeat first | exact Ext.refl _ | assumption | refine Ext.drew ?_ | refine Ext.alloc ?_ _ | refine Ext.setCell ?_ (by simp) | refine Ext.setCell ?_ (by simp; omega) | refine Ext.trans ?_ (by assumption)) ?_
        repeat (go_big_quiet_step ((fail)))
        refine wpQuiet_nil ?_
        refine rx_op 13 (k := 1) (m' := 16383) rfl rfl (by kernel_rfl) (by kernel_rfl) ?_
        go_wp2
        refine rx_on (by repeat first | exact Ext.refl _ | assumption | refine Ext.drew ?_ | refine Ext.alloc ?_ _ | refine Ext.setCell ?_ (by simp) | refine Ext.setCell ?_ (by simp; omega) | refine Ext.trans ?_ (by assumption)) ?_
        refine rx_op 14 (k := 0) (m' := 32767) rfl rfl (by kernel_rfl) (by kernel_rfl) ?_
        go_wp2
        refine rx_lst (by decide) ?_
        refine rx_end (by kernel_rfl) ?_
        rotate_left
        go_wp2
        refine rx_on (by repeat first | exact Ext.refl _ | assumption | refine Ext.drew ?_ | refine Ext.alloc ?_ _ | refine Ext.setCell ?_ (by simp) | refine Ext.setCell ?_ (by simp; omega) | refine Ext.trans ?_ (by assumption)) ?_
        refine rx_op 10 (k := 3) (m' := 10239) rfl rfl (by kernel_rfl) (by kernel_rfl) ?_
        go_wp2_with (go_at_call 46; refine (OtherEnd_s _ _ _ _).mono ?_; rw [Hb.out]; rintro e w5 ⟨rfl, hb5⟩; have z0 := hb5.lit (b := w3.heap.size) (o := 0) (v := .int .i64 0) (by go_simp); have y0 := hb5.frz (b := w3.heap.size) (o := 0) (by simp) (by go_simp); have z1 := hb5.lit (b := w3.heap.size) (o := 1) (v := .int .i64 0) (by go_simp); have y1 := hb5.frz (b := w3.heap.size) (o := 1) (by simp) (by go_simp))
        refine rx_on (by repeat first | exact Ext.refl _ | assumption | refine Ext.drew ?_ | refine Ext.alloc ?_ _ | refine Ext.setCell ?_ (by simp) | refine Ext.setCell ?_ (by simp; omega) | refine Ext.trans ?_ (by assumption)) ?_
        refine rx_run (run := [11, 12]) (k := 1) (m' := 16383) rfl (by kernel_rfl) (by kernel_rfl) (by kernel_rfl) (fm_cons rfl <| fm_cons rfl <| List.filterMap_nil) (by repeat first | exact Ext.refl _ | assumption | refine Ext.drew ?_ | refine Ext.alloc ?_ _ | refine Ext.setCell ?_ (by simp) | refine Ext.setCell ?_ (by simp; omega) | refine Ext.trans ?_ (by assumption)) ?_
        repeat (go_big_quiet_step ((fail)))
        refine wpQuiet_nil ?_
        refine rx_op 14 (k := 0) (m' := 32767) rfl rfl (by kernel_rfl) (by kernel_rfl) ?_
        go_wp2
        refine rx_lst (by decide) ?_
        refine rx_end (by kernel_rfl) ?_
        rotate_left
        all_goals (go_wp2; go_meet; exact ⟨_, rfl, by go_simp, by go_simp, (by repeat first | exact Ext.refl _ | assumption | refine Ext.drew ?_ | refine Ext.alloc ?_ _ | refine Ext.setCell ?_ (by simp) | refine Ext.setCell ?_ (by simp; omega) | refine Ext.trans ?_ (by assumption))⟩)
      case rest =>
        obtain ⟨g7, rfl, m3, m4, hx7⟩ := hcut
        have k0 := hx7.lit k0
        have c5 := hx7.lit c5
        have c6 := hx7.lit c6
        have m1 := hx7.lit m1
        have m2 := hx7.lit m2
        have hx := hx.trans hx7
        clear c3 c4 l3 l4 q1 k1 hx7
        obtain ⟨w4, rfl⟩ : ∃ w4 : World, w4 = wc := ⟨_, rfl⟩
        go_wp2_with fail
        have d0 := cell_regrown k0
        have d1 := cell_regrown c5
        have d2 := cell_regrown c6
        have d3 := cell_regrown m1
        have d4 := cell_regrown m2
        have d5 := cell_regrown m3
        have d6 := cell_regrown m4
        refine rx_open [(true, 0, some 41, 64), (true, 0, some 42, 128), (true, 0, some 43, 4), (true, 4, some 44, 8796093022208), (true, 0, some 45, 2), (true, 24, some 46, 52776558133248), (true, 32, some 47, 70368744177664), (false, 67, some 48, 147334558121984), (true, 255, some 4, 281474976710656)] 0 9 mixd rfl (by kernel_rfl) (by kernel_rfl) (by kernel_rfl) ?_
        refine rx_run (run := [0, 1, 2, 3, 4, 5, 6]) (k := 2) (m' := 127) rfl (by kernel_rfl) (by kernel_rfl) (by kernel_rfl) (fm_cons rfl <| fm_cons rfl <| fm_cons rfl <| fm_cons rfl <| fm_cons rfl <| fm_cons rfl <| fm_cons rfl <| List.filterMap_nil) (by repeat first | exact Ext.refl _ | assumption | refine Ext.drew ?_ | refine Ext.alloc ?_ _ | refine Ext.setCell ?_ (by simp) | refine Ext.setCell ?_ (by simp; omega) | refine Ext.trans ?_ (by assumption)) ?_
        repeat (go_big_quiet_step ((fail)))
        refine wpQuiet_nil ?_
        refine rx_op 7 (k := 1) (m' := 255) rfl rfl (by kernel_rfl) (by kernel_rfl) ?_
        go_wp2_with ((go_at_call 29; refine (IsBetween_s _ _ _ _ _ _ _).mono ?_; rintro e w5 ⟨rfl, hb5⟩))
        refine rx_on (by repeat first | exact Ext.refl _ | assumption | refine Ext.drew ?_ | refine Ext.alloc ?_ _ | refine Ext.setCell ?_ (by simp) | refine Ext.setCell ?_ (by simp; omega) | refine Ext.trans ?_ (by assumption)) ?_
        refine rx_run (run := [8]) (k := 0) (m' := 511) rfl (by kernel_rfl) (by kernel_rfl) (by kernel_rfl) (fm_cons rfl <| List.filterMap_nil) (by repeat first | exact Ext.refl _ | assumption | refine Ext.drew ?_ | refine Ext.alloc ?_ _ | refine Ext.setCell ?_ (by simp) | refine Ext.setCell ?_ (by simp; omega) | refine Ext.trans ?_ (by assumption)) ?_
        repeat (go_big_quiet_step ((fail)))
        refine wpQuiet_nil ?_
        refine rx_end (by kernel_rfl) ?_
        go_wp2
        go_ret
        exact ⟨ret_b (by rw [Hd.out]), hx.trans (by repeat first | exact Ext.refl _ | assumption | refine Ext.drew ?_ | refine Ext.alloc ?_ _ | refine Ext.setCell ?_ (by simp) | refine Ext.setCell ?_ (by simp; omega) | refine Ext.trans ?_ (by assumption))⟩
  · go_enter Try.func44, Try.ntmps44
    go_wp2_with fail
    refine (DegreeOf_s A B c d ns ls _ _ (h.ext (by repeat first | exact Ext.refl _ | assumption | refine Ext.drew ?_ | refine Ext.alloc ?_ _ | refine Ext.setCell ?_ (by simp) | refine Ext.setCell ?_ (by simp; omega) | refine Ext.trans ?_ (by assumption)))).mono ?_
    rintro e w1 ⟨rfl, hb⟩
    have hx : Ext w w1 := (by repeat first | exact Ext.refl _ | assumption | refine Ext.drew ?_ | refine Ext.alloc ?_ _ | refine Ext.setCell ?_ (by simp) | refine Ext.setCell ?_ (by simp; omega) | refine Ext.trans ?_ (by assumption))
    have hs : straight ns ls k = false := by simp [straight, hd]
    have hd' : (degOf ns ls k != 2) = true := bne_iff_ne.2 hd
    have Hs := Lib.hid hs
    clear hs
    go_wp2
    go_ret
    exact ⟨ret_b (by rw [Hs.out]), hx⟩
end Go.Proofs.Ytfhemddonahjgaa

namespace Go.Proofs.Ytfhemddonahjgaa
open Go.RowKit Go.Sort Go.BigFrame

theorem straight_ok {ns ls : List P2} {k : Int} (h : straight ns ls k = true) : WOk ns ls := by
  simp only [straight, Bool.and_eq_true, decide_eq_true_eq] at h
  exact (str_facts h.1).1
def vStraightNodes (ns ls : List P2) : List Int := flt (fun i => straight ns ls (i : Nat)) ns.length
theorem vStraightNodes_len (ns ls : List P2) : (vStraightNodes ns ls).length ≤ 1000 := by
  unfold vStraightNodes
  by_cases h : ∃ i : Nat, straight ns ls i = true
  · obtain ⟨i, hi⟩ := h
    have := (straight_ok hi).hi
    have := flt_len (fun i => straight ns ls (i : Nat)) ns.length
    omega
  · rw [flt_none (fun i _ => by rw [Bool.eq_false_iff]; exact fun e => h ⟨i, e⟩)]
    simp

set_option maxRecDepth 100000 in
set_option maxHeartbeats 2000000 in
theorem StraightNodes_i (A B : Option Addr) (c d : Nat) (ns ls : List P2) (w : World) (h : Wn w A c B d ns ls) :
    Calls Try.prog 51 #[.agg #[.slice A ns.length c, .slice B ls.length d]] w fun e w' => ∃ v, e = .returned v ∧ OwI w' w.heap.size v (vStraightNodes ns ls) ∧ Ext w w' := by
  have hnl := h.hl
  have HV : Hid (vStraightNodes ns ls = flt (fun i => straight ns ls (i : Nat)) ns.length) := Lib.hid rfl
  have HP : Hid (∀ j : Nat, (fun i : Nat => straight ns ls (i : Nat)) j = straight ns ls j) := Lib.hid (fun _ => rfl)
  generalize (fun i : Nat => straight ns ls (i : Nat)) = P at *
  go_enter Try.func51, Try.ntmps51
  go_wp2_with fail
  have k0 : (w.alloc (.cells #[.slice A ns.length c, .slice B ls.length d] 32)).cell? ⟨w.heap.size, 0, none⟩ = some (.slice A ns.length c) := by go_simp
  have k1 : (w.alloc (.cells #[.slice A ns.length c, .slice B ls.length d] 32)).cell? ⟨w.heap.size, 1, none⟩ = some (.slice B ls.length d) := by go_simp
  have hx : Ext w (w.alloc (.cells #[.slice A ns.length c, .slice B ls.length d] 32)) := (by repeat first | exact Ext.refl _ | assumption | refine Ext.drew ?_ | refine Ext.alloc ?_ _ | refine Ext.setCell ?_ (by simp) | refine Ext.setCell ?_ (by simp; omega) | refine Ext.trans ?_ (by assumption))
  have hsz1 : w.heap.size + 1 = (w.alloc (.cells #[.slice A ns.length c, .slice B ls.length d] 32)).heap.size := by simp
  generalize (w.alloc (.cells #[.slice A ns.length c, .slice B ls.length d] 32)) = w1 at *
  (try rw [hsz1])
  go_loopw [3, 4, 8] (fun v _ i wr => ∃ j : Nat, j ≤ ns.length ∧ i = .int .i64 j ∧ OzI wr w.heap.size w1.heap.size v (flt P j) ∧ Ext w1 wr) (fun _ _ i _ => ns.length - (intOf i).toNat)
  case atStart => exact ⟨0, by omega, rfl, .of (OwI.nil _ _), Ext.refl _⟩
  case round =>
    obtain ⟨j, hj, rfl, hv, hxr⟩ := hrel
    obtain ⟨wo, rfl⟩ : ∃ x : World, x = wr := ⟨_, rfl⟩
    have hx0 := hx.trans hxr
    have k0 := hxr.lit k0
    have k1 := hxr.lit k1
    by_cases hlt : j < ns.length
    · go_wp2_with fail
      refine (IsStraightNode_i A B c d ns ls _ _ (h.ext hx0)).mono ?_
      rintro e w3 ⟨rfl, hb⟩
      have hxr := hxr.trans hb
      have hv := hv.ext hb
      clear hb
      by_cases hs : straight ns ls j = true
      · have Hs := Lib.hid (flt_yes (p := P) (j := j) (by rw [HP.out]; exact hs))
        rw [hs]
        have hsz := hxr.size
        have hln := flt_len P j
        go_wp2_with (at_builtin; refine az_int _ _ rfl rfl rfl (hv.ext ((Ext.refl w3).alloc _)) (g := w3.heap.size) (y := j) (by first | rfl | simp) (by go_simp) (by omega) (by simp; omega) ?_)
        intro v' w' h1 h3
        go_wp2
        go_roundw
        case rel => exact ⟨j + 1, by omega, by go_num, by rw [Hs.out]; exact h1, h3 _ (hxr.trans (by repeat first | exact Ext.refl _ | assumption | refine Ext.drew ?_ | refine Ext.alloc ?_ _ | refine Ext.setCell ?_ (by simp) | refine Ext.setCell ?_ (by simp; omega) | refine Ext.trans ?_ (by assumption))) (Nat.le_refl _)⟩
        case measure => first | (simp [intOf]; done) | (simp [intOf]; omega)
      · have hs' := eq_false_of_ne_true hs
        have Hs := Lib.hid (flt_no (p := P) (j := j) (by rw [HP.out]; exact hs'))
        rw [hs']
        go_wp2
        go_roundw
        case rel => exact ⟨j + 1, by omega, by go_num, by rw [Hs.out]; exact hv, hxr⟩
        case measure => first | (simp [intOf]; done) | (simp [intOf]; omega)
    · obtain rfl : j = ns.length := by omega
      go_wp2
      go_ret
      exact ⟨_, rfl, by rw [HV.out]; exact hv.own (by omega), hx0⟩

set_option maxRecDepth 100000 in
set_option maxHeartbeats 2000000 in
theorem StraightNodes_s (A B : Option Addr) (c d : Nat) (ns ls : List P2) (w : World) (h : Wn w A c B d ns ls) :
    Calls Try.prog 50 #[.agg #[.slice A ns.length c, .slice B ls.length d]] w fun e w' => ∃ v, e = .returned v ∧ OwI w' w.heap.size v (vStraightNodes ns ls) ∧ Ext w w' := by
  have hnl := h.hl
  have HV : Hid (vStraightNodes ns ls = flt (fun i => straight ns ls (i : Nat)) ns.length) := Lib.hid rfl
  have HP : Hid (∀ j : Nat, (fun i : Nat => straight ns ls (i : Nat)) j = straight ns ls j) := Lib.hid (fun _ => rfl)
  generalize (fun i : Nat => straight ns ls (i : Nat)) = P at *
  go_enter Try.func50, Try.ntmps50
  go_wp2_with fail
  have k0 : (w.alloc (.cells #[.slice A ns.length c, .slice B ls.length d] 32)).cell? ⟨w.heap.size, 0, none⟩ = some (.slice A ns.length c) := by go_simp
  have k1 : (w.alloc (.cells #[.slice A ns.length c, .slice B ls.length d] 32)).cell? ⟨w.heap.size, 1, none⟩ = some (.slice B ls.length d) := by go_simp
  have hx : Ext w (w.alloc (.cells #[.slice A ns.length c, .slice B ls.length d] 32)) := (by repeat first | exact Ext.refl _ | assumption | refine Ext.drew ?_ | refine Ext.alloc ?_ _ | refine Ext.setCell ?_ (by simp) | refine Ext.setCell ?_ (by simp; omega) | refine Ext.trans ?_ (by assumption))
  have hsz1 : w.heap.size + 1 = (w.alloc (.cells #[.slice A ns.length c, .slice B ls.length d] 32)).heap.size := by simp
  generalize (w.alloc (.cells #[.slice A ns.length c, .slice B ls.length d] 32)) = w1 at *
  (try rw [hsz1])
  have hv0 : OzI (w1.alloc (.cells #[] 3)) w.heap.size w1.heap.size (.slice (some ⟨w1.heap.size, 0, none⟩) 0 0) (flt P 0) := OzI.zero _ (by omega) rfl
  have hx2 : Ext w1 (w1.alloc (.cells #[] 3)) := (by repeat first | exact Ext.refl _ | assumption | refine Ext.drew ?_ | refine Ext.alloc ?_ _ | refine Ext.setCell ?_ (by simp) | refine Ext.setCell ?_ (by simp; omega) | refine Ext.trans ?_ (by assumption))
  generalize (w1.alloc (.cells #[] 3)) = w2 at *
  go_loopw [3, 4] (fun v i wr => ∃ j : Nat, j ≤ ns.length ∧ i = .int .i64 j ∧ OzI wr w.heap.size w1.heap.size v (flt P j) ∧ Ext w1 wr) (fun _ i _ => ns.length - (intOf i).toNat)
  case atStart => exact ⟨0, by omega, rfl, hv0, hx2⟩
  case round =>
    clear hv0
    obtain ⟨j, hj, rfl, hv, hxr⟩ := hrel
    obtain ⟨wo, rfl⟩ : ∃ x : World, x = wr := ⟨_, rfl⟩
    have hx0 := hx.trans hxr
    have k0 := hxr.lit k0
    have k1 := hxr.lit k1
    by_cases hlt : j < ns.length
    · go_wp2_with fail
      refine (IsStraightNode_s A B c d ns ls _ _ (h.ext hx0)).mono ?_
      rintro e w3 ⟨rfl, hb⟩
      have hxr := hxr.trans hb
      have hv := hv.ext hb
      clear hb
      by_cases hs : straight ns ls j = true
      · have Hs := Lib.hid (flt_yes (p := P) (j := j) (by rw [HP.out]; exact hs))
        rw [hs]
        have hsz := hxr.size
        have hln := flt_len P j
        go_wp2_with (at_builtin; refine az_int _ _ rfl rfl rfl (hv.ext ((Ext.refl w3).alloc _)) (g := w3.heap.size) (y := j) (by first | rfl | simp) (by go_simp) (by omega) (by simp; omega) ?_)
        intro v' w' h1 h3
        go_wp2
        go_roundw
        case rel => exact ⟨j + 1, by omega, by go_num, by rw [Hs.out]; exact h1, h3 _ (hxr.trans (by repeat first | exact Ext.refl _ | assumption | refine Ext.drew ?_ | refine Ext.alloc ?_ _ | refine Ext.setCell ?_ (by simp) | refine Ext.setCell ?_ (by simp; omega) | refine Ext.trans ?_ (by assumption))) (Nat.le_refl _)⟩
        case measure => first | (simp [intOf]; done) | (simp [intOf]; omega)
      · have hs' := eq_false_of_ne_true hs
        have Hs := Lib.hid (flt_no (p := P) (j := j) (by rw [HP.out]; exact hs'))
        rw [hs']
        go_wp2
        go_roundw
        case rel => exact ⟨j + 1, by omega, by go_num, by rw [Hs.out]; exact hv, hxr⟩
        case measure => first | (simp [intOf]; done) | (simp [intOf]; omega)
    · obtain rfl : j = ns.length := by omega
      go_wp2
      go_ret
      exact ⟨_, rfl, by rw [HV.out]; exact hv.own (by omega), hx0⟩

def vEndNodes (ns ls : List P2) : List Int := if wok ns ls = true then flt (fun i => decide (degOf ns ls (i : Nat) = 1)) ns.length else []
theorem vEndNodes_len (ns ls : List P2) : (vEndNodes ns ls).length ≤ 1000 := by
  unfold vEndNodes
  split
  · rename_i h
    have := (wok_iff.1 h).hi
    have := flt_len (fun i => decide (degOf ns ls (i : Nat) = 1)) ns.length
    omega
  · simp
set_option maxRecDepth 100000 in
set_option maxHeartbeats 2000000 in
theorem EndNodes_i (A B : Option Addr) (c d : Nat) (ns ls : List P2) (w : World) (h : Wn w A c B d ns ls) :
    Calls Try.prog 55 #[.agg #[.slice A ns.length c, .slice B ls.length d]] w fun e w' => ∃ v, e = .returned v ∧ OwI w' w.heap.size v (vEndNodes ns ls) ∧ Ext w w' := by
  have hnl := h.hl
  have HV : Hid (vEndNodes ns ls = if wok ns ls = true then flt (fun i => decide (degOf ns ls (i : Nat) = 1)) ns.length else []) := Lib.hid rfl
  have HP : Hid (∀ j : Nat, (fun i : Nat => decide (degOf ns ls (i : Nat) = 1)) j = decide (degOf ns ls j = 1)) := Lib.hid (fun _ => rfl)
  generalize (fun i : Nat => decide (degOf ns ls (i : Nat) = 1)) = P at *
  by_cases hw : wok ns ls = true
  · rw [if_pos hw] at HV
    go_enter Try.func55, Try.ntmps55
    go_wp2_with fail
    have k0 : (w.alloc (.cells #[.slice A ns.length c, .slice B ls.length d] 32)).cell? ⟨w.heap.size, 0, none⟩ = some (.slice A ns.length c) := by go_simp
    have k1 : (w.alloc (.cells #[.slice A ns.length c, .slice B ls.length d] 32)).cell? ⟨w.heap.size, 1, none⟩ = some (.slice B ls.length d) := by go_simp
    have hx : Ext w (w.alloc (.cells #[.slice A ns.length c, .slice B ls.length d] 32)) := (by repeat first | exact Ext.refl _ | assumption | refine Ext.drew ?_ | refine Ext.alloc ?_ _ | refine Ext.setCell ?_ (by simp) | refine Ext.setCell ?_ (by simp; omega) | refine Ext.trans ?_ (by assumption))
    have hsz1 : w.heap.size + 1 = (w.alloc (.cells #[.slice A ns.length c, .slice B ls.length d] 32)).heap.size := by simp
    generalize (w.alloc (.cells #[.slice A ns.length c, .slice B ls.length d] 32)) = w0 at *
    (try rw [hsz1])
    refine (WindowOk_i' (h.ext hx)).mono ?_
    rintro e w1 ⟨rfl, hb⟩
    have k0 := hb.lit k0
    have k1 := hb.lit k1
    have hx := hx.trans hb
    clear hb
    rw [hw]
    go_wp2_with fail
    go_loopw [3, 4, 11] (fun v _ i wr => ∃ j : Nat, j ≤ ns.length ∧ i = .int .i64 j ∧ OzI wr w.heap.size w1.heap.size v (flt P j) ∧ Ext w1 wr) (fun _ _ i _ => ns.length - (intOf i).toNat)
    case atStart => exact ⟨0, by omega, rfl, .of (OwI.nil _ _), Ext.refl _⟩
    case round =>
      obtain ⟨j, hj, rfl, hv, hxr⟩ := hrel
      obtain ⟨wo, rfl⟩ : ∃ x : World, x = wr := ⟨_, rfl⟩
      have hx0 := hx.trans hxr
      have k0 := hxr.lit k0
      have k1 := hxr.lit k1
      by_cases hlt : j < ns.length
      · go_wp2_with fail
        refine (DegreeOf_i A B c d ns ls _ _ (h.ext hx0)).mono ?_
        rintro e w3 ⟨rfl, hb⟩
        have hxr := hxr.trans hb
        have hv := hv.ext hb
        clear hb
        by_cases hs : degOf ns ls j = 1
        · have Hs := Lib.hid (flt_yes (p := P) (j := j) (by rw [HP.out]; exact decide_eq_true hs))
          rw [hs]
          have hsz := hxr.size
          have hln := flt_len P j
          go_wp2_with (at_builtin; refine az_int _ _ rfl rfl rfl (hv.ext ((Ext.refl w3).alloc _)) (g := w3.heap.size) (y := j) (by first | rfl | simp) (by go_simp) (by omega) (by simp; omega) ?_)
          intro v' w' h1 h3
          go_wp2
          go_roundw
          case rel => exact ⟨j + 1, by omega, by go_num, by rw [Hs.out]; exact h1, h3 _ (hxr.trans (by repeat first | exact Ext.refl _ | assumption | refine Ext.drew ?_ | refine Ext.alloc ?_ _ | refine Ext.setCell ?_ (by simp) | refine Ext.setCell ?_ (by simp; omega) | refine Ext.trans ?_ (by assumption))) (Nat.le_refl _)⟩
          case measure => first | (simp [intOf]; done) | (simp [intOf]; omega)
        · have Hs := Lib.hid (flt_no (p := P) (j := j) (by rw [HP.out]; exact decide_eq_false hs))
          have hs' : (degOf ns ls j == 1) = false := beq_eq_false_iff_ne.2 hs
          go_wp2
          go_roundw
          case rel => exact ⟨j + 1, by omega, by go_num, by rw [Hs.out]; exact hv, hxr⟩
          case measure => first | (simp [intOf]; done) | (simp [intOf]; omega)
      · obtain rfl : j = ns.length := by omega
        go_wp2
        go_ret
        exact ⟨_, rfl, by rw [HV.out]; exact hv.own hx.size, hx0⟩
  · rw [if_neg hw] at HV
    have hw' := eq_false_of_ne_true hw
    go_enter Try.func55, Try.ntmps55
    go_wp2_with fail
    refine (WindowOk_i' (h.ext (by repeat first | exact Ext.refl _ | assumption | refine Ext.drew ?_ | refine Ext.alloc ?_ _ | refine Ext.setCell ?_ (by simp) | refine Ext.setCell ?_ (by simp; omega) | refine Ext.trans ?_ (by assumption)))).mono ?_
    rintro e w1 ⟨rfl, hb⟩
    rw [hw']
    go_wp2
    go_ret
    exact ⟨_, rfl, by rw [HV.out]; exact OwI.nil _ _, (by repeat first | exact Ext.refl _ | assumption | refine Ext.drew ?_ | refine Ext.alloc ?_ _ | refine Ext.setCell ?_ (by simp) | refine Ext.setCell ?_ (by simp; omega) | refine Ext.trans ?_ (by assumption))⟩
end Go.Proofs.Ytfhemddonahjgaa
