import Derived.Test.YtpainmnekgnpeaaB5
namespace Go.Proofs.Ytpainmnekgnpeaa
open Go.RowKit Go.Sort Go.BigFrame

def hasN (ns ls : List P2) (k : Int) : Bool := wok ns ls && wi k 0 (ns.length - 1)
theorem hasN_ok {ns ls : List P2} {k : Int} (h : hasN ns ls k = true) : WOk ns ls ∧ ∃ i : Nat, k = i ∧ i < ns.length := by
  simp only [hasN, wi, Bool.and_eq_true, decide_eq_true_eq] at h
  exact ⟨wok_iff.1 h.1, k.toNat, by omega, by omega⟩
def atL (l : P2) (k : Int) : Bool := decide (l.1 = k) || decide (l.2 = k)
/-- the leads at node k, of the first j -/
def lat (ls : List P2) (k : Int) (j : Nat) : List Int := ((List.range j).filter (fun i => atL (gp ls (i : Nat)) k)).map (fun i : Nat => (i : Int))
theorem lat_succ (ls : List P2) (k : Int) (j : Nat) : lat ls k (j + 1) = if atL (gp ls j) k = true then lat ls k j ++ [(j : Int)] else lat ls k j := by
  unfold lat
  rw [List.range_succ, List.filter_append]
  split
  · rename_i h; simp [h]
  · rename_i h; simp [h]
theorem lat_len (ls : List P2) (k : Int) (j : Nat) : (lat ls k j).length ≤ j := by
  unfold lat
  rw [List.length_map]
  have := List.length_filter_le (fun i => atL (gp ls (i : Nat)) k) (List.range j)
  rwa [List.length_range] at this
def leadsAt (ns ls : List P2) (k : Int) : List Int := if hasN ns ls k = true then lat ls k ls.length else []
theorem leadsAt_len (ns ls : List P2) (k : Int) : (leadsAt ns ls k).length ≤ 20 := by
  unfold leadsAt
  split
  · rename_i h
    have := (hasN_ok h).1.le
    have := lat_len ls k ls.length
    omega
  · simp
def degOf (ns ls : List P2) (k : Int) : Int := if hasN ns ls k = true then ((leadsAt ns ls k).length : Nat) else -1
def oend (l : P2) (k : Int) : Int := if k = l.1 then l.2 else if k = l.2 then l.1 else -1

set_option maxHeartbeats 1000000 in
theorem hasNode_c (A B : Option Addr) (c d : Nat) (ns ls : List P2) (k : Int) (w : World) (h : Wn w A c B d ns ls) :
    Calls Try.prog 75 #[.agg #[.slice A ns.length c, .slice B ls.length d], .int .i64 k] w fun e w' => e = .returned (.bool (hasN ns ls k)) ∧ Ext w w' := by
  have hl := h.hl
  by_cases hw : wok ns ls = true
  · go_enter Try.func75, Try.ntmps75
    go_wp2_with fail
    refine (WindowOk_i' (h.ext (by repeat first | exact Ext.refl _ | assumption | refine Ext.drew ?_ | refine Ext.alloc ?_ _ | refine Ext.setCell ?_ (by simp) | refine Ext.setCell ?_ (by simp; omega) | refine Ext.trans ?_ (by assumption)))).mono ?_
    rintro e w1 ⟨rfl, hb⟩
    have k0 := hb.lit (b := w.heap.size) (o := 0) (v := .slice A ns.length c) (by go_simp)
    have hx : Ext w w1 := (by repeat first | exact Ext.refl _ | assumption | refine Ext.drew ?_ | refine Ext.alloc ?_ _ | refine Ext.setCell ?_ (by simp) | refine Ext.setCell ?_ (by simp; omega) | refine Ext.trans ?_ (by assumption))
    rw [hw]
    clear hb
    go_wp2_with fail
    refine (within_c _ _ _ _).mono ?_
    rintro e w2 ⟨rfl, rfl⟩
    go_wp2
    all_goals
      go_ret
      refine ⟨ret_b ?_, hx⟩
      simp_all [hasN]
  · have hw := eq_false_of_ne_true hw
    go_enter Try.func75, Try.ntmps75
    go_wp2_with fail
    refine (WindowOk_i' (h.ext (by repeat first | exact Ext.refl _ | assumption | refine Ext.drew ?_ | refine Ext.alloc ?_ _ | refine Ext.setCell ?_ (by simp) | refine Ext.setCell ?_ (by simp; omega) | refine Ext.trans ?_ (by assumption)))).mono ?_
    rintro e w1 ⟨rfl, hb⟩
    rw [hw]
    go_wp2
    go_ret
    exact ⟨ret_b (by rw [hasN, hw]; rfl), (by repeat first | exact Ext.refl _ | assumption | refine Ext.drew ?_ | refine Ext.alloc ?_ _ | refine Ext.setCell ?_ (by simp) | refine Ext.setCell ?_ (by simp; omega) | refine Ext.trans ?_ (by assumption))⟩

set_option maxHeartbeats 1000000 in
theorem OtherEnd_i (p q k : Int) (w : World) : Calls Try.prog 106 #[.agg #[.int .i64 p, .int .i64 q], .int .i64 k] w fun e w' => e = .returned (.int .i64 (oend (p, q) k)) ∧ Ext w w' := by
  unfold oend
  by_cases h1 : k = p
  · rw [if_pos h1]
    go_enter Try.func106, Try.ntmps106
    go_wp2
    go_ret
    exact ⟨rfl, (by repeat first | exact Ext.refl _ | assumption | refine Ext.drew ?_ | refine Ext.alloc ?_ _ | refine Ext.setCell ?_ (by simp) | refine Ext.setCell ?_ (by simp; omega) | refine Ext.trans ?_ (by assumption))⟩
  · rw [if_neg h1]
    by_cases h2 : k = q
    · rw [if_pos h2]
      go_enter Try.func106, Try.ntmps106
      go_wp2
      go_ret
      exact ⟨rfl, (by repeat first | exact Ext.refl _ | assumption | refine Ext.drew ?_ | refine Ext.alloc ?_ _ | refine Ext.setCell ?_ (by simp) | refine Ext.setCell ?_ (by simp; omega) | refine Ext.trans ?_ (by assumption))⟩
    · rw [if_neg h2]
      go_enter Try.func106, Try.ntmps106
      go_wp2
      go_ret
      exact ⟨rfl, (by repeat first | exact Ext.refl _ | assumption | refine Ext.drew ?_ | refine Ext.alloc ?_ _ | refine Ext.setCell ?_ (by simp) | refine Ext.setCell ?_ (by simp; omega) | refine Ext.trans ?_ (by assumption))⟩
set_option maxHeartbeats 1000000 in
theorem OtherEnd_s (p q k : Int) (w : World) : Calls Try.prog 61 #[.agg #[.int .i64 p, .int .i64 q], .int .i64 k] w fun e w' => e = .returned (.int .i64 (oend (p, q) k)) ∧ Ext w w' := by
  unfold oend
  by_cases h1 : k = p
  · rw [if_pos h1]
    go_enter Try.func61, Try.ntmps61
    go_wp2
    go_ret
    exact ⟨rfl, (by repeat first | exact Ext.refl _ | assumption | refine Ext.drew ?_ | refine Ext.alloc ?_ _ | refine Ext.setCell ?_ (by simp) | refine Ext.setCell ?_ (by simp; omega) | refine Ext.trans ?_ (by assumption))⟩
  · rw [if_neg h1]
    by_cases h2 : k = q
    · rw [if_pos h2]
      go_enter Try.func61, Try.ntmps61
      go_wp2
      go_ret
      exact ⟨rfl, (by repeat first | exact Ext.refl _ | assumption | refine Ext.drew ?_ | refine Ext.alloc ?_ _ | refine Ext.setCell ?_ (by simp) | refine Ext.setCell ?_ (by simp; omega) | refine Ext.trans ?_ (by assumption))⟩
    · rw [if_neg h2]
      go_enter Try.func61, Try.ntmps61
      go_wp2
      go_ret
      exact ⟨rfl, (by repeat first | exact Ext.refl _ | assumption | refine Ext.drew ?_ | refine Ext.alloc ?_ _ | refine Ext.setCell ?_ (by simp) | refine Ext.setCell ?_ (by simp; omega) | refine Ext.trans ?_ (by assumption))⟩

set_option maxRecDepth 100000 in
set_option maxHeartbeats 2000000 in
theorem LeadsAt_i (A B : Option Addr) (c d : Nat) (ns ls : List P2) (k : Int) (w : World) (h : Wn w A c B d ns ls) :
    Calls Try.prog 105 #[.agg #[.slice A ns.length c, .slice B ls.length d], .int .i64 k] w fun e w' => ∃ v, e = .returned v ∧ OwI w' w.heap.size v (leadsAt ns ls k) ∧ Ext w w' := by
  by_cases hw : hasN ns ls k = true
  · have hm := (hasN_ok hw).1.le
    go_enter Try.func105, Try.ntmps105
    go_wp2_with fail
    refine (hasNode_c A B c d ns ls k _ (h.ext (by repeat first | exact Ext.refl _ | assumption | refine Ext.drew ?_ | refine Ext.alloc ?_ _ | refine Ext.setCell ?_ (by simp) | refine Ext.setCell ?_ (by simp; omega) | refine Ext.trans ?_ (by assumption)))).mono ?_
    rintro e w1 ⟨rfl, hb⟩
    have k1 := hb.lit (b := w.heap.size) (o := 1) (v := .slice B ls.length d) (by go_simp)
    have hx : Ext w w1 := (by repeat first | exact Ext.refl _ | assumption | refine Ext.drew ?_ | refine Ext.alloc ?_ _ | refine Ext.setCell ?_ (by simp) | refine Ext.setCell ?_ (by simp; omega) | refine Ext.trans ?_ (by assumption))
    rw [hw]
    clear hb
    go_wp2_with fail
    go_loopw [5, 15] (fun v i wr => ∃ j : Nat, j ≤ ls.length ∧ i = .int .i64 j ∧ OwI wr w1.heap.size v (lat ls k j) ∧ Ext w1 wr) (fun _ i _ => ls.length - (intOf i).toNat)
    case atStart => exact ⟨0, by omega, rfl, OwI.nil _ _, Ext.refl _⟩
    case round =>
      obtain ⟨j, hj, rfl, hv, hxr⟩ := hrel
      obtain ⟨wo, rfl⟩ : ∃ x : World, x = wr := ⟨_, rfl⟩
      have hx0 := hx.trans hxr
      have k1 := hxr.lit k1
      by_cases hlt : j < ls.length
      · obtain ⟨b, off, rfl, hbb, c1, c2⟩ := (h.ext hx0).g.gp_ hlt
        have hs := lat_succ ls k j
        have hln := lat_len ls k j
        have hsz := hxr.size
        unfold atL at hs
        generalize gp ls j = L at *
        obtain ⟨p, q⟩ := L
        have Hs := Lib.hid hs
        clear hs
        have hq : Ext wo (wo.alloc (.cells #[.int .i64 p, .int .i64 q] 65)) := (by repeat first | exact Ext.refl _ | assumption | refine Ext.drew ?_ | refine Ext.alloc ?_ _ | refine Ext.setCell ?_ (by simp) | refine Ext.setCell ?_ (by simp; omega) | refine Ext.trans ?_ (by assumption))
        by_cases hz : p = k ∨ q = k
        · have Hs2 : Hid (lat ls k (j + 1) = lat ls k j ++ [(j : Int)]) := Lib.hid (by rw [Hs.out, if_pos (by simpa using hz)])
          rcases hz with hz | hz
          · subst hz
            go_wp2_with (at_builtin; go_loud (refine ap_int Try.underlying22 infoI2 _ _ rfl rfl rfl ((hv.ext hq).ext ((Ext.refl _).alloc _)) (g := wo.heap.size + 1) (y := j) (by first | rfl | simp) (by go_simp) (by omega) (by simp; omega) ?_))
            intro v' w' h1 h2 h3
            go_wp2
            go_roundw
            case rel => exact ⟨j + 1, by omega, by go_num, by rw [Hs2.out]; exact h1, h3 _ (hxr.trans (by repeat first | exact Ext.refl _ | assumption | refine Ext.drew ?_ | refine Ext.alloc ?_ _ | refine Ext.setCell ?_ (by simp) | refine Ext.setCell ?_ (by simp; omega) | refine Ext.trans ?_ (by assumption))) (Nat.le_refl _)⟩
            case measure => simp [intOf]; omega
          · subst hz
            by_cases hpq : p = q
            · subst hpq
              go_wp2_with (at_builtin; go_loud (refine ap_int Try.underlying22 infoI2 _ _ rfl rfl rfl ((hv.ext hq).ext ((Ext.refl _).alloc _)) (g := wo.heap.size + 1) (y := j) (by first | rfl | simp) (by go_simp) (by omega) (by simp; omega) ?_))
              intro v' w' h1 h2 h3
              go_wp2
              go_roundw
              case rel => exact ⟨j + 1, by omega, by go_num, by rw [Hs2.out]; exact h1, h3 _ (hxr.trans (by repeat first | exact Ext.refl _ | assumption | refine Ext.drew ?_ | refine Ext.alloc ?_ _ | refine Ext.setCell ?_ (by simp) | refine Ext.setCell ?_ (by simp; omega) | refine Ext.trans ?_ (by assumption))) (Nat.le_refl _)⟩
              case measure => simp [intOf]; omega
            · skip
              go_wp2_with (at_builtin; go_loud (refine ap_int Try.underlying22 infoI2 _ _ rfl rfl rfl ((hv.ext hq).ext ((Ext.refl _).alloc _)) (g := wo.heap.size + 1) (y := j) (by first | rfl | simp) (by go_simp) (by omega) (by simp; omega) ?_))
              intro v' w' h1 h2 h3
              go_wp2
              go_roundw
              case rel => exact ⟨j + 1, by omega, by go_num, by rw [Hs2.out]; exact h1, h3 _ (hxr.trans (by repeat first | exact Ext.refl _ | assumption | refine Ext.drew ?_ | refine Ext.alloc ?_ _ | refine Ext.setCell ?_ (by simp) | refine Ext.setCell ?_ (by simp; omega) | refine Ext.trans ?_ (by assumption))) (Nat.le_refl _)⟩
              case measure => simp [intOf]; omega
        · have Hs2 : Hid (lat ls k (j + 1) = lat ls k j) := Lib.hid (by rw [Hs.out, if_neg (by simpa using hz)])
          have z1 : ¬ p = k := fun e => hz (.inl e)
          have z2 : ¬ q = k := fun e => hz (.inr e)
          have z3 : (p == k) = false := beq_eq_false_iff_ne.2 z1
          have z4 : (q == k) = false := beq_eq_false_iff_ne.2 z2
          clear hz
          go_wp2
          go_roundw
          case rel => exact ⟨j + 1, by omega, by go_num, by rw [Hs2.out]; exact hv.ext hq, hxr.trans hq⟩
          case measure => simp [intOf]; omega
      · obtain rfl : j = ls.length := by omega
        go_wp2
        go_ret
        exact ⟨_, rfl, by rw [leadsAt, if_pos hw]; exact hv.more hx.size, hx0⟩
  · have hw' := eq_false_of_ne_true hw
    go_enter Try.func105, Try.ntmps105
    go_wp2_with fail
    refine (hasNode_c A B c d ns ls k _ (h.ext (by repeat first | exact Ext.refl _ | assumption | refine Ext.drew ?_ | refine Ext.alloc ?_ _ | refine Ext.setCell ?_ (by simp) | refine Ext.setCell ?_ (by simp; omega) | refine Ext.trans ?_ (by assumption)))).mono ?_
    rintro e w1 ⟨rfl, hb⟩
    rw [hw']
    go_wp2
    go_ret
    exact ⟨_, rfl, by rw [leadsAt, if_neg hw]; exact OwI.nil _ _, (by repeat first | exact Ext.refl _ | assumption | refine Ext.drew ?_ | refine Ext.alloc ?_ _ | refine Ext.setCell ?_ (by simp) | refine Ext.setCell ?_ (by simp; omega) | refine Ext.trans ?_ (by assumption))⟩
end Go.Proofs.Ytpainmnekgnpeaa
