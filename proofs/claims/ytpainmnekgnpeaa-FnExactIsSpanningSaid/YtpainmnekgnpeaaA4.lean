import Derived.Test.YtpainmnekgnpeaaA3
namespace Go.Proofs.Ytpainmnekgnpeaa
open Go.RowKit Go.Sort Go.BigFrame

def turn0 (a b c : P2) : Int := (b.1 - a.1) * (c.2 - a.2) - (b.2 - a.2) * (c.1 - a.1)

theorem turn_bd {a b c : P2} (n1 : nok a = true) (n2 : nok b = true) (n3 : nok c = true) :
    (-400 ≤ (b.1 - a.1) * (c.2 - a.2) ∧ (b.1 - a.1) * (c.2 - a.2) ≤ 400) ∧ (-400 ≤ (b.2 - a.2) * (c.1 - a.1) ∧ (b.2 - a.2) * (c.1 - a.1) ≤ 400) := by
  have b1 := nok_bd n1
  have b2 := nok_bd n2
  have b3 := nok_bd n3
  exact ⟨mul_bd (by omega) (by omega) (by omega) (by omega), mul_bd (by omega) (by omega) (by omega) (by omega)⟩

set_option maxHeartbeats 1000000 in
theorem l02Turn_s (ax ay bx by' cx cy : Int) (n1 : nok (ax, ay) = true) (n2 : nok (bx, by') = true) (n3 : nok (cx, cy) = true) (w : World) :
    Calls Try.prog 104 #[.agg #[.int .i64 ax, .int .i64 ay], .agg #[.int .i64 bx, .int .i64 by'], .agg #[.int .i64 cx, .int .i64 cy]] w fun e w' => e = .returned (.int .i64 (turn0 (ax, ay) (bx, by') (cx, cy))) ∧ Ext w w' := by
  have b1 := nok_bd n1
  have b2 := nok_bd n2
  have b3 := nok_bd n3
  obtain ⟨m1, m2⟩ := turn_bd n1 n2 n3
  simp only at b1 b2 b3 m1 m2
  clear n1 n2 n3
  go_enter Try.func104, Try.ntmps104
  go_wp2
  go_ret
  exact ⟨ret_i rfl, (by repeat first | exact Ext.refl _ | assumption | refine Ext.drew ?_ | refine Ext.alloc ?_ _ | refine Ext.setCell ?_ (by simp) | refine Ext.setCell ?_ (by simp; omega) | refine Ext.trans ?_ (by assumption))⟩

/-- c is between a and b -/
def btw (a b c : P2) : Bool :=
  nok a && nok b && nok c && !(peq a b) && !(peq a c) && !(peq b c) && !(turn0 a b c != 0) && wi c.1 (imin a.1 b.1) (imax a.1 b.1) && wi c.2 (imin a.2 b.2) (imax a.2 b.2)

set_option maxHeartbeats 2000000 in
theorem IsBetween_i (ax ay bx by' cx cy : Int) (w : World) :
    Calls Try.prog 65 #[.agg #[.int .i64 ax, .int .i64 ay], .agg #[.int .i64 bx, .int .i64 by'], .agg #[.int .i64 cx, .int .i64 cy]] w fun e w' => e = .returned (.bool (btw (ax, ay) (bx, by') (cx, cy))) ∧ Ext w w' := by
  by_cases hn : (nok (ax, ay) && nok (bx, by') && nok (cx, cy)) = true
  · have ht : turn (ax, ay) (bx, by') (cx, cy) = turn0 (ax, ay) (bx, by') (cx, cy) := by simp only [turn, hn, if_true, turn0]
    go_enter Try.func65, Try.ntmps65
    go_wp2_with fail
    refine (nodesOk3 (ax, ay) (bx, by') (cx, cy) _ _ (heap_new _ (by simp))).mono ?_
    rintro e w1 ⟨rfl, hb⟩
    have k0 := hb.lit (b := w.heap.size) (o := 0) (v := .int .i64 ax) (by go_simp)
    have k1 := hb.lit (b := w.heap.size) (o := 1) (v := .int .i64 ay) (by go_simp)
    have k2 := hb.lit (b := w.heap.size + 1) (o := 0) (v := .int .i64 bx) (by go_simp)
    have k3 := hb.lit (b := w.heap.size + 1) (o := 1) (v := .int .i64 by') (by go_simp)
    have k4 := hb.lit (b := w.heap.size + 1 + 1) (o := 0) (v := .int .i64 cx) (by go_simp)
    have k5 := hb.lit (b := w.heap.size + 1 + 1) (o := 1) (v := .int .i64 cy) (by go_simp)
    have hx : Ext w w1 := (by repeat first | exact Ext.refl _ | assumption | refine Ext.drew ?_ | refine Ext.alloc ?_ _ | refine Ext.setCell ?_ (by simp) | refine Ext.setCell ?_ (by simp; omega) | refine Ext.trans ?_ (by assumption))
    rw [hn]
    clear hb
    go_wp2_with (first
      | (go_at_call 107; refine (TurnOf_i (ax, ay) (bx, by') (cx, cy) _).mono ?_; rintro e w2 ⟨rfl, hb2⟩; have hx2 := hx.trans hb2; have j0 := hb2.lit k0; have j1 := hb2.lit k1; have j2 := hb2.lit k2; have j3 := hb2.lit k3; have j4 := hb2.lit k4; have j5 := hb2.lit k5; clear hb2)
      | (go_at_call 98; refine (within_c _ _ _ _).mono ?_; rintro e w' ⟨rfl, rfl⟩))
    all_goals go_ret
    all_goals refine ⟨ret_b ?_, (by assumption)⟩
    all_goals simp_all [btw]
  · have hn' := eq_false_of_ne_true hn
    clear hn
    go_enter Try.func65, Try.ntmps65
    go_wp2_with fail
    refine (nodesOk3 (ax, ay) (bx, by') (cx, cy) _ _ (heap_new _ (by simp))).mono ?_
    rintro e w1 ⟨rfl, hb⟩
    have hx : Ext w w1 := (by repeat first | exact Ext.refl _ | assumption | refine Ext.drew ?_ | refine Ext.alloc ?_ _ | refine Ext.setCell ?_ (by simp) | refine Ext.setCell ?_ (by simp; omega) | refine Ext.trans ?_ (by assumption))
    rw [hn']
    clear hb
    go_wp2
    go_ret
    exact ⟨ret_b (by simp only [btw, hn', Bool.false_and]), hx⟩

set_option maxHeartbeats 2000000 in
theorem IsBetween_s (ax ay bx by' cx cy : Int) (w : World) :
    Calls Try.prog 62 #[.agg #[.int .i64 ax, .int .i64 ay], .agg #[.int .i64 bx, .int .i64 by'], .agg #[.int .i64 cx, .int .i64 cy]] w fun e w' => e = .returned (.bool (btw (ax, ay) (bx, by') (cx, cy))) ∧ Ext w w' := by
  go_enter Try.func62, Try.ntmps62
  go_wp2_with fail
  refine (NodeOk_s ax ay _).mono ?_
  rintro e w1 ⟨rfl, hb⟩
  have k0 := hb.lit (b := w.heap.size) (o := 0) (v := .int .i64 ax) (by go_simp)
  have k1 := hb.lit (b := w.heap.size) (o := 1) (v := .int .i64 ay) (by go_simp)
  have k2 := hb.lit (b := w.heap.size + 1) (o := 0) (v := .int .i64 bx) (by go_simp)
  have k3 := hb.lit (b := w.heap.size + 1) (o := 1) (v := .int .i64 by') (by go_simp)
  have k4 := hb.lit (b := w.heap.size + 1 + 1) (o := 0) (v := .int .i64 cx) (by go_simp)
  have k5 := hb.lit (b := w.heap.size + 1 + 1) (o := 1) (v := .int .i64 cy) (by go_simp)
  have hx : Ext w w1 := (by repeat first | exact Ext.refl _ | assumption | refine Ext.drew ?_ | refine Ext.alloc ?_ _ | refine Ext.setCell ?_ (by simp) | refine Ext.setCell ?_ (by simp; omega) | refine Ext.trans ?_ (by assumption))
  clear hb
  go_wp2_with (first
    | (go_at_call 94; refine (NodeOk_s _ _ _).mono ?_; rintro e w2 ⟨rfl, hb2⟩; have hx := hx.trans hb2; have k0 := hb2.lit k0; have k1 := hb2.lit k1; have k2 := hb2.lit k2; have k3 := hb2.lit k3; have k4 := hb2.lit k4; have k5 := hb2.lit k5; clear hb2)
    | (go_at_call 104; refine (l02Turn_s _ _ _ _ _ _ (by assumption) (by assumption) (by assumption) _).mono ?_; rintro e w2 ⟨rfl, hb2⟩; have hx := hx.trans hb2; have k0 := hb2.lit k0; have k1 := hb2.lit k1; have k2 := hb2.lit k2; have k3 := hb2.lit k3; have k4 := hb2.lit k4; have k5 := hb2.lit k5; clear hb2)
    | (go_at_call 67; refine (l01In_c _ _ _ _).mono ?_; rintro e w' ⟨rfl, rfl⟩))
  all_goals go_ret
  all_goals refine ⟨ret_b ?_, (by assumption)⟩
  all_goals simp_all [btw]
end Go.Proofs.Ytpainmnekgnpeaa
