import Derived.Test.YtpainmnekgnpeaaA1
namespace Go.Proofs.Ytpainmnekgnpeaa
open Go.RowKit

abbrev P2 := Int × Int
theorem nodesOk3 (a b c : P2) (g : Nat) (w : World) (h : w.heap[g]? = some (.cells #[.int .i64 a.1, .int .i64 a.2, .int .i64 b.1, .int .i64 b.2, .int .i64 c.1, .int .i64 c.2] 47 (0, 0))) :
    Calls Try.prog 99 #[.slice (some ⟨g, 0, none⟩) 3 3] w fun e w' => e = .returned (.bool (nok a && nok b && nok c)) ∧ Ext w w' := by
  have hg : g < w.heap.size := by
    rcases Nat.lt_or_ge g w.heap.size with h' | h'
    · exact h'
    · rw [Array.getElem?_eq_none h'] at h; cases h
  have := nodesOk_c (some ⟨g, 0, none⟩) 3 [a, b, c] w (by simp) ⟨rfl, fun _ => ⟨g, 0, rfl, hg, fun j u hu => by
    rw [cell_of_row w g (0 + j) _ _ _ h]; simpa [pc] using hu⟩⟩
  simpa [Bool.and_assoc] using this

def turn (a b c : P2) : Int := if nok a && nok b && nok c then (b.1 - a.1) * (c.2 - a.2) - (b.2 - a.2) * (c.1 - a.1) else 0

theorem nok_bd {a : P2} (h : nok a = true) : 0 ≤ a.1 ∧ a.1 ≤ 20 ∧ 0 ≤ a.2 ∧ a.2 ≤ 20 := by
  simp [nok, wi] at h; omega
theorem mul_bd {x y : Int} (h1 : -20 ≤ x) (h2 : x ≤ 20) (h3 : -20 ≤ y) (h4 : y ≤ 20) : -400 ≤ x * y ∧ x * y ≤ 400 := by
  have := Int.mul_nonneg (show 0 ≤ 20 - x by omega) (show 0 ≤ 20 - y by omega)
  have := Int.mul_nonneg (show 0 ≤ 20 + x by omega) (show 0 ≤ 20 - y by omega)
  have := Int.mul_nonneg (show 0 ≤ 20 - x by omega) (show 0 ≤ 20 + y by omega)
  have := Int.mul_nonneg (show 0 ≤ 20 + x by omega) (show 0 ≤ 20 + y by omega)
  simp only [Int.sub_mul, Int.add_mul, Int.mul_sub, Int.mul_add] at *
  omega

set_option maxHeartbeats 1000000 in
theorem TurnOf_i (a b c : P2) (w : World) :
    Calls Try.prog 107 #[pv a, pv b, pv c] w fun e w' => e = .returned (.int .i64 (turn a b c)) ∧ Ext w w' := by
  obtain ⟨ax, ay⟩ := a
  obtain ⟨bx, by'⟩ := b
  obtain ⟨cx, cy⟩ := c
  unfold pv
  by_cases hn : (nok (ax, ay) && nok (bx, by') && nok (cx, cy)) = true
  · obtain ⟨⟨n1, n2⟩, n3⟩ : (nok (ax, ay) = true ∧ nok (bx, by') = true) ∧ nok (cx, cy) = true := by simpa using hn
    have b1 := nok_bd n1
    have b2 := nok_bd n2
    have b3 := nok_bd n3
    have m1 := mul_bd (x := bx - ax) (y := cy - ay) (by simp at *; omega) (by simp at *; omega) (by simp at *; omega) (by simp at *; omega)
    have m2 := mul_bd (x := by' - ay) (y := cx - ax) (by simp at *; omega) (by simp at *; omega) (by simp at *; omega) (by simp at *; omega)
    go_enter Try.func107, Try.ntmps107
    go_wp2_with fail
    refine (nodesOk3 (ax, ay) (bx, by') (cx, cy) _ _ (heap_new _ (by simp))).mono ?_
    rintro e w1 ⟨rfl, hb⟩
    have h1 := Ext.cell hb
    go_wp2
    go_ret
    exact ⟨ret_i (by simp [turn, n1, n2, n3]), ((((Ext.refl w).alloc _).alloc _).alloc _).alloc _ |>.trans hb⟩
  · go_enter Try.func107, Try.ntmps107
    go_wp2_with fail
    refine (nodesOk3 (ax, ay) (bx, by') (cx, cy) _ _ (heap_new _ (by simp))).mono ?_
    rintro e w1 ⟨rfl, hb⟩
    have h1 := Ext.cell hb
    have hn' := eq_false_of_ne_true hn
    rw [hn']
    go_wp2
    go_ret
    exact ⟨ret_i (by simp only [turn, hn', Bool.false_eq_true, if_false]), ((((Ext.refl w).alloc _).alloc _).alloc _).alloc _ |>.trans hb⟩
theorem TurnOf_i' (ax ay bx by' cx cy : Int) (w : World) : Calls Try.prog 107 #[.agg #[.int .i64 ax, .int .i64 ay], .agg #[.int .i64 bx, .int .i64 by'], .agg #[.int .i64 cx, .int .i64 cy]] w
    fun e w' => e = .returned (.int .i64 (turn (ax, ay) (bx, by') (cx, cy))) ∧ Ext w w' := TurnOf_i (ax, ay) (bx, by') (cx, cy) w
end Go.Proofs.Ytpainmnekgnpeaa
