import Derived.Test.YtdhmjhoaegdfjaaG8
import Derived.Test.YtdhmjhoaegdfjaaG6
import Derived.Test.YtdhmjhoaegdfjaaR2
namespace Go.Proofs.Ytdhmjhoaegdfjaa
open Go.RowKit Go.Sort Go.BigFrame

set_option maxHeartbeats 1000000 in
theorem HalfPlane_i (ax ay bx by' : Int) (w : World) :
    Calls Try.prog 137 #[.agg #[.int .i64 ax, .int .i64 ay], .agg #[.int .i64 bx, .int .i64 by']] w fun e w' => e = .returned (.int .i64 (halfp (ax, ay) (bx, by'))) ∧ Ext w w' := by
  have HH : Hid (halfp (ax, ay) (bx, by') = if ay < by' ∨ (by' = ay ∧ ax < bx) then 0 else 1) := Lib.hid rfl
  by_cases h1 : ay < by'
  · skip
    go_enter Try.func137, Try.ntmps137
    go_wp2
    go_ret
    exact ⟨ret_i (by rw [HH.out, if_pos (.inl h1)]), (by repeat first | exact Ext.refl _ | assumption | refine Ext.drew ?_ | refine Ext.alloc ?_ _ | refine Ext.setCell ?_ (by simp) | refine Ext.setCell ?_ (by simp; omega) | refine Ext.trans ?_ (by assumption))⟩
  · by_cases h2 : by' = ay
    · subst h2
      by_cases h3 : ax < bx
      · skip
        go_enter Try.func137, Try.ntmps137
        go_wp2
        go_ret
        exact ⟨ret_i (by rw [HH.out, if_pos (.inr (by simp [h3]))]), (by repeat first | exact Ext.refl _ | assumption | refine Ext.drew ?_ | refine Ext.alloc ?_ _ | refine Ext.setCell ?_ (by simp) | refine Ext.setCell ?_ (by simp; omega) | refine Ext.trans ?_ (by assumption))⟩
      · skip
        go_enter Try.func137, Try.ntmps137
        go_wp2
        go_ret
        exact ⟨ret_i (by rw [HH.out, if_neg (by omega)]), (by repeat first | exact Ext.refl _ | assumption | refine Ext.drew ?_ | refine Ext.alloc ?_ _ | refine Ext.setCell ?_ (by simp) | refine Ext.setCell ?_ (by simp; omega) | refine Ext.trans ?_ (by assumption))⟩
    · have h2' : (by' == ay) = false := beq_eq_false_iff_ne.2 h2
      go_enter Try.func137, Try.ntmps137
      go_wp2
      go_ret
      exact ⟨ret_i (by rw [HH.out, if_neg (by omega)]), (by repeat first | exact Ext.refl _ | assumption | refine Ext.drew ?_ | refine Ext.alloc ?_ _ | refine Ext.setCell ?_ (by simp) | refine Ext.setCell ?_ (by simp; omega) | refine Ext.trans ?_ (by assumption))⟩


set_option maxRecDepth 100000 in
set_option maxHeartbeats 2000000 in
theorem IsBeforeAround_i (ax ay bx by' cx cy : Int) (w : World) (n1 : nok (ax, ay) = true) (n2 : nok (bx, by') = true) (n3 : nok (cx, cy) = true) :
    Calls Try.prog 118 #[.agg #[.int .i64 ax, .int .i64 ay], .agg #[.int .i64 bx, .int .i64 by'], .agg #[.int .i64 cx, .int .i64 cy]] w fun e w' => e = .returned (.bool (bfa (ax, ay) (bx, by') (cx, cy))) ∧ Ext w w' := by
  have HB : Hid (bfa (ax, ay) (bx, by') (cx, cy) = if halfp (ax, ay) (bx, by') = halfp (ax, ay) (cx, cy) then decide (0 < turn0 (ax, ay) (bx, by') (cx, cy)) else decide (halfp (ax, ay) (bx, by') < halfp (ax, ay) (cx, cy))) := Lib.hid rfl
  have hn : (nok (ax, ay) && nok (bx, by') && nok (cx, cy)) = true := by rw [n1, n2, n3]; rfl
  have HT : Hid (turn (ax, ay) (bx, by') (cx, cy) = turn0 (ax, ay) (bx, by') (cx, cy)) := Lib.hid (turn_eq n1 n2 n3)
  go_enter Try.func118, Try.ntmps118
  go_wp2_with fail
  refine (nodesOk3 (ax, ay) (bx, by') (cx, cy) _ _ (heap_new _ (by simp))).mono ?_
  rintro e w1 ⟨rfl, hb⟩
  have k0 := hb.lit (b := w.heap.size) (o := 0) (v := .int .i64 ax) (by go_simp)
  have k1 := hb.lit (b := w.heap.size) (o := 1) (v := .int .i64 ay) (by go_simp)
  have k2 := hb.lit (b := w.heap.size + 1) (o := 0) (v := .int .i64 bx) (by go_simp)
  have k3 := hb.lit (b := w.heap.size + 1) (o := 1) (v := .int .i64 by') (by go_simp)
  have k4 := hb.lit (b := w.heap.size + 1 + 1) (o := 0) (v := .int .i64 cx) (by go_simp)
  have k5 := hb.lit (b := w.heap.size + 1 + 1) (o := 1) (v := .int .i64 cy) (by go_simp)
  have hx : Ext w w1 := (by repeat first | exact Ext.refl _ | assumption | refine Ext.drew ?_ | refine Ext.alloc ?_ _ | refine Ext.setCell ?_ (by simp) | refine Ext.setCell ?_ (by simp; omega) | refine Ext.trans ?_ (by assumption))
  clear hb
  rw [hn]
  go_wp2_with fail
  go_cut [7, 8] (fun s s' wx => s = .int .i64 (halfp (ax, ay) (bx, by')) ∧ s' = .int .i64 (halfp (ax, ay) (cx, cy)) ∧ Ext w1 wx)
  case first =>
    have d0 := cell_regrown k0
    have d1 := cell_regrown k1
    have d2 := cell_regrown k2
    have d3 := cell_regrown k3
    have d4 := cell_regrown k4
    have d5 := cell_regrown k5
    refine rx_open [(true, 0, some 15, 8), (true, 0, some 16, 16), (false, 3, some 17, 98304), (true, 0, some 18, 8), (true, 0, some 19, 32), (false, 28, some 20, 786432), (true, 39, some 7, 131072), (true, 127, some 8, 1048576)] 0 8 mixd rfl (by kernel_rfl) (by kernel_rfl) (by kernel_rfl) ?_
    refine rx_run (run := [0, 1, 3, 4]) (k := 4) (m' := 27) rfl (by kernel_rfl) (by kernel_rfl) (by kernel_rfl) (fm_cons rfl <| fm_cons rfl <| fm_cons rfl <| fm_cons rfl <| List.filterMap_nil) (by repeat first | exact Ext.refl _ | assumption | refine Ext.drew ?_ | refine Ext.alloc ?_ _ | refine Ext.setCell ?_ (by simp) | refine Ext.setCell ?_ (by simp; omega) | refine Ext.trans ?_ (by assumption)) ?_
    repeat (go_big_quiet_step ((fail)))
    refine wpQuiet_nil ?_
    refine rx_op 2 (k := 3) (m' := 31) rfl rfl (by kernel_rfl) (by kernel_rfl) ?_
    go_wp2_with ((go_at_call 137; refine (HalfPlane_i _ _ _ _ _).mono ?_; rintro e w5 ⟨rfl, hb5⟩))
    refine rx_on (by repeat first | exact Ext.refl _ | assumption | refine Ext.drew ?_ | refine Ext.alloc ?_ _ | refine Ext.setCell ?_ (by simp) | refine Ext.setCell ?_ (by simp; omega) | refine Ext.trans ?_ (by assumption)) ?_
    refine rx_op 5 (k := 2) (m' := 63) rfl rfl (by kernel_rfl) (by kernel_rfl) ?_
    go_wp2_with ((go_at_call 137; refine (HalfPlane_i _ _ _ _ _).mono ?_; rintro e w5 ⟨rfl, hb5⟩))
    refine rx_on (by repeat first | exact Ext.refl _ | assumption | refine Ext.drew ?_ | refine Ext.alloc ?_ _ | refine Ext.setCell ?_ (by simp) | refine Ext.setCell ?_ (by simp; omega) | refine Ext.trans ?_ (by assumption)) ?_
    refine rx_run (run := [6, 7]) (k := 0) (m' := 255) rfl (by kernel_rfl) (by kernel_rfl) (by kernel_rfl) (fm_cons rfl <| fm_cons rfl <| List.filterMap_nil) (by repeat first | exact Ext.refl _ | assumption | refine Ext.drew ?_ | refine Ext.alloc ?_ _ | refine Ext.setCell ?_ (by simp) | refine Ext.setCell ?_ (by simp; omega) | refine Ext.trans ?_ (by assumption)) ?_
    repeat (go_big_quiet_step ((fail)))
    refine wpQuiet_nil ?_
    refine rx_end (by kernel_rfl) ?_
    all_goals (go_wp2; go_meet; exact ⟨rfl, rfl, (by repeat first | exact Ext.refl _ | assumption | refine Ext.drew ?_ | refine Ext.alloc ?_ _ | refine Ext.setCell ?_ (by simp) | refine Ext.setCell ?_ (by simp; omega) | refine Ext.trans ?_ (by assumption))⟩)
  case rest =>
    obtain ⟨rfl, rfl, hb⟩ := hcut
    obtain ⟨w2, rfl⟩ : ∃ x : World, x = wc := ⟨_, rfl⟩
    have k0 := hb.lit k0
    have k1 := hb.lit k1
    have k2 := hb.lit k2
    have k3 := hb.lit k3
    have k4 := hb.lit k4
    have k5 := hb.lit k5
    have hx := hx.trans hb
    clear hb
    generalize halfp (ax, ay) (bx, by') = x at *
    generalize halfp (ax, ay) (cx, cy) = y at *
    by_cases hlt : x < y
    · have HB2 : Hid (bfa (ax, ay) (bx, by') (cx, cy) = true) := Lib.hid (by rw [HB.out, if_neg (by omega)]; simpa using hlt)
      clear HB
      go_wp2
      go_ret
      exact ⟨ret_b (by rw [HB2.out]), hx⟩
    · by_cases he : x = y
      · subst he
        have HB2 : Hid (bfa (ax, ay) (bx, by') (cx, cy) = decide (0 < turn0 (ax, ay) (bx, by') (cx, cy))) := Lib.hid (by rw [HB.out, if_pos rfl])
        clear HB
        go_wp2_with fail
        refine (TurnOf_i' ax ay bx by' cx cy _).mono ?_
        rw [HT.out]
        rintro e w3 ⟨rfl, hb⟩
        go_wp2
        go_ret
        exact ⟨ret_b (by rw [HB2.out]), hx.trans hb⟩
      · have HB2 : Hid (bfa (ax, ay) (bx, by') (cx, cy) = false) := Lib.hid (by rw [HB.out, if_neg he]; simpa using hlt)
        have he' : (x == y) = false := beq_eq_false_iff_ne.2 he
        clear HB
        go_wp2
        go_ret
        exact ⟨ret_b (by rw [HB2.out]), hx⟩

set_option maxRecDepth 100000 in
set_option maxHeartbeats 1000000 in
theorem dartFrom_c (A B : Option Addr) (c d : Nat) (ns ls : List P2) (k : Nat) (w : World) (h : Wn w A c B d ns ls) (hk : k < 2 * ls.length) :
    Calls Try.prog 85 #[.agg #[.slice A ns.length c, .slice B ls.length d], .int .i64 (k : Int)] w fun e w' => e = .returned (.int .i64 (dEnds ls k).1) ∧ Ext w w' := by
  have hm := h.hm
  have HE : Hid (dEnds ls k = if k % 2 = 1 then ((gp ls (k / 2 : Nat)).2, (gp ls (k / 2 : Nat)).1) else gp ls (k / 2 : Nat)) := Lib.hid rfl
  have hk2 : k / 2 < ls.length := by omega
  have hdv : ((k : Int) / 2).toNat = k / 2 := by omega
  have hdl : (k : Int) / 2 < ls.length := by omega
  have hd0 : 0 ≤ (k : Int) / 2 := by omega
  obtain ⟨b, off, rfl, hbb, c1, c2⟩ := h.g.gp_ hk2
  generalize gp ls (k / 2 : Nat) = L at *
  obtain ⟨p, q⟩ := L
  by_cases ho : k % 2 = 1
  · have hmd : ¬ (k : Int) % 2 = 0 := by omega
    have hmd' : ((k : Int) % 2 == 0) = false := beq_eq_false_iff_ne.2 hmd
    rw [if_pos ho] at HE
    clear ho
    go_enter Try.func85, Try.ntmps85
    go_wp2
    go_ret
    exact ⟨by rw [HE.out]; rfl, (by repeat first | exact Ext.refl _ | assumption | refine Ext.drew ?_ | refine Ext.alloc ?_ _ | refine Ext.setCell ?_ (by simp) | refine Ext.setCell ?_ (by simp; omega) | refine Ext.trans ?_ (by assumption))⟩
  · have hmd : (k : Int) % 2 = 0 := by omega
    rw [if_neg ho] at HE
    clear ho
    go_enter Try.func85, Try.ntmps85
    go_wp2
    go_ret
    exact ⟨by rw [HE.out]; rfl, (by repeat first | exact Ext.refl _ | assumption | refine Ext.drew ?_ | refine Ext.alloc ?_ _ | refine Ext.setCell ?_ (by simp) | refine Ext.setCell ?_ (by simp; omega) | refine Ext.trans ?_ (by assumption))⟩

theorem xor1_w (x : Nat) (h : x < 2 ^ 40) : bits .xor .i64 (x : Int) 1 = ((x ^^^ 1 : Nat) : Int) := by
  have h1 : x ^^^ 1 < 2 ^ 40 := Nat.xor_lt_two_pow h (by omega)
  show IntKind.i64.wrap ((BitVec.ofInt 64 (x : Int) ^^^ BitVec.ofInt 64 ((1 : Nat) : Int)).toNat : Int) = _
  rw [BitVec.toNat_xor, ofInt_64 x (by omega), ofInt_64 1 (by omega), IntKind.wrap_i64]
  omega
theorem xor1_div (d : Nat) : (d ^^^ 1) / 2 = d / 2 := by
  have h1 : (d ^^^ 1) / 2 ^ 1 = d / 2 ^ 1 := by rw [Nat.xor_div_two_pow]; simp
  simpa using h1
theorem xor1_mod (d : Nat) : (d ^^^ 1) % 2 = 1 - d % 2 := by
  have h1 : (d ^^^ 1) % 2 ^ 1 = (d % 2 ^ 1) ^^^ (1 % 2 ^ 1) := Nat.xor_mod_two_pow
  have h2 : d % 2 = 0 ∨ d % 2 = 1 := by omega
  rcases h2 with h2 | h2 <;> simp [h2] at h1 ⊢ <;> exact h1
theorem dEnds_xor (ls : List P2) (d : Nat) : dEnds ls (d ^^^ 1) = ((dEnds ls d).2, (dEnds ls d).1) := by
  unfold dEnds
  rw [xor1_div, xor1_mod]
  by_cases h : d % 2 = 1
  · rw [if_pos h, if_neg (by omega)]
  · rw [if_neg h, if_pos (by omega)]
end Go.Proofs.Ytdhmjhoaegdfjaa
