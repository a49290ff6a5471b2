import Derived.Test.YtdcghlklikbfcaaQ3
namespace Go.Proofs.Ytdcghlklikbfcaa.Dt
open Go.RowKit Go.Sort Go.BigFrame

/-- the matrix at stage k; the rows below r0 and, in row r0, the columns below c0 are a stage on -/
def stg (a : Nat → Nat → Int) (k r0 c0 : Nat) : Nat → Nat → Int := fun r c => dd a (if k < r ∧ k < c ∧ (r < r0 ∨ (r = r0 ∧ c < c0)) then k + 1 else min k (min r c)) r c
def stX (a : Nat → Nat → Int) (k : Nat) : Nat → Nat → Int := fun r c => dd a (min k (min r c)) r c
theorem stX_zero (a : Nat → Nat → Int) : stX a 0 = a := by
  funext r c
  unfold stX
  rw [Nat.zero_min, dd_zero]
section
variable {a : Nat → Nat → Int} {k r c N : Nat}
theorem stg_start : stX a k r c = stg a k (k + 1) (k + 1) r c := by
  unfold stX stg
  rw [if_neg (by omega)]
theorem stg_row {r0 : Nat} (hc : c < N) : stg a k r0 N r c = stg a k (r0 + 1) (k + 1) r c := by
  unfold stg
  by_cases h : k < r ∧ k < c ∧ (r < r0 ∨ (r = r0 ∧ c < N))
  · rw [if_pos h, if_pos (by omega)]
  · rw [if_neg h, if_neg (by omega)]
theorem stg_end {c0 : Nat} (hr : r < N) : stg a k N c0 r c = stX a (k + 1) r c := by
  unfold stg stX
  by_cases h : k < r ∧ k < c ∧ (r < N ∨ (r = N ∧ c < c0))
  · rw [if_pos h, show min (k + 1) (min r c) = k + 1 by omega]
  · rw [if_neg h, show min k (min r c) = min (k + 1) (min r c) by omega]
theorem stg_set {i j : Nat} (hi : k < i) (hj : k < j) : (if r = i ∧ c = j then dd a (k + 1) i j else stg a k i j r c) = stg a k i (j + 1) r c := by
  unfold stg
  by_cases h : r = i ∧ c = j
  · rw [if_pos h, if_pos (by omega), h.1, h.2]
  · rw [if_neg h]
    by_cases h2 : k < r ∧ k < c ∧ (r < i ∨ (r = i ∧ c < j))
    · rw [if_pos h2, if_pos (by omega)]
    · rw [if_neg h2, if_neg (by omega)]
theorem stg_at {i j : Nat} (hi : k < i) (hj : k < j) : stg a k i j i j = dd a k i j := by
  unfold stg
  rw [if_neg (by omega), show min k (min i j) = k by omega]
theorem stg_kk {i j : Nat} : stg a k i j k k = dd a k k k := by
  unfold stg
  rw [if_neg (by omega), show min k (min k k) = k by omega]
theorem stg_ik {i j r : Nat} (hr : k < r) : stg a k i j r k = dd a k r k := by
  unfold stg
  rw [if_neg (by omega), show min k (min r k) = k by omega]
theorem stg_kj {i j c : Nat} (hc : k < c) : stg a k i j k c = dd a k k c := by
  unfold stg
  rw [if_neg (by omega), show min k (min k c) = k by omega]
end
theorem mul_sq {x y : Int} (h1 : -4194304 ≤ x ∧ x ≤ 4194304) (h2 : -4194304 ≤ y ∧ y ≤ 4194304) : -17592186044416 ≤ x * y ∧ x * y ≤ 17592186044416 := by
  have := Int.mul_nonneg (show 0 ≤ 4194304 - x by omega) (show 0 ≤ 4194304 - y by omega)
  have := Int.mul_nonneg (show 0 ≤ 4194304 + x by omega) (show 0 ≤ 4194304 + y by omega)
  have := Int.mul_nonneg (show 0 ≤ 4194304 - x by omega) (show 0 ≤ 4194304 + y by omega)
  have := Int.mul_nonneg (show 0 ≤ 4194304 + x by omega) (show 0 ≤ 4194304 - y by omega)
  rw [Int.sub_mul, Int.mul_sub, Int.mul_sub] at *
  grind

set_option maxRecDepth 100000 in
set_option maxHeartbeats 8000000 in
theorem l16Det_s (g c N : Nat) (rb : Nat → Nat) (a : Nat → Nat → Int) (B0 B : Nat) (w W : World) (h : Mx w B0 B (.slice (some ⟨g, 0, none⟩) N c) N N N rb a) (hN : 0 < N) (hN12 : N ≤ 12) (hL : Lap N 0 a) (hS : sumN N (fun t => a t t) ≤ 40) (hW : Ext W w) (hWB : W.heap.size ≤ B) :
    Calls Try.prog 28 #[.slice (some ⟨g, 0, none⟩) N c] w fun e w' => e = .returned (.int .i64 (prv a N)) ∧ Ext W w' := by
  have HL := Lib.hid hL
  have HS := Lib.hid hS
  have HM := Lib.hid h
  clear hL hS h
  go_enter Try.func28, Try.ntmps28
  go_wp2_with fail
  go_loopw [3, 4, 5, 6] (fun l k _ _ wr => ∃ q : Nat, q ≤ N ∧ k = .int .i64 q ∧ l = .int .i64 (prv a q) ∧ Hid (Mx wr B0 B (.slice (some ⟨g, 0, none⟩) N c) N N N rb (stX a q)) ∧ Ext W wr) (fun _ k _ _ _ => N - (intOf k).toNat)
  case atStart => exact ⟨0, by omega, rfl, rfl, Lib.hid (by rw [stX_zero]; exact HM.out), hW⟩
  case round =>
    clear hW HM
    obtain ⟨q, hq, rfl, rfl, HM, hW⟩ := hrel
    obtain ⟨w1, rfl⟩ : ∃ x : World, x = wr := ⟨_, rfl⟩
    by_cases hqN : q < N
    · have hqi : (q : Int) < N := by omega
      have hqe : ((q : Int) == (N : Int)) = false := by rw [beq_eq_false_iff_ne]; omega
      have HM := Lib.hid (HM.out.congr (M' := stg a q (q + 1) (q + 1)) (fun i j _ _ => stg_start))
      have t0 := HM.out.at_ hqN (Nat.le_refl N)
      have tc := (HM.out.cel hqN hqN).1
      rw [stg_kk] at tc
      have HD := Lib.hid (brs_piv HL.out hqN)
      have hDb := brs_small HL.out HS.out (Nat.le_refl q) (Nat.le_refl q) hqN hqN
      have hLp := brs_prv HL.out (k := q) (by omega)
      have hz : (dd a q q q == 0) = false := by rw [beq_eq_false_iff_ne]; have := HD.out; omega
      go_wp2_with fail
      clear t0 tc
      go_loopw [5, 6] (fun i _ wr => ∃ r : Nat, q + 1 ≤ r ∧ r ≤ N ∧ i = .int .i64 r ∧ Hid (Mx wr B0 B (.slice (some ⟨g, 0, none⟩) N c) N N N rb (stg a q r (q + 1))) ∧ Ext W wr) (fun i _ _ => N - (intOf i).toNat)
      case atStart => exact ⟨q + 1, Nat.le_refl _, by omega, by go_num, HM, hW⟩
      case round =>
        clear hW HM
        obtain ⟨r, hr0, hr, rfl, HM, hW⟩ := hrel
        obtain ⟨w2, rfl⟩ : ∃ x : World, x = wr := ⟨_, rfl⟩
        by_cases hrN : r < N
        · have hri : (r : Int) < N := by omega
          go_wp2_with fail
          go_loopw [6] (fun j wr => ∃ s : Nat, q + 1 ≤ s ∧ s ≤ N ∧ j = .int .i64 s ∧ Hid (Mx wr B0 B (.slice (some ⟨g, 0, none⟩) N c) N N N rb (stg a q r s)) ∧ Ext W wr) (fun j _ => N - (intOf j).toNat)
          case atStart => exact ⟨q + 1, Nat.le_refl _, by omega, by go_num, HM, hW⟩
          case round =>
            clear hW HM
            obtain ⟨s, hs0, hs, rfl, HM, hW⟩ := hrel
            obtain ⟨w3, rfl⟩ : ∃ x : World, x = wr := ⟨_, rfl⟩
            by_cases hsN : s < N
            · have hsi : (s : Int) < N := by omega
              have t0 := HM.out.at_ hqN (Nat.le_refl N)
              have t1 := HM.out.at_ hrN (Nat.le_refl N)
              have c0 := HM.out.cel hqN hqN
              have c1 := HM.out.cel hrN hsN
              have c2 := HM.out.cel hrN hqN
              have c3 := HM.out.cel hqN hsN
              rw [stg_kk] at c0
              rw [stg_at (by omega) (by omega)] at c1
              rw [stg_ik (by omega)] at c2
              rw [stg_kj (by omega)] at c3
              obtain ⟨c0, -⟩ := c0
              obtain ⟨c1, -⟩ := c1
              obtain ⟨c2, -⟩ := c2
              obtain ⟨c3, -⟩ := c3
              have b1 := mul_sq (brs_small HL.out HS.out (k := q) (i := r) (j := s) (by omega) (by omega) hrN hsN) hDb
              have b2 := mul_sq (brs_small HL.out HS.out (k := q) (i := r) (j := q) (by omega) (by omega) hrN hqN) (brs_small HL.out HS.out (k := q) (i := q) (j := s) (by omega) (by omega) hqN hsN)
              have HY := Lib.hid (brs_div HL.out hqN (i := r) (j := s) (by omega) (by omega))
              have b3 := brs_small HL.out HS.out (k := q + 1) (i := r) (j := s) (by omega) (by omega) hrN hsN
              have HSET : Hid (∀ x y, (if x = r ∧ y = s then dd a (q + 1) r s else stg a q r s x y) = stg a q r (s + 1) x y) := Lib.hid (fun x y => stg_set (by omega) (by omega))
              obtain ⟨p1, hp1⟩ : ∃ p, dd a q r s * dd a q q q = p := ⟨_, rfl⟩
              obtain ⟨p2, hp2⟩ : ∃ p, dd a q r q * dd a q q s = p := ⟨_, rfl⟩
              obtain ⟨y, hy⟩ : ∃ y, dd a (q + 1) r s = y := ⟨_, rfl⟩
              rw [hp1] at b1
              rw [hp2] at b2
              rw [hy] at b3 HSET
              have hyd : (p1 - p2).tdiv (prv a q) = y := by rw [← hp1, ← hp2, ← hy]; exact HY.out
              have hLz : (prv a q == 0) = false := by rw [beq_eq_false_iff_ne]; omega
              obtain ⟨b1l, b1u⟩ := b1
              obtain ⟨b2l, b2u⟩ := b2
              obtain ⟨b3l, b3u⟩ := b3
              clear hy HY
              have d0 := cell_regrown t0
              have d1 := cell_regrown t1
              have d2 := cell_regrown c0
              have d3 := cell_regrown c1
              have d4 := cell_regrown c2
              have d5 := cell_regrown c3
              go_upto_region 13 with fail
              refine rx_open [(true, 0, some 37, 1), (true, 0, some 38, 32), (true, 3, some 39, 412316860416), (true, 4, some 40, 549755813888), (true, 0, some 41, 64), (true, 0, some 42, 1), (true, 0, some 43, 32), (true, 96, some 44, 13194139533312), (true, 128, some 45, 17592186044416), (true, 0, some 46, 64), (true, 768, some 47, 105553116266496), (true, 1024, some 48, 140737488355328), (true, 0, some 49, 1), (true, 0, some 50, 16), (true, 12288, some 51, 1688849860263936), (true, 16384, some 52, 2251799813685248), (true, 0, some 53, 16), (true, 98304, some 54, 13510798882111488), (true, 131072, some 55, 18014398509481984), (true, 264192, some 56, 36310271995674624), (true, 0, some 57, 1), (true, 0, some 58, 32), (true, 3145728, some 59, 432345564227567616), (true, 4194304, some 60, 576460752303423488), (true, 0, some 61, 16), (true, 25165824, some 62, 3458764513820540928), (true, 33554432, some 63, 4611686018427387904), (true, 0, some 64, 1), (true, 0, some 65, 16), (true, 402653184, some 66, 55340232221128654848), (true, 536870912, some 67, 73786976294838206464), (true, 0, some 68, 64), (true, 3221225472, some 69, 442721857769029238784), (true, 4294967296, some 70, 590295810358705651712), (true, 8657043456, some 71, 1189814992754266079232), (true, 17180393472, some 72, 2361255299028860534784), (true, 0, some 73, 8), (true, 103079215104, some 74, 14167099448608935641088), (true, 274877906943, some 75, 3298534883328), (false, 549755813887, none, 56668397794435742564352)] 549755813888 40 mixd rfl (by kernel_rfl) (by kernel_rfl) (by kernel_rfl) ?_
              have hxc := Ext.drew (Ext.refl w3)
              obtain ⟨wz, hwz⟩ : ∃ x : World, x = w3.drew := ⟨_, rfl⟩
              rw [← hwz]
              rw [← hwz] at hxc
              clear hwz
              have e1 := ((HM.out.ext hxc).cel hrN hsN).1
              have e2 := ((HM.out.ext hxc).cel hrN hsN).2
              refine rx_run (run := [0, 1, 2, 3, 4, 5, 6, 7, 8, 9, 10, 11, 12, 13, 14, 15, 16, 17, 18, 19, 20, 21, 22, 23, 24, 25, 26, 27, 28, 29, 30, 31, 32, 33, 34, 35, 36, 37, 38]) (k := 1) (m' := 549755813887) rfl (by kernel_rfl) (by kernel_rfl) (by kernel_rfl) (fm_cons rfl <| fm_cons rfl <| fm_cons rfl <| fm_cons rfl <| fm_cons rfl <| fm_cons rfl <| fm_cons rfl <| fm_cons rfl <| fm_cons rfl <| fm_cons rfl <| fm_cons rfl <| fm_cons rfl <| fm_cons rfl <| fm_cons rfl <| fm_cons rfl <| fm_cons rfl <| fm_cons rfl <| fm_cons rfl <| fm_cons rfl <| fm_cons rfl <| fm_cons rfl <| fm_cons rfl <| fm_cons rfl <| fm_cons rfl <| fm_cons rfl <| fm_cons rfl <| fm_cons rfl <| fm_cons rfl <| fm_cons rfl <| fm_cons rfl <| fm_cons rfl <| fm_cons rfl <| fm_cons rfl <| fm_cons rfl <| fm_cons rfl <| fm_cons rfl <| fm_cons rfl <| fm_cons rfl <| fm_cons rfl <| List.filterMap_nil) (by repeat first | exact Ext.refl _ | assumption | refine Ext.drew ?_ | refine Ext.alloc ?_ _ | refine Ext.setCell ?_ (by simp) | refine Ext.setCell ?_ (by simp; omega) | refine Ext.trans ?_ (by assumption)) ?_
              repeat (go_big_quiet_step ((fail)))
              refine wpQuiet_nil ?_
              refine rx_op 39 (k := 0) (m' := 1099511627775) rfl rfl (by kernel_rfl) (by kernel_rfl) ?_
              go_wp2
              refine rx_lst (by decide) ?_
              refine rx_end (by kernel_rfl) ?_
              have HSN := Lib.hid (((HM.out.ext hxc).set_ (j := s) hrN y).congr (fun x z _ _ => HSET.out x z))
              have hrB := (World.ownsRow.lt (HM.out.rw_ r hrN) (rb r) rfl).1
              have hxx := Ext.setCell (p := ⟨rb r, s, none⟩) (v := .int .i64 y) (hW.trans hxc) (by show W.heap.size ≤ rb r; omega)
              go_wp2
              go_roundw
              case rel => first | exact ⟨s + 1, by omega, by omega, by go_num, HSN, hxx⟩ | ((repeat apply Exists.intro); exact ⟨⟨s + 1, by omega, by omega, by go_num, HSN, hxx⟩, rfl⟩)
              case measure => first | (simp [intOf]; done) | (simp [intOf]; omega)
            · have es : s = N := by omega
              have hsi : (N : Int) ≤ s := by omega
              have HMr := Lib.hid (HM.out.congr (M' := stg a q (r + 1) (q + 1)) (fun i j _ hj => by rw [es]; exact stg_row hj))
              go_wp2
              go_roundw
              case rel => exact ⟨r + 1, by omega, by omega, by go_num, HMr, hW⟩
              case measure => first | (simp [intOf]; done) | (simp [intOf]; omega)
        · have er : r = N := by omega
          have hri : (N : Int) ≤ r := by omega
          have t0 := HM.out.at_ hqN (Nat.le_refl N)
          have tc := (HM.out.cel hqN hqN).1
          rw [stg_kk] at tc
          have HME := Lib.hid (HM.out.congr (M' := stX a (q + 1)) (fun i j hi _ => by rw [er]; exact stg_end hi))
          go_wp2
          go_roundw
          case rel => exact ⟨q + 1, by omega, by go_num, rfl, HME, hW⟩
          case measure => first | (simp [intOf]; done) | (simp [intOf]; omega)
    · have eq : q = N := by omega
      have hqi : (N : Int) ≤ q := by omega
      have hpb : 0 < prv a q ∧ prv a q ≤ 4194304 := by
        refine ⟨brs_prv HL.out hq, ?_⟩
        obtain ⟨z, rfl⟩ : ∃ z, q = z + 1 := ⟨q - 1, by omega⟩
        exact (brs_small HL.out HS.out (k := z) (i := z) (j := z) (Nat.le_refl z) (Nat.le_refl z) (by omega) (by omega)).2
      obtain ⟨hpb1, hpb2⟩ := hpb
      go_wp2
      go_ret
      exact ⟨by rw [eq]; rfl, hW⟩
end Go.Proofs.Ytdcghlklikbfcaa.Dt
