import Derived.Test.YtdcghlklikbfcaaQ4
namespace Go.Proofs.Ytdcghlklikbfcaa.Dt
open Go.RowKit Go.Sort Go.BigFrame

set_option maxRecDepth 100000 in
set_option maxHeartbeats 8000000 in
theorem determinant_i (g c N : Nat) (rb : Nat → Nat) (a : Nat → Nat → Int) (B0 B : Nat) (w W : World) (h : Mx w B0 B (.slice (some ⟨g, 0, none⟩) N c) N N N rb a) (hN : 0 < N) (hN12 : N ≤ 12) (hL : Lap N 0 a) (hS : sumN N (fun t => a t t) ≤ 40) (hW : Ext W w) (hWB : W.heap.size ≤ B) :
    Calls Try.prog 34 #[.slice (some ⟨g, 0, none⟩) N c] w fun e w' => e = .returned (.int .i64 (prv a N)) ∧ Ext W w' := by
  have HL := Lib.hid hL
  have HS := Lib.hid hS
  have HM := Lib.hid h
  clear hL hS h
  go_enter Try.func34, Try.ntmps34
  go_wp2_with fail
  go_loopw [3, 4, 5, 6, 7, 8, 11] (fun sn l _ _ _ _ k wr => ∃ q : Nat, q ≤ N ∧ k = .int .i64 q ∧ sn = .int .i64 1 ∧ l = .int .i64 (prv a q) ∧ Hid (Mx wr B0 B (.slice (some ⟨g, 0, none⟩) N c) N N N rb (stX a q)) ∧ Ext W wr) (fun _ _ _ _ _ _ k _ => N - (intOf k).toNat)
  case atStart => exact ⟨0, by omega, rfl, rfl, rfl, Lib.hid (by rw [stX_zero]; exact HM.out), hW⟩
  case round =>
    clear hW HM
    obtain ⟨q, hq, rfl, rfl, rfl, HM, hW⟩ := hrel
    obtain ⟨w1, rfl⟩ : ∃ x : World, x = wr := ⟨_, rfl⟩
    by_cases hqN : q < N
    · have hqi : (q : Int) < N := by omega
      have hqe : ((q : Int) == (N : Int)) = false := by rw [beq_eq_false_iff_ne]; omega
      have HM := Lib.hid (HM.out.congr (M' := stg a q (q + 1) (q + 1)) (fun i j _ _ => stg_start))
      have t0 := HM.out.at_ hqN (Nat.le_refl N)
      have tc := (HM.out.cel hqN hqN).1
      rw [stg_kk] at tc
      have HD := Lib.hid (brs_piv HL.out hqN)
      have hDb := brs_small HL.out HS.out (Nat.le_refl q) (Nat.le_refl q) hqN hqN
      have hLp := brs_prv HL.out (k := q) (by omega)
      have hz : (dd a q q q == 0) = false := by rw [beq_eq_false_iff_ne]; have := HD.out; omega
      go_wp2_with fail
      go_loopw [6] (fun rr wr => rr = .int .i64 q ∧ wr = w1) (fun _ _ => 0)
      case atStart => exact ⟨rfl, rfl⟩
      case round =>
        obtain ⟨rfl, rfl⟩ := hrel
        go_wp2_with fail
        clear t0 tc
        go_loopw [7, 8] (fun i _ wr => ∃ r : Nat, q + 1 ≤ r ∧ r ≤ N ∧ i = .int .i64 r ∧ Hid (Mx wr B0 B (.slice (some ⟨g, 0, none⟩) N c) N N N rb (stg a q r (q + 1))) ∧ Ext W wr) (fun i _ _ => N - (intOf i).toNat)
        case atStart => exact ⟨q + 1, Nat.le_refl _, by omega, by go_num, HM, hW⟩
        case round =>
          clear hW HM
          obtain ⟨r, hr0, hr, rfl, HM, hW⟩ := hrel
          obtain ⟨w2, rfl⟩ : ∃ x : World, x = wr := ⟨_, rfl⟩
          by_cases hrN : r < N
          · have hri : (r : Int) < N := by omega
            go_wp2_with fail
            go_loopw [8] (fun j wr => ∃ s : Nat, q + 1 ≤ s ∧ s ≤ N ∧ j = .int .i64 s ∧ Hid (Mx wr B0 B (.slice (some ⟨g, 0, none⟩) N c) N N N rb (stg a q r s)) ∧ Ext W wr) (fun j _ => N - (intOf j).toNat)
            case atStart => exact ⟨q + 1, Nat.le_refl _, by omega, by go_num, HM, hW⟩
            case round =>
              clear hW HM
              obtain ⟨s, hs0, hs, rfl, HM, hW⟩ := hrel
              obtain ⟨w3, rfl⟩ : ∃ x : World, x = wr := ⟨_, rfl⟩
              by_cases hsN : s < N
              · have hsi : (s : Int) < N := by omega
                have t0 := HM.out.at_ hqN (Nat.le_refl N)
                have t1 := HM.out.at_ hrN (Nat.le_refl N)
                have c0 := HM.out.cel hqN hqN
                have c1 := HM.out.cel hrN hsN
                have c2 := HM.out.cel hrN hqN
                have c3 := HM.out.cel hqN hsN
                rw [stg_kk] at c0
                rw [stg_at (by omega) (by omega)] at c1
                rw [stg_ik (by omega)] at c2
                rw [stg_kj (by omega)] at c3
                obtain ⟨c0, -⟩ := c0
                obtain ⟨c1, -⟩ := c1
                obtain ⟨c2, -⟩ := c2
                obtain ⟨c3, -⟩ := c3
                have b1 := mul_sq (brs_small HL.out HS.out (k := q) (i := r) (j := s) (by omega) (by omega) hrN hsN) hDb
                have b2 := mul_sq (brs_small HL.out HS.out (k := q) (i := r) (j := q) (by omega) (by omega) hrN hqN) (brs_small HL.out HS.out (k := q) (i := q) (j := s) (by omega) (by omega) hqN hsN)
                have HY := Lib.hid (brs_div HL.out hqN (i := r) (j := s) (by omega) (by omega))
                have b3 := brs_small HL.out HS.out (k := q + 1) (i := r) (j := s) (by omega) (by omega) hrN hsN
                have HSET : Hid (∀ x y, (if x = r ∧ y = s then dd a (q + 1) r s else stg a q r s x y) = stg a q r (s + 1) x y) := Lib.hid (fun x y => stg_set (by omega) (by omega))
                obtain ⟨p1, hp1⟩ : ∃ p, dd a q r s * dd a q q q = p := ⟨_, rfl⟩
                obtain ⟨p2, hp2⟩ : ∃ p, dd a q r q * dd a q q s = p := ⟨_, rfl⟩
                obtain ⟨y, hy⟩ : ∃ y, dd a (q + 1) r s = y := ⟨_, rfl⟩
                rw [hp1] at b1
                rw [hp2] at b2
                rw [hy] at b3 HSET
                have hyd : (p1 - p2).tdiv (prv a q) = y := by rw [← hp1, ← hp2, ← hy]; exact HY.out
                have hLz : (prv a q == 0) = false := by rw [beq_eq_false_iff_ne]; omega
                obtain ⟨b1l, b1u⟩ := b1
                obtain ⟨b2l, b2u⟩ := b2
                obtain ⟨b3l, b3u⟩ := b3
                clear hy HY
                have d0 := cell_regrown t0
                have d1 := cell_regrown t1
                have d2 := cell_regrown c0
                have d3 := cell_regrown c1
                have d4 := cell_regrown c2
                have d5 := cell_regrown c3
                go_upto_region 19 with fail
                refine rx_open [(true, 0, some 70, 1), (true, 0, some 71, 128), (true, 3, some 72, 3541774862152233910272), (true, 4, some 73, 4722366482869645213696), (true, 0, some 74, 256), (true, 0, some 75, 1), (true, 0, some 76, 128), (true, 96, some 77, 113336795588871485128704), (true, 128, some 78, 151115727451828646838272), (true, 0, some 79, 256), (true, 768, some 80, 906694364710971881029632), (true, 1024, some 81, 1208925819614629174706176), (true, 0, some 82, 1), (true, 0, some 83, 32), (true, 12288, some 84, 14507109835375550096474112), (true, 16384, some 85, 19342813113834066795298816), (true, 0, some 86, 32), (true, 98304, some 87, 116056878683004400771792896), (true, 131072, some 88, 154742504910672534362390528), (true, 264192, some 89, 311902861460574327074193408), (true, 0, some 90, 1), (true, 0, some 91, 128), (true, 3145728, some 92, 3713820117856140824697372672), (true, 4194304, some 93, 4951760157141521099596496896), (true, 0, some 94, 32), (true, 25165824, some 95, 29710560942849126597578981376), (true, 33554432, some 96, 39614081257132168796771975168), (true, 0, some 97, 1), (true, 0, some 98, 32), (true, 402653184, some 99, 475368975085586025561263702016), (true, 536870912, some 100, 633825300114114700748351602688), (true, 0, some 101, 256), (true, 3221225472, some 102, 3802951800684688204490109616128), (true, 4294967296, some 103, 5070602400912917605986812821504), (true, 8657043456, some 104, 10220432964340099549567169593344), (true, 17180393472, some 105, 20283028573671313114084700848128), (true, 0, some 106, 16), (true, 103079215104, some 107, 121694457621910022543683507716096), (true, 274877906943, some 108, 28334198897217871282176), (false, 549755813887, none, 486777830487640090174734030864384)] 549755813888 40 mixd rfl (by kernel_rfl) (by kernel_rfl) (by kernel_rfl) ?_
                have hxc := Ext.drew (Ext.refl w3)
                obtain ⟨wz, hwz⟩ : ∃ x : World, x = w3.drew := ⟨_, rfl⟩
                rw [← hwz]
                rw [← hwz] at hxc
                clear hwz
                have e1 := ((HM.out.ext hxc).cel hrN hsN).1
                have e2 := ((HM.out.ext hxc).cel hrN hsN).2
                refine rx_run (run := [0, 1, 2, 3, 4, 5, 6, 7, 8, 9, 10, 11, 12, 13, 14, 15, 16, 17, 18, 19, 20, 21, 22, 23, 24, 25, 26, 27, 28, 29, 30, 31, 32, 33, 34, 35, 36, 37, 38]) (k := 1) (m' := 549755813887) rfl (by kernel_rfl) (by kernel_rfl) (by kernel_rfl) (fm_cons rfl <| fm_cons rfl <| fm_cons rfl <| fm_cons rfl <| fm_cons rfl <| fm_cons rfl <| fm_cons rfl <| fm_cons rfl <| fm_cons rfl <| fm_cons rfl <| fm_cons rfl <| fm_cons rfl <| fm_cons rfl <| fm_cons rfl <| fm_cons rfl <| fm_cons rfl <| fm_cons rfl <| fm_cons rfl <| fm_cons rfl <| fm_cons rfl <| fm_cons rfl <| fm_cons rfl <| fm_cons rfl <| fm_cons rfl <| fm_cons rfl <| fm_cons rfl <| fm_cons rfl <| fm_cons rfl <| fm_cons rfl <| fm_cons rfl <| fm_cons rfl <| fm_cons rfl <| fm_cons rfl <| fm_cons rfl <| fm_cons rfl <| fm_cons rfl <| fm_cons rfl <| fm_cons rfl <| fm_cons rfl <| List.filterMap_nil) (by repeat first | exact Ext.refl _ | assumption | refine Ext.drew ?_ | refine Ext.alloc ?_ _ | refine Ext.setCell ?_ (by simp) | refine Ext.setCell ?_ (by simp; omega) | refine Ext.trans ?_ (by assumption)) ?_
                repeat (go_big_quiet_step ((fail)))
                refine wpQuiet_nil ?_
                refine rx_op 39 (k := 0) (m' := 1099511627775) rfl rfl (by kernel_rfl) (by kernel_rfl) ?_
                go_wp2
                refine rx_lst (by decide) ?_
                refine rx_end (by kernel_rfl) ?_
                have HSN := Lib.hid (((HM.out.ext hxc).set_ (j := s) hrN y).congr (fun x z _ _ => HSET.out x z))
                have hrB := (World.ownsRow.lt (HM.out.rw_ r hrN) (rb r) rfl).1
                have hxx := Ext.setCell (p := ⟨rb r, s, none⟩) (v := .int .i64 y) (hW.trans hxc) (by show W.heap.size ≤ rb r; omega)
                go_wp2
                go_roundw
                case rel => first | exact ⟨s + 1, by omega, by omega, by go_num, HSN, hxx⟩ | ((repeat apply Exists.intro); exact ⟨⟨s + 1, by omega, by omega, by go_num, HSN, hxx⟩, rfl⟩)
                case measure => first | (simp [intOf]; done) | (simp [intOf]; omega)
              · have es : s = N := by omega
                have hsi : (N : Int) ≤ s := by omega
                have HMr := Lib.hid (HM.out.congr (M' := stg a q (r + 1) (q + 1)) (fun i j _ hj => by rw [es]; exact stg_row hj))
                go_wp2
                go_roundw
                case rel => exact ⟨r + 1, by omega, by omega, by go_num, HMr, hW⟩
                case measure => first | (simp [intOf]; done) | (simp [intOf]; omega)
          · have er : r = N := by omega
            have hri : (N : Int) ≤ r := by omega
            have t0 := HM.out.at_ hqN (Nat.le_refl N)
            have tc := (HM.out.cel hqN hqN).1
            rw [stg_kk] at tc
            have HME := Lib.hid (HM.out.congr (M' := stX a (q + 1)) (fun i j hi _ => by rw [er]; exact stg_end hi))
            go_wp2
            go_roundw
            case rel => exact ⟨q + 1, by omega, by go_num, rfl, rfl, HME, hW⟩
            case measure => first | (simp [intOf]; done) | (simp [intOf]; omega)
    · have eq : q = N := by omega
      have hqi : (N : Int) ≤ q := by omega
      have hpb : 0 < prv a q ∧ prv a q ≤ 4194304 := by
        refine ⟨brs_prv HL.out hq, ?_⟩
        obtain ⟨z, rfl⟩ : ∃ z, q = z + 1 := ⟨q - 1, by omega⟩
        exact (brs_small HL.out HS.out (k := z) (i := z) (j := z) (Nat.le_refl z) (Nat.le_refl z) (by omega) (by omega)).2
      obtain ⟨hpb1, hpb2⟩ := hpb
      go_wp2
      go_ret
      exact ⟨by rw [← eq]; have ew := IntWalk.wrap64_in (prv a q) ⟨by omega, by omega⟩; first | rfl | (show Ending.returned (Value.int .i64 (wrap64 (prv a q))) = _; rw [ew]) | (simp [ew]; done), hW⟩
end Go.Proofs.Ytdcghlklikbfcaa.Dt
