import Derived.Test.YtimgbllpbadhcaaGreatD31
namespace Go.Proofs.YtimgbllpbadhcaaGreat
open Go.RowKit Go.Sort Go.BigFrame

theorem OwI.bset {w : World} {B g i : Nat} {v : Value} {xs : List Int} {bs : List Bool} {n c B2 : Nat} (h : OwI w B v xs) (hb : OwB w B2 (.slice (some ⟨g, 0, none⟩) n c) bs) (u : Value) : OwI (w.setCell ⟨g, i, none⟩ u) B v xs :=
  owi_kept h (gb_set (gb_refl _ _) i u) fun q hq => by injection hq with hq; rw [← hq]; exact own_blkT hb g rfl
theorem OwB.igrow {w w' : World} {B : Nat} {v u : Value} {bs : List Bool} {xs : List Int} {B2 : Nat} (h : OwB w B v bs) (hi : OwI w B2 u xs) (hg : w.grownBy w' u.ownBlock) : OwB w' B v bs :=
  own_kept h hg fun q hq => ⟨3, by decide, own_blkT hi q hq⟩

set_option maxRecDepth 100000 in
set_option maxHeartbeats 8000000 in
theorem l15Chain_s (v : Value) (rb : Nat → Nat) (M : Nat → Nat → Bool) (N : Nat → Nat) (n B0 B1 : Nat) (X : Option Addr) (xc : Nat) (xs : List Int) (f : Nat) (x : Int) (w : World) (hM : OwM w B0 B1 v n n rb M) (hX : In w w.heap.size X xs) (hxl : xs.length = n) (hn : n ≤ 40) (hf : f < n)
    (hMN : ∀ a b, a < n → b < n → M a b = (N a).testBit b) (hsy : ∀ a b, (N a).testBit b = (N b).testBit a) :
    Calls Tryz.prog 21 #[v, .slice X xs.length xc, .int .i64 (f : Int), .int .i64 x] w fun e w' => ∃ v', e = .returned v' ∧ OwI w' w.heap.size v' (bitsL (itC N (alw xs f x) n f n) n) ∧ Ext w w' := by
  subst hxl
  have HMN := Lib.hid hMN
  have HSY : Hid (∀ a b, a < xs.length → b < xs.length → ((N a).testBit b = true ↔ (N b).testBit a = true)) := Lib.hid (fun a b _ _ => by rw [hsy a b])
  have HAL : Hid (∀ g : Nat, alw xs f x g = (gi xs (g : Nat) == gi xs f || gi xs (g : Nat) == x)) := Lib.hid (fun _ => rfl)
  have HST := Lib.hid (Bfs.start (N := N) (al := alw xs f x) hf)
  clear hMN hsy
  obtain ⟨i0, hi, hz0, hz1, hz2⟩ := info_parts infoB
  have hmk := fun W => run_mk1 (P := Tryz.prog) 64 4 i0 (.bool false) Tryz.underlying64 hi hz0 hz1 rfl xs.length (by rw [hz2]; omega) (by omega) W
  clear hi hz0 hz1 hz2
  obtain ⟨A4, c4, rfl⟩ := hM.shape
  obtain ⟨b, off, rfl, hbb, x1⟩ := hX.gi_ (k := f) hf
  have hfi : (f : Int) < xs.length := by omega
  generalize alw xs f x = al at *
  have hb0 : OwB (w.alloc (.cells (Array.replicate xs.length (Value.bool false)) 4)) w.heap.size (.slice (some ⟨w.heap.size, 0, none⟩) xs.length xs.length) (btab xs.length (fun _ => false)) := by
    have hb0 : OwB (w.alloc (.cells (List.replicate xs.length (Value.bool false)).toArray 4)) w.heap.size (.slice (some ⟨w.heap.size, 0, none⟩) (List.replicate xs.length false).length (List.replicate xs.length false).length) (List.replicate xs.length false) :=
      OwB.new (by rw [List.map_replicate]; exact Bk.new _ _ rfl) (Nat.le_refl _) (by simp; unfold maxLen; omega)
    rw [List.length_replicate] at hb0
    have hre : (List.replicate xs.length (Value.bool false)).toArray = Array.replicate xs.length (Value.bool false) := by simp
    rw [hre] at hb0
    rw [btab_rep]
    exact hb0
  have hsz0 : (w.alloc (.cells (Array.replicate xs.length (Value.bool false)) 4)).heap.size = w.heap.size + 1 := by simp
  have hx0 : Ext w (w.alloc (.cells (Array.replicate xs.length (Value.bool false)) 4)) := (by repeat first | exact Ext.refl _ | assumption | refine Ext.drew ?_ | refine Ext.alloc ?_ _ | refine Ext.setCell ?_ (by simp) | refine Ext.setCell ?_ (by simp; omega) | refine Ext.trans ?_ (by assumption))
  have m0 := (hb0.cel (btab_at _ hf))
  go_enter Tryz.func21, Tryz.ntmps21
  go_upto_region 2 with fail
  clear hmk
  generalize (w.alloc (.cells (Array.replicate xs.length (Value.bool false)) 4)) = w1 at *
  have hset := hb0.set_ (btab_len _ _).symm f true
  rw [btab_set] at hset
  have e0 : btab xs.length (fun d => if d = f then true else false) = btab xs.length (fun d => (2 ^ f).testBit d) := btab_congr fun d _ => by
    rw [Nat.testBit_two_pow]
    by_cases h : d = f
    · simp [h]
    · rw [if_neg h, decide_eq_false (fun e => h e.symm)]
  rw [e0] at hset
  have hx1 := Ext.setCell (p := ⟨w.heap.size, f, none⟩) (v := .bool true) hx0 (Nat.le_refl _)
  have hsz1 : (w1.setCell ⟨w.heap.size, f, none⟩ (.bool true)).heap.size = w.heap.size + 1 := by simp [hsz0]
  obtain ⟨m1, m2⟩ := m0
  go_upto_region 3 with fail
  clear hb0 hx0 e0 m1 m2
  generalize w1.setCell ⟨w.heap.size, f, none⟩ (.bool true) = w2 at *
  have ht0 : OwI (w2.alloc (.cells #[.int .i64 (f : Int)] 3)) w.heap.size (.slice (some ⟨w2.heap.size, 0, none⟩) [(f : Int)].length [(f : Int)].length) [(f : Int)] := OwI.new (by exact Bk.new _ _ rfl) hx1.size (by simp; unfold maxLen; omega)
  rw [hsz1] at ht0
  have hb1 := hset.ext ((Ext.refl w2).alloc (.cells #[.int .i64 (f : Int)] 3))
  have hx2 := hx1.alloc (.cells #[.int .i64 (f : Int)] 3)
  clear hset hx1
  go_wp2_with fail
  generalize (w2.alloc (.cells #[.int .i64 (f : Int)] 3)) = w3 at *
  go_loopw [10, 11, 12] (fun q k _ wr => ∃ (S : Nat) (T : List Nat) (j : Nat), j ≤ T.length ∧ k = .int .i64 j ∧ OwI wr w.heap.size q (nl T) ∧ OwB wr w.heap.size (.slice (some ⟨w.heap.size, 0, none⟩) xs.length xs.length) (btab xs.length (fun d => S.testBit d)) ∧ Hid (Bfs N al xs.length f S T j 0) ∧ Ext w wr) (fun _ k _ _ => xs.length - (intOf k).toNat)
  case atStart => exact ⟨2 ^ f, [f], 0, by omega, rfl, ht0, hb1, HST, hx2⟩
  case round =>
    clear ht0 hb1 hx2 HST
    obtain ⟨S, T, j, hj, rfl, hq, hv, hbf, hx⟩ := hrel
    obtain ⟨wo, rfl⟩ : ∃ x : World, x = wr := ⟨_, rfl⟩
    have HNL := Lib.hid (nl_len T)
    obtain ⟨Aq, cq, rfl, -⟩ := hq.shape
    rw [HNL.out] at hq
    rw [HNL.out]
    by_cases hlt : j < T.length
    · have hji : (j : Int) < T.length := by omega
      go_wp2_with fail
      go_loopw [10, 12] (fun q i wr => ∃ (S : Nat) (T : List Nat) (a : Nat), a ≤ xs.length ∧ j < T.length ∧ i = .int .i64 a ∧ OwI wr w.heap.size q (nl T) ∧ OwB wr w.heap.size (.slice (some ⟨w.heap.size, 0, none⟩) xs.length xs.length) (btab xs.length (fun d => S.testBit d)) ∧ Hid (Bfs N al xs.length f S T j a) ∧ Ext w wr) (fun _ i _ => xs.length - (intOf i).toNat)
      case atStart => exact ⟨S, T, 0, by omega, hlt, rfl, hq, hv, hbf, hx⟩
      case round =>
        clear hq hv hbf hx HNL hlt hj hji
        obtain ⟨S, T, a, ha, hlt, rfl, hq, hv, hbf, hx⟩ := hrel
        obtain ⟨w4, rfl⟩ : ∃ x : World, x = wr := ⟨_, rfl⟩
        have HNL := Lib.hid (nl_len T)
        obtain ⟨gq, cq, rfl, -, -, -, y1, -⟩ := hq.gi_ (j := j) (by rw [HNL.out]; exact hlt)
        rw [nl_gi T hlt] at y1
        rw [HNL.out] at hq
        rw [HNL.out]
        have hji : (j : Int) < T.length := by omega
        have hTn := hbf.out.le
        by_cases hat : a < xs.length
        · have hai : (a : Int) < xs.length := by omega
          have HTJ : Hid (T.getD j 0 < xs.length) := Lib.hid (by
            have hm : T.getD j 0 ∈ T := by
              rw [List.getD_eq_getElem?_getD, List.getElem?_eq_getElem hlt]
              exact List.getElem_mem hlt
            exact bitLt2 hbf.out.lt (hbf.out.tin _ hm))
          have hti := HTJ.out
          have HSK := Lib.hid (fun h => hbf.out.skip h)
          have HAD := Lib.hid (fun h1 h2 h3 => hbf.out.add hlt hat HSY.out h1 h2 h3)
          have hMx := hM.ext hx
          obtain ⟨g1, cg, e1, r1⟩ := hMx.at_ (i := T.getD j 0) hti
          obtain ⟨rfl, rfl⟩ : A4 = some ⟨g1, 0, none⟩ ∧ c4 = cg := by simpa using e1
          have m1 := (hMx.cel (i := T.getD j 0) (j := a) hti hat).1
          rw [HMN.out _ a hti hat] at m1
          have x1 := hx.lit x1
          obtain ⟨b', off', e', hbb', x2⟩ := hX.gi_ (k := a) hat
          obtain ⟨rfl, rfl⟩ : b' = b ∧ off' = off := by simpa [eq_comm] using e'
          have x2 := hx.lit x2
          obtain ⟨s1, s2⟩ := hv.cel (btab_at _ hat)
          have HALa := Lib.hid (HAL.out a)
          have htn : ((T.getD j 0 : Nat) : Int) < xs.length := by omega
          clear e1 e' hbb' hMx HTJ
          generalize T.getD j 0 = t at *
          have d0 := cell_regrown y1
          have d1 := cell_regrown r1
          have d2 := cell_regrown x1
          have d3 := cell_regrown x2
          have HSa := Lib.hid (show S.testBit a = S.testBit a from rfl)
          cases hNb : (N t).testBit a with
          | false =>
            have Qb : Hid ((N t).testBit a = false) := Lib.hid hNb
            have Qa : Hid (True ∧ True) := Lib.hid ⟨trivial, trivial⟩
            have Qs : Hid (True ∧ True) := Lib.hid ⟨trivial, trivial⟩
            rw [hNb] at m1
            clear hNb
            have Hs := HSK.out (fun h1 h2 => by first | (exfalso; rw [Qb.out] at h1; cases h1) | (exfalso; rw [Qa.out] at h2; cases h2) | exact Qs.out)
            have d4 := cell_regrown m1
            have d5 := cell_regrown s1
            clear HSK HAD
            go_wp2_with fail
            refine rx_open [(true, 0, some 35, 1), (true, 0, some 36, 1024), (true, 0, some 37, 2048), (true, 6, some 38, 206158430208), (true, 8, some 39, 274877906944), (true, 17, some 40, 584115552256), (true, 32, some 41, 1099511627776), (true, 0, some 42, 4096), (true, 192, some 43, 6597069766656), (true, 256, some 44, 8796093022208), (true, 512, some 45, 17592186044416), (true, 1024, some 46, 35184372089344), (true, 1024, some 47, 35184372092928), (true, 7168, some 48, 246290604621824), (true, 9216, some 49, 316659348799488), (true, 17408, some 50, 598134325510144), (true, 33792, some 51, 1161084278931456), (true, 66560, some 52, 2251799813685248), (true, 131072, some 53, 4503599627370498), (true, 131072, some 54, 4503599627374592), (true, 917504, some 55, 31525197391593472), (true, 1179648, some 56, 40532396646334464), (true, 131072, some 57, 4503599627370504), (true, 6422528, some 58, 220676381741154304), (true, 8519680, some 59, 292733975779082240), (true, 16777216, some 60, 576460752303423490), (true, 16777216, some 61, 576460752303427584), (true, 117440512, some 62, 4035225266123964416), (true, 150994944, some 63, 5188146770730811392), (true, 16777216, some 64, 576460752303423490), (true, 16777216, some 65, 576460752303423492), (true, 1627389952, some 66, 55916692973432078336), (true, 2164260864, some 67, 74363437047141629952), (true, 4580179968, some 68, 157373785378834612224), (true, 8606842880, some 69, 295728869531283619840), (true, 17180000256, some 70, 590300313958333022208)] 0 36 mixd rfl (by kernel_rfl) (by kernel_rfl) (by kernel_rfl) ?_
            refine rx_run (run := [0, 1, 2, 3, 4, 5, 6, 7, 8, 9, 10, 11, 12, 13, 14, 15, 16, 17, 18, 19, 20, 21, 22, 23, 24, 25, 26, 27, 28, 29, 30, 31, 32, 33, 34, 35]) (k := 0) (m' := 68719476735) rfl (by kernel_rfl) (by kernel_rfl) (by kernel_rfl) (fm_cons rfl <| fm_cons rfl <| fm_cons rfl <| fm_cons rfl <| fm_cons rfl <| fm_cons rfl <| fm_cons rfl <| fm_cons rfl <| fm_cons rfl <| fm_cons rfl <| fm_cons rfl <| fm_cons rfl <| fm_cons rfl <| fm_cons rfl <| fm_cons rfl <| fm_cons rfl <| fm_cons rfl <| fm_cons rfl <| fm_cons rfl <| fm_cons rfl <| fm_cons rfl <| fm_cons rfl <| fm_cons rfl <| fm_cons rfl <| fm_cons rfl <| fm_cons rfl <| fm_cons rfl <| fm_cons rfl <| fm_cons rfl <| fm_cons rfl <| fm_cons rfl <| fm_cons rfl <| fm_cons rfl <| fm_cons rfl <| fm_cons rfl <| fm_cons rfl <| List.filterMap_nil) (by repeat first | exact Ext.refl _ | assumption | refine Ext.drew ?_ | refine Ext.alloc ?_ _ | refine Ext.setCell ?_ (by simp) | refine Ext.setCell ?_ (by simp; omega) | refine Ext.trans ?_ (by assumption)) ?_
            repeat (go_big_quiet_step ((fail)))
            refine wpQuiet_nil ?_
            refine rx_end (by kernel_rfl) ?_
            go_wp2
            go_roundw
            case rel => exact ⟨S, T, a + 1, by omega, hlt, by go_num, hq.ext (by repeat first | exact Ext.refl _ | assumption | refine Ext.drew ?_ | refine Ext.alloc ?_ _ | refine Ext.setCell ?_ (by simp) | refine Ext.setCell ?_ (by simp; omega) | refine Ext.trans ?_ (by assumption)), hv.ext (by repeat first | exact Ext.refl _ | assumption | refine Ext.drew ?_ | refine Ext.alloc ?_ _ | refine Ext.setCell ?_ (by simp) | refine Ext.setCell ?_ (by simp; omega) | refine Ext.trans ?_ (by assumption)), Lib.hid Hs, hx.trans (by repeat first | exact Ext.refl _ | assumption | refine Ext.drew ?_ | refine Ext.alloc ?_ _ | refine Ext.setCell ?_ (by simp) | refine Ext.setCell ?_ (by simp; omega) | refine Ext.trans ?_ (by assumption))⟩
            case measure => first | (simp [intOf]; done) | (simp [intOf]; omega)
          | true =>
            rw [hNb] at m1
            cases hSb : S.testBit a with
            | true =>
              have Qb : Hid (True ∧ True) := Lib.hid ⟨trivial, trivial⟩
              have Qa : Hid (True ∧ True) := Lib.hid ⟨trivial, trivial⟩
              have Qs : Hid (S.testBit a = true) := Lib.hid hSb
              rw [hSb] at s1
              clear hNb hSb
              have Hs := HSK.out (fun h1 h2 => by first | (exfalso; rw [Qb.out] at h1; cases h1) | (exfalso; rw [Qa.out] at h2; cases h2) | exact Qs.out)
              have d4 := cell_regrown m1
              have d5 := cell_regrown s1
              clear HSK HAD
              go_wp2_with fail
              refine rx_open [(true, 0, some 35, 1), (true, 0, some 36, 1024), (true, 0, some 37, 2048), (true, 6, some 38, 206158430208), (true, 8, some 39, 274877906944), (true, 17, some 40, 584115552256), (true, 32, some 41, 1099511627776), (true, 0, some 42, 4096), (true, 192, some 43, 6597069766656), (true, 256, some 44, 8796093022208), (true, 512, some 45, 17592186044416), (true, 1024, some 46, 35184372089344), (true, 1024, some 47, 35184372092928), (true, 7168, some 48, 246290604621824), (true, 9216, some 49, 316659348799488), (true, 17408, some 50, 598134325510144), (true, 33792, some 51, 1161084278931456), (true, 66560, some 52, 2251799813685248), (true, 131072, some 53, 4503599627370498), (true, 131072, some 54, 4503599627374592), (true, 917504, some 55, 31525197391593472), (true, 1179648, some 56, 40532396646334464), (true, 131072, some 57, 4503599627370504), (true, 6422528, some 58, 220676381741154304), (true, 8519680, some 59, 292733975779082240), (true, 16777216, some 60, 576460752303423490), (true, 16777216, some 61, 576460752303427584), (true, 117440512, some 62, 4035225266123964416), (true, 150994944, some 63, 5188146770730811392), (true, 16777216, some 64, 576460752303423490), (true, 16777216, some 65, 576460752303423492), (true, 1627389952, some 66, 55916692973432078336), (true, 2164260864, some 67, 74363437047141629952), (true, 4580179968, some 68, 157373785378834612224), (true, 8606842880, some 69, 295728869531283619840), (true, 17180000256, some 70, 590300313958333022208)] 0 36 mixd rfl (by kernel_rfl) (by kernel_rfl) (by kernel_rfl) ?_
              refine rx_run (run := [0, 1, 2, 3, 4, 5, 6, 7, 8, 9, 10, 11, 12, 13, 14, 15, 16, 17, 18, 19, 20, 21, 22, 23, 24, 25, 26, 27, 28, 29, 30, 31, 32, 33, 34, 35]) (k := 0) (m' := 68719476735) rfl (by kernel_rfl) (by kernel_rfl) (by kernel_rfl) (fm_cons rfl <| fm_cons rfl <| fm_cons rfl <| fm_cons rfl <| fm_cons rfl <| fm_cons rfl <| fm_cons rfl <| fm_cons rfl <| fm_cons rfl <| fm_cons rfl <| fm_cons rfl <| fm_cons rfl <| fm_cons rfl <| fm_cons rfl <| fm_cons rfl <| fm_cons rfl <| fm_cons rfl <| fm_cons rfl <| fm_cons rfl <| fm_cons rfl <| fm_cons rfl <| fm_cons rfl <| fm_cons rfl <| fm_cons rfl <| fm_cons rfl <| fm_cons rfl <| fm_cons rfl <| fm_cons rfl <| fm_cons rfl <| fm_cons rfl <| fm_cons rfl <| fm_cons rfl <| fm_cons rfl <| fm_cons rfl <| fm_cons rfl <| fm_cons rfl <| List.filterMap_nil) (by repeat first | exact Ext.refl _ | assumption | refine Ext.drew ?_ | refine Ext.alloc ?_ _ | refine Ext.setCell ?_ (by simp) | refine Ext.setCell ?_ (by simp; omega) | refine Ext.trans ?_ (by assumption)) ?_
              repeat (go_big_quiet_step ((fail)))
              refine wpQuiet_nil ?_
              refine rx_end (by kernel_rfl) ?_
              go_wp2
              go_roundw
              case rel => exact ⟨S, T, a + 1, by omega, hlt, by go_num, hq.ext (by repeat first | exact Ext.refl _ | assumption | refine Ext.drew ?_ | refine Ext.alloc ?_ _ | refine Ext.setCell ?_ (by simp) | refine Ext.setCell ?_ (by simp; omega) | refine Ext.trans ?_ (by assumption)), hv.ext (by repeat first | exact Ext.refl _ | assumption | refine Ext.drew ?_ | refine Ext.alloc ?_ _ | refine Ext.setCell ?_ (by simp) | refine Ext.setCell ?_ (by simp; omega) | refine Ext.trans ?_ (by assumption)), Lib.hid Hs, hx.trans (by repeat first | exact Ext.refl _ | assumption | refine Ext.drew ?_ | refine Ext.alloc ?_ _ | refine Ext.setCell ?_ (by simp) | refine Ext.setCell ?_ (by simp; omega) | refine Ext.trans ?_ (by assumption))⟩
              case measure => first | (simp [intOf]; done) | (simp [intOf]; omega)
            | false =>
              rw [hSb] at s1
              by_cases p1 : gi xs (a : Nat) = x
              · have h2 : (gi xs (a : Nat) == x) = true := by simp [p1]
                have Ha : Hid (al a = true) := Lib.hid (by rw [HALa.out, h2, Bool.or_true])
                clear p1
                generalize gi xs (a : Nat) = ca at *
                generalize gi xs (f : Nat) = cf at *
                have d4 := cell_regrown m1
                have d5 := cell_regrown s1
                have Hs := Lib.hid (HAD.out hNb Ha.out hSb)
                have hv1 := hv.ext (Ext.drew (Ext.refl w4))
                have hq1 := hq.ext (Ext.drew (Ext.refl w4))
                have hset := hv1.set_ (btab_len _ _).symm a true
                rw [btab_set] at hset
                have e0 : btab xs.length (fun d => if d = a then true else S.testBit d) = btab xs.length (fun d => (S ||| 2 ^ a).testBit d) := btab_congr fun d _ => by
                  rw [Nat.testBit_or, Nat.testBit_two_pow]
                  by_cases h : d = a
                  · simp [h]
                  · rw [if_neg h, decide_eq_false (fun e => h e.symm)]; simp
                rw [e0] at hset
                have Hset := Lib.hid hset
                have Hq1 := Lib.hid (hq1.bset hv1 (i := a) (.bool true))
                have hxs := Ext.setCell (p := ⟨w.heap.size, a, none⟩) (v := .bool true) (Ext.drew hx) (Nat.le_refl _)
                clear hset hq1 hv1 e0 hNb hSb HSK HAD
                go_wp2_with fail
                refine rx_open [(true, 0, some 35, 1), (true, 0, some 36, 1024), (true, 0, some 37, 2048), (true, 6, some 38, 206158430208), (true, 8, some 39, 274877906944), (true, 17, some 40, 584115552256), (true, 32, some 41, 1099511627776), (true, 0, some 42, 4096), (true, 192, some 43, 6597069766656), (true, 256, some 44, 8796093022208), (true, 512, some 45, 17592186044416), (true, 1024, some 46, 35184372089344), (true, 1024, some 47, 35184372092928), (true, 7168, some 48, 246290604621824), (true, 9216, some 49, 316659348799488), (true, 17408, some 50, 598134325510144), (true, 33792, some 51, 1161084278931456), (true, 66560, some 52, 2251799813685248), (true, 131072, some 53, 4503599627370498), (true, 131072, some 54, 4503599627374592), (true, 917504, some 55, 31525197391593472), (true, 1179648, some 56, 40532396646334464), (true, 131072, some 57, 4503599627370504), (true, 6422528, some 58, 220676381741154304), (true, 8519680, some 59, 292733975779082240), (true, 16777216, some 60, 576460752303423490), (true, 16777216, some 61, 576460752303427584), (true, 117440512, some 62, 4035225266123964416), (true, 150994944, some 63, 5188146770730811392), (true, 16777216, some 64, 576460752303423490), (true, 16777216, some 65, 576460752303423492), (true, 1627389952, some 66, 55916692973432078336), (true, 2164260864, some 67, 74363437047141629952), (true, 4580179968, some 68, 157373785378834612224), (true, 8606842880, some 69, 295728869531283619840), (true, 17180000256, some 70, 590300313958333022208)] 0 36 mixd rfl (by kernel_rfl) (by kernel_rfl) (by kernel_rfl) ?_
                refine rx_run (run := [0, 1, 2, 3, 4, 5, 6, 7, 8, 9, 10, 11, 12, 13, 14, 15, 16, 17, 18, 19, 20, 21, 22, 23, 24, 25, 26, 27, 28, 29, 30, 31, 32, 33, 34, 35]) (k := 0) (m' := 68719476735) rfl (by kernel_rfl) (by kernel_rfl) (by kernel_rfl) (fm_cons rfl <| fm_cons rfl <| fm_cons rfl <| fm_cons rfl <| fm_cons rfl <| fm_cons rfl <| fm_cons rfl <| fm_cons rfl <| fm_cons rfl <| fm_cons rfl <| fm_cons rfl <| fm_cons rfl <| fm_cons rfl <| fm_cons rfl <| fm_cons rfl <| fm_cons rfl <| fm_cons rfl <| fm_cons rfl <| fm_cons rfl <| fm_cons rfl <| fm_cons rfl <| fm_cons rfl <| fm_cons rfl <| fm_cons rfl <| fm_cons rfl <| fm_cons rfl <| fm_cons rfl <| fm_cons rfl <| fm_cons rfl <| fm_cons rfl <| fm_cons rfl <| fm_cons rfl <| fm_cons rfl <| fm_cons rfl <| fm_cons rfl <| fm_cons rfl <| List.filterMap_nil) (by repeat first | exact Ext.refl _ | assumption | refine Ext.drew ?_ | refine Ext.alloc ?_ _ | refine Ext.setCell ?_ (by simp) | refine Ext.setCell ?_ (by simp; omega) | refine Ext.trans ?_ (by assumption)) ?_
                repeat (go_big_quiet_step ((fail)))
                refine wpQuiet_nil ?_
                refine rx_end (by kernel_rfl) ?_
                go_wp2_with (at_builtin; refine ap_int Tryz.underlying26 infoI2 _ _ rfl rfl rfl (Hq1.out.ext ((Ext.refl _).alloc _)) (g := w4.heap.size) (y := a) (by first | rfl | simp) (by go_simp) (by rw [nl_len]; omega) (by have := hx.size; simp; omega) ?_)
                intro v' w' h1 h2 h3
                have hv2 := (Hset.out.ext ((Ext.refl _).alloc (.cells #[.int .i64 (a : Int)] 3))).igrow (Hq1.out.ext ((Ext.refl _).alloc (.cells #[.int .i64 (a : Int)] 3))) h2
                go_wp2
                go_roundw
                case rel => exact ⟨S ||| 2 ^ a, T ++ [a], a + 1, by omega, by simp; omega, by go_num, by rw [nl_snoc]; exact h1, hv2, Hs, h3 _ (hxs.alloc _) (Nat.le_refl _)⟩
                case measure => first | (simp [intOf]; done) | (simp [intOf]; omega)
              · have h2 : (gi xs (a : Nat) == x) = false := by simp [p1]
                by_cases p2 : gi xs (a : Nat) = gi xs (f : Nat)
                · have h1 : (gi xs (a : Nat) == gi xs (f : Nat)) = true := by simp [p2]
                  have Ha : Hid (al a = true) := Lib.hid (by rw [HALa.out, h1]; rfl)
                  clear p1 p2
                  generalize gi xs (a : Nat) = ca at *
                  generalize gi xs (f : Nat) = cf at *
                  have d4 := cell_regrown m1
                  have d5 := cell_regrown s1
                  have Hs := Lib.hid (HAD.out hNb Ha.out hSb)
                  have hv1 := hv.ext (Ext.drew (Ext.refl w4))
                  have hq1 := hq.ext (Ext.drew (Ext.refl w4))
                  have hset := hv1.set_ (btab_len _ _).symm a true
                  rw [btab_set] at hset
                  have e0 : btab xs.length (fun d => if d = a then true else S.testBit d) = btab xs.length (fun d => (S ||| 2 ^ a).testBit d) := btab_congr fun d _ => by
                    rw [Nat.testBit_or, Nat.testBit_two_pow]
                    by_cases h : d = a
                    · simp [h]
                    · rw [if_neg h, decide_eq_false (fun e => h e.symm)]; simp
                  rw [e0] at hset
                  have Hset := Lib.hid hset
                  have Hq1 := Lib.hid (hq1.bset hv1 (i := a) (.bool true))
                  have hxs := Ext.setCell (p := ⟨w.heap.size, a, none⟩) (v := .bool true) (Ext.drew hx) (Nat.le_refl _)
                  clear hset hq1 hv1 e0 hNb hSb HSK HAD
                  go_wp2_with fail
                  refine rx_open [(true, 0, some 35, 1), (true, 0, some 36, 1024), (true, 0, some 37, 2048), (true, 6, some 38, 206158430208), (true, 8, some 39, 274877906944), (true, 17, some 40, 584115552256), (true, 32, some 41, 1099511627776), (true, 0, some 42, 4096), (true, 192, some 43, 6597069766656), (true, 256, some 44, 8796093022208), (true, 512, some 45, 17592186044416), (true, 1024, some 46, 35184372089344), (true, 1024, some 47, 35184372092928), (true, 7168, some 48, 246290604621824), (true, 9216, some 49, 316659348799488), (true, 17408, some 50, 598134325510144), (true, 33792, some 51, 1161084278931456), (true, 66560, some 52, 2251799813685248), (true, 131072, some 53, 4503599627370498), (true, 131072, some 54, 4503599627374592), (true, 917504, some 55, 31525197391593472), (true, 1179648, some 56, 40532396646334464), (true, 131072, some 57, 4503599627370504), (true, 6422528, some 58, 220676381741154304), (true, 8519680, some 59, 292733975779082240), (true, 16777216, some 60, 576460752303423490), (true, 16777216, some 61, 576460752303427584), (true, 117440512, some 62, 4035225266123964416), (true, 150994944, some 63, 5188146770730811392), (true, 16777216, some 64, 576460752303423490), (true, 16777216, some 65, 576460752303423492), (true, 1627389952, some 66, 55916692973432078336), (true, 2164260864, some 67, 74363437047141629952), (true, 4580179968, some 68, 157373785378834612224), (true, 8606842880, some 69, 295728869531283619840), (true, 17180000256, some 70, 590300313958333022208)] 0 36 mixd rfl (by kernel_rfl) (by kernel_rfl) (by kernel_rfl) ?_
                  refine rx_run (run := [0, 1, 2, 3, 4, 5, 6, 7, 8, 9, 10, 11, 12, 13, 14, 15, 16, 17, 18, 19, 20, 21, 22, 23, 24, 25, 26, 27, 28, 29, 30, 31, 32, 33, 34, 35]) (k := 0) (m' := 68719476735) rfl (by kernel_rfl) (by kernel_rfl) (by kernel_rfl) (fm_cons rfl <| fm_cons rfl <| fm_cons rfl <| fm_cons rfl <| fm_cons rfl <| fm_cons rfl <| fm_cons rfl <| fm_cons rfl <| fm_cons rfl <| fm_cons rfl <| fm_cons rfl <| fm_cons rfl <| fm_cons rfl <| fm_cons rfl <| fm_cons rfl <| fm_cons rfl <| fm_cons rfl <| fm_cons rfl <| fm_cons rfl <| fm_cons rfl <| fm_cons rfl <| fm_cons rfl <| fm_cons rfl <| fm_cons rfl <| fm_cons rfl <| fm_cons rfl <| fm_cons rfl <| fm_cons rfl <| fm_cons rfl <| fm_cons rfl <| fm_cons rfl <| fm_cons rfl <| fm_cons rfl <| fm_cons rfl <| fm_cons rfl <| fm_cons rfl <| List.filterMap_nil) (by repeat first | exact Ext.refl _ | assumption | refine Ext.drew ?_ | refine Ext.alloc ?_ _ | refine Ext.setCell ?_ (by simp) | refine Ext.setCell ?_ (by simp; omega) | refine Ext.trans ?_ (by assumption)) ?_
                  repeat (go_big_quiet_step ((fail)))
                  refine wpQuiet_nil ?_
                  refine rx_end (by kernel_rfl) ?_
                  go_wp2_with (at_builtin; refine ap_int Tryz.underlying26 infoI2 _ _ rfl rfl rfl (Hq1.out.ext ((Ext.refl _).alloc _)) (g := w4.heap.size) (y := a) (by first | rfl | simp) (by go_simp) (by rw [nl_len]; omega) (by have := hx.size; simp; omega) ?_)
                  intro v' w' h1 h2 h3
                  have hv2 := (Hset.out.ext ((Ext.refl _).alloc (.cells #[.int .i64 (a : Int)] 3))).igrow (Hq1.out.ext ((Ext.refl _).alloc (.cells #[.int .i64 (a : Int)] 3))) h2
                  go_wp2
                  go_roundw
                  case rel => exact ⟨S ||| 2 ^ a, T ++ [a], a + 1, by omega, by simp; omega, by go_num, by rw [nl_snoc]; exact h1, hv2, Hs, h3 _ (hxs.alloc _) (Nat.le_refl _)⟩
                  case measure => first | (simp [intOf]; done) | (simp [intOf]; omega)
                · have h1 : (gi xs (a : Nat) == gi xs (f : Nat)) = false := by simp [p2]
                  have Qa : Hid (al a = false) := Lib.hid (by rw [HALa.out, h1, h2]; rfl)
                  have Qb : Hid (True ∧ True) := Lib.hid ⟨trivial, trivial⟩
                  have Qs : Hid (True ∧ True) := Lib.hid ⟨trivial, trivial⟩
                  clear p1 p2 hNb hSb
                  generalize gi xs (a : Nat) = ca at *
                  generalize gi xs (f : Nat) = cf at *
                  have Hs := HSK.out (fun h1 h2 => by first | (exfalso; rw [Qb.out] at h1; cases h1) | (exfalso; rw [Qa.out] at h2; cases h2) | exact Qs.out)
                  have d4 := cell_regrown m1
                  have d5 := cell_regrown s1
                  clear HSK HAD
                  go_wp2_with fail
                  refine rx_open [(true, 0, some 35, 1), (true, 0, some 36, 1024), (true, 0, some 37, 2048), (true, 6, some 38, 206158430208), (true, 8, some 39, 274877906944), (true, 17, some 40, 584115552256), (true, 32, some 41, 1099511627776), (true, 0, some 42, 4096), (true, 192, some 43, 6597069766656), (true, 256, some 44, 8796093022208), (true, 512, some 45, 17592186044416), (true, 1024, some 46, 35184372089344), (true, 1024, some 47, 35184372092928), (true, 7168, some 48, 246290604621824), (true, 9216, some 49, 316659348799488), (true, 17408, some 50, 598134325510144), (true, 33792, some 51, 1161084278931456), (true, 66560, some 52, 2251799813685248), (true, 131072, some 53, 4503599627370498), (true, 131072, some 54, 4503599627374592), (true, 917504, some 55, 31525197391593472), (true, 1179648, some 56, 40532396646334464), (true, 131072, some 57, 4503599627370504), (true, 6422528, some 58, 220676381741154304), (true, 8519680, some 59, 292733975779082240), (true, 16777216, some 60, 576460752303423490), (true, 16777216, some 61, 576460752303427584), (true, 117440512, some 62, 4035225266123964416), (true, 150994944, some 63, 5188146770730811392), (true, 16777216, some 64, 576460752303423490), (true, 16777216, some 65, 576460752303423492), (true, 1627389952, some 66, 55916692973432078336), (true, 2164260864, some 67, 74363437047141629952), (true, 4580179968, some 68, 157373785378834612224), (true, 8606842880, some 69, 295728869531283619840), (true, 17180000256, some 70, 590300313958333022208)] 0 36 mixd rfl (by kernel_rfl) (by kernel_rfl) (by kernel_rfl) ?_
                  refine rx_run (run := [0, 1, 2, 3, 4, 5, 6, 7, 8, 9, 10, 11, 12, 13, 14, 15, 16, 17, 18, 19, 20, 21, 22, 23, 24, 25, 26, 27, 28, 29, 30, 31, 32, 33, 34, 35]) (k := 0) (m' := 68719476735) rfl (by kernel_rfl) (by kernel_rfl) (by kernel_rfl) (fm_cons rfl <| fm_cons rfl <| fm_cons rfl <| fm_cons rfl <| fm_cons rfl <| fm_cons rfl <| fm_cons rfl <| fm_cons rfl <| fm_cons rfl <| fm_cons rfl <| fm_cons rfl <| fm_cons rfl <| fm_cons rfl <| fm_cons rfl <| fm_cons rfl <| fm_cons rfl <| fm_cons rfl <| fm_cons rfl <| fm_cons rfl <| fm_cons rfl <| fm_cons rfl <| fm_cons rfl <| fm_cons rfl <| fm_cons rfl <| fm_cons rfl <| fm_cons rfl <| fm_cons rfl <| fm_cons rfl <| fm_cons rfl <| fm_cons rfl <| fm_cons rfl <| fm_cons rfl <| fm_cons rfl <| fm_cons rfl <| fm_cons rfl <| fm_cons rfl <| List.filterMap_nil) (by repeat first | exact Ext.refl _ | assumption | refine Ext.drew ?_ | refine Ext.alloc ?_ _ | refine Ext.setCell ?_ (by simp) | refine Ext.setCell ?_ (by simp; omega) | refine Ext.trans ?_ (by assumption)) ?_
                  repeat (go_big_quiet_step ((fail)))
                  refine wpQuiet_nil ?_
                  refine rx_end (by kernel_rfl) ?_
                  go_wp2
                  go_roundw
                  case rel => exact ⟨S, T, a + 1, by omega, hlt, by go_num, hq.ext (by repeat first | exact Ext.refl _ | assumption | refine Ext.drew ?_ | refine Ext.alloc ?_ _ | refine Ext.setCell ?_ (by simp) | refine Ext.setCell ?_ (by simp; omega) | refine Ext.trans ?_ (by assumption)), hv.ext (by repeat first | exact Ext.refl _ | assumption | refine Ext.drew ?_ | refine Ext.alloc ?_ _ | refine Ext.setCell ?_ (by simp) | refine Ext.setCell ?_ (by simp; omega) | refine Ext.trans ?_ (by assumption)), Lib.hid Hs, hx.trans (by repeat first | exact Ext.refl _ | assumption | refine Ext.drew ?_ | refine Ext.alloc ?_ _ | refine Ext.setCell ?_ (by simp) | refine Ext.setCell ?_ (by simp; omega) | refine Ext.trans ?_ (by assumption))⟩
                  case measure => first | (simp [intOf]; done) | (simp [intOf]; omega)
        · obtain rfl : a = xs.length := by omega
          go_wp2
          go_roundw
          case rel => exact ⟨S, T, j + 1, by omega, by go_num, by first | exact hq | (rw [HNL.out]; exact hq), hv, Lib.hid (hbf.out.next (Nat.le_refl _)), hx⟩
          case measure => first | (simp [intOf]; done) | (simp [intOf]; omega)
    · have hjT : j = T.length := by omega
      have HSE : Hid (S = itC N al xs.length f xs.length) := Lib.hid (hbf.out.done_ hf (by omega) HSY.out)
      subst hjT
      clear hbf
      have hz0 : OzI (wo.alloc (.cells #[] 3)) w.heap.size (wo.heap.size + 1) (.slice (some ⟨wo.heap.size, 0, none⟩) 0 0) [] := OzI.zero _ hx.size rfl
      have hv := hv.ext ((Ext.refl wo).alloc (.cells #[] 3))
      have hx := hx.alloc (.cells #[] 3)
      have hsz3 : (wo.alloc (.cells #[] 3)).heap.size = wo.heap.size + 1 := by simp
      go_wp2_with fail
      generalize (wo.alloc (.cells #[] 3)) = w5 at *
      go_loopw [13, 14] (fun q i wr => ∃ a : Nat, a ≤ xs.length ∧ i = .int .i64 a ∧ OzI wr w.heap.size (wo.heap.size + 1) q (bitsL S a) ∧ Ext w5 wr) (fun _ i _ => xs.length - (intOf i).toNat)
      case atStart => exact ⟨0, by omega, rfl, hz0, Ext.refl _⟩
      case round =>
        clear hz0
        obtain ⟨a, ha, rfl, hz, hxr⟩ := hrel
        obtain ⟨w6, rfl⟩ : ∃ x : World, x = wr := ⟨_, rfl⟩
        have hsw := hxr.size
        by_cases hat : a < xs.length
        · have hai : (a : Int) < xs.length := by omega
          have s1 := ((hv.ext hxr).cel (btab_at _ hat)).1
          have hs := bitsL_succ S a
          have hln := bitsL_len S a
          by_cases hb : S.testBit a = true
          · rw [if_pos hb] at hs
            have Hs := Lib.hid hs
            rw [hb] at s1
            clear hs hb
            go_wp2_with (at_builtin; refine az_int _ _ rfl rfl rfl (hz.ext ((Ext.refl w6).alloc _)) (g := w6.heap.size) (y := a) (by first | rfl | simp) (by go_simp) (by omega) (by simp; omega) ?_)
            intro v' w' h1 h3
            go_wp2
            go_roundw
            case rel => exact ⟨a + 1, by omega, by go_num, by rw [Hs.out]; exact h1, h3 _ (hxr.trans (by repeat first | exact Ext.refl _ | assumption | refine Ext.drew ?_ | refine Ext.alloc ?_ _ | refine Ext.setCell ?_ (by simp) | refine Ext.setCell ?_ (by simp; omega) | refine Ext.trans ?_ (by assumption))) (by omega)⟩
            case measure => first | (simp [intOf]; done) | (simp [intOf]; omega)
          · rw [if_neg hb] at hs
            have Hs := Lib.hid hs
            rw [eq_false_of_ne_true hb] at s1
            clear hs hb
            go_wp2
            go_roundw
            case rel => exact ⟨a + 1, by omega, by go_num, by rw [Hs.out]; exact hz, hxr⟩
            case measure => first | (simp [intOf]; done) | (simp [intOf]; omega)
        · obtain rfl : a = xs.length := by omega
          go_wp2
          go_ret
          have h0 := hx.size
          exact ⟨_, rfl, by rw [← HSE.out]; exact hz.own (by omega), hx.trans hxr⟩

end Go.Proofs.YtimgbllpbadhcaaGreat
