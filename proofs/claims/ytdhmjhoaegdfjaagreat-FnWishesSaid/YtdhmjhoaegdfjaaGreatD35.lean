import Derived.Test.YtdhmjhoaegdfjaaGreatD31
namespace Go.Proofs.YtdhmjhoaegdfjaaGreat
open Go.RowKit Go.Sort Go.BigFrame

theorem ret_vb2 {v : Value} {a b : Bool} (h : a = b) : Ending.returned (.tuple #[v, .bool a]) = .returned (.tuple #[v, .bool b]) := by rw [h]
/-- what the search finds -/
def srL (N : Nat → Nat) (wish : List Int) (nn d : Nat) (h : List Int) : List Int := (sr tell1 N wish nn d none h).1.getD []
def srB (N : Nat → Nat) (wish : List Int) (nn d : Nat) (h : List Int) : Bool := (sr tell1 N wish nn d none h).2
theorem admB_neg {N : Nat → Nat} {wish h : List Int} {c : Nat} (hw : gi wish (h.length : Nat) < 0) : admB N wish h c = fitB N h h.length c h.length := by
  unfold admB
  rw [decide_eq_false (by omega)]
  rfl
theorem gi_rep {n j : Nat} (h : j < n) : gi (List.replicate n (-1 : Int)) (j : Nat) = -1 := by
  rw [gi_nat _ _ (by simpa using h)]
  simp

set_option maxRecDepth 100000 in
set_option maxHeartbeats 8000000 in
theorem l13Search_s (A4 : Option Addr) (c4 : Nat) (rb : Nat → Nat) (M : Nat → Nat → Bool) (N : Nat → Nat) (n B0 B1 : Nat) (gc : Nat) (wish : List Int) (nn : Nat) (hn6 : nn ≤ 6) (hn : n ≤ 40) (hwl : wish.length = n)
    (hMN : ∀ a b, a < n → b < n → M a b = (N b).testBit a) : ∀ (d : Nat) (G H : Option Addr) (hc hl : Nat) (h : List Int) (w : World), OwM w B0 B1 (.slice A4 n c4) n n rb M → In w w.heap.size G wish → In w w.heap.size H h → hl = h.length → h.length + d = n →
    Calls Tryz.prog 38 #[.slice A4 n c4, .slice G n gc, .int .i64 (nn : Int), .slice H hl hc] w fun e w' => ∃ v', e = .returned (.tuple #[v', .bool (srB N wish nn d h)]) ∧ OwI w' w.heap.size v' (srL N wish nn d h) ∧ Ext w w' := by
  have HMN := Lib.hid hMN
  clear hMN
  intro d
  induction d with
  | zero =>
    intro G H hc hl h w hM hG hH hhl hd
    subst hhl
    have hkn : ((h.length : Int) == (n : Int)) = true := by simp; omega
    go_enter Tryz.func38, Tryz.ntmps38
    go_wp2_with (at_builtin; refine az_ints _ _ rfl rfl (B := w.heap.size) rfl ((OzI.zero (B := w.heap.size) _ (Nat.le_refl _) rfl).own (Nat.le_refl _)) ⟨_, rfl⟩ rfl rfl (hH.ext ((Ext.refl _).alloc _)) (by omega) (by simp) ?_)
    intro v1 w5 h1 hx5
    go_wp2
    go_ret2
    exact ⟨_, ret_vb2 rfl, h1, ((Ext.refl _).alloc _).trans hx5⟩
  | succ d ih =>
    intro G H hc hl h w hM hG hH hhl hd
    subst hhl
    have hlt : h.length < n := by omega
    have hkn : ((h.length : Int) == (n : Int)) = false := beq_eq_false_iff_ne.2 (by omega)
    have hkw : (h.length : Int) < n := by omega
    obtain ⟨bG, oG, rfl, hbG, g1⟩ := hG.gi_ (k := h.length) (by omega)
    have HL1 : Hid (∀ h, srL N wish nn d h = (sr tell1 N wish nn d none h).1.getD []) := Lib.hid (fun _ => rfl)
    have HB1 : Hid (∀ h, srB N wish nn d h = (sr tell1 N wish nn d none h).2) := Lib.hid (fun _ => rfl)
    have HL2 : Hid (srL N wish nn (d + 1) h = (sr tell1 N wish nn (d + 1) none h).1.getD []) := Lib.hid rfl
    have HB2 : Hid (srB N wish nn (d + 1) h = (sr tell1 N wish nn (d + 1) none h).2) := Lib.hid rfl
    have HI0 : Hid (srC N wish nn (sr tell1 N wish nn d) h (nn - 0) none = sr tell1 N wish nn (d + 1) none h) := Lib.hid rfl
    go_enter Tryz.func38, Tryz.ntmps38
    go_wp2_with fail
    go_loopw [11, 12, 13, 14, 15] (fun x _ _ _ _ wr => ∃ c : Nat, c ≤ nn ∧ x = .int .i64 c ∧ Hid (srC N wish nn (sr tell1 N wish nn d) h (nn - c) none = sr tell1 N wish nn (d + 1) none h) ∧ Ext w wr) (fun x _ _ _ _ _ => nn - (intOf x).toNat)
    case atStart => exact ⟨0, by omega, rfl, HI0, Ext.refl _⟩
    case round =>
      clear HI0
      obtain ⟨c, hcn, rfl, HI, hx⟩ := hrel
      obtain ⟨w4, rfl⟩ : ∃ x : World, x = wr := ⟨_, rfl⟩
      by_cases hcl : c < nn
      · have hci : (c : Int) < nn := by omega
        have HST := Lib.hid (srC_step (N := N) (wish := wish) (rec := sr tell1 N wish nn d) (h := h) (s := none) hcl)
        have g1' := hx.lit g1
        have HAD : Hid (admB N wish h c = (!(decide (0 ≤ gi wish (h.length : Nat)) && gi wish (h.length : Nat) != (c : Int)) && fitB N h h.length c h.length)) := Lib.hid rfl
        by_cases hw0 : 0 ≤ gi wish (h.length : Nat)
        · by_cases hwc : gi wish (h.length : Nat) = (c : Int)
          · have q0 : (gi wish (h.length : Nat) != (c : Int)) = false := by simp [hwc]
            have HA : Hid (admB N wish h c = fitB N h h.length c h.length) := Lib.hid (by rw [HAD.out, q0]; simp)
            clear hwc HAD
            generalize gi wish (h.length : Nat) = y at *
            go_wp2_with fail
            go_loop [12, 13] (fun fr i => ∃ (j : Nat) (b : Bool), j ≤ h.length ∧ i = .int .i64 j ∧ fr = .bool b ∧ Hid (b = fitB N h h.length c j)) (fun _ i => h.length - (intOf i).toNat)
            case atStart => exact ⟨0, true, by omega, rfl, rfl, Lib.hid rfl⟩
            case round =>
              skip
              obtain ⟨j, b, hj, rfl, rfl, Hb⟩ := hrel
              by_cases hjl : j < h.length
              · have hji : (j : Int) < h.length := by omega
                have hjn : (j : Int) < n := by omega
                have HF1 : Hid (fitB N h h.length c (j + 1) = (fitB N h h.length c j && !((N h.length).testBit j && gi h (j : Nat) == (c : Int)))) := Lib.hid rfl
                have hMx := hM.ext hx
                obtain ⟨g1r, cg, e1, r1⟩ := hMx.at_ (i := j) (by omega)
                obtain ⟨rfl, rfl⟩ : A4 = some ⟨g1r, 0, none⟩ ∧ c4 = cg := by simpa using e1
                have m1 := (hMx.cel (i := j) (j := h.length) (by omega) hlt).1
                rw [HMN.out j h.length (by omega) hlt] at m1
                obtain ⟨bH, oH, rfl, -, y1⟩ := (hH.ext hx).gi_ hjl
                clear e1 hMx
                rw [← Hb.out] at HF1
                cases b with
                | false =>
                  have Hs : Hid (false = fitB N h h.length c (j + 1)) := Lib.hid (by rw [HF1.out]; rfl)
                  go_wp2
                  go_round
                  case rel => exact ⟨j + 1, false, by omega, by go_num, rfl, Hs⟩
                  case measure => simp [intOf]; omega
                | true =>
                  cases hm : (N h.length).testBit j with
                  | false =>
                    rw [hm] at m1 HF1
                    have Hs : Hid (true = fitB N h h.length c (j + 1)) := Lib.hid (by rw [HF1.out]; rfl)
                    clear hm
                    go_wp2
                    go_round
                    case rel => exact ⟨j + 1, true, by omega, by go_num, rfl, Hs⟩
                    case measure => simp [intOf]; omega
                  | true =>
                    rw [hm] at m1 HF1
                    clear hm
                    by_cases hy : gi h (j : Nat) = (c : Int)
                    · have q : (gi h (j : Nat) == (c : Int)) = true := by simp [hy]
                      rw [q] at HF1
                      have Hs : Hid (false = fitB N h h.length c (j + 1)) := Lib.hid (by rw [HF1.out]; rfl)
                      clear hy
                      generalize gi h (j : Nat) = z at *
                      go_wp2
                      go_round
                      case rel => exact ⟨j + 1, false, by omega, by go_num, rfl, Hs⟩
                      case measure => simp [intOf]; omega
                    · have q : (gi h (j : Nat) == (c : Int)) = false := by simp [hy]
                      rw [q] at HF1
                      have Hs : Hid (true = fitB N h h.length c (j + 1)) := Lib.hid (by rw [HF1.out]; rfl)
                      clear hy
                      generalize gi h (j : Nat) = z at *
                      go_wp2
                      go_round
                      case rel => exact ⟨j + 1, true, by omega, by go_num, rfl, Hs⟩
                      case measure => simp [intOf]; omega
              · obtain rfl : j = h.length := by omega
                cases b with
                | false =>
                  have Hno : Hid (admB N wish h c = false) := Lib.hid (by rw [HA.out, ← Hb.out])
                  clear Hb
                  have Hs : Hid (srC N wish nn (sr tell1 N wish nn d) h (nn - (c + 1)) none = sr tell1 N wish nn (d + 1) none h) := Lib.hid (by rw [← HI.out, HST.out, if_neg (by rw [Hno.out]; decide)])
                  clear HST HI
                  go_wp2
                  go_roundw
                  case rel => exact ⟨c + 1, by omega, by go_num, Hs, hx⟩
                  case measure => first | (simp [intOf]; done) | (simp [intOf]; omega)
                | true =>
                  have Hyes : Hid (admB N wish h c = true) := Lib.hid (by rw [HA.out, ← Hb.out])
                  clear Hb
                  go_wp2_with (at_builtin; refine az_ints _ _ rfl rfl (B := w4.heap.size) rfl ((OzI.zero (B := w4.heap.size) _ (Nat.le_refl _) rfl).own (Nat.le_refl _)) ⟨_, rfl⟩ rfl rfl ((hH.ext hx).ext ((Ext.refl _).alloc _)) (by omega) (by simp) ?_)
                  intro v1 w5 h1 hx5
                  have hx45 : Ext w4 w5 := ((Ext.refl _).alloc _).trans hx5
                  clear hx5
                  go_wp2_with (at_builtin; refine ap_int Tryz.underlying28 infoI2 _ _ rfl rfl rfl (h1.ext ((Ext.refl w5).alloc _)) (g := w5.heap.size) (y := c) (by first | rfl | simp) (by go_simp) (by omega) (by have := hx45.size; simp; omega) ?_)
                  intro v2 w6 h2 h2' h3'
                  have hx46 := h3' _ (hx45.alloc _) (Nat.le_refl _)
                  clear h2' h3' h1 hx45
                  obtain ⟨A2, c2, rfl, -, -, -⟩ := h2.shape
                  have hx := hx.trans hx46
                  go_wp2_with fail
                  refine (ih _ _ _ _ (h ++ [(c : Int)]) _ (hM.ext hx) (hG.ext hx) h2.in' (by simp) (by simp; omega)).mono ?_
                  rintro e w7 ⟨v3, rfl, h3, hb⟩
                  have hx2 := hx.trans hb
                  cases hB : srB N wish nn d (h ++ [(c : Int)]) with
                  | true =>
                    have HR : Hid (sr tell1 N wish nn (d + 1) none h = ((sr tell1 N wish nn d none (h ++ [(c : Int)])).1, true)) := Lib.hid (by rw [← HI.out, HST.out, if_pos Hyes.out, if_pos (by rw [← HB1.out]; exact hB)])
                    rw [HL1.out] at h3
                    clear HST HI hB
                    go_wp2
                    go_ret2
                    exact ⟨_, ret_vb2 (by rw [HB2.out, HR.out]), by rw [HL2.out, HR.out]; exact h3.more hx.size, hx2⟩
                  | false =>
                    have hB' : (sr tell1 N wish nn d none (h ++ [(c : Int)])).2 = false := by rw [← HB1.out]; exact hB
                    have Hs : Hid (srC N wish nn (sr tell1 N wish nn d) h (nn - (c + 1)) none = sr tell1 N wish nn (d + 1) none h) := Lib.hid (by rw [← HI.out, HST.out, if_pos Hyes.out, if_neg (by rw [hB']; decide), sr1_none hB'])
                    clear HST HI hB hB'
                    go_wp2
                    go_roundw
                    case rel => exact ⟨c + 1, by omega, by go_num, Hs, hx2⟩
                    case measure => first | (simp [intOf]; done) | (simp [intOf]; omega)
          · have q0 : (gi wish (h.length : Nat) != (c : Int)) = true := by simp [hwc]
            have Hno : Hid (admB N wish h c = false) := Lib.hid (by rw [HAD.out, q0, decide_eq_true hw0]; rfl)
            clear hwc HAD
            generalize gi wish (h.length : Nat) = y at *
            have Hs : Hid (srC N wish nn (sr tell1 N wish nn d) h (nn - (c + 1)) none = sr tell1 N wish nn (d + 1) none h) := Lib.hid (by rw [← HI.out, HST.out, if_neg (by rw [Hno.out]; decide)])
            clear HST HI
            go_wp2
            go_roundw
            case rel => exact ⟨c + 1, by omega, by go_num, Hs, hx⟩
            case measure => first | (simp [intOf]; done) | (simp [intOf]; omega)
        · have HA : Hid (admB N wish h c = fitB N h h.length c h.length) := Lib.hid (admB_neg (by omega))
          have hw1 : gi wish (h.length : Nat) < 0 := by omega
          clear HAD
          generalize gi wish (h.length : Nat) = y at *
          go_wp2_with fail
          go_loop [12, 13] (fun fr i => ∃ (j : Nat) (b : Bool), j ≤ h.length ∧ i = .int .i64 j ∧ fr = .bool b ∧ Hid (b = fitB N h h.length c j)) (fun _ i => h.length - (intOf i).toNat)
          case atStart => exact ⟨0, true, by omega, rfl, rfl, Lib.hid rfl⟩
          case round =>
            skip
            obtain ⟨j, b, hj, rfl, rfl, Hb⟩ := hrel
            by_cases hjl : j < h.length
            · have hji : (j : Int) < h.length := by omega
              have hjn : (j : Int) < n := by omega
              have HF1 : Hid (fitB N h h.length c (j + 1) = (fitB N h h.length c j && !((N h.length).testBit j && gi h (j : Nat) == (c : Int)))) := Lib.hid rfl
              have hMx := hM.ext hx
              obtain ⟨g1r, cg, e1, r1⟩ := hMx.at_ (i := j) (by omega)
              obtain ⟨rfl, rfl⟩ : A4 = some ⟨g1r, 0, none⟩ ∧ c4 = cg := by simpa using e1
              have m1 := (hMx.cel (i := j) (j := h.length) (by omega) hlt).1
              rw [HMN.out j h.length (by omega) hlt] at m1
              obtain ⟨bH, oH, rfl, -, y1⟩ := (hH.ext hx).gi_ hjl
              clear e1 hMx
              rw [← Hb.out] at HF1
              cases b with
              | false =>
                have Hs : Hid (false = fitB N h h.length c (j + 1)) := Lib.hid (by rw [HF1.out]; rfl)
                go_wp2
                go_round
                case rel => exact ⟨j + 1, false, by omega, by go_num, rfl, Hs⟩
                case measure => simp [intOf]; omega
              | true =>
                cases hm : (N h.length).testBit j with
                | false =>
                  rw [hm] at m1 HF1
                  have Hs : Hid (true = fitB N h h.length c (j + 1)) := Lib.hid (by rw [HF1.out]; rfl)
                  clear hm
                  go_wp2
                  go_round
                  case rel => exact ⟨j + 1, true, by omega, by go_num, rfl, Hs⟩
                  case measure => simp [intOf]; omega
                | true =>
                  rw [hm] at m1 HF1
                  clear hm
                  by_cases hy : gi h (j : Nat) = (c : Int)
                  · have q : (gi h (j : Nat) == (c : Int)) = true := by simp [hy]
                    rw [q] at HF1
                    have Hs : Hid (false = fitB N h h.length c (j + 1)) := Lib.hid (by rw [HF1.out]; rfl)
                    clear hy
                    generalize gi h (j : Nat) = z at *
                    go_wp2
                    go_round
                    case rel => exact ⟨j + 1, false, by omega, by go_num, rfl, Hs⟩
                    case measure => simp [intOf]; omega
                  · have q : (gi h (j : Nat) == (c : Int)) = false := by simp [hy]
                    rw [q] at HF1
                    have Hs : Hid (true = fitB N h h.length c (j + 1)) := Lib.hid (by rw [HF1.out]; rfl)
                    clear hy
                    generalize gi h (j : Nat) = z at *
                    go_wp2
                    go_round
                    case rel => exact ⟨j + 1, true, by omega, by go_num, rfl, Hs⟩
                    case measure => simp [intOf]; omega
            · obtain rfl : j = h.length := by omega
              cases b with
              | false =>
                have Hno : Hid (admB N wish h c = false) := Lib.hid (by rw [HA.out, ← Hb.out])
                clear Hb
                have Hs : Hid (srC N wish nn (sr tell1 N wish nn d) h (nn - (c + 1)) none = sr tell1 N wish nn (d + 1) none h) := Lib.hid (by rw [← HI.out, HST.out, if_neg (by rw [Hno.out]; decide)])
                clear HST HI
                go_wp2
                go_roundw
                case rel => exact ⟨c + 1, by omega, by go_num, Hs, hx⟩
                case measure => first | (simp [intOf]; done) | (simp [intOf]; omega)
              | true =>
                have Hyes : Hid (admB N wish h c = true) := Lib.hid (by rw [HA.out, ← Hb.out])
                clear Hb
                go_wp2_with (at_builtin; refine az_ints _ _ rfl rfl (B := w4.heap.size) rfl ((OzI.zero (B := w4.heap.size) _ (Nat.le_refl _) rfl).own (Nat.le_refl _)) ⟨_, rfl⟩ rfl rfl ((hH.ext hx).ext ((Ext.refl _).alloc _)) (by omega) (by simp) ?_)
                intro v1 w5 h1 hx5
                have hx45 : Ext w4 w5 := ((Ext.refl _).alloc _).trans hx5
                clear hx5
                go_wp2_with (at_builtin; refine ap_int Tryz.underlying28 infoI2 _ _ rfl rfl rfl (h1.ext ((Ext.refl w5).alloc _)) (g := w5.heap.size) (y := c) (by first | rfl | simp) (by go_simp) (by omega) (by have := hx45.size; simp; omega) ?_)
                intro v2 w6 h2 h2' h3'
                have hx46 := h3' _ (hx45.alloc _) (Nat.le_refl _)
                clear h2' h3' h1 hx45
                obtain ⟨A2, c2, rfl, -, -, -⟩ := h2.shape
                have hx := hx.trans hx46
                go_wp2_with fail
                refine (ih _ _ _ _ (h ++ [(c : Int)]) _ (hM.ext hx) (hG.ext hx) h2.in' (by simp) (by simp; omega)).mono ?_
                rintro e w7 ⟨v3, rfl, h3, hb⟩
                have hx2 := hx.trans hb
                cases hB : srB N wish nn d (h ++ [(c : Int)]) with
                | true =>
                  have HR : Hid (sr tell1 N wish nn (d + 1) none h = ((sr tell1 N wish nn d none (h ++ [(c : Int)])).1, true)) := Lib.hid (by rw [← HI.out, HST.out, if_pos Hyes.out, if_pos (by rw [← HB1.out]; exact hB)])
                  rw [HL1.out] at h3
                  clear HST HI hB
                  go_wp2
                  go_ret2
                  exact ⟨_, ret_vb2 (by rw [HB2.out, HR.out]), by rw [HL2.out, HR.out]; exact h3.more hx.size, hx2⟩
                | false =>
                  have hB' : (sr tell1 N wish nn d none (h ++ [(c : Int)])).2 = false := by rw [← HB1.out]; exact hB
                  have Hs : Hid (srC N wish nn (sr tell1 N wish nn d) h (nn - (c + 1)) none = sr tell1 N wish nn (d + 1) none h) := Lib.hid (by rw [← HI.out, HST.out, if_pos Hyes.out, if_neg (by rw [hB']; decide), sr1_none hB'])
                  clear HST HI hB hB'
                  go_wp2
                  go_roundw
                  case rel => exact ⟨c + 1, by omega, by go_num, Hs, hx2⟩
                  case measure => first | (simp [intOf]; done) | (simp [intOf]; omega)
      · obtain rfl : c = nn := by omega
        have HR : Hid (sr tell1 N wish c (d + 1) none h = (none, false)) := Lib.hid (by rw [← HI.out]; exact srC_end (Nat.le_refl _))
        go_wp2
        go_ret2
        exact ⟨_, ret_vb2 (by rw [HB2.out, HR.out]), by rw [HL2.out, HR.out]; exact (OzI.zero _ hx.size rfl).own (Nat.le_refl _), hx.trans ((Ext.refl _).alloc _)⟩

/-- the number of the proper lists that begin with h, in a machine word -/
def cnW (N : Nat → Nat) (n nn d : Nat) (h : List Int) : Int := wrap64 (cn N (List.replicate n (-1)) nn d h)
set_option maxRecDepth 100000 in
set_option maxHeartbeats 2000000 in
theorem l13Free_s (n : Nat) (hn : n ≤ 40) (w : World) :
    Calls Tryz.prog 43 #[.int .i64 (n : Int)] w fun e w' => ∃ v, e = .returned v ∧ OwI w' w.heap.size v (List.replicate n (-1)) ∧ Ext w w' := by
  have hz : OzI (w.alloc (.cells #[] 3)) w.heap.size (w.heap.size + 1) (.slice (some ⟨w.heap.size, 0, none⟩) 0 0) (List.replicate 0 (-1)) := OzI.zero _ (Nat.le_refl _) rfl
  go_enter Tryz.func43, Tryz.ntmps43
  go_wp2_with fail
  have hs1 : (w.alloc (.cells #[] 3)).heap.size = w.heap.size + 1 := by simp
  have hx1 : Ext w (w.alloc (.cells #[] 3)) := (Ext.refl _).alloc _
  generalize (w.alloc (.cells #[] 3)) = w1 at *
  go_loopw [3, 4] (fun q i wr => ∃ j : Nat, j ≤ n ∧ i = .int .i64 j ∧ OzI wr w.heap.size (w.heap.size + 1) q (List.replicate j (-1)) ∧ Ext w1 wr) (fun _ i _ => n - (intOf i).toNat)
  case atStart => exact ⟨0, by omega, rfl, hz, Ext.refl _⟩
  case round =>
    clear hz
    obtain ⟨j, hj, rfl, hv, hx⟩ := hrel
    have hsz := hx.size
    obtain ⟨w3, rfl⟩ : ∃ x : World, x = wr := ⟨_, rfl⟩
    by_cases hlt : j < n
    · have hji : (j : Int) < n := by omega
      go_wp2_with (at_builtin; refine az_int _ _ rfl rfl rfl (hv.ext ((Ext.refl w3).alloc _)) (g := w3.heap.size) (y := -1) (by first | rfl | simp) (by go_simp) (by simp; omega) (by simp; omega) ?_)
      intro v' w' h1 h3
      go_wp2
      have hxx := h3 _ (hx.alloc _) (by omega)
      go_roundw
      case rel => exact ⟨j + 1, by omega, by go_num, by rw [List.replicate_succ']; exact h1, hxx⟩
      case measure => first | (simp [intOf]; done) | (simp [intOf]; omega)
    · obtain rfl : j = n := by omega
      go_wp2
      go_ret
      exact ⟨_, rfl, hv.own (by omega), hx1.trans hx⟩
end Go.Proofs.YtdhmjhoaegdfjaaGreat
