import Derived.Test.YtdhmjhoaegdfjaaV1
import Derived.Test.YtdhmjhoaegdfjaaR2
namespace Go.Proofs.Ytdhmjhoaegdfjaa
open Go.RowKit Go.Sort Go.BigFrame

/-- a node's number behind the taking away of node k -/
def dnI (k i : Int) : Int := if k < i then i - 1 else i
def wnN (ns : List P2) (k : Int) : Nat → List P2
  | 0 => []
  | j + 1 => if (j : Int) = k then wnN ns k j else wnN ns k j ++ [gp ns (j : Nat)]
def wnL (ls : List P2) (k : Int) : Nat → List P2
  | 0 => []
  | j + 1 => if (gp ls (j : Nat)).1 ≠ k ∧ (gp ls (j : Nat)).2 ≠ k then wnL ls k j ++ [(dnI k (gp ls (j : Nat)).1, dnI k (gp ls (j : Nat)).2)] else wnL ls k j
theorem wnN_len (ns : List P2) (k : Int) : ∀ j, (wnN ns k j).length ≤ j
  | 0 => Nat.le_refl _
  | j + 1 => by
    have := wnN_len ns k j
    unfold wnN
    split
    · omega
    · simp; omega
theorem wnL_len (ls : List P2) (k : Int) : ∀ j, (wnL ls k j).length ≤ j
  | 0 => Nat.le_refl _
  | j + 1 => by
    have := wnL_len ls k j
    unfold wnL
    split
    · simp; omega
    · omega
set_option maxHeartbeats 1000000 in
theorem down_c (b : Nat) (i k : Int) (w : World) (hk : w.cell? ⟨b, 0, none⟩ = some (.int .i64 k)) (hi : -9223372036854775808 < i) (hi2 : i ≤ 9223372036854775807) :
    Calls Try.prog 124 #[.int .i64 i, .pointer (some ⟨b, 0, none⟩)] w fun e w' => e = .returned (.int .i64 (dnI k i)) ∧ Ext w w' := by
  by_cases h : k < i
  · have HE : Hid (dnI k i = i - 1) := Lib.hid (if_pos h)
    go_enter Try.func124, Try.ntmps124
    go_wp2
    go_ret
    exact ⟨ret_i (by rw [HE.out]), Ext.refl _⟩
  · have HE : Hid (dnI k i = i) := Lib.hid (if_neg h)
    go_enter Try.func124, Try.ntmps124
    go_wp2
    go_ret
    exact ⟨ret_i (by rw [HE.out]), Ext.refl _⟩

set_option maxRecDepth 100000 in
set_option maxHeartbeats 8000000 in
theorem withoutNode_c (A B : Option Addr) (c d : Nat) (ns ls : List P2) (k : Int) (w : World) (h : Wn w A c B d ns ls) (hR : ∀ j, j < ls.length → 0 ≤ (gp ls (j : Nat)).1 ∧ (gp ls (j : Nat)).1 < 100 ∧ 0 ≤ (gp ls (j : Nat)).2 ∧ (gp ls (j : Nat)).2 < 100) :
    Calls Try.prog 94 #[.agg #[.slice A ns.length c, .slice B ls.length d], .int .i64 k] w fun e w' => ∃ v1 v2, e = .returned (.agg #[v1, v2]) ∧ OwP w' w.heap.size 52 v1 (wnN ns k ns.length) ∧ OwP w' w.heap.size 67 v2 (wnL ls k ls.length) ∧ Ext w w' := by
  have hnl := h.hl
  have hml := h.hm
  have HR := Lib.hid hR
  clear hR
  go_enter Try.func94, Try.ntmps94
  go_upto_region 2 with fail
  have k0 : (((w.alloc (.cells #[.slice A ns.length c, .slice B ls.length d] 27)).alloc (.cells #[.int .i64 k] 3)).alloc (.cells #[.slice none 0 0, .slice none 0 0] 27)).cell? ⟨w.heap.size, 0, none⟩ = some (.slice A ns.length c) := by go_simp
  have k1 : (((w.alloc (.cells #[.slice A ns.length c, .slice B ls.length d] 27)).alloc (.cells #[.int .i64 k] 3)).alloc (.cells #[.slice none 0 0, .slice none 0 0] 27)).cell? ⟨w.heap.size, 1, none⟩ = some (.slice B ls.length d) := by go_simp
  have n0 : (((w.alloc (.cells #[.slice A ns.length c, .slice B ls.length d] 27)).alloc (.cells #[.int .i64 k] 3)).alloc (.cells #[.slice none 0 0, .slice none 0 0] 27)).cell? ⟨w.heap.size + 1, 0, none⟩ = some (.int .i64 k) := by go_simp
  have r0 : (((w.alloc (.cells #[.slice A ns.length c, .slice B ls.length d] 27)).alloc (.cells #[.int .i64 k] 3)).alloc (.cells #[.slice none 0 0, .slice none 0 0] 27)).cell? ⟨w.heap.size + 1 + 1, 0, none⟩ = some (.slice none 0 0) := by go_simp
  have r1 : (((w.alloc (.cells #[.slice A ns.length c, .slice B ls.length d] 27)).alloc (.cells #[.int .i64 k] 3)).alloc (.cells #[.slice none 0 0, .slice none 0 0] 27)).cell? ⟨w.heap.size + 1 + 1, 1, none⟩ = some (.slice none 0 0) := by go_simp
  have f0 : (((w.alloc (.cells #[.slice A ns.length c, .slice B ls.length d] 27)).alloc (.cells #[.int .i64 k] 3)).alloc (.cells #[.slice none 0 0, .slice none 0 0] 27)).frozen? ⟨w.heap.size + 1 + 1, 0, none⟩ = false := by go_simp
  have f1 : (((w.alloc (.cells #[.slice A ns.length c, .slice B ls.length d] 27)).alloc (.cells #[.int .i64 k] 3)).alloc (.cells #[.slice none 0 0, .slice none 0 0] 27)).frozen? ⟨w.heap.size + 1 + 1, 1, none⟩ = false := by go_simp
  have hx : Ext w (((w.alloc (.cells #[.slice A ns.length c, .slice B ls.length d] 27)).alloc (.cells #[.int .i64 k] 3)).alloc (.cells #[.slice none 0 0, .slice none 0 0] 27)) := (((Ext.refl _).alloc _).alloc _).alloc _
  have hs0 : (((w.alloc (.cells #[.slice A ns.length c, .slice B ls.length d] 27)).alloc (.cells #[.int .i64 k] 3)).alloc (.cells #[.slice none 0 0, .slice none 0 0] 27)).heap.size = w.heap.size + 1 + 1 + 1 := by simp
  generalize (((w.alloc (.cells #[.slice A ns.length c, .slice B ls.length d] 27)).alloc (.cells #[.int .i64 k] 3)).alloc (.cells #[.slice none 0 0, .slice none 0 0] 27)) = w0 at *
  generalize hb1 : w.heap.size + 1 = b1 at *
  generalize hb2 : b1 + 1 = b2 at *
  generalize hb3 : b2 + 1 = b3 at *
  go_upto_region 3 with fail
  have bt : Bk (w0.alloc (.cells #[.slice none 0 0, .slice none 0 0] 27)) b3 27 [.slice none 0 0, .slice none 0 0] := Bk.new _ _ hs0.symm
  have hx1 : Ext w0 (w0.alloc (.cells #[.slice none 0 0, .slice none 0 0] 27)) := (Ext.refl _).alloc _
  generalize (w0.alloc (.cells #[.slice none 0 0, .slice none 0 0] 27)) = w1 at *
  have j0 := hx1.lit k0
  have j1 := hx1.lit k1
  have HS0 := Lib.hid hs0
  have HBT := Lib.hid bt
  clear hs0 bt
  go_wp2_with fail
  go_loopw [7, 8, 15] (fun _ _ i wr => ∃ (j : Nat) (v : Value), j ≤ ns.length ∧ i = .int .i64 j ∧ Hid (Bk wr b3 27 [v, .slice none 0 0]) ∧ Hid (OwP wr w0.heap.size 52 v (wnN ns k j)) ∧ Ext w0 wr) (fun _ _ i _ => ns.length - (intOf i).toNat)
  case atStart => exact ⟨0, _, by omega, rfl, HBT, Lib.hid (OwP.nil _ _ _), hx1⟩
  case round =>
    clear hx1 j0 j1 HBT
    obtain ⟨j, v, hj, rfl, HBT, HO, hx1⟩ := hrel
    obtain ⟨w4, rfl⟩ : ∃ x : World, x = wr := ⟨_, rfl⟩
    have j0 := hx1.lit k0
    have j1 := hx1.lit k1
    have m0 := hx1.lit n0
    by_cases hlt : j < ns.length
    · have hji : (j : Int) < ns.length := by omega
      obtain ⟨bN, oN, eA, -, x0, x1⟩ := h.h.gp_ hlt
      have x0 := (hx.trans hx1).lit x0
      have x1 := (hx.trans hx1).lit x1
      have HN1 : Hid (wnN ns k (j + 1) = if (j : Int) = k then wnN ns k j else wnN ns k j ++ [gp ns (j : Nat)]) := Lib.hid rfl
      have hwl := wnN_len ns k j
      subst eA
      obtain ⟨x, y, hg⟩ : ∃ x y, gp ns (j : Nat) = (x, y) := ⟨_, _, rfl⟩
      rw [hg] at x0 x1 HN1
      clear hg
      go_upto_region 6 with fail
      have y0 : (w4.alloc (.cells #[.int .i64 x, .int .i64 y] 52)).cell? ⟨w4.heap.size, 0, none⟩ = some (.int .i64 x) := by go_simp
      have y1 : (w4.alloc (.cells #[.int .i64 x, .int .i64 y] 52)).cell? ⟨w4.heap.size, 1, none⟩ = some (.int .i64 y) := by go_simp
      have hx45 : Ext w4 (w4.alloc (.cells #[.int .i64 x, .int .i64 y] 52)) := (Ext.refl _).alloc _
      generalize (w4.alloc (.cells #[.int .i64 x, .int .i64 y] 52)) = w5 at *
      have m0 := hx45.lit m0
      have bt := HBT.out.ext hx45
      have HO5 := Lib.hid (HO.out.ext hx45)
      have hx1 := hx1.trans hx45
      have hs5 := hx1.size
      have HBU := Lib.hid bt
      clear x0 x1 hx45 HBT HO bt
      by_cases hjk : (j : Int) = k
      · have q : ((j : Int) != k) = false := by simp [hjk]
        have Hs : Hid (wnN ns k (j + 1) = wnN ns k j) := Lib.hid (by rw [HN1.out, if_pos hjk])
        clear hjk HN1
        go_wp2
        go_roundw
        case rel => exact ⟨j + 1, v, by omega, by go_num, HBU, Lib.hid (by rw [Hs.out]; exact HO5.out), hx1⟩
        case measure => first | (simp [intOf]; done) | (simp [intOf]; omega)
      · have q : ((j : Int) != k) = true := by simp [hjk]
        have Hs : Hid (wnN ns k (j + 1) = wnN ns k j ++ [(x, y)]) := Lib.hid (by rw [HN1.out, if_neg hjk])
        obtain ⟨Av, cv, rfl, -, -, -⟩ := HO5.out.shape
        have t0 : w5.cell? ⟨b3, 0, none⟩ = some (.slice Av (wnN ns k j).length cv) := HBU.out.cell 0
        clear hjk HN1
        go_wp2_with (at_builtin; refine az_src 24 52 Try.underlying24 infoN _ _ rfl rfl (v := .slice Av (wnN ns k j).length cv) rfl (HO5.out.ext ((Ext.refl w5).alloc _)) (l := [(x, y)]) rfl rfl (pr_oneg (by first | rfl | omega) x y) (by omega) (by simp) (by simp; omega) ?_)
        intro v5 w9 r9 h5 h5e h5g h5r
        have hx09 := h5e w0 (hx1.alloc _) (Nat.le_refl _)
        have bt9 := gb_bk (HBU.out.ext ((Ext.refl w5).alloc (.cells #[.int .i64 x, .int .i64 y] 52))) h5g (fun e => OwP.nebk HO5.out HBU.out (by decide) (h5r b3 e))
        have t0 : w9.cell? ⟨b3, 0, none⟩ = some (.slice Av (wnN ns k j).length cv) := bt9.cell 0
        have ft0 := bt9.froz 0
        obtain ⟨A5, c5, e5, -, -, -⟩ := h5.shape
        rw [show (wnN ns k j ++ [(x, y)]).length = (wnN ns k j).length + 1 by simp] at e5
        subst e5
        have HF5 := Lib.hid (h5.far bt9 (by decide) 0 (.slice A5 ((wnN ns k j).length + 1) c5))
        have HBV := Lib.hid (bt9.set_ 0 (.slice A5 ((wnN ns k j).length + 1) c5))
        have hxx := Ext.setCell (p := ⟨b3, 0, none⟩) (v := .slice A5 ((wnN ns k j).length + 1) c5) hx09 (by show w0.heap.size ≤ b3; rw [HS0.out]; exact Nat.le_refl _)
        clear h5 h5e h5g h5r bt9
        go_wp2
        go_roundw
        case rel => exact ⟨j + 1, _, by omega, by go_num, HBV, Lib.hid (by rw [Hs.out]; exact HF5.out), hxx⟩
        case measure => first | (simp [intOf]; done) | (simp [intOf]; omega)
    · obtain rfl : j = ns.length := by omega
      obtain ⟨Av, cv, rfl, -, -, -⟩ := HO.out.shape
      go_wp2_with fail
      go_loopw [10, 33] (fun _ i wr => ∃ (a : Nat) (v2 : Value), a ≤ ls.length ∧ i = .int .i64 a ∧ Hid (Bk wr b3 27 [.slice Av (wnN ns k ns.length).length cv, v2]) ∧ Hid (OwP wr w0.heap.size 52 (.slice Av (wnN ns k ns.length).length cv) (wnN ns k ns.length)) ∧ Hid (OwP wr w0.heap.size 67 v2 (wnL ls k a)) ∧ Ext w0 wr) (fun _ i _ => ls.length - (intOf i).toNat)
      case atStart => exact ⟨0, _, by omega, rfl, HBT, HO, Lib.hid (OwP.nil _ _ _), hx1⟩
      case round =>
        clear hx1 j0 j1 m0 HBT HO
        obtain ⟨a, v2, ha, rfl, HBT, HO, HL, hx1⟩ := hrel
        obtain ⟨w4, rfl⟩ : ∃ x : World, x = wr := ⟨_, rfl⟩
        have j1 := hx1.lit k1
        have m0 := hx1.lit n0
        by_cases hat : a < ls.length
        · have hai : (a : Int) < ls.length := by omega
          obtain ⟨bL, oL, eB, -, x0, x1⟩ := h.g.gp_ hat
          have x0 := (hx.trans hx1).lit x0
          have x1 := (hx.trans hx1).lit x1
          have HN1 : Hid (wnL ls k (a + 1) = if (gp ls (a : Nat)).1 ≠ k ∧ (gp ls (a : Nat)).2 ≠ k then wnL ls k a ++ [(dnI k (gp ls (a : Nat)).1, dnI k (gp ls (a : Nat)).2)] else wnL ls k a) := Lib.hid rfl
          have hwl := wnL_len ls k a
          have hra := HR.out a hat
          subst eB
          obtain ⟨x, y, hg⟩ : ∃ x y, gp ls (a : Nat) = (x, y) := ⟨_, _, rfl⟩
          rw [hg] at x0 x1 HN1 hra
          clear hg
          obtain ⟨hr1, hr2, hr3, hr4⟩ := hra
          have hr1 : 0 ≤ x := hr1
          have hr2 : x < 100 := hr2
          have hr3 : 0 ≤ y := hr3
          have hr4 : y < 100 := hr4
          go_upto_region 12 with fail
          have y0 : (w4.alloc (.cells #[.int .i64 x, .int .i64 y] 67)).cell? ⟨w4.heap.size, 0, none⟩ = some (.int .i64 x) := by go_simp
          have y1 : (w4.alloc (.cells #[.int .i64 x, .int .i64 y] 67)).cell? ⟨w4.heap.size, 1, none⟩ = some (.int .i64 y) := by go_simp
          have hx45 : Ext w4 (w4.alloc (.cells #[.int .i64 x, .int .i64 y] 67)) := (Ext.refl _).alloc _
          generalize (w4.alloc (.cells #[.int .i64 x, .int .i64 y] 67)) = w5 at *
          have m0 := hx45.lit m0
          have HBU := Lib.hid (HBT.out.ext hx45)
          have HO5 := Lib.hid (HO.out.ext hx45)
          have HL5 := Lib.hid (HL.out.ext hx45)
          have hx1 := hx1.trans hx45
          have hs5 := hx1.size
          clear x0 x1 hx45 HBT HO HL
          by_cases hp : x = k
          · have q : (x != k) = false := by simp [hp]
            have Hs : Hid (wnL ls k (a + 1) = wnL ls k a) := Lib.hid (by rw [HN1.out, if_neg (fun e => e.1 hp)])
            clear hp HN1
            go_wp2
            go_roundw
            case rel => exact ⟨a + 1, v2, by omega, by go_num, HBU, HO5, Lib.hid (by rw [Hs.out]; exact HL5.out), hx1⟩
            case measure => first | (simp [intOf]; done) | (simp [intOf]; omega)
          · have q : (x != k) = true := by simp [hp]
            by_cases hq : y = k
            · have q2 : (y != k) = false := by simp [hq]
              have Hs : Hid (wnL ls k (a + 1) = wnL ls k a) := Lib.hid (by rw [HN1.out, if_neg (fun e => e.2 hq)])
              clear hp hq HN1
              go_wp2
              go_roundw
              case rel => exact ⟨a + 1, v2, by omega, by go_num, HBU, HO5, Lib.hid (by rw [Hs.out]; exact HL5.out), hx1⟩
              case measure => first | (simp [intOf]; done) | (simp [intOf]; omega)
            · have q2 : (y != k) = true := by simp [hq]
              have Hs : Hid (wnL ls k (a + 1) = wnL ls k a ++ [(dnI k x, dnI k y)]) := Lib.hid (by rw [HN1.out, if_pos ⟨hp, hq⟩])
              obtain ⟨A2, c2, rfl, -, -, -⟩ := HL5.out.shape
              have t1 : w5.cell? ⟨b3, 1, none⟩ = some (.slice A2 (wnL ls k a).length c2) := HBU.out.cell 1
              clear hp hq HN1
              have d0 := cell_regrown t1
              have d1 := cell_regrown y0
              have d2 := cell_regrown y1
              go_wp2_with fail
              refine rx_open [(true, 0, some 47, 64), (true, 1, some 48, 140737488355328), (true, 0, some 49, 32), (true, 0, some 50, 1024), (true, 8, some 51, 1125899906842624), (false, 20, some 52, 2814749767106560), (true, 0, some 53, 32), (true, 0, some 54, 1024), (true, 128, some 55, 18014398509481984), (false, 352, some 56, 45035996273704960), (false, 544, some 57, 76561193665298432), (false, 1024, some 58, 144115188075855872), (false, 2562, some 59, 288511851128422400), (true, 8191, some 60, 64), (false, 16383, none, 1729382256910270464)] 28672 15 mixd rfl (by kernel_rfl) (by kernel_rfl) (by kernel_rfl) ?_
              refine rx_run (run := [0, 1, 2, 3, 4, 6, 7, 8]) (k := 7) (m' := 479) rfl (by kernel_rfl) (by kernel_rfl) (by kernel_rfl) (fm_cons rfl <| fm_cons rfl <| fm_cons rfl <| fm_cons rfl <| fm_cons rfl <| fm_cons rfl <| fm_cons rfl <| fm_cons rfl <| List.filterMap_nil) (by repeat first | exact Ext.refl _ | assumption | refine Ext.drew ?_ | refine Ext.alloc ?_ _ | refine Ext.setCell ?_ (by simp) | refine Ext.setCell ?_ (by simp; omega) | refine Ext.trans ?_ (by assumption)) ?_
              repeat (go_big_quiet_step ((fail)))
              refine wpQuiet_nil ?_
              refine rx_op 5 (k := 6) (m' := 511) rfl rfl (by kernel_rfl) (by kernel_rfl) ?_
              go_wp2_with (first | (go_at_call 124; refine (down_c b1 x k _ (Ext.lit (by repeat first | exact Ext.refl _ | assumption | refine Ext.drew ?_ | refine Ext.alloc ?_ _ | refine Ext.setCell ?_ (by simp) | refine Ext.setCell ?_ (by simp; omega) | refine Ext.trans ?_ (by assumption)) m0) (by omega) (by omega)).mono ?_; rintro e wa ⟨rfl, hba⟩) | (go_at_call 124; refine (down_c b1 y k _ (Ext.lit (by repeat first | exact Ext.refl _ | assumption | refine Ext.drew ?_ | refine Ext.alloc ?_ _ | refine Ext.setCell ?_ (by simp) | refine Ext.setCell ?_ (by simp; omega) | refine Ext.trans ?_ (by assumption)) m0) (by omega) (by omega)).mono ?_; rintro e wb ⟨rfl, hbb⟩) | (at_builtin; refine az_src 25 67 Try.underlying25 infoL _ _ rfl rfl (v := .slice A2 (wnL ls k a).length c2) rfl (HL5.out.ext (by repeat first | exact Ext.refl _ | assumption | refine Ext.drew ?_ | refine Ext.alloc ?_ _ | refine Ext.setCell ?_ (by simp) | refine Ext.setCell ?_ (by simp; omega) | refine Ext.trans ?_ (by assumption))) (l := [(dnI k x, dnI k y)]) rfl rfl (pr_cells (Nat.lt_succ_self _) (by go_simp) (by go_simp)) (by omega) (by simp) (Nat.le_trans hs5 (show Ext w5 _ from (by repeat first | exact Ext.refl _ | assumption | refine Ext.drew ?_ | refine Ext.alloc ?_ _ | refine Ext.setCell ?_ (by simp) | refine Ext.setCell ?_ (by simp; omega) | refine Ext.trans ?_ (by assumption))).size) ?_; intro v6 w12 r12 h6 h6e h6g h6r; have hx12 := h6e w0 (hx1.trans (by repeat first | exact Ext.refl _ | assumption | refine Ext.drew ?_ | refine Ext.alloc ?_ _ | refine Ext.setCell ?_ (by simp) | refine Ext.setCell ?_ (by simp; omega) | refine Ext.trans ?_ (by assumption))) (Nat.le_refl _); have bt12 := gb_bk (HBU.out.ext (by repeat first | exact Ext.refl _ | assumption | refine Ext.drew ?_ | refine Ext.alloc ?_ _ | refine Ext.setCell ?_ (by simp) | refine Ext.setCell ?_ (by simp; omega) | refine Ext.trans ?_ (by assumption))) h6g (fun e => OwP.nebk HL5.out HBU.out (by decide) (h6r b3 e)); have h512 := (HO5.out.ext (by repeat first | exact Ext.refl _ | assumption | refine Ext.drew ?_ | refine Ext.alloc ?_ _ | refine Ext.setCell ?_ (by simp) | refine Ext.setCell ?_ (by simp; omega) | refine Ext.trans ?_ (by assumption))).gb h6g (fun q hq e => OwP.dj HO5.out HL5.out (by decide) q hq (h6r q e)); have t1c : w12.cell? ⟨b3, 1, none⟩ = some (.slice A2 (wnL ls k a).length c2) := bt12.cell 1; have ft1c := bt12.froz 1; obtain ⟨A6, c6, e6, -, -, -⟩ := h6.shape; rw [show (wnL ls k a ++ [(dnI k x, dnI k y)]).length = (wnL ls k a).length + 1 by simp] at e6; subst e6))
              refine rx_on (by repeat first | exact Ext.refl _ | assumption | refine Ext.drew ?_ | refine Ext.alloc ?_ _ | refine Ext.setCell ?_ (by simp) | refine Ext.setCell ?_ (by simp; omega) | refine Ext.trans ?_ (by assumption)) ?_
              refine rx_op 9 (k := 5) (m' := 1023) rfl rfl (by kernel_rfl) (by kernel_rfl) ?_
              go_wp2_with (first | (go_at_call 124; refine (down_c b1 x k _ (Ext.lit (by repeat first | exact Ext.refl _ | assumption | refine Ext.drew ?_ | refine Ext.alloc ?_ _ | refine Ext.setCell ?_ (by simp) | refine Ext.setCell ?_ (by simp; omega) | refine Ext.trans ?_ (by assumption)) m0) (by omega) (by omega)).mono ?_; rintro e wa ⟨rfl, hba⟩) | (go_at_call 124; refine (down_c b1 y k _ (Ext.lit (by repeat first | exact Ext.refl _ | assumption | refine Ext.drew ?_ | refine Ext.alloc ?_ _ | refine Ext.setCell ?_ (by simp) | refine Ext.setCell ?_ (by simp; omega) | refine Ext.trans ?_ (by assumption)) m0) (by omega) (by omega)).mono ?_; rintro e wb ⟨rfl, hbb⟩) | (at_builtin; refine az_src 25 67 Try.underlying25 infoL _ _ rfl rfl (v := .slice A2 (wnL ls k a).length c2) rfl (HL5.out.ext (by repeat first | exact Ext.refl _ | assumption | refine Ext.drew ?_ | refine Ext.alloc ?_ _ | refine Ext.setCell ?_ (by simp) | refine Ext.setCell ?_ (by simp; omega) | refine Ext.trans ?_ (by assumption))) (l := [(dnI k x, dnI k y)]) rfl rfl (pr_cells (Nat.lt_succ_self _) (by go_simp) (by go_simp)) (by omega) (by simp) (Nat.le_trans hs5 (show Ext w5 _ from (by repeat first | exact Ext.refl _ | assumption | refine Ext.drew ?_ | refine Ext.alloc ?_ _ | refine Ext.setCell ?_ (by simp) | refine Ext.setCell ?_ (by simp; omega) | refine Ext.trans ?_ (by assumption))).size) ?_; intro v6 w12 r12 h6 h6e h6g h6r; have hx12 := h6e w0 (hx1.trans (by repeat first | exact Ext.refl _ | assumption | refine Ext.drew ?_ | refine Ext.alloc ?_ _ | refine Ext.setCell ?_ (by simp) | refine Ext.setCell ?_ (by simp; omega) | refine Ext.trans ?_ (by assumption))) (Nat.le_refl _); have bt12 := gb_bk (HBU.out.ext (by repeat first | exact Ext.refl _ | assumption | refine Ext.drew ?_ | refine Ext.alloc ?_ _ | refine Ext.setCell ?_ (by simp) | refine Ext.setCell ?_ (by simp; omega) | refine Ext.trans ?_ (by assumption))) h6g (fun e => OwP.nebk HL5.out HBU.out (by decide) (h6r b3 e)); have h512 := (HO5.out.ext (by repeat first | exact Ext.refl _ | assumption | refine Ext.drew ?_ | refine Ext.alloc ?_ _ | refine Ext.setCell ?_ (by simp) | refine Ext.setCell ?_ (by simp; omega) | refine Ext.trans ?_ (by assumption))).gb h6g (fun q hq e => OwP.dj HO5.out HL5.out (by decide) q hq (h6r q e)); have t1c : w12.cell? ⟨b3, 1, none⟩ = some (.slice A2 (wnL ls k a).length c2) := bt12.cell 1; have ft1c := bt12.froz 1; obtain ⟨A6, c6, e6, -, -, -⟩ := h6.shape; rw [show (wnL ls k a ++ [(dnI k x, dnI k y)]).length = (wnL ls k a).length + 1 by simp] at e6; subst e6))
              refine rx_on (by repeat first | exact Ext.refl _ | assumption | refine Ext.drew ?_ | refine Ext.alloc ?_ _ | refine Ext.setCell ?_ (by simp) | refine Ext.setCell ?_ (by simp; omega) | refine Ext.trans ?_ (by assumption)) ?_
              refine rx_op 10 (k := 4) (m' := 2047) rfl rfl (by kernel_rfl) (by kernel_rfl) ?_
              go_wp2
              refine rx_on (by repeat first | exact Ext.refl _ | assumption | refine Ext.drew ?_ | refine Ext.alloc ?_ _ | refine Ext.setCell ?_ (by simp) | refine Ext.setCell ?_ (by simp; omega) | refine Ext.trans ?_ (by assumption)) ?_
              refine rx_op 11 (k := 3) (m' := 4095) rfl rfl (by kernel_rfl) (by kernel_rfl) ?_
              go_wp2
              refine rx_on (by repeat first | exact Ext.refl _ | assumption | refine Ext.drew ?_ | refine Ext.alloc ?_ _ | refine Ext.setCell ?_ (by simp) | refine Ext.setCell ?_ (by simp; omega) | refine Ext.trans ?_ (by assumption)) ?_
              refine rx_op 12 (k := 2) (m' := 8191) rfl rfl (by kernel_rfl) (by kernel_rfl) ?_
              go_wp2_with (first | (go_at_call 124; refine (down_c b1 x k _ (Ext.lit (by repeat first | exact Ext.refl _ | assumption | refine Ext.drew ?_ | refine Ext.alloc ?_ _ | refine Ext.setCell ?_ (by simp) | refine Ext.setCell ?_ (by simp; omega) | refine Ext.trans ?_ (by assumption)) m0) (by omega) (by omega)).mono ?_; rintro e wa ⟨rfl, hba⟩) | (go_at_call 124; refine (down_c b1 y k _ (Ext.lit (by repeat first | exact Ext.refl _ | assumption | refine Ext.drew ?_ | refine Ext.alloc ?_ _ | refine Ext.setCell ?_ (by simp) | refine Ext.setCell ?_ (by simp; omega) | refine Ext.trans ?_ (by assumption)) m0) (by omega) (by omega)).mono ?_; rintro e wb ⟨rfl, hbb⟩) | (at_builtin; refine az_src 25 67 Try.underlying25 infoL _ _ rfl rfl (v := .slice A2 (wnL ls k a).length c2) rfl (HL5.out.ext (by repeat first | exact Ext.refl _ | assumption | refine Ext.drew ?_ | refine Ext.alloc ?_ _ | refine Ext.setCell ?_ (by simp) | refine Ext.setCell ?_ (by simp; omega) | refine Ext.trans ?_ (by assumption))) (l := [(dnI k x, dnI k y)]) rfl rfl (pr_cells (Nat.lt_succ_self _) (by go_simp) (by go_simp)) (by omega) (by simp) (Nat.le_trans hs5 (show Ext w5 _ from (by repeat first | exact Ext.refl _ | assumption | refine Ext.drew ?_ | refine Ext.alloc ?_ _ | refine Ext.setCell ?_ (by simp) | refine Ext.setCell ?_ (by simp; omega) | refine Ext.trans ?_ (by assumption))).size) ?_; intro v6 w12 r12 h6 h6e h6g h6r; have hx12 := h6e w0 (hx1.trans (by repeat first | exact Ext.refl _ | assumption | refine Ext.drew ?_ | refine Ext.alloc ?_ _ | refine Ext.setCell ?_ (by simp) | refine Ext.setCell ?_ (by simp; omega) | refine Ext.trans ?_ (by assumption))) (Nat.le_refl _); have bt12 := gb_bk (HBU.out.ext (by repeat first | exact Ext.refl _ | assumption | refine Ext.drew ?_ | refine Ext.alloc ?_ _ | refine Ext.setCell ?_ (by simp) | refine Ext.setCell ?_ (by simp; omega) | refine Ext.trans ?_ (by assumption))) h6g (fun e => OwP.nebk HL5.out HBU.out (by decide) (h6r b3 e)); have h512 := (HO5.out.ext (by repeat first | exact Ext.refl _ | assumption | refine Ext.drew ?_ | refine Ext.alloc ?_ _ | refine Ext.setCell ?_ (by simp) | refine Ext.setCell ?_ (by simp; omega) | refine Ext.trans ?_ (by assumption))).gb h6g (fun q hq e => OwP.dj HO5.out HL5.out (by decide) q hq (h6r q e)); have t1c : w12.cell? ⟨b3, 1, none⟩ = some (.slice A2 (wnL ls k a).length c2) := bt12.cell 1; have ft1c := bt12.froz 1; obtain ⟨A6, c6, e6, -, -, -⟩ := h6.shape; rw [show (wnL ls k a ++ [(dnI k x, dnI k y)]).length = (wnL ls k a).length + 1 by simp] at e6; subst e6))
              refine rx_lst (by decide) ?_
              refine rx_op 13 (k := 1) (m' := 16383) rfl rfl (by kernel_rfl) (by kernel_rfl) ?_
              go_wp2
              refine rx_lst (by decide) ?_
              refine rx_op 14 (k := 0) (m' := 32767) rfl rfl (by kernel_rfl) (by kernel_rfl) ?_
              go_wp2
              refine rx_lst (by decide) ?_
              refine rx_end (by kernel_rfl) ?_
              have HF5 := Lib.hid (h512.far bt12 (by decide) 1 (.slice A6 ((wnL ls k a).length + 1) c6))
              have HF6 := Lib.hid (h6.far bt12 (by decide) 1 (.slice A6 ((wnL ls k a).length + 1) c6))
              have HBV := Lib.hid (bt12.set_ 1 (.slice A6 ((wnL ls k a).length + 1) c6))
              have hxx := Ext.setCell (p := ⟨b3, 1, none⟩) (v := .slice A6 ((wnL ls k a).length + 1) c6) hx12 (by show w0.heap.size ≤ b3; rw [HS0.out]; exact Nat.le_refl _)
              go_wp2
              go_roundw
              case rel => exact ⟨a + 1, _, by omega, by go_num, HBV, HF5, Lib.hid (by rw [Hs.out]; exact HF6.out), hxx⟩
              case measure => first | (simp [intOf]; done) | (simp [intOf]; omega)
        · obtain rfl : a = ls.length := by omega
          obtain ⟨A2, c2, rfl, -, -, -⟩ := HL.out.shape
          have t0 : w4.cell? ⟨b3, 0, none⟩ = some (.slice Av (wnN ns k ns.length).length cv) := HBT.out.cell 0
          have t1 : w4.cell? ⟨b3, 1, none⟩ = some (.slice A2 (wnL ls k ls.length).length c2) := HBT.out.cell 1
          have r0 := hx1.lit r0
          have r1 := hx1.lit r1
          have f0 := hx1.frz (by rw [HS0.out]; omega) f0
          have f1 := hx1.frz (by rw [HS0.out]; omega) f1
          go_wp2
          (try simp only [Exit.inBlock, Exit.then])
          refine bodyPost_ret (by simp [results, Try.results94, go_sem, r0, r1]; try rfl) rfl ?_
          exact ⟨_, _, rfl, (HO.out.gb2 (gb_set (gb_set (gb_refl _ (some b2)) 0 _) 1 _) (by rw [HS0.out]; omega)).more hx.size, (HL.out.gb2 (gb_set (gb_set (gb_refl _ (some b2)) 0 _) 1 _) (by rw [HS0.out]; omega)).more hx.size, Ext.setCell (p := ⟨b2, 1, none⟩) (Ext.setCell (p := ⟨b2, 0, none⟩) (hx.trans hx1) (by show w.heap.size ≤ b2; omega)) (by show w.heap.size ≤ b2; omega)⟩
end Go.Proofs.Ytdhmjhoaegdfjaa
