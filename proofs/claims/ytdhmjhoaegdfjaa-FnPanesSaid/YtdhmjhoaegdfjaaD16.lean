import Derived.Test.YtdhmjhoaegdfjaaD15
namespace Go.Proofs.Ytdhmjhoaegdfjaa
open Go.RowKit Go.Sort Go.BigFrame

theorem PaneNodes_i (A B : Option Addr) (c d : Nat) (ns ls : List P2) (f : Int) (w : World) (h : Wn w A c B d ns ls) :
    Calls Try.prog 41 #[.agg #[.slice A ns.length c, .slice B ls.length d], .int .i64 f] w fun e w' => ∃ v, e = .returned v ∧ OwI w' w.heap.size v (vPaneNodes ns ls f) ∧ Ext w w' :=
  (PaneNodes_i0 A B c d ns ls f w h).mono fun _ _ ⟨v, h1, h2, _, h3⟩ => ⟨v, h1, h2, h3⟩

/-! ### shared leads -/
def shP (S : List Int) (f g : Int) (j : Nat) : Bool := (gi S (2 * (j : Int)) == f && gi S (2 * (j : Int) + 1) == g) || (gi S (2 * (j : Int)) == g && gi S (2 * (j : Int) + 1) == f)
def vSharedLeads (ns ls : List P2) (f g : Int) : List Int := if hasF ns ls f = true ∧ hasF ns ls g = true then flt (shP (vSides ns ls) f g) ls.length else []
theorem vSharedLeads_len (ns ls : List P2) (f g : Int) : (vSharedLeads ns ls f g).length ≤ 1000 := by
  unfold vSharedLeads
  split
  · rename_i h
    have := (whole_ok (hasF_whole h.1)).1.le
    have := flt_len (shP (vSides ns ls) f g) ls.length
    omega
  · simp
set_option maxRecDepth 100000 in
set_option maxHeartbeats 8000000 in
theorem SharedLeads_i (A B : Option Addr) (c d : Nat) (ns ls : List P2) (f g : Int) (w : World) (h : Wn w A c B d ns ls) :
    Calls Try.prog 32 #[.agg #[.slice A ns.length c, .slice B ls.length d], .int .i64 f, .int .i64 g] w fun e w' => ∃ v, e = .returned v ∧ OwI w' w.heap.size v (vSharedLeads ns ls f g) ∧ Ext w w' := by
  have HV : Hid (vSharedLeads ns ls f g = if hasF ns ls f = true ∧ hasF ns ls g = true then flt (shP (vSides ns ls) f g) ls.length else []) := Lib.hid rfl
  have HP : Hid (∀ j : Nat, shP (vSides ns ls) f g j = ((gi (vSides ns ls) (2 * (j : Int)) == f && gi (vSides ns ls) (2 * (j : Int) + 1) == g) || (gi (vSides ns ls) (2 * (j : Int)) == g && gi (vSides ns ls) (2 * (j : Int) + 1) == f))) := Lib.hid (fun _ => rfl)
  by_cases hf : hasF ns ls f = true
  · by_cases hg : hasF ns ls g = true
    · rw [if_pos ⟨hf, hg⟩] at HV
      have hw := hasF_whole hf
      obtain ⟨hW, hm0⟩ := whole_ok hw
      have hm := hW.le
      have HSL := Lib.hid (vSides_len hw)
      have HWW := Lib.hid hw
      clear hW hw
      go_enter Try.func32, Try.ntmps32
      go_wp2_with fail
      have k0 : (w.alloc (.cells #[.slice A ns.length c, .slice B ls.length d] 27)).cell? ⟨w.heap.size, 0, none⟩ = some (.slice A ns.length c) := by go_simp
      have k1 : (w.alloc (.cells #[.slice A ns.length c, .slice B ls.length d] 27)).cell? ⟨w.heap.size, 1, none⟩ = some (.slice B ls.length d) := by go_simp
      have hx : Ext w (w.alloc (.cells #[.slice A ns.length c, .slice B ls.length d] 27)) := (by repeat first | exact Ext.refl _ | assumption | refine Ext.drew ?_ | refine Ext.alloc ?_ _ | refine Ext.setCell ?_ (by simp) | refine Ext.setCell ?_ (by simp; omega) | refine Ext.trans ?_ (by assumption))
      have hsz1 : w.heap.size + 1 = (w.alloc (.cells #[.slice A ns.length c, .slice B ls.length d] 27)).heap.size := by simp
      generalize (w.alloc (.cells #[.slice A ns.length c, .slice B ls.length d] 27)) = w0 at *
      (try rw [hsz1])
      refine (hasFace_i _ _ _ _ ns ls f _ (h.ext hx)).mono ?_
      rintro e w1 ⟨rfl, hb⟩
      have k0 := hb.lit k0
      have k1 := hb.lit k1
      have hx := hx.trans hb
      clear hb
      rw [hf]
      go_wp2_with fail
      refine (hasFace_i _ _ _ _ ns ls g _ (h.ext hx)).mono ?_
      rintro e w2 ⟨rfl, hb⟩
      have k0 := hb.lit k0
      have k1 := hb.lit k1
      have hx := hx.trans hb
      clear hb
      rw [hg]
      clear hf hg
      go_wp2_with fail
      refine (facesAt_i _ _ _ _ ns ls _ (h.ext hx)).mono ?_
      rintro e w3 ⟨v, rfl, hS, -, hb⟩
      obtain ⟨gS, cS, rfl, -, -, -, -, -⟩ := hS.gi_ (j := 0) (by rw [HSL.out]; omega)
      rw [HSL.out] at hS
      rw [HSL.out]
      have k0 := hb.lit k0
      have k1 := hb.lit k1
      have hx := hx.trans hb
      clear hb
      generalize shP (vSides ns ls) f g = P at *
      generalize hSS : vSides ns ls = S at *
      clear hSS
      go_wp2_with fail
      go_loopw [8, 9, 10, 11, 27] (fun v _ _ _ i wr => ∃ j : Nat, j ≤ ls.length ∧ i = .int .i64 j ∧ OzI wr w.heap.size w3.heap.size v (flt P j) ∧ Ext w3 wr) (fun _ _ _ _ i _ => ls.length - (intOf i).toNat)
      case atStart => exact ⟨0, by omega, rfl, .of (OwI.nil _ _), Ext.refl _⟩
      case round =>
        obtain ⟨j, hj, rfl, hv, hxr⟩ := hrel
        obtain ⟨wo, rfl⟩ : ∃ x : World, x = wr := ⟨_, rfl⟩
        have hx0 := hx.trans hxr
        have k0 := hxr.lit k0
        have k1 := hxr.lit k1
        by_cases hlt : j < ls.length
        · skip
          have c1 := ((hS.ext hxr).cel (j := 2 * j) (by rw [HSL.out]; omega)).1
          have c2 := ((hS.ext hxr).cel (j := 2 * j + 1) (by rw [HSL.out]; omega)).1
          have y1 : ((2 * j : Nat) : Int) = 2 * (j : Int) := by omega
          have y2 : ((2 * j + 1 : Nat) : Int) = 2 * (j : Int) + 1 := by omega
          rw [y1] at c1
          rw [y2] at c2
          have z1 : (2 * (j : Int)).toNat = 2 * j := by omega
          have z2 : (2 * (j : Int) + 1).toNat = 2 * j + 1 := by omega
          have z3 : 2 * (j : Int) < 2 * (ls.length : Int) := by omega
          have z4 : 2 * (j : Int) + 1 < 2 * (ls.length : Int) := by omega
          have HPj := Lib.hid (HP.out j)
          clear y1 y2
          generalize gi S (2 * (j : Int)) = x at *
          generalize gi S (2 * (j : Int) + 1) = y at *
          go_upto_region 8 with fail
          go_cut [10, 11] (fun s s' wx => s = .int .i64 x ∧ s' = .int .i64 y ∧ Ext wo wx)
          case first =>
            have d0 := cell_regrown c1
            have d1 := cell_regrown c2
            refine rx_open [(true, 0, some 30, 128), (true, 0, some 31, 512), (true, 2, some 32, 2147483648), (true, 5, some 33, 5368709120), (true, 8, some 34, 8589934592), (true, 0, some 35, 128), (true, 0, some 36, 512), (true, 64, some 37, 68719476736), (true, 128, some 38, 137438953472), (true, 288, some 39, 309237645312), (true, 512, some 40, 549755813888), (true, 31, some 10, 17179869184), (true, 4095, some 11, 1099511627776)] 0 13 mixd rfl (by kernel_rfl) (by kernel_rfl) (by kernel_rfl) ?_
            refine rx_run (run := [0, 1, 2, 3, 4, 5, 6, 7, 8, 9, 10, 11, 12]) (k := 0) (m' := 8191) rfl (by kernel_rfl) (by kernel_rfl) (by kernel_rfl) (fm_cons rfl <| fm_cons rfl <| fm_cons rfl <| fm_cons rfl <| fm_cons rfl <| fm_cons rfl <| fm_cons rfl <| fm_cons rfl <| fm_cons rfl <| fm_cons rfl <| fm_cons rfl <| fm_cons rfl <| fm_cons rfl <| List.filterMap_nil) (by repeat first | exact Ext.refl _ | assumption | refine Ext.drew ?_ | refine Ext.alloc ?_ _ | refine Ext.setCell ?_ (by simp) | refine Ext.setCell ?_ (by simp; omega) | refine Ext.trans ?_ (by assumption)) ?_
            repeat (go_big_quiet_step ((fail)))
            refine wpQuiet_nil ?_
            refine rx_end (by kernel_rfl) ?_
            all_goals (go_wp2; go_meet; exact ⟨rfl, rfl, (by repeat first | exact Ext.refl _ | assumption | refine Ext.drew ?_ | refine Ext.alloc ?_ _ | refine Ext.setCell ?_ (by simp) | refine Ext.setCell ?_ (by simp; omega) | refine Ext.trans ?_ (by assumption))⟩)
          case rest =>
            obtain ⟨rfl, rfl, hb⟩ := hcut
            obtain ⟨w3, rfl⟩ : ∃ x : World, x = wc := ⟨_, rfl⟩
            have hxr := hxr.trans hb
            have hv := hv.ext hb
            clear hb c1 c2 k0 k1 hx0
            have Hy : P j = true → Hid (flt P (j + 1) = flt P j ++ [(j : Int)]) := fun h => Lib.hid (flt_yes h)
            have Hn : P j = false → Hid (flt P (j + 1) = flt P j) := fun h => Lib.hid (flt_no h)
            by_cases hs : P j = true
            · have Hs := Hy hs
              clear Hy Hn
              rw [HPj.out] at hs
              cases b1 : (x == f) <;> cases b2 : (y == g) <;> cases b3 : (x == g) <;> cases b4 : (y == f) <;> rw [b1, b2, b3, b4] at hs <;> first
                | (exfalso; revert hs; decide)
                | (clear hs HPj; skip
                   have hsz := hxr.size
                   have hln := flt_len P j
                   go_wp2_with (at_builtin; refine az_int _ _ rfl rfl rfl (hv.ext ((Ext.refl w3).alloc _)) (g := w3.heap.size) (y := j) (by first | rfl | simp) (by go_simp) (by omega) (by simp; omega) ?_)
                   intro v' w' h1 h3
                   go_wp2
                   go_roundw
                   case rel => exact ⟨j + 1, by omega, by go_num, by rw [Hs.out]; exact h1, h3 _ (hxr.trans (by repeat first | exact Ext.refl _ | assumption | refine Ext.drew ?_ | refine Ext.alloc ?_ _ | refine Ext.setCell ?_ (by simp) | refine Ext.setCell ?_ (by simp; omega) | refine Ext.trans ?_ (by assumption))) (Nat.le_refl _)⟩
                   case measure => first | (simp [intOf]; done) | (simp [intOf]; omega)
                  )
            · have Hs := Hn (eq_false_of_ne_true hs)
              clear Hy Hn
              rw [HPj.out] at hs
              cases b1 : (x == f) <;> cases b2 : (y == g) <;> cases b3 : (x == g) <;> cases b4 : (y == f) <;> rw [b1, b2, b3, b4] at hs <;> first
                | (exfalso; revert hs; decide)
                | (clear hs HPj; go_wp2; skip
                   go_roundw
                   case rel => exact ⟨j + 1, by omega, by go_num, by rw [Hs.out]; exact hv, hxr⟩
                   case measure => first | (simp [intOf]; done) | (simp [intOf]; omega)
                  )
        · obtain rfl : j = ls.length := by omega
          have hww := hx.size
          go_wp2
          go_ret
          exact ⟨_, rfl, by rw [HV.out]; exact hv.own (by omega), hx0⟩
    · rw [if_neg (fun e => hg e.2)] at HV
      have hg' := eq_false_of_ne_true hg
      go_enter Try.func32, Try.ntmps32
      go_wp2_with fail
      have k0 : (w.alloc (.cells #[.slice A ns.length c, .slice B ls.length d] 27)).cell? ⟨w.heap.size, 0, none⟩ = some (.slice A ns.length c) := by go_simp
      have k1 : (w.alloc (.cells #[.slice A ns.length c, .slice B ls.length d] 27)).cell? ⟨w.heap.size, 1, none⟩ = some (.slice B ls.length d) := by go_simp
      have hx : Ext w (w.alloc (.cells #[.slice A ns.length c, .slice B ls.length d] 27)) := (by repeat first | exact Ext.refl _ | assumption | refine Ext.drew ?_ | refine Ext.alloc ?_ _ | refine Ext.setCell ?_ (by simp) | refine Ext.setCell ?_ (by simp; omega) | refine Ext.trans ?_ (by assumption))
      have hsz1 : w.heap.size + 1 = (w.alloc (.cells #[.slice A ns.length c, .slice B ls.length d] 27)).heap.size := by simp
      generalize (w.alloc (.cells #[.slice A ns.length c, .slice B ls.length d] 27)) = w0 at *
      (try rw [hsz1])
      refine (hasFace_i _ _ _ _ ns ls f _ (h.ext hx)).mono ?_
      rintro e w1 ⟨rfl, hb⟩
      have k0 := hb.lit k0
      have k1 := hb.lit k1
      have hx := hx.trans hb
      clear hb
      rw [hf]
      go_wp2_with fail
      refine (hasFace_i _ _ _ _ ns ls g _ (h.ext hx)).mono ?_
      rintro e w2 ⟨rfl, hb⟩
      have k0 := hb.lit k0
      have k1 := hb.lit k1
      have hx := hx.trans hb
      clear hb
      rw [hg']
      go_wp2
      go_ret
      exact ⟨_, rfl, by rw [HV.out]; exact OwI.nil _ _, hx⟩
  · rw [if_neg (fun e => hf e.1)] at HV
    have hf' := eq_false_of_ne_true hf
    go_enter Try.func32, Try.ntmps32
    go_wp2_with fail
    have k0 : (w.alloc (.cells #[.slice A ns.length c, .slice B ls.length d] 27)).cell? ⟨w.heap.size, 0, none⟩ = some (.slice A ns.length c) := by go_simp
    have k1 : (w.alloc (.cells #[.slice A ns.length c, .slice B ls.length d] 27)).cell? ⟨w.heap.size, 1, none⟩ = some (.slice B ls.length d) := by go_simp
    have hx : Ext w (w.alloc (.cells #[.slice A ns.length c, .slice B ls.length d] 27)) := (by repeat first | exact Ext.refl _ | assumption | refine Ext.drew ?_ | refine Ext.alloc ?_ _ | refine Ext.setCell ?_ (by simp) | refine Ext.setCell ?_ (by simp; omega) | refine Ext.trans ?_ (by assumption))
    have hsz1 : w.heap.size + 1 = (w.alloc (.cells #[.slice A ns.length c, .slice B ls.length d] 27)).heap.size := by simp
    generalize (w.alloc (.cells #[.slice A ns.length c, .slice B ls.length d] 27)) = w0 at *
    (try rw [hsz1])
    refine (hasFace_i _ _ _ _ ns ls f _ (h.ext hx)).mono ?_
    rintro e w1 ⟨rfl, hb⟩
    have k0 := hb.lit k0
    have k1 := hb.lit k1
    have hx := hx.trans hb
    clear hb
    rw [hf']
    go_wp2
    go_ret
    exact ⟨_, rfl, by rw [HV.out]; exact OwI.nil _ _, hx⟩

def vAreBeside (ns ls : List P2) (f g : Int) : Bool := decide (f ≠ g) && decide (0 < (vSharedLeads ns ls f g).length)
set_option maxRecDepth 100000 in
set_option maxHeartbeats 2000000 in
theorem AreBeside_i (A B : Option Addr) (c d : Nat) (ns ls : List P2) (f g : Int) (w : World) (h : Wn w A c B d ns ls) :
    Calls Try.prog 33 #[.agg #[.slice A ns.length c, .slice B ls.length d], .int .i64 f, .int .i64 g] w fun e w' => e = .returned (.bool (vAreBeside ns ls f g)) ∧ Ext w w' := by
  have HV : Hid (vAreBeside ns ls f g = (decide (f ≠ g) && decide (0 < (vSharedLeads ns ls f g).length))) := Lib.hid rfl
  by_cases hfg : f = g
  · have hq : (f != g) = false := by simp [hfg]
    have HE : Hid (vAreBeside ns ls f g = false) := Lib.hid (by rw [HV.out]; simp [hfg])
    clear hfg HV
    go_enter Try.func33, Try.ntmps33
    go_wp2
    go_ret
    exact ⟨ret_b (by rw [HE.out]), (by repeat first | exact Ext.refl _ | assumption | refine Ext.drew ?_ | refine Ext.alloc ?_ _ | refine Ext.setCell ?_ (by simp) | refine Ext.setCell ?_ (by simp; omega) | refine Ext.trans ?_ (by assumption))⟩
  · have hq : (f != g) = true := by simp [hfg]
    have HE : Hid (vAreBeside ns ls f g = decide (0 < (vSharedLeads ns ls f g).length)) := Lib.hid (by rw [HV.out]; simp [hfg])
    clear hfg HV
    go_enter Try.func33, Try.ntmps33
    go_wp2_with fail
    have k0 : (w.alloc (.cells #[.slice A ns.length c, .slice B ls.length d] 27)).cell? ⟨w.heap.size, 0, none⟩ = some (.slice A ns.length c) := by go_simp
    have k1 : (w.alloc (.cells #[.slice A ns.length c, .slice B ls.length d] 27)).cell? ⟨w.heap.size, 1, none⟩ = some (.slice B ls.length d) := by go_simp
    have hx : Ext w (w.alloc (.cells #[.slice A ns.length c, .slice B ls.length d] 27)) := (by repeat first | exact Ext.refl _ | assumption | refine Ext.drew ?_ | refine Ext.alloc ?_ _ | refine Ext.setCell ?_ (by simp) | refine Ext.setCell ?_ (by simp; omega) | refine Ext.trans ?_ (by assumption))
    have hsz1 : w.heap.size + 1 = (w.alloc (.cells #[.slice A ns.length c, .slice B ls.length d] 27)).heap.size := by simp
    generalize (w.alloc (.cells #[.slice A ns.length c, .slice B ls.length d] 27)) = w0 at *
    (try rw [hsz1])
    refine (SharedLeads_i _ _ _ _ ns ls f g _ (h.ext hx)).mono ?_
    rintro e w1 ⟨v, rfl, hv, hb⟩
    obtain ⟨A1, c1, rfl, -, -, -⟩ := hv.shape
    have hl := vSharedLeads_len ns ls f g
    generalize (vSharedLeads ns ls f g).length = n at *
    go_wp2
    go_ret
    exact ⟨ret_b (by rw [HE.out]), hx.trans hb⟩
end Go.Proofs.Ytdhmjhoaegdfjaa
