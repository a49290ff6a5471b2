import Derived.Test.YtdhmjhoaegdfjaaD14
namespace Go.Proofs.Ytdhmjhoaegdfjaa
open Go.RowKit Go.Sort Go.BigFrame

/-! ### the degree of a face -/
def ddP (S : List Int) (f : Int) (d : Nat) : Bool := decide (gi S d = f) && decide (gi S ((d ^^^ 1 : Nat) : Int) ≠ f)
def vDualDegree (ns ls : List P2) (f : Int) : Int := if hasF ns ls f = true then ((cnp (ddP (vSides ns ls) f) (2 * ls.length) : Nat) : Int) else -1
set_option maxRecDepth 100000 in
set_option maxHeartbeats 2000000 in
theorem DualDegree_i (A B : Option Addr) (c d : Nat) (ns ls : List P2) (f : Int) (w : World) (h : Wn w A c B d ns ls) :
    Calls Try.prog 30 #[.agg #[.slice A ns.length c, .slice B ls.length d], .int .i64 f] w fun e w' => e = .returned (.int .i64 (vDualDegree ns ls f)) ∧ Ext w w' := by
  have HV : Hid (vDualDegree ns ls f = if hasF ns ls f = true then ((cnp (ddP (vSides ns ls) f) (2 * ls.length) : Nat) : Int) else -1) := Lib.hid rfl
  by_cases hf : hasF ns ls f = true
  · skip
    have HQ := Lib.hid hf
    have hw := hasF_whole hf
    rw [if_pos hf] at HV
    obtain ⟨hW, hm0⟩ := whole_ok hw
    have hm := hW.le
    have HSL := Lib.hid (vSides_len hw)
    have HWW := Lib.hid hw
    clear hW hw
    go_enter Try.func30, Try.ntmps30
    go_wp2_with fail
    have k0 : (w.alloc (.cells #[.slice A ns.length c, .slice B ls.length d] 27)).cell? ⟨w.heap.size, 0, none⟩ = some (.slice A ns.length c) := by go_simp
    have k1 : (w.alloc (.cells #[.slice A ns.length c, .slice B ls.length d] 27)).cell? ⟨w.heap.size, 1, none⟩ = some (.slice B ls.length d) := by go_simp
    have hx : Ext w (w.alloc (.cells #[.slice A ns.length c, .slice B ls.length d] 27)) := (by repeat first | exact Ext.refl _ | assumption | refine Ext.drew ?_ | refine Ext.alloc ?_ _ | refine Ext.setCell ?_ (by simp) | refine Ext.setCell ?_ (by simp; omega) | refine Ext.trans ?_ (by assumption))
    have hsz1 : w.heap.size + 1 = (w.alloc (.cells #[.slice A ns.length c, .slice B ls.length d] 27)).heap.size := by simp
    generalize (w.alloc (.cells #[.slice A ns.length c, .slice B ls.length d] 27)) = w0 at *
    (try rw [hsz1])
    refine (hasFace_i _ _ _ _ ns ls f _ (h.ext hx)).mono ?_
    rintro e w1 ⟨rfl, hb⟩
    have k0 := hb.lit k0
    have k1 := hb.lit k1
    have hx := hx.trans hb
    clear hb
    rw [hf]
    go_wp2_with fail
    refine (facesAt_i _ _ _ _ ns ls _ (h.ext hx)).mono ?_
    rintro e w2 ⟨v, rfl, hS, -, hb⟩
    obtain ⟨gS, cS, rfl, -, -, -, -, -⟩ := hS.gi_ (j := 0) (by rw [HSL.out]; omega)
    rw [HSL.out] at hS
    rw [HSL.out]
    have k0 := hb.lit k0
    have k1 := hb.lit k1
    have hx := hx.trans hb
    clear hb
    generalize hSS : vSides ns ls = S at *
    clear hSS
    have HP : Hid (∀ j, ddP S f j = (decide (gi S (j : Int) = f) && decide (gi S ((j ^^^ 1 : Nat) : Int) ≠ f))) := Lib.hid (fun _ => rfl)
    generalize ddP S f = P at *
    go_wp2_with fail
    go_loopw [6, 7, 8, 17] (fun q _ _ i wr => ∃ j : Nat, j ≤ 2 * ls.length ∧ i = .int .i64 j ∧ q = .int .i64 (cnp P j : Nat) ∧ Ext w2 wr) (fun _ _ _ i _ => 2 * ls.length - (intOf i).toNat)
    case atStart => exact ⟨0, by omega, rfl, rfl, Ext.refl _⟩
    case round =>
      obtain ⟨j, hj, rfl, rfl, hxr⟩ := hrel
      obtain ⟨wo, rfl⟩ : ∃ x : World, x = wr := ⟨_, rfl⟩
      by_cases hlt : j < 2 * ls.length
      · have c1 := ((hS.ext hxr).cel (j := j) (by rw [HSL.out]; omega)).1
        have hx1 := xor1_lt (d := j) hlt
        have c2 := ((hS.ext hxr).cel (j := j ^^^ 1) (by rw [HSL.out]; omega)).1
        have xx := xor1_w j (by omega)
        have hji : (j : Int) < 2 * (ls.length : Int) := by omega
        have hxi : ((j ^^^ 1 : Nat) : Int) < 2 * (ls.length : Int) := by omega
        have HPj := Lib.hid (HP.out j)
        have Hy : P j = true → Hid (cnp P (j + 1) = cnp P j + 1) := fun h => Lib.hid (cnp_yes h)
        have Hn : P j = false → Hid (cnp P (j + 1) = cnp P j) := fun h => Lib.hid (cnp_no h)
        have hcl := cnp_le P j
        generalize cnp P j = q at *
        generalize gi S (j : Int) = x at *
        generalize j ^^^ 1 = j1 at *
        generalize gi S (j1 : Int) = y at *
        by_cases hs : x = f
        · subst hs
          have hq1 : (x == x) = true := by simp
          by_cases ht : y = x
          · have hq2 : (y != x) = false := by simp [ht]
            have Hs := Hn (by rw [HPj.out]; simp [ht])
            clear Hy Hn ht
            go_wp2
            go_roundw
            case rel => exact ⟨j + 1, by omega, by go_num, by rw [Hs.out], hxr⟩
            case measure => first | (simp [intOf]; done) | (simp [intOf]; omega)
          · have hq2 : (y != x) = true := by simp [ht]
            have Hs := Hy (by rw [HPj.out]; simp [ht])
            clear Hy Hn ht
            go_wp2
            go_roundw
            case rel => exact ⟨j + 1, by omega, by go_num, by rw [Hs.out]; go_num, hxr⟩
            case measure => first | (simp [intOf]; done) | (simp [intOf]; omega)
        · have hq1 : (x == f) = false := by simp [hs]
          have Hs := Hn (by rw [HPj.out]; simp [hs])
          clear Hy Hn hs
          go_wp2
          go_roundw
          case rel => exact ⟨j + 1, by omega, by go_num, by rw [Hs.out], hxr⟩
          case measure => first | (simp [intOf]; done) | (simp [intOf]; omega)
      · obtain rfl : j = 2 * ls.length := by omega
        go_wp2
        go_ret
        exact ⟨ret_i (by rw [HV.out]), hx.trans hxr⟩
  · have hf' := eq_false_of_ne_true hf
    rw [if_neg hf] at HV
    go_enter Try.func30, Try.ntmps30
    go_wp2_with fail
    have k0 : (w.alloc (.cells #[.slice A ns.length c, .slice B ls.length d] 27)).cell? ⟨w.heap.size, 0, none⟩ = some (.slice A ns.length c) := by go_simp
    have k1 : (w.alloc (.cells #[.slice A ns.length c, .slice B ls.length d] 27)).cell? ⟨w.heap.size, 1, none⟩ = some (.slice B ls.length d) := by go_simp
    have hx : Ext w (w.alloc (.cells #[.slice A ns.length c, .slice B ls.length d] 27)) := (by repeat first | exact Ext.refl _ | assumption | refine Ext.drew ?_ | refine Ext.alloc ?_ _ | refine Ext.setCell ?_ (by simp) | refine Ext.setCell ?_ (by simp; omega) | refine Ext.trans ?_ (by assumption))
    have hsz1 : w.heap.size + 1 = (w.alloc (.cells #[.slice A ns.length c, .slice B ls.length d] 27)).heap.size := by simp
    generalize (w.alloc (.cells #[.slice A ns.length c, .slice B ls.length d] 27)) = w0 at *
    (try rw [hsz1])
    refine (hasFace_i _ _ _ _ ns ls f _ (h.ext hx)).mono ?_
    rintro e w1 ⟨rfl, hb⟩
    have k0 := hb.lit k0
    have k1 := hb.lit k1
    have hx := hx.trans hb
    clear hb
    rw [hf']
    go_wp2
    go_ret
    exact ⟨ret_i (by rw [HV.out]), hx⟩

/-! ### the faces around a node -/
def vFacesAround (ns ls : List P2) (k : Int) : List Int := if whole ns ls = true ∧ wi k 0 (ns.length - 1) = true then tab (arnd ns ls k).length (fun i => gi (vSides ns ls) ((arnd ns ls k).getD i 0 : Nat)) else []
theorem vFacesAround_len (ns ls : List P2) (k : Int) : (vFacesAround ns ls k).length ≤ 1000 := by
  unfold vFacesAround
  split
  · rename_i h
    have := (whole_ok h.1).1.le
    rw [tab_len]
    have := arnd_len40 ns ls k this
    omega
  · simp
set_option maxRecDepth 100000 in
set_option maxHeartbeats 2000000 in
theorem FacesAround_i (A B : Option Addr) (c d : Nat) (ns ls : List P2) (k : Int) (w : World) (h : Wn w A c B d ns ls) :
    Calls Try.prog 37 #[.agg #[.slice A ns.length c, .slice B ls.length d], .int .i64 k] w fun e w' => ∃ v, e = .returned v ∧ OwI w' w.heap.size v (vFacesAround ns ls k) ∧ Ext w w' := by
  have HV : Hid (vFacesAround ns ls k = if whole ns ls = true ∧ wi k 0 (ns.length - 1) = true then tab (arnd ns ls k).length (fun i => gi (vSides ns ls) ((arnd ns ls k).getD i 0 : Nat)) else []) := Lib.hid rfl
  by_cases hw : whole ns ls = true
  · skip
    obtain ⟨hW, hm0⟩ := whole_ok hw
    have hm := hW.le
    have hn := hW.hi
    have HSL := Lib.hid (vSides_len hw)
    have HWW := Lib.hid hw
    have HW := Lib.hid hW
    clear hW
    have HN : Hid (hasN ns ls k = wi k 0 (ns.length - 1)) := Lib.hid (by unfold hasN; rw [wok_iff.2 HW.out, Bool.true_and])
    go_enter Try.func37, Try.ntmps37
    go_wp2_with fail
    have k0 : (w.alloc (.cells #[.slice A ns.length c, .slice B ls.length d] 27)).cell? ⟨w.heap.size, 0, none⟩ = some (.slice A ns.length c) := by go_simp
    have k1 : (w.alloc (.cells #[.slice A ns.length c, .slice B ls.length d] 27)).cell? ⟨w.heap.size, 1, none⟩ = some (.slice B ls.length d) := by go_simp
    have hx : Ext w (w.alloc (.cells #[.slice A ns.length c, .slice B ls.length d] 27)) := (by repeat first | exact Ext.refl _ | assumption | refine Ext.drew ?_ | refine Ext.alloc ?_ _ | refine Ext.setCell ?_ (by simp) | refine Ext.setCell ?_ (by simp; omega) | refine Ext.trans ?_ (by assumption))
    have hsz1 : w.heap.size + 1 = (w.alloc (.cells #[.slice A ns.length c, .slice B ls.length d] 27)).heap.size := by simp
    generalize (w.alloc (.cells #[.slice A ns.length c, .slice B ls.length d] 27)) = w0 at *
    (try rw [hsz1])
    refine (IsWhole_i _ _ _ _ ns ls _ (h.ext hx)).mono ?_
    rintro e w1 ⟨rfl, hb⟩
    have k0 := hb.lit k0
    have k1 := hb.lit k1
    have hx := hx.trans hb
    clear hb
    rw [hw]
    go_wp2_with fail
    refine (hasNode_c _ _ _ _ ns ls _ _ (h.ext hx)).mono ?_
    rintro e w2 ⟨rfl, hb⟩
    have k0 := hb.lit k0
    have k1 := hb.lit k1
    have hx := hx.trans hb
    clear hb
    rw [HN.out]
    by_cases hk : wi k 0 (ns.length - 1) = true
    · rw [if_pos ⟨hw, hk⟩] at HV
      rw [hk]
      obtain ⟨q1, q2⟩ := wi_iff.1 hk
      obtain ⟨k', rfl⟩ := Int.eq_ofNat_of_zero_le q1
      have hkn : k' < ns.length := by omega
      go_wp2_with fail
      refine (facesAt_i _ _ _ _ ns ls _ (h.ext hx)).mono ?_
      rintro e w3 ⟨v, rfl, hS, -, hb⟩
      obtain ⟨gS, cS, rfl, -, -, -, -, -⟩ := hS.gi_ (j := 0) (by rw [HSL.out]; omega)
      rw [HSL.out] at hS
      rw [HSL.out]
      have k0 := hb.lit k0
      have k1 := hb.lit k1
      have hx := hx.trans hb
      clear hb
      go_wp2_with fail
      refine (around_c A B c d ns ls k' _ (h.ext hx) HW.out hkn).mono ?_
      rintro e w4 ⟨v, rfl, hR, hb⟩
      have hS := hS.ext hb
      have k0 := hb.lit k0
      have k1 := hb.lit k1
      have hx := hx.trans hb
      clear hb
      have HM := Lib.hid (fun x (hx : x ∈ arnd ns ls k') => (arnd_mem.1 hx).1)
      have hal := arnd_len40 ns ls k' hm
      generalize arnd ns ls k' = R at *
      generalize hSS : vSides ns ls = S at *
      clear hSS
      have HNL := Lib.hid (nl_len R)
      have HT : Hid (∀ j, tab (j + 1) (fun i => gi S (R.getD i 0 : Nat)) = tab j (fun i => gi S (R.getD i 0 : Nat)) ++ [gi S (R.getD j 0 : Nat)]) := Lib.hid (fun j => tab_snoc _ _)
      have HTL0 : Hid (∀ j, (tab j (fun i => gi S (R.getD i 0 : Nat))).length = j) := Lib.hid (fun j => tab_len _ _)
      have HT0 : Hid (tab 0 (fun i => gi S (R.getD i 0 : Nat)) = []) := Lib.hid rfl
      generalize (fun i => gi S (R.getD i 0 : Nat)) = G at *
      obtain ⟨A4, c4, rfl, -, -, hR⟩ := hR.shape
      rw [HNL.out]
      go_wp2_with fail
      go_loopw [6, 8, 24] (fun v _ i wr => ∃ j : Nat, j ≤ R.length ∧ i = .int .i64 j ∧ OzI wr w.heap.size w4.heap.size v (tab j G) ∧ Ext w4 wr) (fun _ _ i _ => R.length - (intOf i).toNat)
      case atStart => exact ⟨0, by omega, rfl, .of (by rw [HT0.out]; exact OwI.nil _ _), Ext.refl _⟩
      case round =>
        obtain ⟨j, hj, rfl, hv, hxr⟩ := hrel
        obtain ⟨w3, rfl⟩ : ∃ x : World, x = wr := ⟨_, rfl⟩
        by_cases hlt : j < R.length
        · obtain ⟨gb, off, rfl, hbb, c3⟩ := (hR.ext hxr).gi_ (k := j) (by rw [HNL.out]; exact hlt)
          rw [nl_gi R hlt] at c3
          have HTS := Lib.hid (HT.out j)
          have HTL := Lib.hid (HTL0.out j)
          have hxm := HM.out (R.getD j 0) (by rw [getD_at R hlt]; exact List.getElem_mem hlt)
          generalize R.getD j 0 = x at *
          have c5 := ((hS.ext hxr).cel (j := x) (by rw [HSL.out]; exact hxm)).1
          have hxi : (x : Int) < 2 * (ls.length : Int) := by omega
          generalize gi S (x : Int) = y at *
          have hsz := hxr.size
          go_wp2_with (at_builtin; refine az_int _ _ rfl rfl rfl (hv.ext (by repeat first | exact Ext.refl _ | assumption | refine Ext.drew ?_ | refine Ext.alloc ?_ _ | refine Ext.setCell ?_ (by simp) | refine Ext.setCell ?_ (by simp; omega) | refine Ext.trans ?_ (by assumption))) (g := w3.heap.size) (y := y) (by first | rfl | simp) (by go_simp) (by rw [HTL.out]; omega) (by simp; omega) ?_)
          intro v' w' h1 h3
          go_wp2
          go_roundw
          case rel => exact ⟨j + 1, by omega, by go_num, by rw [HTS.out]; exact h1, h3 _ (hxr.trans (by repeat first | exact Ext.refl _ | assumption | refine Ext.drew ?_ | refine Ext.alloc ?_ _ | refine Ext.setCell ?_ (by simp) | refine Ext.setCell ?_ (by simp; omega) | refine Ext.trans ?_ (by assumption))) (Nat.le_refl _)⟩
          case measure => first | (simp [intOf]; done) | (simp [intOf]; omega)
        · obtain rfl : j = R.length := by omega
          have hww := hx.size
          go_wp2
          go_ret
          exact ⟨_, rfl, by rw [HV.out]; exact hv.own (by omega), hx.trans hxr⟩
    · have hk' := eq_false_of_ne_true hk
      rw [if_neg (fun e => hk e.2)] at HV
      rw [hk']
      go_wp2
      go_ret
      exact ⟨_, rfl, by rw [HV.out]; exact OwI.nil _ _, hx⟩
  · have hw' := eq_false_of_ne_true hw
    rw [if_neg (fun e => hw e.1)] at HV
    go_enter Try.func37, Try.ntmps37
    go_wp2_with fail
    have k0 : (w.alloc (.cells #[.slice A ns.length c, .slice B ls.length d] 27)).cell? ⟨w.heap.size, 0, none⟩ = some (.slice A ns.length c) := by go_simp
    have k1 : (w.alloc (.cells #[.slice A ns.length c, .slice B ls.length d] 27)).cell? ⟨w.heap.size, 1, none⟩ = some (.slice B ls.length d) := by go_simp
    have hx : Ext w (w.alloc (.cells #[.slice A ns.length c, .slice B ls.length d] 27)) := (by repeat first | exact Ext.refl _ | assumption | refine Ext.drew ?_ | refine Ext.alloc ?_ _ | refine Ext.setCell ?_ (by simp) | refine Ext.setCell ?_ (by simp; omega) | refine Ext.trans ?_ (by assumption))
    have hsz1 : w.heap.size + 1 = (w.alloc (.cells #[.slice A ns.length c, .slice B ls.length d] 27)).heap.size := by simp
    generalize (w.alloc (.cells #[.slice A ns.length c, .slice B ls.length d] 27)) = w0 at *
    (try rw [hsz1])
    refine (IsWhole_i _ _ _ _ ns ls _ (h.ext hx)).mono ?_
    rintro e w1 ⟨rfl, hb⟩
    have k0 := hb.lit k0
    have k1 := hb.lit k1
    have hx := hx.trans hb
    clear hb
    rw [hw']
    go_wp2
    go_ret
    exact ⟨_, rfl, by rw [HV.out]; exact OwI.nil _ _, hx⟩
end Go.Proofs.Ytdhmjhoaegdfjaa
