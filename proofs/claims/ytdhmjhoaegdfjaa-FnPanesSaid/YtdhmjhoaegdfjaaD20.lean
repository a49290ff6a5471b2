import Derived.Test.YtdhmjhoaegdfjaaD19
import Derived.Test.YtdhmjhoaegdfjaaG18
namespace Go.Proofs.Ytdhmjhoaegdfjaa
open Go.RowKit Go.Sort Go.BigFrame

set_option maxRecDepth 100000 in
set_option maxHeartbeats 8000000 in
theorem l06Area_c (A B : Option Addr) (c d : Nat) (ns ls : List P2) (X : Option Addr) (xc : Nat) (row : List Nat) (w : World) (h : Wn w A c B d ns ls) (hW : WOk ns ls) (hX : In w w.heap.size X (nl row)) (hr : ∀ i, i < row.length → row.getD i 0 < 2 * ls.length) (hl : row.length ≤ 40) :
    Calls Try.prog 88 #[.agg #[.slice A ns.length c, .slice B ls.length d], .slice X row.length xc] w fun e w' => e = .returned (.int .i64 (area ns ls row)) ∧ Ext w w' := by
  have hn := hW.hi
  have hm := hW.le
  have HW := Lib.hid hW
  have HRB := Lib.hid (areaR_bd hW hr)
  have HR := Lib.hid hr
  have HA : Hid (area ns ls row = areaR ns ls row row.length) := Lib.hid rfl
  have HAS : Hid (∀ j, areaR ns ls row (j + 1) = areaR ns ls row j + crs ns ls (row.getD j 0)) := Lib.hid (fun _ => rfl)
  have HC : Hid (∀ x, crs ns ls x = (gp ns (dEnds ls x).1).1 * (gp ns (dEnds ls x).2).2 - (gp ns (dEnds ls x).1).2 * (gp ns (dEnds ls x).2).1) := Lib.hid (fun _ => rfl)
  have HNL := Lib.hid (nl_len row)
  have HA0 : Hid (areaR ns ls row 0 = 0) := Lib.hid rfl
  clear hW hr
  go_enter Try.func88, Try.ntmps88
  go_wp2_with fail
  have k0 : (w.alloc (.cells #[.slice A ns.length c, .slice B ls.length d] 27)).cell? ⟨w.heap.size, 0, none⟩ = some (.slice A ns.length c) := by go_simp
  have k1 : (w.alloc (.cells #[.slice A ns.length c, .slice B ls.length d] 27)).cell? ⟨w.heap.size, 1, none⟩ = some (.slice B ls.length d) := by go_simp
  have hx : Ext w (w.alloc (.cells #[.slice A ns.length c, .slice B ls.length d] 27)) := (by repeat first | exact Ext.refl _ | assumption | refine Ext.drew ?_ | refine Ext.alloc ?_ _ | refine Ext.setCell ?_ (by simp) | refine Ext.setCell ?_ (by simp; omega) | refine Ext.trans ?_ (by assumption))
  have hsz1 : w.heap.size + 1 = (w.alloc (.cells #[.slice A ns.length c, .slice B ls.length d] 27)).heap.size := by simp
  generalize (w.alloc (.cells #[.slice A ns.length c, .slice B ls.length d] 27)) = w1 at *
  (try rw [hsz1])
  go_loopw [5, 6, 7, 8] (fun n i _ _ wr => ∃ j : Nat, j ≤ row.length ∧ i = .int .i64 j ∧ n = .int .i64 (areaR ns ls row j) ∧ Ext w1 wr) (fun _ i _ _ _ => row.length - (intOf i).toNat)
  case atStart => exact ⟨0, by omega, rfl, by rw [HA0.out], Ext.refl _⟩
  case round =>
    obtain ⟨j, hj, rfl, rfl, hxr⟩ := hrel
    obtain ⟨wo, rfl⟩ : ∃ x : World, x = wr := ⟨_, rfl⟩
    have hx0 := hx.trans hxr
    have k0 := hxr.lit k0
    have k1 := hxr.lit k1
    by_cases hlt : j < row.length
    · skip
      obtain ⟨xb, xo, rfl, hxb, c1⟩ := (hX.ext hx0).gi_ (k := j) (by rw [HNL.out]; exact hlt)
      rw [nl_gi row hlt] at c1
      have hxd := HR.out j hlt
      have HSj := Lib.hid (HAS.out j)
      have hbd := HRB.out j (by omega)
      generalize areaR ns ls row j = q at *
      have HCx := Lib.hid (HC.out (row.getD j 0))
      generalize row.getD j 0 = x at *
      obtain ⟨f, t, hft, hf, ht⟩ := dEnds_ok HW.out hxd
      have HFT := Lib.hid hft
      have q1 := nok_bd (nok_at HW.out hf)
      have q2 := nok_bd (nok_at HW.out ht)
      rw [hft] at HCx
      obtain ⟨bb, off, rfl, hbb, n1, n2⟩ := (h.ext hx0).h.gp_ hf
      obtain ⟨b', off', hA', hbb', n3, n4⟩ := (h.ext hx0).h.gp_ ht
      obtain ⟨rfl, rfl⟩ : bb = b' ∧ off = off' := by simpa using hA'
      have u1 : (f : Int) < ns.length := by omega
      have u2 : (t : Int) < ns.length := by omega
      generalize gp ns f = Y at *
      generalize gp ns t = Z at *
      obtain ⟨ax, ay⟩ := Y
      obtain ⟨bx, by'⟩ := Z
      have m1 := mul_bd (x := ax) (y := by') (by simp at *; omega) (by simp at *; omega) (by simp at *; omega) (by simp at *; omega)
      have m2 := mul_bd (x := ay) (y := bx) (by simp at *; omega) (by simp at *; omega) (by simp at *; omega) (by simp at *; omega)
      have hqb : -16000 ≤ q ∧ q ≤ 16000 := by omega
      rw [HCx.out] at HSj
      clear hA' hft q1 q2 hbd HCx hbb' 
      have hji : (j : Int) < row.length := by omega
      go_upto_region 5 with fail
      go_cut [7, 8] (fun s7 s8 wx => s7 = .int .i64 (f : Int) ∧ s8 = .int .i64 (t : Int) ∧ Ext wo wx)
      case first =>
        have d0 := cell_regrown k0
        have d1 := cell_regrown k1
        have d3 := cell_regrown c1
        refine rx_open [(true, 0, some 16, 4), (true, 0, some 17, 2), (true, 0, some 18, 64), (true, 6, some 19, 393216), (true, 8, some 20, 524288), (false, 17, some 21, 1114112), (true, 32, some 15, 2097152), (true, 64, some 22, 32768), (true, 64, some 23, 32768), (true, 255, some 7, 4194304), (true, 1023, some 8, 8388608)] 0 11 mixd rfl (by kernel_rfl) (by kernel_rfl) (by kernel_rfl) ?_
        refine rx_run (run := [0, 1, 2, 3, 4]) (k := 6) (m' := 31) rfl (by kernel_rfl) (by kernel_rfl) (by kernel_rfl) (fm_cons rfl <| fm_cons rfl <| fm_cons rfl <| fm_cons rfl <| fm_cons rfl <| List.filterMap_nil) (by repeat first | exact Ext.refl _ | assumption | refine Ext.drew ?_ | refine Ext.alloc ?_ _ | refine Ext.setCell ?_ (by simp) | refine Ext.setCell ?_ (by simp; omega) | refine Ext.trans ?_ (by assumption)) ?_
        repeat (go_big_quiet_step ((fail)))
        refine wpQuiet_nil ?_
        refine rx_op 5 (k := 5) (m' := 63) rfl rfl (by kernel_rfl) (by kernel_rfl) ?_
        go_wp2_with ((go_at_call 121; refine (l05Ends_s _ B c d ns ls x _ (h.ext (hx0.trans (by repeat first | exact Ext.refl _ | assumption | refine Ext.drew ?_ | refine Ext.alloc ?_ _ | refine Ext.setCell ?_ (by simp) | refine Ext.setCell ?_ (by simp; omega) | refine Ext.trans ?_ (by assumption)))) hxd).mono ?_; rw [HFT.out]; rintro e w5 ⟨rfl, hb5⟩))
        refine rx_on (by repeat first | exact Ext.refl _ | assumption | refine Ext.drew ?_ | refine Ext.alloc ?_ _ | refine Ext.setCell ?_ (by simp) | refine Ext.setCell ?_ (by simp; omega) | refine Ext.trans ?_ (by assumption)) ?_
        refine rx_run (run := [6, 7, 8, 9, 10]) (k := 0) (m' := 2047) rfl (by kernel_rfl) (by kernel_rfl) (by kernel_rfl) (fm_cons rfl <| fm_cons rfl <| fm_cons rfl <| fm_cons rfl <| fm_cons rfl <| List.filterMap_nil) (by repeat first | exact Ext.refl _ | assumption | refine Ext.drew ?_ | refine Ext.alloc ?_ _ | refine Ext.setCell ?_ (by simp) | refine Ext.setCell ?_ (by simp; omega) | refine Ext.trans ?_ (by assumption)) ?_
        repeat (go_big_quiet_step ((fail)))
        refine wpQuiet_nil ?_
        refine rx_end (by kernel_rfl) ?_
        all_goals (go_wp2; go_meet; exact ⟨rfl, rfl, (by repeat first | exact Ext.refl _ | assumption | refine Ext.drew ?_ | refine Ext.alloc ?_ _ | refine Ext.setCell ?_ (by simp) | refine Ext.setCell ?_ (by simp; omega) | refine Ext.trans ?_ (by assumption))⟩)
      case rest =>
        obtain ⟨rfl, rfl, hb⟩ := hcut
        obtain ⟨w3, rfl⟩ : ∃ x : World, x = wc := ⟨_, rfl⟩
        have hxr := hxr.trans hb
        have k0 := hb.lit k0
        have k1 := hb.lit k1
        have n1 := hb.lit n1
        have n2 := hb.lit n2
        have n3 := hb.lit n3
        have n4 := hb.lit n4
        clear hb c1
        go_wp2_with fail
        have d0 := cell_regrown k0
        have d3 := cell_regrown n1
        have d4 := cell_regrown n2
        have d5 := cell_regrown n3
        have d6 := cell_regrown n4
        refine rx_open [(true, 0, some 24, 32), (true, 0, some 25, 4), (true, 2, some 26, 33554432), (true, 0, some 27, 128), (true, 12, some 28, 201326592), (true, 16, some 29, 268435456), (true, 32, some 30, 536870912), (true, 0, some 31, 4), (true, 128, some 32, 2147483648), (true, 0, some 33, 256), (true, 768, some 34, 12884901888), (true, 1024, some 35, 17179869184), (true, 2048, some 36, 34359738368), (true, 4160, some 37, 69793218560), (true, 8193, some 38, 137455730688), (true, 0, some 39, 4), (true, 32768, some 40, 549755813888), (true, 0, some 41, 128), (true, 196608, some 42, 3298534883328), (true, 262144, some 43, 4398046511104), (true, 524288, some 44, 8796093022208), (true, 0, some 45, 4), (true, 2097152, some 46, 35184372088832), (true, 0, some 47, 256), (true, 12582912, some 48, 211106232532992), (true, 16777216, some 49, 281474976710656), (true, 33554432, some 50, 562949953421312), (true, 68157440, some 51, 1143492092887040), (true, 134234112, some 52, 2252074691592192), (true, 536870911, some 5, 4503599627370496)] 0 30 mixd rfl (by kernel_rfl) (by kernel_rfl) (by kernel_rfl) ?_
        refine rx_run (run := [0, 1, 2, 3, 4, 5, 6, 7, 8, 9, 10, 11, 12, 13, 14, 15, 16, 17, 18, 19, 20, 21, 22, 23, 24, 25, 26, 27, 28, 29]) (k := 0) (m' := 1073741823) rfl (by kernel_rfl) (by kernel_rfl) (by kernel_rfl) (fm_cons rfl <| fm_cons rfl <| fm_cons rfl <| fm_cons rfl <| fm_cons rfl <| fm_cons rfl <| fm_cons rfl <| fm_cons rfl <| fm_cons rfl <| fm_cons rfl <| fm_cons rfl <| fm_cons rfl <| fm_cons rfl <| fm_cons rfl <| fm_cons rfl <| fm_cons rfl <| fm_cons rfl <| fm_cons rfl <| fm_cons rfl <| fm_cons rfl <| fm_cons rfl <| fm_cons rfl <| fm_cons rfl <| fm_cons rfl <| fm_cons rfl <| fm_cons rfl <| fm_cons rfl <| fm_cons rfl <| fm_cons rfl <| fm_cons rfl <| List.filterMap_nil) (by repeat first | exact Ext.refl _ | assumption | refine Ext.drew ?_ | refine Ext.alloc ?_ _ | refine Ext.setCell ?_ (by simp) | refine Ext.setCell ?_ (by simp; omega) | refine Ext.trans ?_ (by assumption)) ?_
        repeat (go_big_quiet_step ((fail)))
        refine wpQuiet_nil ?_
        refine rx_end (by kernel_rfl) ?_
        go_wp2
        go_roundw
        case rel => exact ⟨j + 1, by omega, by go_num, by rw [HSj.out]; first | rfl | (congr 1; omega), hxr.trans (by repeat first | exact Ext.refl _ | assumption | refine Ext.drew ?_ | refine Ext.alloc ?_ _ | refine Ext.setCell ?_ (by simp) | refine Ext.setCell ?_ (by simp; omega) | refine Ext.trans ?_ (by assumption))⟩
        case measure => first | (simp [intOf]; done) | (simp [intOf]; omega)
    · obtain rfl : j = row.length := by omega
      go_wp2
      go_ret
      exact ⟨ret_i (by rw [HA.out]), hx0⟩

/-! ### the outer face -/
def vOuter (ns ls : List P2) : Int := ffst (fun f => decide (area ns ls ((vFaces ns ls).getD f []) ≤ 0)) (vFaces ns ls).length
set_option maxRecDepth 100000 in
set_option maxHeartbeats 4000000 in
theorem OuterFace_i (A B : Option Addr) (c d : Nat) (ns ls : List P2) (w : World) (h : Wn w A c B d ns ls) :
    Calls Try.prog 86 #[.agg #[.slice A ns.length c, .slice B ls.length d]] w fun e w' => e = .returned (.int .i64 (vOuter ns ls)) ∧ Ext w w' := by
  have HV : Hid (vOuter ns ls = ffst (fun f => decide (area ns ls ((vFaces ns ls).getD f []) ≤ 0)) (vFaces ns ls).length) := Lib.hid rfl
  have HP : Hid (∀ f, (fun f => decide (area ns ls ((vFaces ns ls).getD f []) ≤ 0)) f = decide (area ns ls ((vFaces ns ls).getD f []) ≤ 0)) := Lib.hid (fun _ => rfl)
  have HR : Hid (∀ f, f < (vFaces ns ls).length → WOk ns ls ∧ ((vFaces ns ls).getD f []).length ≤ 40 ∧ ∀ i, i < ((vFaces ns ls).getD f []).length → ((vFaces ns ls).getD f []).getD i 0 < 2 * ls.length) := Lib.hid (fun f hf => by
    obtain ⟨h1, h2, h3, h4⟩ := row_facts hf
    have := h1.le
    exact ⟨h1, by omega, h4⟩)
  have hFl := vFaces_len ns ls
  generalize (fun f => decide (area ns ls ((vFaces ns ls).getD f []) ≤ 0)) = P at *
  go_enter Try.func86, Try.ntmps86
  go_wp2_with fail
  have k0 : (w.alloc (.cells #[.slice A ns.length c, .slice B ls.length d] 27)).cell? ⟨w.heap.size, 0, none⟩ = some (.slice A ns.length c) := by go_simp
  have k1 : (w.alloc (.cells #[.slice A ns.length c, .slice B ls.length d] 27)).cell? ⟨w.heap.size, 1, none⟩ = some (.slice B ls.length d) := by go_simp
  have hx : Ext w (w.alloc (.cells #[.slice A ns.length c, .slice B ls.length d] 27)) := (by repeat first | exact Ext.refl _ | assumption | refine Ext.drew ?_ | refine Ext.alloc ?_ _ | refine Ext.setCell ?_ (by simp) | refine Ext.setCell ?_ (by simp; omega) | refine Ext.trans ?_ (by assumption))
  have hsz1 : w.heap.size + 1 = (w.alloc (.cells #[.slice A ns.length c, .slice B ls.length d] 27)).heap.size := by simp
  generalize (w.alloc (.cells #[.slice A ns.length c, .slice B ls.length d] 27)) = w0 at *
  (try rw [hsz1])
  refine (FacesOf_i _ _ _ _ ns ls _ (h.ext hx)).mono ?_
  rintro e w1 ⟨v, rfl, hF, -, hb⟩
  have k0 := hb.lit k0
  have k1 := hb.lit k1
  have hx := hx.trans hb
  clear hb
  generalize vFaces ns ls = L at *
  obtain ⟨A1, c1, rfl, -⟩ := hF.shape
  go_wp2_with fail
  go_loopw [3, 4, 8] (fun _ _ i wr => ∃ j : Nat, j ≤ L.length ∧ i = .int .i64 j ∧ Hid (∀ i, i < j → P i = false) ∧ Ext w1 wr) (fun _ _ i _ => L.length - (intOf i).toNat)
  case atStart => exact ⟨0, by omega, rfl, Lib.hid (fun i hi => by omega), Ext.refl _⟩
  case round =>
    obtain ⟨j, hj, rfl, hpr, hxr⟩ := hrel
    obtain ⟨wo, rfl⟩ : ∃ x : World, x = wr := ⟨_, rfl⟩
    have k0 := hxr.lit k0
    have k1 := hxr.lit k1
    by_cases hlt : j < L.length
    · skip
      have hP := HP.out j
      obtain ⟨hW, r1, r2⟩ := HR.out j hlt
      have HW := Lib.hid hW
      have HR2 := Lib.hid r2
      obtain ⟨g, c0, A', c', e, e1, e2⟩ := (hF.ext hxr).at_ hlt
      obtain ⟨rfl, rfl⟩ : A1 = some ⟨g, 0, none⟩ ∧ c1 = c0 := by simpa using e
      have e2 := e2.in'
      have Hk : P j = false → Hid (∀ i, i < j + 1 → P i = false) := fun h => Lib.hid (first_step hpr.out h)
      have Hy : P j = true → Hid (ffst P L.length = j) := fun h => Lib.hid (ffst_yes hlt h hpr.out)
      have hji : (j : Int) < L.length := by omega
      clear e hpr hW r2
      generalize L.getD j [] = row at *
      go_wp2_with fail
      refine (areaOf_c A B c d ns ls A' c' row _ (h.ext (hx.trans hxr)) HW.out e2 HR2.out r1).mono ?_
      rintro e w3 ⟨rfl, hb⟩
      have hxr := hxr.trans hb
      clear hb e1 e2 k0 k1
      generalize area ns ls row = q at *
      by_cases hq : q ≤ 0
      · have hd : decide (q ≤ 0) = true := decide_eq_true hq
        have Hs := Hy (by rw [hP, hd])
        go_wp2
        go_ret
        exact ⟨ret_i (by rw [HV.out, Hs.out]), hx.trans hxr⟩
      · have hd : decide (q ≤ 0) = false := decide_eq_false hq
        have Hs := Hk (by rw [hP, hd])
        go_wp2
        go_roundw
        case rel => exact ⟨j + 1, by omega, by go_num, Hs, hxr⟩
        case measure => first | (simp [intOf]; done) | (simp [intOf]; omega)
    · obtain rfl : j = L.length := by omega
      have Hn := Lib.hid (ffst_no hpr.out)
      go_wp2
      go_ret
      exact ⟨ret_i (by rw [HV.out, Hn.out]), hx.trans hxr⟩

set_option maxRecDepth 100000 in
set_option maxHeartbeats 4000000 in
theorem OuterFace_s (A B : Option Addr) (c d : Nat) (ns ls : List P2) (w : World) (h : Wn w A c B d ns ls) :
    Calls Try.prog 45 #[.agg #[.slice A ns.length c, .slice B ls.length d]] w fun e w' => e = .returned (.int .i64 (vOuter ns ls)) ∧ Ext w w' := by
  have HV : Hid (vOuter ns ls = ffst (fun f => decide (area ns ls ((vFaces ns ls).getD f []) ≤ 0)) (vFaces ns ls).length) := Lib.hid rfl
  have HP : Hid (∀ f, (fun f => decide (area ns ls ((vFaces ns ls).getD f []) ≤ 0)) f = decide (area ns ls ((vFaces ns ls).getD f []) ≤ 0)) := Lib.hid (fun _ => rfl)
  have HR : Hid (∀ f, f < (vFaces ns ls).length → WOk ns ls ∧ ((vFaces ns ls).getD f []).length ≤ 40 ∧ ∀ i, i < ((vFaces ns ls).getD f []).length → ((vFaces ns ls).getD f []).getD i 0 < 2 * ls.length) := Lib.hid (fun f hf => by
    obtain ⟨h1, h2, h3, h4⟩ := row_facts hf
    have := h1.le
    exact ⟨h1, by omega, h4⟩)
  have hFl := vFaces_len ns ls
  generalize (fun f => decide (area ns ls ((vFaces ns ls).getD f []) ≤ 0)) = P at *
  go_enter Try.func45, Try.ntmps45
  go_wp2_with fail
  have k0 : (w.alloc (.cells #[.slice A ns.length c, .slice B ls.length d] 27)).cell? ⟨w.heap.size, 0, none⟩ = some (.slice A ns.length c) := by go_simp
  have k1 : (w.alloc (.cells #[.slice A ns.length c, .slice B ls.length d] 27)).cell? ⟨w.heap.size, 1, none⟩ = some (.slice B ls.length d) := by go_simp
  have hx : Ext w (w.alloc (.cells #[.slice A ns.length c, .slice B ls.length d] 27)) := (by repeat first | exact Ext.refl _ | assumption | refine Ext.drew ?_ | refine Ext.alloc ?_ _ | refine Ext.setCell ?_ (by simp) | refine Ext.setCell ?_ (by simp; omega) | refine Ext.trans ?_ (by assumption))
  have hsz1 : w.heap.size + 1 = (w.alloc (.cells #[.slice A ns.length c, .slice B ls.length d] 27)).heap.size := by simp
  generalize (w.alloc (.cells #[.slice A ns.length c, .slice B ls.length d] 27)) = w0 at *
  (try rw [hsz1])
  refine (FacesOf_s _ _ _ _ ns ls _ (h.ext hx)).mono ?_
  rintro e w1 ⟨v, rfl, hF, hb⟩
  have k0 := hb.lit k0
  have k1 := hb.lit k1
  have hx := hx.trans hb
  clear hb
  generalize vFaces ns ls = L at *
  obtain ⟨A1, c1, rfl, -⟩ := hF.shape
  go_wp2_with fail
  go_loopw [4] (fun i wr => ∃ j : Nat, j ≤ L.length ∧ i = .int .i64 j ∧ Hid (∀ i, i < j → P i = false) ∧ Ext w1 wr) (fun i _ => L.length - (intOf i).toNat)
  case atStart => exact ⟨0, by omega, rfl, Lib.hid (fun i hi => by omega), Ext.refl _⟩
  case round =>
    obtain ⟨j, hj, rfl, hpr, hxr⟩ := hrel
    obtain ⟨wo, rfl⟩ : ∃ x : World, x = wr := ⟨_, rfl⟩
    have k0 := hxr.lit k0
    have k1 := hxr.lit k1
    by_cases hlt : j < L.length
    · skip
      have hP := HP.out j
      obtain ⟨hW, r1, r2⟩ := HR.out j hlt
      have HW := Lib.hid hW
      have HR2 := Lib.hid r2
      obtain ⟨g, c0, A', c', e, e1, e2⟩ := (hF.ext hxr).at_ hlt
      obtain ⟨rfl, rfl⟩ : A1 = some ⟨g, 0, none⟩ ∧ c1 = c0 := by simpa using e
      have e2 := e2.in'
      have Hk : P j = false → Hid (∀ i, i < j + 1 → P i = false) := fun h => Lib.hid (first_step hpr.out h)
      have Hy : P j = true → Hid (ffst P L.length = j) := fun h => Lib.hid (ffst_yes hlt h hpr.out)
      have hji : (j : Int) < L.length := by omega
      clear e hpr hW r2
      generalize L.getD j [] = row at *
      have HQ : Hid (area ns ls row = area ns ls row) := Lib.hid rfl
      generalize hqq : area ns ls row = q at *
      have HQ := Lib.hid hqq
      clear hqq
      go_upto_region 5 with fail
      go_cut [19] (fun s wx => s = .bool (decide (q ≤ 0)) ∧ Ext wo wx)
      case first =>
        have d0 := cell_regrown k0
        have d1 := cell_regrown k1
        have d2 := cell_regrown e1
        refine rx_open [(true, 0, some 13, 2), (true, 0, some 14, 8), (true, 0, some 15, 16), (true, 6, some 16, 49152), (true, 8, some 17, 65536), (false, 17, some 18, 139264), (true, 32, some 19, 262144)] 0 7 mixd rfl (by kernel_rfl) (by kernel_rfl) (by kernel_rfl) ?_
        refine rx_run (run := [0, 1, 2, 3, 4]) (k := 2) (m' := 31) rfl (by kernel_rfl) (by kernel_rfl) (by kernel_rfl) (fm_cons rfl <| fm_cons rfl <| fm_cons rfl <| fm_cons rfl <| fm_cons rfl <| List.filterMap_nil) (by repeat first | exact Ext.refl _ | assumption | refine Ext.drew ?_ | refine Ext.alloc ?_ _ | refine Ext.setCell ?_ (by simp) | refine Ext.setCell ?_ (by simp; omega) | refine Ext.trans ?_ (by assumption)) ?_
        repeat (go_big_quiet_step ((fail)))
        refine wpQuiet_nil ?_
        refine rx_op 5 (k := 1) (m' := 63) rfl rfl (by kernel_rfl) (by kernel_rfl) ?_
        go_wp2_with ((go_at_call 88; refine (l06Area_c A B c d ns ls A' c' row _ (h.ext ((hx.trans hxr).trans (by repeat first | exact Ext.refl _ | assumption | refine Ext.drew ?_ | refine Ext.alloc ?_ _ | refine Ext.setCell ?_ (by simp) | refine Ext.setCell ?_ (by simp; omega) | refine Ext.trans ?_ (by assumption)))) HW.out (e2.ext (by repeat first | exact Ext.refl _ | assumption | refine Ext.drew ?_ | refine Ext.alloc ?_ _ | refine Ext.setCell ?_ (by simp) | refine Ext.setCell ?_ (by simp; omega) | refine Ext.trans ?_ (by assumption))) HR2.out r1).mono ?_; rw [HQ.out]; rintro e w5 ⟨rfl, hb5⟩))
        refine rx_on (by repeat first | exact Ext.refl _ | assumption | refine Ext.drew ?_ | refine Ext.alloc ?_ _ | refine Ext.setCell ?_ (by simp) | refine Ext.setCell ?_ (by simp; omega) | refine Ext.trans ?_ (by assumption)) ?_
        refine rx_run (run := [6]) (k := 0) (m' := 127) rfl (by kernel_rfl) (by kernel_rfl) (by kernel_rfl) (fm_cons rfl <| List.filterMap_nil) (by repeat first | exact Ext.refl _ | assumption | refine Ext.drew ?_ | refine Ext.alloc ?_ _ | refine Ext.setCell ?_ (by simp) | refine Ext.setCell ?_ (by simp; omega) | refine Ext.trans ?_ (by assumption)) ?_
        repeat (go_big_quiet_step ((fail)))
        refine wpQuiet_nil ?_
        refine rx_end (by kernel_rfl) ?_
        all_goals (go_wp2; go_meet; exact ⟨rfl, (by repeat first | exact Ext.refl _ | assumption | refine Ext.drew ?_ | refine Ext.alloc ?_ _ | refine Ext.setCell ?_ (by simp) | refine Ext.setCell ?_ (by simp; omega) | refine Ext.trans ?_ (by assumption))⟩)
      case rest =>
        obtain ⟨rfl, hb⟩ := hcut
        obtain ⟨w3, rfl⟩ : ∃ x : World, x = wc := ⟨_, rfl⟩
        have hxr := hxr.trans hb
        clear hb e1 e2 k0 k1
        by_cases hq : q ≤ 0
        · have hd : decide (q ≤ 0) = true := decide_eq_true hq
          have Hs := Hy (by rw [hP, hd])
          rw [hd]
          go_wp2
          go_ret
          exact ⟨ret_i (by rw [HV.out, Hs.out]), hx.trans hxr⟩
        · have hd : decide (q ≤ 0) = false := decide_eq_false hq
          have Hs := Hk (by rw [hP, hd])
          rw [hd]
          go_wp2
          go_roundw
          case rel => exact ⟨j + 1, by omega, by go_num, Hs, hxr⟩
          case measure => first | (simp [intOf]; done) | (simp [intOf]; omega)
    · obtain rfl : j = L.length := by omega
      have Hn := Lib.hid (ffst_no hpr.out)
      go_wp2
      go_ret
      exact ⟨ret_i (by rw [HV.out, Hn.out]), hx.trans hxr⟩

/-! ### panes -/
set_option maxHeartbeats 1000000 in
theorem hasInt_c (X : Option Addr) (c : Nat) (xs : List Int) (n : Int) (w : World) (hl : xs.length ≤ 2000000) (h : In w w.heap.size X xs) :
    Calls Try.prog 87 #[.slice X xs.length c, .int .i64 n] w fun e w' => e = .returned (.bool (hsI xs n)) ∧ w = w' := by
  go_enter Try.func87, Try.ntmps87
  go_wp2_with fail
  go_loop [6, 9] (fun _ i => ∃ j : Nat, j ≤ xs.length ∧ i = .int .i64 j ∧ Hid (∀ i : Nat, i < j → gi xs (i : Nat) ≠ n)) (fun _ i => xs.length - (intOf i).toNat)
  case atStart => exact ⟨0, by omega, rfl, Lib.hid (fun i hi => by omega)⟩
  case round =>
    obtain ⟨j, hj, rfl, ha⟩ := hrel
    by_cases hlt : j < xs.length
    · obtain ⟨b, off, rfl, hbb, c1⟩ := h.gi_ (k := j) hlt
      by_cases hq : gi xs (j : Nat) = n
      · have HE : Hid (hsI xs n = true) := Lib.hid (contains_iff_gi.2 ⟨j, hlt, hq⟩)
        rw [hq] at c1
        clear hq
        have hqq : (n == n) = true := by simp
        go_wp2
        go_ret
        exact ⟨ret_b (by rw [HE.out]), rfl⟩
      · have hk : Hid (∀ i : Nat, i < j + 1 → gi xs (i : Nat) ≠ n) := Lib.hid (fun i hi => by
          rcases Nat.lt_succ_iff_lt_or_eq.1 hi with h | h
          · exact ha.out i h
          · subst h; exact hq)
        have hqq : (gi xs (j : Nat) == n) = false := beq_eq_false_iff_ne.2 hq
        generalize gi xs (j : Nat) = x at *
        clear hq
        go_wp2
        go_round
        case rel => exact ⟨j + 1, by omega, by go_num, hk⟩
        case measure => simp [intOf]; omega
    · obtain rfl : j = xs.length := by omega
      have HE : Hid (hsI xs n = false) := Lib.hid (by
        unfold hsI
        rw [Bool.eq_false_iff]
        intro e
        obtain ⟨i, hi, e⟩ := contains_iff_gi.1 e
        exact ha.out i hi e)
      go_wp2
      go_ret
      exact ⟨ret_b (by rw [HE.out]), rfl⟩
theorem hasInt_k (X : Option Addr) (c k : Nat) (xs : List Int) (n : Int) (w : World) (hl : xs.length ≤ 2000000) (hk : k ≤ xs.length) (h : In w w.heap.size X xs) :
    Calls Try.prog 87 #[.slice X k c, .int .i64 n] w fun e w' => e = .returned (.bool (hsI (xs.take k) n)) ∧ w = w' := by
  have e : (xs.take k).length = k := by rw [List.length_take]; omega
  have := hasInt_c X c (xs.take k) n w (by omega) (h.take k)
  rwa [e] at this

def vIsPane (ns ls : List P2) (f : Int) : Bool := hasF ns ls f && decide (f ≠ vOuter ns ls) && dist (vPaneNodes ns ls f)
theorem pane_pos {ns ls : List P2} {f : Int} (h : hasF ns ls f = true) : 0 < (vPaneNodes ns ls f).length := by
  unfold vPaneNodes
  rw [if_pos h, tab_len]
  rw [hasF_iff] at h
  exact (row_facts (ns := ns) (ls := ls) (f := f.toNat) (by omega)).2.1
theorem pane_nil {ns ls : List P2} {f : Int} (h : hasF ns ls f = false) : vPaneNodes ns ls f = [] := by
  unfold vPaneNodes
  rw [h, if_neg (by simp)]
set_option maxRecDepth 100000 in
set_option maxHeartbeats 4000000 in
theorem IsPane_i (A B : Option Addr) (c d : Nat) (ns ls : List P2) (f : Int) (w : World) (h : Wn w A c B d ns ls) :
    Calls Try.prog 42 #[.agg #[.slice A ns.length c, .slice B ls.length d], .int .i64 f] w fun e w' => e = .returned (.bool (vIsPane ns ls f)) ∧ Ext w w' := by
  have HV : Hid (vIsPane ns ls f = (hasF ns ls f && decide (f ≠ vOuter ns ls) && dist (vPaneNodes ns ls f))) := Lib.hid rfl
  have hpl := vPaneNodes_len ns ls f
  by_cases hf : hasF ns ls f = true
  · have hpp := pane_pos hf
    rw [hf, Bool.true_and] at HV
    go_enter Try.func42, Try.ntmps42
    go_wp2_with fail
    have k0 : (w.alloc (.cells #[.slice A ns.length c, .slice B ls.length d] 27)).cell? ⟨w.heap.size, 0, none⟩ = some (.slice A ns.length c) := by go_simp
    have k1 : (w.alloc (.cells #[.slice A ns.length c, .slice B ls.length d] 27)).cell? ⟨w.heap.size, 1, none⟩ = some (.slice B ls.length d) := by go_simp
    have hx : Ext w (w.alloc (.cells #[.slice A ns.length c, .slice B ls.length d] 27)) := (by repeat first | exact Ext.refl _ | assumption | refine Ext.drew ?_ | refine Ext.alloc ?_ _ | refine Ext.setCell ?_ (by simp) | refine Ext.setCell ?_ (by simp; omega) | refine Ext.trans ?_ (by assumption))
    have hsz1 : w.heap.size + 1 = (w.alloc (.cells #[.slice A ns.length c, .slice B ls.length d] 27)).heap.size := by simp
    generalize (w.alloc (.cells #[.slice A ns.length c, .slice B ls.length d] 27)) = w0 at *
    (try rw [hsz1])
    refine (PaneNodes_i0 _ _ _ _ ns ls f _ (h.ext hx)).mono ?_
    rintro e w1 ⟨v, rfl, hv, hnil, hb⟩
    have k0 := hb.lit k0
    have k1 := hb.lit k1
    have hx := hx.trans hb
    clear hb
    clear hnil
    obtain ⟨g, c1, rfl, -, -, -, -, -⟩ := hv.gi_ (j := 0) hpp
    generalize vPaneNodes ns ls f = l at *
    go_wp2_with fail
    refine (OuterFace_i _ _ _ _ ns ls _ (h.ext hx)).mono ?_
    rintro e w2 ⟨rfl, hb⟩
    have hv := hv.ext hb
    have k0 := hb.lit k0
    have k1 := hb.lit k1
    have hx := hx.trans hb
    clear hb
    generalize vOuter ns ls = o at *
    by_cases ho : f = o
    · have hq : (f == o) = true := by simp [ho]
      have HE : Hid (vIsPane ns ls f = false) := Lib.hid (by rw [HV.out]; simp [ho])
      clear ho
      go_wp2
      go_ret
      exact ⟨ret_b (by rw [HE.out]), hx⟩
    · have hq : (f == o) = false := by simp [ho]
      have HE : Hid (vIsPane ns ls f = dist l) := Lib.hid (by rw [HV.out]; simp [ho])
      clear ho HV
      go_wp2_with fail
      go_loopw [6, 7, 21] (fun _ _ i wr => ∃ j : Nat, j ≤ l.length ∧ i = .int .i64 j ∧ Hid (∀ i, i < j → (l.take i).contains (gi l (i : Nat)) = false) ∧ Ext w2 wr) (fun _ _ i _ => l.length - (intOf i).toNat)
      case atStart => exact ⟨0, by omega, rfl, Lib.hid (fun i hi => by omega), Ext.refl _⟩
      case round =>
        obtain ⟨j, hj, rfl, hpr, hxr⟩ := hrel
        obtain ⟨wo, rfl⟩ : ∃ x : World, x = wr := ⟨_, rfl⟩
        by_cases hlt : j < l.length
        · have c2 := ((hv.ext hxr).cel (j := j) hlt).1
          have hin := (hv.ext hxr).in'
          have hcap : l.length ≤ c1 := by obtain ⟨A', c', e, hc, _⟩ := hv.shape; injection e with _ _ e3; omega
          have hji : (j : Int) < l.length := by omega
          have hjc : (j : Int) ≤ c1 := by omega
          have Hk : (l.take j).contains (gi l (j : Nat)) = false → Hid (∀ i, i < j + 1 → (l.take i).contains (gi l (i : Nat)) = false) := fun h' => Lib.hid (first_step (p := fun i => (l.take i).contains (gi l (i : Nat))) hpr.out h')
          have Hy : (l.take j).contains (gi l (j : Nat)) = true → Hid (dist l = false) := fun h' => Lib.hid (dist_no hlt h')
          generalize gi l (j : Nat) = x at *
          go_wp2_with fail
          refine (hasInt_k _ c1 j l x _ (by omega) (by omega) hin).mono ?_
          rintro e w3 ⟨rfl, rfl⟩
          by_cases hc : hsI (l.take j) x = true
          · have Hs := Hy hc
            rw [hc]
            go_wp2
            go_ret
            exact ⟨ret_b (by rw [HE.out, Hs.out]), hx.trans hxr⟩
          · have hc' := eq_false_of_ne_true hc
            have Hs := Hk hc'
            rw [hc']
            go_wp2
            go_roundw
            case rel => exact ⟨j + 1, by omega, by go_num, Hs, hxr⟩
            case measure => first | (simp [intOf]; done) | (simp [intOf]; omega)
        · obtain rfl : j = l.length := by omega
          have Hs := Lib.hid (dist_yes hpr.out)
          go_wp2
          go_ret
          exact ⟨ret_b (by rw [HE.out, Hs.out]), hx.trans hxr⟩
  · have hf' := eq_false_of_ne_true hf
    have HE : Hid (vIsPane ns ls f = false) := Lib.hid (by rw [HV.out, hf']; rfl)
    go_enter Try.func42, Try.ntmps42
    go_wp2_with fail
    have k0 : (w.alloc (.cells #[.slice A ns.length c, .slice B ls.length d] 27)).cell? ⟨w.heap.size, 0, none⟩ = some (.slice A ns.length c) := by go_simp
    have k1 : (w.alloc (.cells #[.slice A ns.length c, .slice B ls.length d] 27)).cell? ⟨w.heap.size, 1, none⟩ = some (.slice B ls.length d) := by go_simp
    have hx : Ext w (w.alloc (.cells #[.slice A ns.length c, .slice B ls.length d] 27)) := (by repeat first | exact Ext.refl _ | assumption | refine Ext.drew ?_ | refine Ext.alloc ?_ _ | refine Ext.setCell ?_ (by simp) | refine Ext.setCell ?_ (by simp; omega) | refine Ext.trans ?_ (by assumption))
    have hsz1 : w.heap.size + 1 = (w.alloc (.cells #[.slice A ns.length c, .slice B ls.length d] 27)).heap.size := by simp
    generalize (w.alloc (.cells #[.slice A ns.length c, .slice B ls.length d] 27)) = w0 at *
    (try rw [hsz1])
    refine (PaneNodes_i0 _ _ _ _ ns ls f _ (h.ext hx)).mono ?_
    rintro e w1 ⟨v, rfl, hv, hnil, hb⟩
    have k0 := hb.lit k0
    have k1 := hb.lit k1
    have hx := hx.trans hb
    clear hb
    obtain rfl := hnil hf'
    go_wp2
    go_ret
    exact ⟨ret_b (by rw [HE.out]), hx⟩
end Go.Proofs.Ytdhmjhoaegdfjaa
