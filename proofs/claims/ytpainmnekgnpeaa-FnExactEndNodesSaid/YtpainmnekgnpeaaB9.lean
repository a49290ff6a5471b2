import Derived.Test.YtpainmnekgnpeaaB8
namespace Go.Proofs.Ytpainmnekgnpeaa
open Go.RowKit Go.Sort Go.BigFrame

theorem Ext.frz {w w1 : World} (hb : Ext w w1) {b o : Nat} (hlt : b < w.heap.size) (h : w.frozen? ⟨b, o, none⟩ = false) : w1.frozen? ⟨b, o, none⟩ = false := by
  rw [Below.frozen hb (p := ⟨b, o, none⟩) hlt]; exact h
theorem ends_gi {ns ls : List P2} {k : Int} {j : Nat} (h : j < (leadsAt ns ls k).length) : gi (ends ns ls k) j = oend (gp ls (gi (leadsAt ns ls k) j)) k := by
  rw [gi_nat _ j (by simpa [ends] using h), gi_nat _ j h]
  simp [ends]

set_option maxRecDepth 100000 in
set_option maxHeartbeats 4000000 in
theorem IsStraightNode_i (A B : Option Addr) (c d : Nat) (ns ls : List P2) (k : Int) (w : World) (h : Wn w A c B d ns ls) :
    Calls Try.prog 27 #[.agg #[.slice A ns.length c, .slice B ls.length d], .int .i64 k] w fun e w' => e = .returned (.bool (straight ns ls k)) ∧ Ext w w' := by
  by_cases hd : degOf ns ls k = 2
  · obtain ⟨hW, hlen, kk, i0, i1, a, b, rfl, hk, e0, e1, hi0, hi1, ha, han, hb', hbn⟩ := str_facts hd
    have hn := hW.hi
    have Hd : Hid (straight ns ls kk = btw (gp ns a) (gp ns b) (gp ns kk)) := Lib.hid (by rw [straight, hd, e0, e1, ha, hb']; simp)
    have hE0 : gi (ends ns ls kk) (0 : Nat) = a := by rw [ends_gi (by omega), e0, ha]
    have hE1 : gi (ends ns ls kk) (1 : Nat) = b := by rw [ends_gi (by omega), e1, hb']
    have hEl : (ends ns ls kk).length = 2 := by simp [ends, hlen]
    clear hW e0 e1 ha hb' hlen
    go_enter Try.func27, Try.ntmps27
    go_wp2_with fail
    refine (DegreeOf_i A B c d ns ls _ _ (h.ext (by repeat first | exact Ext.refl _ | assumption | refine Ext.drew ?_ | refine Ext.alloc ?_ _ | refine Ext.setCell ?_ (by simp) | refine Ext.setCell ?_ (by simp; omega) | refine Ext.trans ?_ (by assumption)))).mono ?_
    rintro e w1 ⟨rfl, hb⟩
    have k0 := hb.lit (b := w.heap.size) (o := 0) (v := .slice A ns.length c) (by go_simp)
    have k1 := hb.lit (b := w.heap.size) (o := 1) (v := .slice B ls.length d) (by go_simp)
    have hx : Ext w w1 := (by repeat first | exact Ext.refl _ | assumption | refine Ext.drew ?_ | refine Ext.alloc ?_ _ | refine Ext.setCell ?_ (by simp) | refine Ext.setCell ?_ (by simp; omega) | refine Ext.trans ?_ (by assumption))
    rw [hd]
    clear hb
    go_wp2_with fail
    refine (otherEnds_c A B c d ns ls _ _ (h.ext hx)).mono ?_
    rintro e w2 ⟨v, rfl, hv, hb⟩
    have k0 := hb.lit k0
    have hx := hx.trans hb
    obtain ⟨g, cp, rfl, -, -, -, -, -⟩ := hv.gi_ (j := 0) (by omega)
    have q0 := (hv.cel (j := 0) (by omega)).1
    have q1 := (hv.cel (j := 1) (by omega)).1
    rw [hE0] at q0
    rw [hE1] at q1
    rw [hEl]
    clear hv hb hE0 hE1 hEl
    obtain ⟨bb, off, rfl, hbb, c1, c2⟩ := (h.ext hx).h.gp_ han
    obtain ⟨b', off', he, hbb', c3, c4⟩ := (h.ext hx).h.gp_ hbn
    obtain ⟨rfl, rfl⟩ : bb = b' ∧ off = off' := by simpa using he
    clear he hbb'
    obtain ⟨b', off', he, hbb', c5, c6⟩ := (h.ext hx).h.gp_ hk
    obtain ⟨rfl, rfl⟩ : bb = b' ∧ off = off' := by simpa using he
    clear he hbb'
    generalize gp ns a = X at *
    generalize gp ns b = Y at *
    generalize gp ns kk = Z at *
    obtain ⟨ax, ay⟩ := X
    obtain ⟨bx, by'⟩ := Y
    obtain ⟨cx, cy⟩ := Z
    go_wp2_with fail
    have d0 := cell_regrown k0
    have d1 := cell_regrown c1
    have d2 := cell_regrown c2
    have d3 := cell_regrown c3
    have d4 := cell_regrown c4
    have d5 := cell_regrown c5
    have d6 := cell_regrown c6
    have d7 := cell_regrown q0
    have d8 := cell_regrown q1
    have u1 : (a : Int) < ns.length := by omega
    have u2 : (b : Int) < ns.length := by omega
    have u3 : (kk : Int) < ns.length := by omega
    refine rx_open [(true, 0, some 13, 4), (true, 1, some 14, 8192), (true, 0, some 15, 32), (true, 4, some 16, 32768), (true, 8, some 17, 65536), (true, 18, some 18, 147456), (true, 32, some 19, 262144), (true, 0, some 20, 4), (true, 128, some 21, 1048576), (true, 0, some 22, 32), (true, 512, some 23, 4194304), (true, 1024, some 24, 8388608), (true, 2304, some 25, 18874368), (true, 4096, some 26, 33554432), (true, 0, some 27, 4), (true, 16384, some 28, 134217728), (true, 0, some 29, 2), (true, 98304, some 30, 805306368), (true, 131072, some 31, 1073741824), (false, 270400, some 32, 2215116800), (true, 1048575, some 4, 4294967296)] 21 21 mixd rfl (by kernel_rfl) (by kernel_rfl) (by kernel_rfl) ?_
    refine rx_run (run := [0, 1, 2, 3, 4, 5, 6, 7, 8, 9, 10, 11, 12, 13, 14, 15, 16, 17, 18]) (k := 2) (m' := 524287) rfl (by kernel_rfl) (by kernel_rfl) (by kernel_rfl) (fm_cons rfl <| fm_cons rfl <| fm_cons rfl <| fm_cons rfl <| fm_cons rfl <| fm_cons rfl <| fm_cons rfl <| fm_cons rfl <| fm_cons rfl <| fm_cons rfl <| fm_cons rfl <| fm_cons rfl <| fm_cons rfl <| fm_cons rfl <| fm_cons rfl <| fm_cons rfl <| fm_cons rfl <| fm_cons rfl <| fm_cons rfl <| List.filterMap_nil) (by repeat first | exact Ext.refl _ | assumption | refine Ext.drew ?_ | refine Ext.alloc ?_ _ | refine Ext.setCell ?_ (by simp) | refine Ext.setCell ?_ (by simp; omega) | refine Ext.trans ?_ (by assumption)) ?_
    repeat (go_big_quiet_step ((fail)))
    refine wpQuiet_nil ?_
    refine rx_op 19 (k := 1) (m' := 1048575) rfl rfl (by kernel_rfl) (by kernel_rfl) ?_
    go_wp2_with ((go_at_call 65; refine (IsBetween_i _ _ _ _ _ _ _).mono ?_; rintro e w5 ⟨rfl, hb5⟩))
    refine rx_on (by repeat first | exact Ext.refl _ | assumption | refine Ext.drew ?_ | refine Ext.alloc ?_ _ | refine Ext.setCell ?_ (by simp) | refine Ext.setCell ?_ (by simp; omega) | refine Ext.trans ?_ (by assumption)) ?_
    refine rx_run (run := [20]) (k := 0) (m' := 2097151) rfl (by kernel_rfl) (by kernel_rfl) (by kernel_rfl) (fm_cons rfl <| List.filterMap_nil) (by repeat first | exact Ext.refl _ | assumption | refine Ext.drew ?_ | refine Ext.alloc ?_ _ | refine Ext.setCell ?_ (by simp) | refine Ext.setCell ?_ (by simp; omega) | refine Ext.trans ?_ (by assumption)) ?_
    repeat (go_big_quiet_step ((fail)))
    refine wpQuiet_nil ?_
    refine rx_end (by kernel_rfl) ?_
    go_wp2
    go_ret
    exact ⟨ret_b (by rw [Hd.out]), hx.trans (by repeat first | exact Ext.refl _ | assumption | refine Ext.drew ?_ | refine Ext.alloc ?_ _ | refine Ext.setCell ?_ (by simp) | refine Ext.setCell ?_ (by simp; omega) | refine Ext.trans ?_ (by assumption))⟩
  · go_enter Try.func27, Try.ntmps27
    go_wp2_with fail
    refine (DegreeOf_i A B c d ns ls _ _ (h.ext (by repeat first | exact Ext.refl _ | assumption | refine Ext.drew ?_ | refine Ext.alloc ?_ _ | refine Ext.setCell ?_ (by simp) | refine Ext.setCell ?_ (by simp; omega) | refine Ext.trans ?_ (by assumption)))).mono ?_
    rintro e w1 ⟨rfl, hb⟩
    have hx : Ext w w1 := (by repeat first | exact Ext.refl _ | assumption | refine Ext.drew ?_ | refine Ext.alloc ?_ _ | refine Ext.setCell ?_ (by simp) | refine Ext.setCell ?_ (by simp; omega) | refine Ext.trans ?_ (by assumption))
    have hs : straight ns ls k = false := by simp [straight, hd]
    have hd' : (degOf ns ls k != 2) = true := bne_iff_ne.2 hd
    have Hs := Lib.hid hs
    clear hs
    go_wp2
    go_ret
    exact ⟨ret_b (by rw [Hs.out]), hx⟩

set_option maxRecDepth 100000 in
set_option maxHeartbeats 4000000 in
theorem IsStraightNode_s (A B : Option Addr) (c d : Nat) (ns ls : List P2) (k : Int) (w : World) (h : Wn w A c B d ns ls) :
    Calls Try.prog 26 #[.agg #[.slice A ns.length c, .slice B ls.length d], .int .i64 k] w fun e w' => e = .returned (.bool (straight ns ls k)) ∧ Ext w w' := by
  by_cases hd : degOf ns ls k = 2
  · obtain ⟨hW, hlen, kk, i0, i1, a, b, rfl, hk, e0, e1, hi0, hi1, ha, han, hb', hbn⟩ := str_facts hd
    have hn := hW.hi
    have hm := hW.le
    have Hd : Hid (straight ns ls kk = btw (gp ns a) (gp ns b) (gp ns kk)) := Lib.hid (by rw [straight, hd, e0, e1, ha, hb']; simp)
    have Ha := Lib.hid ha
    have Hb := Lib.hid hb'
    clear hW ha hb'
    go_enter Try.func26, Try.ntmps26
    go_wp2_with fail
    refine (DegreeOf_s A B c d ns ls _ _ (h.ext (by repeat first | exact Ext.refl _ | assumption | refine Ext.drew ?_ | refine Ext.alloc ?_ _ | refine Ext.setCell ?_ (by simp) | refine Ext.setCell ?_ (by simp; omega) | refine Ext.trans ?_ (by assumption)))).mono ?_
    rintro e w1 ⟨rfl, hb⟩
    have k0 := hb.lit (b := w.heap.size) (o := 0) (v := .slice A ns.length c) (by go_simp)
    have k1 := hb.lit (b := w.heap.size) (o := 1) (v := .slice B ls.length d) (by go_simp)
    have hx : Ext w w1 := (by repeat first | exact Ext.refl _ | assumption | refine Ext.drew ?_ | refine Ext.alloc ?_ _ | refine Ext.setCell ?_ (by simp) | refine Ext.setCell ?_ (by simp; omega) | refine Ext.trans ?_ (by assumption))
    rw [hd]
    clear hb
    go_wp2_with fail
    refine (LeadsAt_s A B c d ns ls _ _ (h.ext hx)).mono ?_
    rintro e w2 ⟨v, rfl, hv, hb⟩
    have k0 := hb.lit k0
    have k1 := hb.lit k1
    have hx := hx.trans hb
    obtain ⟨g, cp, rfl, -, -, -, -, -⟩ := hv.gi_ (j := 0) (by omega)
    have q0 := (hv.cel (j := 0) (by omega)).1
    have q1 := (hv.cel (j := 1) (by omega)).1
    rw [e0] at q0
    rw [e1] at q1
    rw [hlen]
    clear hv hb e0 e1 hlen
    obtain ⟨bb, off, rfl, hbb, c1, c2⟩ := (h.ext hx).h.gp_ han
    obtain ⟨b', off', he, hbb', c3, c4⟩ := (h.ext hx).h.gp_ hbn
    obtain ⟨rfl, rfl⟩ : bb = b' ∧ off = off' := by simpa using he
    clear he hbb'
    obtain ⟨b', off', he, hbb', c5, c6⟩ := (h.ext hx).h.gp_ hk
    obtain ⟨rfl, rfl⟩ : bb = b' ∧ off = off' := by simpa using he
    clear he hbb'
    obtain ⟨lb, lof, rfl, hlb, l1, l2⟩ := (h.ext hx).g.gp_ hi0
    obtain ⟨b', off', he, hbb', l3, l4⟩ := (h.ext hx).g.gp_ hi1
    obtain ⟨rfl, rfl⟩ : lb = b' ∧ lof = off' := by simpa using he
    clear he hbb'
    generalize gp ns a = X at *
    generalize gp ns b = Y at *
    generalize gp ns kk = Z at *
    generalize gp ls i0 = U at *
    generalize gp ls i1 = V at *
    obtain ⟨ax, ay⟩ := X
    obtain ⟨bx, by'⟩ := Y
    obtain ⟨cx, cy⟩ := Z
    obtain ⟨ux, uy⟩ := U
    obtain ⟨vx, vy⟩ := V
    have u1 : (a : Int) < ns.length := by omega
    have u2 : (b : Int) < ns.length := by omega
    have u3 : (kk : Int) < ns.length := by omega
    have u4 : (i0 : Int) < ls.length := by omega
    have u5 : (i1 : Int) < ls.length := by omega
    go_upto_region 4 with fail
    go_cut [6] (fun s6 wx => ∃ g6, s6 = .pointer (some ⟨g6, 0, none⟩) ∧ wx.cell? ⟨g6, 0, none⟩ = some (.int .i64 ax) ∧ wx.cell? ⟨g6, 1, none⟩ = some (.int .i64 ay) ∧ Ext w2 wx)
    case first =>
      have d0 := cell_regrown k0
      have d1 := cell_regrown k1
      have d2 := cell_regrown q0
      have d3 := cell_regrown l1
      have d4 := cell_regrown l2
      have d5 := cell_regrown c1
      have d6 := cell_regrown c2
      have hbs := hx.size
      refine rx_open [(true, 0, some 15, 4), (true, 1, some 16, 32768), (true, 0, some 17, 4), (true, 4, some 18, 131072), (true, 0, some 19, 32), (true, 16, some 20, 524288), (true, 32, some 21, 1048576), (true, 72, some 22, 2359296), (true, 128, some 23, 4194304), (true, 0, some 24, 2), (false, 768, some 25, 25165824), (true, 1026, some 26, 33619968), (true, 2048, some 27, 67108864), (false, 0, some 6, 0), (false, 16383, none, 134217792)] 14 15 mixd rfl (by kernel_rfl) (by kernel_rfl) (by kernel_rfl) ?_
      refine rx_run (run := [0, 1, 2, 3, 4, 5, 6, 7, 8, 9]) (k := 5) (m' := 1023) rfl (by kernel_rfl) (by kernel_rfl) (by kernel_rfl) (fm_cons rfl <| fm_cons rfl <| fm_cons rfl <| fm_cons rfl <| fm_cons rfl <| fm_cons rfl <| fm_cons rfl <| fm_cons rfl <| fm_cons rfl <| fm_cons rfl <| List.filterMap_nil) (by repeat first | exact Ext.refl _ | assumption | refine Ext.drew ?_ | refine Ext.alloc ?_ _ | refine Ext.setCell ?_ (by simp) | refine Ext.setCell ?_ (by simp; omega) | refine Ext.trans ?_ (by assumption)) ?_
      repeat (go_big_quiet_step ((fail)))
      refine wpQuiet_nil ?_
      refine rx_two 10 13 (k := 4) (mi := 2047) (mj := 9215) rfl rfl rfl (by kernel_rfl) (by kernel_rfl) (by kernel_rfl) ?_ ?_
      go_wp2_with (go_at_call 61; refine (OtherEnd_s _ _ _ _).mono ?_; rw [Ha.out]; rintro e w5 ⟨rfl, hb5⟩)
      refine rx_on (by repeat first | exact Ext.refl _ | assumption | refine Ext.drew ?_ | refine Ext.alloc ?_ _ | refine Ext.setCell ?_ (by simp) | refine Ext.setCell ?_ (by simp; omega) | refine Ext.trans ?_ (by assumption)) ?_
      refine rx_run (run := [11, 12]) (k := 2) (m' := 8191) rfl (by kernel_rfl) (by kernel_rfl) (by kernel_rfl) (fm_cons rfl <| fm_cons rfl <| List.filterMap_nil) (by repeat first | exact Ext.refl _ | assumption | refine Ext.drew ?_ | refine Ext.alloc ?_ _ | refine Ext.setCell ?_ (by simp) | refine Ext.setCell ?_ (by simp; omega) | refine Ext.trans ?_ (by assumption)) ?_
      repeat (go_big_quiet_step ((fail)))
      refine wpQuiet_nil ?_
      refine rx_op 13 (k := 1) (m' := 16383) rfl rfl (by kernel_rfl) (by kernel_rfl) ?_
      go_wp2
      refine rx_on (by repeat first | exact Ext.refl _ | assumption | refine Ext.drew ?_ | refine Ext.alloc ?_ _ | refine Ext.setCell ?_ (by simp) | refine Ext.setCell ?_ (by simp; omega) | refine Ext.trans ?_ (by assumption)) ?_
      refine rx_op 14 (k := 0) (m' := 32767) rfl rfl (by kernel_rfl) (by kernel_rfl) ?_
      go_wp2
      refine rx_lst ?_
      refine rx_end (by kernel_rfl) ?_
      rotate_left
      go_wp2
      refine rx_on (by repeat first | exact Ext.refl _ | assumption | refine Ext.drew ?_ | refine Ext.alloc ?_ _ | refine Ext.setCell ?_ (by simp) | refine Ext.setCell ?_ (by simp; omega) | refine Ext.trans ?_ (by assumption)) ?_
      refine rx_op 10 (k := 3) (m' := 10239) rfl rfl (by kernel_rfl) (by kernel_rfl) ?_
      go_wp2_with (go_at_call 61; refine (OtherEnd_s _ _ _ _).mono ?_; rw [Ha.out]; rintro e w5 ⟨rfl, hb5⟩; have z0 := hb5.lit (b := w2.heap.size) (o := 0) (v := .int .i64 0) (by go_simp); have y0 := hb5.frz (b := w2.heap.size) (o := 0) (by simp) (by go_simp); have z1 := hb5.lit (b := w2.heap.size) (o := 1) (v := .int .i64 0) (by go_simp); have y1 := hb5.frz (b := w2.heap.size) (o := 1) (by simp) (by go_simp))
      refine rx_on (by repeat first | exact Ext.refl _ | assumption | refine Ext.drew ?_ | refine Ext.alloc ?_ _ | refine Ext.setCell ?_ (by simp) | refine Ext.setCell ?_ (by simp; omega) | refine Ext.trans ?_ (by assumption)) ?_
      refine rx_run (run := [11, 12]) (k := 1) (m' := 16383) rfl (by kernel_rfl) (by kernel_rfl) (by kernel_rfl) (fm_cons rfl <| fm_cons rfl <| List.filterMap_nil) (by repeat first | exact Ext.refl _ | assumption | refine Ext.drew ?_ | refine Ext.alloc ?_ _ | refine Ext.setCell ?_ (by simp) | refine Ext.setCell ?_ (by simp; omega) | refine Ext.trans ?_ (by assumption)) ?_
      repeat (go_big_quiet_step ((fail)))
      refine wpQuiet_nil ?_
      refine rx_op 14 (k := 0) (m' := 32767) rfl rfl (by kernel_rfl) (by kernel_rfl) ?_
      go_wp2
      refine rx_lst ?_
      refine rx_end (by kernel_rfl) ?_
      rotate_left
      all_goals (go_wp2; go_meet; exact ⟨_, rfl, by go_simp, by go_simp, (by repeat first | exact Ext.refl _ | assumption | refine Ext.drew ?_ | refine Ext.alloc ?_ _ | refine Ext.setCell ?_ (by simp) | refine Ext.setCell ?_ (by simp; omega) | refine Ext.trans ?_ (by assumption))⟩)
    case rest =>
      obtain ⟨g6, rfl, m1, m2, hx6⟩ := hcut
      have k0 := hx6.lit k0
      have k1 := hx6.lit k1
      have q1 := hx6.lit q1
      have l3 := hx6.lit l3
      have l4 := hx6.lit l4
      have c3 := hx6.lit c3
      have c4 := hx6.lit c4
      have c5 := hx6.lit c5
      have c6 := hx6.lit c6
      have hx := hx.trans hx6
      clear c1 c2 l1 l2 q0 hx6
      obtain ⟨w3, rfl⟩ : ∃ w3 : World, w3 = wc := ⟨_, rfl⟩
      go_upto_region 5 with fail
      go_cut [7] (fun s7 wx => ∃ g7, s7 = .pointer (some ⟨g7, 0, none⟩) ∧ wx.cell? ⟨g7, 0, none⟩ = some (.int .i64 bx) ∧ wx.cell? ⟨g7, 1, none⟩ = some (.int .i64 by') ∧ Ext w3 wx)
      case first =>
        have d0 := cell_regrown k0
        have d1 := cell_regrown k1
        have d2 := cell_regrown q1
        have d3 := cell_regrown l3
        have d4 := cell_regrown l4
        have d5 := cell_regrown c3
        have d6 := cell_regrown c4
        have hbs := hx.size
        refine rx_open [(true, 0, some 28, 4), (true, 1, some 29, 268435456), (true, 0, some 30, 4), (true, 4, some 31, 1073741824), (true, 0, some 32, 32), (true, 16, some 33, 4294967296), (true, 32, some 34, 8589934592), (true, 72, some 35, 19327352832), (true, 128, some 36, 34359738368), (true, 0, some 37, 2), (false, 768, some 38, 206158430208), (true, 1026, some 39, 275414777856), (true, 2048, some 40, 549755813888), (false, 0, some 7, 0), (false, 16383, none, 1099511627904)] 14 15 mixd rfl (by kernel_rfl) (by kernel_rfl) (by kernel_rfl) ?_
        refine rx_run (run := [0, 1, 2, 3, 4, 5, 6, 7, 8, 9]) (k := 5) (m' := 1023) rfl (by kernel_rfl) (by kernel_rfl) (by kernel_rfl) (fm_cons rfl <| fm_cons rfl <| fm_cons rfl <| fm_cons rfl <| fm_cons rfl <| fm_cons rfl <| fm_cons rfl <| fm_cons rfl <| fm_cons rfl <| fm_cons rfl <| List.filterMap_nil) (by repeat first | exact Ext.refl _ | assumption | refine Ext.drew ?_ | refine Ext.alloc ?_ _ | refine Ext.setCell ?_ (by simp) | refine Ext.setCell ?_ (by simp; omega) | refine Ext.trans ?_ (by assumption)) ?_
        repeat (go_big_quiet_step ((fail)))
        refine wpQuiet_nil ?_
        refine rx_two 10 13 (k := 4) (mi := 2047) (mj := 9215) rfl rfl rfl (by kernel_rfl) (by kernel_rfl) (by kernel_rfl) ?_ ?_
        go_wp2_with (go_at_call 61; refine (OtherEnd_s _ _ _ _).mono ?_; rw [Hb.out]; rintro e w5 ⟨rfl, hb5⟩)
        refine rx_on (by repeat first | exact Ext.refl _ | assumption | refine Ext.drew ?_ | refine Ext.alloc ?_ _ | refine Ext.setCell ?_ (by simp) | refine Ext.setCell ?_ (by simp; omega) | refine Ext.trans ?_ (by assumption)) ?_
        refine rx_run (run := [11, 12]) (k := 2) (m' := 8191) rfl (by kernel_rfl) (by kernel_rfl) (by kernel_rfl) (fm_cons rfl <| fm_cons rfl <| List.filterMap_nil) (by repeat first | exact Ext.refl _ | assumption | refine Ext.drew ?_ | refine Ext.alloc ?_ _ | refine Ext.setCell ?_ (by simp) | refine Ext.setCell ?_ (by simp; omega) | refine Ext.trans ?_ (by assumption)) ?_
        repeat (go_big_quiet_step ((fail)))
        refine wpQuiet_nil ?_
        refine rx_op 13 (k := 1) (m' := 16383) rfl rfl (by kernel_rfl) (by kernel_rfl) ?_
        go_wp2
        refine rx_on (by repeat first | exact Ext.refl _ | assumption | refine Ext.drew ?_ | refine Ext.alloc ?_ _ | refine Ext.setCell ?_ (by simp) | refine Ext.setCell ?_ (by simp; omega) | refine Ext.trans ?_ (by assumption)) ?_
        refine rx_op 14 (k := 0) (m' := 32767) rfl rfl (by kernel_rfl) (by kernel_rfl) ?_
        go_wp2
        refine rx_lst ?_
        refine rx_end (by kernel_rfl) ?_
        rotate_left
        go_wp2
        refine rx_on (by repeat first | exact Ext.refl _ | assumption | refine Ext.drew ?_ | refine Ext.alloc ?_ _ | refine Ext.setCell ?_ (by simp) | refine Ext.setCell ?_ (by simp; omega) | refine Ext.trans ?_ (by assumption)) ?_
        refine rx_op 10 (k := 3) (m' := 10239) rfl rfl (by kernel_rfl) (by kernel_rfl) ?_
        go_wp2_with (go_at_call 61; refine (OtherEnd_s _ _ _ _).mono ?_; rw [Hb.out]; rintro e w5 ⟨rfl, hb5⟩; have z0 := hb5.lit (b := w3.heap.size) (o := 0) (v := .int .i64 0) (by go_simp); have y0 := hb5.frz (b := w3.heap.size) (o := 0) (by simp) (by go_simp); have z1 := hb5.lit (b := w3.heap.size) (o := 1) (v := .int .i64 0) (by go_simp); have y1 := hb5.frz (b := w3.heap.size) (o := 1) (by simp) (by go_simp))
        refine rx_on (by repeat first | exact Ext.refl _ | assumption | refine Ext.drew ?_ | refine Ext.alloc ?_ _ | refine Ext.setCell ?_ (by simp) | refine Ext.setCell ?_ (by simp; omega) | refine Ext.trans ?_ (by assumption)) ?_
        refine rx_run (run := [11, 12]) (k := 1) (m' := 16383) rfl (by kernel_rfl) (by kernel_rfl) (by kernel_rfl) (fm_cons rfl <| fm_cons rfl <| List.filterMap_nil) (by repeat first | exact Ext.refl _ | assumption | refine Ext.drew ?_ | refine Ext.alloc ?_ _ | refine Ext.setCell ?_ (by simp) | refine Ext.setCell ?_ (by simp; omega) | refine Ext.trans ?_ (by assumption)) ?_
        repeat (go_big_quiet_step ((fail)))
        refine wpQuiet_nil ?_
        refine rx_op 14 (k := 0) (m' := 32767) rfl rfl (by kernel_rfl) (by kernel_rfl) ?_
        go_wp2
        refine rx_lst ?_
        refine rx_end (by kernel_rfl) ?_
        rotate_left
        all_goals (go_wp2; go_meet; exact ⟨_, rfl, by go_simp, by go_simp, (by repeat first | exact Ext.refl _ | assumption | refine Ext.drew ?_ | refine Ext.alloc ?_ _ | refine Ext.setCell ?_ (by simp) | refine Ext.setCell ?_ (by simp; omega) | refine Ext.trans ?_ (by assumption))⟩)
      case rest =>
        obtain ⟨g7, rfl, m3, m4, hx7⟩ := hcut
        have k0 := hx7.lit k0
        have c5 := hx7.lit c5
        have c6 := hx7.lit c6
        have m1 := hx7.lit m1
        have m2 := hx7.lit m2
        have hx := hx.trans hx7
        clear c3 c4 l3 l4 q1 k1 hx7
        obtain ⟨w4, rfl⟩ : ∃ w4 : World, w4 = wc := ⟨_, rfl⟩
        go_wp2_with fail
        have d0 := cell_regrown k0
        have d1 := cell_regrown c5
        have d2 := cell_regrown c6
        have d3 := cell_regrown m1
        have d4 := cell_regrown m2
        have d5 := cell_regrown m3
        have d6 := cell_regrown m4
        refine rx_open [(true, 0, some 41, 64), (true, 0, some 42, 128), (true, 0, some 43, 4), (true, 4, some 44, 8796093022208), (true, 0, some 45, 2), (true, 24, some 46, 52776558133248), (true, 32, some 47, 70368744177664), (false, 67, some 48, 147334558121984), (true, 255, some 4, 281474976710656)] 9 9 mixd rfl (by kernel_rfl) (by kernel_rfl) (by kernel_rfl) ?_
        refine rx_run (run := [0, 1, 2, 3, 4, 5, 6]) (k := 2) (m' := 127) rfl (by kernel_rfl) (by kernel_rfl) (by kernel_rfl) (fm_cons rfl <| fm_cons rfl <| fm_cons rfl <| fm_cons rfl <| fm_cons rfl <| fm_cons rfl <| fm_cons rfl <| List.filterMap_nil) (by repeat first | exact Ext.refl _ | assumption | refine Ext.drew ?_ | refine Ext.alloc ?_ _ | refine Ext.setCell ?_ (by simp) | refine Ext.setCell ?_ (by simp; omega) | refine Ext.trans ?_ (by assumption)) ?_
        repeat (go_big_quiet_step ((fail)))
        refine wpQuiet_nil ?_
        refine rx_op 7 (k := 1) (m' := 255) rfl rfl (by kernel_rfl) (by kernel_rfl) ?_
        go_wp2_with ((go_at_call 62; refine (IsBetween_s _ _ _ _ _ _ _).mono ?_; rintro e w5 ⟨rfl, hb5⟩))
        refine rx_on (by repeat first | exact Ext.refl _ | assumption | refine Ext.drew ?_ | refine Ext.alloc ?_ _ | refine Ext.setCell ?_ (by simp) | refine Ext.setCell ?_ (by simp; omega) | refine Ext.trans ?_ (by assumption)) ?_
        refine rx_run (run := [8]) (k := 0) (m' := 511) rfl (by kernel_rfl) (by kernel_rfl) (by kernel_rfl) (fm_cons rfl <| List.filterMap_nil) (by repeat first | exact Ext.refl _ | assumption | refine Ext.drew ?_ | refine Ext.alloc ?_ _ | refine Ext.setCell ?_ (by simp) | refine Ext.setCell ?_ (by simp; omega) | refine Ext.trans ?_ (by assumption)) ?_
        repeat (go_big_quiet_step ((fail)))
        refine wpQuiet_nil ?_
        refine rx_end (by kernel_rfl) ?_
        go_wp2
        go_ret
        exact ⟨ret_b (by rw [Hd.out]), hx.trans (by repeat first | exact Ext.refl _ | assumption | refine Ext.drew ?_ | refine Ext.alloc ?_ _ | refine Ext.setCell ?_ (by simp) | refine Ext.setCell ?_ (by simp; omega) | refine Ext.trans ?_ (by assumption))⟩
  · go_enter Try.func26, Try.ntmps26
    go_wp2_with fail
    refine (DegreeOf_s A B c d ns ls _ _ (h.ext (by repeat first | exact Ext.refl _ | assumption | refine Ext.drew ?_ | refine Ext.alloc ?_ _ | refine Ext.setCell ?_ (by simp) | refine Ext.setCell ?_ (by simp; omega) | refine Ext.trans ?_ (by assumption)))).mono ?_
    rintro e w1 ⟨rfl, hb⟩
    have hx : Ext w w1 := (by repeat first | exact Ext.refl _ | assumption | refine Ext.drew ?_ | refine Ext.alloc ?_ _ | refine Ext.setCell ?_ (by simp) | refine Ext.setCell ?_ (by simp; omega) | refine Ext.trans ?_ (by assumption))
    have hs : straight ns ls k = false := by simp [straight, hd]
    have hd' : (degOf ns ls k != 2) = true := bne_iff_ne.2 hd
    have Hs := Lib.hid hs
    clear hs
    go_wp2
    go_ret
    exact ⟨ret_b (by rw [Hs.out]), hx⟩
end Go.Proofs.Ytpainmnekgnpeaa
