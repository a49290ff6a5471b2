import Derived.Test.YtdhmjhoaegdfjaaD21
namespace Go.Proofs.Ytdhmjhoaegdfjaa
open Go.RowKit Go.Sort Go.BigFrame

theorem pane_node {ns ls : List P2} {f : Int} {i : Nat} (hi : i < (vPaneNodes ns ls f).length) : ∃ a : Nat, gi (vPaneNodes ns ls f) (i : Nat) = a ∧ a < ns.length := by
  unfold vPaneNodes at hi ⊢
  split at hi
  · rename_i h
    rw [if_pos h]
    rw [hasF_iff] at h
    rw [tab_len] at hi
    obtain ⟨hW, -, -, hr⟩ := row_facts (ns := ns) (ls := ls) (f := f.toNat) (by omega)
    rw [tab_gi _ hi]
    obtain ⟨a, b, e, ha, hb⟩ := dEnds_ok hW (hr i hi)
    exact ⟨a, by rw [e], ha⟩
  · simp at hi
theorem pane_wok {ns ls : List P2} {f : Int} (h : hasF ns ls f = true) : WOk ns ls := (whole_ok (hasF_whole h)).1
def trn (ns : List P2) (l : List Int) (i : Nat) : Int := turn0 (gp ns (gi l ((i + l.length - 1) % l.length : Nat))) (gp ns (gi l (i : Nat))) (gp ns (gi l ((i + 1) % l.length : Nat)))
def vTurns (ns ls : List P2) (f : Int) : List Int := tab (vPaneNodes ns ls f).length (fun i => trn ns (vPaneNodes ns ls f) i)

set_option maxRecDepth 100000 in
set_option maxHeartbeats 4000000 in
theorem turns_i (A B : Option Addr) (c d : Nat) (ns ls : List P2) (f : Int) (w : World) (h : Wn w A c B d ns ls) (hf : hasF ns ls f = true) :
    Calls Try.prog 89 #[.agg #[.slice A ns.length c, .slice B ls.length d], .int .i64 f] w fun e w' => ∃ v, e = .returned v ∧ OwI w' w.heap.size v (vTurns ns ls f) ∧ Ext w w' := by
  have hpp := pane_pos hf
  have hpl := vPaneNodes_len ns ls f
  have HW : Hid (WOk ns ls) := Lib.hid (pane_wok hf)
  have HNN : Hid (∀ i, i < (vPaneNodes ns ls f).length → ∃ a : Nat, gi (vPaneNodes ns ls f) (i : Nat) = a ∧ a < ns.length) := Lib.hid (fun i hi => pane_node hi)
  have HV : Hid (vTurns ns ls f = tab (vPaneNodes ns ls f).length (fun i => trn ns (vPaneNodes ns ls f) i)) := Lib.hid rfl
  have HT : Hid (∀ j, tab (j + 1) (fun i => trn ns (vPaneNodes ns ls f) i) = tab j (fun i => trn ns (vPaneNodes ns ls f) i) ++ [trn ns (vPaneNodes ns ls f) j]) := Lib.hid (fun j => tab_snoc _ _)
  have HTL0 : Hid (∀ j, (tab j (fun i => trn ns (vPaneNodes ns ls f) i)).length = j) := Lib.hid (fun j => tab_len _ _)
  have HT0 : Hid (tab 0 (fun i => trn ns (vPaneNodes ns ls f) i) = []) := Lib.hid rfl
  have HTR : Hid (∀ i, trn ns (vPaneNodes ns ls f) i = turn0 (gp ns (gi (vPaneNodes ns ls f) ((i + (vPaneNodes ns ls f).length - 1) % (vPaneNodes ns ls f).length : Nat))) (gp ns (gi (vPaneNodes ns ls f) (i : Nat))) (gp ns (gi (vPaneNodes ns ls f) ((i + 1) % (vPaneNodes ns ls f).length : Nat)))) := Lib.hid (fun _ => rfl)
  generalize (fun i => trn ns (vPaneNodes ns ls f) i) = G at *
  clear hf
  go_enter Try.func89, Try.ntmps89
  go_wp2_with fail
  have k0 : (w.alloc (.cells #[.slice A ns.length c, .slice B ls.length d] 27)).cell? ⟨w.heap.size, 0, none⟩ = some (.slice A ns.length c) := by go_simp
  have k1 : (w.alloc (.cells #[.slice A ns.length c, .slice B ls.length d] 27)).cell? ⟨w.heap.size, 1, none⟩ = some (.slice B ls.length d) := by go_simp
  have hx : Ext w (w.alloc (.cells #[.slice A ns.length c, .slice B ls.length d] 27)) := (by repeat first | exact Ext.refl _ | assumption | refine Ext.drew ?_ | refine Ext.alloc ?_ _ | refine Ext.setCell ?_ (by simp) | refine Ext.setCell ?_ (by simp; omega) | refine Ext.trans ?_ (by assumption))
  have hsz1 : w.heap.size + 1 = (w.alloc (.cells #[.slice A ns.length c, .slice B ls.length d] 27)).heap.size := by simp
  generalize (w.alloc (.cells #[.slice A ns.length c, .slice B ls.length d] 27)) = w0 at *
  (try rw [hsz1])
  refine (PaneNodes_i _ _ _ _ ns ls f _ (h.ext hx)).mono ?_
  rintro e w1 ⟨v, rfl, hv0, hb⟩
  have k0 := hb.lit k0
  have k1 := hb.lit k1
  have hx := hx.trans hb
  clear hb
  obtain ⟨g, c9, rfl, -, -, -, -, -⟩ := hv0.gi_ (j := 0) hpp
  generalize vPaneNodes ns ls f = l at *
  go_wp2_with fail
  go_loopw [7, 8, 16] (fun v _ i wr => ∃ j : Nat, j ≤ l.length ∧ i = .int .i64 j ∧ OzI wr w.heap.size w1.heap.size v (tab j G) ∧ Ext w1 wr) (fun _ _ i _ => l.length - (intOf i).toNat)
  case atStart => exact ⟨0, by omega, rfl, .of (by rw [HT0.out]; exact OwI.nil _ _), Ext.refl _⟩
  case round =>
    obtain ⟨j, hj, rfl, hv, hxr⟩ := hrel
    obtain ⟨wo, rfl⟩ : ∃ x : World, x = wr := ⟨_, rfl⟩
    have hx0 := hx.trans hxr
    have k0 := hxr.lit k0
    have hsz := hxr.size
    by_cases hlt : j < l.length
    · skip
      have HTS := Lib.hid (HT.out j)
      have HTL := Lib.hid (HTL0.out j)
      have HTJ := Lib.hid (HTR.out j)
      have hl0 : 0 < l.length := by omega
      have hp1 : (j + l.length - 1) % l.length < l.length := Nat.mod_lt _ hl0
      have hp2 : (j + 1) % l.length < l.length := Nat.mod_lt _ hl0
      have r1 : ((j : Int) + (l.length : Int) - 1) % (l.length : Int) = (((j + l.length - 1) % l.length : Nat) : Int) := by
        rw [show (j : Int) + (l.length : Int) - 1 = ((j + l.length - 1 : Nat) : Int) by omega]; norm_cast
      have r1b : ((j : Int) + -1) % (l.length : Int) = (((j + l.length - 1) % l.length : Nat) : Int) := by
        rw [← r1, show (j : Int) + (l.length : Int) - 1 = ((j : Int) + -1) + (l.length : Int) by omega, Int.add_emod_right]
      have r1c : ((j : Int) - 1) % (l.length : Int) = (((j + l.length - 1) % l.length : Nat) : Int) := r1b
      have r2 : ((j : Int) + 1) % (l.length : Int) = (((j + 1) % l.length : Nat) : Int) := by norm_cast
      obtain ⟨a, ea, ha⟩ := HNN.out _ hp1
      obtain ⟨b, eb, hb'⟩ := HNN.out j hlt
      obtain ⟨t, et, ht⟩ := HNN.out _ hp2
      have c1 := ((hv0.ext hxr).cel hp1).1
      have c2 := ((hv0.ext hxr).cel (j := j) hlt).1
      have c3 := ((hv0.ext hxr).cel hp2).1
      rw [ea] at c1
      rw [eb] at c2
      rw [et] at c3
      rw [ea, eb, et] at HTJ
      generalize (j + l.length - 1) % l.length = p1 at *
      generalize (j + 1) % l.length = p2 at *
      obtain ⟨bb, off, rfl, hbb, n1, n2⟩ := (h.ext hx0).h.gp_ ha
      obtain ⟨b1, o1, e', -, n3, n4⟩ := (h.ext hx0).h.gp_ hb'
      obtain ⟨rfl, rfl⟩ : bb = b1 ∧ off = o1 := by simpa using e'
      obtain ⟨b1, o1, e'', -, n5, n6⟩ := (h.ext hx0).h.gp_ ht
      obtain ⟨rfl, rfl⟩ : bb = b1 ∧ off = o1 := by simpa using e''
      have q1 := nok_at HW.out ha
      have q2 := nok_at HW.out hb'
      have q3 := nok_at HW.out ht
      have u1 : (a : Int) < ns.length := by omega
      have u2 : (b : Int) < ns.length := by omega
      have u3 : (t : Int) < ns.length := by omega
      have v1 : (p1 : Int) < l.length := by omega
      have v2 : (p2 : Int) < l.length := by omega
      have v3 : (j : Int) < l.length := by omega
      clear e' e'' ea eb et hl0 hp1 hp2
      generalize gp ns (a : Int) = Y1 at *
      generalize gp ns (b : Int) = Y2 at *
      generalize gp ns (t : Int) = Y3 at *
      obtain ⟨ax, ay⟩ := Y1
      obtain ⟨bx, by'⟩ := Y2
      obtain ⟨cx, cy⟩ := Y3
      have HTE := Lib.hid (turn_eq q1 q2 q3)
      rw [HTJ.out] at HTS
      generalize hyy : turn0 (ax, ay) (bx, by') (cx, cy) = y at *
      have HY := Lib.hid hyy
      clear hyy
      go_wp2_with fail
      have d0 := cell_regrown k0
      have d1 := cell_regrown c1
      have d2 := cell_regrown c2
      have d3 := cell_regrown c3
      have d4 := cell_regrown n1
      have d5 := cell_regrown n2
      have d6 := cell_regrown n3
      have d7 := cell_regrown n4
      have d8 := cell_regrown n5
      have d9 := cell_regrown n6
      refine rx_open [(true, 0, some 19, 128), (true, 0, some 20, 4), (true, 2, some 21, 1048576), (true, 0, some 22, 32), (true, 0, some 23, 256), (true, 0, some 24, 64), (true, 48, some 25, 25165824), (true, 64, some 26, 33554432), (true, 0, some 27, 64), (true, 384, some 28, 201326592), (true, 520, some 29, 272629760), (true, 1024, some 30, 536870912), (true, 2052, some 31, 1075838976), (true, 4096, some 32, 2147483648), (true, 0, some 33, 4), (true, 16384, some 34, 8589934592), (true, 0, some 35, 32), (true, 0, some 36, 256), (true, 196608, some 37, 103079215104), (true, 262144, some 38, 137438953472), (true, 557056, some 39, 292057776128), (true, 1048576, some 40, 549755813888), (true, 0, some 41, 4), (true, 4194304, some 42, 2199023255552), (true, 0, some 43, 32), (true, 0, some 44, 256), (true, 33554432, some 45, 17592186044416), (true, 0, some 46, 64), (true, 201326592, some 47, 105553116266496), (true, 285212672, some 48, 149533581377536), (true, 536870912, some 49, 281474976710656), (true, 1082130432, some 50, 567347999932416), (true, 2147483648, some 51, 1125899906842624), (false, 4297072640, some 52, 2252903620280320), (false, 8589934592, some 53, 4503599627370496), (false, 25769803777, some 54, 9007199255265280), (true, 68719476735, some 7, 18014398509481984)] 103079215104 37 mixd rfl (by kernel_rfl) (by kernel_rfl) (by kernel_rfl) ?_
      refine rx_run (run := [0, 1, 2, 3, 4, 5, 6, 7, 8, 9, 10, 11, 12, 13, 14, 15, 16, 17, 18, 19, 20, 21, 22, 23, 24, 25, 26, 27, 28, 29, 30, 31, 32]) (k := 4) (m' := 8589934591) rfl (by kernel_rfl) (by kernel_rfl) (by kernel_rfl) (fm_cons rfl <| fm_cons rfl <| fm_cons rfl <| fm_cons rfl <| fm_cons rfl <| fm_cons rfl <| fm_cons rfl <| fm_cons rfl <| fm_cons rfl <| fm_cons rfl <| fm_cons rfl <| fm_cons rfl <| fm_cons rfl <| fm_cons rfl <| fm_cons rfl <| fm_cons rfl <| fm_cons rfl <| fm_cons rfl <| fm_cons rfl <| fm_cons rfl <| fm_cons rfl <| fm_cons rfl <| fm_cons rfl <| fm_cons rfl <| fm_cons rfl <| fm_cons rfl <| fm_cons rfl <| fm_cons rfl <| fm_cons rfl <| fm_cons rfl <| fm_cons rfl <| fm_cons rfl <| fm_cons rfl <| List.filterMap_nil) (by repeat first | exact Ext.refl _ | assumption | refine Ext.drew ?_ | refine Ext.alloc ?_ _ | refine Ext.setCell ?_ (by simp) | refine Ext.setCell ?_ (by simp; omega) | refine Ext.trans ?_ (by assumption)) ?_
      repeat (go_big_quiet_step ((fail)))
      refine wpQuiet_nil ?_
      refine rx_op 33 (k := 3) (m' := 17179869183) rfl rfl (by kernel_rfl) (by kernel_rfl) ?_
      go_wp2_with (first | (go_at_call 122; refine (TurnOf_i' _ _ _ _ _ _ _).mono ?_; rw [HTE.out]; rintro e w5 ⟨rfl, hb5⟩; have hs5 := hb5.size; simp at hs5) | (at_builtin; refine az_int _ _ rfl rfl rfl (hv.ext (by repeat first | exact Ext.refl _ | assumption | refine Ext.drew ?_ | refine Ext.alloc ?_ _ | refine Ext.setCell ?_ (by simp) | refine Ext.setCell ?_ (by simp; omega) | refine Ext.trans ?_ (by assumption))) (g := w5.heap.size) (y := y) (by first | rfl | simp) (by go_simp) (by rw [HTL.out]; omega) (by simp; omega) ?_; intro v' w' h1 h3))
      refine rx_on (by repeat first | exact Ext.refl _ | assumption | refine Ext.drew ?_ | refine Ext.alloc ?_ _ | refine Ext.setCell ?_ (by simp) | refine Ext.setCell ?_ (by simp; omega) | refine Ext.trans ?_ (by assumption)) ?_
      refine rx_op 34 (k := 2) (m' := 34359738367) rfl rfl (by kernel_rfl) (by kernel_rfl) ?_
      go_wp2
      refine rx_on (by repeat first | exact Ext.refl _ | assumption | refine Ext.drew ?_ | refine Ext.alloc ?_ _ | refine Ext.setCell ?_ (by simp) | refine Ext.setCell ?_ (by simp; omega) | refine Ext.trans ?_ (by assumption)) ?_
      refine rx_op 35 (k := 1) (m' := 68719476735) rfl rfl (by kernel_rfl) (by kernel_rfl) ?_
      go_wp2_with (first | (go_at_call 122; refine (TurnOf_i' _ _ _ _ _ _ _).mono ?_; rw [HTE.out]; rintro e w5 ⟨rfl, hb5⟩; have hs5 := hb5.size; simp at hs5) | (at_builtin; refine az_int _ _ rfl rfl rfl (hv.ext (by repeat first | exact Ext.refl _ | assumption | refine Ext.drew ?_ | refine Ext.alloc ?_ _ | refine Ext.setCell ?_ (by simp) | refine Ext.setCell ?_ (by simp; omega) | refine Ext.trans ?_ (by assumption))) (g := w5.heap.size) (y := y) (by first | rfl | simp) (by go_simp) (by rw [HTL.out]; omega) (by simp; omega) ?_; intro v' w' h1 h3))
      refine rx_lst (by decide) ?_
      refine rx_op 36 (k := 0) (m' := 137438953471) rfl rfl (by kernel_rfl) (by kernel_rfl) ?_
      go_wp2
      refine rx_lst (by decide) ?_
      refine rx_end (by kernel_rfl) ?_
      go_wp2
      go_roundw
      case rel => exact ⟨j + 1, by omega, by go_num, by rw [HTS.out]; exact h1, h3 _ (hxr.trans (by repeat first | exact Ext.refl _ | assumption | refine Ext.drew ?_ | refine Ext.alloc ?_ _ | refine Ext.setCell ?_ (by simp) | refine Ext.setCell ?_ (by simp; omega) | refine Ext.trans ?_ (by assumption))) (Nat.le_refl _)⟩
      case measure => first | (simp [intOf]; done) | (simp [intOf]; omega)
    · obtain rfl : j = l.length := by omega
      have hww := hx.size
      go_wp2
      go_ret
      exact ⟨_, rfl, by rw [HV.out]; exact hv.own (by omega), hx0⟩

theorem pane_has {ns ls : List P2} {f : Int} (h : vIsPane ns ls f = true) : hasF ns ls f = true := by
  simp only [vIsPane, Bool.and_eq_true] at h
  exact h.1.1
theorem vTurns_len (ns ls : List P2) (f : Int) : (vTurns ns ls f).length = (vPaneNodes ns ls f).length := tab_len _ _
def vCornersOf (ns ls : List P2) (f : Int) : Int := if vIsPane ns ls f = true then ((cnp (fun i => gi (vTurns ns ls f) (i : Nat) != 0) (vTurns ns ls f).length : Nat) : Int) else -1
set_option maxRecDepth 100000 in
set_option maxHeartbeats 2000000 in
theorem CornersOf_i (A B : Option Addr) (c d : Nat) (ns ls : List P2) (f : Int) (w : World) (h : Wn w A c B d ns ls) :
    Calls Try.prog 46 #[.agg #[.slice A ns.length c, .slice B ls.length d], .int .i64 f] w fun e w' => e = .returned (.int .i64 (vCornersOf ns ls f)) ∧ Ext w w' := by
  have HV : Hid (vCornersOf ns ls f = if vIsPane ns ls f = true then ((cnp (fun i => gi (vTurns ns ls f) (i : Nat) != 0) (vTurns ns ls f).length : Nat) : Int) else -1) := Lib.hid rfl
  by_cases hf : vIsPane ns ls f = true
  · skip
    have HF := Lib.hid (pane_has hf)
    rw [if_pos hf] at HV
    have hl : (vTurns ns ls f).length ≤ 1000 := by rw [vTurns_len]; exact vPaneNodes_len _ _ _
    go_enter Try.func46, Try.ntmps46
    go_wp2_with fail
    have k0 : (w.alloc (.cells #[.slice A ns.length c, .slice B ls.length d] 27)).cell? ⟨w.heap.size, 0, none⟩ = some (.slice A ns.length c) := by go_simp
    have k1 : (w.alloc (.cells #[.slice A ns.length c, .slice B ls.length d] 27)).cell? ⟨w.heap.size, 1, none⟩ = some (.slice B ls.length d) := by go_simp
    have hx : Ext w (w.alloc (.cells #[.slice A ns.length c, .slice B ls.length d] 27)) := (by repeat first | exact Ext.refl _ | assumption | refine Ext.drew ?_ | refine Ext.alloc ?_ _ | refine Ext.setCell ?_ (by simp) | refine Ext.setCell ?_ (by simp; omega) | refine Ext.trans ?_ (by assumption))
    have hsz1 : w.heap.size + 1 = (w.alloc (.cells #[.slice A ns.length c, .slice B ls.length d] 27)).heap.size := by simp
    generalize (w.alloc (.cells #[.slice A ns.length c, .slice B ls.length d] 27)) = w0 at *
    (try rw [hsz1])
    refine (IsPane_i _ _ _ _ ns ls f _ (h.ext hx)).mono ?_
    rintro e w1 ⟨rfl, hb⟩
    have k0 := hb.lit k0
    have k1 := hb.lit k1
    have hx := hx.trans hb
    clear hb
    rw [hf]
    go_wp2_with fail
    refine (turns_i _ _ _ _ ns ls f _ (h.ext hx) HF.out).mono ?_
    rintro e w2 ⟨v, rfl, hv, hb⟩
    obtain ⟨A1, c1, rfl, -, -, -⟩ := hv.shape
    have k0 := hb.lit k0
    have k1 := hb.lit k1
    have hx := hx.trans hb
    clear hb
    generalize vTurns ns ls f = l at *
    have HP : Hid (∀ j : Nat, (fun i : Nat => gi l (i : Nat) != 0) j = (gi l (j : Nat) != 0)) := Lib.hid (fun _ => rfl)
    generalize (fun i : Nat => gi l (i : Nat) != 0) = P at *
    go_wp2_with fail
    go_loopw [5, 7, 16] (fun q _ i wr => ∃ j : Nat, j ≤ l.length ∧ i = .int .i64 j ∧ q = .int .i64 (cnp P j : Nat) ∧ Ext w2 wr) (fun _ _ i _ => l.length - (intOf i).toNat)
    case atStart => exact ⟨0, by omega, rfl, rfl, Ext.refl _⟩
    case round =>
      obtain ⟨j, hj, rfl, rfl, hxr⟩ := hrel
      obtain ⟨wo, rfl⟩ : ∃ x : World, x = wr := ⟨_, rfl⟩
      by_cases hlt : j < l.length
      · obtain ⟨g, c0, e, -, -, -, c2, -⟩ := (hv.ext hxr).gi_ (j := j) hlt
        obtain ⟨rfl, rfl⟩ : A1 = some ⟨g, 0, none⟩ ∧ c1 = c0 := by simpa using e
        clear e
        have HPj := Lib.hid (HP.out j)
        have Hy : P j = true → Hid (cnp P (j + 1) = cnp P j + 1) := fun h => Lib.hid (cnp_yes h)
        have Hn : P j = false → Hid (cnp P (j + 1) = cnp P j) := fun h => Lib.hid (cnp_no h)
        have hcl := cnp_le P j
        have hji : (j : Int) < l.length := by omega
        generalize cnp P j = q at *
        generalize gi l (j : Nat) = x at *
        by_cases hs : x = 0
        · have hq1 : (x != 0) = false := by simp [hs]
          have Hs := Hn (by rw [HPj.out, hq1])
          clear Hy Hn hs
          go_wp2
          go_roundw
          case rel => exact ⟨j + 1, by omega, by go_num, by rw [Hs.out], hxr⟩
          case measure => first | (simp [intOf]; done) | (simp [intOf]; omega)
        · have hq1 : (x != 0) = true := by simp [hs]
          have Hs := Hy (by rw [HPj.out, hq1])
          clear Hy Hn hs
          go_wp2
          go_roundw
          case rel => exact ⟨j + 1, by omega, by go_num, by rw [Hs.out]; go_num, hxr⟩
          case measure => first | (simp [intOf]; done) | (simp [intOf]; omega)
      · obtain rfl : j = l.length := by omega
        go_wp2
        go_ret
        exact ⟨ret_i (by rw [HV.out]), hx.trans hxr⟩
  · have hf' := eq_false_of_ne_true hf
    rw [if_neg hf] at HV
    go_enter Try.func46, Try.ntmps46
    go_wp2_with fail
    have k0 : (w.alloc (.cells #[.slice A ns.length c, .slice B ls.length d] 27)).cell? ⟨w.heap.size, 0, none⟩ = some (.slice A ns.length c) := by go_simp
    have k1 : (w.alloc (.cells #[.slice A ns.length c, .slice B ls.length d] 27)).cell? ⟨w.heap.size, 1, none⟩ = some (.slice B ls.length d) := by go_simp
    have hx : Ext w (w.alloc (.cells #[.slice A ns.length c, .slice B ls.length d] 27)) := (by repeat first | exact Ext.refl _ | assumption | refine Ext.drew ?_ | refine Ext.alloc ?_ _ | refine Ext.setCell ?_ (by simp) | refine Ext.setCell ?_ (by simp; omega) | refine Ext.trans ?_ (by assumption))
    have hsz1 : w.heap.size + 1 = (w.alloc (.cells #[.slice A ns.length c, .slice B ls.length d] 27)).heap.size := by simp
    generalize (w.alloc (.cells #[.slice A ns.length c, .slice B ls.length d] 27)) = w0 at *
    (try rw [hsz1])
    refine (IsPane_i _ _ _ _ ns ls f _ (h.ext hx)).mono ?_
    rintro e w1 ⟨rfl, hb⟩
    have k0 := hb.lit k0
    have k1 := hb.lit k1
    have hx := hx.trans hb
    clear hb
    rw [hf']
    go_wp2
    go_ret
    exact ⟨ret_i (by rw [HV.out]), hx⟩
/-! ### convex panes -/
def mnR (xs : List Int) : Nat → Int
  | 0 => gi xs (0 : Nat)
  | j + 1 => imin (mnR xs j) (gi xs ((j + 1 : Nat) : Int))
theorem mnR_nn {xs : List Int} : ∀ j : Nat, 0 ≤ mnR xs j ↔ ∀ i : Nat, i ≤ j → 0 ≤ gi xs (i : Nat)
  | 0 => by
    constructor
    · intro h i hi
      obtain rfl : i = 0 := by omega
      exact h
    · intro h; exact h 0 (Nat.le_refl _)
  | j + 1 => by
    have ih := mnR_nn (xs := xs) j
    have e : 0 ≤ mnR xs (j + 1) ↔ 0 ≤ mnR xs j ∧ 0 ≤ gi xs ((j + 1 : Nat) : Int) := by
      show 0 ≤ imin (mnR xs j) (gi xs ((j + 1 : Nat) : Int)) ↔ _
      unfold imin; omega
    rw [e, ih]
    constructor
    · rintro ⟨h1, h2⟩ i hi
      rcases Nat.lt_or_ge i (j + 1) with h | h
      · exact h1 i (by omega)
      · obtain rfl : i = j + 1 := by omega
        exact h2
    · intro h
      exact ⟨fun i hi => h i (by omega), h _ (Nat.le_refl _)⟩
set_option maxHeartbeats 1000000 in
theorem Min_c (X : Option Addr) (c : Nat) (xs : List Int) (w : World) (hl : xs.length ≤ 2000000) (h0 : 0 < xs.length) (h : In w w.heap.size X xs) :
    Calls Try.prog 90 #[.slice X xs.length c] w fun e w' => e = .returned (.int .i64 (mnR xs (xs.length - 1))) ∧ w = w' := by
  obtain ⟨b, off, rfl, hbb, c0⟩ := h.gi_ (k := 0) h0
  have H0 : Hid (gi xs ((0 : Nat) : Int) = mnR xs 0) := Lib.hid rfl
  have HS : Hid (∀ j : Nat, mnR xs (j + 1) = imin (mnR xs j) (gi xs ((j + 1 : Nat) : Int))) := Lib.hid (fun _ => rfl)
  rw [H0.out, Nat.add_zero] at c0
  have hl0 : (0 : Int) < xs.length := by omega
  have hl1 : ¬ ((xs.length : Int) < 1) := by omega
  have hl2 : decide ((xs.length : Int) < 1) = false := decide_eq_false hl1
  go_enter Try.func90, Try.ntmps90
  go_wp2_with fail
  go_loop [3, 4] (fun q i => ∃ j : Nat, j < xs.length ∧ i = .int .i64 ((j + 1 : Nat) : Int) ∧ q = .int .i64 (mnR xs j)) (fun _ i => xs.length + 1 - (intOf i).toNat)
  case atStart => exact ⟨0, h0, rfl, rfl⟩
  case round =>
    obtain ⟨j, hj, rfl, rfl⟩ := hrel
    by_cases hlt : j + 1 < xs.length
    · obtain ⟨b', o', e, -, c1⟩ := h.gi_ (k := j + 1) hlt
      obtain ⟨rfl, rfl⟩ : b = b' ∧ off = o' := by simpa using e
      clear e
      have HSj := Lib.hid (HS.out j)
      have hji : ((j + 1 : Nat) : Int) < xs.length := by omega
      generalize mnR xs j = q at *
      generalize gi xs ((j + 1 : Nat) : Int) = x at *
      go_wp2
      go_round
      case rel => exact ⟨j + 1, by omega, by go_num, by rw [HSj.out]⟩
      case measure => simp [intOf]; omega
    · obtain rfl : j = xs.length - 1 := by omega
      have hji : ¬ (((xs.length - 1 + 1 : Nat) : Int) < xs.length) := by omega
      generalize hqq : mnR xs (xs.length - 1) = q at *
      have HQ := Lib.hid hqq
      clear hqq
      go_wp2
      go_ret
      exact ⟨ret_i (by rw [HQ.out]), rfl⟩
def vIsConvexPane (ns ls : List P2) (f : Int) : Bool := vIsPane ns ls f && (List.range (vTurns ns ls f).length).all (fun i => decide (0 ≤ gi (vTurns ns ls f) (i : Nat)))
set_option maxRecDepth 100000 in
set_option maxHeartbeats 2000000 in
theorem IsConvexPane_i (A B : Option Addr) (c d : Nat) (ns ls : List P2) (f : Int) (w : World) (h : Wn w A c B d ns ls) :
    Calls Try.prog 47 #[.agg #[.slice A ns.length c, .slice B ls.length d], .int .i64 f] w fun e w' => e = .returned (.bool (vIsConvexPane ns ls f)) ∧ Ext w w' := by
  have HV : Hid (vIsConvexPane ns ls f = (vIsPane ns ls f && (List.range (vTurns ns ls f).length).all (fun i => decide (0 ≤ gi (vTurns ns ls f) (i : Nat))))) := Lib.hid rfl
  by_cases hf : vIsPane ns ls f = true
  · have HF := Lib.hid (pane_has hf)
    have hl : (vTurns ns ls f).length ≤ 1000 := by rw [vTurns_len]; exact vPaneNodes_len _ _ _
    have hl0 : 0 < (vTurns ns ls f).length := by rw [vTurns_len]; exact pane_pos HF.out
    have HM : Hid (decide (0 ≤ mnR (vTurns ns ls f) ((vTurns ns ls f).length - 1)) = vIsConvexPane ns ls f) := Lib.hid (by
      rw [HV.out, hf, Bool.true_and, Bool.eq_iff_iff, decide_eq_true_eq, mnR_nn, List.all_eq_true]
      constructor
      · intro h i hi
        rw [decide_eq_true_eq]
        exact h i (by have := List.mem_range.1 hi; omega)
      · intro h i hi
        have := h i (List.mem_range.2 (by omega))
        rwa [decide_eq_true_eq] at this)
    go_enter Try.func47, Try.ntmps47
    go_wp2_with fail
    have k0 : (w.alloc (.cells #[.slice A ns.length c, .slice B ls.length d] 27)).cell? ⟨w.heap.size, 0, none⟩ = some (.slice A ns.length c) := by go_simp
    have k1 : (w.alloc (.cells #[.slice A ns.length c, .slice B ls.length d] 27)).cell? ⟨w.heap.size, 1, none⟩ = some (.slice B ls.length d) := by go_simp
    have hx : Ext w (w.alloc (.cells #[.slice A ns.length c, .slice B ls.length d] 27)) := (by repeat first | exact Ext.refl _ | assumption | refine Ext.drew ?_ | refine Ext.alloc ?_ _ | refine Ext.setCell ?_ (by simp) | refine Ext.setCell ?_ (by simp; omega) | refine Ext.trans ?_ (by assumption))
    have hsz1 : w.heap.size + 1 = (w.alloc (.cells #[.slice A ns.length c, .slice B ls.length d] 27)).heap.size := by simp
    generalize (w.alloc (.cells #[.slice A ns.length c, .slice B ls.length d] 27)) = w0 at *
    (try rw [hsz1])
    refine (IsPane_i _ _ _ _ ns ls f _ (h.ext hx)).mono ?_
    rintro e w1 ⟨rfl, hb⟩
    have k0 := hb.lit k0
    have k1 := hb.lit k1
    have hx := hx.trans hb
    clear hb
    rw [hf]
    go_wp2_with fail
    refine (turns_i _ _ _ _ ns ls f _ (h.ext hx) HF.out).mono ?_
    rintro e w2 ⟨v, rfl, hv, hb⟩
    obtain ⟨A1, c1, rfl, -, -, hin⟩ := hv.shape
    have k0 := hb.lit k0
    have k1 := hb.lit k1
    have hx := hx.trans hb
    clear hb
    generalize vTurns ns ls f = l at *
    go_wp2_with fail
    refine (Min_c A1 c1 l _ (by omega) hl0 hin).mono ?_
    rintro e w3 ⟨rfl, rfl⟩
    generalize mnR l (l.length - 1) = q at *
    go_wp2
    go_ret
    exact ⟨ret_b (by rw [← HM.out]), hx⟩
  · have hf' := eq_false_of_ne_true hf
    have HE : Hid (vIsConvexPane ns ls f = false) := Lib.hid (by rw [HV.out, hf']; rfl)
    go_enter Try.func47, Try.ntmps47
    go_wp2_with fail
    have k0 : (w.alloc (.cells #[.slice A ns.length c, .slice B ls.length d] 27)).cell? ⟨w.heap.size, 0, none⟩ = some (.slice A ns.length c) := by go_simp
    have k1 : (w.alloc (.cells #[.slice A ns.length c, .slice B ls.length d] 27)).cell? ⟨w.heap.size, 1, none⟩ = some (.slice B ls.length d) := by go_simp
    have hx : Ext w (w.alloc (.cells #[.slice A ns.length c, .slice B ls.length d] 27)) := (by repeat first | exact Ext.refl _ | assumption | refine Ext.drew ?_ | refine Ext.alloc ?_ _ | refine Ext.setCell ?_ (by simp) | refine Ext.setCell ?_ (by simp; omega) | refine Ext.trans ?_ (by assumption))
    have hsz1 : w.heap.size + 1 = (w.alloc (.cells #[.slice A ns.length c, .slice B ls.length d] 27)).heap.size := by simp
    generalize (w.alloc (.cells #[.slice A ns.length c, .slice B ls.length d] 27)) = w0 at *
    (try rw [hsz1])
    refine (IsPane_i _ _ _ _ ns ls f _ (h.ext hx)).mono ?_
    rintro e w1 ⟨rfl, hb⟩
    have k0 := hb.lit k0
    have k1 := hb.lit k1
    have hx := hx.trans hb
    clear hb
    rw [hf']
    go_wp2
    go_ret
    exact ⟨ret_b (by rw [HE.out]), hx⟩
end Go.Proofs.Ytdhmjhoaegdfjaa
