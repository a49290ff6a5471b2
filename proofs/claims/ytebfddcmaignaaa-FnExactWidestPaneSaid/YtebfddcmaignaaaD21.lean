import Derived.Test.YtebfddcmaignaaaD20
import Derived.Test.YtebfddcmaignaaaG10
namespace Go.Proofs.Ytebfddcmaignaaa
open Go.RowKit Go.Sort Go.BigFrame

set_option maxRecDepth 100000 in
set_option maxHeartbeats 4000000 in
theorem IsPane_s (A B : Option Addr) (c d : Nat) (ns ls : List P2) (f : Int) (w : World) (h : Wn w A c B d ns ls) :
    Calls Try.prog 56 #[.agg #[.slice A ns.length c, .slice B ls.length d], .int .i64 f] w fun e w' => e = .returned (.bool (vIsPane ns ls f)) ∧ Ext w w' := by
  have HV : Hid (vIsPane ns ls f = (hasF ns ls f && decide (f ≠ vOuter ns ls) && dist (vPaneNodes ns ls f))) := Lib.hid rfl
  have hpl := vPaneNodes_len ns ls f
  have HPP : Hid (hasF ns ls f = decide (0 < (vPaneNodes ns ls f).length)) := Lib.hid (by
    by_cases hf : hasF ns ls f = true
    · rw [hf]; simp [pane_pos hf]
    · rw [eq_false_of_ne_true hf, pane_nil (eq_false_of_ne_true hf)]; simp)
  go_enter Try.func56, Try.ntmps56
  go_wp2_with fail
  have k0 : (w.alloc (.cells #[.slice A ns.length c, .slice B ls.length d] 32)).cell? ⟨w.heap.size, 0, none⟩ = some (.slice A ns.length c) := by go_simp
  have k1 : (w.alloc (.cells #[.slice A ns.length c, .slice B ls.length d] 32)).cell? ⟨w.heap.size, 1, none⟩ = some (.slice B ls.length d) := by go_simp
  have hx : Ext w (w.alloc (.cells #[.slice A ns.length c, .slice B ls.length d] 32)) := (by repeat first | exact Ext.refl _ | assumption | refine Ext.drew ?_ | refine Ext.alloc ?_ _ | refine Ext.setCell ?_ (by simp) | refine Ext.setCell ?_ (by simp; omega) | refine Ext.trans ?_ (by assumption))
  have hsz1 : w.heap.size + 1 = (w.alloc (.cells #[.slice A ns.length c, .slice B ls.length d] 32)).heap.size := by simp
  generalize (w.alloc (.cells #[.slice A ns.length c, .slice B ls.length d] 32)) = w0 at *
  (try rw [hsz1])
  refine (PaneNodes_s _ _ _ _ ns ls f _ (h.ext hx)).mono ?_
  rintro e w1 ⟨v, rfl, hv, hb⟩
  have k0 := hb.lit k0
  have k1 := hb.lit k1
  have hx := hx.trans hb
  clear hb
  generalize vPaneNodes ns ls f = l at *
  obtain ⟨A1, c1, rfl, -, -, hin⟩ := hv.shape
  clear hv
  go_wp2_with fail
  go_loopw [6, 7] (fun i _ wr => ∃ j : Nat, j ≤ l.length ∧ i = .int .i64 j ∧ Hid (∀ i, i < j → (l.take i).contains (gi l (i : Nat)) = false) ∧ Ext w1 wr) (fun i _ _ => l.length - (intOf i).toNat)
  case atStart => exact ⟨0, by omega, rfl, Lib.hid (fun i hi => by omega), Ext.refl _⟩
  case round =>
    obtain ⟨j, hj, rfl, hpr, hxr⟩ := hrel
    obtain ⟨wo, rfl⟩ : ∃ x : World, x = wr := ⟨_, rfl⟩
    by_cases hlt : j < l.length
    · have Hk : (∀ i, i < j → gi l (i : Nat) ≠ gi l (j : Nat)) → Hid (∀ i, i < j + 1 → (l.take i).contains (gi l (i : Nat)) = false) := fun h' => Lib.hid (first_step (p := fun i => (l.take i).contains (gi l (i : Nat))) hpr.out (tk_no hlt h'))
      have Hy : ∀ i, i < j → gi l (i : Nat) = gi l (j : Nat) → Hid (dist l = false) := fun i h1 h2 => Lib.hid (dist_no hlt (tk_yes h1 hlt h2))
      have hji : (j : Int) < l.length := by omega
      go_wp2_with fail
      go_loopw [7] (fun i wr => ∃ q : Nat, q ≤ j ∧ i = .int .i64 q ∧ Hid (∀ i, i < q → gi l (i : Nat) ≠ gi l (j : Nat)) ∧ Ext w1 wr) (fun i _ => j - (intOf i).toNat)
      case atStart => exact ⟨0, by omega, rfl, Lib.hid (fun i hi => by omega), hxr⟩
      case round =>
        clear hxr
        obtain ⟨q, hq, rfl, hpq, hxr⟩ := hrel
        obtain ⟨w2, rfl⟩ : ∃ x : World, x = wr := ⟨_, rfl⟩
        by_cases hqt : q < j
        · obtain ⟨g, off, rfl, hbb, c2⟩ := (hin.ext hxr).gi_ (k := q) (by omega)
          obtain ⟨g', off', e', hbb', c3⟩ := (hin.ext hxr).gi_ (k := j) hlt
          obtain ⟨rfl, rfl⟩ : g = g' ∧ off = off' := by simpa using e'
          clear e' hbb'
          have hqi : (q : Int) < l.length := by omega
          have Hs1 : gi l (q : Nat) ≠ gi l (j : Nat) → Hid (∀ i, i < q + 1 → gi l (i : Nat) ≠ gi l (j : Nat)) := fun h' => Lib.hid (fun i hi => by
            rcases Nat.lt_succ_iff_lt_or_eq.1 hi with h2 | h2
            · exact hpq.out i h2
            · subst h2; exact h')
          have Hy2 := Hy q hqt
          clear Hk Hy hpr hpq
          generalize gi l (q : Nat) = x at *
          generalize hyy : gi l (j : Nat) = y at *
          go_upto_region 8 with fail
          go_cut [30] (fun s wx => s = .bool (x == y) ∧ Ext w2 wx)
          case first =>
            have d0 := cell_regrown c2
            have d1 := cell_regrown c3
            refine rx_open [(true, 0, some 22, 32), (true, 0, some 23, 128), (true, 3, some 24, 12582912), (true, 4, some 25, 16777216), (true, 0, some 26, 32), (true, 0, some 27, 64), (true, 48, some 28, 201326592), (true, 64, some 29, 268435456), (true, 136, some 30, 570425344)] 0 9 mixd rfl (by kernel_rfl) (by kernel_rfl) (by kernel_rfl) ?_
            refine rx_run (run := [0, 1, 2, 3, 4, 5, 6, 7, 8]) (k := 0) (m' := 511) rfl (by kernel_rfl) (by kernel_rfl) (by kernel_rfl) (fm_cons rfl <| fm_cons rfl <| fm_cons rfl <| fm_cons rfl <| fm_cons rfl <| fm_cons rfl <| fm_cons rfl <| fm_cons rfl <| fm_cons rfl <| List.filterMap_nil) (by repeat first | exact Ext.refl _ | assumption | refine Ext.drew ?_ | refine Ext.alloc ?_ _ | refine Ext.setCell ?_ (by simp) | refine Ext.setCell ?_ (by simp; omega) | refine Ext.trans ?_ (by assumption)) ?_
            repeat (go_big_quiet_step ((fail)))
            refine wpQuiet_nil ?_
            refine rx_end (by kernel_rfl) ?_
            all_goals (go_wp2; go_meet; exact ⟨rfl, (by repeat first | exact Ext.refl _ | assumption | refine Ext.drew ?_ | refine Ext.alloc ?_ _ | refine Ext.setCell ?_ (by simp) | refine Ext.setCell ?_ (by simp; omega) | refine Ext.trans ?_ (by assumption))⟩)
          case rest =>
            obtain ⟨rfl, hb⟩ := hcut
            obtain ⟨w3, rfl⟩ : ∃ x : World, x = wc := ⟨_, rfl⟩
            have hxr := hxr.trans hb
            clear hb c2 c3
            by_cases hxy : x = y
            · have hqq : (x == y) = true := by simp [hxy]
              have Hs := Hy2 hxy
              have HE : Hid (vIsPane ns ls f = false) := Lib.hid (by rw [HV.out, Hs.out]; simp)
              rw [hqq]
              clear hxy Hs1 Hy2 hyy
              go_wp2
              go_ret
              exact ⟨ret_b (by rw [HE.out]), hx.trans hxr⟩
            · have hqq : (x == y) = false := by simp [hxy]
              have Hs := Hs1 hxy
              rw [hqq]
              clear hxy Hs1 Hy2
              subst hyy
              go_wp2
              go_roundw
              case rel => exact ⟨q + 1, by omega, by go_num, Hs, hxr⟩
              case measure => first | (simp [intOf]; done) | (simp [intOf]; omega)
        · obtain rfl : q = j := by omega
          have Hs := Hk hpq.out
          go_wp2
          go_roundw
          case rel => exact ⟨q + 1, by omega, by go_num, Hs, hxr⟩
          case measure => first | (simp [intOf]; done) | (simp [intOf]; omega)
    · obtain rfl : j = l.length := by omega
      have Hs := Lib.hid (dist_yes hpr.out)
      rw [Hs.out, HPP.out, Bool.and_true] at HV
      have k0 := hxr.lit k0
      have k1 := hxr.lit k1
      by_cases hp : 0 < l.length
      · have hpi : (0 : Int) < l.length := by omega
        go_wp2_with fail
        refine (OuterFace_s _ _ _ _ ns ls _ (h.ext (hx.trans hxr))).mono ?_
        rintro e w4 ⟨rfl, hb⟩
        generalize vOuter ns ls = o at *
        by_cases ho : f = o
        · have hqq : (f != o) = false := by simp [ho]
          have HE : Hid (vIsPane ns ls f = false) := Lib.hid (by rw [HV.out]; simp [ho])
          clear ho
          go_wp2
          go_ret
          exact ⟨ret_b (by rw [HE.out]), (hx.trans hxr).trans hb⟩
        · have hqq : (f != o) = true := by simp [ho]
          have HE : Hid (vIsPane ns ls f = true) := Lib.hid (by rw [HV.out, decide_eq_true hp]; simp [ho])
          clear ho
          go_wp2
          go_ret
          exact ⟨ret_b (by rw [HE.out]), (hx.trans hxr).trans hb⟩
      · have HE : Hid (vIsPane ns ls f = false) := Lib.hid (by rw [HV.out, decide_eq_false hp]; rfl)
        have hpi : ¬ (0 : Int) < l.length := by omega
        go_wp2
        go_ret
        exact ⟨ret_b (by rw [HE.out]), hx.trans hxr⟩

def vPanesOf (ns ls : List P2) : List Int := flt (fun i => vIsPane ns ls (i : Nat)) (vFaces ns ls).length
theorem vPanesOf_len (ns ls : List P2) : (vPanesOf ns ls).length ≤ 1000 := by
  unfold vPanesOf
  have := vFaces_len ns ls
  have := flt_len (fun i => vIsPane ns ls (i : Nat)) (vFaces ns ls).length
  omega
set_option maxRecDepth 100000 in
set_option maxHeartbeats 2000000 in
theorem PanesOf_i (A B : Option Addr) (c d : Nat) (ns ls : List P2) (w : World) (h : Wn w A c B d ns ls) :
    Calls Try.prog 77 #[.agg #[.slice A ns.length c, .slice B ls.length d]] w fun e w' => ∃ v, e = .returned v ∧ OwI w' w.heap.size v (vPanesOf ns ls) ∧ Ext w w' := by
  have HV : Hid (vPanesOf ns ls = flt (fun i => vIsPane ns ls (i : Nat)) (vFaces ns ls).length) := Lib.hid rfl
  have HP : Hid (∀ j : Nat, (fun i : Nat => vIsPane ns ls (i : Nat)) j = vIsPane ns ls j) := Lib.hid (fun _ => rfl)
  have hnl := vFaces_len ns ls
  generalize (fun i : Nat => vIsPane ns ls (i : Nat)) = P at *
  go_enter Try.func77, Try.ntmps77
  go_wp2_with fail
  have k0 : (w.alloc (.cells #[.slice A ns.length c, .slice B ls.length d] 32)).cell? ⟨w.heap.size, 0, none⟩ = some (.slice A ns.length c) := by go_simp
  have k1 : (w.alloc (.cells #[.slice A ns.length c, .slice B ls.length d] 32)).cell? ⟨w.heap.size, 1, none⟩ = some (.slice B ls.length d) := by go_simp
  have hx : Ext w (w.alloc (.cells #[.slice A ns.length c, .slice B ls.length d] 32)) := (by repeat first | exact Ext.refl _ | assumption | refine Ext.drew ?_ | refine Ext.alloc ?_ _ | refine Ext.setCell ?_ (by simp) | refine Ext.setCell ?_ (by simp; omega) | refine Ext.trans ?_ (by assumption))
  have hsz1 : w.heap.size + 1 = (w.alloc (.cells #[.slice A ns.length c, .slice B ls.length d] 32)).heap.size := by simp
  generalize (w.alloc (.cells #[.slice A ns.length c, .slice B ls.length d] 32)) = w0 at *
  (try rw [hsz1])
  refine (FacesOf_i _ _ _ _ ns ls _ (h.ext hx)).mono ?_
  rintro e w1 ⟨v, rfl, hF, -, hb⟩
  have k0 := hb.lit k0
  have k1 := hb.lit k1
  have hx := hx.trans hb
  clear hb
  obtain ⟨A1, c1, rfl, -⟩ := hF.shape
  clear hF
  generalize (vFaces ns ls).length = n at *
  go_wp2_with fail
  go_loopw [3, 4, 8] (fun v _ i wr => ∃ j : Nat, j ≤ n ∧ i = .int .i64 j ∧ OzI wr w.heap.size w1.heap.size v (flt P j) ∧ Ext w1 wr) (fun _ _ i _ => n - (intOf i).toNat)
  case atStart => exact ⟨0, by omega, rfl, .of (OwI.nil _ _), Ext.refl _⟩
  case round =>
    obtain ⟨j, hj, rfl, hv, hxr⟩ := hrel
    obtain ⟨wo, rfl⟩ : ∃ x : World, x = wr := ⟨_, rfl⟩
    have hx0 := hx.trans hxr
    have k0 := hxr.lit k0
    have k1 := hxr.lit k1
    by_cases hlt : j < n
    · go_wp2_with fail
      refine (IsPane_i A B c d ns ls _ _ (h.ext hx0)).mono ?_
      rintro e w3 ⟨rfl, hb⟩
      have hxr := hxr.trans hb
      have hv := hv.ext hb
      clear hb
      by_cases hs : vIsPane ns ls j = true
      · have Hs := Lib.hid (flt_yes (p := P) (j := j) (by rw [HP.out]; exact hs))
        rw [hs]
        have hsz := hxr.size
        have hln := flt_len P j
        go_wp2_with (at_builtin; refine az_int _ _ rfl rfl rfl (hv.ext ((Ext.refl w3).alloc _)) (g := w3.heap.size) (y := j) (by first | rfl | simp) (by go_simp) (by omega) (by simp; omega) ?_)
        intro v' w' h1 h3
        go_wp2
        go_roundw
        case rel => exact ⟨j + 1, by omega, by go_num, by rw [Hs.out]; exact h1, h3 _ (hxr.trans (by repeat first | exact Ext.refl _ | assumption | refine Ext.drew ?_ | refine Ext.alloc ?_ _ | refine Ext.setCell ?_ (by simp) | refine Ext.setCell ?_ (by simp; omega) | refine Ext.trans ?_ (by assumption))) (Nat.le_refl _)⟩
        case measure => first | (simp [intOf]; done) | (simp [intOf]; omega)
      · have hs' := eq_false_of_ne_true hs
        have Hs := Lib.hid (flt_no (p := P) (j := j) (by rw [HP.out]; exact hs'))
        rw [hs']
        go_wp2
        go_roundw
        case rel => exact ⟨j + 1, by omega, by go_num, by rw [Hs.out]; exact hv, hxr⟩
        case measure => first | (simp [intOf]; done) | (simp [intOf]; omega)
    · obtain rfl : j = n := by omega
      have hww := hx.size
      go_wp2
      go_ret
      exact ⟨_, rfl, by rw [HV.out]; exact hv.own (by omega), hx0⟩

set_option maxRecDepth 100000 in
set_option maxHeartbeats 2000000 in
theorem PanesOf_s (A B : Option Addr) (c d : Nat) (ns ls : List P2) (w : World) (h : Wn w A c B d ns ls) :
    Calls Try.prog 76 #[.agg #[.slice A ns.length c, .slice B ls.length d]] w fun e w' => ∃ v, e = .returned v ∧ OwI w' w.heap.size v (vPanesOf ns ls) ∧ Ext w w' := by
  have HV : Hid (vPanesOf ns ls = flt (fun i => vIsPane ns ls (i : Nat)) (vFaces ns ls).length) := Lib.hid rfl
  have HP : Hid (∀ j : Nat, (fun i : Nat => vIsPane ns ls (i : Nat)) j = vIsPane ns ls j) := Lib.hid (fun _ => rfl)
  have hnl := vFaces_len ns ls
  generalize (fun i : Nat => vIsPane ns ls (i : Nat)) = P at *
  go_enter Try.func76, Try.ntmps76
  go_wp2_with fail
  have hz0 : OzI ((w.alloc (.cells #[.slice A ns.length c, .slice B ls.length d] 32)).alloc (.cells #[] 3)) w.heap.size w.heap.size (.slice (some ⟨w.heap.size + 1, 0, none⟩) 0 0) [] := OzI.zero _ (by omega) (by simp)
  refine (FacesOf_s _ _ _ _ ns ls _ (h.ext (by repeat first | exact Ext.refl _ | assumption | refine Ext.drew ?_ | refine Ext.alloc ?_ _ | refine Ext.setCell ?_ (by simp) | refine Ext.setCell ?_ (by simp; omega) | refine Ext.trans ?_ (by assumption)))).mono ?_
  rintro e w1 ⟨v, rfl, hF, hb⟩
  have k0 := hb.lit (b := w.heap.size) (o := 0) (v := .slice A ns.length c) (by go_simp)
  have k1 := hb.lit (b := w.heap.size) (o := 1) (v := .slice B ls.length d) (by go_simp)
  have hx : Ext w w1 := (by repeat first | exact Ext.refl _ | assumption | refine Ext.drew ?_ | refine Ext.alloc ?_ _ | refine Ext.setCell ?_ (by simp) | refine Ext.setCell ?_ (by simp; omega) | refine Ext.trans ?_ (by assumption))
  have hz0 := hz0.ext hb
  clear hb
  obtain ⟨A1, c1, rfl, -⟩ := hF.shape
  clear hF
  have hww := hx.size
  have hz1 := hz0.up (B' := w1.heap.size) rfl ⟨_, rfl⟩ (Nat.le_refl _)
  clear hz0
  generalize (vFaces ns ls).length = n at *
  go_wp2_with fail
  go_loopw [3, 5] (fun v i wr => ∃ j : Nat, j ≤ n ∧ i = .int .i64 j ∧ OzI wr w.heap.size w1.heap.size v (flt P j) ∧ Ext w1 wr) (fun _ i _ => n - (intOf i).toNat)
  case atStart => exact ⟨0, by omega, rfl, hz1, Ext.refl _⟩
  case round =>
    clear hz1
    obtain ⟨j, hj, rfl, hv, hxr⟩ := hrel
    obtain ⟨wo, rfl⟩ : ∃ x : World, x = wr := ⟨_, rfl⟩
    have hx0 := hx.trans hxr
    have k0 := hxr.lit k0
    have k1 := hxr.lit k1
    by_cases hlt : j < n
    · go_wp2_with fail
      refine (IsPane_s A B c d ns ls _ _ (h.ext hx0)).mono ?_
      rintro e w3 ⟨rfl, hb⟩
      have hxr := hxr.trans hb
      have hv := hv.ext hb
      clear hb
      by_cases hs : vIsPane ns ls j = true
      · have Hs := Lib.hid (flt_yes (p := P) (j := j) (by rw [HP.out]; exact hs))
        rw [hs]
        have hsz := hxr.size
        have hln := flt_len P j
        go_wp2_with (at_builtin; refine az_int _ _ rfl rfl rfl (hv.ext ((Ext.refl w3).alloc _)) (g := w3.heap.size) (y := j) (by first | rfl | simp) (by go_simp) (by omega) (by simp; omega) ?_)
        intro v' w' h1 h3
        go_wp2
        go_roundw
        case rel => exact ⟨j + 1, by omega, by go_num, by rw [Hs.out]; exact h1, h3 _ (hxr.trans (by repeat first | exact Ext.refl _ | assumption | refine Ext.drew ?_ | refine Ext.alloc ?_ _ | refine Ext.setCell ?_ (by simp) | refine Ext.setCell ?_ (by simp; omega) | refine Ext.trans ?_ (by assumption))) (Nat.le_refl _)⟩
        case measure => first | (simp [intOf]; done) | (simp [intOf]; omega)
      · have hs' := eq_false_of_ne_true hs
        have Hs := Lib.hid (flt_no (p := P) (j := j) (by rw [HP.out]; exact hs'))
        rw [hs']
        go_wp2
        go_roundw
        case rel => exact ⟨j + 1, by omega, by go_num, by rw [Hs.out]; exact hv, hxr⟩
        case measure => first | (simp [intOf]; done) | (simp [intOf]; omega)
    · obtain rfl : j = n := by omega
      go_wp2
      go_ret
      exact ⟨_, rfl, by rw [HV.out]; exact hv.own (by omega), hx0⟩
end Go.Proofs.Ytebfddcmaignaaa
