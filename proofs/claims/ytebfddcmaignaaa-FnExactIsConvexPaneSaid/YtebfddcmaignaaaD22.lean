import Derived.Test.YtebfddcmaignaaaD21
namespace Go.Proofs.Ytebfddcmaignaaa
open Go.RowKit Go.Sort Go.BigFrame

theorem ris_mono {l : List Int} {lo hi : Int} (h : ris l lo hi = true) : ∀ i j, i < j → j < l.length → gi l (i : Nat) < gi l (j : Nat) := by
  intro i j hij hj
  induction j with
  | zero => omega
  | succ j ih =>
    have h1 := ris_iff.1 h (j + 1) hj
    have h2 : gi l (j : Nat) < gi l ((j + 1 : Nat) : Int) := by
      simp only [risK, Bool.and_eq_true, Bool.or_eq_true, decide_eq_true_eq] at h1
      rcases h1.2 with h3 | h3
      · simp at h3
      · exact h3
    rcases Nat.lt_succ_iff_lt_or_eq.1 hij with h4 | h4
    · have := ih h4 (by omega); omega
    · subst h4; exact h2
theorem spanning_ok {ns ls : List P2} {xs : List Int} (h : vIsSpanning ns ls xs = true) : whole ns ls = true ∧ ris xs 0 (ls.length - 1) = true ∧ (xs.length : Int) = (ns.length : Int) - 1 := by
  simp only [vIsSpanning, Bool.and_eq_true, decide_eq_true_eq] at h
  exact ⟨h.1.1.1, h.1.1.2, h.1.2⟩
def vDualSpanning (ns ls : List P2) (xs : List Int) : List Int := if vIsSpanning ns ls xs = true then flt (fun i => !hsI xs (i : Nat)) ls.length else []
theorem vDualSpanning_len (ns ls : List P2) (xs : List Int) : (vDualSpanning ns ls xs).length ≤ 1000 := by
  unfold vDualSpanning
  split
  · rename_i h
    have := (whole_ok (spanning_ok h).1).1.le
    have := flt_len (fun i => !hsI xs (i : Nat)) ls.length
    omega
  · simp
set_option maxRecDepth 100000 in
set_option maxHeartbeats 2000000 in
theorem DualSpanning_i (A B : Option Addr) (c d : Nat) (ns ls : List P2) (X : Option Addr) (xc : Nat) (xs : List Int) (w : World) (h : Wn w A c B d ns ls) (hX : In w w.heap.size X xs) (hxl : xs.length ≤ 2000000) :
    Calls Try.prog 29 #[.agg #[.slice A ns.length c, .slice B ls.length d], .slice X xs.length xc] w fun e w' => ∃ v, e = .returned v ∧ OwI w' w.heap.size v (vDualSpanning ns ls xs) ∧ Ext w w' := by
  have HV : Hid (vDualSpanning ns ls xs = if vIsSpanning ns ls xs = true then flt (fun i => !hsI xs (i : Nat)) ls.length else []) := Lib.hid rfl
  by_cases hs : vIsSpanning ns ls xs = true
  · rw [if_pos hs] at HV
    have hm := (whole_ok (spanning_ok hs).1).1.le
    have HP : Hid (∀ j : Nat, (fun i : Nat => !hsI xs (i : Nat)) j = !hsI xs j) := Lib.hid (fun _ => rfl)
    generalize (fun i : Nat => !hsI xs (i : Nat)) = P at *
    go_enter Try.func29, Try.ntmps29
    go_wp2_with fail
    have k0 : (w.alloc (.cells #[.slice A ns.length c, .slice B ls.length d] 32)).cell? ⟨w.heap.size, 0, none⟩ = some (.slice A ns.length c) := by go_simp
    have k1 : (w.alloc (.cells #[.slice A ns.length c, .slice B ls.length d] 32)).cell? ⟨w.heap.size, 1, none⟩ = some (.slice B ls.length d) := by go_simp
    have hx : Ext w (w.alloc (.cells #[.slice A ns.length c, .slice B ls.length d] 32)) := (by repeat first | exact Ext.refl _ | assumption | refine Ext.drew ?_ | refine Ext.alloc ?_ _ | refine Ext.setCell ?_ (by simp) | refine Ext.setCell ?_ (by simp; omega) | refine Ext.trans ?_ (by assumption))
    have hsz1 : w.heap.size + 1 = (w.alloc (.cells #[.slice A ns.length c, .slice B ls.length d] 32)).heap.size := by simp
    generalize (w.alloc (.cells #[.slice A ns.length c, .slice B ls.length d] 32)) = w0 at *
    (try rw [hsz1])
    refine (IsSpanning_i _ _ _ _ ns ls X xc xs _ (h.ext hx) (hX.ext hx) hxl).mono ?_
    rintro e w1 ⟨rfl, hb⟩
    have k0 := hb.lit k0
    have k1 := hb.lit k1
    have hx := hx.trans hb
    clear hb
    rw [hs]
    go_wp2_with fail
    go_loopw [5, 6, 14] (fun v _ i wr => ∃ j : Nat, j ≤ ls.length ∧ i = .int .i64 j ∧ OzI wr w.heap.size w1.heap.size v (flt P j) ∧ Ext w1 wr) (fun _ _ i _ => ls.length - (intOf i).toNat)
    case atStart => exact ⟨0, by omega, rfl, .of (OwI.nil _ _), Ext.refl _⟩
    case round =>
      obtain ⟨j, hj, rfl, hv, hxr⟩ := hrel
      obtain ⟨w3, rfl⟩ : ∃ x : World, x = wr := ⟨_, rfl⟩
      have hx0 := hx.trans hxr
      by_cases hlt : j < ls.length
      · go_wp2_with fail
        refine (hasInt_c X xc xs _ _ hxl (hX.ext hx0)).mono ?_
        rintro e w4 ⟨rfl, rfl⟩
        by_cases hq : hsI xs (j : Int) = true
        · have Hs := Lib.hid (flt_no (p := P) (j := j) (by rw [HP.out, hq]; rfl))
          rw [hq]
          go_wp2
          go_roundw
          case rel => exact ⟨j + 1, by omega, by go_num, by rw [Hs.out]; exact hv, hxr⟩
          case measure => first | (simp [intOf]; done) | (simp [intOf]; omega)
        · have hq' := eq_false_of_ne_true hq
          have Hs := Lib.hid (flt_yes (p := P) (j := j) (by rw [HP.out, hq']; rfl))
          rw [hq']
          have hsz := hxr.size
          have hln := flt_len P j
          go_wp2_with (at_builtin; refine az_int _ _ rfl rfl rfl (hv.ext ((Ext.refl w3).alloc _)) (g := w3.heap.size) (y := j) (by first | rfl | simp) (by go_simp) (by omega) (by simp; omega) ?_)
          intro v' w' h1 h3
          go_wp2
          go_roundw
          case rel => exact ⟨j + 1, by omega, by go_num, by rw [Hs.out]; exact h1, h3 _ (hxr.trans (by repeat first | exact Ext.refl _ | assumption | refine Ext.drew ?_ | refine Ext.alloc ?_ _ | refine Ext.setCell ?_ (by simp) | refine Ext.setCell ?_ (by simp; omega) | refine Ext.trans ?_ (by assumption))) (Nat.le_refl _)⟩
          case measure => first | (simp [intOf]; done) | (simp [intOf]; omega)
      · obtain rfl : j = ls.length := by omega
        have hww := hx.size
        go_wp2
        go_ret
        exact ⟨_, rfl, by rw [HV.out]; exact hv.own (by omega), hx0⟩
  · have hs' := eq_false_of_ne_true hs
    rw [if_neg hs] at HV
    go_enter Try.func29, Try.ntmps29
    go_wp2_with fail
    have k0 : (w.alloc (.cells #[.slice A ns.length c, .slice B ls.length d] 32)).cell? ⟨w.heap.size, 0, none⟩ = some (.slice A ns.length c) := by go_simp
    have k1 : (w.alloc (.cells #[.slice A ns.length c, .slice B ls.length d] 32)).cell? ⟨w.heap.size, 1, none⟩ = some (.slice B ls.length d) := by go_simp
    have hx : Ext w (w.alloc (.cells #[.slice A ns.length c, .slice B ls.length d] 32)) := (by repeat first | exact Ext.refl _ | assumption | refine Ext.drew ?_ | refine Ext.alloc ?_ _ | refine Ext.setCell ?_ (by simp) | refine Ext.setCell ?_ (by simp; omega) | refine Ext.trans ?_ (by assumption))
    have hsz1 : w.heap.size + 1 = (w.alloc (.cells #[.slice A ns.length c, .slice B ls.length d] 32)).heap.size := by simp
    generalize (w.alloc (.cells #[.slice A ns.length c, .slice B ls.length d] 32)) = w0 at *
    (try rw [hsz1])
    refine (IsSpanning_i _ _ _ _ ns ls X xc xs _ (h.ext hx) (hX.ext hx) hxl).mono ?_
    rintro e w1 ⟨rfl, hb⟩
    have k0 := hb.lit k0
    have k1 := hb.lit k1
    have hx := hx.trans hb
    clear hb
    rw [hs']
    go_wp2
    go_ret
    exact ⟨_, rfl, by rw [HV.out]; exact OwI.nil _ _, hx⟩

set_option maxRecDepth 100000 in
set_option maxHeartbeats 2000000 in
theorem DualSpanning_s (A B : Option Addr) (c d : Nat) (ns ls : List P2) (X : Option Addr) (xc : Nat) (xs : List Int) (w : World) (h : Wn w A c B d ns ls) (hX : In w w.heap.size X xs) (hxl : xs.length ≤ 2000000) :
    Calls Try.prog 26 #[.agg #[.slice A ns.length c, .slice B ls.length d], .slice X xs.length xc] w fun e w' => ∃ v, e = .returned v ∧ OwI w' w.heap.size v (vDualSpanning ns ls xs) ∧ Ext w w' := by
  have HV : Hid (vDualSpanning ns ls xs = if vIsSpanning ns ls xs = true then flt (fun i => !hsI xs (i : Nat)) ls.length else []) := Lib.hid rfl
  by_cases hs : vIsSpanning ns ls xs = true
  · rw [if_pos hs] at HV
    obtain ⟨hw, hr, hlen⟩ := spanning_ok hs
    have hm := (whole_ok hw).1.le
    have hn := (whole_ok hw).1.hi
    have HM := Lib.hid (ris_mono hr)
    have HP : Hid (∀ j : Nat, (fun i : Nat => !hsI xs (i : Nat)) j = !hsI xs j) := Lib.hid (fun _ => rfl)
    have hx12 : xs.length ≤ 12 := by omega
    clear hw hr hlen
    generalize (fun i : Nat => !hsI xs (i : Nat)) = P at *
    go_enter Try.func26, Try.ntmps26
    go_wp2_with fail
    have hz0 : OzI ((w.alloc (.cells #[.slice A ns.length c, .slice B ls.length d] 32)).alloc (.cells #[] 3)) w.heap.size w.heap.size (.slice (some ⟨w.heap.size + 1, 0, none⟩) 0 0) [] := OzI.zero _ (by omega) (by simp)
    refine (IsSpanning_s _ _ _ _ ns ls X xc xs _ (h.ext (by repeat first | exact Ext.refl _ | assumption | refine Ext.drew ?_ | refine Ext.alloc ?_ _ | refine Ext.setCell ?_ (by simp) | refine Ext.setCell ?_ (by simp; omega) | refine Ext.trans ?_ (by assumption))) (hX.ext (by repeat first | exact Ext.refl _ | assumption | refine Ext.drew ?_ | refine Ext.alloc ?_ _ | refine Ext.setCell ?_ (by simp) | refine Ext.setCell ?_ (by simp; omega) | refine Ext.trans ?_ (by assumption))) hxl).mono ?_
    rintro e w1 ⟨rfl, hb⟩
    have k0 := hb.lit (b := w.heap.size) (o := 0) (v := .slice A ns.length c) (by go_simp)
    have k1 := hb.lit (b := w.heap.size) (o := 1) (v := .slice B ls.length d) (by go_simp)
    have hx : Ext w w1 := (by repeat first | exact Ext.refl _ | assumption | refine Ext.drew ?_ | refine Ext.alloc ?_ _ | refine Ext.setCell ?_ (by simp) | refine Ext.setCell ?_ (by simp; omega) | refine Ext.trans ?_ (by assumption))
    have hz0 := hz0.ext hb
    clear hb
    rw [hs]
    have hww := hx.size
    have hz1 := hz0.up (B' := w1.heap.size) rfl ⟨_, rfl⟩ (Nat.le_refl _)
    clear hz0
    go_wp2_with fail
    go_loopw [5, 6, 7] (fun v q i wr => ∃ j a : Nat, j ≤ ls.length ∧ i = .int .i64 j ∧ a ≤ xs.length ∧ q = .int .i64 a ∧ Hid ((∀ i, i < a → gi xs (i : Nat) < j) ∧ ∀ i, a ≤ i → i < xs.length → (j : Int) ≤ gi xs (i : Nat)) ∧ OzI wr w.heap.size w1.heap.size v (flt P j) ∧ Ext w1 wr) (fun _ _ i _ => ls.length - (intOf i).toNat)
    case atStart => exact ⟨0, 0, by omega, rfl, by omega, rfl, Lib.hid ⟨fun i hi => by omega, fun i _ hi => (ris_bd (spanning_ok hs).2.1 hi).1⟩, hz1, Ext.refl _⟩
    case round =>
      clear hz1
      obtain ⟨j, a, hj, rfl, ha, rfl, hia, hv, hxr⟩ := hrel
      obtain ⟨w3, rfl⟩ : ∃ x : World, x = wr := ⟨_, rfl⟩
      have hx0 := hx.trans hxr
      have k0 := hxr.lit k0
      have k1 := hxr.lit k1
      by_cases hlt : j < ls.length
      · by_cases hal : a < xs.length
        · obtain ⟨xb, xo, rfl, hxb, c1⟩ := (hX.ext hx0).gi_ hal
          have hai : (a : Int) < xs.length := by omega
          by_cases hq : gi xs (a : Nat) = j
          · have hh : hsI xs (j : Int) = true := contains_iff_gi.2 ⟨a, hal, hq⟩
            have Hs := Lib.hid (flt_no (p := P) (j := j) (by rw [HP.out, hh]; rfl))
            have Hn : Hid ((∀ i, i < a + 1 → gi xs (i : Nat) < ((j + 1 : Nat) : Int)) ∧ ∀ i, a + 1 ≤ i → i < xs.length → ((j + 1 : Nat) : Int) ≤ gi xs (i : Nat)) := Lib.hid ⟨fun i hi => by
              rcases Nat.lt_succ_iff_lt_or_eq.1 hi with h2 | h2
              · have := hia.out.1 i h2; omega
              · subst h2; omega, fun i h2 h3 => by have := HM.out a i (by omega) h3; omega⟩
            rw [hq] at c1
            have hqq : ((j : Int) == (j : Int)) = true := by simp
            clear hq hh hia
            go_wp2
            go_roundw
            case rel => exact ⟨j + 1, a + 1, by omega, by go_num, by omega, by go_num, Hn, by rw [Hs.out]; exact hv, hxr⟩
            case measure => first | (simp [intOf]; done) | (simp [intOf]; omega)
          · have hge := hia.out.2 a (Nat.le_refl _) hal
            have hh : hsI xs (j : Int) = false := by
              unfold hsI
              rw [Bool.eq_false_iff]
              intro e
              obtain ⟨i, hi, e⟩ := contains_iff_gi.1 e
              rcases Nat.lt_or_ge i a with h2 | h2
              · have := hia.out.1 i h2; omega
              · rcases Nat.eq_or_lt_of_le h2 with h3 | h3
                · subst h3; exact hq e
                · have := HM.out a i h3 hi; omega
            have Hs := Lib.hid (flt_yes (p := P) (j := j) (by rw [HP.out, hh]; rfl))
            have Hn : Hid ((∀ i, i < a → gi xs (i : Nat) < ((j + 1 : Nat) : Int)) ∧ ∀ i, a ≤ i → i < xs.length → ((j + 1 : Nat) : Int) ≤ gi xs (i : Nat)) := Lib.hid ⟨fun i hi => by have := hia.out.1 i hi; omega, fun i h2 h3 => by
              rcases Nat.eq_or_lt_of_le h2 with h4 | h4
              · subst h4; omega
              · have := HM.out a i h4 h3; omega⟩
            have hqq : (gi xs (a : Nat) == (j : Int)) = false := beq_eq_false_iff_ne.2 hq
            generalize gi xs (a : Nat) = y at *
            clear hq hh hia hge
            have hsz := hxr.size
            have hln := flt_len P j
            go_wp2_with (at_builtin; refine az_int _ _ rfl rfl rfl (hv.ext ((Ext.refl w3).alloc _)) (g := w3.heap.size) (y := j) (by first | rfl | simp) (by go_simp) (by omega) (by simp; omega) ?_)
            intro v' w' h1 h3
            go_wp2
            go_roundw
            case rel => exact ⟨j + 1, a, by omega, by go_num, by omega, rfl, Hn, by rw [Hs.out]; exact h1, h3 _ (hxr.trans (by repeat first | exact Ext.refl _ | assumption | refine Ext.drew ?_ | refine Ext.alloc ?_ _ | refine Ext.setCell ?_ (by simp) | refine Ext.setCell ?_ (by simp; omega) | refine Ext.trans ?_ (by assumption))) (Nat.le_refl _)⟩
            case measure => first | (simp [intOf]; done) | (simp [intOf]; omega)
        · have hai : ¬ (a : Int) < xs.length := by omega
          have hh : hsI xs (j : Int) = false := by
            unfold hsI
            rw [Bool.eq_false_iff]
            intro e
            obtain ⟨i, hi, e⟩ := contains_iff_gi.1 e
            have := hia.out.1 i (by omega); omega
          have Hs := Lib.hid (flt_yes (p := P) (j := j) (by rw [HP.out, hh]; rfl))
          have Hn : Hid ((∀ i, i < a → gi xs (i : Nat) < ((j + 1 : Nat) : Int)) ∧ ∀ i, a ≤ i → i < xs.length → ((j + 1 : Nat) : Int) ≤ gi xs (i : Nat)) := Lib.hid ⟨fun i hi => by have := hia.out.1 i hi; omega, fun i h2 h3 => by omega⟩
          clear hh hia
          have hsz := hxr.size
          have hln := flt_len P j
          go_wp2_with (at_builtin; refine az_int _ _ rfl rfl rfl (hv.ext ((Ext.refl w3).alloc _)) (g := w3.heap.size) (y := j) (by first | rfl | simp) (by go_simp) (by omega) (by simp; omega) ?_)
          intro v' w' h1 h3
          go_wp2
          go_roundw
          case rel => exact ⟨j + 1, a, by omega, by go_num, by omega, rfl, Hn, by rw [Hs.out]; exact h1, h3 _ (hxr.trans (by repeat first | exact Ext.refl _ | assumption | refine Ext.drew ?_ | refine Ext.alloc ?_ _ | refine Ext.setCell ?_ (by simp) | refine Ext.setCell ?_ (by simp; omega) | refine Ext.trans ?_ (by assumption))) (Nat.le_refl _)⟩
          case measure => first | (simp [intOf]; done) | (simp [intOf]; omega)
      · obtain rfl : j = ls.length := by omega
        go_wp2
        go_ret
        exact ⟨_, rfl, by rw [HV.out]; exact hv.own (by omega), hx0⟩
  · have hs' := eq_false_of_ne_true hs
    rw [if_neg hs] at HV
    go_enter Try.func26, Try.ntmps26
    go_wp2_with fail
    have hz0 : OzI ((w.alloc (.cells #[.slice A ns.length c, .slice B ls.length d] 32)).alloc (.cells #[] 3)) w.heap.size w.heap.size (.slice (some ⟨w.heap.size + 1, 0, none⟩) 0 0) [] := OzI.zero _ (by omega) (by simp)
    refine (IsSpanning_s _ _ _ _ ns ls X xc xs _ (h.ext (by repeat first | exact Ext.refl _ | assumption | refine Ext.drew ?_ | refine Ext.alloc ?_ _ | refine Ext.setCell ?_ (by simp) | refine Ext.setCell ?_ (by simp; omega) | refine Ext.trans ?_ (by assumption))) (hX.ext (by repeat first | exact Ext.refl _ | assumption | refine Ext.drew ?_ | refine Ext.alloc ?_ _ | refine Ext.setCell ?_ (by simp) | refine Ext.setCell ?_ (by simp; omega) | refine Ext.trans ?_ (by assumption))) hxl).mono ?_
    rintro e w1 ⟨rfl, hb⟩
    have k0 := hb.lit (b := w.heap.size) (o := 0) (v := .slice A ns.length c) (by go_simp)
    have k1 := hb.lit (b := w.heap.size) (o := 1) (v := .slice B ls.length d) (by go_simp)
    have hx : Ext w w1 := (by repeat first | exact Ext.refl _ | assumption | refine Ext.drew ?_ | refine Ext.alloc ?_ _ | refine Ext.setCell ?_ (by simp) | refine Ext.setCell ?_ (by simp; omega) | refine Ext.trans ?_ (by assumption))
    have hz0 := hz0.ext hb
    clear hb
    rw [hs']
    go_wp2
    go_ret
    exact ⟨_, rfl, by rw [HV.out]; exact hz0.own (Nat.le_refl _), hx⟩
end Go.Proofs.Ytebfddcmaignaaa
