import Derived.Test.YtpainmnekgnpeaaB16
import Derived.Test.YtpainmnekgnpeaaB2
namespace Go.Proofs.Ytpainmnekgnpeaa
open Go.RowKit Go.Sort Go.BigFrame

/-- the numbers rise, and are in a range -/
def ris (l : List Int) (lo hi : Int) : Bool := (List.range l.length).all (fun i => wi (gi l (i : Nat)) lo hi && (i == 0 || decide (gi l ((i - 1 : Nat) : Int) < gi l (i : Nat))))
def risK (l : List Int) (lo hi : Int) (i : Nat) : Bool := wi (gi l (i : Nat)) lo hi && (i == 0 || decide (gi l ((i - 1 : Nat) : Int) < gi l (i : Nat)))
theorem ris_iff {l : List Int} {lo hi : Int} : ris l lo hi = true ↔ ∀ i, i < l.length → risK l lo hi i = true := by
  unfold ris risK
  rw [List.all_eq_true]
  simp only [List.mem_range]
theorem ris_no {l : List Int} {lo hi : Int} {i : Nat} (hi' : i < l.length) (h : risK l lo hi i = false) : ris l lo hi = false := by
  rw [Bool.eq_false_iff]
  intro e
  rw [ris_iff.1 e i hi'] at h
  cases h
theorem ris_bd {l : List Int} {lo hi : Int} (h : ris l lo hi = true) {i : Nat} (hi' : i < l.length) : lo ≤ gi l i ∧ gi l i ≤ hi := by
  have := ris_iff.1 h i hi'
  simp only [risK, wi, Bool.and_eq_true, decide_eq_true_eq] at this
  exact this.1

set_option maxRecDepth 100000 in
set_option maxHeartbeats 2000000 in
theorem rising_c (A : Option Addr) (c : Nat) (xs : List Int) (lo hi : Int) (w : World) (hl : xs.length ≤ 2000000) (h : In w w.heap.size A xs) :
    Calls Try.prog 83 #[.slice A xs.length c, .int .i64 lo, .int .i64 hi] w fun e w' => e = .returned (.bool (ris xs lo hi)) ∧ w = w' := by
  go_enter Try.func83, Try.ntmps83
  go_wp2
  go_loop [7, 8, 11] (fun _ _ i => ∃ j : Nat, j ≤ xs.length ∧ i = .int .i64 j ∧ Hid (∀ i, i < j → risK xs lo hi i = true)) (fun _ _ i => xs.length - (intOf i).toNat)
  case atStart => exact ⟨0, by omega, rfl, Lib.hid (fun i hi => by omega)⟩
  case round =>
    obtain ⟨j, hj, rfl, ha⟩ := hrel
    by_cases hlt : j < xs.length
    · obtain ⟨b, off, rfl, hbb, c1⟩ := h.gi_ hlt
      have HK : Hid (risK xs lo hi j = (wi (gi xs (j : Nat)) lo hi && (j == 0 || decide (gi xs ((j - 1 : Nat) : Int) < gi xs (j : Nat))))) := Lib.hid rfl
      have step : risK xs lo hi j = true → Hid (∀ i, i < j + 1 → risK xs lo hi i = true) := fun hk => Lib.hid (fun i hi => by
        rcases Nat.lt_succ_iff_lt_or_eq.1 hi with h | h
        · exact ha.out i h
        · subst h; exact hk)
      by_cases hw : wi (gi xs j) lo hi = true
      · rcases j with _ | j
        · have hk := step (by rw [HK.out, hw]; rfl)
          have c1 : w.cell? ⟨b, off, none⟩ = some (.int .i64 (gi xs 0)) := c1
          have hw : wi (gi xs 0) lo hi = true := hw
          clear step
          go_wp2_with fail
          refine (within_c _ _ _ _).mono ?_
          rintro e w' ⟨rfl, rfl⟩
          rw [hw]
          go_wp2
          go_round
          case rel => exact ⟨0 + 1, by omega, by go_num, hk⟩
          case measure => simp [intOf]; omega
        · obtain ⟨b', off', he, hbb', c2⟩ := h.gi_ (k := j) (by omega)
          obtain ⟨rfl, rfl⟩ : b = b' ∧ off = off' := by simpa using he
          clear he hbb'
          have hK2 : risK xs lo hi (j + 1) = decide (gi xs (j : Nat) < gi xs ((j + 1 : Nat) : Int)) := by rw [HK.out, hw]; simp
          generalize hx : gi xs ((j + 1 : Nat) : Int) = x at *
          generalize hy : gi xs (j : Nat) = y at *
          clear hx hy
          by_cases hyx : y < x
          · have hk := step (by rw [hK2]; simpa using hyx)
            have hd : decide (x ≤ y) = false := decide_eq_false (by omega)
            clear step hK2
            go_wp2_with fail
            refine (within_c _ _ _ _).mono ?_
            rintro e w' ⟨rfl, rfl⟩
            rw [hw]
            go_wp2
            go_round
            case rel => exact ⟨j + 1 + 1, by omega, by go_num, hk⟩
            case measure => simp [intOf]; omega
          · have HN := Lib.hid (ris_no hlt (by rw [hK2]; simpa using hyx))
            have hd : decide (x ≤ y) = true := decide_eq_true (by omega)
            clear step hK2
            go_wp2_with fail
            refine (within_c _ _ _ _).mono ?_
            rintro e w' ⟨rfl, rfl⟩
            rw [hw]
            go_wp2
            go_ret
            exact ⟨ret_b (by rw [HN.out]), rfl⟩
      · have hw' := eq_false_of_ne_true hw
        have HN := Lib.hid (ris_no hlt (by rw [HK.out, hw']; rfl))
        clear step
        go_wp2_with fail
        refine (within_c _ _ _ _).mono ?_
        rintro e w' ⟨rfl, rfl⟩
        rw [hw']
        go_wp2
        go_ret
        exact ⟨ret_b (by rw [HN.out]), rfl⟩
    · obtain rfl : j = xs.length := by omega
      have HY := Lib.hid (ris_iff.2 ha.out)
      go_wp2
      go_ret
      exact ⟨ret_b (by rw [HY.out]), rfl⟩

set_option maxRecDepth 100000 in
set_option maxHeartbeats 2000000 in
theorem l16List_c (A : Option Addr) (c : Nat) (xs : List Int) (n : Nat) (w : World) (hn : n ≤ 2000000) (hl : xs.length ≤ 2000000) (h : In w w.heap.size A xs) :
    Calls Try.prog 79 #[.int .i64 (n : Int), .slice A xs.length c] w fun e w' => e = .returned (.bool (ris xs 0 (n - 1))) ∧ Ext w w' := by
  go_enter Try.func79, Try.ntmps79
  go_wp2
  go_loopw [5] (fun i wr => ∃ j : Nat, j ≤ xs.length ∧ i = .int .i64 j ∧ Hid (∀ i, i < j → risK xs 0 (n - 1) i = true) ∧ Ext w wr) (fun i _ => xs.length - (intOf i).toNat)
  case atStart => exact ⟨0, by omega, rfl, Lib.hid (fun i hi => by omega), Ext.refl _⟩
  case round =>
    obtain ⟨j, hj, rfl, ha, hx⟩ := hrel
    obtain ⟨wo, rfl⟩ : ∃ x : World, x = wr := ⟨_, rfl⟩
    by_cases hlt : j < xs.length
    · obtain ⟨b, off, rfl, hbb, c1⟩ := (h.ext hx).gi_ hlt
      have HK : Hid (risK xs 0 (n - 1) j = (wi (gi xs (j : Nat)) 0 (n - 1) && (j == 0 || decide (gi xs ((j - 1 : Nat) : Int) < gi xs (j : Nat))))) := Lib.hid rfl
      have step : risK xs 0 (n - 1) j = true → Hid (∀ i, i < j + 1 → risK xs 0 (n - 1) i = true) := fun hk => Lib.hid (fun i hi => by
        rcases Nat.lt_succ_iff_lt_or_eq.1 hi with h | h
        · exact ha.out i h
        · subst h; exact hk)
      have hji : (j : Int) < xs.length := by omega
      have d0 := cell_regrown c1
      by_cases hw : wi (gi xs j) 0 (n - 1) = true
      · rcases j with _ | j
        · have hk := step (by rw [HK.out, hw]; rfl)
          have hd0 : decide ((0 : Int) < ((0 : Nat) : Int)) = false := decide_eq_false (by omega)
          have c1 : wo.cell? ⟨b, off, none⟩ = some (.int .i64 (gi xs 0)) := c1
          have hw : wi (gi xs 0) 0 (n - 1) = true := hw
          have d0 := cell_regrown c1
          clear step
          go_wp2_with fail
          refine rx_open [(true, 0, some 12, 2), (true, 0, some 13, 32), (true, 3, some 14, 12288), (true, 4, some 15, 16384), (true, 0, some 16, 1), (true, 16, some 17, 65536), (false, 40, some 18, 163840), (true, 64, some 19, 262144), (true, 192, some 20, 524288), (true, 256, some 21, 1048608), (true, 768, some 22, 3145728), (true, 1280, some 23, 5242880), (true, 2048, some 24, 8388610), (true, 2048, some 25, 8388640), (true, 14336, some 26, 58720256), (true, 18432, some 27, 75497472), (true, 2048, some 28, 8388610), (true, 2048, some 29, 8388640), (true, 133120, some 30, 545259520), (true, 329728, some 31, 1350565888), (true, 526336, some 32, 2155872256), (true, 1083392, some 33, 4437573632), (true, 2099456, some 34, 8599371776), (true, 4194560, some 35, 17180917760)] 0 24 mixd rfl (by kernel_rfl) (by kernel_rfl) (by kernel_rfl) ?_
          refine rx_run (run := [0, 1, 2, 3, 4, 5]) (k := 18) (m' := 63) rfl (by kernel_rfl) (by kernel_rfl) (by kernel_rfl) (fm_cons rfl <| fm_cons rfl <| fm_cons rfl <| fm_cons rfl <| fm_cons rfl <| fm_cons rfl <| List.filterMap_nil) (by repeat first | exact Ext.refl _ | assumption | refine Ext.drew ?_ | refine Ext.alloc ?_ _ | refine Ext.setCell ?_ (by simp) | refine Ext.setCell ?_ (by simp; omega) | refine Ext.trans ?_ (by assumption)) ?_
          repeat (go_big_quiet_step ((fail)))
          refine wpQuiet_nil ?_
          refine rx_op 6 (k := 17) (m' := 127) rfl rfl (by kernel_rfl) (by kernel_rfl) ?_
          go_wp2_with ((go_at_call 67; refine (l01In_c _ _ _ _).mono ?_; rw [hw]; rintro e w5 ⟨rfl, rfl⟩))
          refine rx_on (by repeat first | exact Ext.refl _ | assumption | refine Ext.drew ?_ | refine Ext.alloc ?_ _ | refine Ext.setCell ?_ (by simp) | refine Ext.setCell ?_ (by simp; omega) | refine Ext.trans ?_ (by assumption)) ?_
          refine rx_run (run := [7, 8, 9, 10, 11, 12, 13, 14, 15, 16, 17, 18, 19, 20, 21, 22, 23]) (k := 0) (m' := 16777215) rfl (by kernel_rfl) (by kernel_rfl) (by kernel_rfl) (fm_cons rfl <| fm_cons rfl <| fm_cons rfl <| fm_cons rfl <| fm_cons rfl <| fm_cons rfl <| fm_cons rfl <| fm_cons rfl <| fm_cons rfl <| fm_cons rfl <| fm_cons rfl <| fm_cons rfl <| fm_cons rfl <| fm_cons rfl <| fm_cons rfl <| fm_cons rfl <| fm_cons rfl <| List.filterMap_nil) (by repeat first | exact Ext.refl _ | assumption | refine Ext.drew ?_ | refine Ext.alloc ?_ _ | refine Ext.setCell ?_ (by simp) | refine Ext.setCell ?_ (by simp; omega) | refine Ext.trans ?_ (by assumption)) ?_
          repeat (go_big_quiet_step ((fail)))
          refine wpQuiet_nil ?_
          refine rx_end (by kernel_rfl) ?_
          all_goals go_wp2
          go_roundw
          case rel => exact ⟨0 + 1, by omega, by go_num, hk, hx.trans (by repeat first | exact Ext.refl _ | assumption | refine Ext.drew ?_ | refine Ext.alloc ?_ _ | refine Ext.setCell ?_ (by simp) | refine Ext.setCell ?_ (by simp; omega) | refine Ext.trans ?_ (by assumption))⟩
          case measure => first | (simp [intOf]; done) | (simp [intOf]; omega)
        · obtain ⟨b', off', he, hbb', c2⟩ := (h.ext hx).gi_ (k := j) (by omega)
          obtain ⟨rfl, rfl⟩ : b = b' ∧ off = off' := by simpa using he
          clear he hbb'
          have d1 := cell_regrown c2
          have hK2 : risK xs 0 (n - 1) (j + 1) = decide (gi xs (j : Nat) < gi xs ((j + 1 : Nat) : Int)) := by rw [HK.out, hw]; simp
          have hd0 : decide ((0 : Int) < ((j + 1 : Nat) : Int)) = true := decide_eq_true (by omega)
          have hj1 : IntKind.i64.wrap (((j + 1 : Nat) : Int) - 1) = (j : Int) := by rw [IntKind.wrap_i64]; omega
          have hj2 : IntKind.i64.wrap ((j : Int) + 1 - 1) = (j : Int) := by rw [IntKind.wrap_i64]; omega
          have hji2 : (j : Int) < xs.length := by omega
          generalize hx0 : gi xs ((j + 1 : Nat) : Int) = x at *
          generalize hy : gi xs (j : Nat) = y at *
          clear hx0 hy
          by_cases hyx : y < x
          · have hk := step (by rw [hK2]; simpa using hyx)
            have hd : decide (x ≤ y) = false := decide_eq_false (by omega)
            clear step hK2
            go_wp2_with fail
            refine rx_open [(true, 0, some 12, 2), (true, 0, some 13, 32), (true, 3, some 14, 12288), (true, 4, some 15, 16384), (true, 0, some 16, 1), (true, 16, some 17, 65536), (false, 40, some 18, 163840), (true, 64, some 19, 262144), (true, 192, some 20, 524288), (true, 256, some 21, 1048608), (true, 768, some 22, 3145728), (true, 1280, some 23, 5242880), (true, 2048, some 24, 8388610), (true, 2048, some 25, 8388640), (true, 14336, some 26, 58720256), (true, 18432, some 27, 75497472), (true, 2048, some 28, 8388610), (true, 2048, some 29, 8388640), (true, 133120, some 30, 545259520), (true, 329728, some 31, 1350565888), (true, 526336, some 32, 2155872256), (true, 1083392, some 33, 4437573632), (true, 2099456, some 34, 8599371776), (true, 4194560, some 35, 17180917760)] 0 24 mixd rfl (by kernel_rfl) (by kernel_rfl) (by kernel_rfl) ?_
            refine rx_run (run := [0, 1, 2, 3, 4, 5]) (k := 18) (m' := 63) rfl (by kernel_rfl) (by kernel_rfl) (by kernel_rfl) (fm_cons rfl <| fm_cons rfl <| fm_cons rfl <| fm_cons rfl <| fm_cons rfl <| fm_cons rfl <| List.filterMap_nil) (by repeat first | exact Ext.refl _ | assumption | refine Ext.drew ?_ | refine Ext.alloc ?_ _ | refine Ext.setCell ?_ (by simp) | refine Ext.setCell ?_ (by simp; omega) | refine Ext.trans ?_ (by assumption)) ?_
            repeat (go_big_quiet_step ((fail)))
            refine wpQuiet_nil ?_
            refine rx_op 6 (k := 17) (m' := 127) rfl rfl (by kernel_rfl) (by kernel_rfl) ?_
            go_wp2_with ((go_at_call 67; refine (l01In_c _ _ _ _).mono ?_; rw [hw]; rintro e w5 ⟨rfl, rfl⟩))
            refine rx_on (by repeat first | exact Ext.refl _ | assumption | refine Ext.drew ?_ | refine Ext.alloc ?_ _ | refine Ext.setCell ?_ (by simp) | refine Ext.setCell ?_ (by simp; omega) | refine Ext.trans ?_ (by assumption)) ?_
            refine rx_run (run := [7, 8, 9, 10, 11, 12, 13, 14, 15, 16, 17, 18, 19, 20, 21, 22, 23]) (k := 0) (m' := 16777215) rfl (by kernel_rfl) (by kernel_rfl) (by kernel_rfl) (fm_cons rfl <| fm_cons rfl <| fm_cons rfl <| fm_cons rfl <| fm_cons rfl <| fm_cons rfl <| fm_cons rfl <| fm_cons rfl <| fm_cons rfl <| fm_cons rfl <| fm_cons rfl <| fm_cons rfl <| fm_cons rfl <| fm_cons rfl <| fm_cons rfl <| fm_cons rfl <| fm_cons rfl <| List.filterMap_nil) (by repeat first | exact Ext.refl _ | assumption | refine Ext.drew ?_ | refine Ext.alloc ?_ _ | refine Ext.setCell ?_ (by simp) | refine Ext.setCell ?_ (by simp; omega) | refine Ext.trans ?_ (by assumption)) ?_
            repeat (go_big_quiet_step ((fail)))
            refine wpQuiet_nil ?_
            refine rx_end (by kernel_rfl) ?_
            all_goals go_wp2
            go_roundw
            case rel => exact ⟨j + 1 + 1, by omega, by go_num, hk, hx.trans (by repeat first | exact Ext.refl _ | assumption | refine Ext.drew ?_ | refine Ext.alloc ?_ _ | refine Ext.setCell ?_ (by simp) | refine Ext.setCell ?_ (by simp; omega) | refine Ext.trans ?_ (by assumption))⟩
            case measure => first | (simp [intOf]; done) | (simp [intOf]; omega)
          · have HN := Lib.hid (ris_no hlt (by rw [hK2]; simpa using hyx))
            have hd : decide (x ≤ y) = true := decide_eq_true (by omega)
            clear step hK2
            go_wp2_with fail
            refine rx_open [(true, 0, some 12, 2), (true, 0, some 13, 32), (true, 3, some 14, 12288), (true, 4, some 15, 16384), (true, 0, some 16, 1), (true, 16, some 17, 65536), (false, 40, some 18, 163840), (true, 64, some 19, 262144), (true, 192, some 20, 524288), (true, 256, some 21, 1048608), (true, 768, some 22, 3145728), (true, 1280, some 23, 5242880), (true, 2048, some 24, 8388610), (true, 2048, some 25, 8388640), (true, 14336, some 26, 58720256), (true, 18432, some 27, 75497472), (true, 2048, some 28, 8388610), (true, 2048, some 29, 8388640), (true, 133120, some 30, 545259520), (true, 329728, some 31, 1350565888), (true, 526336, some 32, 2155872256), (true, 1083392, some 33, 4437573632), (true, 2099456, some 34, 8599371776), (true, 4194560, some 35, 17180917760)] 0 24 mixd rfl (by kernel_rfl) (by kernel_rfl) (by kernel_rfl) ?_
            refine rx_run (run := [0, 1, 2, 3, 4, 5]) (k := 18) (m' := 63) rfl (by kernel_rfl) (by kernel_rfl) (by kernel_rfl) (fm_cons rfl <| fm_cons rfl <| fm_cons rfl <| fm_cons rfl <| fm_cons rfl <| fm_cons rfl <| List.filterMap_nil) (by repeat first | exact Ext.refl _ | assumption | refine Ext.drew ?_ | refine Ext.alloc ?_ _ | refine Ext.setCell ?_ (by simp) | refine Ext.setCell ?_ (by simp; omega) | refine Ext.trans ?_ (by assumption)) ?_
            repeat (go_big_quiet_step ((fail)))
            refine wpQuiet_nil ?_
            refine rx_op 6 (k := 17) (m' := 127) rfl rfl (by kernel_rfl) (by kernel_rfl) ?_
            go_wp2_with ((go_at_call 67; refine (l01In_c _ _ _ _).mono ?_; rw [hw]; rintro e w5 ⟨rfl, rfl⟩))
            refine rx_on (by repeat first | exact Ext.refl _ | assumption | refine Ext.drew ?_ | refine Ext.alloc ?_ _ | refine Ext.setCell ?_ (by simp) | refine Ext.setCell ?_ (by simp; omega) | refine Ext.trans ?_ (by assumption)) ?_
            refine rx_run (run := [7, 8, 9, 10, 11, 12, 13, 14, 15, 16, 17, 18, 19, 20, 21, 22, 23]) (k := 0) (m' := 16777215) rfl (by kernel_rfl) (by kernel_rfl) (by kernel_rfl) (fm_cons rfl <| fm_cons rfl <| fm_cons rfl <| fm_cons rfl <| fm_cons rfl <| fm_cons rfl <| fm_cons rfl <| fm_cons rfl <| fm_cons rfl <| fm_cons rfl <| fm_cons rfl <| fm_cons rfl <| fm_cons rfl <| fm_cons rfl <| fm_cons rfl <| fm_cons rfl <| fm_cons rfl <| List.filterMap_nil) (by repeat first | exact Ext.refl _ | assumption | refine Ext.drew ?_ | refine Ext.alloc ?_ _ | refine Ext.setCell ?_ (by simp) | refine Ext.setCell ?_ (by simp; omega) | refine Ext.trans ?_ (by assumption)) ?_
            repeat (go_big_quiet_step ((fail)))
            refine wpQuiet_nil ?_
            refine rx_end (by kernel_rfl) ?_
            all_goals go_wp2
            go_ret
            exact ⟨ret_b (by rw [HN.out]), hx.trans (by repeat first | exact Ext.refl _ | assumption | refine Ext.drew ?_ | refine Ext.alloc ?_ _ | refine Ext.setCell ?_ (by simp) | refine Ext.setCell ?_ (by simp; omega) | refine Ext.trans ?_ (by assumption))⟩
      · have hw' := eq_false_of_ne_true hw
        have HN := Lib.hid (ris_no hlt (by rw [HK.out, hw']; rfl))
        clear step
        go_wp2_with fail
        refine rx_open [(true, 0, some 12, 2), (true, 0, some 13, 32), (true, 3, some 14, 12288), (true, 4, some 15, 16384), (true, 0, some 16, 1), (true, 16, some 17, 65536), (false, 40, some 18, 163840), (true, 64, some 19, 262144), (true, 192, some 20, 524288), (true, 256, some 21, 1048608), (true, 768, some 22, 3145728), (true, 1280, some 23, 5242880), (true, 2048, some 24, 8388610), (true, 2048, some 25, 8388640), (true, 14336, some 26, 58720256), (true, 18432, some 27, 75497472), (true, 2048, some 28, 8388610), (true, 2048, some 29, 8388640), (true, 133120, some 30, 545259520), (true, 329728, some 31, 1350565888), (true, 526336, some 32, 2155872256), (true, 1083392, some 33, 4437573632), (true, 2099456, some 34, 8599371776), (true, 4194560, some 35, 17180917760)] 0 24 mixd rfl (by kernel_rfl) (by kernel_rfl) (by kernel_rfl) ?_
        refine rx_run (run := [0, 1, 2, 3, 4, 5]) (k := 18) (m' := 63) rfl (by kernel_rfl) (by kernel_rfl) (by kernel_rfl) (fm_cons rfl <| fm_cons rfl <| fm_cons rfl <| fm_cons rfl <| fm_cons rfl <| fm_cons rfl <| List.filterMap_nil) (by repeat first | exact Ext.refl _ | assumption | refine Ext.drew ?_ | refine Ext.alloc ?_ _ | refine Ext.setCell ?_ (by simp) | refine Ext.setCell ?_ (by simp; omega) | refine Ext.trans ?_ (by assumption)) ?_
        repeat (go_big_quiet_step ((fail)))
        refine wpQuiet_nil ?_
        refine rx_op 6 (k := 17) (m' := 127) rfl rfl (by kernel_rfl) (by kernel_rfl) ?_
        go_wp2_with ((go_at_call 67; refine (l01In_c _ _ _ _).mono ?_; rw [hw']; rintro e w5 ⟨rfl, rfl⟩))
        refine rx_on (by repeat first | exact Ext.refl _ | assumption | refine Ext.drew ?_ | refine Ext.alloc ?_ _ | refine Ext.setCell ?_ (by simp) | refine Ext.setCell ?_ (by simp; omega) | refine Ext.trans ?_ (by assumption)) ?_
        refine rx_run (run := [7, 8, 9, 10, 11, 12, 13, 14, 15, 16, 17, 18, 19, 20, 21, 22, 23]) (k := 0) (m' := 16777215) rfl (by kernel_rfl) (by kernel_rfl) (by kernel_rfl) (fm_cons rfl <| fm_cons rfl <| fm_cons rfl <| fm_cons rfl <| fm_cons rfl <| fm_cons rfl <| fm_cons rfl <| fm_cons rfl <| fm_cons rfl <| fm_cons rfl <| fm_cons rfl <| fm_cons rfl <| fm_cons rfl <| fm_cons rfl <| fm_cons rfl <| fm_cons rfl <| fm_cons rfl <| List.filterMap_nil) (by repeat first | exact Ext.refl _ | assumption | refine Ext.drew ?_ | refine Ext.alloc ?_ _ | refine Ext.setCell ?_ (by simp) | refine Ext.setCell ?_ (by simp; omega) | refine Ext.trans ?_ (by assumption)) ?_
        repeat (go_big_quiet_step ((fail)))
        refine wpQuiet_nil ?_
        refine rx_end (by kernel_rfl) ?_
        all_goals go_wp2
        go_ret
        exact ⟨ret_b (by rw [HN.out]), hx.trans (by repeat first | exact Ext.refl _ | assumption | refine Ext.drew ?_ | refine Ext.alloc ?_ _ | refine Ext.setCell ?_ (by simp) | refine Ext.setCell ?_ (by simp; omega) | refine Ext.trans ?_ (by assumption))⟩
    · obtain rfl : j = xs.length := by omega
      have HY := Lib.hid (ris_iff.2 ha.out)
      go_wp2
      go_ret
      exact ⟨ret_b (by rw [HY.out]), hx⟩
end Go.Proofs.Ytpainmnekgnpeaa
