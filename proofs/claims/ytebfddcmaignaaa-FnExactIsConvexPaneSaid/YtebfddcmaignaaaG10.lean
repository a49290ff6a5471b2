import Derived.Test.YtebfddcmaignaaaG8
import Derived.Test.YtebfddcmaignaaaG5
import Derived.Test.YtebfddcmaignaaaG9
import Derived.Test.YtebfddcmaignaaaG1
import Derived.Deep.DeepCutAuto
import Derived.Test.YtebfddcmaignaaaG6
namespace Go.Proofs.Ytebfddcmaignaaa
open Go.RowKit Go.Sort Go.BigFrame

theorem OzI.gb {w w' : World} {B0 B : Nat} {v : Value} {xs : List Int} {r : Option Nat} (h : OzI w B0 B v xs) (k : w.grownBy w' r) (hr : ∀ g, v.ownBlock = some g → r ≠ some g) : OzI w' B0 B v xs :=
  h.imp (fun h => gb_own h k hr) (fun ⟨h1, h2, h3, h4⟩ => ⟨h1, gb_own h2 k hr, h3, h4⟩)
set_option maxRecDepth 100000 in
set_option maxHeartbeats 2000000 in
theorem l16Groups_c (n : Nat) (w : World) (hn : n ≤ 100) : Calls Try.prog 110 #[.int .i64 (n : Int)] w fun e w' => ∃ v, e = .returned v ∧ OwI w' w.heap.size v (ids n) ∧ Ext w w' := by
  go_enter Try.func110, Try.ntmps110
  go_wp2_with fail
  have hv0 : OzI (w.alloc (.cells #[] 3)) w.heap.size w.heap.size (.slice (some ⟨w.heap.size, 0, none⟩) 0 0) (ids 0) := OzI.zero _ (by omega) rfl
  have hx2 : Ext w (w.alloc (.cells #[] 3)) := (by repeat first | exact Ext.refl _ | assumption | refine Ext.drew ?_ | refine Ext.alloc ?_ _ | refine Ext.setCell ?_ (by simp) | refine Ext.setCell ?_ (by simp; omega) | refine Ext.trans ?_ (by assumption))
  generalize (w.alloc (.cells #[] 3)) = w2 at *
  go_loopw [3, 4] (fun v i wr => ∃ j : Nat, j ≤ n ∧ i = .int .i64 j ∧ OzI wr w.heap.size w.heap.size v (ids j) ∧ Ext w wr) (fun _ i _ => n - (intOf i).toNat)
  case atStart => exact ⟨0, by omega, rfl, hv0, hx2⟩
  case round =>
    clear hv0 hx2
    obtain ⟨j, hj, rfl, hv, hxr⟩ := hrel
    obtain ⟨wo, rfl⟩ : ∃ x : World, x = wr := ⟨_, rfl⟩
    by_cases hlt : j < n
    · have hsz := hxr.size
      have HI := Lib.hid (ids_length j)
      have Hs : Hid (ids (j + 1) = ids j ++ [(j : Int)]) := Lib.hid (by unfold ids; rw [List.range_succ, List.map_append]; rfl)
      go_wp2_with (at_builtin; refine az_int _ _ rfl rfl rfl (hv.ext ((Ext.refl wo).alloc _)) (g := wo.heap.size) (y := j) (by first | rfl | simp) (by go_simp) (by rw [HI.out]; omega) (by simp; omega) ?_)
      intro v' w' h1 h3
      go_wp2
      go_roundw
      case rel => exact ⟨j + 1, by omega, by go_num, by rw [Hs.out]; exact h1, h3 _ (hxr.trans (by repeat first | exact Ext.refl _ | assumption | refine Ext.drew ?_ | refine Ext.alloc ?_ _ | refine Ext.setCell ?_ (by simp) | refine Ext.setCell ?_ (by simp; omega) | refine Ext.trans ?_ (by assumption))) (Nat.le_refl _)⟩
      case measure => first | (simp [intOf]; done) | (simp [intOf]; omega)
    · obtain rfl : j = n := by omega
      go_wp2
      go_ret
      exact ⟨_, rfl, hv.own (Nat.le_refl _), hxr⟩

set_option maxRecDepth 100000 in
set_option maxHeartbeats 2000000 in
theorem l16Join_c (v : Value) (G : List Int) (a b : Nat) (w : World) {B : Nat} (h : OwI w B v G) (hl : G.length ≤ 100) (ha : a < G.length) (hb : b < G.length) :
    Calls Try.prog 111 #[v, .int .i64 (a : Int), .int .i64 (b : Int)] w fun e w' => e = .returned (.bool (gi G a != gi G b)) ∧ OwI w' B v (joinG G a b) ∧ w.grownBy w' v.ownBlock := by
  have HG : Hid (joinG G a b = G.map (joinF (gi G a) (gi G b))) := Lib.hid rfl
  obtain ⟨g, c, rfl, hcap, hgB, hgw, -, -⟩ := h.at_ (j := 0) (by omega)
  have c1 := (h.cel ha).1
  have c2 := (h.cel hb).1
  have ha' : (a : Int) < G.length := by omega
  have hb' : (b : Int) < G.length := by omega
  by_cases hq : gi G a = gi G b
  · have HS := Lib.hid (joinG_same hq)
    rw [hq] at c1
    have Hq := Lib.hid hq
    clear hq
    generalize gi G b = y at *
    have hyy : (y != y) = false := by simp
    go_enter Try.func111, Try.ntmps111
    go_wp2_with fail
    go_loop [9] (fun i => i = .int .i64 0) (fun _ => 0)
    case atStart => rfl
    case round =>
      obtain rfl := hrel
      go_wp2
      go_ret
      exact ⟨ret_b (by rw [Hq.out]; simp), by rw [HS.out]; exact h, gb_refl _ _⟩
  · have hne : (gi G a != gi G b) = true := by simp [hq]
    clear hq
    have HQ : Hid ((gi G a != gi G b) = true) := Lib.hid hne
    generalize gi G a = x at *
    generalize gi G b = y at *
    go_enter Try.func111, Try.ntmps111
    go_wp2_with fail
    clear c1 c2
    go_loopw [9] (fun i wr => ∃ j : Nat, j ≤ G.length ∧ i = .int .i64 j ∧ OwI wr B (.slice (some ⟨g, 0, none⟩) G.length c) (upto (joinF x y) G j) ∧ w.grownBy wr (some g)) (fun i _ => G.length - (intOf i).toNat)
    case atStart => exact ⟨0, by omega, rfl, by rw [upto_zero]; exact h, gb_refl _ _⟩
    case round =>
      clear h
      obtain ⟨j, hj, rfl, hv, hg⟩ := hrel
      obtain ⟨wo, rfl⟩ : ∃ x : World, x = wr := ⟨_, rfl⟩
      by_cases hlt : j < G.length
      · obtain ⟨c3, c4⟩ := hv.cel (j := j) (by rw [upto_len]; omega)
        rw [upto_at _ _ hlt] at c3
        have hji : (j : Int) < G.length := by omega
        by_cases hz : gi G j = y
        · have hset := hv.set_ (by rw [upto_len]) j x
          have hs2 := upto_set (joinF x y) G (j := j) hlt
          have hF : joinF x y (gi G j) = x := if_pos hz
          rw [hF] at hs2
          rw [hs2] at hset
          have Hset := Lib.hid hset
          rw [hz] at c3
          have hgs := gb_set hg j (.int .i64 x)
          clear hset hs2 hv hF hz
          go_wp2
          go_roundw
          case rel => exact ⟨j + 1, by omega, by go_num, Hset.out, hgs⟩
          case measure => first | (simp [intOf]; done) | (simp [intOf]; omega)
        · have Hs2 := Lib.hid (upto_same (joinF x y) G (j := j) hlt (if_neg hz))
          have hz' : (gi G j == y) = false := beq_eq_false_iff_ne.2 hz
          go_wp2
          go_roundw
          case rel => exact ⟨j + 1, by omega, by go_num, by rw [Hs2.out]; exact hv, hg⟩
          case measure => first | (simp [intOf]; done) | (simp [intOf]; omega)
      · rw [upto_all _ _ (by omega)] at hv
        go_wp2
        go_ret
        exact ⟨ret_b (by rw [HQ.out]), by rw [HG.out]; exact hv, hg⟩

def vFirstSpanning (ns ls : List P2) : List Int := if whole ns ls = true then flt (joins ns.length ls) ls.length else []
theorem vFirstSpanning_len (ns ls : List P2) : (vFirstSpanning ns ls).length ≤ 1000 := by
  unfold vFirstSpanning
  split
  · rename_i h
    have := (whole_ok h).1.le
    have := flt_len (joins ns.length ls) ls.length
    omega
  · simp

end Go.Proofs.Ytebfddcmaignaaa

namespace Go.Proofs.Ytebfddcmaignaaa
open Go.RowKit Go.Sort Go.BigFrame

/-- the numbers rise, and are in a range -/
def ris (l : List Int) (lo hi : Int) : Bool := (List.range l.length).all (fun i => wi (gi l (i : Nat)) lo hi && (i == 0 || decide (gi l ((i - 1 : Nat) : Int) < gi l (i : Nat))))
def risK (l : List Int) (lo hi : Int) (i : Nat) : Bool := wi (gi l (i : Nat)) lo hi && (i == 0 || decide (gi l ((i - 1 : Nat) : Int) < gi l (i : Nat)))
theorem ris_iff {l : List Int} {lo hi : Int} : ris l lo hi = true ↔ ∀ i, i < l.length → risK l lo hi i = true := by
  unfold ris risK
  rw [List.all_eq_true]
  simp only [List.mem_range]
theorem ris_no {l : List Int} {lo hi : Int} {i : Nat} (hi' : i < l.length) (h : risK l lo hi i = false) : ris l lo hi = false := by
  rw [Bool.eq_false_iff]
  intro e
  rw [ris_iff.1 e i hi'] at h
  cases h
theorem ris_bd {l : List Int} {lo hi : Int} (h : ris l lo hi = true) {i : Nat} (hi' : i < l.length) : lo ≤ gi l i ∧ gi l i ≤ hi := by
  have := ris_iff.1 h i hi'
  simp only [risK, wi, Bool.and_eq_true, decide_eq_true_eq] at this
  exact this.1

set_option maxRecDepth 100000 in
set_option maxHeartbeats 2000000 in
theorem rising_c (A : Option Addr) (c : Nat) (xs : List Int) (lo hi : Int) (w : World) (hl : xs.length ≤ 2000000) (h : In w w.heap.size A xs) :
    Calls Try.prog 112 #[.slice A xs.length c, .int .i64 lo, .int .i64 hi] w fun e w' => e = .returned (.bool (ris xs lo hi)) ∧ w = w' := by
  go_enter Try.func112, Try.ntmps112
  go_wp2
  go_loop [7, 8, 11] (fun _ _ i => ∃ j : Nat, j ≤ xs.length ∧ i = .int .i64 j ∧ Hid (∀ i, i < j → risK xs lo hi i = true)) (fun _ _ i => xs.length - (intOf i).toNat)
  case atStart => exact ⟨0, by omega, rfl, Lib.hid (fun i hi => by omega)⟩
  case round =>
    obtain ⟨j, hj, rfl, ha⟩ := hrel
    by_cases hlt : j < xs.length
    · obtain ⟨b, off, rfl, hbb, c1⟩ := h.gi_ hlt
      have HK : Hid (risK xs lo hi j = (wi (gi xs (j : Nat)) lo hi && (j == 0 || decide (gi xs ((j - 1 : Nat) : Int) < gi xs (j : Nat))))) := Lib.hid rfl
      have step : risK xs lo hi j = true → Hid (∀ i, i < j + 1 → risK xs lo hi i = true) := fun hk => Lib.hid (fun i hi => by
        rcases Nat.lt_succ_iff_lt_or_eq.1 hi with h | h
        · exact ha.out i h
        · subst h; exact hk)
      by_cases hw : wi (gi xs j) lo hi = true
      · rcases j with _ | j
        · have hk := step (by rw [HK.out, hw]; rfl)
          have c1 : w.cell? ⟨b, off, none⟩ = some (.int .i64 (gi xs 0)) := c1
          have hw : wi (gi xs 0) lo hi = true := hw
          clear step
          go_wp2_with fail
          refine (within_c _ _ _ _).mono ?_
          rintro e w' ⟨rfl, rfl⟩
          rw [hw]
          go_wp2
          go_round
          case rel => exact ⟨0 + 1, by omega, by go_num, hk⟩
          case measure => simp [intOf]; omega
        · obtain ⟨b', off', he, hbb', c2⟩ := h.gi_ (k := j) (by omega)
          obtain ⟨rfl, rfl⟩ : b = b' ∧ off = off' := by simpa using he
          clear he hbb'
          have hK2 : risK xs lo hi (j + 1) = decide (gi xs (j : Nat) < gi xs ((j + 1 : Nat) : Int)) := by rw [HK.out, hw]; simp
          generalize hx : gi xs ((j + 1 : Nat) : Int) = x at *
          generalize hy : gi xs (j : Nat) = y at *
          clear hx hy
          by_cases hyx : y < x
          · have hk := step (by rw [hK2]; simpa using hyx)
            have hd : decide (x ≤ y) = false := decide_eq_false (by omega)
            clear step hK2
            go_wp2_with fail
            refine (within_c _ _ _ _).mono ?_
            rintro e w' ⟨rfl, rfl⟩
            rw [hw]
            go_wp2
            go_round
            case rel => exact ⟨j + 1 + 1, by omega, by go_num, hk⟩
            case measure => simp [intOf]; omega
          · have HN := Lib.hid (ris_no hlt (by rw [hK2]; simpa using hyx))
            have hd : decide (x ≤ y) = true := decide_eq_true (by omega)
            clear step hK2
            go_wp2_with fail
            refine (within_c _ _ _ _).mono ?_
            rintro e w' ⟨rfl, rfl⟩
            rw [hw]
            go_wp2
            go_ret
            exact ⟨ret_b (by rw [HN.out]), rfl⟩
      · have hw' := eq_false_of_ne_true hw
        have HN := Lib.hid (ris_no hlt (by rw [HK.out, hw']; rfl))
        clear step
        go_wp2_with fail
        refine (within_c _ _ _ _).mono ?_
        rintro e w' ⟨rfl, rfl⟩
        rw [hw']
        go_wp2
        go_ret
        exact ⟨ret_b (by rw [HN.out]), rfl⟩
    · obtain rfl : j = xs.length := by omega
      have HY := Lib.hid (ris_iff.2 ha.out)
      go_wp2
      go_ret
      exact ⟨ret_b (by rw [HY.out]), rfl⟩

set_option maxRecDepth 100000 in
set_option maxHeartbeats 2000000 in
theorem l16List_c (A : Option Addr) (c : Nat) (xs : List Int) (n : Nat) (w : World) (hn : n ≤ 2000000) (hl : xs.length ≤ 2000000) (h : In w w.heap.size A xs) :
    Calls Try.prog 109 #[.int .i64 (n : Int), .slice A xs.length c] w fun e w' => e = .returned (.bool (ris xs 0 (n - 1))) ∧ Ext w w' := by
  go_enter Try.func109, Try.ntmps109
  go_wp2
  go_loopw [5] (fun i wr => ∃ j : Nat, j ≤ xs.length ∧ i = .int .i64 j ∧ Hid (∀ i, i < j → risK xs 0 (n - 1) i = true) ∧ Ext w wr) (fun i _ => xs.length - (intOf i).toNat)
  case atStart => exact ⟨0, by omega, rfl, Lib.hid (fun i hi => by omega), Ext.refl _⟩
  case round =>
    obtain ⟨j, hj, rfl, ha, hx⟩ := hrel
    obtain ⟨wo, rfl⟩ : ∃ x : World, x = wr := ⟨_, rfl⟩
    by_cases hlt : j < xs.length
    · obtain ⟨b, off, rfl, hbb, c1⟩ := (h.ext hx).gi_ hlt
      have HK : Hid (risK xs 0 (n - 1) j = (wi (gi xs (j : Nat)) 0 (n - 1) && (j == 0 || decide (gi xs ((j - 1 : Nat) : Int) < gi xs (j : Nat))))) := Lib.hid rfl
      have step : risK xs 0 (n - 1) j = true → Hid (∀ i, i < j + 1 → risK xs 0 (n - 1) i = true) := fun hk => Lib.hid (fun i hi => by
        rcases Nat.lt_succ_iff_lt_or_eq.1 hi with h | h
        · exact ha.out i h
        · subst h; exact hk)
      have hji : (j : Int) < xs.length := by omega
      have d0 := cell_regrown c1
      by_cases hw : wi (gi xs j) 0 (n - 1) = true
      · rcases j with _ | j
        · have hk := step (by rw [HK.out, hw]; rfl)
          have hd0 : decide ((0 : Int) < ((0 : Nat) : Int)) = false := decide_eq_false (by omega)
          have c1 : wo.cell? ⟨b, off, none⟩ = some (.int .i64 (gi xs 0)) := c1
          have hw : wi (gi xs 0) 0 (n - 1) = true := hw
          have d0 := cell_regrown c1
          clear step
          go_wp2_with fail
          refine rx_open [(true, 0, some 12, 2), (true, 0, some 13, 32), (true, 3, some 14, 12288), (true, 4, some 15, 16384), (true, 0, some 16, 1), (true, 16, some 17, 65536), (false, 40, some 18, 163840), (true, 64, some 19, 262144), (true, 192, some 20, 524288), (true, 256, some 21, 1048608), (true, 768, some 22, 3145728), (true, 1280, some 23, 5242880), (true, 2048, some 24, 8388610), (true, 2048, some 25, 8388640), (true, 14336, some 26, 58720256), (true, 18432, some 27, 75497472), (true, 2048, some 28, 8388610), (true, 2048, some 29, 8388640), (true, 133120, some 30, 545259520), (true, 329728, some 31, 1350565888), (true, 526336, some 32, 2155872256), (true, 1083392, some 33, 4437573632), (true, 2099456, some 34, 8599371776), (true, 4194560, some 35, 17180917760)] 0 24 mixd rfl (by kernel_rfl) (by kernel_rfl) (by kernel_rfl) ?_
          refine rx_run (run := [0, 1, 2, 3, 4, 5]) (k := 18) (m' := 63) rfl (by kernel_rfl) (by kernel_rfl) (by kernel_rfl) (fm_cons rfl <| fm_cons rfl <| fm_cons rfl <| fm_cons rfl <| fm_cons rfl <| fm_cons rfl <| List.filterMap_nil) (by repeat first | exact Ext.refl _ | assumption | refine Ext.drew ?_ | refine Ext.alloc ?_ _ | refine Ext.setCell ?_ (by simp) | refine Ext.setCell ?_ (by simp; omega) | refine Ext.trans ?_ (by assumption)) ?_
          repeat (go_big_quiet_step ((fail)))
          refine wpQuiet_nil ?_
          refine rx_op 6 (k := 17) (m' := 127) rfl rfl (by kernel_rfl) (by kernel_rfl) ?_
          go_wp2_with ((go_at_call 90; refine (l01In_c _ _ _ _).mono ?_; rw [hw]; rintro e w5 ⟨rfl, rfl⟩))
          refine rx_on (by repeat first | exact Ext.refl _ | assumption | refine Ext.drew ?_ | refine Ext.alloc ?_ _ | refine Ext.setCell ?_ (by simp) | refine Ext.setCell ?_ (by simp; omega) | refine Ext.trans ?_ (by assumption)) ?_
          refine rx_run (run := [7, 8, 9, 10, 11, 12, 13, 14, 15, 16, 17, 18, 19, 20, 21, 22, 23]) (k := 0) (m' := 16777215) rfl (by kernel_rfl) (by kernel_rfl) (by kernel_rfl) (fm_cons rfl <| fm_cons rfl <| fm_cons rfl <| fm_cons rfl <| fm_cons rfl <| fm_cons rfl <| fm_cons rfl <| fm_cons rfl <| fm_cons rfl <| fm_cons rfl <| fm_cons rfl <| fm_cons rfl <| fm_cons rfl <| fm_cons rfl <| fm_cons rfl <| fm_cons rfl <| fm_cons rfl <| List.filterMap_nil) (by repeat first | exact Ext.refl _ | assumption | refine Ext.drew ?_ | refine Ext.alloc ?_ _ | refine Ext.setCell ?_ (by simp) | refine Ext.setCell ?_ (by simp; omega) | refine Ext.trans ?_ (by assumption)) ?_
          repeat (go_big_quiet_step ((fail)))
          refine wpQuiet_nil ?_
          refine rx_end (by kernel_rfl) ?_
          all_goals go_wp2
          go_roundw
          case rel => exact ⟨0 + 1, by omega, by go_num, hk, hx.trans (by repeat first | exact Ext.refl _ | assumption | refine Ext.drew ?_ | refine Ext.alloc ?_ _ | refine Ext.setCell ?_ (by simp) | refine Ext.setCell ?_ (by simp; omega) | refine Ext.trans ?_ (by assumption))⟩
          case measure => first | (simp [intOf]; done) | (simp [intOf]; omega)
        · obtain ⟨b', off', he, hbb', c2⟩ := (h.ext hx).gi_ (k := j) (by omega)
          obtain ⟨rfl, rfl⟩ : b = b' ∧ off = off' := by simpa using he
          clear he hbb'
          have d1 := cell_regrown c2
          have hK2 : risK xs 0 (n - 1) (j + 1) = decide (gi xs (j : Nat) < gi xs ((j + 1 : Nat) : Int)) := by rw [HK.out, hw]; simp
          have hd0 : decide ((0 : Int) < ((j + 1 : Nat) : Int)) = true := decide_eq_true (by omega)
          have hj1 : IntKind.i64.wrap (((j + 1 : Nat) : Int) - 1) = (j : Int) := by rw [IntKind.wrap_i64]; omega
          have hj2 : IntKind.i64.wrap ((j : Int) + 1 - 1) = (j : Int) := by rw [IntKind.wrap_i64]; omega
          have hji2 : (j : Int) < xs.length := by omega
          generalize hx0 : gi xs ((j + 1 : Nat) : Int) = x at *
          generalize hy : gi xs (j : Nat) = y at *
          clear hx0 hy
          by_cases hyx : y < x
          · have hk := step (by rw [hK2]; simpa using hyx)
            have hd : decide (x ≤ y) = false := decide_eq_false (by omega)
            clear step hK2
            go_wp2_with fail
            refine rx_open [(true, 0, some 12, 2), (true, 0, some 13, 32), (true, 3, some 14, 12288), (true, 4, some 15, 16384), (true, 0, some 16, 1), (true, 16, some 17, 65536), (false, 40, some 18, 163840), (true, 64, some 19, 262144), (true, 192, some 20, 524288), (true, 256, some 21, 1048608), (true, 768, some 22, 3145728), (true, 1280, some 23, 5242880), (true, 2048, some 24, 8388610), (true, 2048, some 25, 8388640), (true, 14336, some 26, 58720256), (true, 18432, some 27, 75497472), (true, 2048, some 28, 8388610), (true, 2048, some 29, 8388640), (true, 133120, some 30, 545259520), (true, 329728, some 31, 1350565888), (true, 526336, some 32, 2155872256), (true, 1083392, some 33, 4437573632), (true, 2099456, some 34, 8599371776), (true, 4194560, some 35, 17180917760)] 0 24 mixd rfl (by kernel_rfl) (by kernel_rfl) (by kernel_rfl) ?_
            refine rx_run (run := [0, 1, 2, 3, 4, 5]) (k := 18) (m' := 63) rfl (by kernel_rfl) (by kernel_rfl) (by kernel_rfl) (fm_cons rfl <| fm_cons rfl <| fm_cons rfl <| fm_cons rfl <| fm_cons rfl <| fm_cons rfl <| List.filterMap_nil) (by repeat first | exact Ext.refl _ | assumption | refine Ext.drew ?_ | refine Ext.alloc ?_ _ | refine Ext.setCell ?_ (by simp) | refine Ext.setCell ?_ (by simp; omega) | refine Ext.trans ?_ (by assumption)) ?_
            repeat (go_big_quiet_step ((fail)))
            refine wpQuiet_nil ?_
            refine rx_op 6 (k := 17) (m' := 127) rfl rfl (by kernel_rfl) (by kernel_rfl) ?_
            go_wp2_with ((go_at_call 90; refine (l01In_c _ _ _ _).mono ?_; rw [hw]; rintro e w5 ⟨rfl, rfl⟩))
            refine rx_on (by repeat first | exact Ext.refl _ | assumption | refine Ext.drew ?_ | refine Ext.alloc ?_ _ | refine Ext.setCell ?_ (by simp) | refine Ext.setCell ?_ (by simp; omega) | refine Ext.trans ?_ (by assumption)) ?_
            refine rx_run (run := [7, 8, 9, 10, 11, 12, 13, 14, 15, 16, 17, 18, 19, 20, 21, 22, 23]) (k := 0) (m' := 16777215) rfl (by kernel_rfl) (by kernel_rfl) (by kernel_rfl) (fm_cons rfl <| fm_cons rfl <| fm_cons rfl <| fm_cons rfl <| fm_cons rfl <| fm_cons rfl <| fm_cons rfl <| fm_cons rfl <| fm_cons rfl <| fm_cons rfl <| fm_cons rfl <| fm_cons rfl <| fm_cons rfl <| fm_cons rfl <| fm_cons rfl <| fm_cons rfl <| fm_cons rfl <| List.filterMap_nil) (by repeat first | exact Ext.refl _ | assumption | refine Ext.drew ?_ | refine Ext.alloc ?_ _ | refine Ext.setCell ?_ (by simp) | refine Ext.setCell ?_ (by simp; omega) | refine Ext.trans ?_ (by assumption)) ?_
            repeat (go_big_quiet_step ((fail)))
            refine wpQuiet_nil ?_
            refine rx_end (by kernel_rfl) ?_
            all_goals go_wp2
            go_roundw
            case rel => exact ⟨j + 1 + 1, by omega, by go_num, hk, hx.trans (by repeat first | exact Ext.refl _ | assumption | refine Ext.drew ?_ | refine Ext.alloc ?_ _ | refine Ext.setCell ?_ (by simp) | refine Ext.setCell ?_ (by simp; omega) | refine Ext.trans ?_ (by assumption))⟩
            case measure => first | (simp [intOf]; done) | (simp [intOf]; omega)
          · have HN := Lib.hid (ris_no hlt (by rw [hK2]; simpa using hyx))
            have hd : decide (x ≤ y) = true := decide_eq_true (by omega)
            clear step hK2
            go_wp2_with fail
            refine rx_open [(true, 0, some 12, 2), (true, 0, some 13, 32), (true, 3, some 14, 12288), (true, 4, some 15, 16384), (true, 0, some 16, 1), (true, 16, some 17, 65536), (false, 40, some 18, 163840), (true, 64, some 19, 262144), (true, 192, some 20, 524288), (true, 256, some 21, 1048608), (true, 768, some 22, 3145728), (true, 1280, some 23, 5242880), (true, 2048, some 24, 8388610), (true, 2048, some 25, 8388640), (true, 14336, some 26, 58720256), (true, 18432, some 27, 75497472), (true, 2048, some 28, 8388610), (true, 2048, some 29, 8388640), (true, 133120, some 30, 545259520), (true, 329728, some 31, 1350565888), (true, 526336, some 32, 2155872256), (true, 1083392, some 33, 4437573632), (true, 2099456, some 34, 8599371776), (true, 4194560, some 35, 17180917760)] 0 24 mixd rfl (by kernel_rfl) (by kernel_rfl) (by kernel_rfl) ?_
            refine rx_run (run := [0, 1, 2, 3, 4, 5]) (k := 18) (m' := 63) rfl (by kernel_rfl) (by kernel_rfl) (by kernel_rfl) (fm_cons rfl <| fm_cons rfl <| fm_cons rfl <| fm_cons rfl <| fm_cons rfl <| fm_cons rfl <| List.filterMap_nil) (by repeat first | exact Ext.refl _ | assumption | refine Ext.drew ?_ | refine Ext.alloc ?_ _ | refine Ext.setCell ?_ (by simp) | refine Ext.setCell ?_ (by simp; omega) | refine Ext.trans ?_ (by assumption)) ?_
            repeat (go_big_quiet_step ((fail)))
            refine wpQuiet_nil ?_
            refine rx_op 6 (k := 17) (m' := 127) rfl rfl (by kernel_rfl) (by kernel_rfl) ?_
            go_wp2_with ((go_at_call 90; refine (l01In_c _ _ _ _).mono ?_; rw [hw]; rintro e w5 ⟨rfl, rfl⟩))
            refine rx_on (by repeat first | exact Ext.refl _ | assumption | refine Ext.drew ?_ | refine Ext.alloc ?_ _ | refine Ext.setCell ?_ (by simp) | refine Ext.setCell ?_ (by simp; omega) | refine Ext.trans ?_ (by assumption)) ?_
            refine rx_run (run := [7, 8, 9, 10, 11, 12, 13, 14, 15, 16, 17, 18, 19, 20, 21, 22, 23]) (k := 0) (m' := 16777215) rfl (by kernel_rfl) (by kernel_rfl) (by kernel_rfl) (fm_cons rfl <| fm_cons rfl <| fm_cons rfl <| fm_cons rfl <| fm_cons rfl <| fm_cons rfl <| fm_cons rfl <| fm_cons rfl <| fm_cons rfl <| fm_cons rfl <| fm_cons rfl <| fm_cons rfl <| fm_cons rfl <| fm_cons rfl <| fm_cons rfl <| fm_cons rfl <| fm_cons rfl <| List.filterMap_nil) (by repeat first | exact Ext.refl _ | assumption | refine Ext.drew ?_ | refine Ext.alloc ?_ _ | refine Ext.setCell ?_ (by simp) | refine Ext.setCell ?_ (by simp; omega) | refine Ext.trans ?_ (by assumption)) ?_
            repeat (go_big_quiet_step ((fail)))
            refine wpQuiet_nil ?_
            refine rx_end (by kernel_rfl) ?_
            all_goals go_wp2
            go_ret
            exact ⟨ret_b (by rw [HN.out]), hx.trans (by repeat first | exact Ext.refl _ | assumption | refine Ext.drew ?_ | refine Ext.alloc ?_ _ | refine Ext.setCell ?_ (by simp) | refine Ext.setCell ?_ (by simp; omega) | refine Ext.trans ?_ (by assumption))⟩
      · have hw' := eq_false_of_ne_true hw
        have HN := Lib.hid (ris_no hlt (by rw [HK.out, hw']; rfl))
        clear step
        go_wp2_with fail
        refine rx_open [(true, 0, some 12, 2), (true, 0, some 13, 32), (true, 3, some 14, 12288), (true, 4, some 15, 16384), (true, 0, some 16, 1), (true, 16, some 17, 65536), (false, 40, some 18, 163840), (true, 64, some 19, 262144), (true, 192, some 20, 524288), (true, 256, some 21, 1048608), (true, 768, some 22, 3145728), (true, 1280, some 23, 5242880), (true, 2048, some 24, 8388610), (true, 2048, some 25, 8388640), (true, 14336, some 26, 58720256), (true, 18432, some 27, 75497472), (true, 2048, some 28, 8388610), (true, 2048, some 29, 8388640), (true, 133120, some 30, 545259520), (true, 329728, some 31, 1350565888), (true, 526336, some 32, 2155872256), (true, 1083392, some 33, 4437573632), (true, 2099456, some 34, 8599371776), (true, 4194560, some 35, 17180917760)] 0 24 mixd rfl (by kernel_rfl) (by kernel_rfl) (by kernel_rfl) ?_
        refine rx_run (run := [0, 1, 2, 3, 4, 5]) (k := 18) (m' := 63) rfl (by kernel_rfl) (by kernel_rfl) (by kernel_rfl) (fm_cons rfl <| fm_cons rfl <| fm_cons rfl <| fm_cons rfl <| fm_cons rfl <| fm_cons rfl <| List.filterMap_nil) (by repeat first | exact Ext.refl _ | assumption | refine Ext.drew ?_ | refine Ext.alloc ?_ _ | refine Ext.setCell ?_ (by simp) | refine Ext.setCell ?_ (by simp; omega) | refine Ext.trans ?_ (by assumption)) ?_
        repeat (go_big_quiet_step ((fail)))
        refine wpQuiet_nil ?_
        refine rx_op 6 (k := 17) (m' := 127) rfl rfl (by kernel_rfl) (by kernel_rfl) ?_
        go_wp2_with ((go_at_call 90; refine (l01In_c _ _ _ _).mono ?_; rw [hw']; rintro e w5 ⟨rfl, rfl⟩))
        refine rx_on (by repeat first | exact Ext.refl _ | assumption | refine Ext.drew ?_ | refine Ext.alloc ?_ _ | refine Ext.setCell ?_ (by simp) | refine Ext.setCell ?_ (by simp; omega) | refine Ext.trans ?_ (by assumption)) ?_
        refine rx_run (run := [7, 8, 9, 10, 11, 12, 13, 14, 15, 16, 17, 18, 19, 20, 21, 22, 23]) (k := 0) (m' := 16777215) rfl (by kernel_rfl) (by kernel_rfl) (by kernel_rfl) (fm_cons rfl <| fm_cons rfl <| fm_cons rfl <| fm_cons rfl <| fm_cons rfl <| fm_cons rfl <| fm_cons rfl <| fm_cons rfl <| fm_cons rfl <| fm_cons rfl <| fm_cons rfl <| fm_cons rfl <| fm_cons rfl <| fm_cons rfl <| fm_cons rfl <| fm_cons rfl <| fm_cons rfl <| List.filterMap_nil) (by repeat first | exact Ext.refl _ | assumption | refine Ext.drew ?_ | refine Ext.alloc ?_ _ | refine Ext.setCell ?_ (by simp) | refine Ext.setCell ?_ (by simp; omega) | refine Ext.trans ?_ (by assumption)) ?_
        repeat (go_big_quiet_step ((fail)))
        refine wpQuiet_nil ?_
        refine rx_end (by kernel_rfl) ?_
        all_goals go_wp2
        go_ret
        exact ⟨ret_b (by rw [HN.out]), hx.trans (by repeat first | exact Ext.refl _ | assumption | refine Ext.drew ?_ | refine Ext.alloc ?_ _ | refine Ext.setCell ?_ (by simp) | refine Ext.setCell ?_ (by simp; omega) | refine Ext.trans ?_ (by assumption))⟩
    · obtain rfl : j = xs.length := by omega
      have HY := Lib.hid (ris_iff.2 ha.out)
      go_wp2
      go_ret
      exact ⟨ret_b (by rw [HY.out]), hx⟩
end Go.Proofs.Ytebfddcmaignaaa

namespace Go.Proofs.Ytebfddcmaignaaa
open Go.RowKit Go.Sort Go.BigFrame

theorem infoA : (Try.prog.info? 75).map (fun i => (i.zero, i.size, i.bytes)) = some (some (.agg #[.int .i64 0, .int .i64 0]), 2, 16) := by kernel_rfl

set_option maxRecDepth 100000 in
set_option maxHeartbeats 2000000 in
theorem joined_c (B : Option Addr) (d n : Nat) (ls : List P2) (w : World) (hn : n ≤ 60) (hm : ls.length ≤ 60) (hv : Vd n ls) (hn0 : 0 < n) (g : Pr w w.heap.size B ls) :
    Calls Try.prog 113 #[.slice B ls.length d] w fun e w' => e = .returned (.int .i64 ((itB ls ls.length (2 ^ 0) : Nat) : Int)) ∧ Ext w w' := by
  have Hv := Lib.hid hv
  have H1 : Hid ((2 : Nat) ^ 0 = 1) := Lib.hid rfl
  clear hv
  go_enter Try.func113, Try.ntmps113
  go_wp2_with fail
  go_loopw [3, 8] (fun s i wr => ∃ r : Nat, r ≤ ls.length ∧ i = .int .i64 r ∧ s = .int .i64 (itB ls r (2 ^ 0) : Nat) ∧ Ext w wr) (fun _ i _ => ls.length - (intOf i).toNat)
  case atStart => exact ⟨0, by omega, rfl, rfl, Ext.refl _⟩
  case round =>
    obtain ⟨r, hr, rfl, rfl, hxr⟩ := hrel
    obtain ⟨wo, rfl⟩ : ∃ x : World, x = wr := ⟨_, rfl⟩
    by_cases hlt : r < ls.length
    · go_wp2_with fail
      go_loopw [3, 5, 12] (fun s _ i wr => ∃ j : Nat, j ≤ ls.length ∧ i = .int .i64 j ∧ s = .int .i64 ((ls.take j).foldl stepB (itB ls r (2 ^ 0)) : Nat) ∧ Ext wo wr) (fun _ _ i _ => ls.length - (intOf i).toNat)
      case atStart => exact ⟨0, by omega, rfl, rfl, Ext.refl _⟩
      case round =>
        obtain ⟨j, hj, rfl, rfl, hxj⟩ := hrel
        obtain ⟨w3, rfl⟩ : ∃ x : World, x = wr := ⟨_, rfl⟩
        have hx3 := hxr.trans hxj
        by_cases hjl : j < ls.length
        · obtain ⟨b, off, rfl, hbb, c1, c2⟩ := (g.ext hx3).gp_ hjl
          have hmem : gp ls j ∈ ls := by rw [gp_nat ls j hjl]; exact List.getElem_mem hjl
          obtain ⟨f, t, hft, hf, ht⟩ := Hv.out _ hmem
          have hnext : (ls.take (j + 1)).foldl stepB (itB ls r (2 ^ 0)) = stepB ((ls.take j).foldl stepB (itB ls r (2 ^ 0))) ((f : Int), (t : Int)) := by
            rw [List.take_succ_eq_append_getElem hjl, List.foldl_append, ← gp_nat ls j hjl, hft]; rfl
          have Hnext := Lib.hid hnext
          have hbd := pfold_bd (n := n) (a := 0) (r := r) (j := j) Hv.out hn0
          have hbd2 : (ls.take j).foldl stepB (itB ls r (2 ^ 0)) < 2 ^ 62 := Nat.lt_of_lt_of_le hbd (Nat.pow_le_pow_right (by omega) (by omega))
          have Hbd := Lib.hid hbd2
          rw [hft] at c1 c2
          clear hnext hbd hbd2 hmem hft
          generalize (ls.take j).foldl stepB (itB ls r (2 ^ 0)) = S at *
          have b1 := bit_w S f (by have := Hbd.out; omega) (by omega)
          have b2 := bit_w S t (by have := Hbd.out; omega) (by omega)
          have o1 := or_w S f t Hbd.out (by omega) (by omega)
          have hq : Ext w3 (w3.alloc (.cells #[.int .i64 (f : Int), .int .i64 (t : Int)] 75)) := (by repeat first | exact Ext.refl _ | assumption | refine Ext.drew ?_ | refine Ext.alloc ?_ _ | refine Ext.setCell ?_ (by simp) | refine Ext.setCell ?_ (by simp; omega) | refine Ext.trans ?_ (by assumption))
          have d0 := cell_regrown (w := w3.alloc (.cells #[.int .i64 (f : Int), .int .i64 (t : Int)] 75)) (a := ⟨w3.heap.size, 0, none⟩) (v := .int .i64 (f : Int)) (by go_simp)
          have d1 := cell_regrown (w := w3.alloc (.cells #[.int .i64 (f : Int), .int .i64 (t : Int)] 75)) (a := ⟨w3.heap.size, 1, none⟩) (v := .int .i64 (t : Int)) (by go_simp)
          by_cases q1 : S.testBit f = true
          · rw [if_pos q1] at b1
            go_wp2
            refine rx_open [(true, 0, some 30, 8), (true, 0, some 31, 32), (true, 2, some 32, 2147483648), (true, 4, some 33, 4294967296), (true, 0, some 34, 32), (true, 16, some 35, 17179869184), (true, 32, some 36, 34359738368), (true, 72, some 37, 77309411328), (true, 129, some 38, 138512695296), (true, 511, some 3, 274877906944)] 0 10 mixd rfl (by kernel_rfl) (by kernel_rfl) (by kernel_rfl) ?_
            refine rx_run (run := [0, 1, 2, 3, 4, 5, 6, 7, 8, 9]) (k := 0) (m' := 1023) rfl (by kernel_rfl) (by kernel_rfl) (by kernel_rfl) (fm_cons rfl <| fm_cons rfl <| fm_cons rfl <| fm_cons rfl <| fm_cons rfl <| fm_cons rfl <| fm_cons rfl <| fm_cons rfl <| fm_cons rfl <| fm_cons rfl <| List.filterMap_nil) (by repeat first | exact Ext.refl _ | assumption | refine Ext.drew ?_ | refine Ext.alloc ?_ _ | refine Ext.setCell ?_ (by simp) | refine Ext.setCell ?_ (by simp; omega) | refine Ext.trans ?_ (by assumption)) ?_
            repeat (go_big_quiet_step ((fail)))
            refine wpQuiet_nil ?_
            refine rx_end (by kernel_rfl) ?_
            try rw [o1]
            go_wp2
            go_roundw
            case rel => exact ⟨j + 1, by omega, by go_num, by rw [Hnext.out]; unfold stepB; simp [*], hxj.trans (by repeat first | exact Ext.refl _ | assumption | refine Ext.drew ?_ | refine Ext.alloc ?_ _ | refine Ext.setCell ?_ (by simp) | refine Ext.setCell ?_ (by simp; omega) | refine Ext.trans ?_ (by assumption))⟩
            case measure => simp [intOf]; omega
          · rw [if_neg q1] at b1
            by_cases q2 : S.testBit t = true
            · rw [if_pos q2] at b2
              go_wp2
              refine rx_open [(true, 0, some 30, 8), (true, 0, some 31, 32), (true, 2, some 32, 2147483648), (true, 4, some 33, 4294967296), (true, 0, some 34, 32), (true, 16, some 35, 17179869184), (true, 32, some 36, 34359738368), (true, 72, some 37, 77309411328), (true, 129, some 38, 138512695296), (true, 511, some 3, 274877906944)] 0 10 mixd rfl (by kernel_rfl) (by kernel_rfl) (by kernel_rfl) ?_
              refine rx_run (run := [0, 1, 2, 3, 4, 5, 6, 7, 8, 9]) (k := 0) (m' := 1023) rfl (by kernel_rfl) (by kernel_rfl) (by kernel_rfl) (fm_cons rfl <| fm_cons rfl <| fm_cons rfl <| fm_cons rfl <| fm_cons rfl <| fm_cons rfl <| fm_cons rfl <| fm_cons rfl <| fm_cons rfl <| fm_cons rfl <| List.filterMap_nil) (by repeat first | exact Ext.refl _ | assumption | refine Ext.drew ?_ | refine Ext.alloc ?_ _ | refine Ext.setCell ?_ (by simp) | refine Ext.setCell ?_ (by simp; omega) | refine Ext.trans ?_ (by assumption)) ?_
              repeat (go_big_quiet_step ((fail)))
              refine wpQuiet_nil ?_
              refine rx_end (by kernel_rfl) ?_
              try rw [o1]
              go_wp2
              go_roundw
              case rel => exact ⟨j + 1, by omega, by go_num, by rw [Hnext.out]; unfold stepB; simp [*], hxj.trans (by repeat first | exact Ext.refl _ | assumption | refine Ext.drew ?_ | refine Ext.alloc ?_ _ | refine Ext.setCell ?_ (by simp) | refine Ext.setCell ?_ (by simp; omega) | refine Ext.trans ?_ (by assumption))⟩
              case measure => simp [intOf]; omega
            · rw [if_neg q2] at b2
              go_wp2
              go_roundw
              case rel => exact ⟨j + 1, by omega, by go_num, by rw [Hnext.out]; unfold stepB; simp [*], hxj.trans (by repeat first | exact Ext.refl _ | assumption | refine Ext.drew ?_ | refine Ext.alloc ?_ _ | refine Ext.setCell ?_ (by simp) | refine Ext.setCell ?_ (by simp; omega) | refine Ext.trans ?_ (by assumption))⟩
              case measure => simp [intOf]; omega
        · go_wp2
          go_roundw
          case rel =>
            refine ⟨r + 1, by omega, by go_num, ?_, hxr.trans hxj⟩
            rw [List.take_of_length_le (by omega)]; rfl
          case measure => simp [intOf]; omega
    · obtain rfl : r = ls.length := by omega
      go_wp2
      go_ret
      exact ⟨rfl, hxr⟩

/-- the pairs that a list of leads names -/
def spairs (ls : List P2) (xs : List Int) : List P2 := xs.map (fun k => gp ls k)
theorem spairs_len (ls : List P2) (xs : List Int) : (spairs ls xs).length = xs.length := by simp [spairs]
theorem spairs_gp {ls : List P2} {xs : List Int} {j : Nat} (h : j < xs.length) : gp (spairs ls xs) j = gp ls (gi xs j) := by
  rw [gp_nat _ j (by rw [spairs_len]; exact h), gi_nat xs j h]; simp [spairs]
theorem spairs_vd {ns ls : List P2} {xs : List Int} (hW : WOk ns ls) (h : ris xs 0 (ls.length - 1) = true) : Vd ns.length (spairs ls xs) := by
  intro l hl
  obtain ⟨k, hk, rfl⟩ := List.mem_map.1 hl
  obtain ⟨i, hi, rfl⟩ := List.getElem_of_mem hk
  have hb := ris_bd h hi
  rw [gi_nat xs i hi] at hb
  generalize xs[i] = x at *
  obtain ⟨y, rfl⟩ := Int.eq_ofNat_of_zero_le hb.1
  exact vd_of_ok hW _ (by rw [gp_nat ls y (by omega)]; exact List.getElem_mem _)
def vIsSpanning (ns ls : List P2) (xs : List Int) : Bool :=
  whole ns ls && ris xs 0 (ls.length - 1) && decide ((xs.length : Int) = (ns.length : Int) - 1) && (List.range xs.length).all (fun j => joins ns.length (spairs ls xs) j)
theorem vIs_yes {ns ls : List P2} {xs : List Int} (h1 : whole ns ls = true) (h2 : ris xs 0 (ls.length - 1) = true) (h3 : (xs.length : Int) = (ns.length : Int) - 1) :
    (vIsSpanning ns ls xs = true ↔ ∀ j, j < xs.length → joins ns.length (spairs ls xs) j = true) ∧ (vIsSpanning ns ls xs = true ↔ itB (spairs ls xs) (spairs ls xs).length (2 ^ 0) = 2 ^ ns.length - 1) := by
  obtain ⟨hW, -⟩ := whole_ok h1
  have hlo := hW.lo
  have e : vIsSpanning ns ls xs = true ↔ ∀ j, j < xs.length → joins ns.length (spairs ls xs) j = true := by
    unfold vIsSpanning
    simp [h1, h2, h3]
  refine ⟨e, ?_⟩
  have hv := spairs_vd hW h2
  have hl := spairs_len ls xs
  have ht := tree_iff hv (by omega) (by rw [hl]; omega)
  rw [hl] at ht
  rw [e, ht, hl, show xs.length = ns.length - 1 by omega]
  exact (itB_all hv (by omega)).symm
end Go.Proofs.Ytebfddcmaignaaa

namespace Go.Proofs.Ytebfddcmaignaaa
open Go.RowKit Go.Sort Go.BigFrame

/-- append of one pair -/
theorem az_pair {P : Program} (tS T : TypeId) (hu : P.underlying tS = some (.slice T)) (hif : (P.info? T).map (fun i => (i.zero, i.size, i.bytes)) = some (some (.agg #[.int .i64 0, .int .i64 0]), 2, 16))
    {ops : Array Oper} {rest : List Oper} {o : Oper} {a : Act} {Q : Exit → Act → World → Prop} {w : World} (s x : Operand) (hgd : o.guard = none)
    (ho : o.op = .call { callee := .builtin .append, args := #[s, x], argTypes := #[tS, tS] })
    {B0 B : Nat} {v : Value} {l : List P2} (hs : a.eval s = v) (hown : OwZ w B0 B T 2 v l.length (l.flatMap pc)) {g : Nat} {p q : Int} (hx : a.eval x = .slice (some ⟨g, 0, none⟩) 1 1)
    (h0 : w.cell? ⟨g, 0, none⟩ = some (.int .i64 p)) (h1 : w.cell? ⟨g, 1, none⟩ = some (.int .i64 q)) (hl : l.length ≤ 2000000) (hB : B ≤ w.heap.size)
    (h : ∀ v' w' r, OwP w' B T v' (l ++ [(p, q)]) → (∀ W, Ext W w → W.heap.size ≤ B → Ext W w') → w.grownBy w' r → (∀ q, r = some q → B ≤ q) → (∀ g c, v = .slice (some g) l.length c → l.length < c → v' = .slice (some g) (l.length + 1) c) →
      wpList P ops Q rest (a.put o.dst v') w') : wpList P ops Q (o :: rest) a w := by
  refine az_gen tS T _ 2 16 hu hif rfl (by omega) (by omega) s x hgd ho hs hown (news := [.int .i64 p, .int .i64 q]) hx rfl ?_ ?_ (by omega) hB ?_
  · intro j u hj
    match j, hj with
    | 0, hj => simp at hj; subst hj; exact h0
    | 1, hj => simp at hj; subst hj; exact h1
  · intro u hu
    simp at hu
    rcases hu with rfl | rfl <;> rfl
  · rintro v' w' h2 h3 h4 ⟨r, h5, h6⟩
    refine h v' w' r ?_ h3 h5 h6 h4
    unfold OwP
    simpa [List.flatMap_append, pc] using h2

theorem full_bits (a n : Nat) (hn : n ≤ 60) : ((a : Int) == wrap64 (wrap64 (2 ^ n) - 1)) = decide (a = 2 ^ n - 1) := by
  rw [pow_w n (by omega)]
  have h1 : 1 ≤ 2 ^ n := Nat.one_le_two_pow
  have h2 : 2 ^ n ≤ 2 ^ 60 := Nat.pow_le_pow_right (by omega) hn
  generalize 2 ^ n = m at *
  have : wrap64 ((m : Int) - 1) = ((m - 1 : Nat) : Int) := by unfold wrap64; omega
  rw [this, Bool.eq_iff_iff, beq_iff_eq, decide_eq_true_eq]
  omega
set_option maxRecDepth 100000 in
set_option maxHeartbeats 4000000 in
theorem IsSpanning_i (A B : Option Addr) (c d : Nat) (ns ls : List P2) (X : Option Addr) (xc : Nat) (xs : List Int) (w : World) (h : Wn w A c B d ns ls) (hX : In w w.heap.size X xs) (hxl : xs.length ≤ 2000000) :
    Calls Try.prog 83 #[.agg #[.slice A ns.length c, .slice B ls.length d], .slice X xs.length xc] w fun e w' => e = .returned (.bool (vIsSpanning ns ls xs)) ∧ Ext w w' := by
  have HV : Hid (vIsSpanning ns ls xs = (whole ns ls && ris xs 0 (ls.length - 1) && decide ((xs.length : Int) = (ns.length : Int) - 1) && (List.range xs.length).all (fun j => joins ns.length (spairs ls xs) j))) := Lib.hid rfl
  have hnl := h.hl
  have hml := h.hm
  by_cases hw : whole ns ls = true
  · obtain ⟨hW, hm0⟩ := whole_ok hw
    have hn := hW.hi
    have hm := hW.le
    have hn1 := hW.lo
    by_cases hr : ris xs 0 (ls.length - 1) = true
    · by_cases hlen : (xs.length : Int) = (ns.length : Int) - 1
      · have HB : Hid (∀ j : Nat, j < xs.length → 0 ≤ gi xs j ∧ gi xs j ≤ (ls.length : Int) - 1) := Lib.hid (fun _ hj => ris_bd hr hj)
        have HY := Lib.hid (vIs_yes hw hr hlen).2
        have Hvd := Lib.hid (spairs_vd hW hr)
        have Hv := Lib.hid (vd_of_ok hW)
        have hne : ((xs.length : Int) != (ns.length : Int) - 1) = false := by simp [hlen]
        have hxn : xs.length < ns.length := by omega
        have HL := Lib.hid (spairs_len ls xs)
        have HG : Hid (∀ j : Nat, j < xs.length → gp (spairs ls xs) j = gp ls (gi xs j)) := Lib.hid (fun _ hj => spairs_gp hj)
        have hlen' : xs.length = ns.length - 1 := by omega
        have Hlen := Lib.hid hlen'
        clear hlen hlen' hW HV
        go_enter Try.func83, Try.ntmps83
        go_wp2_with fail
        have k0 : (w.alloc (.cells #[.slice A ns.length c, .slice B ls.length d] 32)).cell? ⟨w.heap.size, 0, none⟩ = some (.slice A ns.length c) := by go_simp
        have k1 : (w.alloc (.cells #[.slice A ns.length c, .slice B ls.length d] 32)).cell? ⟨w.heap.size, 1, none⟩ = some (.slice B ls.length d) := by go_simp
        have hx : Ext w (w.alloc (.cells #[.slice A ns.length c, .slice B ls.length d] 32)) := (by repeat first | exact Ext.refl _ | assumption | refine Ext.drew ?_ | refine Ext.alloc ?_ _ | refine Ext.setCell ?_ (by simp) | refine Ext.setCell ?_ (by simp; omega) | refine Ext.trans ?_ (by assumption))
        have hsz1 : w.heap.size + 1 = (w.alloc (.cells #[.slice A ns.length c, .slice B ls.length d] 32)).heap.size := by simp
        generalize (w.alloc (.cells #[.slice A ns.length c, .slice B ls.length d] 32)) = w0 at *
        (try rw [hsz1])
        refine (IsWhole_i _ _ _ _ ns ls _ (h.ext hx)).mono ?_
        rintro e w1 ⟨rfl, hb⟩
        have k0 := hb.lit k0
        have k1 := hb.lit k1
        have hx := hx.trans hb
        clear hb
        rw [hw]
        go_wp2_with fail
        refine (rising_c X xc xs 0 _ _ hxl (hX.ext hx)).mono ?_
        rintro e w' ⟨rfl, rfl⟩
        rw [hr]
        go_wp2_with fail
        generalize hPP : spairs ls xs = PP at *
        clear hPP
        go_loopw [5, 7, 31] (fun v _ i wr => ∃ j : Nat, j ≤ xs.length ∧ i = .int .i64 j ∧ OwP wr w1.heap.size 75 v (PP.take j) ∧ Ext w1 wr) (fun _ _ i _ => xs.length - (intOf i).toNat)
        case atStart => exact ⟨0, by omega, rfl, OwP.nil _ _ _, Ext.refl _⟩
        case round =>
          obtain ⟨j, hj, rfl, hv, hxr⟩ := hrel
          obtain ⟨wo, rfl⟩ : ∃ x : World, x = wr := ⟨_, rfl⟩
          have hx0 := hx.trans hxr
          have k0 := hxr.lit k0
          have k1 := hxr.lit k1
          by_cases hlt : j < xs.length
          · obtain ⟨xb, xo, rfl, hxb, c0⟩ := (hX.ext hx0).gi_ hlt
            have hb := HB.out j hlt
            have HGj := Lib.hid (HG.out j hlt)
            have HT : Hid (PP.take (j + 1) = PP.take j ++ [gp PP j]) := Lib.hid (by rw [List.take_succ_eq_append_getElem (by rw [HL.out]; exact hlt), gp_nat PP j (by rw [HL.out]; exact hlt)])
            have hln : (PP.take j).length ≤ j := List.length_take_le _ _
            generalize gi xs j = x at *
            obtain ⟨y, rfl⟩ := Int.eq_ofNat_of_zero_le hb.1
            have hy : y < ls.length := by omega
            obtain ⟨b, off, rfl, hbb, c1, c2⟩ := (h.ext hx0).g.gp_ hy
            obtain ⟨f, t, hft, hf, ht⟩ := Hv.out (gp ls y) (by rw [gp_nat ls y hy]; exact List.getElem_mem hy)
            rw [hft] at c1 c2 HGj
            rw [HGj.out] at HT
            clear hft HGj hb
            have hyi : (y : Int) < ls.length := by omega
            have hsz := hxr.size
            go_wp2_with fail
            have d0 := cell_regrown k1
            have d1 := cell_regrown c1
            have d2 := cell_regrown c2
            refine rx_open [(true, 0, some 35, 32), (true, 0, some 36, 4), (true, 2, some 37, 68719476736), (true, 0, some 38, 128), (true, 12, some 39, 412316860416), (true, 16, some 40, 549755813888), (true, 32, some 41, 1099511627776), (true, 0, some 42, 4), (true, 128, some 43, 4398046511104), (true, 0, some 44, 128), (true, 768, some 45, 26388279066624), (true, 1024, some 46, 35184372088832), (true, 2048, some 47, 70368744177664), (false, 4160, some 48, 142936511610880), (false, 8192, some 49, 281474976710656), (false, 16385, some 50, 562984313159680), (true, 65535, some 5, 1125899906842624)] 98304 17 mixd rfl (by kernel_rfl) (by kernel_rfl) (by kernel_rfl) ?_
            refine rx_run (run := [0, 1, 2, 3, 4, 5, 6, 7, 8, 9, 10, 11, 12]) (k := 4) (m' := 8191) rfl (by kernel_rfl) (by kernel_rfl) (by kernel_rfl) (fm_cons rfl <| fm_cons rfl <| fm_cons rfl <| fm_cons rfl <| fm_cons rfl <| fm_cons rfl <| fm_cons rfl <| fm_cons rfl <| fm_cons rfl <| fm_cons rfl <| fm_cons rfl <| fm_cons rfl <| fm_cons rfl <| List.filterMap_nil) (by repeat first | exact Ext.refl _ | assumption | refine Ext.drew ?_ | refine Ext.alloc ?_ _ | refine Ext.setCell ?_ (by simp) | refine Ext.setCell ?_ (by simp; omega) | refine Ext.trans ?_ (by assumption)) ?_
            repeat (go_big_quiet_step ((fail)))
            refine wpQuiet_nil ?_
            refine rx_op 13 (k := 3) (m' := 16383) rfl rfl (by kernel_rfl) (by kernel_rfl) ?_
            go_wp2
            refine rx_on (by repeat first | exact Ext.refl _ | assumption | refine Ext.drew ?_ | refine Ext.alloc ?_ _ | refine Ext.setCell ?_ (by simp) | refine Ext.setCell ?_ (by simp; omega) | refine Ext.trans ?_ (by assumption)) ?_
            refine rx_op 14 (k := 2) (m' := 32767) rfl rfl (by kernel_rfl) (by kernel_rfl) ?_
            go_wp2
            refine rx_on (by repeat first | exact Ext.refl _ | assumption | refine Ext.drew ?_ | refine Ext.alloc ?_ _ | refine Ext.setCell ?_ (by simp) | refine Ext.setCell ?_ (by simp; omega) | refine Ext.trans ?_ (by assumption)) ?_
            refine rx_op 15 (k := 1) (m' := 65535) rfl rfl (by kernel_rfl) (by kernel_rfl) ?_
            go_wp2_with ((at_builtin; refine az_pair (B0 := 0) 74 75 Try.underlying74 infoA _ _ rfl rfl rfl (.inl (hv.ext (by repeat first | exact Ext.refl _ | assumption | refine Ext.drew ?_ | refine Ext.alloc ?_ _ | refine Ext.setCell ?_ (by simp) | refine Ext.setCell ?_ (by simp; omega) | refine Ext.trans ?_ (by assumption)))) (g := wo.heap.size) (p := f) (q := t) (by first | rfl | simp) (by go_simp) (by go_simp) (by omega) (by simp; omega) ?_; intro v' w' r h1 h3 h4 h5 h6))
            refine rx_lst (by decide) ?_
            refine rx_op 16 (k := 0) (m' := 131071) rfl rfl (by kernel_rfl) (by kernel_rfl) ?_
            go_wp2
            refine rx_lst (by decide) ?_
            refine rx_end (by kernel_rfl) ?_
            go_wp2
            go_roundw
            case rel => exact ⟨j + 1, by omega, by go_num, by rw [HT.out]; exact h1, h3 _ (hxr.trans (by repeat first | exact Ext.refl _ | assumption | refine Ext.drew ?_ | refine Ext.alloc ?_ _ | refine Ext.setCell ?_ (by simp) | refine Ext.setCell ?_ (by simp; omega) | refine Ext.trans ?_ (by assumption))) (Nat.le_refl _)⟩
            case measure => first | (simp [intOf]; done) | (simp [intOf]; omega)
          · obtain rfl : j = xs.length := by omega
            rw [List.take_of_length_le (by rw [HL.out]; exact Nat.le_refl _)] at hv
            have hsz := hxr.size
            obtain ⟨A5, c5, rfl, -, -, hP⟩ := hv.shape
            go_wp2_with fail
            have d0 := cell_regrown k0
            refine rx_open [(true, 0, some 52, 32), (false, 1, some 53, 4503599627370496), (true, 0, some 54, 4), (true, 4, some 55, 18014398509481984), (true, 8, some 56, 36028797018963968), (true, 16, some 57, 72057594037927936), (true, 32, some 58, 144115188075855872), (true, 66, some 59, 297237575406452736), (true, 255, some 4, 576460752303423488)] 0 9 mixd rfl (by kernel_rfl) (by kernel_rfl) (by kernel_rfl) ?_
            refine rx_run (run := [0, 2, 3, 4, 5, 6]) (k := 3) (m' := 125) rfl (by kernel_rfl) (by kernel_rfl) (by kernel_rfl) (fm_cons rfl <| fm_cons rfl <| fm_cons rfl <| fm_cons rfl <| fm_cons rfl <| fm_cons rfl <| List.filterMap_nil) (by repeat first | exact Ext.refl _ | assumption | refine Ext.drew ?_ | refine Ext.alloc ?_ _ | refine Ext.setCell ?_ (by simp) | refine Ext.setCell ?_ (by simp; omega) | refine Ext.trans ?_ (by assumption)) ?_
            repeat (go_big_quiet_step ((fail)))
            refine wpQuiet_nil ?_
            refine rx_op 1 (k := 2) (m' := 127) rfl rfl (by kernel_rfl) (by kernel_rfl) ?_
            go_wp2_with ((go_at_call 113; refine (joined_c _ _ ns.length PP _ (by omega) (by rw [HL.out]; omega) Hvd.out (by omega) (hP.ext (by repeat first | exact Ext.refl _ | assumption | refine Ext.drew ?_ | refine Ext.alloc ?_ _ | refine Ext.setCell ?_ (by simp) | refine Ext.setCell ?_ (by simp; omega) | refine Ext.trans ?_ (by assumption)))).mono ?_; rintro e w6 ⟨rfl, hb6⟩))
            refine rx_on (by repeat first | exact Ext.refl _ | assumption | refine Ext.drew ?_ | refine Ext.alloc ?_ _ | refine Ext.setCell ?_ (by simp) | refine Ext.setCell ?_ (by simp; omega) | refine Ext.trans ?_ (by assumption)) ?_
            refine rx_run (run := [7, 8]) (k := 0) (m' := 511) rfl (by kernel_rfl) (by kernel_rfl) (by kernel_rfl) (fm_cons rfl <| fm_cons rfl <| List.filterMap_nil) (by repeat first | exact Ext.refl _ | assumption | refine Ext.drew ?_ | refine Ext.alloc ?_ _ | refine Ext.setCell ?_ (by simp) | refine Ext.setCell ?_ (by simp; omega) | refine Ext.trans ?_ (by assumption)) ?_
            repeat (go_big_quiet_step ((fail)))
            refine wpQuiet_nil ?_
            refine rx_end (by kernel_rfl) ?_
            go_wp2
            go_ret
            refine ⟨?_, hx0.trans (by repeat first | exact Ext.refl _ | assumption | refine Ext.drew ?_ | refine Ext.alloc ?_ _ | refine Ext.setCell ?_ (by simp) | refine Ext.setCell ?_ (by simp; omega) | refine Ext.trans ?_ (by assumption))⟩
            show Ending.returned (.bool (((itB PP PP.length 1 : Nat) : Int) == wrap64 (wrap64 (2 ^ ns.length) - 1))) = _
            refine ret_b ?_
            rw [full_bits _ _ (by omega), Bool.eq_iff_iff, HY.out, decide_eq_true_eq]
      · have hne : ((xs.length : Int) != (ns.length : Int) - 1) = true := by simp [hlen]
        go_enter Try.func83, Try.ntmps83
        go_wp2_with fail
        have k0 : (w.alloc (.cells #[.slice A ns.length c, .slice B ls.length d] 32)).cell? ⟨w.heap.size, 0, none⟩ = some (.slice A ns.length c) := by go_simp
        have k1 : (w.alloc (.cells #[.slice A ns.length c, .slice B ls.length d] 32)).cell? ⟨w.heap.size, 1, none⟩ = some (.slice B ls.length d) := by go_simp
        have hx : Ext w (w.alloc (.cells #[.slice A ns.length c, .slice B ls.length d] 32)) := (by repeat first | exact Ext.refl _ | assumption | refine Ext.drew ?_ | refine Ext.alloc ?_ _ | refine Ext.setCell ?_ (by simp) | refine Ext.setCell ?_ (by simp; omega) | refine Ext.trans ?_ (by assumption))
        have hsz1 : w.heap.size + 1 = (w.alloc (.cells #[.slice A ns.length c, .slice B ls.length d] 32)).heap.size := by simp
        generalize (w.alloc (.cells #[.slice A ns.length c, .slice B ls.length d] 32)) = w0 at *
        (try rw [hsz1])
        refine (IsWhole_i _ _ _ _ ns ls _ (h.ext hx)).mono ?_
        rintro e w1 ⟨rfl, hb⟩
        have k0 := hb.lit k0
        have k1 := hb.lit k1
        have hx := hx.trans hb
        clear hb
        rw [hw]
        go_wp2_with fail
        refine (rising_c X xc xs 0 _ _ hxl (hX.ext hx)).mono ?_
        rintro e w' ⟨rfl, rfl⟩
        rw [hr]
        go_wp2
        go_ret
        exact ⟨ret_b (by rw [HV.out]; simp [hlen]), hx⟩
    · have hr' := eq_false_of_ne_true hr
      go_enter Try.func83, Try.ntmps83
      go_wp2_with fail
      have k0 : (w.alloc (.cells #[.slice A ns.length c, .slice B ls.length d] 32)).cell? ⟨w.heap.size, 0, none⟩ = some (.slice A ns.length c) := by go_simp
      have k1 : (w.alloc (.cells #[.slice A ns.length c, .slice B ls.length d] 32)).cell? ⟨w.heap.size, 1, none⟩ = some (.slice B ls.length d) := by go_simp
      have hx : Ext w (w.alloc (.cells #[.slice A ns.length c, .slice B ls.length d] 32)) := (by repeat first | exact Ext.refl _ | assumption | refine Ext.drew ?_ | refine Ext.alloc ?_ _ | refine Ext.setCell ?_ (by simp) | refine Ext.setCell ?_ (by simp; omega) | refine Ext.trans ?_ (by assumption))
      have hsz1 : w.heap.size + 1 = (w.alloc (.cells #[.slice A ns.length c, .slice B ls.length d] 32)).heap.size := by simp
      generalize (w.alloc (.cells #[.slice A ns.length c, .slice B ls.length d] 32)) = w0 at *
      (try rw [hsz1])
      refine (IsWhole_i _ _ _ _ ns ls _ (h.ext hx)).mono ?_
      rintro e w1 ⟨rfl, hb⟩
      have k0 := hb.lit k0
      have k1 := hb.lit k1
      have hx := hx.trans hb
      clear hb
      rw [hw]
      go_wp2_with fail
      refine (rising_c X xc xs 0 _ _ hxl (hX.ext hx)).mono ?_
      rintro e w' ⟨rfl, rfl⟩
      rw [hr']
      go_wp2
      go_ret
      exact ⟨ret_b (by rw [HV.out, hr']; simp), hx⟩
  · have hw' := eq_false_of_ne_true hw
    go_enter Try.func83, Try.ntmps83
    go_wp2_with fail
    have k0 : (w.alloc (.cells #[.slice A ns.length c, .slice B ls.length d] 32)).cell? ⟨w.heap.size, 0, none⟩ = some (.slice A ns.length c) := by go_simp
    have k1 : (w.alloc (.cells #[.slice A ns.length c, .slice B ls.length d] 32)).cell? ⟨w.heap.size, 1, none⟩ = some (.slice B ls.length d) := by go_simp
    have hx : Ext w (w.alloc (.cells #[.slice A ns.length c, .slice B ls.length d] 32)) := (by repeat first | exact Ext.refl _ | assumption | refine Ext.drew ?_ | refine Ext.alloc ?_ _ | refine Ext.setCell ?_ (by simp) | refine Ext.setCell ?_ (by simp; omega) | refine Ext.trans ?_ (by assumption))
    have hsz1 : w.heap.size + 1 = (w.alloc (.cells #[.slice A ns.length c, .slice B ls.length d] 32)).heap.size := by simp
    generalize (w.alloc (.cells #[.slice A ns.length c, .slice B ls.length d] 32)) = w0 at *
    (try rw [hsz1])
    refine (IsWhole_i _ _ _ _ ns ls _ (h.ext hx)).mono ?_
    rintro e w1 ⟨rfl, hb⟩
    have k0 := hb.lit k0
    have k1 := hb.lit k1
    have hx := hx.trans hb
    clear hb
    rw [hw']
    go_wp2
    go_ret
    exact ⟨ret_b (by rw [HV.out, hw']; simp), hx⟩

set_option maxRecDepth 100000 in
set_option maxHeartbeats 4000000 in
theorem IsSpanning_s (A B : Option Addr) (c d : Nat) (ns ls : List P2) (X : Option Addr) (xc : Nat) (xs : List Int) (w : World) (h : Wn w A c B d ns ls) (hX : In w w.heap.size X xs) (hxl : xs.length ≤ 2000000) :
    Calls Try.prog 80 #[.agg #[.slice A ns.length c, .slice B ls.length d], .slice X xs.length xc] w fun e w' => e = .returned (.bool (vIsSpanning ns ls xs)) ∧ Ext w w' := by
  have HV : Hid (vIsSpanning ns ls xs = (whole ns ls && ris xs 0 (ls.length - 1) && decide ((xs.length : Int) = (ns.length : Int) - 1) && (List.range xs.length).all (fun j => joins ns.length (spairs ls xs) j))) := Lib.hid rfl
  have hnl := h.hl
  have hml := h.hm
  by_cases hw : whole ns ls = true
  · obtain ⟨hW, hm0⟩ := whole_ok hw
    have hn := hW.hi
    have hm := hW.le
    have hn1 := hW.lo
    by_cases hr : ris xs 0 (ls.length - 1) = true
    · by_cases hlen : (xs.length : Int) = (ns.length : Int) - 1
      · have HB : Hid (∀ j : Nat, j < xs.length → 0 ≤ gi xs j ∧ gi xs j ≤ (ls.length : Int) - 1) := Lib.hid (fun _ hj => ris_bd hr hj)
        have HY := Lib.hid (vIs_yes hw hr hlen).1
        have Hv := Lib.hid (vd_of_ok hW)
        have hne : ((xs.length : Int) != (ns.length : Int) - 1) = false := by simp [hlen]
        have hxn : xs.length < ns.length := by omega
        have HG : Hid (∀ j : Nat, j < xs.length → gp (spairs ls xs) j = gp ls (gi xs j)) := Lib.hid (fun _ hj => spairs_gp hj)
        clear hlen hW HV
        go_enter Try.func80, Try.ntmps80
        go_wp2_with fail
        have k0 : (w.alloc (.cells #[.slice A ns.length c, .slice B ls.length d] 32)).cell? ⟨w.heap.size, 0, none⟩ = some (.slice A ns.length c) := by go_simp
        have k1 : (w.alloc (.cells #[.slice A ns.length c, .slice B ls.length d] 32)).cell? ⟨w.heap.size, 1, none⟩ = some (.slice B ls.length d) := by go_simp
        have hx : Ext w (w.alloc (.cells #[.slice A ns.length c, .slice B ls.length d] 32)) := (by repeat first | exact Ext.refl _ | assumption | refine Ext.drew ?_ | refine Ext.alloc ?_ _ | refine Ext.setCell ?_ (by simp) | refine Ext.setCell ?_ (by simp; omega) | refine Ext.trans ?_ (by assumption))
        have hsz1 : w.heap.size + 1 = (w.alloc (.cells #[.slice A ns.length c, .slice B ls.length d] 32)).heap.size := by simp
        generalize (w.alloc (.cells #[.slice A ns.length c, .slice B ls.length d] 32)) = w0 at *
        (try rw [hsz1])
        refine (IsWhole_s _ _ _ _ ns ls _ (h.ext hx)).mono ?_
        rintro e w1 ⟨rfl, hb⟩
        have k0 := hb.lit k0
        have k1 := hb.lit k1
        have hx := hx.trans hb
        clear hb
        rw [hw]
        go_wp2_with fail
        refine (l16List_c X xc xs ls.length _ (by omega) hxl (hX.ext hx)).mono ?_
        rintro e w2 ⟨rfl, hb⟩
        have k0 := hb.lit k0
        have k1 := hb.lit k1
        have hx := hx.trans hb
        clear hb
        rw [hr]
        go_wp2_with fail
        refine (l16Groups_c ns.length _ (by omega)).mono ?_
        rintro e w3 ⟨v, rfl, hg, hb⟩
        have hgs1 : ∀ q, v.ownBlock = some q → w2.heap.size ≤ q := fun q hq => (hg.blk q hq).1
        have hx2 := hx
        have kk1 := k1
        have hb12 := hb
        have k0 := hb.lit k0
        have k1 := hb.lit k1
        have hx := hx.trans hb
        clear hb
        have HG0 : Hid (ids ns.length = grp ns.length (spairs ls xs) 0) := Lib.hid rfl
        rw [HG0.out] at hg
        generalize hPP : spairs ls xs = PP at *
        clear hPP
        have HGS : Hid (∀ j, grp ns.length PP (j + 1) = joinG (grp ns.length PP j) (gp PP j).1 (gp PP j).2) := Lib.hid (fun _ => rfl)
        have HJ : Hid (∀ j, joins ns.length PP j = (gi (grp ns.length PP j) (gp PP j).1 != gi (grp ns.length PP j) (gp PP j).2)) := Lib.hid (fun _ => rfl)
        go_wp2_with fail
        go_loopw [6, 7] (fun i _ wr => ∃ j : Nat, j ≤ xs.length ∧ i = .int .i64 j ∧ Hid (∀ i, i < j → joins ns.length PP i = true) ∧ OwI wr w2.heap.size v (grp ns.length PP j) ∧ Ext w2 wr) (fun i _ _ => xs.length - (intOf i).toNat)
        case atStart => exact ⟨0, by omega, rfl, Lib.hid (fun i hi => by omega), hg, hb12⟩
        case round =>
          clear hg hx k0 k1
          obtain ⟨j, hj, rfl, ha, hg, hxr⟩ := hrel
          obtain ⟨wo, rfl⟩ : ∃ x : World, x = wr := ⟨_, rfl⟩
          have hx0 := hx2.trans hxr
          have k1 := hxr.lit kk1
          by_cases hlt : j < xs.length
          · obtain ⟨xb, xo, rfl, hxb, c0⟩ := (hX.ext hx0).gi_ hlt
            have hb := HB.out j hlt
            have HGj := Lib.hid (HG.out j hlt)
            have HJj := Lib.hid (HJ.out j)
            have HSj := Lib.hid (HGS.out j)
            have HGl := Lib.hid (grp_len ns.length PP j)
            have step : joins ns.length PP j = true → Hid (∀ i, i < j + 1 → joins ns.length PP i = true) := fun hk => Lib.hid (fun i hi => by
              rcases Nat.lt_succ_iff_lt_or_eq.1 hi with h | h
              · exact ha.out i h
              · subst h; exact hk)
            generalize gi xs j = x at *
            obtain ⟨y, rfl⟩ := Int.eq_ofNat_of_zero_le hb.1
            have hy : y < ls.length := by omega
            obtain ⟨b, off, rfl, hbb, c1, c2⟩ := (h.ext hx0).g.gp_ hy
            obtain ⟨f, t, hft, hf, ht⟩ := Hv.out (gp ls y) (by rw [gp_nat ls y hy]; exact List.getElem_mem hy)
            rw [hft] at c1 c2 HGj
            rw [HGj.out] at HJj HSj
            clear hft HGj hb
            have hyi : (y : Int) < ls.length := by omega
            have hji : (j : Int) < xs.length := by omega
            go_wp2_with fail
            go_cut [7] (fun s wx => ∃ g7, s = .pointer (some ⟨g7, 0, none⟩) ∧ wx.cell? ⟨g7, 0, none⟩ = some (.int .i64 (f : Int)) ∧ wx.cell? ⟨g7, 1, none⟩ = some (.int .i64 (t : Int)) ∧ Ext wo wx)
            case first =>
              have d0 := cell_regrown k1
              have d1 := cell_regrown c0
              have d2 := cell_regrown c1
              have d3 := cell_regrown c2
              refine rx_open [(true, 0, some 38, 4), (true, 1, some 39, 274877906944), (true, 0, some 40, 2), (true, 0, some 41, 64), (true, 12, some 42, 3298534883328), (true, 16, some 43, 4398046511104), (true, 34, some 44, 9345848836096), (true, 64, some 45, 17592186044416), (false, 0, some 7, 0), (false, 511, none, 35184372088960)] 512 10 mixd rfl (by kernel_rfl) (by kernel_rfl) (by kernel_rfl) ?_
              refine rx_run (run := [0, 1, 2, 3, 4, 5, 6, 7]) (k := 2) (m' := 255) rfl (by kernel_rfl) (by kernel_rfl) (by kernel_rfl) (fm_cons rfl <| fm_cons rfl <| fm_cons rfl <| fm_cons rfl <| fm_cons rfl <| fm_cons rfl <| fm_cons rfl <| fm_cons rfl <| List.filterMap_nil) (by repeat first | exact Ext.refl _ | assumption | refine Ext.drew ?_ | refine Ext.alloc ?_ _ | refine Ext.setCell ?_ (by simp) | refine Ext.setCell ?_ (by simp; omega) | refine Ext.trans ?_ (by assumption)) ?_
              repeat (go_big_quiet_step ((fail)))
              refine wpQuiet_nil ?_
              refine rx_op 8 (k := 1) (m' := 511) rfl rfl (by kernel_rfl) (by kernel_rfl) ?_
              go_wp2
              refine rx_on (by repeat first | exact Ext.refl _ | assumption | refine Ext.drew ?_ | refine Ext.alloc ?_ _ | refine Ext.setCell ?_ (by simp) | refine Ext.setCell ?_ (by simp; omega) | refine Ext.trans ?_ (by assumption)) ?_
              refine rx_op 9 (k := 0) (m' := 1023) rfl rfl (by kernel_rfl) (by kernel_rfl) ?_
              go_wp2
              refine rx_lst (by decide) ?_
              refine rx_end (by kernel_rfl) ?_
              all_goals (go_wp2; go_meet; exact ⟨_, rfl, by go_simp, by go_simp, (by repeat first | exact Ext.refl _ | assumption | refine Ext.drew ?_ | refine Ext.alloc ?_ _ | refine Ext.setCell ?_ (by simp) | refine Ext.setCell ?_ (by simp; omega) | refine Ext.trans ?_ (by assumption))⟩)
            case rest =>
              obtain ⟨g7, rfl, m1, m2, hb⟩ := hcut
              obtain ⟨w5, rfl⟩ : ∃ x : World, x = wc := ⟨_, rfl⟩
              have hg := hg.ext hb
              have hxr := hxr.trans hb
              clear hb c0 c1 c2 k1
              go_wp2_with fail
              refine (l16Join_c v _ f t _ hg (by rw [HGl.out]; omega) (by rw [HGl.out]; exact hf) (by rw [HGl.out]; exact ht)).mono ?_
              rintro e w6 ⟨rfl, hg, hgb⟩
              have hxr := gb_ext2 hxr hgb hgs1
              rw [← HJj.out]
              rw [← HSj.out] at hg
              by_cases hP : joins ns.length PP j = true
              · have hk := step hP
                rw [hP]
                clear step
                go_wp2
                go_roundw
                case rel => exact ⟨j + 1, by omega, by go_num, hk, hg, hxr⟩
                case measure => first | (simp [intOf]; done) | (simp [intOf]; omega)
              · rw [eq_false_of_ne_true hP]
                clear step
                go_wp2
                go_ret
                refine ⟨ret_b ?_, hx2.trans hxr⟩
                symm
                rw [Bool.eq_false_iff]
                intro e
                exact hP (HY.out.1 e j hlt)
          · obtain rfl : j = xs.length := by omega
            have HT := Lib.hid (HY.out.2 ha.out)
            go_wp2
            go_ret
            exact ⟨ret_b (by rw [HT.out]), hx0⟩
      · have hne : ((xs.length : Int) != (ns.length : Int) - 1) = true := by simp [hlen]
        go_enter Try.func80, Try.ntmps80
        go_wp2_with fail
        have k0 : (w.alloc (.cells #[.slice A ns.length c, .slice B ls.length d] 32)).cell? ⟨w.heap.size, 0, none⟩ = some (.slice A ns.length c) := by go_simp
        have k1 : (w.alloc (.cells #[.slice A ns.length c, .slice B ls.length d] 32)).cell? ⟨w.heap.size, 1, none⟩ = some (.slice B ls.length d) := by go_simp
        have hx : Ext w (w.alloc (.cells #[.slice A ns.length c, .slice B ls.length d] 32)) := (by repeat first | exact Ext.refl _ | assumption | refine Ext.drew ?_ | refine Ext.alloc ?_ _ | refine Ext.setCell ?_ (by simp) | refine Ext.setCell ?_ (by simp; omega) | refine Ext.trans ?_ (by assumption))
        have hsz1 : w.heap.size + 1 = (w.alloc (.cells #[.slice A ns.length c, .slice B ls.length d] 32)).heap.size := by simp
        generalize (w.alloc (.cells #[.slice A ns.length c, .slice B ls.length d] 32)) = w0 at *
        (try rw [hsz1])
        refine (IsWhole_s _ _ _ _ ns ls _ (h.ext hx)).mono ?_
        rintro e w1 ⟨rfl, hb⟩
        have k0 := hb.lit k0
        have k1 := hb.lit k1
        have hx := hx.trans hb
        clear hb
        rw [hw]
        go_wp2_with fail
        refine (l16List_c X xc xs ls.length _ (by omega) hxl (hX.ext hx)).mono ?_
        rintro e w2 ⟨rfl, hb⟩
        have k0 := hb.lit k0
        have k1 := hb.lit k1
        have hx := hx.trans hb
        clear hb
        rw [hr]
        go_wp2
        go_ret
        exact ⟨ret_b (by rw [HV.out]; simp [hlen]), hx⟩
    · have hr' := eq_false_of_ne_true hr
      go_enter Try.func80, Try.ntmps80
      go_wp2_with fail
      have k0 : (w.alloc (.cells #[.slice A ns.length c, .slice B ls.length d] 32)).cell? ⟨w.heap.size, 0, none⟩ = some (.slice A ns.length c) := by go_simp
      have k1 : (w.alloc (.cells #[.slice A ns.length c, .slice B ls.length d] 32)).cell? ⟨w.heap.size, 1, none⟩ = some (.slice B ls.length d) := by go_simp
      have hx : Ext w (w.alloc (.cells #[.slice A ns.length c, .slice B ls.length d] 32)) := (by repeat first | exact Ext.refl _ | assumption | refine Ext.drew ?_ | refine Ext.alloc ?_ _ | refine Ext.setCell ?_ (by simp) | refine Ext.setCell ?_ (by simp; omega) | refine Ext.trans ?_ (by assumption))
      have hsz1 : w.heap.size + 1 = (w.alloc (.cells #[.slice A ns.length c, .slice B ls.length d] 32)).heap.size := by simp
      generalize (w.alloc (.cells #[.slice A ns.length c, .slice B ls.length d] 32)) = w0 at *
      (try rw [hsz1])
      refine (IsWhole_s _ _ _ _ ns ls _ (h.ext hx)).mono ?_
      rintro e w1 ⟨rfl, hb⟩
      have k0 := hb.lit k0
      have k1 := hb.lit k1
      have hx := hx.trans hb
      clear hb
      rw [hw]
      go_wp2_with fail
      refine (l16List_c X xc xs ls.length _ (by omega) hxl (hX.ext hx)).mono ?_
      rintro e w2 ⟨rfl, hb⟩
      have k0 := hb.lit k0
      have k1 := hb.lit k1
      have hx := hx.trans hb
      clear hb
      rw [hr']
      go_wp2
      go_ret
      exact ⟨ret_b (by rw [HV.out, hr']; simp), hx⟩
  · have hw' := eq_false_of_ne_true hw
    go_enter Try.func80, Try.ntmps80
    go_wp2_with fail
    have k0 : (w.alloc (.cells #[.slice A ns.length c, .slice B ls.length d] 32)).cell? ⟨w.heap.size, 0, none⟩ = some (.slice A ns.length c) := by go_simp
    have k1 : (w.alloc (.cells #[.slice A ns.length c, .slice B ls.length d] 32)).cell? ⟨w.heap.size, 1, none⟩ = some (.slice B ls.length d) := by go_simp
    have hx : Ext w (w.alloc (.cells #[.slice A ns.length c, .slice B ls.length d] 32)) := (by repeat first | exact Ext.refl _ | assumption | refine Ext.drew ?_ | refine Ext.alloc ?_ _ | refine Ext.setCell ?_ (by simp) | refine Ext.setCell ?_ (by simp; omega) | refine Ext.trans ?_ (by assumption))
    have hsz1 : w.heap.size + 1 = (w.alloc (.cells #[.slice A ns.length c, .slice B ls.length d] 32)).heap.size := by simp
    generalize (w.alloc (.cells #[.slice A ns.length c, .slice B ls.length d] 32)) = w0 at *
    (try rw [hsz1])
    refine (IsWhole_s _ _ _ _ ns ls _ (h.ext hx)).mono ?_
    rintro e w1 ⟨rfl, hb⟩
    have k0 := hb.lit k0
    have k1 := hb.lit k1
    have hx := hx.trans hb
    clear hb
    rw [hw']
    go_wp2
    go_ret
    exact ⟨ret_b (by rw [HV.out, hw']; simp), hx⟩
end Go.Proofs.Ytebfddcmaignaaa
