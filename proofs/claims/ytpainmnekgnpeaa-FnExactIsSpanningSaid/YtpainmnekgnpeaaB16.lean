import Derived.Test.YtpainmnekgnpeaaB15
import Derived.Test.YtpainmnekgnpeaaP7
import Derived.Test.YtpainmnekgnpeaaL4
import Derived.Test.YtpainmnekgnpeaaL6
import Derived.Test.YtpainmnekgnpeaaM4
import Derived.Deep.DeepCutAuto
namespace Go.Proofs.Ytpainmnekgnpeaa
open Go.RowKit Go.Sort Go.BigFrame

theorem OzI.gb {w w' : World} {B0 B : Nat} {v : Value} {xs : List Int} {r : Option Nat} (h : OzI w B0 B v xs) (k : w.grownBy w' r) (hr : ∀ g, v.ownBlock = some g → r ≠ some g) : OzI w' B0 B v xs :=
  h.imp (fun h => gb_own h k hr) (fun ⟨h1, h2, h3, h4⟩ => ⟨h1, gb_own h2 k hr, h3, h4⟩)
set_option maxRecDepth 100000 in
set_option maxHeartbeats 2000000 in
theorem l16Groups_c (n : Nat) (w : World) (hn : n ≤ 100) : Calls Try.prog 80 #[.int .i64 (n : Int)] w fun e w' => ∃ v, e = .returned v ∧ OwI w' w.heap.size v (ids n) ∧ Ext w w' := by
  go_enter Try.func80, Try.ntmps80
  go_wp2_with fail
  have hv0 : OzI (w.alloc (.cells #[] 3)) w.heap.size w.heap.size (.slice (some ⟨w.heap.size, 0, none⟩) 0 0) (ids 0) := OzI.zero _ (by omega) rfl
  have hx2 : Ext w (w.alloc (.cells #[] 3)) := (by repeat first | exact Ext.refl _ | assumption | refine Ext.drew ?_ | refine Ext.alloc ?_ _ | refine Ext.setCell ?_ (by simp) | refine Ext.setCell ?_ (by simp; omega) | refine Ext.trans ?_ (by assumption))
  generalize (w.alloc (.cells #[] 3)) = w2 at *
  go_loopw [3, 4] (fun v i wr => ∃ j : Nat, j ≤ n ∧ i = .int .i64 j ∧ OzI wr w.heap.size w.heap.size v (ids j) ∧ Ext w wr) (fun _ i _ => n - (intOf i).toNat)
  case atStart => exact ⟨0, by omega, rfl, hv0, hx2⟩
  case round =>
    clear hv0 hx2
    obtain ⟨j, hj, rfl, hv, hxr⟩ := hrel
    obtain ⟨wo, rfl⟩ : ∃ x : World, x = wr := ⟨_, rfl⟩
    by_cases hlt : j < n
    · have hsz := hxr.size
      have HI := Lib.hid (ids_length j)
      have Hs : Hid (ids (j + 1) = ids j ++ [(j : Int)]) := Lib.hid (by unfold ids; rw [List.range_succ, List.map_append]; rfl)
      go_wp2_with (at_builtin; refine az_int _ _ rfl rfl rfl (hv.ext ((Ext.refl wo).alloc _)) (g := wo.heap.size) (y := j) (by first | rfl | simp) (by go_simp) (by rw [HI.out]; omega) (by simp; omega) ?_)
      intro v' w' h1 h3
      go_wp2
      go_roundw
      case rel => exact ⟨j + 1, by omega, by go_num, by rw [Hs.out]; exact h1, h3 _ (hxr.trans (by repeat first | exact Ext.refl _ | assumption | refine Ext.drew ?_ | refine Ext.alloc ?_ _ | refine Ext.setCell ?_ (by simp) | refine Ext.setCell ?_ (by simp; omega) | refine Ext.trans ?_ (by assumption))) (Nat.le_refl _)⟩
      case measure => first | (simp [intOf]; done) | (simp [intOf]; omega)
    · obtain rfl : j = n := by omega
      go_wp2
      go_ret
      exact ⟨_, rfl, hv.own (Nat.le_refl _), hxr⟩

set_option maxRecDepth 100000 in
set_option maxHeartbeats 2000000 in
theorem l16Join_c (v : Value) (G : List Int) (a b : Nat) (w : World) {B : Nat} (h : OwI w B v G) (hl : G.length ≤ 100) (ha : a < G.length) (hb : b < G.length) :
    Calls Try.prog 81 #[v, .int .i64 (a : Int), .int .i64 (b : Int)] w fun e w' => e = .returned (.bool (gi G a != gi G b)) ∧ OwI w' B v (joinG G a b) ∧ w.grownBy w' v.ownBlock := by
  have HG : Hid (joinG G a b = G.map (joinF (gi G a) (gi G b))) := Lib.hid rfl
  obtain ⟨g, c, rfl, hcap, hgB, hgw, -, -⟩ := h.at_ (j := 0) (by omega)
  have c1 := (h.cel ha).1
  have c2 := (h.cel hb).1
  have ha' : (a : Int) < G.length := by omega
  have hb' : (b : Int) < G.length := by omega
  by_cases hq : gi G a = gi G b
  · have HS := Lib.hid (joinG_same hq)
    rw [hq] at c1
    have Hq := Lib.hid hq
    clear hq
    generalize gi G b = y at *
    have hyy : (y != y) = false := by simp
    go_enter Try.func81, Try.ntmps81
    go_wp2_with fail
    go_loop [9] (fun i => i = .int .i64 0) (fun _ => 0)
    case atStart => rfl
    case round =>
      obtain rfl := hrel
      go_wp2
      go_ret
      exact ⟨ret_b (by rw [Hq.out]; simp), by rw [HS.out]; exact h, gb_refl _ _⟩
  · have hne : (gi G a != gi G b) = true := by simp [hq]
    clear hq
    have HQ : Hid ((gi G a != gi G b) = true) := Lib.hid hne
    generalize gi G a = x at *
    generalize gi G b = y at *
    go_enter Try.func81, Try.ntmps81
    go_wp2_with fail
    clear c1 c2
    go_loopw [9] (fun i wr => ∃ j : Nat, j ≤ G.length ∧ i = .int .i64 j ∧ OwI wr B (.slice (some ⟨g, 0, none⟩) G.length c) (upto (joinF x y) G j) ∧ w.grownBy wr (some g)) (fun i _ => G.length - (intOf i).toNat)
    case atStart => exact ⟨0, by omega, rfl, by rw [upto_zero]; exact h, gb_refl _ _⟩
    case round =>
      clear h
      obtain ⟨j, hj, rfl, hv, hg⟩ := hrel
      obtain ⟨wo, rfl⟩ : ∃ x : World, x = wr := ⟨_, rfl⟩
      by_cases hlt : j < G.length
      · obtain ⟨c3, c4⟩ := hv.cel (j := j) (by rw [upto_len]; omega)
        rw [upto_at _ _ hlt] at c3
        have hji : (j : Int) < G.length := by omega
        by_cases hz : gi G j = y
        · have hset := hv.set_ (by rw [upto_len]) j x
          have hs2 := upto_set (joinF x y) G (j := j) hlt
          have hF : joinF x y (gi G j) = x := if_pos hz
          rw [hF] at hs2
          rw [hs2] at hset
          have Hset := Lib.hid hset
          rw [hz] at c3
          have hgs := gb_set hg j (.int .i64 x)
          clear hset hs2 hv hF hz
          go_wp2
          go_roundw
          case rel => exact ⟨j + 1, by omega, by go_num, Hset.out, hgs⟩
          case measure => first | (simp [intOf]; done) | (simp [intOf]; omega)
        · have Hs2 := Lib.hid (upto_same (joinF x y) G (j := j) hlt (if_neg hz))
          have hz' : (gi G j == y) = false := beq_eq_false_iff_ne.2 hz
          go_wp2
          go_roundw
          case rel => exact ⟨j + 1, by omega, by go_num, by rw [Hs2.out]; exact hv, hg⟩
          case measure => first | (simp [intOf]; done) | (simp [intOf]; omega)
      · rw [upto_all _ _ (by omega)] at hv
        go_wp2
        go_ret
        exact ⟨ret_b (by rw [HQ.out]), by rw [HG.out]; exact hv, hg⟩

def vFirstSpanning (ns ls : List P2) : List Int := if whole ns ls = true then flt (joins ns.length ls) ls.length else []
theorem vFirstSpanning_len (ns ls : List P2) : (vFirstSpanning ns ls).length ≤ 1000 := by
  unfold vFirstSpanning
  split
  · rename_i h
    have := (whole_ok h).1.le
    have := flt_len (joins ns.length ls) ls.length
    omega
  · simp

set_option maxRecDepth 100000 in
set_option maxHeartbeats 4000000 in
theorem FirstSpanning_s (A B : Option Addr) (c d : Nat) (ns ls : List P2) (w : World) (h : Wn w A c B d ns ls) :
    Calls Try.prog 45 #[.agg #[.slice A ns.length c, .slice B ls.length d]] w fun e w' => ∃ v, e = .returned v ∧ OwI w' w.heap.size v (vFirstSpanning ns ls) ∧ Ext w w' := by
  have HV : Hid (vFirstSpanning ns ls = if whole ns ls = true then flt (joins ns.length ls) ls.length else []) := Lib.hid rfl
  have hnl := h.hl
  by_cases hw : whole ns ls = true
  · rw [if_pos hw] at HV
    obtain ⟨hW, hm0⟩ := whole_ok hw
    have hn := hW.hi
    have hm := hW.le
    have hn1 := hW.lo
    have Hv := Lib.hid (vd_of_ok hW)
    clear hW
    go_enter Try.func45, Try.ntmps45
    go_wp2_with fail
    have hv0 : OzI ((w.alloc (.cells #[.slice A ns.length c, .slice B ls.length d] 36)).alloc (.cells #[] 3)) w.heap.size w.heap.size (.slice (some ⟨w.heap.size + 1, 0, none⟩) 0 0) [] := OzI.zero _ (by omega) (by simp)
    refine (IsWhole_s _ _ _ _ ns ls _ (h.ext (by repeat first | exact Ext.refl _ | assumption | refine Ext.drew ?_ | refine Ext.alloc ?_ _ | refine Ext.setCell ?_ (by simp) | refine Ext.setCell ?_ (by simp; omega) | refine Ext.trans ?_ (by assumption)))).mono ?_
    rintro e w1 ⟨rfl, hb⟩
    have k0 := hb.lit (b := w.heap.size) (o := 0) (v := .slice A ns.length c) (by go_simp)
    have k1 := hb.lit (b := w.heap.size) (o := 1) (v := .slice B ls.length d) (by go_simp)
    have hx : Ext w w1 := (by repeat first | exact Ext.refl _ | assumption | refine Ext.drew ?_ | refine Ext.alloc ?_ _ | refine Ext.setCell ?_ (by simp) | refine Ext.setCell ?_ (by simp; omega) | refine Ext.trans ?_ (by assumption))
    have hv0 := hv0.ext hb
    clear hb
    rw [hw]
    go_wp2_with fail
    refine (l16Groups_c ns.length _ (by omega)).mono ?_
    rintro e w2 ⟨v, rfl, hg, hb⟩
    have hb12 := hb
    have hx1 := hx
    have kk0 := k0
    have kk1 := k1
    have hlb : w.heap.size + 1 < w1.heap.size := by rcases hv0 with h' | ⟨_, h', _⟩ <;> exact (World.ownsRow.lt h' _ rfl).2
    have k0 := hb.lit k0
    have k1 := hb.lit k1
    have hv0 := hv0.ext hb
    have hx := hx.trans hb
    clear hb
    go_wp2_with fail
    have HG0 : Hid (ids ns.length = grp ns.length ls 0) := Lib.hid rfl
    rw [HG0.out] at hg
    have hgs : ∀ q, v.ownBlock = some q → q < w2.heap.size := fun q hq => (hg.blk q hq).2
    have hgs1 : ∀ q, v.ownBlock = some q → w1.heap.size ≤ q := fun q hq => (hg.blk q hq).1
    have hx12 : w1.heap.size ≤ w2.heap.size := hb12.size
    have HJ : Hid (∀ j, joins ns.length ls j = (gi (grp ns.length ls j) (gp ls j).1 != gi (grp ns.length ls j) (gp ls j).2)) := Lib.hid (fun _ => rfl)
    have HGS : Hid (∀ j, grp ns.length ls (j + 1) = joinG (grp ns.length ls j) (gp ls j).1 (gp ls j).2) := Lib.hid (fun _ => rfl)
    generalize hPj : joins ns.length ls = P at *
    clear hPj
    go_loopw [3, 5] (fun q i wr => ∃ j : Nat, j ≤ ls.length ∧ i = .int .i64 j ∧ OzI wr w.heap.size w2.heap.size q (flt P j) ∧ (∀ b, q.ownBlock = some b → v.ownBlock ≠ some b) ∧ w2.heap.size ≤ wr.heap.size ∧ OwI wr w1.heap.size v (grp ns.length ls j) ∧ Ext w1 wr) (fun _ i _ => ls.length - (intOf i).toNat)
    case atStart => exact ⟨0, by omega, rfl, hv0.up rfl ⟨_, rfl⟩ (by omega), fun b hb e => by have := hgs1 b e; simp [Value.ownBlock] at hb; omega, Nat.le_refl _, hg, hb12⟩
    case round =>
      clear hv0 hg hx k0 k1
      obtain ⟨j, hj, rfl, hq, hqd, hsz2, hg, hxr⟩ := hrel
      obtain ⟨wo, rfl⟩ : ∃ x : World, x = wr := ⟨_, rfl⟩
      have hx0 := hx1.trans hxr
      have k1 := hxr.lit kk1
      by_cases hlt : j < ls.length
      · obtain ⟨b, off, rfl, hbb, c1, c2⟩ := (h.ext hx0).g.gp_ hlt
        obtain ⟨f, t, hft, hf, ht⟩ := Hv.out (gp ls j) (by rw [gp_nat ls j hlt]; exact List.getElem_mem hlt)
        have HJj := Lib.hid (HJ.out j)
        have HGj := Lib.hid (HGS.out j)
        have HGl := Lib.hid (grp_len ns.length ls j)
        rw [hft] at c1 c2 HJj HGj
        clear hft
        generalize grp ns.length ls j = G at *
        generalize hG' : grp ns.length ls (j + 1) = G' at *
        have HG' := Lib.hid hG'
        clear hG'
        have hji : (j : Int) < ls.length := by omega
        go_upto_region 8 with fail
        go_cut [35] (fun s wx => s = .bool (P j) ∧ OwI wx w1.heap.size v G' ∧ wo.grownBy wx v.ownBlock)
        case first =>
          have d0 := cell_regrown k1
          have d1 := cell_regrown c1
          have d2 := cell_regrown c2
          refine rx_open [(true, 0, some 22, 16), (true, 0, some 23, 2), (true, 2, some 24, 8388608), (true, 0, some 25, 32), (true, 12, some 26, 50331648), (true, 16, some 27, 67108864), (true, 32, some 28, 134217728), (true, 0, some 29, 2), (true, 128, some 30, 536870912), (true, 0, some 31, 32), (true, 768, some 32, 3221225472), (true, 1024, some 33, 4294967296), (true, 2048, some 34, 8589934592), (false, 4161, some 35, 17452498944)] 8192 14 mixd rfl (by kernel_rfl) (by kernel_rfl) (by kernel_rfl) ?_
          refine rx_run (run := [0, 1, 2, 3, 4, 5, 6, 7, 8, 9, 10, 11, 12]) (k := 1) (m' := 8191) rfl (by kernel_rfl) (by kernel_rfl) (by kernel_rfl) (fm_cons rfl <| fm_cons rfl <| fm_cons rfl <| fm_cons rfl <| fm_cons rfl <| fm_cons rfl <| fm_cons rfl <| fm_cons rfl <| fm_cons rfl <| fm_cons rfl <| fm_cons rfl <| fm_cons rfl <| fm_cons rfl <| List.filterMap_nil) (by repeat first | exact Ext.refl _ | assumption | refine Ext.drew ?_ | refine Ext.alloc ?_ _ | refine Ext.setCell ?_ (by simp) | refine Ext.setCell ?_ (by simp; omega) | refine Ext.trans ?_ (by assumption)) ?_
          repeat (go_big_quiet_step ((fail)))
          refine wpQuiet_nil ?_
          refine rx_op 13 (k := 0) (m' := 16383) rfl rfl (by kernel_rfl) (by kernel_rfl) ?_
          go_wp2_with ((go_at_call 81; refine (l16Join_c v G f t _ (hg.ext (by repeat first | exact Ext.refl _ | assumption | refine Ext.drew ?_ | refine Ext.alloc ?_ _ | refine Ext.setCell ?_ (by simp) | refine Ext.setCell ?_ (by simp; omega) | refine Ext.trans ?_ (by assumption))) (by rw [HGl.out]; omega) (by rw [HGl.out]; exact hf) (by rw [HGl.out]; exact ht)).mono ?_; rintro e w6 ⟨rfl, hg6, hgb⟩))
          refine rx_lst (by decide) ?_
          refine rx_end (by kernel_rfl) ?_
          all_goals (go_wp2; go_meet; exact ⟨by rw [HJj.out], by rw [HGj.out]; exact hg6, gb_trans (gb_ext (by repeat first | exact Ext.refl _ | assumption | refine Ext.drew ?_ | refine Ext.alloc ?_ _ | refine Ext.setCell ?_ (by simp) | refine Ext.setCell ?_ (by simp; omega) | refine Ext.trans ?_ (by assumption))) hgb⟩)
        case rest =>
          obtain ⟨rfl, hg, hgb⟩ := hcut
          obtain ⟨w3, rfl⟩ : ∃ x : World, x = wc := ⟨_, rfl⟩
          have hq := hq.gb hgb hqd
          have hxr := gb_ext2 hxr hgb hgs1
          have hsz3 : w2.heap.size ≤ w3.heap.size := by have := hgb.size; omega
          have hln := flt_len P j
          clear c1 c2 hgb
          by_cases hP : P j = true
          · have Hs := Lib.hid (flt_yes hP)
            rw [hP]
            go_wp2_with (at_builtin; refine az_int3 _ _ rfl rfl rfl (hq.ext ((Ext.refl w3).alloc _)) (g := w3.heap.size) (y := j) (by first | rfl | simp) (by go_simp) (by omega) (by simp; omega) ?_)
            intro v' w' r h1 h3 h4 h5
            have hg := (hg.ext ((Ext.refl w3).alloc _)).gb h4 (fun q hq' e => by have := hgs q hq'; have := h5 q e; omega)
            have hxr := gb_ext2 (hxr.trans ((Ext.refl w3).alloc _)) h4 (fun q e => by have := h5 q e; omega)
            have hsz4 : w2.heap.size ≤ w'.heap.size := by have := h4.size; simp at this; omega
            have hd' : ∀ b, v'.ownBlock = some b → v.ownBlock ≠ some b := fun b hb e => by have := (h1.blk b hb).1; have := hgs b e; omega
            clear h4 h5
            go_wp2
            go_roundw
            case rel => exact ⟨j + 1, by omega, by go_num, by rw [Hs.out]; exact .of h1, hd', hsz4, by rw [HG'.out]; exact hg, hxr⟩
            case measure => first | (simp [intOf]; done) | (simp [intOf]; omega)
          · have Hs := Lib.hid (flt_no (eq_false_of_ne_true hP))
            rw [eq_false_of_ne_true hP]
            go_wp2
            go_roundw
            case rel => exact ⟨j + 1, by omega, by go_num, by rw [Hs.out]; exact hq, hqd, hsz3, by rw [HG'.out]; exact hg, hxr⟩
            case measure => first | (simp [intOf]; done) | (simp [intOf]; omega)
      · obtain rfl : j = ls.length := by omega
        go_wp2
        go_ret
        exact ⟨_, rfl, by rw [HV.out]; exact hq.own (by omega), hx0⟩
  · rw [if_neg hw] at HV
    have hw' := eq_false_of_ne_true hw
    go_enter Try.func45, Try.ntmps45
    go_wp2_with fail
    have hv0 : OzI ((w.alloc (.cells #[.slice A ns.length c, .slice B ls.length d] 36)).alloc (.cells #[] 3)) w.heap.size w.heap.size (.slice (some ⟨w.heap.size + 1, 0, none⟩) 0 0) [] := OzI.zero _ (by omega) (by simp)
    refine (IsWhole_s _ _ _ _ ns ls _ (h.ext (by repeat first | exact Ext.refl _ | assumption | refine Ext.drew ?_ | refine Ext.alloc ?_ _ | refine Ext.setCell ?_ (by simp) | refine Ext.setCell ?_ (by simp; omega) | refine Ext.trans ?_ (by assumption)))).mono ?_
    rintro e w1 ⟨rfl, hb⟩
    have k0 := hb.lit (b := w.heap.size) (o := 0) (v := .slice A ns.length c) (by go_simp)
    have k1 := hb.lit (b := w.heap.size) (o := 1) (v := .slice B ls.length d) (by go_simp)
    have hx : Ext w w1 := (by repeat first | exact Ext.refl _ | assumption | refine Ext.drew ?_ | refine Ext.alloc ?_ _ | refine Ext.setCell ?_ (by simp) | refine Ext.setCell ?_ (by simp; omega) | refine Ext.trans ?_ (by assumption))
    have hv0 := hv0.ext hb
    clear hb
    rw [hw']
    go_wp2
    go_ret
    exact ⟨_, rfl, by rw [HV.out]; exact hv0.own (Nat.le_refl _), hx⟩

set_option maxRecDepth 100000 in
set_option maxHeartbeats 4000000 in
theorem FirstSpanning_i (A B : Option Addr) (c d : Nat) (ns ls : List P2) (w : World) (h : Wn w A c B d ns ls) :
    Calls Try.prog 46 #[.agg #[.slice A ns.length c, .slice B ls.length d]] w fun e w' => ∃ v, e = .returned v ∧ OwI w' w.heap.size v (vFirstSpanning ns ls) ∧ Ext w w' := by
  have HV : Hid (vFirstSpanning ns ls = if whole ns ls = true then flt (joins ns.length ls) ls.length else []) := Lib.hid rfl
  by_cases hw : whole ns ls = true
  · rw [if_pos hw] at HV
    obtain ⟨hW, hm0⟩ := whole_ok hw
    have hn := hW.hi
    have hm := hW.le
    have hn1 := hW.lo
    have Hv := Lib.hid (vd_of_ok hW)
    clear hW
    obtain ⟨i0, hi, hz0, hz1, hz2⟩ := info_parts infoI4
    have hmk := fun W => run_mk1 (P := Try.prog) 22 3 i0 (.int .i64 0) Try.underlying22 hi hz0 hz1 rfl ns.length (by rw [hz2]; omega) (by omega) W
    clear hi hz0 hz1 hz2
    go_enter Try.func46, Try.ntmps46
    go_wp2_with fail
    have k0 : (w.alloc (.cells #[.slice A ns.length c, .slice B ls.length d] 36)).cell? ⟨w.heap.size, 0, none⟩ = some (.slice A ns.length c) := by go_simp
    have k1 : (w.alloc (.cells #[.slice A ns.length c, .slice B ls.length d] 36)).cell? ⟨w.heap.size, 1, none⟩ = some (.slice B ls.length d) := by go_simp
    have hx : Ext w (w.alloc (.cells #[.slice A ns.length c, .slice B ls.length d] 36)) := (by repeat first | exact Ext.refl _ | assumption | refine Ext.drew ?_ | refine Ext.alloc ?_ _ | refine Ext.setCell ?_ (by simp) | refine Ext.setCell ?_ (by simp; omega) | refine Ext.trans ?_ (by assumption))
    have hsz1 : w.heap.size + 1 = (w.alloc (.cells #[.slice A ns.length c, .slice B ls.length d] 36)).heap.size := by simp
    generalize (w.alloc (.cells #[.slice A ns.length c, .slice B ls.length d] 36)) = w0 at *
    (try rw [hsz1])
    refine (IsWhole_i _ _ _ _ ns ls _ (h.ext hx)).mono ?_
    rintro e w1 ⟨rfl, hb⟩
    have k0 := hb.lit k0
    have k1 := hb.lit k1
    have hx := hx.trans hb
    clear hb
    rw [hw]
    go_wp2_with fail
    clear hmk
    have hb0 : OwI (w1.alloc (.cells (List.replicate ns.length (Value.int .i64 0)).toArray 3)) w1.heap.size (.slice (some ⟨w1.heap.size, 0, none⟩) (List.replicate ns.length (0 : Int)).length (List.replicate ns.length (0 : Int)).length) (List.replicate ns.length 0) :=
      OwI.new (by rw [List.map_replicate]; exact Bk.new _ _ rfl) (Nat.le_refl _) (by simp; unfold maxLen; omega)
    rw [List.length_replicate] at hb0
    have hre : (List.replicate ns.length (Value.int .i64 0)).toArray = Array.replicate ns.length (Value.int .i64 0) := by simp
    rw [hre] at hb0
    clear hre
    have hx2 : Ext w1 (w1.alloc (.cells (Array.replicate ns.length (Value.int .i64 0)) 3)) := (by repeat first | exact Ext.refl _ | assumption | refine Ext.drew ?_ | refine Ext.alloc ?_ _ | refine Ext.setCell ?_ (by simp) | refine Ext.setCell ?_ (by simp; omega) | refine Ext.trans ?_ (by assumption))
    have hsz2 : w1.heap.size < (w1.alloc (.cells (Array.replicate ns.length (Value.int .i64 0)) 3)).heap.size := by simp
    generalize (w1.alloc (.cells (Array.replicate ns.length (Value.int .i64 0)) 3)) = w2 at *
    generalize hg0 : w1.heap.size = g0 at *
    have HG0 := Lib.hid hg0
    clear hg0
    have HRL : Hid ((List.replicate ns.length (0 : Int)).length = ns.length) := Lib.hid (List.length_replicate)
    have hsz02 : w1.heap.size ≤ w2.heap.size := hx2.size
    generalize List.replicate ns.length (0 : Int) = Z at *
    go_loopw [4, 20] (fun _ i wr => ∃ j : Nat, j ≤ ns.length ∧ i = .int .i64 j ∧ OwI wr g0 (.slice (some ⟨g0, 0, none⟩) ns.length ns.length) (hmk 0 Z j) ∧ w2.heap.size ≤ wr.heap.size ∧ Ext w1 wr) (fun _ i _ => ns.length - (intOf i).toNat)
    case atStart => exact ⟨0, by omega, rfl, by rw [hmk_zero]; exact hb0, Nat.le_refl _, hx2⟩
    case round =>
      clear hb0 hx2
      obtain ⟨j, hj, rfl, hv, hsz, hxr⟩ := hrel
      obtain ⟨wo, rfl⟩ : ∃ x : World, x = wr := ⟨_, rfl⟩
      have HL := Lib.hid (hmk_len 0 Z (j := j) (by rw [HRL.out]; exact hj))
      by_cases hlt : j < ns.length
      · obtain ⟨e1, e2⟩ := hv.cel (j := j) (by rw [HL.out, HRL.out]; exact hlt)
        have hset := hv.set_ (by rw [HL.out, HRL.out]) j (0 + (j : Int))
        rw [hmk_set 0 Z (by rw [HRL.out]; exact hlt), Int.zero_add] at hset
        have Hset := Lib.hid hset
        clear hset hv
        go_wp2
        go_roundw
        case rel => exact ⟨j + 1, by omega, by go_num, Hset.out, by simpa using hsz, hxr.setCell (by rw [HG0.out]; exact Nat.le_refl _)⟩
        case measure => first | (simp [intOf]; done) | (simp [intOf]; omega)
      · obtain rfl : j = ns.length := by omega
        have HI : Hid (hmk 0 Z ns.length = grp ns.length ls 0) := Lib.hid (by
          have e := hmk_all 0 Z
          rw [HRL.out] at e
          rw [e]
          show _ = ids ns.length
          unfold mks ids
          simp)
        rw [HI.out] at hv
        have kk0 := hxr.lit k0
        have kk1 := hxr.lit k1
        have hx1 := hx.trans hxr
        clear HL
        go_wp2_with fail
        have HJ : Hid (∀ j, joins ns.length ls j = (gi (grp ns.length ls j) (gp ls j).1 != gi (grp ns.length ls j) (gp ls j).2)) := Lib.hid (fun _ => rfl)
        have HGS : Hid (∀ j, grp ns.length ls (j + 1) = joinG (grp ns.length ls j) (gp ls j).1 (gp ls j).2) := Lib.hid (fun _ => rfl)
        generalize hPj : joins ns.length ls = P at *
        clear hPj
        go_loopw [5, 6, 7, 8, 9, 10, 31] (fun q _ _ _ _ _ i wr => ∃ j : Nat, j ≤ ls.length ∧ i = .int .i64 j ∧ OwI wr w2.heap.size q (flt P j) ∧ w2.heap.size ≤ wr.heap.size ∧ OwI wr g0 (.slice (some ⟨g0, 0, none⟩) ns.length ns.length) (grp ns.length ls j) ∧ Ext w1 wr) (fun _ _ _ _ _ _ i _ => ls.length - (intOf i).toNat)
        case atStart => exact ⟨0, by omega, rfl, OwI.nil _ _, hsz, hv, hxr⟩
        case round =>
          clear hv
          obtain ⟨j, hj, rfl, hq, hsz3, hg, hxj⟩ := hrel
          obtain ⟨w3, rfl⟩ : ∃ x : World, x = wr := ⟨_, rfl⟩
          have hx0 := hx.trans hxj
          have k1 := hxj.lit k1
          by_cases hlt : j < ls.length
          · obtain ⟨b, off, rfl, hbb, c1, c2⟩ := (h.ext hx0).g.gp_ hlt
            obtain ⟨f, t, hft, hf, ht⟩ := Hv.out (gp ls j) (by rw [gp_nat ls j hlt]; exact List.getElem_mem hlt)
            have HJj := Lib.hid (HJ.out j)
            have HGj := Lib.hid (HGS.out j)
            have HGl := Lib.hid (grp_len ns.length ls j)
            rw [hft] at c1 c2 HJj HGj
            clear hft
            generalize hG : grp ns.length ls j = G at *
            generalize hG' : grp ns.length ls (j + 1) = G' at *
            have HG' := Lib.hid hG'
            clear hG' hG
            have hji : (j : Int) < ls.length := by omega
            have hfi : (f : Int) < ns.length := by omega
            have hti : (t : Int) < ns.length := by omega
            have g1 := (hg.cel (j := f) (by rw [HGl.out]; exact hf)).1
            have g2 := (hg.cel (j := t) (by rw [HGl.out]; exact ht)).1
            have HGJ : Hid (joinG G f t = G.map (joinF (gi G f) (gi G t))) := Lib.hid rfl
            have HSM : Hid (gi G f = gi G t → joinG G f t = G) := Lib.hid joinG_same
            generalize gi G f = x at *
            generalize gi G t = y at *
            go_upto_region 13 with fail
            have hq4 : Ext w3 (w3.alloc (.cells #[.int .i64 (f : Int), .int .i64 (t : Int)] 65)) := (by repeat first | exact Ext.refl _ | assumption | refine Ext.drew ?_ | refine Ext.alloc ?_ _ | refine Ext.setCell ?_ (by simp) | refine Ext.setCell ?_ (by simp; omega) | refine Ext.trans ?_ (by assumption))
            have l1 : (w3.alloc (.cells #[.int .i64 (f : Int), .int .i64 (t : Int)] 65)).cell? ⟨w3.heap.size, 0, none⟩ = some (.int .i64 (f : Int)) := by go_simp
            have l2 : (w3.alloc (.cells #[.int .i64 (f : Int), .int .i64 (t : Int)] 65)).cell? ⟨w3.heap.size, 1, none⟩ = some (.int .i64 (t : Int)) := by go_simp
            generalize (w3.alloc (.cells #[.int .i64 (f : Int), .int .i64 (t : Int)] 65)) = w4 at *
            have g1 := hq4.lit g1
            have g2 := hq4.lit g2
            have hq := hq.ext hq4
            have hg := hg.ext hq4
            have hxj := hxj.trans hq4
            have hsz4 : w2.heap.size ≤ w4.heap.size := by have := hq4.size; omega
            clear hq4 c1 c2 k1
            have d0 := cell_regrown l1
            have d1 := cell_regrown l2
            have d2 := cell_regrown g1
            have d3 := cell_regrown g2
            have hln := flt_len P j
            by_cases hxy : x = y
            · have Hs := Lib.hid (flt_no (p := P) (j := j) (by rw [HJj.out, hxy]; simp))
              have HGe := Lib.hid (HSM.out hxy)
              subst hxy
              have hbq : (x == x) = true := by simp
              refine rx_open [(true, 0, some 36, 8), (true, 0, some 37, 128), (true, 2, some 38, 137438953472), (true, 5, some 39, 343597383680), (true, 8, some 40, 549755813888), (true, 0, some 41, 8), (true, 0, some 42, 128), (true, 64, some 43, 4398046511104), (true, 160, some 44, 10995116277760), (true, 256, some 45, 17592186044416), (true, 31, some 8, 1099511627776), (true, 2047, some 9, 35184372088832)] 0 12 mixd rfl (by kernel_rfl) (by kernel_rfl) (by kernel_rfl) ?_
              refine rx_run (run := [0, 1, 2, 3, 4, 5, 6, 7, 8, 9, 10, 11]) (k := 0) (m' := 4095) rfl (by kernel_rfl) (by kernel_rfl) (by kernel_rfl) (fm_cons rfl <| fm_cons rfl <| fm_cons rfl <| fm_cons rfl <| fm_cons rfl <| fm_cons rfl <| fm_cons rfl <| fm_cons rfl <| fm_cons rfl <| fm_cons rfl <| fm_cons rfl <| fm_cons rfl <| List.filterMap_nil) (by repeat first | exact Ext.refl _ | assumption | refine Ext.drew ?_ | refine Ext.alloc ?_ _ | refine Ext.setCell ?_ (by simp) | refine Ext.setCell ?_ (by simp; omega) | refine Ext.trans ?_ (by assumption)) ?_
              repeat (go_big_quiet_step ((fail)))
              refine wpQuiet_nil ?_
              refine rx_end (by kernel_rfl) ?_
              go_wp2
              go_roundw
              case rel => exact ⟨j + 1, by omega, by go_num, by rw [Hs.out]; exact hq.ext (by repeat first | exact Ext.refl _ | assumption | refine Ext.drew ?_ | refine Ext.alloc ?_ _ | refine Ext.setCell ?_ (by simp) | refine Ext.setCell ?_ (by simp; omega) | refine Ext.trans ?_ (by assumption)), by simpa using hsz4, by rw [HG'.out, HGj.out, HGe.out]; exact hg.ext (by repeat first | exact Ext.refl _ | assumption | refine Ext.drew ?_ | refine Ext.alloc ?_ _ | refine Ext.setCell ?_ (by simp) | refine Ext.setCell ?_ (by simp; omega) | refine Ext.trans ?_ (by assumption)), hxj.trans (by repeat first | exact Ext.refl _ | assumption | refine Ext.drew ?_ | refine Ext.alloc ?_ _ | refine Ext.setCell ?_ (by simp) | refine Ext.setCell ?_ (by simp; omega) | refine Ext.trans ?_ (by assumption))⟩
              case measure => first | (simp [intOf]; done) | (simp [intOf]; omega)
            · have hbq : (x == y) = false := beq_eq_false_iff_ne.2 hxy
              have Hs := Lib.hid (flt_yes (p := P) (j := j) (by rw [HJj.out]; simpa using hxy))
              refine rx_open [(true, 0, some 36, 8), (true, 0, some 37, 128), (true, 2, some 38, 137438953472), (true, 5, some 39, 343597383680), (true, 8, some 40, 549755813888), (true, 0, some 41, 8), (true, 0, some 42, 128), (true, 64, some 43, 4398046511104), (true, 160, some 44, 10995116277760), (true, 256, some 45, 17592186044416), (true, 31, some 8, 1099511627776), (true, 2047, some 9, 35184372088832)] 0 12 mixd rfl (by kernel_rfl) (by kernel_rfl) (by kernel_rfl) ?_
              refine rx_run (run := [0, 1, 2, 3, 4, 5, 6, 7, 8, 9, 10, 11]) (k := 0) (m' := 4095) rfl (by kernel_rfl) (by kernel_rfl) (by kernel_rfl) (fm_cons rfl <| fm_cons rfl <| fm_cons rfl <| fm_cons rfl <| fm_cons rfl <| fm_cons rfl <| fm_cons rfl <| fm_cons rfl <| fm_cons rfl <| fm_cons rfl <| fm_cons rfl <| fm_cons rfl <| List.filterMap_nil) (by repeat first | exact Ext.refl _ | assumption | refine Ext.drew ?_ | refine Ext.alloc ?_ _ | refine Ext.setCell ?_ (by simp) | refine Ext.setCell ?_ (by simp; omega) | refine Ext.trans ?_ (by assumption)) ?_
              repeat (go_big_quiet_step ((fail)))
              refine wpQuiet_nil ?_
              refine rx_end (by kernel_rfl) ?_
              go_wp2_with (at_builtin; refine az_int3 (B0 := 0) _ _ rfl rfl rfl (.of (hq.ext (by repeat first | exact Ext.refl _ | assumption | refine Ext.drew ?_ | refine Ext.alloc ?_ _ | refine Ext.setCell ?_ (by simp) | refine Ext.setCell ?_ (by simp; omega) | refine Ext.trans ?_ (by assumption)))) (g := w4.heap.size) (y := j) (by first | rfl | simp) (by go_simp) (by omega) (by simp; omega) ?_)
              intro v' w5 r h1 h3 h4 h5
              have hg := (hg.ext (by repeat first | exact Ext.refl _ | assumption | refine Ext.drew ?_ | refine Ext.alloc ?_ _ | refine Ext.setCell ?_ (by simp) | refine Ext.setCell ?_ (by simp; omega) | refine Ext.trans ?_ (by assumption))).gb h4 (fun q hq' e => by have := h5 q e; simp [Value.ownBlock] at hq'; omega)
              have hxj := gb_ext2 (hxj.trans (by repeat first | exact Ext.refl _ | assumption | refine Ext.drew ?_ | refine Ext.alloc ?_ _ | refine Ext.setCell ?_ (by simp) | refine Ext.setCell ?_ (by simp; omega) | refine Ext.trans ?_ (by assumption))) h4 (fun q e => by have := h5 q e; omega)
              have hsz5 : w2.heap.size ≤ w5.heap.size := by have := h4.size; simp at this; omega
              have hvb : ∀ q, v'.ownBlock = some q → g0 ≠ q := fun q e => by have := (h1.blk q e).1; omega
              clear h3 h4 h5 d0 d1 d2 d3 l1 l2 g1 g2 hq hsz4
              go_wp2_with fail
              go_loopw [10, 55] (fun _ i wr => ∃ k : Nat, k ≤ ns.length ∧ i = .int .i64 k ∧ OwI wr g0 (.slice (some ⟨g0, 0, none⟩) ns.length ns.length) (upto (joinF x y) G k) ∧ OwI wr w2.heap.size v' (flt P j ++ [(j : Int)]) ∧ w2.heap.size ≤ wr.heap.size ∧ Ext w1 wr) (fun _ i _ => ns.length - (intOf i).toNat)
              case atStart => exact ⟨0, by omega, rfl, by rw [upto_zero]; exact hg, h1, hsz5, hxj⟩
              case round =>
                clear hg h1 hxj hsz5
                obtain ⟨k, hk, rfl, hg, hq, hsz6, hxj⟩ := hrel
                obtain ⟨w6, rfl⟩ : ∃ x : World, x = wr := ⟨_, rfl⟩
                have HUL : Hid ((upto (joinF x y) G k).length = ns.length) := Lib.hid (by rw [upto_len, HGl.out])
                by_cases hkl : k < ns.length
                · have hkG : k < G.length := by rw [HGl.out]; exact hkl
                  obtain ⟨c3, c4⟩ := hg.cel (j := k) (by rw [HUL.out]; exact hkl)
                  rw [upto_at _ _ hkG] at c3
                  have hki : (k : Int) < ns.length := by omega
                  by_cases hz : gi G k = y
                  · have hset := hg.set_ (by rw [HUL.out]) k x
                    have hs2 := upto_set (joinF x y) G (j := k) hkG
                    have hF : joinF x y (gi G k) = x := if_pos hz
                    rw [hF] at hs2
                    rw [hs2] at hset
                    have Hset := Lib.hid hset
                    rw [hz] at c3
                    have hgs := gb_set (gb_refl w6 (some g0)) k (.int .i64 x)
                    have hq := hq.gb hgs (fun q e e' => hvb q e (by simpa using e'))
                    have hxj := gb_ext2 hxj hgs (fun q e => by simp at e; have := HG0.out; omega)
                    clear hset hs2 hF hz hgs hg
                    go_wp2
                    go_roundw
                    case rel => exact ⟨k + 1, by omega, by go_num, Hset.out, hq, by simpa using hsz6, hxj⟩
                    case measure => first | (simp [intOf]; done) | (simp [intOf]; omega)
                  · have Hs2 := Lib.hid (upto_same (joinF x y) G (j := k) hkG (if_neg hz))
                    have hz' : (gi G k == y) = false := beq_eq_false_iff_ne.2 hz
                    go_wp2
                    go_roundw
                    case rel => exact ⟨k + 1, by omega, by go_num, by rw [Hs2.out]; exact hg, hq, hsz6, hxj⟩
                    case measure => first | (simp [intOf]; done) | (simp [intOf]; omega)
                · obtain rfl : k = ns.length := by omega
                  rw [upto_all _ _ (by rw [HGl.out]; exact Nat.le_refl _), ← HGJ.out, ← HGj.out] at hg
                  go_wp2
                  go_roundw
                  case rel => exact ⟨j + 1, by omega, by go_num, by rw [Hs.out]; exact hq, hsz6, by rw [HG'.out]; exact hg, hxj⟩
                  case measure => first | (simp [intOf]; done) | (simp [intOf]; omega)
          · obtain rfl : j = ls.length := by omega
            go_wp2
            go_ret
            exact ⟨_, rfl, by rw [HV.out]; exact hq.more (by have := hx.size; omega), hx0⟩
  · rw [if_neg hw] at HV
    have hw' := eq_false_of_ne_true hw
    go_enter Try.func46, Try.ntmps46
    go_wp2_with fail
    refine (IsWhole_i _ _ _ _ ns ls _ (h.ext (by repeat first | exact Ext.refl _ | assumption | refine Ext.drew ?_ | refine Ext.alloc ?_ _ | refine Ext.setCell ?_ (by simp) | refine Ext.setCell ?_ (by simp; omega) | refine Ext.trans ?_ (by assumption)))).mono ?_
    rintro e w1 ⟨rfl, hb⟩
    rw [hw']
    go_wp2
    go_ret
    exact ⟨_, rfl, by rw [HV.out]; exact OwI.nil _ _, (by repeat first | exact Ext.refl _ | assumption | refine Ext.drew ?_ | refine Ext.alloc ?_ _ | refine Ext.setCell ?_ (by simp) | refine Ext.setCell ?_ (by simp; omega) | refine Ext.trans ?_ (by assumption))⟩
end Go.Proofs.Ytpainmnekgnpeaa
