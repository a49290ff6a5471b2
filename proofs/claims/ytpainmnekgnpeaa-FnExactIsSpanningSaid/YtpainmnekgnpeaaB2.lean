import Derived.Test.YtpainmnekgnpeaaB1
import Derived.Test.YtpainmnekgnpeaaA7
namespace Go.Proofs.Ytpainmnekgnpeaa
open Go.RowKit Go.Sort Go.BigFrame

theorem pfold_bd {n a r j : Nat} {ls : List P2} (hv : Vd n ls) (ha : a < n) : (ls.take j).foldl stepB (itB ls r (2 ^ a)) < 2 ^ n := by
  apply Nat.lt_pow_two_of_testBit
  intro i hi
  rw [Bool.eq_false_iff]
  intro h
  have h0 := itB_sound hv (2 ^ a) (a := a) (fun i h => by rw [Nat.testBit_two_pow, decide_eq_true_eq] at h; subst h; exact .refl) r
  have := (roundB_sound hv (ls.take j) _ (fun l hl => List.mem_of_mem_take hl) h0 i h).lt hv ha
  omega

theorem pow_w (k : Nat) (hk : k ≤ 62) : wrap64 (2 ^ k) = ((2 ^ k : Nat) : Int) := by
  have h := shl_nat k hk
  unfold shl' at h
  rw [Nat.min_eq_left (by omega), Int.one_mul, IntKind.wrap_i64] at h
  unfold wrap64
  exact h
theorem or_w (S f t : Nat) (hS : S < 2 ^ 62) (hf : f < 62) (ht : t < 62) : bits .or .i64 (S : Int) (bits .or .i64 (wrap64 (2 ^ f)) (wrap64 (2 ^ t))) = ((S ||| (2 ^ f ||| 2 ^ t) : Nat) : Int) := by
  have h := or3_nat S f t hS hf ht
  rw [shl_nat f (by omega), shl_nat t (by omega)] at h
  rw [pow_w f (by omega), pow_w t (by omega)]
  exact h

set_option maxRecDepth 100000 in
set_option maxHeartbeats 2000000 in
theorem partOf_c (A B : Option Addr) (c d : Nat) (ns ls : List P2) (k : Nat) (w : World) (hn : ns.length ≤ 12) (hm : ls.length ≤ 20) (hv : Vd ns.length ls) (hk : k < ns.length)
    (g : Pr w w.heap.size B ls) :
    Calls Try.prog 76 #[.agg #[.slice A ns.length c, .slice B ls.length d], .int .i64 (k : Int)] w fun e w' => ∃ v, e = .returned v ∧ OwI w' w.heap.size v (partL ns.length ls k) ∧ Ext w w' := by
  have Hv := Lib.hid hv
  have Hk := Lib.hid hk
  clear hv
  go_enter Try.func76, Try.ntmps76
  go_wp2_with fail
  have k1 : (w.alloc (.cells #[.slice A ns.length c, .slice B ls.length d] 36)).cell? ⟨w.heap.size, 1, none⟩ = some (.slice B ls.length d) := by go_simp
  have hx : Ext w (w.alloc (.cells #[.slice A ns.length c, .slice B ls.length d] 36)) := (by repeat first | exact Ext.refl _ | assumption | refine Ext.drew ?_ | refine Ext.alloc ?_ _ | refine Ext.setCell ?_ (by simp) | refine Ext.setCell ?_ (by simp; omega) | refine Ext.trans ?_ (by assumption))
  rw [pow_w k (by omega)]
  generalize (w.alloc (.cells #[.slice A ns.length c, .slice B ls.length d] 36)) = w1 at *
  go_loopw [5, 13] (fun s i wr => ∃ r : Nat, r ≤ ns.length ∧ i = .int .i64 r ∧ s = .int .i64 (itB ls r (2 ^ k) : Nat) ∧ Ext w1 wr) (fun _ i _ => ns.length - (intOf i).toNat)
  case atStart => exact ⟨0, by omega, rfl, rfl, Ext.refl _⟩
  case round =>
    obtain ⟨r, hr, rfl, rfl, hxr⟩ := hrel
    obtain ⟨wo, rfl⟩ : ∃ x : World, x = wr := ⟨_, rfl⟩
    have hx0 := hx.trans hxr
    have k1 := hxr.lit k1
    by_cases hlt : r < ns.length
    · go_wp2_with fail
      go_loopw [5, 18] (fun s i wr => ∃ j : Nat, j ≤ ls.length ∧ i = .int .i64 j ∧ s = .int .i64 ((ls.take j).foldl stepB (itB ls r (2 ^ k)) : Nat) ∧ Ext wo wr) (fun _ i _ => ls.length - (intOf i).toNat)
      case atStart => exact ⟨0, by omega, rfl, rfl, Ext.refl _⟩
      case round =>
        obtain ⟨j, hj, rfl, rfl, hxj⟩ := hrel
        obtain ⟨w3, rfl⟩ : ∃ x : World, x = wr := ⟨_, rfl⟩
        have hx3 := hx0.trans hxj
        have k1 := hxj.lit k1
        by_cases hjl : j < ls.length
        · obtain ⟨b, off, rfl, hbb, c1, c2⟩ := (g.ext hx3).gp_ hjl
          have hmem : gp ls j ∈ ls := by rw [gp_nat ls j hjl]; exact List.getElem_mem hjl
          obtain ⟨f, t, hft, hf, ht⟩ := Hv.out _ hmem
          have hnext : (ls.take (j + 1)).foldl stepB (itB ls r (2 ^ k)) = stepB ((ls.take j).foldl stepB (itB ls r (2 ^ k))) ((f : Int), (t : Int)) := by
            rw [List.take_succ_eq_append_getElem hjl, List.foldl_append, ← gp_nat ls j hjl, hft]; rfl
          have Hnext := Lib.hid hnext
          have hbd := pfold_bd (n := ns.length) (a := k) (r := r) (j := j) Hv.out Hk.out
          have hbd2 : (ls.take j).foldl stepB (itB ls r (2 ^ k)) < 2 ^ 62 := Nat.lt_of_lt_of_le hbd (Nat.pow_le_pow_right (by omega) (by omega))
          have Hbd := Lib.hid hbd2
          rw [hft] at c1 c2
          clear hnext hbd hbd2 hmem hft
          generalize (ls.take j).foldl stepB (itB ls r (2 ^ k)) = S at *
          have b1 := bit_w S f (by have := Hbd.out; omega) (by omega)
          have b2 := bit_w S t (by have := Hbd.out; omega) (by omega)
          have o1 := or_w S f t Hbd.out (by omega) (by omega)
          have hs0 : w.heap.size < w3.heap.size := block_lt_of_cell k1
          have hq : Ext w3 (w3.alloc (.cells #[.int .i64 (f : Int), .int .i64 (t : Int)] 65)) := (by repeat first | exact Ext.refl _ | assumption | refine Ext.drew ?_ | refine Ext.alloc ?_ _ | refine Ext.setCell ?_ (by simp) | refine Ext.setCell ?_ (by simp; omega) | refine Ext.trans ?_ (by assumption))
          have d0 := cell_regrown (w := w3.alloc (.cells #[.int .i64 (f : Int), .int .i64 (t : Int)] 65)) (a := ⟨w3.heap.size, 0, none⟩) (v := .int .i64 (f : Int)) (by go_simp)
          have d1 := cell_regrown (w := w3.alloc (.cells #[.int .i64 (f : Int), .int .i64 (t : Int)] 65)) (a := ⟨w3.heap.size, 1, none⟩) (v := .int .i64 (t : Int)) (by go_simp)
          by_cases q1 : S.testBit f = true
          · rw [if_pos q1] at b1
            go_wp2
            refine rx_open [(true, 0, some 36, 32), (true, 0, some 37, 128), (true, 2, some 38, 137438953472), (true, 4, some 39, 274877906944), (true, 0, some 40, 128), (true, 16, some 41, 1099511627776), (true, 32, some 42, 2199023255552), (true, 72, some 43, 4947802324992), (true, 129, some 44, 8864812498944), (true, 511, some 5, 17592186044416)] 0 10 mixd rfl (by kernel_rfl) (by kernel_rfl) (by kernel_rfl) ?_
            refine rx_run (run := [0, 1, 2, 3, 4, 5, 6, 7, 8, 9]) (k := 0) (m' := 1023) rfl (by kernel_rfl) (by kernel_rfl) (by kernel_rfl) (fm_cons rfl <| fm_cons rfl <| fm_cons rfl <| fm_cons rfl <| fm_cons rfl <| fm_cons rfl <| fm_cons rfl <| fm_cons rfl <| fm_cons rfl <| fm_cons rfl <| List.filterMap_nil) (by repeat first | exact Ext.refl _ | assumption | refine Ext.drew ?_ | refine Ext.alloc ?_ _ | refine Ext.setCell ?_ (by simp) | refine Ext.setCell ?_ (by simp; omega) | refine Ext.trans ?_ (by assumption)) ?_
            repeat (go_big_quiet_step ((fail)))
            refine wpQuiet_nil ?_
            refine rx_end (by kernel_rfl) ?_
            try rw [o1]
            go_wp2
            go_roundw
            case rel => (repeat apply Exists.intro); exact ⟨⟨j + 1, by omega, by go_num, by rw [Hnext.out]; unfold stepB; simp [*], hxj.trans (by repeat first | exact Ext.refl _ | assumption | refine Ext.drew ?_ | refine Ext.alloc ?_ _ | refine Ext.setCell ?_ (by simp) | refine Ext.setCell ?_ (by simp; omega) | refine Ext.trans ?_ (by assumption))⟩, rfl⟩
            case measure => simp [intOf]; omega
          · rw [if_neg q1] at b1
            by_cases q2 : S.testBit t = true
            · rw [if_pos q2] at b2
              go_wp2
              refine rx_open [(true, 0, some 36, 32), (true, 0, some 37, 128), (true, 2, some 38, 137438953472), (true, 4, some 39, 274877906944), (true, 0, some 40, 128), (true, 16, some 41, 1099511627776), (true, 32, some 42, 2199023255552), (true, 72, some 43, 4947802324992), (true, 129, some 44, 8864812498944), (true, 511, some 5, 17592186044416)] 0 10 mixd rfl (by kernel_rfl) (by kernel_rfl) (by kernel_rfl) ?_
              refine rx_run (run := [0, 1, 2, 3, 4, 5, 6, 7, 8, 9]) (k := 0) (m' := 1023) rfl (by kernel_rfl) (by kernel_rfl) (by kernel_rfl) (fm_cons rfl <| fm_cons rfl <| fm_cons rfl <| fm_cons rfl <| fm_cons rfl <| fm_cons rfl <| fm_cons rfl <| fm_cons rfl <| fm_cons rfl <| fm_cons rfl <| List.filterMap_nil) (by repeat first | exact Ext.refl _ | assumption | refine Ext.drew ?_ | refine Ext.alloc ?_ _ | refine Ext.setCell ?_ (by simp) | refine Ext.setCell ?_ (by simp; omega) | refine Ext.trans ?_ (by assumption)) ?_
              repeat (go_big_quiet_step ((fail)))
              refine wpQuiet_nil ?_
              refine rx_end (by kernel_rfl) ?_
              try rw [o1]
              go_wp2
              go_roundw
              case rel => (repeat apply Exists.intro); exact ⟨⟨j + 1, by omega, by go_num, by rw [Hnext.out]; unfold stepB; simp [*], hxj.trans (by repeat first | exact Ext.refl _ | assumption | refine Ext.drew ?_ | refine Ext.alloc ?_ _ | refine Ext.setCell ?_ (by simp) | refine Ext.setCell ?_ (by simp; omega) | refine Ext.trans ?_ (by assumption))⟩, rfl⟩
              case measure => simp [intOf]; omega
            · rw [if_neg q2] at b2
              go_wp2
              go_roundw
              case rel => exact ⟨j + 1, by omega, by go_num, by rw [Hnext.out]; unfold stepB; simp [*], hxj.trans (by repeat first | exact Ext.refl _ | assumption | refine Ext.drew ?_ | refine Ext.alloc ?_ _ | refine Ext.setCell ?_ (by simp) | refine Ext.setCell ?_ (by simp; omega) | refine Ext.trans ?_ (by assumption))⟩
              case measure => simp [intOf]; omega
        · go_wp2
          go_roundw
          case rel =>
            refine ⟨r + 1, by omega, by go_num, ?_, hxr.trans hxj⟩
            rw [List.take_of_length_le (by omega)]; rfl
          case measure => simp [intOf]; omega
    · obtain rfl : r = ns.length := by omega
      go_wp2_with fail
      refine (membersOf_c (partS ns.length ls k) ns.length (by omega) (partS_bd Hv.out Hk.out _) _).mono ?_
      rintro e w2 ⟨v, rfl, hv, hx2⟩
      go_wp2
      go_ret
      have hxz := hx0.trans hx2
      refine ⟨v, rfl, ?_, hxz⟩
      have e : bitsL (partS ns.length ls k) ns.length = partL ns.length ls k := partL_bits Hv.out Hk.out
      rw [e] at hv
      exact hv.more hx0.size
end Go.Proofs.Ytpainmnekgnpeaa
