import Derived.Test.YtpainmnekgnpeaaB17
namespace Go.Proofs.Ytpainmnekgnpeaa
open Go.RowKit Go.Sort Go.BigFrame

theorem infoA : (Try.prog.info? 76).map (fun i => (i.zero, i.size, i.bytes)) = some (some (.agg #[.int .i64 0, .int .i64 0]), 2, 16) := by kernel_rfl

set_option maxRecDepth 100000 in
set_option maxHeartbeats 2000000 in
theorem joined_c (B : Option Addr) (d n : Nat) (ls : List P2) (w : World) (hn : n ≤ 60) (hm : ls.length ≤ 60) (hv : Vd n ls) (hn0 : 0 < n) (g : Pr w w.heap.size B ls) :
    Calls Try.prog 84 #[.slice B ls.length d] w fun e w' => e = .returned (.int .i64 ((itB ls ls.length (2 ^ 0) : Nat) : Int)) ∧ Ext w w' := by
  have Hv := Lib.hid hv
  have H1 : Hid ((2 : Nat) ^ 0 = 1) := Lib.hid rfl
  clear hv
  go_enter Try.func84, Try.ntmps84
  go_wp2_with fail
  go_loopw [3, 8] (fun s i wr => ∃ r : Nat, r ≤ ls.length ∧ i = .int .i64 r ∧ s = .int .i64 (itB ls r (2 ^ 0) : Nat) ∧ Ext w wr) (fun _ i _ => ls.length - (intOf i).toNat)
  case atStart => exact ⟨0, by omega, rfl, rfl, Ext.refl _⟩
  case round =>
    obtain ⟨r, hr, rfl, rfl, hxr⟩ := hrel
    obtain ⟨wo, rfl⟩ : ∃ x : World, x = wr := ⟨_, rfl⟩
    by_cases hlt : r < ls.length
    · go_wp2_with fail
      go_loopw [3, 5, 12] (fun s _ i wr => ∃ j : Nat, j ≤ ls.length ∧ i = .int .i64 j ∧ s = .int .i64 ((ls.take j).foldl stepB (itB ls r (2 ^ 0)) : Nat) ∧ Ext wo wr) (fun _ _ i _ => ls.length - (intOf i).toNat)
      case atStart => exact ⟨0, by omega, rfl, rfl, Ext.refl _⟩
      case round =>
        obtain ⟨j, hj, rfl, rfl, hxj⟩ := hrel
        obtain ⟨w3, rfl⟩ : ∃ x : World, x = wr := ⟨_, rfl⟩
        have hx3 := hxr.trans hxj
        by_cases hjl : j < ls.length
        · obtain ⟨b, off, rfl, hbb, c1, c2⟩ := (g.ext hx3).gp_ hjl
          have hmem : gp ls j ∈ ls := by rw [gp_nat ls j hjl]; exact List.getElem_mem hjl
          obtain ⟨f, t, hft, hf, ht⟩ := Hv.out _ hmem
          have hnext : (ls.take (j + 1)).foldl stepB (itB ls r (2 ^ 0)) = stepB ((ls.take j).foldl stepB (itB ls r (2 ^ 0))) ((f : Int), (t : Int)) := by
            rw [List.take_succ_eq_append_getElem hjl, List.foldl_append, ← gp_nat ls j hjl, hft]; rfl
          have Hnext := Lib.hid hnext
          have hbd := pfold_bd (n := n) (a := 0) (r := r) (j := j) Hv.out hn0
          have hbd2 : (ls.take j).foldl stepB (itB ls r (2 ^ 0)) < 2 ^ 62 := Nat.lt_of_lt_of_le hbd (Nat.pow_le_pow_right (by omega) (by omega))
          have Hbd := Lib.hid hbd2
          rw [hft] at c1 c2
          clear hnext hbd hbd2 hmem hft
          generalize (ls.take j).foldl stepB (itB ls r (2 ^ 0)) = S at *
          have b1 := bit_w S f (by have := Hbd.out; omega) (by omega)
          have b2 := bit_w S t (by have := Hbd.out; omega) (by omega)
          have o1 := or_w S f t Hbd.out (by omega) (by omega)
          have hq : Ext w3 (w3.alloc (.cells #[.int .i64 (f : Int), .int .i64 (t : Int)] 76)) := (by repeat first | exact Ext.refl _ | assumption | refine Ext.drew ?_ | refine Ext.alloc ?_ _ | refine Ext.setCell ?_ (by simp) | refine Ext.setCell ?_ (by simp; omega) | refine Ext.trans ?_ (by assumption))
          have d0 := cell_regrown (w := w3.alloc (.cells #[.int .i64 (f : Int), .int .i64 (t : Int)] 76)) (a := ⟨w3.heap.size, 0, none⟩) (v := .int .i64 (f : Int)) (by go_simp)
          have d1 := cell_regrown (w := w3.alloc (.cells #[.int .i64 (f : Int), .int .i64 (t : Int)] 76)) (a := ⟨w3.heap.size, 1, none⟩) (v := .int .i64 (t : Int)) (by go_simp)
          by_cases q1 : S.testBit f = true
          · rw [if_pos q1] at b1
            go_wp2
            refine rx_open [(true, 0, some 30, 8), (true, 0, some 31, 32), (true, 2, some 32, 2147483648), (true, 4, some 33, 4294967296), (true, 0, some 34, 32), (true, 16, some 35, 17179869184), (true, 32, some 36, 34359738368), (true, 72, some 37, 77309411328), (true, 129, some 38, 138512695296), (true, 511, some 3, 274877906944)] 0 10 mixd rfl (by kernel_rfl) (by kernel_rfl) (by kernel_rfl) ?_
            refine rx_run (run := [0, 1, 2, 3, 4, 5, 6, 7, 8, 9]) (k := 0) (m' := 1023) rfl (by kernel_rfl) (by kernel_rfl) (by kernel_rfl) (fm_cons rfl <| fm_cons rfl <| fm_cons rfl <| fm_cons rfl <| fm_cons rfl <| fm_cons rfl <| fm_cons rfl <| fm_cons rfl <| fm_cons rfl <| fm_cons rfl <| List.filterMap_nil) (by repeat first | exact Ext.refl _ | assumption | refine Ext.drew ?_ | refine Ext.alloc ?_ _ | refine Ext.setCell ?_ (by simp) | refine Ext.setCell ?_ (by simp; omega) | refine Ext.trans ?_ (by assumption)) ?_
            repeat (go_big_quiet_step ((fail)))
            refine wpQuiet_nil ?_
            refine rx_end (by kernel_rfl) ?_
            try rw [o1]
            go_wp2
            go_roundw
            case rel => exact ⟨j + 1, by omega, by go_num, by rw [Hnext.out]; unfold stepB; simp [*], hxj.trans (by repeat first | exact Ext.refl _ | assumption | refine Ext.drew ?_ | refine Ext.alloc ?_ _ | refine Ext.setCell ?_ (by simp) | refine Ext.setCell ?_ (by simp; omega) | refine Ext.trans ?_ (by assumption))⟩
            case measure => simp [intOf]; omega
          · rw [if_neg q1] at b1
            by_cases q2 : S.testBit t = true
            · rw [if_pos q2] at b2
              go_wp2
              refine rx_open [(true, 0, some 30, 8), (true, 0, some 31, 32), (true, 2, some 32, 2147483648), (true, 4, some 33, 4294967296), (true, 0, some 34, 32), (true, 16, some 35, 17179869184), (true, 32, some 36, 34359738368), (true, 72, some 37, 77309411328), (true, 129, some 38, 138512695296), (true, 511, some 3, 274877906944)] 0 10 mixd rfl (by kernel_rfl) (by kernel_rfl) (by kernel_rfl) ?_
              refine rx_run (run := [0, 1, 2, 3, 4, 5, 6, 7, 8, 9]) (k := 0) (m' := 1023) rfl (by kernel_rfl) (by kernel_rfl) (by kernel_rfl) (fm_cons rfl <| fm_cons rfl <| fm_cons rfl <| fm_cons rfl <| fm_cons rfl <| fm_cons rfl <| fm_cons rfl <| fm_cons rfl <| fm_cons rfl <| fm_cons rfl <| List.filterMap_nil) (by repeat first | exact Ext.refl _ | assumption | refine Ext.drew ?_ | refine Ext.alloc ?_ _ | refine Ext.setCell ?_ (by simp) | refine Ext.setCell ?_ (by simp; omega) | refine Ext.trans ?_ (by assumption)) ?_
              repeat (go_big_quiet_step ((fail)))
              refine wpQuiet_nil ?_
              refine rx_end (by kernel_rfl) ?_
              try rw [o1]
              go_wp2
              go_roundw
              case rel => exact ⟨j + 1, by omega, by go_num, by rw [Hnext.out]; unfold stepB; simp [*], hxj.trans (by repeat first | exact Ext.refl _ | assumption | refine Ext.drew ?_ | refine Ext.alloc ?_ _ | refine Ext.setCell ?_ (by simp) | refine Ext.setCell ?_ (by simp; omega) | refine Ext.trans ?_ (by assumption))⟩
              case measure => simp [intOf]; omega
            · rw [if_neg q2] at b2
              go_wp2
              go_roundw
              case rel => exact ⟨j + 1, by omega, by go_num, by rw [Hnext.out]; unfold stepB; simp [*], hxj.trans (by repeat first | exact Ext.refl _ | assumption | refine Ext.drew ?_ | refine Ext.alloc ?_ _ | refine Ext.setCell ?_ (by simp) | refine Ext.setCell ?_ (by simp; omega) | refine Ext.trans ?_ (by assumption))⟩
              case measure => simp [intOf]; omega
        · go_wp2
          go_roundw
          case rel =>
            refine ⟨r + 1, by omega, by go_num, ?_, hxr.trans hxj⟩
            rw [List.take_of_length_le (by omega)]; rfl
          case measure => simp [intOf]; omega
    · obtain rfl : r = ls.length := by omega
      go_wp2
      go_ret
      exact ⟨rfl, hxr⟩

/-- the pairs that a list of leads names -/
def spairs (ls : List P2) (xs : List Int) : List P2 := xs.map (fun k => gp ls k)
theorem spairs_len (ls : List P2) (xs : List Int) : (spairs ls xs).length = xs.length := by simp [spairs]
theorem spairs_gp {ls : List P2} {xs : List Int} {j : Nat} (h : j < xs.length) : gp (spairs ls xs) j = gp ls (gi xs j) := by
  rw [gp_nat _ j (by rw [spairs_len]; exact h), gi_nat xs j h]; simp [spairs]
theorem spairs_vd {ns ls : List P2} {xs : List Int} (hW : WOk ns ls) (h : ris xs 0 (ls.length - 1) = true) : Vd ns.length (spairs ls xs) := by
  intro l hl
  obtain ⟨k, hk, rfl⟩ := List.mem_map.1 hl
  obtain ⟨i, hi, rfl⟩ := List.getElem_of_mem hk
  have hb := ris_bd h hi
  rw [gi_nat xs i hi] at hb
  generalize xs[i] = x at *
  obtain ⟨y, rfl⟩ := Int.eq_ofNat_of_zero_le hb.1
  exact vd_of_ok hW _ (by rw [gp_nat ls y (by omega)]; exact List.getElem_mem _)
def vIsSpanning (ns ls : List P2) (xs : List Int) : Bool :=
  whole ns ls && ris xs 0 (ls.length - 1) && decide ((xs.length : Int) = (ns.length : Int) - 1) && (List.range xs.length).all (fun j => joins ns.length (spairs ls xs) j)
theorem vIs_yes {ns ls : List P2} {xs : List Int} (h1 : whole ns ls = true) (h2 : ris xs 0 (ls.length - 1) = true) (h3 : (xs.length : Int) = (ns.length : Int) - 1) :
    (vIsSpanning ns ls xs = true ↔ ∀ j, j < xs.length → joins ns.length (spairs ls xs) j = true) ∧ (vIsSpanning ns ls xs = true ↔ itB (spairs ls xs) (spairs ls xs).length (2 ^ 0) = 2 ^ ns.length - 1) := by
  obtain ⟨hW, -⟩ := whole_ok h1
  have hlo := hW.lo
  have e : vIsSpanning ns ls xs = true ↔ ∀ j, j < xs.length → joins ns.length (spairs ls xs) j = true := by
    unfold vIsSpanning
    simp [h1, h2, h3]
  refine ⟨e, ?_⟩
  have hv := spairs_vd hW h2
  have hl := spairs_len ls xs
  have ht := tree_iff hv (by omega) (by rw [hl]; omega)
  rw [hl] at ht
  rw [e, ht, hl, show xs.length = ns.length - 1 by omega]
  exact (itB_all hv (by omega)).symm
end Go.Proofs.Ytpainmnekgnpeaa
