import Derived.Test.YtdhmjhoaegdfjaaGreatG2
import Derived.Test.YtdhmjhoaegdfjaaGreatG1
import Derived.Test.YtdhmjhoaegdfjaaGreatG5
import Derived.Deep.DeepCutAuto
import Derived.Test.YtdhmjhoaegdfjaaGreatG4
namespace Go.Proofs.YtdhmjhoaegdfjaaGreat
open Go.RowKit Go.Sort Go.BigFrame

theorem infoI2 : (Tryz.prog.info? 3).map (fun i => (i.zero, i.size, i.bytes)) = some (some (.int .i64 0), 1, 8) := by kernel_rfl
/-- as the walk writes it -/
theorem bit_w (S k : Nat) (hS : S < 2 ^ 63) (hk : k ≤ 64) : bits .and .i64 ((S : Int) / 2 ^ k) 1 = if S.testBit k = true then 1 else 0 := by
  have h := bit_is S k hS hk
  rw [shr_nat S k hk, Nat.shiftRight_eq_div_pow] at h
  rw [← h]
  unfold and'
  norm_cast
/-- the bits below k that stand -/
def bitsL (S k : Nat) : List Int := ((List.range k).filter (S.testBit ·)).map (fun i : Nat => (i : Int))
theorem bitsL_succ (S k : Nat) : bitsL S (k + 1) = if S.testBit k = true then bitsL S k ++ [(k : Int)] else bitsL S k := by
  unfold bitsL
  rw [List.range_succ, List.filter_append]
  split
  · rename_i h; simp [h]
  · rename_i h; simp [h]
theorem bitsL_len (S k : Nat) : (bitsL S k).length ≤ k := by
  unfold bitsL
  rw [List.length_map]
  have := List.length_filter_le (S.testBit ·) (List.range k)
  rwa [List.length_range] at this

set_option maxRecDepth 100000 in
set_option maxHeartbeats 1000000 in
theorem membersOf_c (S n : Nat) (hn : n ≤ 62) (hS : S < 2 ^ n) (w : World) :
    Calls Tryz.prog 45 #[.int .i64 (S : Int)] w fun e w' => ∃ v, e = .returned v ∧ OwI w' w.heap.size v (bitsL S n) ∧ Ext w w' := by
  have hS62 : S < 2 ^ 63 := Nat.lt_of_lt_of_le hS (Nat.pow_le_pow_right (by omega) (by omega))
  have HS := Lib.hid hS62
  have HSn := Lib.hid hS
  clear hS hS62
  go_enter Tryz.func45, Tryz.ntmps45
  go_wp2
  go_loopw [3, 4] (fun v i wr => ∃ k : Nat, k ≤ n ∧ i = .int .i64 k ∧ OwI wr w.heap.size v (bitsL S k) ∧ Ext w wr) (fun _ i _ => n - (intOf i).toNat)
  case atStart => exact ⟨0, by omega, rfl, OwI.nil _ _, Ext.refl _⟩
  case round =>
    obtain ⟨k, hk, rfl, hv, hx⟩ := hrel
    by_cases hz : S / 2 ^ k = 0
    · have e0 : (S : Int) / 2 ^ k = 0 := by norm_cast
      go_wp2
      go_ret
      refine ⟨_, rfl, ?_, hx⟩
      have h2 : S < 2 ^ k := by
        exact (Nat.div_eq_zero_iff_lt (Nat.two_pow_pos k)).1 hz
      have : bitsL S k = bitsL S n := by unfold bitsL; rw [filt_bits h2 HSn.out]
      rwa [this] at hv
    · have hlt : k < n := by
        rcases Nat.lt_or_ge k n with h | h
        · exact h
        · exfalso
          apply hz
          exact Nat.div_eq_of_lt (Nat.lt_of_lt_of_le HSn.out (Nat.pow_le_pow_right (by omega) h))
      have hp : (0 : Int) < (S : Int) / 2 ^ k := by
        have : 0 < S / 2 ^ k := by generalize S / 2 ^ k = x at *; omega
        norm_cast
      have hb := bit_w S k HS.out (by omega)
      have hs := bitsL_succ S k
      have hln := bitsL_len S k
      by_cases ht : S.testBit k = true
      · rw [if_pos ht] at hb hs
        have Hs := Lib.hid hs
        clear hs
        have hsz := hx.size
        go_wp2_with (at_builtin; refine ap_int Tryz.underlying28 infoI2 _ _ rfl rfl rfl (hv.ext ((Ext.refl wr).alloc _)) (g := wr.heap.size) (y := k) rfl (by go_simp) (by omega) (by simp; omega) ?_)
        intro v' w' h1 h2 h3
        go_wp2
        go_roundw
        case rel => exact ⟨k + 1, by omega, by go_num, by rw [Hs.out]; exact h1, h3 _ (hx.alloc _) (Nat.le_refl _)⟩
        case measure => simp [intOf]; omega
      · rw [if_neg ht] at hb hs
        have Hs := Lib.hid hs
        clear hs
        go_wp2
        go_roundw
        case rel => exact ⟨k + 1, by omega, by go_num, by rw [Hs.out]; exact hv, hx⟩
        case measure => simp [intOf]; omega
end Go.Proofs.YtdhmjhoaegdfjaaGreat

namespace Go.Proofs.YtdhmjhoaegdfjaaGreat
open Go.RowKit Go.Sort Go.BigFrame

theorem pfold_bd {n a r j : Nat} {ls : List P2} (hv : Vd n ls) (ha : a < n) : (ls.take j).foldl stepB (itB ls r (2 ^ a)) < 2 ^ n := by
  apply Nat.lt_pow_two_of_testBit
  intro i hi
  rw [Bool.eq_false_iff]
  intro h
  have h0 := itB_sound hv (2 ^ a) (a := a) (fun i h => by rw [Nat.testBit_two_pow, decide_eq_true_eq] at h; subst h; exact .refl) r
  have := (roundB_sound hv (ls.take j) _ (fun l hl => List.mem_of_mem_take hl) h0 i h).lt hv ha
  omega

theorem pow_w (k : Nat) (hk : k ≤ 62) : wrap64 (2 ^ k) = ((2 ^ k : Nat) : Int) := by
  have h := shl_nat k hk
  unfold shl' at h
  rw [Nat.min_eq_left (by omega), Int.one_mul, IntKind.wrap_i64] at h
  unfold wrap64
  exact h
theorem or_w (S f t : Nat) (hS : S < 2 ^ 62) (hf : f < 62) (ht : t < 62) : bits .or .i64 (S : Int) (bits .or .i64 (wrap64 (2 ^ f)) (wrap64 (2 ^ t))) = ((S ||| (2 ^ f ||| 2 ^ t) : Nat) : Int) := by
  have h := or3_nat S f t hS hf ht
  rw [shl_nat f (by omega), shl_nat t (by omega)] at h
  rw [pow_w f (by omega), pow_w t (by omega)]
  exact h

set_option maxRecDepth 100000 in
set_option maxHeartbeats 2000000 in
theorem partOf_c (A B : Option Addr) (c d : Nat) (ns ls : List P2) (k : Nat) (w : World) (hn : ns.length ≤ 12) (hm : ls.length ≤ 20) (hv : Vd ns.length ls) (hk : k < ns.length)
    (g : Pr w w.heap.size B ls) :
    Calls Tryz.prog 58 #[.agg #[.slice A ns.length c, .slice B ls.length d], .int .i64 (k : Int)] w fun e w' => ∃ v, e = .returned v ∧ OwI w' w.heap.size v (partL ns.length ls k) ∧ Ext w w' := by
  have Hv := Lib.hid hv
  have Hk := Lib.hid hk
  clear hv
  go_enter Tryz.func58, Tryz.ntmps58
  go_wp2_with fail
  have k1 : (w.alloc (.cells #[.slice A ns.length c, .slice B ls.length d] 27)).cell? ⟨w.heap.size, 1, none⟩ = some (.slice B ls.length d) := by go_simp
  have hx : Ext w (w.alloc (.cells #[.slice A ns.length c, .slice B ls.length d] 27)) := (by repeat first | exact Ext.refl _ | assumption | refine Ext.drew ?_ | refine Ext.alloc ?_ _ | refine Ext.setCell ?_ (by simp) | refine Ext.setCell ?_ (by simp; omega) | refine Ext.trans ?_ (by assumption))
  rw [pow_w k (by omega)]
  generalize (w.alloc (.cells #[.slice A ns.length c, .slice B ls.length d] 27)) = w1 at *
  go_loopw [5, 13] (fun s i wr => ∃ r : Nat, r ≤ ns.length ∧ i = .int .i64 r ∧ s = .int .i64 (itB ls r (2 ^ k) : Nat) ∧ Ext w1 wr) (fun _ i _ => ns.length - (intOf i).toNat)
  case atStart => exact ⟨0, by omega, rfl, rfl, Ext.refl _⟩
  case round =>
    obtain ⟨r, hr, rfl, rfl, hxr⟩ := hrel
    obtain ⟨wo, rfl⟩ : ∃ x : World, x = wr := ⟨_, rfl⟩
    have hx0 := hx.trans hxr
    have k1 := hxr.lit k1
    by_cases hlt : r < ns.length
    · go_wp2_with fail
      go_loopw [5, 18] (fun s i wr => ∃ j : Nat, j ≤ ls.length ∧ i = .int .i64 j ∧ s = .int .i64 ((ls.take j).foldl stepB (itB ls r (2 ^ k)) : Nat) ∧ Ext wo wr) (fun _ i _ => ls.length - (intOf i).toNat)
      case atStart => exact ⟨0, by omega, rfl, rfl, Ext.refl _⟩
      case round =>
        obtain ⟨j, hj, rfl, rfl, hxj⟩ := hrel
        obtain ⟨w3, rfl⟩ : ∃ x : World, x = wr := ⟨_, rfl⟩
        have hx3 := hx0.trans hxj
        have k1 := hxj.lit k1
        by_cases hjl : j < ls.length
        · obtain ⟨b, off, rfl, hbb, c1, c2⟩ := (g.ext hx3).gp_ hjl
          have hmem : gp ls j ∈ ls := by rw [gp_nat ls j hjl]; exact List.getElem_mem hjl
          obtain ⟨f, t, hft, hf, ht⟩ := Hv.out _ hmem
          have hnext : (ls.take (j + 1)).foldl stepB (itB ls r (2 ^ k)) = stepB ((ls.take j).foldl stepB (itB ls r (2 ^ k))) ((f : Int), (t : Int)) := by
            rw [List.take_succ_eq_append_getElem hjl, List.foldl_append, ← gp_nat ls j hjl, hft]; rfl
          have Hnext := Lib.hid hnext
          have hbd := pfold_bd (n := ns.length) (a := k) (r := r) (j := j) Hv.out Hk.out
          have hbd2 : (ls.take j).foldl stepB (itB ls r (2 ^ k)) < 2 ^ 62 := Nat.lt_of_lt_of_le hbd (Nat.pow_le_pow_right (by omega) (by omega))
          have Hbd := Lib.hid hbd2
          rw [hft] at c1 c2
          clear hnext hbd hbd2 hmem hft
          generalize (ls.take j).foldl stepB (itB ls r (2 ^ k)) = S at *
          have b1 := bit_w S f (by have := Hbd.out; omega) (by omega)
          have b2 := bit_w S t (by have := Hbd.out; omega) (by omega)
          have o1 := or_w S f t Hbd.out (by omega) (by omega)
          have hs0 : w.heap.size < w3.heap.size := block_lt_of_cell k1
          have hq : Ext w3 (w3.alloc (.cells #[.int .i64 (f : Int), .int .i64 (t : Int)] 81)) := (by repeat first | exact Ext.refl _ | assumption | refine Ext.drew ?_ | refine Ext.alloc ?_ _ | refine Ext.setCell ?_ (by simp) | refine Ext.setCell ?_ (by simp; omega) | refine Ext.trans ?_ (by assumption))
          have d0 := cell_regrown (w := w3.alloc (.cells #[.int .i64 (f : Int), .int .i64 (t : Int)] 81)) (a := ⟨w3.heap.size, 0, none⟩) (v := .int .i64 (f : Int)) (by go_simp)
          have d1 := cell_regrown (w := w3.alloc (.cells #[.int .i64 (f : Int), .int .i64 (t : Int)] 81)) (a := ⟨w3.heap.size, 1, none⟩) (v := .int .i64 (t : Int)) (by go_simp)
          by_cases q1 : S.testBit f = true
          · rw [if_pos q1] at b1
            go_wp2
            refine rx_open [(true, 0, some 36, 32), (true, 0, some 37, 128), (true, 2, some 38, 137438953472), (true, 4, some 39, 274877906944), (true, 0, some 40, 128), (true, 16, some 41, 1099511627776), (true, 32, some 42, 2199023255552), (true, 72, some 43, 4947802324992), (true, 129, some 44, 8864812498944), (true, 511, some 5, 17592186044416)] 0 10 mixd rfl (by kernel_rfl) (by kernel_rfl) (by kernel_rfl) ?_
            refine rx_run (run := [0, 1, 2, 3, 4, 5, 6, 7, 8, 9]) (k := 0) (m' := 1023) rfl (by kernel_rfl) (by kernel_rfl) (by kernel_rfl) (fm_cons rfl <| fm_cons rfl <| fm_cons rfl <| fm_cons rfl <| fm_cons rfl <| fm_cons rfl <| fm_cons rfl <| fm_cons rfl <| fm_cons rfl <| fm_cons rfl <| List.filterMap_nil) (by repeat first | exact Ext.refl _ | assumption | refine Ext.drew ?_ | refine Ext.alloc ?_ _ | refine Ext.setCell ?_ (by simp) | refine Ext.setCell ?_ (by simp; omega) | refine Ext.trans ?_ (by assumption)) ?_
            repeat (go_big_quiet_step ((fail)))
            refine wpQuiet_nil ?_
            refine rx_end (by kernel_rfl) ?_
            try rw [o1]
            go_wp2
            go_roundw
            case rel => (repeat apply Exists.intro); exact ⟨⟨j + 1, by omega, by go_num, by rw [Hnext.out]; unfold stepB; simp [*], hxj.trans (by repeat first | exact Ext.refl _ | assumption | refine Ext.drew ?_ | refine Ext.alloc ?_ _ | refine Ext.setCell ?_ (by simp) | refine Ext.setCell ?_ (by simp; omega) | refine Ext.trans ?_ (by assumption))⟩, rfl⟩
            case measure => simp [intOf]; omega
          · rw [if_neg q1] at b1
            by_cases q2 : S.testBit t = true
            · rw [if_pos q2] at b2
              go_wp2
              refine rx_open [(true, 0, some 36, 32), (true, 0, some 37, 128), (true, 2, some 38, 137438953472), (true, 4, some 39, 274877906944), (true, 0, some 40, 128), (true, 16, some 41, 1099511627776), (true, 32, some 42, 2199023255552), (true, 72, some 43, 4947802324992), (true, 129, some 44, 8864812498944), (true, 511, some 5, 17592186044416)] 0 10 mixd rfl (by kernel_rfl) (by kernel_rfl) (by kernel_rfl) ?_
              refine rx_run (run := [0, 1, 2, 3, 4, 5, 6, 7, 8, 9]) (k := 0) (m' := 1023) rfl (by kernel_rfl) (by kernel_rfl) (by kernel_rfl) (fm_cons rfl <| fm_cons rfl <| fm_cons rfl <| fm_cons rfl <| fm_cons rfl <| fm_cons rfl <| fm_cons rfl <| fm_cons rfl <| fm_cons rfl <| fm_cons rfl <| List.filterMap_nil) (by repeat first | exact Ext.refl _ | assumption | refine Ext.drew ?_ | refine Ext.alloc ?_ _ | refine Ext.setCell ?_ (by simp) | refine Ext.setCell ?_ (by simp; omega) | refine Ext.trans ?_ (by assumption)) ?_
              repeat (go_big_quiet_step ((fail)))
              refine wpQuiet_nil ?_
              refine rx_end (by kernel_rfl) ?_
              try rw [o1]
              go_wp2
              go_roundw
              case rel => (repeat apply Exists.intro); exact ⟨⟨j + 1, by omega, by go_num, by rw [Hnext.out]; unfold stepB; simp [*], hxj.trans (by repeat first | exact Ext.refl _ | assumption | refine Ext.drew ?_ | refine Ext.alloc ?_ _ | refine Ext.setCell ?_ (by simp) | refine Ext.setCell ?_ (by simp; omega) | refine Ext.trans ?_ (by assumption))⟩, rfl⟩
              case measure => simp [intOf]; omega
            · rw [if_neg q2] at b2
              go_wp2
              go_roundw
              case rel => exact ⟨j + 1, by omega, by go_num, by rw [Hnext.out]; unfold stepB; simp [*], hxj.trans (by repeat first | exact Ext.refl _ | assumption | refine Ext.drew ?_ | refine Ext.alloc ?_ _ | refine Ext.setCell ?_ (by simp) | refine Ext.setCell ?_ (by simp; omega) | refine Ext.trans ?_ (by assumption))⟩
              case measure => simp [intOf]; omega
        · go_wp2
          go_roundw
          case rel =>
            refine ⟨r + 1, by omega, by go_num, ?_, hxr.trans hxj⟩
            rw [List.take_of_length_le (by omega)]; rfl
          case measure => simp [intOf]; omega
    · obtain rfl : r = ns.length := by omega
      go_wp2_with fail
      refine (membersOf_c (partS ns.length ls k) ns.length (by omega) (partS_bd Hv.out Hk.out _) _).mono ?_
      rintro e w2 ⟨v, rfl, hv, hx2⟩
      go_wp2
      go_ret
      have hxz := hx0.trans hx2
      refine ⟨v, rfl, ?_, hxz⟩
      have e : bitsL (partS ns.length ls k) ns.length = partL ns.length ls k := partL_bits Hv.out Hk.out
      rw [e] at hv
      exact hv.more hx0.size
end Go.Proofs.YtdhmjhoaegdfjaaGreat

namespace Go.Proofs.YtdhmjhoaegdfjaaGreat
open Go.RowKit Go.Sort Go.BigFrame

theorem OwI.gi_ {w : World} {B : Nat} {v : Value} {xs : List Int} (h : OwI w B v xs) {j : Nat} (hj : j < xs.length) :
    ∃ g c, v = .slice (some ⟨g, 0, none⟩) xs.length c ∧ xs.length ≤ c ∧ B ≤ g ∧ g < w.heap.size ∧ w.cell? ⟨g, j, none⟩ = some (.int .i64 (gi xs j)) ∧ w.frozen? ⟨g, j, none⟩ = false := by
  rw [gi_nat xs j hj]; exact h.at_ hj
theorem In.gi_ {w : World} {B : Nat} {A : Option Addr} {xs : List Int} (h : In w B A xs) {k : Nat} (hk : k < xs.length) :
    ∃ b off, A = some ⟨b, off, none⟩ ∧ b < B ∧ w.cell? ⟨b, off + k, none⟩ = some (.int .i64 (gi xs k)) := by
  rw [gi_nat xs k hk]; exact h.at_ hk
def upto (F : Int → Int) (L : List Int) (j : Nat) : List Int := (L.take j).map F ++ L.drop j
theorem upto_len (F : Int → Int) (L : List Int) (j : Nat) : (upto F L j).length = L.length := by simp [upto]; omega
theorem upto_zero (F : Int → Int) (L : List Int) : upto F L 0 = L := by simp [upto]
theorem upto_all (F : Int → Int) (L : List Int) {j : Nat} (h : L.length ≤ j) : upto F L j = L.map F := by simp [upto, List.take_of_length_le h, List.drop_of_length_le h]
theorem upto_at (F : Int → Int) (L : List Int) {j : Nat} (h : j < L.length) : gi (upto F L j) j = gi L j := by
  rw [gi_nat _ _ (by rw [upto_len]; exact h), gi_nat _ _ h]
  unfold upto
  rw [List.getElem_append_right (by simp; omega)]
  simp [List.length_take, Nat.min_eq_left (Nat.le_of_lt h)]
theorem upto_set (F : Int → Int) (L : List Int) {j : Nat} (h : j < L.length) : (upto F L j).set j (F (gi L j)) = upto F L (j + 1) := by
  unfold upto
  rw [gi_nat _ _ h, List.set_append_right _ _ (by simp; omega), List.take_succ_eq_append_getElem h, List.map_append, List.append_assoc]
  congr 1
  have : j - (List.map F (List.take j L)).length = 0 := by simp; omega
  rw [this, List.drop_eq_getElem_cons h]
  rfl
theorem upto_same (F : Int → Int) (L : List Int) {j : Nat} (h : j < L.length) (hF : F (gi L j) = gi L j) : upto F L (j + 1) = upto F L j := by
  rw [← upto_set F L h, hF]
  conv => lhs; rw [← upto_at F L h]
  rw [gi_nat _ _ (by rw [upto_len]; exact h), List.set_getElem_self]

theorem OwI.cel {w : World} {B g n c : Nat} {xs : List Int} (h : OwI w B (.slice (some ⟨g, 0, none⟩) n c) xs) {j : Nat} (hj : j < xs.length) : w.cell? ⟨g, j, none⟩ = some (.int .i64 (gi xs j)) ∧ w.frozen? ⟨g, j, none⟩ = false := by
  obtain ⟨g', c', e, _, _, _, h1, h2⟩ := h.gi_ hj
  injection e with e1 e2 e3
  injection e1 with e1
  injection e1 with e1
  subst e1
  exact ⟨h1, h2⟩

set_option maxRecDepth 100000 in
set_option maxHeartbeats 2000000 in
theorem l07Parts_c (A B : Option Addr) (c d : Nat) (ns ls : List P2) (w : World) (hn1 : 1 ≤ ns.length) (hn : ns.length ≤ 12) (hm : ls.length ≤ 20) (hv : Vd ns.length ls)
    (g : Pr w w.heap.size B ls) :
    Calls Tryz.prog 53 #[.agg #[.slice A ns.length c, .slice B ls.length d]] w fun e w' => ∃ v, e = .returned v ∧ OwI w' w.heap.size v (labs ns.length ls) ∧ Ext w w' := by
  have Hv := Lib.hid hv
  clear hv
  go_enter Tryz.func53, Tryz.ntmps53
  go_wp2_with fail
  have k0 : (w.alloc (.cells #[.slice A ns.length c, .slice B ls.length d] 27)).cell? ⟨w.heap.size, 0, none⟩ = some (.slice A ns.length c) := by go_simp
  have k1 : (w.alloc (.cells #[.slice A ns.length c, .slice B ls.length d] 27)).cell? ⟨w.heap.size, 1, none⟩ = some (.slice B ls.length d) := by go_simp
  have hx : Ext w (w.alloc (.cells #[.slice A ns.length c, .slice B ls.length d] 27)) := (by repeat first | exact Ext.refl _ | assumption | refine Ext.drew ?_ | refine Ext.alloc ?_ _ | refine Ext.setCell ?_ (by simp) | refine Ext.setCell ?_ (by simp; omega) | refine Ext.trans ?_ (by assumption))
  have hsz1 : w.heap.size + 1 = (w.alloc (.cells #[.slice A ns.length c, .slice B ls.length d] 27)).heap.size := by simp
  generalize (w.alloc (.cells #[.slice A ns.length c, .slice B ls.length d] 27)) = w1 at *
  rw [hsz1]
  have hv0 : OwI (w1.alloc (.cells #[] 3)) w1.heap.size (.slice (some ⟨w1.heap.size, 0, none⟩) 0 0) (ids 0) := OwI.new (xs := []) (Bk.new _ [] rfl) (Nat.le_refl _) (by simp)
  have hx2 : Ext w1 (w1.alloc (.cells #[] 3)) := (by repeat first | exact Ext.refl _ | assumption | refine Ext.drew ?_ | refine Ext.alloc ?_ _ | refine Ext.setCell ?_ (by simp) | refine Ext.setCell ?_ (by simp; omega) | refine Ext.trans ?_ (by assumption))
  generalize (w1.alloc (.cells #[] 3)) = w2 at *
  go_loopw [3, 4] (fun v i wr => ∃ r : Nat, r ≤ ns.length ∧ i = .int .i64 r ∧ OwI wr w1.heap.size v (ids r) ∧ Ext w1 wr) (fun _ i _ => ns.length - (intOf i).toNat)
  case atStart => exact ⟨0, by omega, rfl, hv0, hx2⟩
  case round =>
    clear hv0 hx2
    obtain ⟨r, hr, rfl, hv, hxr⟩ := hrel
    obtain ⟨wo, rfl⟩ : ∃ x : World, x = wr := ⟨_, rfl⟩
    have k0' := k0
    have k1' := k1
    have k0 := hxr.lit k0
    by_cases hlt : r < ns.length
    · have hsz := hxr.size
      have hln := ids_length r
      go_wp2_with (at_builtin; refine ap_int Tryz.underlying28 infoI2 _ _ rfl rfl rfl (hv.ext ((Ext.refl wo).alloc _)) (g := wo.heap.size) (y := r) rfl (by go_simp) (by omega) (by simp; omega) ?_)
      intro v' w' h1 h2 h3
      go_wp2
      go_roundw
      case rel =>
        refine ⟨r + 1, by omega, by go_num, ?_, h3 _ (hxr.alloc _) (Nat.le_refl _)⟩
        have e : ids (r + 1) = ids r ++ [(r : Int)] := by unfold ids; rw [List.range_succ, List.map_append]; rfl
        rw [e]; exact h1
      case measure => simp [intOf]; omega
    · obtain rfl : r = ns.length := by omega
      go_wp2_with fail
      have k1 := hxr.lit k1
      have hx0 := hx.trans hxr
      obtain ⟨gb, cp, rfl, hcap, hgB, hgw, -, -⟩ := hv.gi_ (j := 0) (by rw [ids_length]; omega)
      rw [ids_length] at hcap
      have hgB' : w.heap.size < gb := by omega
      rw [ids_length]
      go_loopw [5] (fun i wr => ∃ k : Nat, k ≤ ls.length ∧ i = .int .i64 k ∧ OwI wr w1.heap.size (.slice (some ⟨gb, 0, none⟩) ns.length cp) (labs ns.length (ls.take k)) ∧ Ext w1 wr) (fun i _ => ls.length - (intOf i).toNat)
      case atStart =>
        rw [ids_length] at hv
        exact ⟨0, by omega, by first | rfl | rw [ids_length], by first | exact hv | (rw [ids_length]; exact hv), hxr⟩
      case round =>
        clear hv
        obtain ⟨k, hk, rfl, hv, hxk⟩ := hrel
        obtain ⟨w3, rfl⟩ : ∃ x : World, x = wr := ⟨_, rfl⟩
        have hx3 := hx.trans hxk
        have k0 := hxk.lit k0'
        have k1 := hxk.lit k1'
        have hL := (linv_take Hv.out k).len
        by_cases hlt : k < ls.length
        · obtain ⟨b, off, rfl, hbb, c1, c2⟩ := (g.ext hx3).gp_ hlt
          have hmem : gp ls k ∈ ls := by rw [gp_nat ls k hlt]; exact List.getElem_mem hlt
          obtain ⟨f, t, hft, hf, ht⟩ := Hv.out _ hmem
          have hnext : labs ns.length (ls.take (k + 1)) = (labs ns.length (ls.take k)).map (mrgF (gi (labs ns.length (ls.take k)) f) (gi (labs ns.length (ls.take k)) t)) := by
            unfold labs
            rw [List.take_succ_eq_append_getElem hlt, List.foldl_append, ← gp_nat ls k hlt, hft]; rfl
          have Hnext := Lib.hid hnext
          rw [hft] at c1 c2
          clear hnext hmem hft
          generalize labs ns.length (ls.take k) = L at *
          have c3 := (hv.cel (j := f) (by omega)).1
          have c4 := (hv.cel (j := t) (by omega)).1
          have hfi : (f : Int) < ns.length := by omega
          have hti : (t : Int) < ns.length := by omega
          generalize gi L f = x at *
          generalize gi L t = y at *
          go_wp2_with fail
          clear c1 c2 c3 c4
          go_loopw [8] (fun i wr => ∃ j : Nat, j ≤ ns.length ∧ i = .int .i64 j ∧ OwI wr w1.heap.size (.slice (some ⟨gb, 0, none⟩) ns.length cp) (upto (mrgF x y) L j) ∧ Ext w1 wr) (fun i _ => ns.length - (intOf i).toNat)
          case atStart => exact ⟨0, by omega, rfl, by rw [upto_zero]; exact hv, hxk⟩
          case round =>
            clear hv
            obtain ⟨j, hj, rfl, hv, hxj⟩ := hrel
            obtain ⟨w4, rfl⟩ : ∃ x : World, x = wr := ⟨_, rfl⟩
            by_cases hjl : j < ns.length
            · obtain ⟨c3, c4⟩ := hv.cel (j := j) (by rw [upto_len]; omega)
              rw [upto_at _ _ (by omega)] at c3
              have hji : (j : Int) < ns.length := by omega
              by_cases hq : gi L j = imax x y
              · have hF : mrgF x y (gi L j) = imin x y := by unfold mrgF; rw [if_pos hq]
                have HF := Lib.hid hF
                clear hF
                have hset := hv.set_ (by rw [upto_len]; omega) j (imin x y)
                have hs2 := upto_set (mrgF x y) L (j := j) (by omega)
                rw [HF.out] at hs2
                rw [hs2] at hset
                have Hset := Lib.hid hset
                clear hset hs2 hv
                go_wp2
                go_roundw
                case rel => exact ⟨j + 1, by omega, by go_num, Hset.out, hxj.setCell (by simpa using hgB)⟩
                case measure => simp [intOf]; omega
              · have hF : mrgF x y (gi L j) = gi L j := by unfold mrgF; rw [if_neg hq]
                have hs2 := upto_same (mrgF x y) L (j := j) (by omega) hF
                have Hs2 := Lib.hid hs2
                clear hF hs2
                go_wp2
                go_roundw
                case rel => exact ⟨j + 1, by omega, by go_num, by rw [Hs2.out]; exact hv, hxj⟩
                case measure => simp [intOf]; omega
            · go_wp2
              go_roundw
              case rel =>
                refine ⟨k + 1, by omega, by go_num, ?_, hxj⟩
                rw [Hnext.out]
                rw [upto_all _ _ (by omega)] at hv
                exact hv
              case measure => simp [intOf]; omega
        · go_wp2
          go_ret
          refine ⟨_, rfl, ?_, hx3⟩
          rw [List.take_of_length_le (by omega)] at hv
          exact hv.more hx.size
end Go.Proofs.YtdhmjhoaegdfjaaGreat

namespace Go.Proofs.YtdhmjhoaegdfjaaGreat
open Go.RowKit Go.Sort Go.BigFrame

/-- A window stands in the world. -/
structure Wn (w : World) (A : Option Addr) (c : Nat) (B : Option Addr) (d : Nat) (ns ls : List P2) : Prop where
  hl : ns.length ≤ 2000000
  hm : ls.length ≤ 2000000
  hc : ns.length ≤ c
  hd : ls.length ≤ d
  hcm : c ≤ 9223372036854775807
  hdm : d ≤ 9223372036854775807
  h : Pr w w.heap.size A ns
  g : Pr w w.heap.size B ls
theorem Wn.ext {w w' : World} {A : Option Addr} {c : Nat} {B : Option Addr} {d : Nat} {ns ls : List P2} (h : Wn w A c B d ns ls) (hx : Ext w w') : Wn w' A c B d ns ls :=
  ⟨h.hl, h.hm, h.hc, h.hd, h.hcm, h.hdm, h.h.ext hx, h.g.ext hx⟩
section
variable {w : World} {A : Option Addr} {c : Nat} {B : Option Addr} {d : Nat} {ns ls : List P2}
theorem WindowOk_i' (h : Wn w A c B d ns ls) : Calls Tryz.prog 57 #[.agg #[.slice A ns.length c, .slice B ls.length d]] w fun e w' => e = .returned (.bool (wok ns ls)) ∧ Ext w w' :=
  WindowOk_i A B c d ns ls w h.hl h.hm h.hc h.hd h.hcm h.hdm h.h h.g
theorem WindowOk_s' (h : Wn w A c B d ns ls) : Calls Tryz.prog 52 #[.agg #[.slice A ns.length c, .slice B ls.length d]] w fun e w' => e = .returned (.bool (wok ns ls)) ∧ Ext w w' :=
  WindowOk_s A B c d ns ls w h.hl h.hm h.hc h.hd h.hcm h.hdm h.h h.g
theorem partOf_c' (h : Wn w A c B d ns ls) (hw : WOk ns ls) {k : Nat} (hk : k < ns.length) :
    Calls Tryz.prog 58 #[.agg #[.slice A ns.length c, .slice B ls.length d], .int .i64 (k : Int)] w fun e w' => ∃ v, e = .returned v ∧ OwI w' w.heap.size v (partL ns.length ls k) ∧ Ext w w' :=
  partOf_c A B c d ns ls k w hw.hi hw.le (vd_of_ok hw) hk h.g
theorem l07Parts_c' (h : Wn w A c B d ns ls) (hw : WOk ns ls) :
    Calls Tryz.prog 53 #[.agg #[.slice A ns.length c, .slice B ls.length d]] w fun e w' => ∃ v, e = .returned v ∧ OwI w' w.heap.size v (labs ns.length ls) ∧ Ext w w' :=
  l07Parts_c A B c d ns ls w hw.lo hw.hi hw.le (vd_of_ok hw) h.g
end

def cparts (ns ls : List P2) : Int := if wok ns ls = true then (nparts ns.length ls ns.length : Nat) else 0
theorem partL_gi0 {n : Nat} {ls : List P2} (hv : Vd n ls) {k : Nat} (hk : k < n) : gi (partL n ls k) (0 : Nat) = gi (labs n ls) k := by
  have h := partL_head hv hk
  cases hp : partL n ls k with
  | nil => rw [hp] at h; cases h
  | cons a t => rw [hp] at h; simp at h; rw [← h]; rfl

end Go.Proofs.YtdhmjhoaegdfjaaGreat

namespace Go.Proofs.YtdhmjhoaegdfjaaGreat
open Go.RowKit Go.Sort Go.BigFrame

theorem cparts_bd (ns ls : List P2) : 0 ≤ cparts ns ls ∧ cparts ns ls ≤ 12 := by
  unfold cparts
  split
  · rename_i h
    have := (wok_iff.1 h).hi
    have := nparts_le ns.length ls ns.length
    omega
  · omega
def cfaces (ns ls : List P2) : Int := if wok ns ls = true then (ls.length : Int) - ns.length + 1 + cparts ns ls else 0
theorem cfaces_bd (ns ls : List P2) : -12 ≤ cfaces ns ls ∧ cfaces ns ls ≤ 40 := by
  unfold cfaces
  split
  · rename_i h
    have := (wok_iff.1 h).hi
    have := (wok_iff.1 h).le
    have := cparts_bd ns ls
    omega
  · omega

def cpanes (ns ls : List P2) : Int := imax 0 (cfaces ns ls - 1)
def isfor (ns ls : List P2) : Bool := wok ns ls && (cfaces ns ls == 1)
end Go.Proofs.YtdhmjhoaegdfjaaGreat
