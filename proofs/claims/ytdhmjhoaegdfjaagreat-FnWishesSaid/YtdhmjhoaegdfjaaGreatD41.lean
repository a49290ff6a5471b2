import Derived.Test.YtdhmjhoaegdfjaaGreatD38
namespace Go.Proofs.YtdhmjhoaegdfjaaGreat
open Go.RowKit Go.Sort Go.BigFrame

theorem gi_put {xs : List Int} {j i : Nat} {c : Int} (hi : i < xs.length) : gi (xs.set j c) (i : Nat) = if i = j then c else gi xs (i : Nat) := by
  rw [gi_nat _ _ (by rw [List.length_set]; exact hi), gi_nat _ _ hi, List.getElem_set]
  by_cases h : i = j
  · rw [if_pos h, if_pos h.symm]
  · rw [if_neg h, if_neg (fun e => h e.symm)]
theorem aw_at {xs : List Int} {lo hi : Int} (h : aw xs lo hi = true) {i : Nat} (hi' : i < xs.length) : wi (gi xs (i : Nat)) lo hi = true := List.all_eq_true.1 h i (List.mem_range.2 hi')
theorem wok_set {ns ls : List P2} {xs : List Int} {j : Nat} {c : Int} (h : vWishesOk ns ls xs = true) (hc : -1 ≤ c) (hc5 : c ≤ 5) : vWishesOk ns ls (xs.set j c) = true := by
  unfold vWishesOk at h ⊢
  simp only [Bool.and_eq_true, decide_eq_true_eq] at h ⊢
  refine ⟨⟨h.1.1, by rw [List.length_set]; exact h.1.2⟩, aw_yes fun i hi => ?_⟩
  rw [List.length_set] at hi
  rw [gi_put hi]
  split
  · exact wi_iff.2 ⟨hc, hc5⟩
  · exact aw_at h.2 hi
theorem fill_ok {ns ls : List P2} {xs : List Int} {n : Int} (h : (vFillWishes ns ls xs n).2 = true) : vWishesOk ns ls xs = true ∧ wi n 1 6 = true ∧ (vFillWishes ns ls xs n).1.length = xs.length := by
  unfold vFillWishes at h ⊢
  split at h
  · rename_i hc
    rw [if_pos hc]
    obtain ⟨L, e, hl⟩ := sr1_len (N := nbN ns ls) (wish := xs) (n := n.toNat) xs.length none [] h
    refine ⟨hc.1, hc.2, ?_⟩
    show ((sr tell1 (nbN ns ls) xs n.toNat xs.length none []).1.getD []).length = _
    rw [e]
    simpa using hl
  · cases h
theorem fill_srB {ns ls : List P2} {xs : List Int} {k F : Nat} (h : vWishesOk ns ls xs = true) (hr : wi (k : Int) 1 6 = true) (hF : F = xs.length) : srB (nbN ns ls) xs k F [] = (vFillWishes ns ls xs k).2 := by
  unfold vFillWishes
  rw [if_pos ⟨h, hr⟩, hF, Int.toNat_natCast]
def alC (q : Nat → Bool) : Nat → Bool
  | 0 => true
  | a + 1 => alC q a && q a
theorem alC_false {q : Nat → Bool} {a : Nat} (h : alC q a = false) : ∀ d, alC q (a + d) = false
  | 0 => h
  | d + 1 => by
    show (alC q (a + d) && q (a + d)) = false
    rw [alC_false h d]
    rfl
theorem alC_no {q : Nat → Bool} {a m : Nat} (h : alC q a = false) (hm : a ≤ m) : alC q m = false := by
  have := alC_false h (m - a)
  rwa [show a + (m - a) = m by omega] at this
def ffQ (ns ls : List P2) (xs : List Int) (n : Int) (k c : Nat) : Bool := (((c : Nat) : Int) == gi (vFillWishes ns ls xs n).1 (k : Nat)) || !(vFillWishes ns ls (xs.set k (c : Int)) n).2
def ffP (ns ls : List P2) (xs : List Int) (n : Int) (k : Nat) : Bool := decide (gi xs (k : Nat) < 0) && alC (ffQ ns ls xs n k) n.toNat
def vForcedFaces (ns ls : List P2) (xs : List Int) (n : Int) : List Int := if (vFillWishes ns ls xs n).2 = true then flt (ffP ns ls xs n) xs.length else []
theorem vForcedFaces_len (ns ls : List P2) (xs : List Int) (n : Int) : (vForcedFaces ns ls xs n).length ≤ 1000 := by
  unfold vForcedFaces
  split
  · rename_i h
    have h1 := (wishes_ok (fill_ok h).1).2
    have h2 := vFaces_len ns ls
    have h3 := flt_len (ffP ns ls xs n) xs.length
    omega
  · simp

set_option maxRecDepth 100000 in
set_option maxHeartbeats 8000000 in
theorem ForcedFaces_i (A B : Option Addr) (c d : Nat) (ns ls : List P2) (X : Option Addr) (xc : Nat) (xs : List Int) (n : Int) (w : World) (h : Wn w A c B d ns ls) (hX : In w w.heap.size X xs) (hxl : xs.length ≤ 2000000) :
    Calls Tryz.prog 13 #[.agg #[.slice A ns.length c, .slice B ls.length d], .slice X xs.length xc, .int .i64 n] w fun e w' => ∃ v, e = .returned v ∧ OwI w' w.heap.size v (vForcedFaces ns ls xs n) ∧ Ext w w' := by
  have HV : Hid (vForcedFaces ns ls xs n = if (vFillWishes ns ls xs n).2 = true then flt (ffP ns ls xs n) xs.length else []) := Lib.hid rfl
  go_enter Tryz.func13, Tryz.ntmps13
  go_wp2_with fail
  have k0 : (w.alloc (.cells #[.slice A ns.length c, .slice B ls.length d] 27)).cell? ⟨w.heap.size, 0, none⟩ = some (.slice A ns.length c) := by go_simp
  have k1 : (w.alloc (.cells #[.slice A ns.length c, .slice B ls.length d] 27)).cell? ⟨w.heap.size, 1, none⟩ = some (.slice B ls.length d) := by go_simp
  have hx : Ext w (w.alloc (.cells #[.slice A ns.length c, .slice B ls.length d] 27)) := (by repeat first | exact Ext.refl _ | assumption | refine Ext.drew ?_ | refine Ext.alloc ?_ _ | refine Ext.setCell ?_ (by simp) | refine Ext.setCell ?_ (by simp; omega) | refine Ext.trans ?_ (by assumption))
  have hsz1 : w.heap.size + 1 = (w.alloc (.cells #[.slice A ns.length c, .slice B ls.length d] 27)).heap.size := by simp
  generalize (w.alloc (.cells #[.slice A ns.length c, .slice B ls.length d] 27)) = w0 at *
  (try rw [hsz1])
  refine (FillWishes_i _ _ _ _ ns ls X xc xs n _ (h.ext hx) (hX.ext hx) hxl).mono ?_
  rintro e w1 ⟨v, rfl, hf, hb⟩
  have k0 := hb.lit k0
  have k1 := hb.lit k1
  have hx := hx.trans hb
  clear hb
  cases hok : (vFillWishes ns ls xs n).2 with
  | false =>
    rw [if_neg (by rw [hok]; decide)] at HV
    clear hok
    go_wp2
    go_ret
    exact ⟨_, rfl, by rw [HV.out]; exact OwI.nil _ _, hx⟩
  | true =>
    skip
    rw [if_pos hok] at HV
    obtain ⟨hp, hr, hfl⟩ := fill_ok hok
    obtain ⟨hw, hlen⟩ := wishes_ok hp
    have hFl := vFaces_len ns ls
    have hFp := faces_pos hw
    have hx40 : xs.length ≤ 40 := by omega
    have hx0 : 0 < xs.length := by omega
    obtain ⟨q1, q2⟩ := wi_iff.1 hr
    obtain ⟨k, rfl⟩ := Int.eq_ofNat_of_zero_le (show 0 ≤ n by omega)
    have hk6 : k ≤ 6 := by omega
    have HWW := Lib.hid hw
    have HLL := Lib.hid hlen
    have HRR := Lib.hid hr
    have HPP := Lib.hid hp
    have HFP : Hid (∀ j : Nat, ffP ns ls xs (k : Int) j = (decide (gi xs (j : Nat) < 0) && alC (ffQ ns ls xs (k : Int) j) k)) := Lib.hid (fun _ => rfl)
    have HFQ : Hid (∀ j c : Nat, ffQ ns ls xs (k : Int) j c = ((((c : Nat) : Int) == gi (vFillWishes ns ls xs (k : Int)).1 (j : Nat)) || !(vFillWishes ns ls (xs.set j (c : Int)) (k : Int)).2)) := Lib.hid (fun _ _ => rfl)
    clear hw hlen q1 q2 hr hp
    have hX2 := hX
    obtain ⟨b, off, rfl, hbb, -⟩ := hX2.gi_ (k := 0) hx0
    obtain ⟨gf, cf, rfl, -, hgf, -, -, -⟩ := hf.gi_ (j := 0) (by rw [hfl]; exact hx0)
    rw [hfl] at hf
    rw [hfl]
    have HFL := Lib.hid hfl
    clear hok hfl hX2 hbb
    generalize (vFillWishes ns ls xs (k : Int)).1 = fi at *
    generalize ffP ns ls xs (k : Int) = P at *
    generalize ffQ ns ls xs (k : Int) = Q at *
    have hs1 := hx.size
    go_wp2_with fail
    go_loopw [9, 10, 11, 12, 13, 14, 15, 16, 28] (fun o _ _ _ _ _ _ _ i wr => ∃ j : Nat, j ≤ xs.length ∧ i = .int .i64 j ∧ OzI wr w.heap.size w1.heap.size o (flt P j) ∧ Ext w1 wr) (fun _ _ _ _ _ _ _ _ i _ => xs.length - (intOf i).toNat)
    case atStart => exact ⟨0, by omega, rfl, .of (OwI.nil _ _), Ext.refl _⟩
    case round =>
      obtain ⟨j, hj, rfl, hv, hx1⟩ := hrel
      obtain ⟨w4, rfl⟩ : ∃ x : World, x = wr := ⟨_, rfl⟩
      have hx01 := hx
      have hx := hx.trans hx1
      by_cases hlt : j < xs.length
      · skip
        have hji : (j : Int) < xs.length := by omega
        obtain ⟨b', off', e', hbb', x2⟩ := (hX.ext hx).gi_ hlt
        obtain ⟨rfl, rfl⟩ : b' = b ∧ off' = off := by simpa [eq_comm] using e'
        have hfn := flt_len P j
        have HY := fun h => Lib.hid (flt_yes (p := P) (j := j) h)
        have HN := fun h => Lib.hid (flt_no (p := P) (j := j) h)
        clear e' hbb'
        by_cases hw0 : 0 ≤ gi xs (j : Nat)
        · have Hs := HN (by rw [HFP.out j, decide_eq_false (by omega)]; rfl)
          clear HY HN
          go_wp2
          go_roundw
          case rel => exact ⟨j + 1, by omega, by go_num, by rw [Hs.out]; exact hv, hx1⟩
          case measure => first | (simp [intOf]; done) | (simp [intOf]; omega)
        · have hw1 : gi xs (j : Nat) < 0 := by omega
          have HPj : Hid (P j = alC (Q j) k) := Lib.hid (by rw [HFP.out j, decide_eq_true hw1]; rfl)
          have HQj := Lib.hid (HFQ.out j)
          generalize gi xs (j : Nat) = y at *
          generalize Q j = q at *
          go_wp2_with fail
          go_loopw [12, 13, 14, 15, 16] (fun fo cc _ _ _ wr => ∃ (a : Nat) (z : Bool), a ≤ k ∧ cc = .int .i64 a ∧ fo = .bool z ∧ Hid (z = alC q a) ∧ Ext w4 wr) (fun _ cc _ _ _ _ => k - (intOf cc).toNat)
          case atStart => exact ⟨0, true, by omega, rfl, rfl, Lib.hid rfl, Ext.refl _⟩
          case round =>
            obtain ⟨a, z, ha, rfl, rfl, HZ, hx4⟩ := hrel
            obtain ⟨w5, rfl⟩ : ∃ x : World, x = wr := ⟨_, rfl⟩
            by_cases hak : a < k
            · have haki : (a : Int) < k := by omega
              cases z with
              | false =>
                skip
                have Hs := HN (by rw [HPj.out]; exact alC_no HZ.out.symm ha)
                clear HY HN
                go_wp2
                go_roundw
                case rel => exact ⟨j + 1, by omega, by go_num, by rw [Hs.out]; exact hv.ext hx4, hx1.trans hx4⟩
                case measure => first | (simp [intOf]; done) | (simp [intOf]; omega)
              | true =>
                have HQa := Lib.hid (HQj.out a)
                have HA1 : Hid (alC q (a + 1) = q a) := Lib.hid (by show (alC q a && q a) = _; rw [← HZ.out]; rfl)
                have hx5 := hx.trans hx4
                clear HY HN HPj
                go_wp2_with fail
                refine (copyInts_c _ xc xs _ hxl (hX.ext hx5)).mono ?_
                rintro e w6 ⟨vo, rfl, ho, hb⟩
                obtain ⟨go, co, rfl, -, hgo, -, -, -⟩ := ho.gi_ (j := 0) hx0
                obtain ⟨s1, s2⟩ := ho.cel hlt
                have hset := ho.set_ rfl j (a : Int)
                have hx56 := Ext.setCell (p := ⟨go, j, none⟩) (v := .int .i64 (a : Int)) hb hgo
                go_upto_region 15 with fail
                clear ho s1 s2 hb
                generalize w6.setCell ⟨go, j, none⟩ (.int .i64 (a : Int)) = w7 at *
                have m0 := (hx1.trans (hx4.trans hx56)).lit k0
                have m1 := (hx1.trans (hx4.trans hx56)).lit k1
                have hin7 := hset.in'
                have hx7 := hx5.trans hx56
                clear hset
                go_wp2_with fail
                refine (FillWishes_i0 _ _ _ _ ns ls _ co (xs.set j (a : Int)) xs.length k _ (h.ext hx7) hin7 (by simp; omega) (by simp)).mono ?_
                rintro e w8 ⟨v8, rfl, -, hb8⟩
                have hx48 := hx4.trans (hx56.trans hb8)
                have f1 := ((hf.ext (hx1.trans hx48)).cel (j := j) (by rw [HFL.out]; exact hlt)).1
                clear hin7
                generalize (vFillWishes ns ls (xs.set j (a : Int)) (k : Int)).2 = cn at *
                by_cases heq : (a : Int) = gi fi (j : Nat)
                · have q3 : ((a : Int) == gi fi (j : Nat)) = true := by simp [heq]
                  have Hs : Hid (true = alC q (a + 1)) := Lib.hid (by rw [HA1.out, HQa.out, q3]; rfl)
                  clear heq
                  generalize gi fi (j : Nat) = u at *
                  go_wp2
                  go_roundw
                  case rel => exact ⟨a + 1, true, by omega, by go_num, rfl, Hs, hx48⟩
                  case measure => first | (simp [intOf]; done) | (simp [intOf]; omega)
                · have q3 : ((a : Int) == gi fi (j : Nat)) = false := by simp [heq]
                  cases cn with
                  | true =>
                    have Hs : Hid (false = alC q (a + 1)) := Lib.hid (by rw [HA1.out, HQa.out, q3]; rfl)
                    clear heq
                    generalize gi fi (j : Nat) = u at *
                    go_wp2
                    go_roundw
                    case rel => exact ⟨a + 1, false, by omega, by go_num, rfl, Hs, hx48⟩
                    case measure => first | (simp [intOf]; done) | (simp [intOf]; omega)
                  | false =>
                    have Hs : Hid (true = alC q (a + 1)) := Lib.hid (by rw [HA1.out, HQa.out, q3]; rfl)
                    clear heq
                    generalize gi fi (j : Nat) = u at *
                    go_wp2
                    go_roundw
                    case rel => exact ⟨a + 1, true, by omega, by go_num, rfl, Hs, hx48⟩
                    case measure => first | (simp [intOf]; done) | (simp [intOf]; omega)
            · obtain rfl : a = k := by omega
              cases z with
              | false =>
                skip
                have Hs := HN (by rw [HPj.out]; exact alC_no HZ.out.symm ha)
                clear HY HN
                go_wp2
                go_roundw
                case rel => exact ⟨j + 1, by omega, by go_num, by rw [Hs.out]; exact hv.ext hx4, hx1.trans hx4⟩
                case measure => first | (simp [intOf]; done) | (simp [intOf]; omega)
              | true =>
                have Hs := HY (by rw [HPj.out]; exact HZ.out.symm)
                have hsw := (hx1.trans hx4).size
                clear HY HN
                go_wp2_with (at_builtin; refine az_int _ _ rfl rfl rfl ((hv.ext hx4).ext ((Ext.refl w5).alloc _)) (g := w5.heap.size) (y := j) (by first | rfl | simp) (by go_simp) (by omega) (by simp; omega) ?_)
                intro v' w' h1 h3
                go_wp2
                go_roundw
                case rel => exact ⟨j + 1, by omega, by go_num, by rw [Hs.out]; exact h1, h3 _ ((hx1.trans hx4).alloc _) (Nat.le_refl _)⟩
                case measure => first | (simp [intOf]; done) | (simp [intOf]; omega)
      · obtain rfl : j = xs.length := by omega
        go_wp2
        go_ret
        exact ⟨_, rfl, by rw [HV.out]; exact hv.own (by omega), hx⟩

end Go.Proofs.YtdhmjhoaegdfjaaGreat
