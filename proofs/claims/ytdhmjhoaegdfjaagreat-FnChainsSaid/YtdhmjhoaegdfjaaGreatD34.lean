import Derived.Test.YtdhmjhoaegdfjaaGreatD33
namespace Go.Proofs.YtdhmjhoaegdfjaaGreat
open Go.RowKit Go.Sort Go.BigFrame

theorem vSwapChain_len (ns ls : List P2) (xs : List Int) (f x : Int) (h : xs.length ≤ 1048576) : (vSwapChain ns ls xs f x).1.length ≤ 1048576 := by
  unfold vSwapChain
  split
  · exact h
  · show (swpL _ _ _ _ _).length ≤ _
    rw [swpL_len]; exact h
def chHd (ns ls : List P2) (xs : List Int) (k : Nat) (x : Int) : Int := gi (bitsL (chS ns ls xs k x) xs.length) ((0 : Nat) : Int)
def ccP (ns ls : List P2) (xs : List Int) (x y : Int) (k : Nat) : Bool := (gi xs (k : Nat) == x && chHd ns ls xs k y == (k : Int)) || (gi xs (k : Nat) == y && chHd ns ls xs k x == (k : Int))
def vCountChains (ns ls : List P2) (xs : List Int) (x y : Int) : Int := if vAreProper ns ls xs = true ∧ x ≠ y ∧ wi x 0 5 = true ∧ wi y 0 5 = true then ((cnp (ccP ns ls xs x y) xs.length : Nat) : Int) else 0

set_option maxRecDepth 100000 in
set_option maxHeartbeats 8000000 in
theorem CountChains_i (A B : Option Addr) (c d : Nat) (ns ls : List P2) (X : Option Addr) (xc : Nat) (xs : List Int) (x y : Int) (w : World) (h : Wn w A c B d ns ls) (hX : In w w.heap.size X xs) (hxl : xs.length ≤ 2000000) :
    Calls Tryz.prog 24 #[.agg #[.slice A ns.length c, .slice B ls.length d], .slice X xs.length xc, .int .i64 x, .int .i64 y] w fun e w' => e = .returned (.int .i64 (vCountChains ns ls xs x y)) ∧ Ext w w' := by
  have HV : Hid (vCountChains ns ls xs x y = if vAreProper ns ls xs = true ∧ x ≠ y ∧ wi x 0 5 = true ∧ wi y 0 5 = true then ((cnp (ccP ns ls xs x y) xs.length : Nat) : Int) else 0) := Lib.hid rfl
  by_cases hp : vAreProper ns ls xs = true
  · by_cases hxy : x = y
    · rw [if_neg (fun e => e.2.1 hxy)] at HV
      have hq : (x == y) = true := by simp [hxy]
      clear hxy
      go_enter Tryz.func24, Tryz.ntmps24
      go_wp2_with fail
      have k0 : (w.alloc (.cells #[.slice A ns.length c, .slice B ls.length d] 27)).cell? ⟨w.heap.size, 0, none⟩ = some (.slice A ns.length c) := by go_simp
      have k1 : (w.alloc (.cells #[.slice A ns.length c, .slice B ls.length d] 27)).cell? ⟨w.heap.size, 1, none⟩ = some (.slice B ls.length d) := by go_simp
      have hx : Ext w (w.alloc (.cells #[.slice A ns.length c, .slice B ls.length d] 27)) := (by repeat first | exact Ext.refl _ | assumption | refine Ext.drew ?_ | refine Ext.alloc ?_ _ | refine Ext.setCell ?_ (by simp) | refine Ext.setCell ?_ (by simp; omega) | refine Ext.trans ?_ (by assumption))
      have hsz1 : w.heap.size + 1 = (w.alloc (.cells #[.slice A ns.length c, .slice B ls.length d] 27)).heap.size := by simp
      generalize (w.alloc (.cells #[.slice A ns.length c, .slice B ls.length d] 27)) = w0 at *
      (try rw [hsz1])
      refine (AreProper_i _ _ _ _ ns ls X xc xs _ (h.ext hx) (hX.ext hx) hxl).mono ?_
      rintro e w1 ⟨rfl, hb⟩
      have k0 := hb.lit k0
      have k1 := hb.lit k1
      have hx := hx.trans hb
      clear hb
      rw [hp]
      go_wp2
      go_ret
      exact ⟨ret_i (by rw [HV.out]), hx⟩
    · have hq : (x == y) = false := by simp [hxy]
      by_cases hr : wi x 0 5 = true
      · by_cases ht : wi y 0 5 = true
        · rw [if_pos ⟨hp, hxy, hr, ht⟩] at HV
          obtain ⟨hw, hlen⟩ := proper_ok hp
          have hFl := vFaces_len ns ls
          have hpos := faces_pos hw
          have HWW := Lib.hid hw
          have HLL := Lib.hid hlen
          have hx40 : xs.length ≤ 40 := by omega
          have hpos : 0 < xs.length := by omega
          have HC : Hid (∀ (k : Nat) (z : Int), k < xs.length → wi z 0 5 = true → vChainOf ns ls xs k z = bitsL (chS ns ls xs k z) xs.length) := Lib.hid (fun k z hk hz => vChainOf_in hp hk hz)
          have HPP : Hid (∀ k : Nat, ccP ns ls xs x y k = ((gi xs (k : Nat) == x && chHd ns ls xs k y == (k : Int)) || (gi xs (k : Nat) == y && chHd ns ls xs k x == (k : Int)))) := Lib.hid (fun _ => rfl)
          have HCP : Hid (∀ (k : Nat) (z : Int), k < xs.length → 0 < (bitsL (chS ns ls xs k z) xs.length).length) := Lib.hid (fun k z hk => chS_pos hk)
          have HCH : Hid (∀ (k : Nat) (z : Int), gi (bitsL (chS ns ls xs k z) xs.length) ((0 : Nat) : Int) = chHd ns ls xs k z) := Lib.hid (fun _ _ => rfl)
          have HRR := Lib.hid hr
          have HTT := Lib.hid ht
          clear hw hlen
          go_enter Tryz.func24, Tryz.ntmps24
          go_wp2_with fail
          have k0 : (w.alloc (.cells #[.slice A ns.length c, .slice B ls.length d] 27)).cell? ⟨w.heap.size, 0, none⟩ = some (.slice A ns.length c) := by go_simp
          have k1 : (w.alloc (.cells #[.slice A ns.length c, .slice B ls.length d] 27)).cell? ⟨w.heap.size, 1, none⟩ = some (.slice B ls.length d) := by go_simp
          have hx : Ext w (w.alloc (.cells #[.slice A ns.length c, .slice B ls.length d] 27)) := (by repeat first | exact Ext.refl _ | assumption | refine Ext.drew ?_ | refine Ext.alloc ?_ _ | refine Ext.setCell ?_ (by simp) | refine Ext.setCell ?_ (by simp; omega) | refine Ext.trans ?_ (by assumption))
          have hsz1 : w.heap.size + 1 = (w.alloc (.cells #[.slice A ns.length c, .slice B ls.length d] 27)).heap.size := by simp
          generalize (w.alloc (.cells #[.slice A ns.length c, .slice B ls.length d] 27)) = w0 at *
          (try rw [hsz1])
          refine (AreProper_i _ _ _ _ ns ls X xc xs _ (h.ext hx) (hX.ext hx) hxl).mono ?_
          rintro e w1 ⟨rfl, hb⟩
          have k0 := hb.lit k0
          have k1 := hb.lit k1
          have hx := hx.trans hb
          clear hb
          rw [hp]
          go_wp2_with fail
          refine (within_c _ _ _ _).mono ?_
          rintro e w2 ⟨rfl, rfl⟩
          rw [hr]
          go_wp2_with fail
          refine (within_c _ _ _ _).mono ?_
          rintro e w2 ⟨rfl, rfl⟩
          rw [ht]
          clear hp hr ht
          have hX2 := hX
          obtain ⟨b, off, rfl, hbb, -⟩ := hX2.gi_ (k := 0) hpos
          generalize ccP ns ls xs x y = P at *
          go_wp2_with fail
          go_loopw [9, 10, 11, 33] (fun n _ _ i wr => ∃ j : Nat, j ≤ xs.length ∧ i = .int .i64 j ∧ n = .int .i64 (cnp P j : Nat) ∧ wr.cell? ⟨w.heap.size, 0, none⟩ = some (.slice A ns.length c) ∧ wr.cell? ⟨w.heap.size, 1, none⟩ = some (.slice B ls.length d) ∧ Ext w wr) (fun _ _ _ i _ => xs.length - (intOf i).toNat)
          case atStart => exact ⟨0, by omega, rfl, rfl, k0, k1, hx⟩
          case round =>
            clear k0 k1 hx
            obtain ⟨j, hj, rfl, rfl, k0, k1, hx⟩ := hrel
            obtain ⟨w4, rfl⟩ : ∃ x : World, x = wr := ⟨_, rfl⟩
            by_cases hlt : j < xs.length
            · have hji : (j : Int) < xs.length := by omega
              obtain ⟨b', off', e', hbb', x2⟩ := (hX.ext hx).gi_ hlt
              obtain ⟨rfl, rfl⟩ : b' = b ∧ off' = off := by simpa [eq_comm] using e'
              have hcl := cnp_le P j
              have HY := fun h => Lib.hid (cnp_yes (p := P) (n := j) h)
              have HN := fun h => Lib.hid (cnp_no (p := P) (n := j) h)
              have HPj := Lib.hid (HPP.out j)
              clear e' hbb'
              by_cases hcx : gi xs (j : Nat) = x
              · have q1 : (gi xs (j : Nat) == x) = true := by simp [hcx]
                have q2 : (gi xs (j : Nat) == y) = false := by simp [hcx]; simpa using hq
                rw [q1, q2] at HPj
                go_wp2_with fail
                refine (ChainOf_i _ _ _ _ ns ls _ xc xs j y _ (h.ext hx) (hX.ext hx) hxl).mono ?_
                rw [HC.out j y hlt HTT.out]
                rintro e w5 ⟨v, rfl, hl, hb⟩
                obtain ⟨gl, cl, rfl, -, hgl, -, y1, -⟩ := hl.gi_ (j := 0) (HCP.out j y hlt)
                rw [HCH.out] at y1
                have hlp := HCP.out j y hlt
                have hlz : (0 : Int) < ((bitsL (chS ns ls xs j y) xs.length).length : Int) := by omega
                have k0 := hb.lit k0
                have k1 := hb.lit k1
                have hx := hx.trans hb
                generalize (bitsL (chS ns ls xs j y) xs.length).length = ll at *
                by_cases hh : chHd ns ls xs j y = (j : Int)
                · have q3 : (chHd ns ls xs j y == (j : Int)) = true := by simp [hh]
                  have Hs := HY (by rw [HPj.out, q3]; rfl)
                  clear HY HN hh hcx hl
                  generalize chHd ns ls xs j y = hd at *
                  go_wp2
                  go_roundw
                  case rel => exact ⟨j + 1, by omega, by go_num, by rw [Hs.out]; go_num, k0, k1, hx⟩
                  case measure => first | (simp [intOf]; done) | (simp [intOf]; omega)
                · have q3 : (chHd ns ls xs j y == (j : Int)) = false := by simp [hh]
                  have Hs := HN (by rw [HPj.out, q3]; rfl)
                  clear HY HN hh hcx hl
                  generalize chHd ns ls xs j y = hd at *
                  go_wp2
                  go_roundw
                  case rel => exact ⟨j + 1, by omega, by go_num, by rw [Hs.out], k0, k1, hx⟩
                  case measure => first | (simp [intOf]; done) | (simp [intOf]; omega)
              · have q1 : (gi xs (j : Nat) == x) = false := by simp [hcx]
                rw [q1] at HPj
                by_cases hcy : gi xs (j : Nat) = y
                · have q2 : (gi xs (j : Nat) == y) = true := by simp [hcy]
                  rw [q2] at HPj
                  go_wp2_with fail
                  refine (ChainOf_i _ _ _ _ ns ls _ xc xs j x _ (h.ext hx) (hX.ext hx) hxl).mono ?_
                  rw [HC.out j x hlt HRR.out]
                  rintro e w5 ⟨v, rfl, hl, hb⟩
                  obtain ⟨gl, cl, rfl, -, hgl, -, y1, -⟩ := hl.gi_ (j := 0) (HCP.out j x hlt)
                  rw [HCH.out] at y1
                  have hlp := HCP.out j x hlt
                  have hlz : (0 : Int) < ((bitsL (chS ns ls xs j x) xs.length).length : Int) := by omega
                  have k0 := hb.lit k0
                  have k1 := hb.lit k1
                  have hx := hx.trans hb
                  generalize (bitsL (chS ns ls xs j x) xs.length).length = ll at *
                  by_cases hh : chHd ns ls xs j x = (j : Int)
                  · have q3 : (chHd ns ls xs j x == (j : Int)) = true := by simp [hh]
                    have Hs := HY (by rw [HPj.out, q3]; rfl)
                    clear HY HN hh hcx hcy hl
                    generalize chHd ns ls xs j x = hd at *
                    go_wp2
                    go_roundw
                    case rel => exact ⟨j + 1, by omega, by go_num, by rw [Hs.out]; go_num, k0, k1, hx⟩
                    case measure => first | (simp [intOf]; done) | (simp [intOf]; omega)
                  · have q3 : (chHd ns ls xs j x == (j : Int)) = false := by simp [hh]
                    have Hs := HN (by rw [HPj.out, q3]; rfl)
                    clear HY HN hh hcx hcy hl
                    generalize chHd ns ls xs j x = hd at *
                    go_wp2
                    go_roundw
                    case rel => exact ⟨j + 1, by omega, by go_num, by rw [Hs.out], k0, k1, hx⟩
                    case measure => first | (simp [intOf]; done) | (simp [intOf]; omega)
                · have q2 : (gi xs (j : Nat) == y) = false := by simp [hcy]
                  rw [q2] at HPj
                  have Hs := HN (by rw [HPj.out]; rfl)
                  clear HY HN hcx hcy
                  go_wp2
                  go_roundw
                  case rel => exact ⟨j + 1, by omega, by go_num, by rw [Hs.out], k0, k1, hx⟩
                  case measure => first | (simp [intOf]; done) | (simp [intOf]; omega)
            · obtain rfl : j = xs.length := by omega
              go_wp2
              go_ret
              exact ⟨ret_i (by rw [HV.out]), hx⟩
        · rw [if_neg (fun e => ht e.2.2.2)] at HV
          have ht' := eq_false_of_ne_true ht
          go_enter Tryz.func24, Tryz.ntmps24
          go_wp2_with fail
          have k0 : (w.alloc (.cells #[.slice A ns.length c, .slice B ls.length d] 27)).cell? ⟨w.heap.size, 0, none⟩ = some (.slice A ns.length c) := by go_simp
          have k1 : (w.alloc (.cells #[.slice A ns.length c, .slice B ls.length d] 27)).cell? ⟨w.heap.size, 1, none⟩ = some (.slice B ls.length d) := by go_simp
          have hx : Ext w (w.alloc (.cells #[.slice A ns.length c, .slice B ls.length d] 27)) := (by repeat first | exact Ext.refl _ | assumption | refine Ext.drew ?_ | refine Ext.alloc ?_ _ | refine Ext.setCell ?_ (by simp) | refine Ext.setCell ?_ (by simp; omega) | refine Ext.trans ?_ (by assumption))
          have hsz1 : w.heap.size + 1 = (w.alloc (.cells #[.slice A ns.length c, .slice B ls.length d] 27)).heap.size := by simp
          generalize (w.alloc (.cells #[.slice A ns.length c, .slice B ls.length d] 27)) = w0 at *
          (try rw [hsz1])
          refine (AreProper_i _ _ _ _ ns ls X xc xs _ (h.ext hx) (hX.ext hx) hxl).mono ?_
          rintro e w1 ⟨rfl, hb⟩
          have k0 := hb.lit k0
          have k1 := hb.lit k1
          have hx := hx.trans hb
          clear hb
          rw [hp]
          go_wp2_with fail
          refine (within_c _ _ _ _).mono ?_
          rintro e w2 ⟨rfl, rfl⟩
          rw [hr]
          go_wp2_with fail
          refine (within_c _ _ _ _).mono ?_
          rintro e w2 ⟨rfl, rfl⟩
          rw [ht']
          go_wp2
          go_ret
          exact ⟨ret_i (by rw [HV.out]), hx⟩
      · rw [if_neg (fun e => hr e.2.2.1)] at HV
        have hr' := eq_false_of_ne_true hr
        go_enter Tryz.func24, Tryz.ntmps24
        go_wp2_with fail
        have k0 : (w.alloc (.cells #[.slice A ns.length c, .slice B ls.length d] 27)).cell? ⟨w.heap.size, 0, none⟩ = some (.slice A ns.length c) := by go_simp
        have k1 : (w.alloc (.cells #[.slice A ns.length c, .slice B ls.length d] 27)).cell? ⟨w.heap.size, 1, none⟩ = some (.slice B ls.length d) := by go_simp
        have hx : Ext w (w.alloc (.cells #[.slice A ns.length c, .slice B ls.length d] 27)) := (by repeat first | exact Ext.refl _ | assumption | refine Ext.drew ?_ | refine Ext.alloc ?_ _ | refine Ext.setCell ?_ (by simp) | refine Ext.setCell ?_ (by simp; omega) | refine Ext.trans ?_ (by assumption))
        have hsz1 : w.heap.size + 1 = (w.alloc (.cells #[.slice A ns.length c, .slice B ls.length d] 27)).heap.size := by simp
        generalize (w.alloc (.cells #[.slice A ns.length c, .slice B ls.length d] 27)) = w0 at *
        (try rw [hsz1])
        refine (AreProper_i _ _ _ _ ns ls X xc xs _ (h.ext hx) (hX.ext hx) hxl).mono ?_
        rintro e w1 ⟨rfl, hb⟩
        have k0 := hb.lit k0
        have k1 := hb.lit k1
        have hx := hx.trans hb
        clear hb
        rw [hp]
        go_wp2_with fail
        refine (within_c _ _ _ _).mono ?_
        rintro e w2 ⟨rfl, rfl⟩
        rw [hr']
        go_wp2
        go_ret
        exact ⟨ret_i (by rw [HV.out]), hx⟩
  · rw [if_neg (fun e => hp e.1)] at HV
    have hp' := eq_false_of_ne_true hp
    go_enter Tryz.func24, Tryz.ntmps24
    go_wp2_with fail
    have k0 : (w.alloc (.cells #[.slice A ns.length c, .slice B ls.length d] 27)).cell? ⟨w.heap.size, 0, none⟩ = some (.slice A ns.length c) := by go_simp
    have k1 : (w.alloc (.cells #[.slice A ns.length c, .slice B ls.length d] 27)).cell? ⟨w.heap.size, 1, none⟩ = some (.slice B ls.length d) := by go_simp
    have hx : Ext w (w.alloc (.cells #[.slice A ns.length c, .slice B ls.length d] 27)) := (by repeat first | exact Ext.refl _ | assumption | refine Ext.drew ?_ | refine Ext.alloc ?_ _ | refine Ext.setCell ?_ (by simp) | refine Ext.setCell ?_ (by simp; omega) | refine Ext.trans ?_ (by assumption))
    have hsz1 : w.heap.size + 1 = (w.alloc (.cells #[.slice A ns.length c, .slice B ls.length d] 27)).heap.size := by simp
    generalize (w.alloc (.cells #[.slice A ns.length c, .slice B ls.length d] 27)) = w0 at *
    (try rw [hsz1])
    refine (AreProper_i _ _ _ _ ns ls X xc xs _ (h.ext hx) (hX.ext hx) hxl).mono ?_
    rintro e w1 ⟨rfl, hb⟩
    have k0 := hb.lit k0
    have k1 := hb.lit k1
    have hx := hx.trans hb
    clear hb
    rw [hp']
    go_wp2
    go_ret
    exact ⟨ret_i (by rw [HV.out]), hx⟩

end Go.Proofs.YtdhmjhoaegdfjaaGreat
