import Derived.Test.YtdhmjhoaegdfjaaGreatD41
namespace Go.Proofs.YtdhmjhoaegdfjaaGreat
open Go.RowKit Go.Sort Go.BigFrame

def bwS (ns ls : List P2) (n : Int) (L : List Int) (f : Nat) : List Int := if gi L (f : Nat) < 0 then L else if (vFillWishes ns ls (L.set f (-1)) n).2 = true then L else L.set f (-1)
def bwR (ns ls : List P2) (n : Int) (L0 : List Int) : Nat → List Int
  | 0 => L0
  | r + 1 => bwS ns ls n (bwR ns ls n L0 r) (L0.length - 1 - r)
theorem bwR_len (ns ls : List P2) (n : Int) (L0 : List Int) : ∀ r, (bwR ns ls n L0 r).length = L0.length
  | 0 => rfl
  | r + 1 => by
    have := bwR_len ns ls n L0 r
    show (bwS ns ls n (bwR ns ls n L0 r) _).length = _
    unfold bwS
    split
    · exact this
    · split
      · exact this
      · rw [List.length_set]; exact this
theorem bwR_ok {ns ls : List P2} (n : Int) {L0 : List Int} (h : vWishesOk ns ls L0 = true) : ∀ r, vWishesOk ns ls (bwR ns ls n L0 r) = true
  | 0 => h
  | r + 1 => by
    have := bwR_ok n h r
    show vWishesOk ns ls (bwS ns ls n (bwR ns ls n L0 r) _) = true
    unfold bwS
    split
    · exact this
    · split
      · exact this
      · exact wok_set this (by decide) (by decide)
theorem set_same {L : List Int} {f : Nat} {y : Int} (h : gi L (f : Nat) = y) (hf : f < L.length) : L.set f y = L := by
  rw [gi_nat _ _ hf] at h
  rw [← h]
  exact List.set_getElem_self hf
theorem bwS_yes {ns ls : List P2} {n : Int} {L : List Int} {f : Nat} (h : (vFillWishes ns ls (L.set f (-1)) n).2 = true) : bwS ns ls n L f = L := by
  unfold bwS
  rw [if_pos h, ite_self]
theorem bwS_no {ns ls : List P2} {n : Int} {L : List Int} {f : Nat} (h : (vFillWishes ns ls (L.set f (-1)) n).2 = false) (hok : vWishesOk ns ls L = true) (hf : f < L.length) : bwS ns ls n L f = L.set f (-1) := by
  unfold bwS
  by_cases h0 : gi L (f : Nat) < 0
  · rw [if_pos h0]
    unfold vWishesOk at hok
    simp only [Bool.and_eq_true] at hok
    have h1 := (wi_iff.1 (aw_at hok.2 hf)).1
    exact (set_same (by omega) hf).symm
  · rw [if_neg h0, if_neg (by rw [h]; decide)]
theorem bwS_neg {ns ls : List P2} {n : Int} {L : List Int} {f : Nat} (h : gi L (f : Nat) < 0) : bwS ns ls n L f = L := by
  unfold bwS
  rw [if_pos h]
def bwP (L : List Int) (i : Nat) : Bool := decide (0 ≤ gi L (i : Nat))
def vBadWishes (ns ls : List P2) (xs : List Int) (n : Int) : List Int :=
  if vWishesOk ns ls xs = true ∧ wi n 1 6 = true ∧ (vFillWishes ns ls xs n).2 = false then flt (bwP (bwR ns ls n xs xs.length)) xs.length else []
theorem vBadWishes_len (ns ls : List P2) (xs : List Int) (n : Int) : (vBadWishes ns ls xs n).length ≤ 1000 := by
  unfold vBadWishes
  split
  · rename_i h
    have h1 := (wishes_ok h.1).2
    have h2 := vFaces_len ns ls
    have h3 := flt_len (bwP (bwR ns ls n xs xs.length)) xs.length
    omega
  · simp

set_option maxRecDepth 100000 in
set_option maxHeartbeats 8000000 in
theorem BadWishes_i (A B : Option Addr) (c d : Nat) (ns ls : List P2) (X : Option Addr) (xc : Nat) (xs : List Int) (n : Int) (w : World) (h : Wn w A c B d ns ls) (hX : In w w.heap.size X xs) (hxl : xs.length ≤ 2000000) :
    Calls Tryz.prog 12 #[.agg #[.slice A ns.length c, .slice B ls.length d], .slice X xs.length xc, .int .i64 n] w fun e w' => ∃ v, e = .returned v ∧ OwI w' w.heap.size v (vBadWishes ns ls xs n) ∧ Ext w w' := by
  have HV : Hid (vBadWishes ns ls xs n = if vWishesOk ns ls xs = true ∧ wi n 1 6 = true ∧ (vFillWishes ns ls xs n).2 = false then flt (bwP (bwR ns ls n xs xs.length)) xs.length else []) := Lib.hid rfl
  by_cases hp : vWishesOk ns ls xs = true
  · by_cases hr : wi n 1 6 = true
    · skip
      go_enter Tryz.func12, Tryz.ntmps12
      go_wp2_with fail
      have k0 : (w.alloc (.cells #[.slice A ns.length c, .slice B ls.length d] 27)).cell? ⟨w.heap.size, 0, none⟩ = some (.slice A ns.length c) := by go_simp
      have k1 : (w.alloc (.cells #[.slice A ns.length c, .slice B ls.length d] 27)).cell? ⟨w.heap.size, 1, none⟩ = some (.slice B ls.length d) := by go_simp
      have hx : Ext w (w.alloc (.cells #[.slice A ns.length c, .slice B ls.length d] 27)) := (by repeat first | exact Ext.refl _ | assumption | refine Ext.drew ?_ | refine Ext.alloc ?_ _ | refine Ext.setCell ?_ (by simp) | refine Ext.setCell ?_ (by simp; omega) | refine Ext.trans ?_ (by assumption))
      have hsz1 : w.heap.size + 1 = (w.alloc (.cells #[.slice A ns.length c, .slice B ls.length d] 27)).heap.size := by simp
      generalize (w.alloc (.cells #[.slice A ns.length c, .slice B ls.length d] 27)) = w0 at *
      (try rw [hsz1])
      refine (WishesOk_i _ _ _ _ ns ls X xc xs _ (h.ext hx) (hX.ext hx) hxl).mono ?_
      rintro e w1 ⟨rfl, hb⟩
      have k0 := hb.lit k0
      have k1 := hb.lit k1
      have hx := hx.trans hb
      clear hb
      rw [hp]
      go_wp2_with fail
      refine (within_c _ _ _ _).mono ?_
      rintro e w2 ⟨rfl, rfl⟩
      rw [hr]
      go_wp2_with fail
      refine (FillWishes_i _ _ _ _ ns ls X xc xs n _ (h.ext hx) (hX.ext hx) hxl).mono ?_
      rintro e w2 ⟨v, rfl, -, hb⟩
      have k0 := hb.lit k0
      have k1 := hb.lit k1
      have hx := hx.trans hb
      clear hb
      cases hok : (vFillWishes ns ls xs n).2 with
      | true =>
        rw [if_neg (fun e => by rw [hok] at e; exact absurd e.2.2 (by decide))] at HV
        clear hok hp hr
        go_wp2
        go_ret
        exact ⟨_, rfl, by rw [HV.out]; exact OwI.nil _ _, hx⟩
      | false =>
        rw [if_pos ⟨hp, hr, hok⟩] at HV
        obtain ⟨hw, hlen⟩ := wishes_ok hp
        have hFl := vFaces_len ns ls
        have hFp := faces_pos hw
        have hx40 : xs.length ≤ 40 := by omega
        have hx0 : 0 < xs.length := by omega
        obtain ⟨q1, q2⟩ := wi_iff.1 hr
        obtain ⟨k, rfl⟩ := Int.eq_ofNat_of_zero_le (show 0 ≤ n by omega)
        have hk6 : k ≤ 6 := by omega
        have HWW := Lib.hid hw
        have HLL := Lib.hid hlen
        have HRR := Lib.hid hr
        have HLN := Lib.hid (bwR_len ns ls (k : Int) xs)
        have HOK := Lib.hid (bwR_ok (k : Int) hp)
        have HS1 : Hid (∀ r, bwR ns ls (k : Int) xs (r + 1) = bwS ns ls (k : Int) (bwR ns ls (k : Int) xs r) (xs.length - 1 - r)) := Lib.hid (fun _ => rfl)
        clear hw hlen q1 q2
        clear hok hp hr
        have hs2 := hx.size
        go_wp2_with fail
        refine (copyInts_c X xc xs _ hxl (hX.ext hx)).mono ?_
        rintro e w3 ⟨vo, rfl, ho, hb⟩
        obtain ⟨go, co, rfl, -, hgo, -, -, -⟩ := ho.gi_ (j := 0) hx0
        have hi0 : OwI w3 w2.heap.size (.slice (some ⟨go, 0, none⟩) xs.length co) (bwR ns ls (k : Int) xs 0) := ho
        clear ho
        go_wp2_with fail
        go_loopw [10, 11, 12, 13] (fun i _ _ _ wr => ∃ r : Nat, r ≤ xs.length ∧ i = .int .i64 ((xs.length : Int) - 1 - (r : Int)) ∧ OwI wr w2.heap.size (.slice (some ⟨go, 0, none⟩) xs.length co) (bwR ns ls (k : Int) xs r) ∧ Ext w2 wr) (fun i _ _ _ _ => ((intOf i) + 1).toNat)
        case atStart => exact ⟨0, by omega, by first | rfl | simp, hi0, hb⟩
        case round =>
          clear hi0 hb
          obtain ⟨r, hrl, rfl, hv, hx2⟩ := hrel
          obtain ⟨w4, rfl⟩ : ∃ x : World, x = wr := ⟨_, rfl⟩
          by_cases hlt : r < xs.length
          · skip
            obtain ⟨f, hfe, hfn⟩ : ∃ f : Nat, (xs.length : Int) - 1 - (r : Int) = f ∧ xs.length - 1 - r = f := ⟨xs.length - 1 - r, by omega, rfl⟩
            have hfl : f < xs.length := by omega
            have hfi : (f : Int) < xs.length := by omega
            have hf0 : (0 : Int) ≤ f := by omega
            have hnx : (f : Int) - 1 = (xs.length : Int) - 1 - ((r + 1 : Nat) : Int) := by push_cast; omega
            have HNX := Lib.hid hnx
            have HFE := Lib.hid hfe
            have HSr := Lib.hid (HS1.out r)
            rw [hfn] at HSr
            have HLr := Lib.hid (HLN.out r)
            have HOr := Lib.hid (HOK.out r)
            rw [hfe]
            clear hfn hnx hfe
            generalize bwR ns ls (k : Int) xs r = L at *
            obtain ⟨s1, s2⟩ := hv.cel (j := f) (by rw [HLr.out]; exact hfl)
            have hset := hv.set_ HLr.out.symm f (-1)
            have hx5 := Ext.setCell (p := ⟨go, f, none⟩) (v := .int .i64 (-1)) hx2 hgo
            go_upto_region 12 with fail
            clear hv hx2 s1 s2
            generalize w4.setCell ⟨go, f, none⟩ (.int .i64 (-1)) = w5 at *
            have m0 := hx5.lit k0
            have m1 := hx5.lit k1
            go_wp2_with fail
            refine (FillWishes_i0 _ _ _ _ ns ls _ co (L.set f (-1)) xs.length k _ (h.ext (hx.trans hx5)) hset.in' (by rw [List.length_set, HLr.out]; exact hxl) (by rw [List.length_set, HLr.out])).mono ?_
            rintro e w6 ⟨v6, rfl, -, hb6⟩
            have hset6 := hset.ext hb6
            have hx6 := hx5.trans hb6
            clear hset hx5 m0 m1 hb6
            cases hcn : (vFillWishes ns ls (L.set f (-1)) (k : Int)).2 with
            | true =>
              have Hs : Hid (bwR ns ls (k : Int) xs (r + 1) = L) := Lib.hid (by rw [HSr.out, bwS_yes hcn])
              obtain ⟨t1, t2⟩ := hset6.cel (j := f) (by rw [List.length_set, HLr.out]; exact hfl)
              have hset7 := hset6.set_ (by rw [List.length_set, HLr.out]) f (gi L (f : Nat))
              rw [List.set_set, set_same rfl (by rw [HLr.out]; exact hfl)] at hset7
              have Hv := Lib.hid hset7
              have hx6 := Ext.setCell (p := ⟨go, f, none⟩) (v := .int .i64 (gi L (f : Nat))) hx6 hgo
              clear hcn hset6 hset7
              generalize gi L (f : Nat) = y at *
              go_wp2
              go_roundw
              case rel => exact ⟨r + 1, by omega, by rw [← HNX.out], by rw [Hs.out]; exact Hv.out, hx6⟩
              case measure => first | (simp [intOf]; done) | (simp [intOf]; omega)
            | false =>
              have Hs : Hid (bwR ns ls (k : Int) xs (r + 1) = L.set f (-1)) := Lib.hid (by rw [HSr.out, bwS_no hcn HOr.out (by rw [HLr.out]; exact hfl)])
              have Hv := Lib.hid hset6
              clear hcn hset6
              go_wp2
              go_roundw
              case rel => exact ⟨r + 1, by omega, by rw [← HNX.out], by rw [Hs.out]; exact Hv.out, hx6⟩
              case measure => first | (simp [intOf]; done) | (simp [intOf]; omega)
          · obtain rfl : r = xs.length := by omega
            have hne : (xs.length : Int) - 1 - (xs.length : Int) = -1 := by omega
            rw [hne]
            have HLr := Lib.hid (HLN.out xs.length)
            generalize bwR ns ls (k : Int) xs xs.length = L at *
            have HPP : Hid (∀ i : Nat, bwP L i = decide (0 ≤ gi L (i : Nat))) := Lib.hid (fun _ => rfl)
            generalize bwP L = P at *
            have hs4 := hx2.size
            have hxx := hx.trans hx2
            go_wp2_with fail
            go_loopw [14, 15, 16, 64] (fun o _ _ i wr => ∃ a : Nat, a ≤ xs.length ∧ i = .int .i64 a ∧ OzI wr w.heap.size w4.heap.size o (flt P a) ∧ Ext w4 wr) (fun _ _ _ i _ => xs.length - (intOf i).toNat)
            case atStart => exact ⟨0, by omega, rfl, .of (OwI.nil _ _), Ext.refl _⟩
            case round =>
              obtain ⟨a, ha, rfl, hz, hxr⟩ := hrel
              obtain ⟨w7, rfl⟩ : ∃ x : World, x = wr := ⟨_, rfl⟩
              by_cases hat : a < xs.length
              · have hai : (a : Int) < xs.length := by omega
                have u1 := ((hv.ext hxr).cel (j := a) (by rw [HLr.out]; exact hat)).1
                have hfn := flt_len P a
                have hsw := hxr.size
                by_cases hw0 : 0 ≤ gi L (a : Nat)
                · have Hs := Lib.hid (flt_yes (p := P) (j := a) (by rw [HPP.out a, decide_eq_true hw0]))
                  generalize gi L (a : Nat) = y at *
                  go_wp2_with (at_builtin; refine az_int _ _ rfl rfl rfl (hz.ext ((Ext.refl w7).alloc _)) (g := w7.heap.size) (y := a) (by first | rfl | simp) (by go_simp) (by omega) (by simp; omega) ?_)
                  intro v' w' h1 h3
                  go_wp2
                  go_roundw
                  case rel => exact ⟨a + 1, by omega, by go_num, by rw [Hs.out]; exact h1, h3 _ (hxr.alloc _) (Nat.le_refl _)⟩
                  case measure => first | (simp [intOf]; done) | (simp [intOf]; omega)
                · have Hs := Lib.hid (flt_no (p := P) (j := a) (by rw [HPP.out a, decide_eq_false hw0]))
                  have hw1 : gi L (a : Nat) < 0 := by omega
                  generalize gi L (a : Nat) = y at *
                  go_wp2
                  go_roundw
                  case rel => exact ⟨a + 1, by omega, by go_num, by rw [Hs.out]; exact hz, hxr⟩
                  case measure => first | (simp [intOf]; done) | (simp [intOf]; omega)
              · obtain rfl : a = xs.length := by omega
                go_wp2
                go_ret
                exact ⟨_, rfl, by rw [HV.out]; exact hz.own (by omega), hxx.trans hxr⟩
    · rw [if_neg (fun e => hr e.2.1)] at HV
      have hr' := eq_false_of_ne_true hr
      go_enter Tryz.func12, Tryz.ntmps12
      go_wp2_with fail
      have k0 : (w.alloc (.cells #[.slice A ns.length c, .slice B ls.length d] 27)).cell? ⟨w.heap.size, 0, none⟩ = some (.slice A ns.length c) := by go_simp
      have k1 : (w.alloc (.cells #[.slice A ns.length c, .slice B ls.length d] 27)).cell? ⟨w.heap.size, 1, none⟩ = some (.slice B ls.length d) := by go_simp
      have hx : Ext w (w.alloc (.cells #[.slice A ns.length c, .slice B ls.length d] 27)) := (by repeat first | exact Ext.refl _ | assumption | refine Ext.drew ?_ | refine Ext.alloc ?_ _ | refine Ext.setCell ?_ (by simp) | refine Ext.setCell ?_ (by simp; omega) | refine Ext.trans ?_ (by assumption))
      have hsz1 : w.heap.size + 1 = (w.alloc (.cells #[.slice A ns.length c, .slice B ls.length d] 27)).heap.size := by simp
      generalize (w.alloc (.cells #[.slice A ns.length c, .slice B ls.length d] 27)) = w0 at *
      (try rw [hsz1])
      refine (WishesOk_i _ _ _ _ ns ls X xc xs _ (h.ext hx) (hX.ext hx) hxl).mono ?_
      rintro e w1 ⟨rfl, hb⟩
      have k0 := hb.lit k0
      have k1 := hb.lit k1
      have hx := hx.trans hb
      clear hb
      rw [hp]
      go_wp2_with fail
      refine (within_c _ _ _ _).mono ?_
      rintro e w2 ⟨rfl, rfl⟩
      rw [hr']
      go_wp2
      go_ret
      exact ⟨_, rfl, by rw [HV.out]; exact OwI.nil _ _, hx⟩
  · rw [if_neg (fun e => hp e.1)] at HV
    have hp' := eq_false_of_ne_true hp
    go_enter Tryz.func12, Tryz.ntmps12
    go_wp2_with fail
    have k0 : (w.alloc (.cells #[.slice A ns.length c, .slice B ls.length d] 27)).cell? ⟨w.heap.size, 0, none⟩ = some (.slice A ns.length c) := by go_simp
    have k1 : (w.alloc (.cells #[.slice A ns.length c, .slice B ls.length d] 27)).cell? ⟨w.heap.size, 1, none⟩ = some (.slice B ls.length d) := by go_simp
    have hx : Ext w (w.alloc (.cells #[.slice A ns.length c, .slice B ls.length d] 27)) := (by repeat first | exact Ext.refl _ | assumption | refine Ext.drew ?_ | refine Ext.alloc ?_ _ | refine Ext.setCell ?_ (by simp) | refine Ext.setCell ?_ (by simp; omega) | refine Ext.trans ?_ (by assumption))
    have hsz1 : w.heap.size + 1 = (w.alloc (.cells #[.slice A ns.length c, .slice B ls.length d] 27)).heap.size := by simp
    generalize (w.alloc (.cells #[.slice A ns.length c, .slice B ls.length d] 27)) = w0 at *
    (try rw [hsz1])
    refine (WishesOk_i _ _ _ _ ns ls X xc xs _ (h.ext hx) (hX.ext hx) hxl).mono ?_
    rintro e w1 ⟨rfl, hb⟩
    have k0 := hb.lit k0
    have k1 := hb.lit k1
    have hx := hx.trans hb
    clear hb
    rw [hp']
    go_wp2
    go_ret
    exact ⟨_, rfl, by rw [HV.out]; exact OwI.nil _ _, hx⟩

end Go.Proofs.YtdhmjhoaegdfjaaGreat
