import Derived.Test.YtdhmjhoaegdfjaaGreatG18
namespace Go.Proofs.YtdhmjhoaegdfjaaGreat
open Go.RowKit Go.Sort Go.BigFrame

/-- all numbers within -/
def aw (xs : List Int) (lo hi : Int) : Bool := (List.range xs.length).all (fun i => wi (gi xs (i : Nat)) lo hi)
theorem aw_yes {xs : List Int} {lo hi : Int} (h : ∀ i, i < xs.length → wi (gi xs (i : Nat)) lo hi = true) : aw xs lo hi = true := by
  unfold aw
  rw [List.all_eq_true]
  exact fun i hi => h i (List.mem_range.1 hi)
theorem aw_no {xs : List Int} {lo hi : Int} {i : Nat} (hi' : i < xs.length) (h : wi (gi xs (i : Nat)) lo hi = false) : aw xs lo hi = false := by
  rw [Bool.eq_false_iff]
  intro e
  unfold aw at e
  rw [List.all_eq_true] at e
  have := e i (List.mem_range.2 hi')
  rw [h] at this
  cases this
theorem aw_step {xs : List Int} {lo hi : Int} {j : Nat} (h : ∀ i : Nat, i < j → wi (gi xs (i : Nat)) lo hi = true) (hj : wi (gi xs (j : Nat)) lo hi = true) : ∀ i : Nat, i < j + 1 → wi (gi xs (i : Nat)) lo hi = true := fun i hi' => by
  rcases Nat.lt_succ_iff_lt_or_eq.1 hi' with h' | h'
  · exact h i h'
  · subst h'; exact hj

set_option maxHeartbeats 1000000 in
theorem allWithin_c (X : Option Addr) (c : Nat) (xs : List Int) (lo hi : Int) (w : World) (hl : xs.length ≤ 2000000) (h : In w w.heap.size X xs) :
    Calls Tryz.prog 37 #[.slice X xs.length c, .int .i64 lo, .int .i64 hi] w fun e w' => e = .returned (.bool (aw xs lo hi)) ∧ w = w' := by
  go_enter Tryz.func37, Tryz.ntmps37
  go_wp2_with fail
  go_loop [8, 11] (fun _ i => ∃ j : Nat, j ≤ xs.length ∧ i = .int .i64 j ∧ Hid (∀ i : Nat, i < j → wi (gi xs (i : Nat)) lo hi = true)) (fun _ i => xs.length - (intOf i).toNat)
  case atStart => exact ⟨0, by omega, rfl, Lib.hid (fun i hi => by omega)⟩
  case round =>
    obtain ⟨j, hj, rfl, ha⟩ := hrel
    by_cases hlt : j < xs.length
    · obtain ⟨b, off, rfl, hbb, c1⟩ := h.gi_ (k := j) hlt
      by_cases hq : wi (gi xs (j : Nat)) lo hi = true
      · have hk := Lib.hid (aw_step ha.out hq)
        generalize gi xs (j : Nat) = x at *
        go_wp2_with fail
        refine (within_c _ _ _ _).mono ?_
        rw [hq]
        rintro e w2 ⟨rfl, rfl⟩
        go_wp2
        go_round
        case rel => exact ⟨j + 1, by omega, by go_num, hk⟩
        case measure => simp [intOf]; omega
      · have hq' := eq_false_of_ne_true hq
        have HN := Lib.hid (aw_no hlt hq')
        generalize gi xs (j : Nat) = x at *
        go_wp2_with fail
        refine (within_c _ _ _ _).mono ?_
        rw [hq']
        rintro e w2 ⟨rfl, rfl⟩
        go_wp2
        go_ret
        exact ⟨ret_b (by rw [HN.out]), rfl⟩
    · obtain rfl : j = xs.length := by omega
      have HY := Lib.hid (aw_yes ha.out)
      go_wp2
      go_ret
      exact ⟨ret_b (by rw [HY.out]), rfl⟩

set_option maxHeartbeats 1000000 in
theorem l13List_c (X : Option Addr) (c n : Nat) (xs : List Int) (w : World) (_hn : n ≤ 2000000) (hl : xs.length ≤ 2000000) (h : In w w.heap.size X xs) :
    Calls Tryz.prog 40 #[.int .i64 (n : Int), .slice X xs.length c] w fun e w' => e = .returned (.bool (aw xs 0 5 && decide (xs.length = n))) ∧ w = w' := by
  go_enter Tryz.func40, Tryz.ntmps40
  go_wp2_with fail
  go_loop [5] (fun i => ∃ j : Nat, j ≤ xs.length ∧ i = .int .i64 j ∧ Hid (∀ i : Nat, i < j → wi (gi xs (i : Nat)) 0 5 = true)) (fun i => xs.length - (intOf i).toNat)
  case atStart => exact ⟨0, by omega, rfl, Lib.hid (fun i hi => by omega)⟩
  case round =>
    obtain ⟨j, hj, rfl, ha⟩ := hrel
    by_cases hlt : j < xs.length
    · obtain ⟨b, off, rfl, hbb, c1⟩ := h.gi_ (k := j) hlt
      have hji : (j : Int) < xs.length := by omega
      by_cases hq : wi (gi xs (j : Nat)) 0 5 = true
      · have hk := Lib.hid (aw_step ha.out hq)
        generalize gi xs (j : Nat) = x at *
        go_wp2_with fail
        refine (l01In_c _ _ _ _).mono ?_
        rw [hq]
        rintro e w2 ⟨rfl, rfl⟩
        go_wp2
        go_round
        case rel => exact ⟨j + 1, by omega, by go_num, hk⟩
        case measure => simp [intOf]; omega
      · have hq' := eq_false_of_ne_true hq
        have HN := Lib.hid (aw_no hlt hq')
        generalize gi xs (j : Nat) = x at *
        go_wp2_with fail
        refine (l01In_c _ _ _ _).mono ?_
        rw [hq']
        rintro e w2 ⟨rfl, rfl⟩
        go_wp2
        go_ret
        exact ⟨ret_b (by rw [HN.out]; rfl), rfl⟩
    · obtain rfl : j = xs.length := by omega
      have HY := Lib.hid (aw_yes ha.out)
      go_wp2
      go_ret
      exact ⟨ret_b (by rw [HY.out, Bool.true_and, Bool.eq_iff_iff, beq_iff_eq, decide_eq_true_eq]; omega), rfl⟩


def vColorsOk (ns ls : List P2) (xs : List Int) : Bool := whole ns ls && decide (xs.length = (vFaces ns ls).length) && aw xs 0 5
set_option maxRecDepth 100000 in
set_option maxHeartbeats 2000000 in
theorem colorsOk_i (A B : Option Addr) (c d : Nat) (ns ls : List P2) (X : Option Addr) (xc : Nat) (xs : List Int) (w : World) (h : Wn w A c B d ns ls) (hX : In w w.heap.size X xs) (hxl : xs.length ≤ 2000000) :
    Calls Tryz.prog 63 #[.agg #[.slice A ns.length c, .slice B ls.length d], .slice X xs.length xc] w fun e w' => e = .returned (.bool (vColorsOk ns ls xs)) ∧ Ext w w' := by
  have HV : Hid (vColorsOk ns ls xs = (whole ns ls && decide (xs.length = (vFaces ns ls).length) && aw xs 0 5)) := Lib.hid rfl
  have hFl := vFaces_len ns ls
  by_cases hw : whole ns ls = true
  · by_cases hl : xs.length = (vFaces ns ls).length
    · have hq : ((xs.length : Int) == ((vFaces ns ls).length : Int)) = true := by simp [hl]
      have HL := Lib.hid hl
      clear hl
      go_enter Tryz.func63, Tryz.ntmps63
      go_wp2_with fail
      have k0 : (w.alloc (.cells #[.slice A ns.length c, .slice B ls.length d] 27)).cell? ⟨w.heap.size, 0, none⟩ = some (.slice A ns.length c) := by go_simp
      have k1 : (w.alloc (.cells #[.slice A ns.length c, .slice B ls.length d] 27)).cell? ⟨w.heap.size, 1, none⟩ = some (.slice B ls.length d) := by go_simp
      have hx : Ext w (w.alloc (.cells #[.slice A ns.length c, .slice B ls.length d] 27)) := (by repeat first | exact Ext.refl _ | assumption | refine Ext.drew ?_ | refine Ext.alloc ?_ _ | refine Ext.setCell ?_ (by simp) | refine Ext.setCell ?_ (by simp; omega) | refine Ext.trans ?_ (by assumption))
      have hsz1 : w.heap.size + 1 = (w.alloc (.cells #[.slice A ns.length c, .slice B ls.length d] 27)).heap.size := by simp
      generalize (w.alloc (.cells #[.slice A ns.length c, .slice B ls.length d] 27)) = w0 at *
      (try rw [hsz1])
      refine (IsWhole_i _ _ _ _ ns ls _ (h.ext hx)).mono ?_
      rintro e w1 ⟨rfl, hb⟩
      have k0 := hb.lit k0
      have k1 := hb.lit k1
      have hx := hx.trans hb
      clear hb
      rw [hw]
      go_wp2_with fail
      refine (FacesOf_i _ _ _ _ ns ls _ (h.ext hx)).mono ?_
      rintro e w2 ⟨v, rfl, hF, -, hb⟩
      have k0 := hb.lit k0
      have k1 := hb.lit k1
      have hx := hx.trans hb
      clear hb
      obtain ⟨A1, c1, rfl, -⟩ := hF.shape
      clear hF
      generalize (vFaces ns ls).length = n at *
      go_wp2_with fail
      refine (allWithin_c X xc xs _ _ _ hxl (hX.ext hx)).mono ?_
      rintro e w3 ⟨rfl, rfl⟩
      have HE : Hid (vColorsOk ns ls xs = aw xs 0 5) := Lib.hid (by rw [HV.out, hw, decide_eq_true HL.out]; rfl)
      generalize aw xs 0 5 = r at *
      go_wp2
      go_ret
      exact ⟨ret_b (by rw [HE.out]), hx⟩
    · have hq : ((xs.length : Int) == ((vFaces ns ls).length : Int)) = false := beq_eq_false_iff_ne.2 (by omega)
      have HE : Hid (vColorsOk ns ls xs = false) := Lib.hid (by rw [HV.out, decide_eq_false hl]; simp)
      clear hl HV
      go_enter Tryz.func63, Tryz.ntmps63
      go_wp2_with fail
      have k0 : (w.alloc (.cells #[.slice A ns.length c, .slice B ls.length d] 27)).cell? ⟨w.heap.size, 0, none⟩ = some (.slice A ns.length c) := by go_simp
      have k1 : (w.alloc (.cells #[.slice A ns.length c, .slice B ls.length d] 27)).cell? ⟨w.heap.size, 1, none⟩ = some (.slice B ls.length d) := by go_simp
      have hx : Ext w (w.alloc (.cells #[.slice A ns.length c, .slice B ls.length d] 27)) := (by repeat first | exact Ext.refl _ | assumption | refine Ext.drew ?_ | refine Ext.alloc ?_ _ | refine Ext.setCell ?_ (by simp) | refine Ext.setCell ?_ (by simp; omega) | refine Ext.trans ?_ (by assumption))
      have hsz1 : w.heap.size + 1 = (w.alloc (.cells #[.slice A ns.length c, .slice B ls.length d] 27)).heap.size := by simp
      generalize (w.alloc (.cells #[.slice A ns.length c, .slice B ls.length d] 27)) = w0 at *
      (try rw [hsz1])
      refine (IsWhole_i _ _ _ _ ns ls _ (h.ext hx)).mono ?_
      rintro e w1 ⟨rfl, hb⟩
      have k0 := hb.lit k0
      have k1 := hb.lit k1
      have hx := hx.trans hb
      clear hb
      rw [hw]
      go_wp2_with fail
      refine (FacesOf_i _ _ _ _ ns ls _ (h.ext hx)).mono ?_
      rintro e w2 ⟨v, rfl, hF, -, hb⟩
      have k0 := hb.lit k0
      have k1 := hb.lit k1
      have hx := hx.trans hb
      clear hb
      obtain ⟨A1, c1, rfl, -⟩ := hF.shape
      clear hF
      generalize (vFaces ns ls).length = n at *
      go_wp2
      go_ret
      exact ⟨ret_b (by rw [HE.out]), hx⟩
  · have hw' := eq_false_of_ne_true hw
    have HE : Hid (vColorsOk ns ls xs = false) := Lib.hid (by rw [HV.out, hw']; simp)
    go_enter Tryz.func63, Tryz.ntmps63
    go_wp2_with fail
    have k0 : (w.alloc (.cells #[.slice A ns.length c, .slice B ls.length d] 27)).cell? ⟨w.heap.size, 0, none⟩ = some (.slice A ns.length c) := by go_simp
    have k1 : (w.alloc (.cells #[.slice A ns.length c, .slice B ls.length d] 27)).cell? ⟨w.heap.size, 1, none⟩ = some (.slice B ls.length d) := by go_simp
    have hx : Ext w (w.alloc (.cells #[.slice A ns.length c, .slice B ls.length d] 27)) := (by repeat first | exact Ext.refl _ | assumption | refine Ext.drew ?_ | refine Ext.alloc ?_ _ | refine Ext.setCell ?_ (by simp) | refine Ext.setCell ?_ (by simp; omega) | refine Ext.trans ?_ (by assumption))
    have hsz1 : w.heap.size + 1 = (w.alloc (.cells #[.slice A ns.length c, .slice B ls.length d] 27)).heap.size := by simp
    generalize (w.alloc (.cells #[.slice A ns.length c, .slice B ls.length d] 27)) = w0 at *
    (try rw [hsz1])
    refine (IsWhole_i _ _ _ _ ns ls _ (h.ext hx)).mono ?_
    rintro e w1 ⟨rfl, hb⟩
    have k0 := hb.lit k0
    have k1 := hb.lit k1
    have hx := hx.trans hb
    clear hb
    rw [hw']
    go_wp2
    go_ret
    exact ⟨ret_b (by rw [HE.out]), hx⟩

def vWishesOk (ns ls : List P2) (xs : List Int) : Bool := whole ns ls && decide (xs.length = (vFaces ns ls).length) && aw xs (-1) 5
set_option maxRecDepth 100000 in
set_option maxHeartbeats 2000000 in
theorem WishesOk_i (A B : Option Addr) (c d : Nat) (ns ls : List P2) (X : Option Addr) (xc : Nat) (xs : List Int) (w : World) (h : Wn w A c B d ns ls) (hX : In w w.heap.size X xs) (hxl : xs.length ≤ 2000000) :
    Calls Tryz.prog 10 #[.agg #[.slice A ns.length c, .slice B ls.length d], .slice X xs.length xc] w fun e w' => e = .returned (.bool (vWishesOk ns ls xs)) ∧ Ext w w' := by
  have HV : Hid (vWishesOk ns ls xs = (whole ns ls && decide (xs.length = (vFaces ns ls).length) && aw xs (-1) 5)) := Lib.hid rfl
  have hFl := vFaces_len ns ls
  by_cases hw : whole ns ls = true
  · by_cases hl : xs.length = (vFaces ns ls).length
    · have hq : ((xs.length : Int) == ((vFaces ns ls).length : Int)) = true := by simp [hl]
      have HL := Lib.hid hl
      clear hl
      go_enter Tryz.func10, Tryz.ntmps10
      go_wp2_with fail
      have k0 : (w.alloc (.cells #[.slice A ns.length c, .slice B ls.length d] 27)).cell? ⟨w.heap.size, 0, none⟩ = some (.slice A ns.length c) := by go_simp
      have k1 : (w.alloc (.cells #[.slice A ns.length c, .slice B ls.length d] 27)).cell? ⟨w.heap.size, 1, none⟩ = some (.slice B ls.length d) := by go_simp
      have hx : Ext w (w.alloc (.cells #[.slice A ns.length c, .slice B ls.length d] 27)) := (by repeat first | exact Ext.refl _ | assumption | refine Ext.drew ?_ | refine Ext.alloc ?_ _ | refine Ext.setCell ?_ (by simp) | refine Ext.setCell ?_ (by simp; omega) | refine Ext.trans ?_ (by assumption))
      have hsz1 : w.heap.size + 1 = (w.alloc (.cells #[.slice A ns.length c, .slice B ls.length d] 27)).heap.size := by simp
      generalize (w.alloc (.cells #[.slice A ns.length c, .slice B ls.length d] 27)) = w0 at *
      (try rw [hsz1])
      refine (IsWhole_i _ _ _ _ ns ls _ (h.ext hx)).mono ?_
      rintro e w1 ⟨rfl, hb⟩
      have k0 := hb.lit k0
      have k1 := hb.lit k1
      have hx := hx.trans hb
      clear hb
      rw [hw]
      go_wp2_with fail
      refine (FacesOf_i _ _ _ _ ns ls _ (h.ext hx)).mono ?_
      rintro e w2 ⟨v, rfl, hF, -, hb⟩
      have k0 := hb.lit k0
      have k1 := hb.lit k1
      have hx := hx.trans hb
      clear hb
      obtain ⟨A1, c1, rfl, -⟩ := hF.shape
      clear hF
      generalize (vFaces ns ls).length = n at *
      go_wp2_with fail
      refine (allWithin_c X xc xs _ _ _ hxl (hX.ext hx)).mono ?_
      rintro e w3 ⟨rfl, rfl⟩
      have HE : Hid (vWishesOk ns ls xs = aw xs (-1) 5) := Lib.hid (by rw [HV.out, hw, decide_eq_true HL.out]; rfl)
      generalize aw xs (-1) 5 = r at *
      go_wp2
      go_ret
      exact ⟨ret_b (by rw [HE.out]), hx⟩
    · have hq : ((xs.length : Int) == ((vFaces ns ls).length : Int)) = false := beq_eq_false_iff_ne.2 (by omega)
      have HE : Hid (vWishesOk ns ls xs = false) := Lib.hid (by rw [HV.out, decide_eq_false hl]; simp)
      clear hl HV
      go_enter Tryz.func10, Tryz.ntmps10
      go_wp2_with fail
      have k0 : (w.alloc (.cells #[.slice A ns.length c, .slice B ls.length d] 27)).cell? ⟨w.heap.size, 0, none⟩ = some (.slice A ns.length c) := by go_simp
      have k1 : (w.alloc (.cells #[.slice A ns.length c, .slice B ls.length d] 27)).cell? ⟨w.heap.size, 1, none⟩ = some (.slice B ls.length d) := by go_simp
      have hx : Ext w (w.alloc (.cells #[.slice A ns.length c, .slice B ls.length d] 27)) := (by repeat first | exact Ext.refl _ | assumption | refine Ext.drew ?_ | refine Ext.alloc ?_ _ | refine Ext.setCell ?_ (by simp) | refine Ext.setCell ?_ (by simp; omega) | refine Ext.trans ?_ (by assumption))
      have hsz1 : w.heap.size + 1 = (w.alloc (.cells #[.slice A ns.length c, .slice B ls.length d] 27)).heap.size := by simp
      generalize (w.alloc (.cells #[.slice A ns.length c, .slice B ls.length d] 27)) = w0 at *
      (try rw [hsz1])
      refine (IsWhole_i _ _ _ _ ns ls _ (h.ext hx)).mono ?_
      rintro e w1 ⟨rfl, hb⟩
      have k0 := hb.lit k0
      have k1 := hb.lit k1
      have hx := hx.trans hb
      clear hb
      rw [hw]
      go_wp2_with fail
      refine (FacesOf_i _ _ _ _ ns ls _ (h.ext hx)).mono ?_
      rintro e w2 ⟨v, rfl, hF, -, hb⟩
      have k0 := hb.lit k0
      have k1 := hb.lit k1
      have hx := hx.trans hb
      clear hb
      obtain ⟨A1, c1, rfl, -⟩ := hF.shape
      clear hF
      generalize (vFaces ns ls).length = n at *
      go_wp2
      go_ret
      exact ⟨ret_b (by rw [HE.out]), hx⟩
  · have hw' := eq_false_of_ne_true hw
    have HE : Hid (vWishesOk ns ls xs = false) := Lib.hid (by rw [HV.out, hw']; simp)
    go_enter Tryz.func10, Tryz.ntmps10
    go_wp2_with fail
    have k0 : (w.alloc (.cells #[.slice A ns.length c, .slice B ls.length d] 27)).cell? ⟨w.heap.size, 0, none⟩ = some (.slice A ns.length c) := by go_simp
    have k1 : (w.alloc (.cells #[.slice A ns.length c, .slice B ls.length d] 27)).cell? ⟨w.heap.size, 1, none⟩ = some (.slice B ls.length d) := by go_simp
    have hx : Ext w (w.alloc (.cells #[.slice A ns.length c, .slice B ls.length d] 27)) := (by repeat first | exact Ext.refl _ | assumption | refine Ext.drew ?_ | refine Ext.alloc ?_ _ | refine Ext.setCell ?_ (by simp) | refine Ext.setCell ?_ (by simp; omega) | refine Ext.trans ?_ (by assumption))
    have hsz1 : w.heap.size + 1 = (w.alloc (.cells #[.slice A ns.length c, .slice B ls.length d] 27)).heap.size := by simp
    generalize (w.alloc (.cells #[.slice A ns.length c, .slice B ls.length d] 27)) = w0 at *
    (try rw [hsz1])
    refine (IsWhole_i _ _ _ _ ns ls _ (h.ext hx)).mono ?_
    rintro e w1 ⟨rfl, hb⟩
    have k0 := hb.lit k0
    have k1 := hb.lit k1
    have hx := hx.trans hb
    clear hb
    rw [hw']
    go_wp2
    go_ret
    exact ⟨ret_b (by rw [HE.out]), hx⟩

set_option maxRecDepth 100000 in
set_option maxHeartbeats 2000000 in
theorem WishesOk_s (A B : Option Addr) (c d : Nat) (ns ls : List P2) (X : Option Addr) (xc : Nat) (xs : List Int) (w : World) (h : Wn w A c B d ns ls) (hX : In w w.heap.size X xs) (hxl : xs.length ≤ 2000000) :
    Calls Tryz.prog 8 #[.agg #[.slice A ns.length c, .slice B ls.length d], .slice X xs.length xc] w fun e w' => e = .returned (.bool (vWishesOk ns ls xs)) ∧ Ext w w' := by
  have HV : Hid (vWishesOk ns ls xs = (whole ns ls && decide (xs.length = (vFaces ns ls).length) && aw xs (-1) 5)) := Lib.hid rfl
  have hFl := vFaces_len ns ls
  go_enter Tryz.func8, Tryz.ntmps8
  go_wp2_with fail
  have k0 : (w.alloc (.cells #[.slice A ns.length c, .slice B ls.length d] 27)).cell? ⟨w.heap.size, 0, none⟩ = some (.slice A ns.length c) := by go_simp
  have k1 : (w.alloc (.cells #[.slice A ns.length c, .slice B ls.length d] 27)).cell? ⟨w.heap.size, 1, none⟩ = some (.slice B ls.length d) := by go_simp
  have hx : Ext w (w.alloc (.cells #[.slice A ns.length c, .slice B ls.length d] 27)) := (by repeat first | exact Ext.refl _ | assumption | refine Ext.drew ?_ | refine Ext.alloc ?_ _ | refine Ext.setCell ?_ (by simp) | refine Ext.setCell ?_ (by simp; omega) | refine Ext.trans ?_ (by assumption))
  have hsz1 : w.heap.size + 1 = (w.alloc (.cells #[.slice A ns.length c, .slice B ls.length d] 27)).heap.size := by simp
  generalize (w.alloc (.cells #[.slice A ns.length c, .slice B ls.length d] 27)) = w0 at *
  (try rw [hsz1])
  go_loop [5] (fun i => ∃ j : Nat, j ≤ xs.length ∧ i = .int .i64 j ∧ Hid (∀ i : Nat, i < j → wi (gi xs (i : Nat)) (-1) 5 = true)) (fun i => xs.length - (intOf i).toNat)
  case atStart => exact ⟨0, by omega, rfl, Lib.hid (fun i hi => by omega)⟩
  case round =>
    obtain ⟨j, hj, rfl, ha⟩ := hrel
    by_cases hlt : j < xs.length
    · obtain ⟨b, off, rfl, hbb, c1⟩ := (hX.ext hx).gi_ (k := j) hlt
      have hji : (j : Int) < xs.length := by omega
      by_cases hq : wi (gi xs (j : Nat)) (-1) 5 = true
      · have hk := Lib.hid (aw_step ha.out hq)
        generalize gi xs (j : Nat) = x at *
        go_wp2_with fail
        refine (l01In_c _ _ _ _).mono ?_
        rw [hq]
        rintro e w2 ⟨rfl, rfl⟩
        go_wp2
        go_round
        case rel => exact ⟨j + 1, by omega, by go_num, hk⟩
        case measure => simp [intOf]; omega
      · have hq' := eq_false_of_ne_true hq
        have HN := Lib.hid (aw_no hlt hq')
        generalize gi xs (j : Nat) = x at *
        go_wp2_with fail
        refine (l01In_c _ _ _ _).mono ?_
        rw [hq']
        rintro e w2 ⟨rfl, rfl⟩
        go_wp2
        go_ret
        exact ⟨ret_b (by rw [HV.out, HN.out]; simp), hx⟩
    · obtain rfl : j = xs.length := by omega
      have HY := Lib.hid (aw_yes ha.out)
      rw [HY.out] at HV
      by_cases hw : whole ns ls = true
      · go_wp2_with fail
        refine (IsWhole_s _ _ _ _ ns ls _ (h.ext hx)).mono ?_
        rintro e w1 ⟨rfl, hb⟩
        have k0 := hb.lit k0
        have k1 := hb.lit k1
        have hx := hx.trans hb
        clear hb
        rw [hw]
        go_wp2_with fail
        refine (FacesOf_s _ _ _ _ ns ls _ (h.ext hx)).mono ?_
        rintro e w2 ⟨v, rfl, hF, hb⟩
        have hx := hx.trans hb
        clear hb k0 k1
        obtain ⟨A1, c1, rfl, -⟩ := hF.shape
        clear hF
        generalize (vFaces ns ls).length = n at *
        go_wp2
        go_ret
        exact ⟨ret_b (by rw [HV.out, hw, Bool.true_and, Bool.and_true, Bool.eq_iff_iff, beq_iff_eq, decide_eq_true_eq]; omega), hx⟩
      · have hw' := eq_false_of_ne_true hw
        go_wp2_with fail
        refine (IsWhole_s _ _ _ _ ns ls _ (h.ext hx)).mono ?_
        rintro e w1 ⟨rfl, hb⟩
        rw [hw']
        go_wp2
        go_ret
        exact ⟨ret_b (by rw [HV.out, hw']; rfl), hx.trans hb⟩
end Go.Proofs.YtdhmjhoaegdfjaaGreat
