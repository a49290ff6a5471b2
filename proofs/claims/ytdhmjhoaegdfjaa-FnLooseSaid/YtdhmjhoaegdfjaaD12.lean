import Derived.Test.YtdhmjhoaegdfjaaD11
namespace Go.Proofs.Ytdhmjhoaegdfjaa
open Go.RowKit Go.Sort Go.BigFrame

theorem wi_iff {n lo hi : Int} : wi n lo hi = true ↔ lo ≤ n ∧ n ≤ hi := by simp [wi]
def hasF (ns ls : List P2) (f : Int) : Bool := wi f 0 ((vFaces ns ls).length - 1)
theorem hasF_iff {ns ls : List P2} {f : Int} : hasF ns ls f = true ↔ 0 ≤ f ∧ f < (vFaces ns ls).length := by
  unfold hasF
  rw [wi_iff]
  omega
theorem hasF_whole {ns ls : List P2} {f : Int} (h : hasF ns ls f = true) : whole ns ls = true := by
  rw [hasF_iff] at h
  unfold vFaces at h
  split at h
  · assumption
  · simp at h; omega

set_option maxHeartbeats 1000000 in
theorem hasFace_i (A B : Option Addr) (c d : Nat) (ns ls : List P2) (f : Int) (w : World) (h : Wn w A c B d ns ls) :
    Calls Try.prog 79 #[.agg #[.slice A ns.length c, .slice B ls.length d], .int .i64 f] w fun e w' => e = .returned (.bool (hasF ns ls f)) ∧ Ext w w' := by
  have HF : Hid (hasF ns ls f = wi f 0 ((vFaces ns ls).length - 1)) := Lib.hid rfl
  have hl := vFaces_len ns ls
  go_enter Try.func79, Try.ntmps79
  go_wp2_with fail
  have k0 : (w.alloc (.cells #[.slice A ns.length c, .slice B ls.length d] 27)).cell? ⟨w.heap.size, 0, none⟩ = some (.slice A ns.length c) := by go_simp
  have k1 : (w.alloc (.cells #[.slice A ns.length c, .slice B ls.length d] 27)).cell? ⟨w.heap.size, 1, none⟩ = some (.slice B ls.length d) := by go_simp
  have hx : Ext w (w.alloc (.cells #[.slice A ns.length c, .slice B ls.length d] 27)) := (by repeat first | exact Ext.refl _ | assumption | refine Ext.drew ?_ | refine Ext.alloc ?_ _ | refine Ext.setCell ?_ (by simp) | refine Ext.setCell ?_ (by simp; omega) | refine Ext.trans ?_ (by assumption))
  have hsz1 : w.heap.size + 1 = (w.alloc (.cells #[.slice A ns.length c, .slice B ls.length d] 27)).heap.size := by simp
  generalize (w.alloc (.cells #[.slice A ns.length c, .slice B ls.length d] 27)) = w0 at *
  (try rw [hsz1])
  refine (FacesOf_i _ _ _ _ ns ls _ (h.ext hx)).mono ?_
  rintro e w1 ⟨v, rfl, hF, -, hb⟩
  obtain ⟨A1, c1, rfl, -⟩ := hF.shape
  have hx := hx.trans hb
  clear hb k0 k1 hF
  generalize (vFaces ns ls).length = n at *
  go_wp2_with fail
  refine (within_c _ _ _ _).mono ?_
  rintro e w2 ⟨rfl, rfl⟩
  go_wp2
  go_ret
  exact ⟨ret_b (by rw [HF.out]), hx⟩

def vSidesOf (ns ls : List P2) (k : Int) : P2 := if whole ns ls = true ∧ wi k 0 (ls.length - 1) = true then (gi (vSides ns ls) (2 * k), gi (vSides ns ls) (2 * k + 1)) else (-1, -1)


set_option maxRecDepth 100000 in
set_option maxHeartbeats 2000000 in
theorem SidesOf_i (A B : Option Addr) (c d : Nat) (ns ls : List P2) (k : Int) (w : World) (h : Wn w A c B d ns ls) :
    Calls Try.prog 34 #[.agg #[.slice A ns.length c, .slice B ls.length d], .int .i64 k] w fun e w' => e = .returned (.tuple #[.int .i64 (vSidesOf ns ls k).1, .int .i64 (vSidesOf ns ls k).2]) ∧ Ext w w' := by
  have HS : Hid (vSidesOf ns ls k = if whole ns ls = true ∧ wi k 0 (ls.length - 1) = true then (gi (vSides ns ls) (2 * k), gi (vSides ns ls) (2 * k + 1)) else (-1, -1)) := Lib.hid rfl
  by_cases hw : whole ns ls = true
  · obtain ⟨hW, hm0⟩ := whole_ok hw
    have hm := hW.le
    have HSL := Lib.hid (vSides_len hw)
    clear hW
    go_enter Try.func34, Try.ntmps34
    go_wp2_with fail
    have k0 : (w.alloc (.cells #[.slice A ns.length c, .slice B ls.length d] 27)).cell? ⟨w.heap.size, 0, none⟩ = some (.slice A ns.length c) := by go_simp
    have k1 : (w.alloc (.cells #[.slice A ns.length c, .slice B ls.length d] 27)).cell? ⟨w.heap.size, 1, none⟩ = some (.slice B ls.length d) := by go_simp
    have hx : Ext w (w.alloc (.cells #[.slice A ns.length c, .slice B ls.length d] 27)) := (by repeat first | exact Ext.refl _ | assumption | refine Ext.drew ?_ | refine Ext.alloc ?_ _ | refine Ext.setCell ?_ (by simp) | refine Ext.setCell ?_ (by simp; omega) | refine Ext.trans ?_ (by assumption))
    have hsz1 : w.heap.size + 1 = (w.alloc (.cells #[.slice A ns.length c, .slice B ls.length d] 27)).heap.size := by simp
    generalize (w.alloc (.cells #[.slice A ns.length c, .slice B ls.length d] 27)) = w0 at *
    (try rw [hsz1])
    refine (facesAt_i _ _ _ _ ns ls _ (h.ext hx)).mono ?_
    rintro e w1 ⟨v, rfl, hv, -, hb⟩
    have k0 := hb.lit k0
    have k1 := hb.lit k1
    have hx := hx.trans hb
    clear hb
    obtain ⟨g, cp, rfl, -, -, -, -, -⟩ := hv.gi_ (j := 0) (by rw [HSL.out]; omega)
    rw [HSL.out] at hv
    rw [HSL.out]
    go_wp2_with fail
    refine (within_c _ _ _ _).mono ?_
    rintro e w2 ⟨rfl, rfl⟩
    by_cases hk : wi k 0 (ls.length - 1) = true
    · have HQ := Lib.hid hk
      rw [hk]
      obtain ⟨q1, q2⟩ := wi_iff.1 hk
      obtain ⟨j, rfl⟩ := Int.eq_ofNat_of_zero_le q1
      have hj : j < ls.length := by omega
      have c1 := (hv.cel (j := 2 * j) (by rw [HSL.out]; omega)).1
      have c2 := (hv.cel (j := 2 * j + 1) (by rw [HSL.out]; omega)).1
      have y1 : ((2 * j : Nat) : Int) = 2 * (j : Int) := by omega
      have y2 : ((2 * j + 1 : Nat) : Int) = 2 * (j : Int) + 1 := by omega
      rw [y1] at c1
      rw [y2] at c2
      have z1 : (2 * (j : Int)).toNat = 2 * j := by omega
      have z2 : (2 * (j : Int) + 1).toNat = 2 * j + 1 := by omega
      have z3 : 2 * (j : Int) < 2 * (ls.length : Int) := by omega
      have z4 : 2 * (j : Int) + 1 < 2 * (ls.length : Int) := by omega
      clear y1 y2
      have d0 := cell_regrown c1
      have d1 := cell_regrown c2
      go_wp2_with fail
      refine rx_open [(true, 0, some 20, 64), (true, 0, some 21, 2), (true, 2, some 22, 2097152), (true, 5, some 23, 5242880), (true, 8, some 24, 8388608), (true, 0, some 25, 64), (true, 0, some 26, 2), (true, 64, some 27, 67108864), (true, 128, some 28, 134217728), (true, 288, some 29, 301989888), (true, 512, some 30, 536870912), (true, 31, some 4, 16777216), (true, 4095, some 5, 1073741824)] 0 13 mixd rfl (by kernel_rfl) (by kernel_rfl) (by kernel_rfl) ?_
      refine rx_run (run := [0, 1, 2, 3, 4, 5, 6, 7, 8, 9, 10, 11, 12]) (k := 0) (m' := 8191) rfl (by kernel_rfl) (by kernel_rfl) (by kernel_rfl) (fm_cons rfl <| fm_cons rfl <| fm_cons rfl <| fm_cons rfl <| fm_cons rfl <| fm_cons rfl <| fm_cons rfl <| fm_cons rfl <| fm_cons rfl <| fm_cons rfl <| fm_cons rfl <| fm_cons rfl <| fm_cons rfl <| List.filterMap_nil) (by repeat first | exact Ext.refl _ | assumption | refine Ext.drew ?_ | refine Ext.alloc ?_ _ | refine Ext.setCell ?_ (by simp) | refine Ext.setCell ?_ (by simp; omega) | refine Ext.trans ?_ (by assumption)) ?_
      repeat (go_big_quiet_step ((fail)))
      refine wpQuiet_nil ?_
      refine rx_end (by kernel_rfl) ?_
      go_wp2
      go_ret2
      exact ⟨by rw [HS.out, if_pos ⟨hw, HQ.out⟩]; rfl, (by repeat first | exact Ext.refl _ | assumption | refine Ext.drew ?_ | refine Ext.alloc ?_ _ | refine Ext.setCell ?_ (by simp) | refine Ext.setCell ?_ (by simp; omega) | refine Ext.trans ?_ (by assumption))⟩
    · have hk' := eq_false_of_ne_true hk
      rw [hk']
      go_wp2
      go_ret2
      exact ⟨by rw [HS.out, if_neg (fun e => hk e.2)]; rfl, hx⟩
  · have hw' := eq_false_of_ne_true hw
    go_enter Try.func34, Try.ntmps34
    go_wp2_with fail
    have k0 : (w.alloc (.cells #[.slice A ns.length c, .slice B ls.length d] 27)).cell? ⟨w.heap.size, 0, none⟩ = some (.slice A ns.length c) := by go_simp
    have k1 : (w.alloc (.cells #[.slice A ns.length c, .slice B ls.length d] 27)).cell? ⟨w.heap.size, 1, none⟩ = some (.slice B ls.length d) := by go_simp
    have hx : Ext w (w.alloc (.cells #[.slice A ns.length c, .slice B ls.length d] 27)) := (by repeat first | exact Ext.refl _ | assumption | refine Ext.drew ?_ | refine Ext.alloc ?_ _ | refine Ext.setCell ?_ (by simp) | refine Ext.setCell ?_ (by simp; omega) | refine Ext.trans ?_ (by assumption))
    have hsz1 : w.heap.size + 1 = (w.alloc (.cells #[.slice A ns.length c, .slice B ls.length d] 27)).heap.size := by simp
    generalize (w.alloc (.cells #[.slice A ns.length c, .slice B ls.length d] 27)) = w0 at *
    (try rw [hsz1])
    refine (facesAt_i _ _ _ _ ns ls _ (h.ext hx)).mono ?_
    rintro e w1 ⟨v, rfl, -, hv, hb⟩
    obtain rfl := hv hw'
    go_wp2
    go_ret2
    exact ⟨by rw [HS.out, if_neg (fun e => hw e.1)]; rfl, hx.trans hb⟩

set_option maxRecDepth 100000 in
set_option maxHeartbeats 2000000 in
theorem SidesOf_s (A B : Option Addr) (c d : Nat) (ns ls : List P2) (k : Int) (w : World) (h : Wn w A c B d ns ls) :
    Calls Try.prog 16 #[.agg #[.slice A ns.length c, .slice B ls.length d], .int .i64 k] w fun e w' => e = .returned (.tuple #[.int .i64 (vSidesOf ns ls k).1, .int .i64 (vSidesOf ns ls k).2]) ∧ Ext w w' := by
  have HS : Hid (vSidesOf ns ls k = if whole ns ls = true ∧ wi k 0 (ls.length - 1) = true then (gi (vSides ns ls) (2 * k), gi (vSides ns ls) (2 * k + 1)) else (-1, -1)) := Lib.hid rfl
  by_cases hw : whole ns ls = true
  · obtain ⟨hW, hm0⟩ := whole_ok hw
    have hm := hW.le
    have HSL := Lib.hid (vSides_len hw)
    clear hW
    have HWW := Lib.hid hw
    go_enter Try.func16, Try.ntmps16
    go_wp2_with fail
    have k0 : (w.alloc (.cells #[.slice A ns.length c, .slice B ls.length d] 27)).cell? ⟨w.heap.size, 0, none⟩ = some (.slice A ns.length c) := by go_simp
    have k1 : (w.alloc (.cells #[.slice A ns.length c, .slice B ls.length d] 27)).cell? ⟨w.heap.size, 1, none⟩ = some (.slice B ls.length d) := by go_simp
    have hx : Ext w (w.alloc (.cells #[.slice A ns.length c, .slice B ls.length d] 27)) := (by repeat first | exact Ext.refl _ | assumption | refine Ext.drew ?_ | refine Ext.alloc ?_ _ | refine Ext.setCell ?_ (by simp) | refine Ext.setCell ?_ (by simp; omega) | refine Ext.trans ?_ (by assumption))
    have hsz1 : w.heap.size + 1 = (w.alloc (.cells #[.slice A ns.length c, .slice B ls.length d] 27)).heap.size := by simp
    generalize (w.alloc (.cells #[.slice A ns.length c, .slice B ls.length d] 27)) = w0 at *
    (try rw [hsz1])
    refine (IsWhole_s _ _ _ _ ns ls _ (h.ext hx)).mono ?_
    rintro e w1 ⟨rfl, hb⟩
    have k0 := hb.lit k0
    have k1 := hb.lit k1
    have hx := hx.trans hb
    clear hb
    rw [hw]
    go_wp2_with fail
    refine (l01In_c _ _ _ _).mono ?_
    rintro e w2 ⟨rfl, rfl⟩
    by_cases hk : wi k 0 (ls.length - 1) = true
    · have HQ := Lib.hid hk
      rw [hk]
      go_wp2_with fail
      refine (l09Sides_s _ _ _ _ ns ls _ (h.ext hx) HWW.out).mono ?_
      rintro e w3 ⟨v, rfl, hv, hb⟩
      have k0 := hb.lit k0
      have k1 := hb.lit k1
      have hx := hx.trans hb
      clear hb
      obtain ⟨g, cp, rfl, -, -, -, -, -⟩ := hv.gi_ (j := 0) (by rw [HSL.out]; omega)
      rw [HSL.out] at hv
      rw [HSL.out]
      obtain ⟨q1, q2⟩ := wi_iff.1 hk
      obtain ⟨j, rfl⟩ := Int.eq_ofNat_of_zero_le q1
      have hj : j < ls.length := by omega
      have c1 := (hv.cel (j := 2 * j) (by rw [HSL.out]; omega)).1
      have c2 := (hv.cel (j := 2 * j + 1) (by rw [HSL.out]; omega)).1
      have y1 : ((2 * j : Nat) : Int) = 2 * (j : Int) := by omega
      have y2 : ((2 * j + 1 : Nat) : Int) = 2 * (j : Int) + 1 := by omega
      rw [y1] at c1
      rw [y2] at c2
      have z1 : (2 * (j : Int)).toNat = 2 * j := by omega
      have z2 : (2 * (j : Int) + 1).toNat = 2 * j + 1 := by omega
      have z3 : 2 * (j : Int) < 2 * (ls.length : Int) := by omega
      have z4 : 2 * (j : Int) + 1 < 2 * (ls.length : Int) := by omega
      clear y1 y2
      have d0 := cell_regrown c1
      have d1 := cell_regrown c2
      go_wp2_with fail
      refine rx_open [(true, 0, some 21, 64), (true, 0, some 22, 2), (true, 2, some 23, 4194304), (true, 5, some 24, 10485760), (true, 8, some 25, 16777216), (true, 0, some 26, 64), (true, 0, some 27, 2), (true, 64, some 28, 134217728), (true, 128, some 29, 268435456), (true, 288, some 30, 603979776), (true, 512, some 31, 1073741824), (true, 31, some 4, 33554432), (true, 4095, some 5, 2147483648)] 0 13 mixd rfl (by kernel_rfl) (by kernel_rfl) (by kernel_rfl) ?_
      refine rx_run (run := [0, 1, 2, 3, 4, 5, 6, 7, 8, 9, 10, 11, 12]) (k := 0) (m' := 8191) rfl (by kernel_rfl) (by kernel_rfl) (by kernel_rfl) (fm_cons rfl <| fm_cons rfl <| fm_cons rfl <| fm_cons rfl <| fm_cons rfl <| fm_cons rfl <| fm_cons rfl <| fm_cons rfl <| fm_cons rfl <| fm_cons rfl <| fm_cons rfl <| fm_cons rfl <| fm_cons rfl <| List.filterMap_nil) (by repeat first | exact Ext.refl _ | assumption | refine Ext.drew ?_ | refine Ext.alloc ?_ _ | refine Ext.setCell ?_ (by simp) | refine Ext.setCell ?_ (by simp; omega) | refine Ext.trans ?_ (by assumption)) ?_
      repeat (go_big_quiet_step ((fail)))
      refine wpQuiet_nil ?_
      refine rx_end (by kernel_rfl) ?_
      go_wp2
      go_ret2
      exact ⟨by rw [HS.out, if_pos ⟨HWW.out, HQ.out⟩]; rfl, (by repeat first | exact Ext.refl _ | assumption | refine Ext.drew ?_ | refine Ext.alloc ?_ _ | refine Ext.setCell ?_ (by simp) | refine Ext.setCell ?_ (by simp; omega) | refine Ext.trans ?_ (by assumption))⟩
    · have hk' := eq_false_of_ne_true hk
      rw [hk']
      go_wp2
      go_ret2
      exact ⟨by rw [HS.out, if_neg (fun e => hk e.2)]; rfl, hx⟩
  · have hw' := eq_false_of_ne_true hw
    go_enter Try.func16, Try.ntmps16
    go_wp2_with fail
    have k0 : (w.alloc (.cells #[.slice A ns.length c, .slice B ls.length d] 27)).cell? ⟨w.heap.size, 0, none⟩ = some (.slice A ns.length c) := by go_simp
    have k1 : (w.alloc (.cells #[.slice A ns.length c, .slice B ls.length d] 27)).cell? ⟨w.heap.size, 1, none⟩ = some (.slice B ls.length d) := by go_simp
    have hx : Ext w (w.alloc (.cells #[.slice A ns.length c, .slice B ls.length d] 27)) := (by repeat first | exact Ext.refl _ | assumption | refine Ext.drew ?_ | refine Ext.alloc ?_ _ | refine Ext.setCell ?_ (by simp) | refine Ext.setCell ?_ (by simp; omega) | refine Ext.trans ?_ (by assumption))
    have hsz1 : w.heap.size + 1 = (w.alloc (.cells #[.slice A ns.length c, .slice B ls.length d] 27)).heap.size := by simp
    generalize (w.alloc (.cells #[.slice A ns.length c, .slice B ls.length d] 27)) = w0 at *
    (try rw [hsz1])
    refine (IsWhole_s _ _ _ _ ns ls _ (h.ext hx)).mono ?_
    rintro e w1 ⟨rfl, hb⟩
    have k0 := hb.lit k0
    have k1 := hb.lit k1
    have hx := hx.trans hb
    clear hb
    rw [hw']
    go_wp2
    go_ret2
    exact ⟨by rw [HS.out, if_neg (fun e => hw e.1)]; rfl, hx⟩

def vIsLoose (ns ls : List P2) (k : Int) : Bool := decide (0 ≤ (vSidesOf ns ls k).1) && decide ((vSidesOf ns ls k).1 = (vSidesOf ns ls k).2)
set_option maxRecDepth 100000 in
set_option maxHeartbeats 2000000 in
theorem IsLoose_i (A B : Option Addr) (c d : Nat) (ns ls : List P2) (k : Int) (w : World) (h : Wn w A c B d ns ls) :
    Calls Try.prog 50 #[.agg #[.slice A ns.length c, .slice B ls.length d], .int .i64 k] w fun e w' => e = .returned (.bool (vIsLoose ns ls k)) ∧ Ext w w' := by
  have HV : Hid (vIsLoose ns ls k = (decide (0 ≤ (vSidesOf ns ls k).1) && decide ((vSidesOf ns ls k).1 = (vSidesOf ns ls k).2))) := Lib.hid rfl
  by_cases h0 : 0 ≤ (vSidesOf ns ls k).1
  · have hd : decide (0 ≤ (vSidesOf ns ls k).1) = true := decide_eq_true h0
    go_enter Try.func50, Try.ntmps50
    go_wp2_with fail
    have k0 : (w.alloc (.cells #[.slice A ns.length c, .slice B ls.length d] 27)).cell? ⟨w.heap.size, 0, none⟩ = some (.slice A ns.length c) := by go_simp
    have k1 : (w.alloc (.cells #[.slice A ns.length c, .slice B ls.length d] 27)).cell? ⟨w.heap.size, 1, none⟩ = some (.slice B ls.length d) := by go_simp
    have hx : Ext w (w.alloc (.cells #[.slice A ns.length c, .slice B ls.length d] 27)) := (by repeat first | exact Ext.refl _ | assumption | refine Ext.drew ?_ | refine Ext.alloc ?_ _ | refine Ext.setCell ?_ (by simp) | refine Ext.setCell ?_ (by simp; omega) | refine Ext.trans ?_ (by assumption))
    have hsz1 : w.heap.size + 1 = (w.alloc (.cells #[.slice A ns.length c, .slice B ls.length d] 27)).heap.size := by simp
    generalize (w.alloc (.cells #[.slice A ns.length c, .slice B ls.length d] 27)) = w0 at *
    (try rw [hsz1])
    refine (SidesOf_i _ _ _ _ ns ls k _ (h.ext hx)).mono ?_
    rintro e w1 ⟨rfl, hb⟩
    have k0 := hb.lit k0
    have k1 := hb.lit k1
    have hx := hx.trans hb
    clear hb
    generalize vSidesOf ns ls k = p at *
    obtain ⟨a, b⟩ := p
    go_wp2
    go_ret
    exact ⟨ret_b (by rw [HV.out, hd, Bool.true_and, Bool.eq_iff_iff, beq_iff_eq, decide_eq_true_eq]), hx⟩
  · have hd : decide (0 ≤ (vSidesOf ns ls k).1) = false := decide_eq_false h0
    go_enter Try.func50, Try.ntmps50
    go_wp2_with fail
    have k0 : (w.alloc (.cells #[.slice A ns.length c, .slice B ls.length d] 27)).cell? ⟨w.heap.size, 0, none⟩ = some (.slice A ns.length c) := by go_simp
    have k1 : (w.alloc (.cells #[.slice A ns.length c, .slice B ls.length d] 27)).cell? ⟨w.heap.size, 1, none⟩ = some (.slice B ls.length d) := by go_simp
    have hx : Ext w (w.alloc (.cells #[.slice A ns.length c, .slice B ls.length d] 27)) := (by repeat first | exact Ext.refl _ | assumption | refine Ext.drew ?_ | refine Ext.alloc ?_ _ | refine Ext.setCell ?_ (by simp) | refine Ext.setCell ?_ (by simp; omega) | refine Ext.trans ?_ (by assumption))
    have hsz1 : w.heap.size + 1 = (w.alloc (.cells #[.slice A ns.length c, .slice B ls.length d] 27)).heap.size := by simp
    generalize (w.alloc (.cells #[.slice A ns.length c, .slice B ls.length d] 27)) = w0 at *
    (try rw [hsz1])
    refine (SidesOf_i _ _ _ _ ns ls k _ (h.ext hx)).mono ?_
    rintro e w1 ⟨rfl, hb⟩
    have k0 := hb.lit k0
    have k1 := hb.lit k1
    have hx := hx.trans hb
    clear hb
    generalize vSidesOf ns ls k = p at *
    obtain ⟨a, b⟩ := p
    go_wp2
    go_ret
    exact ⟨ret_b (by rw [HV.out, hd]; rfl), hx⟩
theorem faces_pos {ns ls : List P2} (hw : whole ns ls = true) : 0 < (vFaces ns ls).length := by
  unfold vFaces; rw [if_pos hw]; exact fcs_pos (whole_ok hw).2
end Go.Proofs.Ytdhmjhoaegdfjaa
