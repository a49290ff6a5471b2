import Derived.Test.YtdhmjhoaegdfjaaGreatD38
namespace Go.Proofs.YtdhmjhoaegdfjaaGreat
open Go.RowKit Go.Sort Go.BigFrame

theorem wok_rep (ns ls : List P2) : vWishesOk ns ls (List.replicate (vFaces ns ls).length (-1)) = whole ns ls := by
  unfold vWishesOk
  rw [aw_yes (fun i hi => by rw [gi_rep (by simpa using hi)]; decide)]
  simp
def vColorWith (ns ls : List P2) (n : Int) : List Int × Bool := vFillWishes ns ls (List.replicate (vFaces ns ls).length (-1)) n
theorem vColorWith_len (ns ls : List P2) (n : Int) : (vColorWith ns ls n).1.length ≤ 1000 := vFillWishes_len ns ls _ n (by simp; have := vFaces_len ns ls; omega)
theorem vColorWith_eq (ns ls : List P2) (n : Int) : vColorWith ns ls n = if whole ns ls = true ∧ wi n 1 6 = true then (srL (nbN ns ls) (List.replicate (vFaces ns ls).length (-1)) n.toNat (vFaces ns ls).length [], srB (nbN ns ls) (List.replicate (vFaces ns ls).length (-1)) n.toNat (vFaces ns ls).length []) else ([], false) := by
  unfold vColorWith vFillWishes
  rw [wok_rep, List.length_replicate]

set_option maxRecDepth 100000 in
set_option maxHeartbeats 4000000 in
theorem ColorWith_s (A B : Option Addr) (c d : Nat) (ns ls : List P2) (n : Int) (w : World) (h : Wn w A c B d ns ls) :
    Calls Tryz.prog 17 #[.agg #[.slice A ns.length c, .slice B ls.length d], .int .i64 n] w fun e w' => ∃ v, e = .returned (.tuple #[v, .bool (vColorWith ns ls n).2]) ∧ OwI w' w.heap.size v (vColorWith ns ls n).1 ∧ Ext w w' := by
  have HV := Lib.hid (vColorWith_eq ns ls n)
  have hFl := vFaces_len ns ls
  by_cases hp : whole ns ls = true
  · by_cases hr : wi n 1 6 = true
    · rw [if_pos ⟨hp, hr⟩] at HV
      have HWW := Lib.hid hp
      obtain ⟨q1, q2⟩ := wi_iff.1 hr
      obtain ⟨k, rfl⟩ := Int.eq_ofNat_of_zero_le (show 0 ≤ n by omega)
      have hk6 : k ≤ 6 := by omega
      rw [Int.toNat_natCast] at HV
      clear q1 q2
      go_enter Tryz.func17, Tryz.ntmps17
      go_wp2_with fail
      have k0 : (w.alloc (.cells #[.slice A ns.length c, .slice B ls.length d] 27)).cell? ⟨w.heap.size, 0, none⟩ = some (.slice A ns.length c) := by go_simp
      have k1 : (w.alloc (.cells #[.slice A ns.length c, .slice B ls.length d] 27)).cell? ⟨w.heap.size, 1, none⟩ = some (.slice B ls.length d) := by go_simp
      have hx : Ext w (w.alloc (.cells #[.slice A ns.length c, .slice B ls.length d] 27)) := (by repeat first | exact Ext.refl _ | assumption | refine Ext.drew ?_ | refine Ext.alloc ?_ _ | refine Ext.setCell ?_ (by simp) | refine Ext.setCell ?_ (by simp; omega) | refine Ext.trans ?_ (by assumption))
      have hsz1 : w.heap.size + 1 = (w.alloc (.cells #[.slice A ns.length c, .slice B ls.length d] 27)).heap.size := by simp
      generalize (w.alloc (.cells #[.slice A ns.length c, .slice B ls.length d] 27)) = w0 at *
      (try rw [hsz1])
      refine (IsWhole_s _ _ _ _ ns ls _ (h.ext hx)).mono ?_
      rintro e w1 ⟨rfl, hb⟩
      have k0 := hb.lit k0
      have k1 := hb.lit k1
      have hx := hx.trans hb
      clear hb
      rw [hp]
      skip
      go_wp2_with fail
      refine (l01In_c _ _ _ _).mono ?_
      rintro e w2 ⟨rfl, rfl⟩
      rw [hr]
      clear hp hr
      skip
      have hsy := nbN_sym HWW.out
      go_wp2_with fail
      refine (l13Beside_s _ _ _ _ ns ls _ (h.ext hx) HWW.out).mono ?_
      rintro e w3 ⟨v, rb, rfl, hM, hb⟩
      obtain ⟨A4, c4, rfl⟩ := hM.shape
      have k0 := hb.lit k0
      have k1 := hb.lit k1
      have hx := hx.trans hb
      clear hb
      clear k0 k1
      go_wp2_with fail
      refine (l13Free_s (vFaces ns ls).length hFl _).mono ?_
      rintro e w4 ⟨v4, rfl, h4, hb⟩
      obtain ⟨A5, c5, rfl, -, -, hin5⟩ := h4.shape
      rw [List.length_replicate]
      have hM := hM.ext hb
      have hx := hx.trans hb
      have hs4 := hx.size
      clear h4 hb
      go_wp2_with fail
      refine (l13Search_s A4 c4 rb _ (nbN ns ls) (vFaces ns ls).length _ _ c5 (List.replicate (vFaces ns ls).length (-1)) k hk6 hFl (by simp) (fun a b _ _ => hsy a b) (vFaces ns ls).length A5 _ _ 0 [] _ (hM.ext ((Ext.refl _).alloc _)) (hin5.ext ((Ext.refl _).alloc _)) (in_nil _ _ _) rfl (by simp)).mono ?_
      rintro e w5 ⟨v5, rfl, h5, hb⟩
      go_wp2
      go_ret2
      exact ⟨_, ret_vb2 (by rw [HV.out]), by rw [HV.out]; exact h5.more (by simp; omega), hx.trans (((Ext.refl _).alloc _).trans hb)⟩
    · rw [if_neg (fun e => hr e.2)] at HV
      have hr' := eq_false_of_ne_true hr
      go_enter Tryz.func17, Tryz.ntmps17
      go_wp2_with fail
      have k0 : (w.alloc (.cells #[.slice A ns.length c, .slice B ls.length d] 27)).cell? ⟨w.heap.size, 0, none⟩ = some (.slice A ns.length c) := by go_simp
      have k1 : (w.alloc (.cells #[.slice A ns.length c, .slice B ls.length d] 27)).cell? ⟨w.heap.size, 1, none⟩ = some (.slice B ls.length d) := by go_simp
      have hx : Ext w (w.alloc (.cells #[.slice A ns.length c, .slice B ls.length d] 27)) := (by repeat first | exact Ext.refl _ | assumption | refine Ext.drew ?_ | refine Ext.alloc ?_ _ | refine Ext.setCell ?_ (by simp) | refine Ext.setCell ?_ (by simp; omega) | refine Ext.trans ?_ (by assumption))
      have hsz1 : w.heap.size + 1 = (w.alloc (.cells #[.slice A ns.length c, .slice B ls.length d] 27)).heap.size := by simp
      generalize (w.alloc (.cells #[.slice A ns.length c, .slice B ls.length d] 27)) = w0 at *
      (try rw [hsz1])
      refine (IsWhole_s _ _ _ _ ns ls _ (h.ext hx)).mono ?_
      rintro e w1 ⟨rfl, hb⟩
      have k0 := hb.lit k0
      have k1 := hb.lit k1
      have hx := hx.trans hb
      clear hb
      rw [hp]
      skip
      go_wp2_with fail
      refine (l01In_c _ _ _ _).mono ?_
      rintro e w2 ⟨rfl, rfl⟩
      rw [hr']
      go_wp2
      go_ret2
      exact ⟨_, ret_vb2 (by rw [HV.out]), by rw [HV.out]; exact (OzI.zero _ hx.size rfl).own (Nat.le_refl _), hx.trans ((Ext.refl _).alloc _)⟩
  · rw [if_neg (fun e => hp e.1)] at HV
    have hp' := eq_false_of_ne_true hp
    go_enter Tryz.func17, Tryz.ntmps17
    go_wp2_with fail
    have k0 : (w.alloc (.cells #[.slice A ns.length c, .slice B ls.length d] 27)).cell? ⟨w.heap.size, 0, none⟩ = some (.slice A ns.length c) := by go_simp
    have k1 : (w.alloc (.cells #[.slice A ns.length c, .slice B ls.length d] 27)).cell? ⟨w.heap.size, 1, none⟩ = some (.slice B ls.length d) := by go_simp
    have hx : Ext w (w.alloc (.cells #[.slice A ns.length c, .slice B ls.length d] 27)) := (by repeat first | exact Ext.refl _ | assumption | refine Ext.drew ?_ | refine Ext.alloc ?_ _ | refine Ext.setCell ?_ (by simp) | refine Ext.setCell ?_ (by simp; omega) | refine Ext.trans ?_ (by assumption))
    have hsz1 : w.heap.size + 1 = (w.alloc (.cells #[.slice A ns.length c, .slice B ls.length d] 27)).heap.size := by simp
    generalize (w.alloc (.cells #[.slice A ns.length c, .slice B ls.length d] 27)) = w0 at *
    (try rw [hsz1])
    refine (IsWhole_s _ _ _ _ ns ls _ (h.ext hx)).mono ?_
    rintro e w1 ⟨rfl, hb⟩
    have k0 := hb.lit k0
    have k1 := hb.lit k1
    have hx := hx.trans hb
    clear hb
    rw [hp']
    go_wp2
    go_ret2
    exact ⟨_, ret_vb2 (by rw [HV.out]), by rw [HV.out]; exact (OzI.zero _ hx.size rfl).own (Nat.le_refl _), hx.trans ((Ext.refl _).alloc _)⟩
end Go.Proofs.YtdhmjhoaegdfjaaGreat
