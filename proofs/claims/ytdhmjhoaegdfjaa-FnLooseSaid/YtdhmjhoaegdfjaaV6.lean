import Derived.Test.YtdhmjhoaegdfjaaV5
namespace Go.Proofs.Ytdhmjhoaegdfjaa
open Go.RowKit Go.Sort Go.BigFrame

def dnOk (ns ls : List P2) (k : Int) : Bool := hasN ns ls k && wok (wnN ns k ns.length) (wnL ls k ls.length)
def vDropNode (ns ls : List P2) (k : Int) : (List P2 × List P2) × Bool := if dnOk ns ls k = true then ((wnN ns k ns.length, wnL ls k ls.length), true) else ((ns, ls), false)
theorem vDropNode_len (ns ls : List P2) (k : Int) : (vDropNode ns ls k).1.1.length ≤ ns.length + 1 ∧ (vDropNode ns ls k).1.2.length ≤ ls.length + 1 := by
  unfold vDropNode
  have h1 := wnN_len ns k ns.length
  have h2 := wnL_len ls k ls.length
  split
  · exact ⟨by show (wnN ns k ns.length).length ≤ _; omega, by show (wnL ls k ls.length).length ≤ _; omega⟩
  · exact ⟨by simp, by simp⟩
theorem wok_range {ns ls : List P2} (h : wok ns ls = true) : ∀ j, j < ls.length → 0 ≤ (gp ls (j : Nat)).1 ∧ (gp ls (j : Nat)).1 < 100 ∧ 0 ≤ (gp ls (j : Nat)).2 ∧ (gp ls (j : Nat)).2 < 100 := fun j hj => by
  obtain ⟨a, b, e, ha, hb⟩ := wok_lead h hj
  have hi := (wok_iff.1 h).hi
  rw [e]
  exact ⟨by show (0 : Int) ≤ a; omega, by show (a : Int) < 100; omega, by show (0 : Int) ≤ b; omega, by show (b : Int) < 100; omega⟩
set_option maxRecDepth 100000 in
set_option maxHeartbeats 8000000 in
theorem DropNode_i (A B : Option Addr) (c d : Nat) (ns ls : List P2) (k : Int) (w : World) (h : Wn w A c B d ns ls) :
    Calls Try.prog 56 #[.agg #[.slice A ns.length c, .slice B ls.length d], .int .i64 k] w fun e w' => ∃ v1 v2, e = .returned (.tuple #[.agg #[v1, v2], .bool (vDropNode ns ls k).2]) ∧ OwP w' w.heap.size 52 v1 (vDropNode ns ls k).1.1 ∧ OwP w' w.heap.size 67 v2 (vDropNode ns ls k).1.2 ∧ Ext w w' := by
  have HV : Hid (vDropNode ns ls k = if dnOk ns ls k = true then ((wnN ns k ns.length, wnL ls k ls.length), true) else ((ns, ls), false)) := Lib.hid rfl
  have HD : Hid (dnOk ns ls k = (hasN ns ls k && wok (wnN ns k ns.length) (wnL ls k ls.length))) := Lib.hid rfl
  have hnl := h.hl
  have hml := h.hm
  by_cases hN : hasN ns ls k = true
  · have hwo : wok ns ls = true := by simp only [hasN, Bool.and_eq_true] at hN; first | exact hN.1 | exact hN.1.1
    go_enter Try.func56, Try.ntmps56
    go_upto_region 1 with fail
    have k0 : ((w.alloc (.cells #[.slice A ns.length c, .slice B ls.length d] 27)).alloc (.cells #[.slice none 0 0, .slice none 0 0] 27)).cell? ⟨w.heap.size, 0, none⟩ = some (.slice A ns.length c) := by go_simp
    have k1 : ((w.alloc (.cells #[.slice A ns.length c, .slice B ls.length d] 27)).alloc (.cells #[.slice none 0 0, .slice none 0 0] 27)).cell? ⟨w.heap.size, 1, none⟩ = some (.slice B ls.length d) := by go_simp
    have r0 : ((w.alloc (.cells #[.slice A ns.length c, .slice B ls.length d] 27)).alloc (.cells #[.slice none 0 0, .slice none 0 0] 27)).cell? ⟨w.heap.size + 1, 0, none⟩ = some (.slice none 0 0) := by go_simp
    have r1 : ((w.alloc (.cells #[.slice A ns.length c, .slice B ls.length d] 27)).alloc (.cells #[.slice none 0 0, .slice none 0 0] 27)).cell? ⟨w.heap.size + 1, 1, none⟩ = some (.slice none 0 0) := by go_simp
    have f0 : ((w.alloc (.cells #[.slice A ns.length c, .slice B ls.length d] 27)).alloc (.cells #[.slice none 0 0, .slice none 0 0] 27)).frozen? ⟨w.heap.size + 1, 0, none⟩ = false := by go_simp
    have f1 : ((w.alloc (.cells #[.slice A ns.length c, .slice B ls.length d] 27)).alloc (.cells #[.slice none 0 0, .slice none 0 0] 27)).frozen? ⟨w.heap.size + 1, 1, none⟩ = false := by go_simp
    have hx : Ext w ((w.alloc (.cells #[.slice A ns.length c, .slice B ls.length d] 27)).alloc (.cells #[.slice none 0 0, .slice none 0 0] 27)) := ((Ext.refl _).alloc _).alloc _
    have hs0 : ((w.alloc (.cells #[.slice A ns.length c, .slice B ls.length d] 27)).alloc (.cells #[.slice none 0 0, .slice none 0 0] 27)).heap.size = w.heap.size + 1 + 1 := by simp
    generalize ((w.alloc (.cells #[.slice A ns.length c, .slice B ls.length d] 27)).alloc (.cells #[.slice none 0 0, .slice none 0 0] 27)) = w0 at *
    generalize hb1 : w.heap.size + 1 = b1 at *
    have HS0 := Lib.hid hs0
    clear hs0
    go_wp2_with fail
    refine (hasNode_c _ _ _ _ ns ls k _ (h.ext hx)).mono ?_
    rintro e wq ⟨rfl, hxq⟩
    rw [hN]
    have j0 := hxq.lit k0
    have j1 := hxq.lit k1
    go_wp2_with fail
    refine (withoutNode_c _ _ _ _ ns ls k _ (h.ext (hx.trans hxq)) (wok_range hwo)).mono ?_
    rintro e w3 ⟨v3, v4, rfl, o3, o4, hb⟩
    have hs3 := hxq.size
    have hxq3 := hxq.trans hb
    obtain ⟨A3, c3, rfl, -, -, -⟩ := o3.shape
    obtain ⟨A4, c4, rfl, -, -, -⟩ := o4.shape
    have hl1 := wnN_len ns k ns.length
    have hl2 := wnL_len ls k ls.length
    go_upto_region 4 with fail
    have t0 : (w3.alloc (.cells #[.slice A3 (wnN ns k ns.length).length c3, .slice A4 (wnL ls k ls.length).length c4] 27)).cell? ⟨w3.heap.size, 0, none⟩ = some (.slice A3 (wnN ns k ns.length).length c3) := by go_simp
    have t1 : (w3.alloc (.cells #[.slice A3 (wnN ns k ns.length).length c3, .slice A4 (wnL ls k ls.length).length c4] 27)).cell? ⟨w3.heap.size, 1, none⟩ = some (.slice A4 (wnL ls k ls.length).length c4) := by go_simp
    have hx34 : Ext w3 (w3.alloc (.cells #[.slice A3 (wnN ns k ns.length).length c3, .slice A4 (wnL ls k ls.length).length c4] 27)) := (Ext.refl _).alloc _
    generalize (w3.alloc (.cells #[.slice A3 (wnN ns k ns.length).length c3, .slice A4 (wnL ls k ls.length).length c4] 27)) = w4 at *
    have o3 := o3.ext hx34
    have o4 := o4.ext hx34
    have HWN := Lib.hid (wn_own o3 o4 (by omega) (by omega))
    go_wp2_with fail
    refine (WindowOk_iL HWN.out rfl rfl).mono ?_
    rintro e w5 ⟨rfl, hb5⟩
    have hx05 := hxq3.trans (hx34.trans hb5)
    have hb1q : b1 < wq.heap.size := Nat.lt_of_lt_of_le (by rw [HS0.out]; omega) hs3
    have hwq := Nat.le_trans hx.size hs3
    have o3 := o3.ext hb5
    have o4 := o4.ext hb5
    have t0 := hb5.lit t0
    have t1 := hb5.lit t1
    clear hxq hxq3 hx34 hb hb5 j0 j1
    cases hok : wok (wnN ns k ns.length) (wnL ls k ls.length) with
    | false =>
      have HNO : Hid (dnOk ns ls k = false) := Lib.hid (by rw [HD.out, hN, hok]; rfl)
      clear hok hN hwo t0 t1 o3 o4 hs3 hb1q hwq
      obtain ⟨wq, hwq⟩ : ∃ x : World, x = w5 := ⟨_, rfl⟩
      subst hwq
      have hxq := hx05
      have j0 := hxq.lit k0
      have j1 := hxq.lit k1
      go_wp2_with fail
      refine (copy_i_copyWindow _ _ _ _ ns ls _ (h.ext (hx.trans hxq))).mono ?_
      rintro e w16 ⟨v7, v8, rfl, o7, o8, -, hb16⟩
      have hsq := hxq.size
      have hxq := hxq.trans hb16
      have r0 := hxq.lit r0
      have r1 := hxq.lit r1
      have f0 := hxq.frz (by rw [HS0.out]; omega) f0
      have f1 := hxq.frz (by rw [HS0.out]; omega) f1
      obtain ⟨A7, c7, rfl, -, -, -⟩ := o7.shape
      obtain ⟨A8, c8, rfl, -, -, -⟩ := o8.shape
      have hb2 : b1 < wq.heap.size := Nat.lt_of_lt_of_le (by rw [HS0.out]; omega) hsq
      have hww := Nat.le_trans hx.size hsq
      go_wp2
      (try simp only [Exit.inBlock, Exit.then])
      refine bodyPost_ret (by simp [results, Try.results56, go_sem, r0, r1]; try rfl) rfl ?_
      exact ⟨_, _, ret_wb (by rw [HV.out, if_neg (by rw [HNO.out]; decide)]), by rw [HV.out, if_neg (by rw [HNO.out]; decide)]; exact (o7.gb2 (gb_set (gb_set (gb_refl _ (some b1)) 0 _) 1 _) hb2).more hww, by rw [HV.out, if_neg (by rw [HNO.out]; decide)]; exact (o8.gb2 (gb_set (gb_set (gb_refl _ (some b1)) 0 _) 1 _) hb2).more hww, Ext.setCell (p := ⟨b1, 1, none⟩) (Ext.setCell (p := ⟨b1, 0, none⟩) (hx.trans hxq) (by show w.heap.size ≤ b1; omega)) (by show w.heap.size ≤ b1; omega)⟩
    | true =>
      have HYE : Hid (dnOk ns ls k = true) := Lib.hid (by rw [HD.out, hN, hok]; rfl)
      have r0 := hx05.lit r0
      have r1 := hx05.lit r1
      have f0 := hx05.frz (by rw [HS0.out]; omega) f0
      have f1 := hx05.frz (by rw [HS0.out]; omega) f1
      clear hok hN hwo
      go_wp2
      (try simp only [Exit.inBlock, Exit.then])
      refine bodyPost_ret (by simp [results, Try.results56, go_sem, r0, r1]; try rfl) rfl ?_
      exact ⟨_, _, ret_wb (by rw [HV.out, if_pos HYE.out]), by rw [HV.out, if_pos HYE.out]; exact (o3.gb2 (gb_set (gb_set (gb_refl _ (some b1)) 0 _) 1 _) hb1q).more hwq, by rw [HV.out, if_pos HYE.out]; exact (o4.gb2 (gb_set (gb_set (gb_refl _ (some b1)) 0 _) 1 _) hb1q).more hwq, Ext.setCell (p := ⟨b1, 1, none⟩) (Ext.setCell (p := ⟨b1, 0, none⟩) (hx.trans hx05) (by show w.heap.size ≤ b1; omega)) (by show w.heap.size ≤ b1; omega)⟩
  · have hN := eq_false_of_ne_true hN
    have HNO : Hid (dnOk ns ls k = false) := Lib.hid (by rw [HD.out, hN]; rfl)
    go_enter Try.func56, Try.ntmps56
    go_upto_region 1 with fail
    have k0 : ((w.alloc (.cells #[.slice A ns.length c, .slice B ls.length d] 27)).alloc (.cells #[.slice none 0 0, .slice none 0 0] 27)).cell? ⟨w.heap.size, 0, none⟩ = some (.slice A ns.length c) := by go_simp
    have k1 : ((w.alloc (.cells #[.slice A ns.length c, .slice B ls.length d] 27)).alloc (.cells #[.slice none 0 0, .slice none 0 0] 27)).cell? ⟨w.heap.size, 1, none⟩ = some (.slice B ls.length d) := by go_simp
    have r0 : ((w.alloc (.cells #[.slice A ns.length c, .slice B ls.length d] 27)).alloc (.cells #[.slice none 0 0, .slice none 0 0] 27)).cell? ⟨w.heap.size + 1, 0, none⟩ = some (.slice none 0 0) := by go_simp
    have r1 : ((w.alloc (.cells #[.slice A ns.length c, .slice B ls.length d] 27)).alloc (.cells #[.slice none 0 0, .slice none 0 0] 27)).cell? ⟨w.heap.size + 1, 1, none⟩ = some (.slice none 0 0) := by go_simp
    have f0 : ((w.alloc (.cells #[.slice A ns.length c, .slice B ls.length d] 27)).alloc (.cells #[.slice none 0 0, .slice none 0 0] 27)).frozen? ⟨w.heap.size + 1, 0, none⟩ = false := by go_simp
    have f1 : ((w.alloc (.cells #[.slice A ns.length c, .slice B ls.length d] 27)).alloc (.cells #[.slice none 0 0, .slice none 0 0] 27)).frozen? ⟨w.heap.size + 1, 1, none⟩ = false := by go_simp
    have hx : Ext w ((w.alloc (.cells #[.slice A ns.length c, .slice B ls.length d] 27)).alloc (.cells #[.slice none 0 0, .slice none 0 0] 27)) := ((Ext.refl _).alloc _).alloc _
    have hs0 : ((w.alloc (.cells #[.slice A ns.length c, .slice B ls.length d] 27)).alloc (.cells #[.slice none 0 0, .slice none 0 0] 27)).heap.size = w.heap.size + 1 + 1 := by simp
    generalize ((w.alloc (.cells #[.slice A ns.length c, .slice B ls.length d] 27)).alloc (.cells #[.slice none 0 0, .slice none 0 0] 27)) = w0 at *
    generalize hb1 : w.heap.size + 1 = b1 at *
    have HS0 := Lib.hid hs0
    clear hs0
    go_wp2_with fail
    refine (hasNode_c _ _ _ _ ns ls k _ (h.ext hx)).mono ?_
    rintro e wq ⟨rfl, hxq⟩
    rw [hN]
    have j0 := hxq.lit k0
    have j1 := hxq.lit k1
    go_wp2_with fail
    refine (copy_i_copyWindow _ _ _ _ ns ls _ (h.ext (hx.trans hxq))).mono ?_
    rintro e w16 ⟨v7, v8, rfl, o7, o8, -, hb16⟩
    have hsq := hxq.size
    have hxq := hxq.trans hb16
    have r0 := hxq.lit r0
    have r1 := hxq.lit r1
    have f0 := hxq.frz (by rw [HS0.out]; omega) f0
    have f1 := hxq.frz (by rw [HS0.out]; omega) f1
    obtain ⟨A7, c7, rfl, -, -, -⟩ := o7.shape
    obtain ⟨A8, c8, rfl, -, -, -⟩ := o8.shape
    have hb2 : b1 < wq.heap.size := Nat.lt_of_lt_of_le (by rw [HS0.out]; omega) hsq
    have hww := Nat.le_trans hx.size hsq
    go_wp2
    (try simp only [Exit.inBlock, Exit.then])
    refine bodyPost_ret (by simp [results, Try.results56, go_sem, r0, r1]; try rfl) rfl ?_
    exact ⟨_, _, ret_wb (by rw [HV.out, if_neg (by rw [HNO.out]; decide)]), by rw [HV.out, if_neg (by rw [HNO.out]; decide)]; exact (o7.gb2 (gb_set (gb_set (gb_refl _ (some b1)) 0 _) 1 _) hb2).more hww, by rw [HV.out, if_neg (by rw [HNO.out]; decide)]; exact (o8.gb2 (gb_set (gb_set (gb_refl _ (some b1)) 0 _) 1 _) hb2).more hww, Ext.setCell (p := ⟨b1, 1, none⟩) (Ext.setCell (p := ⟨b1, 0, none⟩) (hx.trans hxq) (by show w.heap.size ≤ b1; omega)) (by show w.heap.size ≤ b1; omega)⟩
end Go.Proofs.Ytdhmjhoaegdfjaa
