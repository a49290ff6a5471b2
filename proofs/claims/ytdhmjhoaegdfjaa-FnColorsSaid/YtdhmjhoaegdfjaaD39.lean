import Derived.Test.YtdhmjhoaegdfjaaD38
namespace Go.Proofs.Ytdhmjhoaegdfjaa
open Go.RowKit Go.Sort Go.BigFrame

theorem wok_rep (ns ls : List P2) : vWishesOk ns ls (List.replicate (vFaces ns ls).length (-1)) = whole ns ls := by
  unfold vWishesOk
  rw [aw_yes (fun i hi => by rw [gi_rep (by simpa using hi)]; decide)]
  simp
def vColorWith (ns ls : List P2) (n : Int) : List Int × Bool := vFillWishes ns ls (List.replicate (vFaces ns ls).length (-1)) n
theorem vColorWith_len (ns ls : List P2) (n : Int) : (vColorWith ns ls n).1.length ≤ 1000 := vFillWishes_len ns ls _ n (by simp; have := vFaces_len ns ls; omega)
theorem vColorWith_eq (ns ls : List P2) (n : Int) : vColorWith ns ls n = if whole ns ls = true ∧ wi n 1 6 = true then (srL (nbN ns ls) (List.replicate (vFaces ns ls).length (-1)) n.toNat (vFaces ns ls).length [], srB (nbN ns ls) (List.replicate (vFaces ns ls).length (-1)) n.toNat (vFaces ns ls).length []) else ([], false) := by
  unfold vColorWith vFillWishes
  rw [wok_rep, List.length_replicate]

set_option maxRecDepth 100000 in
set_option maxHeartbeats 2000000 in
theorem freely_i (A B : Option Addr) (c d : Nat) (ns ls : List P2) (w : World) (h : Wn w A c B d ns ls) :
    Calls Try.prog 63 #[.agg #[.slice A ns.length c, .slice B ls.length d]] w fun e w' => ∃ v, e = .returned v ∧ OwI w' w.heap.size v (List.replicate (vFaces ns ls).length (-1)) ∧ Ext w w' := by
  have hFl := vFaces_len ns ls
  obtain ⟨i0, hi, hz0, hz1, hz2⟩ := info_parts infoI4
  have hmk := fun W => run_mk1 (P := Try.prog) 29 3 i0 (.int .i64 0) Try.underlying29 hi hz0 hz1 rfl (vFaces ns ls).length (by rw [hz2]; omega) (by omega) W
  clear hi hz0 hz1 hz2
  go_enter Try.func63, Try.ntmps63
  go_wp2_with fail
  have k0 : (w.alloc (.cells #[.slice A ns.length c, .slice B ls.length d] 27)).cell? ⟨w.heap.size, 0, none⟩ = some (.slice A ns.length c) := by go_simp
  have k1 : (w.alloc (.cells #[.slice A ns.length c, .slice B ls.length d] 27)).cell? ⟨w.heap.size, 1, none⟩ = some (.slice B ls.length d) := by go_simp
  have hx : Ext w (w.alloc (.cells #[.slice A ns.length c, .slice B ls.length d] 27)) := (by repeat first | exact Ext.refl _ | assumption | refine Ext.drew ?_ | refine Ext.alloc ?_ _ | refine Ext.setCell ?_ (by simp) | refine Ext.setCell ?_ (by simp; omega) | refine Ext.trans ?_ (by assumption))
  have hsz1 : w.heap.size + 1 = (w.alloc (.cells #[.slice A ns.length c, .slice B ls.length d] 27)).heap.size := by simp
  generalize (w.alloc (.cells #[.slice A ns.length c, .slice B ls.length d] 27)) = w0 at *
  (try rw [hsz1])
  refine (FacesOf_i _ _ _ _ ns ls _ (h.ext hx)).mono ?_
  rintro e w1 ⟨v, rfl, hF, -, hb⟩
  have k0 := hb.lit k0
  have k1 := hb.lit k1
  have hx := hx.trans hb
  clear hb
  obtain ⟨A1, c1, rfl, -⟩ := hF.shape
  clear hF k0 k1
  generalize hnn : (vFaces ns ls).length = n at *
  have HNN := Lib.hid hnn
  clear hnn
  have hs1 := hx.size
  have hL0 : OwI (w1.alloc (.cells (List.replicate n (Value.int .i64 0)).toArray 3)) w.heap.size (.slice (some ⟨w1.heap.size, 0, none⟩) (List.replicate n (0 : Int)).length (List.replicate n (0 : Int)).length) (List.replicate n 0) := OwI.new (by rw [List.map_replicate]; exact Bk.new _ _ rfl) hs1 (by simp; unfold maxLen; omega)
  rw [List.length_replicate] at hL0
  have hre : (List.replicate n (Value.int .i64 0)).toArray = Array.replicate n (Value.int .i64 0) := by simp
  have e0 : List.replicate n (0 : Int) = tab n (fun i => if i < 0 then -1 else 0) := by rw [← tab_rep]; exact tab_congr fun d _ => by simp
  rw [hre, e0] at hL0
  have hx2 := hx.alloc (.cells (Array.replicate n (Value.int .i64 0)) 3)
  go_upto_region 2 with fail
  generalize (w1.alloc (.cells (Array.replicate n (Value.int .i64 0)) 3)) = w2 at *
  clear hx hmk hre e0
  go_wp2_with fail
  go_loopw [4, 11] (fun _ i wr => ∃ j : Nat, j ≤ n ∧ i = .int .i64 j ∧ OwI wr w.heap.size (.slice (some ⟨w1.heap.size, 0, none⟩) n n) (tab n (fun i => if i < j then -1 else 0)) ∧ Ext w wr) (fun _ i _ => n - (intOf i).toNat)
  case atStart => exact ⟨0, by omega, rfl, hL0, hx2⟩
  case round =>
    clear hL0 hx2
    obtain ⟨j, hj, rfl, hv, hx⟩ := hrel
    obtain ⟨w3, rfl⟩ : ∃ x : World, x = wr := ⟨_, rfl⟩
    by_cases hlt : j < n
    · have hji : (j : Int) < n := by omega
      obtain ⟨s1, s2⟩ := hv.cel (j := j) (by rw [tab_len]; exact hlt)
      have hset := hv.set_ (tab_len _ _).symm j (-1)
      rw [tab_set] at hset
      have e1 : tab n (fun d => if d = j then -1 else if d < j then -1 else 0) = tab n (fun i => if i < j + 1 then -1 else 0) := tab_congr fun d _ => by
        by_cases h1 : d = j
        · rw [if_pos h1, if_pos (by omega)]
        · rw [if_neg h1]
          by_cases h2 : d < j
          · rw [if_pos h2, if_pos (by omega)]
          · rw [if_neg h2, if_neg (by omega)]
      rw [e1] at hset
      have HS := Lib.hid hset
      clear hset e1 hv
      generalize gi (tab n (fun i => if i < j then -1 else 0)) (j : Nat) = z at *
      go_wp2
      go_roundw
      case rel => exact ⟨j + 1, by omega, by go_num, HS.out, Ext.setCell (p := ⟨w1.heap.size, j, none⟩) hx hs1⟩
      case measure => first | (simp [intOf]; done) | (simp [intOf]; omega)
    · obtain rfl : j = n := by omega
      have e2 : tab j (fun i => if i < j then -1 else 0) = List.replicate j (-1) := by rw [← tab_rep]; exact tab_congr fun d hd => if_pos hd
      rw [e2] at hv
      have HS := Lib.hid hv
      clear hv e2
      go_wp2
      go_ret
      exact ⟨_, rfl, by rw [HNN.out]; exact HS.out, hx⟩

set_option maxRecDepth 100000 in
set_option maxHeartbeats 4000000 in
theorem ColorWith_i (A B : Option Addr) (c d : Nat) (ns ls : List P2) (n : Int) (w : World) (h : Wn w A c B d ns ls) :
    Calls Try.prog 12 #[.agg #[.slice A ns.length c, .slice B ls.length d], .int .i64 n] w fun e w' => ∃ v, e = .returned (.tuple #[v, .bool (vColorWith ns ls n).2]) ∧ OwI w' w.heap.size v (vColorWith ns ls n).1 ∧ Ext w w' := by
  have hFl := vFaces_len ns ls
  go_enter Try.func12, Try.ntmps12
  go_wp2_with fail
  have k0 : (w.alloc (.cells #[.slice A ns.length c, .slice B ls.length d] 27)).cell? ⟨w.heap.size, 0, none⟩ = some (.slice A ns.length c) := by go_simp
  have k1 : (w.alloc (.cells #[.slice A ns.length c, .slice B ls.length d] 27)).cell? ⟨w.heap.size, 1, none⟩ = some (.slice B ls.length d) := by go_simp
  have hx : Ext w (w.alloc (.cells #[.slice A ns.length c, .slice B ls.length d] 27)) := (by repeat first | exact Ext.refl _ | assumption | refine Ext.drew ?_ | refine Ext.alloc ?_ _ | refine Ext.setCell ?_ (by simp) | refine Ext.setCell ?_ (by simp; omega) | refine Ext.trans ?_ (by assumption))
  have hsz1 : w.heap.size + 1 = (w.alloc (.cells #[.slice A ns.length c, .slice B ls.length d] 27)).heap.size := by simp
  generalize (w.alloc (.cells #[.slice A ns.length c, .slice B ls.length d] 27)) = w0 at *
  (try rw [hsz1])
  have d0 := cell_regrown k0
  have d1 := cell_regrown k1
  refine rx_open [(true, 0, some 6, 4), (true, 0, some 7, 4), (false, 2, some 8, 128), (true, 0, some 9, 2), (false, 13, some 10, 832), (true, 16, some 11, 1024), (true, 16, some 12, 1024), (true, 127, some 4, 2048), (true, 255, some 5, 4096)] 0 9 mixd rfl (by kernel_rfl) (by kernel_rfl) (by kernel_rfl) ?_
  refine rx_run (run := [0, 1, 3]) (k := 6) (m' := 11) rfl (by kernel_rfl) (by kernel_rfl) (by kernel_rfl) (fm_cons rfl <| fm_cons rfl <| fm_cons rfl <| List.filterMap_nil) (by repeat first | exact Ext.refl _ | assumption | refine Ext.drew ?_ | refine Ext.alloc ?_ _ | refine Ext.setCell ?_ (by simp) | refine Ext.setCell ?_ (by simp; omega) | refine Ext.trans ?_ (by assumption)) ?_
  repeat (go_big_quiet_step ((fail)))
  refine wpQuiet_nil ?_
  refine rx_op 2 (k := 5) (m' := 15) rfl rfl (by kernel_rfl) (by kernel_rfl) ?_
  go_wp2_with (first | (go_at_call 63; refine (freely_i A B c d ns ls _ (h.ext (hx.trans (by repeat first | exact Ext.refl _ | assumption | refine Ext.drew ?_ | refine Ext.alloc ?_ _ | refine Ext.setCell ?_ (by simp) | refine Ext.setCell ?_ (by simp; omega) | refine Ext.trans ?_ (by assumption))))).mono ?_; rintro e w5 ⟨v5, rfl, h5, hb5⟩; obtain ⟨A5, c5, rfl, -, -, hin5⟩ := h5.shape; simp only [List.length_replicate]) | (go_at_call 62; refine (FillWishes_i0 A B c d ns ls A5 c5 (List.replicate (vFaces ns ls).length (-1)) (vFaces ns ls).length n _ (h.ext (hx.trans (by repeat first | exact Ext.refl _ | assumption | refine Ext.drew ?_ | refine Ext.alloc ?_ _ | refine Ext.setCell ?_ (by simp) | refine Ext.setCell ?_ (by simp; omega) | refine Ext.trans ?_ (by assumption)))) (hin5.ext (by repeat first | exact Ext.refl _ | assumption | refine Ext.drew ?_ | refine Ext.alloc ?_ _ | refine Ext.setCell ?_ (by simp) | refine Ext.setCell ?_ (by simp; omega) | refine Ext.trans ?_ (by assumption))) (by simp; omega) (by simp)).mono ?_; rintro e w6 ⟨v6, rfl, h6, hb6⟩; have h6 := h6.more (hx.trans (by repeat first | exact Ext.refl _ | assumption | refine Ext.drew ?_ | refine Ext.alloc ?_ _ | refine Ext.setCell ?_ (by simp) | refine Ext.setCell ?_ (by simp; omega) | refine Ext.trans ?_ (by assumption))).size))
  refine rx_on (by repeat first | exact Ext.refl _ | assumption | refine Ext.drew ?_ | refine Ext.alloc ?_ _ | refine Ext.setCell ?_ (by simp) | refine Ext.setCell ?_ (by simp; omega) | refine Ext.trans ?_ (by assumption)) ?_
  refine rx_op 4 (k := 4) (m' := 31) rfl rfl (by kernel_rfl) (by kernel_rfl) ?_
  go_wp2_with (first | (go_at_call 63; refine (freely_i A B c d ns ls _ (h.ext (hx.trans (by repeat first | exact Ext.refl _ | assumption | refine Ext.drew ?_ | refine Ext.alloc ?_ _ | refine Ext.setCell ?_ (by simp) | refine Ext.setCell ?_ (by simp; omega) | refine Ext.trans ?_ (by assumption))))).mono ?_; rintro e w5 ⟨v5, rfl, h5, hb5⟩; obtain ⟨A5, c5, rfl, -, -, hin5⟩ := h5.shape; simp only [List.length_replicate]) | (go_at_call 62; refine (FillWishes_i0 A B c d ns ls A5 c5 (List.replicate (vFaces ns ls).length (-1)) (vFaces ns ls).length n _ (h.ext (hx.trans (by repeat first | exact Ext.refl _ | assumption | refine Ext.drew ?_ | refine Ext.alloc ?_ _ | refine Ext.setCell ?_ (by simp) | refine Ext.setCell ?_ (by simp; omega) | refine Ext.trans ?_ (by assumption)))) (hin5.ext (by repeat first | exact Ext.refl _ | assumption | refine Ext.drew ?_ | refine Ext.alloc ?_ _ | refine Ext.setCell ?_ (by simp) | refine Ext.setCell ?_ (by simp; omega) | refine Ext.trans ?_ (by assumption))) (by simp; omega) (by simp)).mono ?_; rintro e w6 ⟨v6, rfl, h6, hb6⟩; have h6 := h6.more (hx.trans (by repeat first | exact Ext.refl _ | assumption | refine Ext.drew ?_ | refine Ext.alloc ?_ _ | refine Ext.setCell ?_ (by simp) | refine Ext.setCell ?_ (by simp; omega) | refine Ext.trans ?_ (by assumption))).size))
  refine rx_on (by repeat first | exact Ext.refl _ | assumption | refine Ext.drew ?_ | refine Ext.alloc ?_ _ | refine Ext.setCell ?_ (by simp) | refine Ext.setCell ?_ (by simp; omega) | refine Ext.trans ?_ (by assumption)) ?_
  refine rx_run (run := [5, 6, 7, 8]) (k := 0) (m' := 511) rfl (by kernel_rfl) (by kernel_rfl) (by kernel_rfl) (fm_cons rfl <| fm_cons rfl <| fm_cons rfl <| fm_cons rfl <| List.filterMap_nil) (by repeat first | exact Ext.refl _ | assumption | refine Ext.drew ?_ | refine Ext.alloc ?_ _ | refine Ext.setCell ?_ (by simp) | refine Ext.setCell ?_ (by simp; omega) | refine Ext.trans ?_ (by assumption)) ?_
  repeat (go_big_quiet_step ((fail)))
  refine wpQuiet_nil ?_
  refine rx_end (by kernel_rfl) ?_
  go_wp2
  go_ret2
  exact ⟨_, ret_vb2 rfl, h6.ext (by repeat first | exact Ext.refl _ | assumption | refine Ext.drew ?_ | refine Ext.alloc ?_ _ | refine Ext.setCell ?_ (by simp) | refine Ext.setCell ?_ (by simp; omega) | refine Ext.trans ?_ (by assumption)), hx.trans (by repeat first | exact Ext.refl _ | assumption | refine Ext.drew ?_ | refine Ext.alloc ?_ _ | refine Ext.setCell ?_ (by simp) | refine Ext.setCell ?_ (by simp; omega) | refine Ext.trans ?_ (by assumption))⟩

end Go.Proofs.Ytdhmjhoaegdfjaa
