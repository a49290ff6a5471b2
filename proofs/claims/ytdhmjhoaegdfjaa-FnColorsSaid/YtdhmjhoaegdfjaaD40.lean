import Derived.Test.YtdhmjhoaegdfjaaD39
namespace Go.Proofs.Ytdhmjhoaegdfjaa
open Go.RowKit Go.Sort Go.BigFrame

def vCountColorings (ns ls : List P2) (n : Int) : Int := if whole ns ls = true ∧ wi n 1 4 = true then cnW (nbN ns ls) (vFaces ns ls).length n.toNat (vFaces ns ls).length [] else -1
abbrev InvC (r : Nat) (g : Nat) (s : Int) (w : World) : Prop := Bk w r 3 [.int .i64 s] ∧ g ≠ r
set_option maxHeartbeats 1000000 in
theorem count_tell {r g F : Nat} {s : Int} {w : World} {L : List Int} (hI : InvC r g s w) :
    Calls Try.prog 71 #[.slice (some ⟨g, 0, none⟩) F F, .pointer (some ⟨r, 0, none⟩)] w fun e w' => e = .returned (.bool (tell2 s L).2) ∧ InvC r g (tell2 s L).1 w' ∧ w.grownBy w' (some r) := by
  obtain ⟨hbk, hgr⟩ := hI
  have k1 : w.cell? ⟨r, 0, none⟩ = some (.int .i64 s) := hbk.cell 0
  have k2 := hbk.froz 0
  have HBK := Lib.hid hbk
  clear hbk
  go_enter Try.func71, Try.ntmps71
  go_wp2
  go_ret
  exact ⟨rfl, ⟨HBK.out.set_ 0 _, hgr⟩, gb_set (gb_refl _ _) 0 _⟩
theorem count_val {N : Nat → Nat} {F k : Nat} : (sr tell2 N (List.replicate F (-1)) k F 0 []).1 = cnW N F k F [] := by
  have e := sr2 (N := N) (wish := List.replicate F (-1)) (n := k) F 0 []
  rw [Int.zero_add, show wrap64 0 = 0 by unfold wrap64; omega] at e
  rw [e]
  rfl


set_option maxRecDepth 100000 in
set_option maxHeartbeats 4000000 in
theorem CountColorings_i (A B : Option Addr) (c d : Nat) (ns ls : List P2) (n : Int) (w : World) (h : Wn w A c B d ns ls) :
    Calls Try.prog 18 #[.agg #[.slice A ns.length c, .slice B ls.length d], .int .i64 n] w fun e w' => e = .returned (.int .i64 (vCountColorings ns ls n)) ∧ Ext w w' := by
  have HV : Hid (vCountColorings ns ls n = if whole ns ls = true ∧ wi n 1 4 = true then cnW (nbN ns ls) (vFaces ns ls).length n.toNat (vFaces ns ls).length [] else -1) := Lib.hid rfl
  have hFl := vFaces_len ns ls
  by_cases hp : whole ns ls = true
  · by_cases hr : wi n 1 4 = true
    · rw [if_pos ⟨hp, hr⟩] at HV
      have HWW := Lib.hid hp
      obtain ⟨q1, q2⟩ := wi_iff.1 hr
      obtain ⟨k, rfl⟩ := Int.eq_ofNat_of_zero_le (show 0 ≤ n by omega)
      have hk6 : k ≤ 6 := by omega
      rw [Int.toNat_natCast] at HV
      clear q1 q2
      go_enter Try.func18, Try.ntmps18
      go_wp2_with fail
      have k0 : (w.alloc (.cells #[.slice A ns.length c, .slice B ls.length d] 27)).cell? ⟨w.heap.size, 0, none⟩ = some (.slice A ns.length c) := by go_simp
      have k1 : (w.alloc (.cells #[.slice A ns.length c, .slice B ls.length d] 27)).cell? ⟨w.heap.size, 1, none⟩ = some (.slice B ls.length d) := by go_simp
      have hx : Ext w (w.alloc (.cells #[.slice A ns.length c, .slice B ls.length d] 27)) := (by repeat first | exact Ext.refl _ | assumption | refine Ext.drew ?_ | refine Ext.alloc ?_ _ | refine Ext.setCell ?_ (by simp) | refine Ext.setCell ?_ (by simp; omega) | refine Ext.trans ?_ (by assumption))
      have hsz1 : w.heap.size + 1 = (w.alloc (.cells #[.slice A ns.length c, .slice B ls.length d] 27)).heap.size := by simp
      generalize (w.alloc (.cells #[.slice A ns.length c, .slice B ls.length d] 27)) = w0 at *
      (try rw [hsz1])
      refine (IsWhole_i _ _ _ _ ns ls _ (h.ext hx)).mono ?_
      rintro e w1 ⟨rfl, hb⟩
      have k0 := hb.lit k0
      have k1 := hb.lit k1
      have hx := hx.trans hb
      clear hb
      rw [hp]
      go_wp2_with fail
      refine (within_c _ _ _ _).mono ?_
      rintro e w2 ⟨rfl, rfl⟩
      rw [hr]
      clear hp hr
      have hs1 := hx.size
      go_upto_region 4 with fail
      have hbk : Bk (w1.alloc (.cells #[.int .i64 0] 3)) w1.heap.size 3 [.int .i64 0] := Bk.new _ _ rfl
      have hx2 : Ext w1 (w1.alloc (.cells #[.int .i64 0] 3)) := (Ext.refl _).alloc _
      have hs2 : (w1.alloc (.cells #[.int .i64 0] 3)).heap.size = w1.heap.size + 1 := by simp
      generalize (w1.alloc (.cells #[.int .i64 0] 3)) = w3 at *
      have hxw := hx.trans hx2
      have k0 := hx2.lit k0
      have k1 := hx2.lit k1
      have HBK := Lib.hid hbk
      clear hbk hx2 hx
      have d0 := cell_regrown k0
      have d1 := cell_regrown k1
      refine rx_open [(true, 0, some 14, 4), (true, 0, some 15, 4), (false, 2, some 16, 32768), (true, 0, some 17, 2), (false, 0, some 18, 32), (false, 29, some 19, 475136)] 32 6 mixd rfl (by kernel_rfl) (by kernel_rfl) (by kernel_rfl) ?_
      refine rx_run (run := [0, 1, 3]) (k := 3) (m' := 11) rfl (by kernel_rfl) (by kernel_rfl) (by kernel_rfl) (fm_cons rfl <| fm_cons rfl <| fm_cons rfl <| List.filterMap_nil) (by repeat first | exact Ext.refl _ | assumption | refine Ext.drew ?_ | refine Ext.alloc ?_ _ | refine Ext.setCell ?_ (by simp) | refine Ext.setCell ?_ (by simp; omega) | refine Ext.trans ?_ (by assumption)) ?_
      repeat (go_big_quiet_step ((fail)))
      refine wpQuiet_nil ?_
      refine rx_two 2 4 (k := 2) (mi := 15) (mj := 27) rfl rfl rfl (by kernel_rfl) (by kernel_rfl) (by kernel_rfl) ?_ ?_
      go_wp2_with (first | (go_at_call 63; refine (freely_i A B c d ns ls _ (h.ext (hxw.trans (by repeat first | exact Ext.refl _ | assumption | refine Ext.drew ?_ | refine Ext.alloc ?_ _ | refine Ext.setCell ?_ (by simp) | refine Ext.setCell ?_ (by simp; omega) | refine Ext.trans ?_ (by assumption))))).mono ?_; rintro e w5 ⟨v5, rfl, h5, hb5⟩; obtain ⟨A5, c5, rfl, -, -, hin5⟩ := h5.shape; simp only [List.length_replicate]; have hq5 := h5.more (B' := w3.heap.size) (show Ext w3 _ from (by repeat first | exact Ext.refl _ | assumption | refine Ext.drew ?_ | refine Ext.alloc ?_ _ | refine Ext.setCell ?_ (by simp) | refine Ext.setCell ?_ (by simp; omega) | refine Ext.trans ?_ (by assumption))).size) | (go_at_call 70; refine (paint_c tell2 (InvC w1.heap.size) 0 71 w1.heap.size A B c d ns ls A5 c5 (List.replicate (vFaces ns ls).length (-1)) (vFaces ns ls).length k _ (h.ext (hxw.trans (by repeat first | exact Ext.refl _ | assumption | refine Ext.drew ?_ | refine Ext.alloc ?_ _ | refine Ext.setCell ?_ (by simp) | refine Ext.setCell ?_ (by simp; omega) | refine Ext.trans ?_ (by assumption)))) HWW.out (hin5.ext (by repeat first | exact Ext.refl _ | assumption | refine Ext.drew ?_ | refine Ext.alloc ?_ _ | refine Ext.setCell ?_ (by simp) | refine Ext.setCell ?_ (by simp; omega) | refine Ext.trans ?_ (by assumption))) (by simp) rfl hk6 (Nat.lt_of_lt_of_le (by rw [hs2]; exact Nat.lt_succ_self _) (show Ext w3 _ from (by repeat first | exact Ext.refl _ | assumption | refine Ext.drew ?_ | refine Ext.alloc ?_ _ | refine Ext.setCell ?_ (by simp) | refine Ext.setCell ?_ (by simp; omega) | refine Ext.trans ?_ (by assumption))).size) (.inr rfl) (fun b o e => by have := (hq5.blk b (by rw [e]; rfl)).1; omega) (fun g W hg hxg => ⟨(HBK.out.ext (by repeat first | exact Ext.refl _ | assumption | refine Ext.drew ?_ | refine Ext.alloc ?_ _ | refine Ext.setCell ?_ (by simp) | refine Ext.setCell ?_ (by simp; omega) | refine Ext.trans ?_ (by assumption))).ext hxg, by have h1 : w3.heap.size ≤ g := Nat.le_trans (show Ext w3 _ from (by repeat first | exact Ext.refl _ | assumption | refine Ext.drew ?_ | refine Ext.alloc ?_ _ | refine Ext.setCell ?_ (by simp) | refine Ext.setCell ?_ (by simp; omega) | refine Ext.trans ?_ (by assumption))).size hg; omega⟩) (fun g s W i v _ hI => ⟨hI.1.far (fun e => hI.2 e.symm) v, hI.2⟩) (fun g s W L _ hI _ _ => count_tell hI)).mono ?_; rintro e w7 ⟨⟨u, rfl⟩, ⟨g, hg, hbk7, -⟩, hgr⟩; have hx7 : Ext w w7 := gb_ext2 (hxw.trans (by repeat first | exact Ext.refl _ | assumption | refine Ext.drew ?_ | refine Ext.alloc ?_ _ | refine Ext.setCell ?_ (by simp) | refine Ext.setCell ?_ (by simp; omega) | refine Ext.trans ?_ (by assumption))) hgr (fun q e => by injection e with e; omega); have kr : w7.cell? ⟨w1.heap.size, 0, none⟩ = some (.int .i64 (sr tell2 (nbN ns ls) (List.replicate (vFaces ns ls).length (-1)) k (vFaces ns ls).length 0 []).1) := hbk7.cell 0; rw [count_val] at kr))
      refine rx_on (by repeat first | exact Ext.refl _ | assumption | refine Ext.drew ?_ | refine Ext.alloc ?_ _ | refine Ext.setCell ?_ (by simp) | refine Ext.setCell ?_ (by simp; omega) | refine Ext.trans ?_ (by assumption)) ?_
      refine rx_op 4 (k := 1) (m' := 31) rfl rfl (by kernel_rfl) (by kernel_rfl) ?_
      go_wp2
      refine rx_on (by repeat first | exact Ext.refl _ | assumption | refine Ext.drew ?_ | refine Ext.alloc ?_ _ | refine Ext.setCell ?_ (by simp) | refine Ext.setCell ?_ (by simp; omega) | refine Ext.trans ?_ (by assumption)) ?_
      refine rx_op 5 (k := 0) (m' := 63) rfl rfl (by kernel_rfl) (by kernel_rfl) ?_
      go_wp2_with (first | (go_at_call 63; refine (freely_i A B c d ns ls _ (h.ext (hxw.trans (by repeat first | exact Ext.refl _ | assumption | refine Ext.drew ?_ | refine Ext.alloc ?_ _ | refine Ext.setCell ?_ (by simp) | refine Ext.setCell ?_ (by simp; omega) | refine Ext.trans ?_ (by assumption))))).mono ?_; rintro e w5 ⟨v5, rfl, h5, hb5⟩; obtain ⟨A5, c5, rfl, -, -, hin5⟩ := h5.shape; simp only [List.length_replicate]; have hq5 := h5.more (B' := w3.heap.size) (show Ext w3 _ from (by repeat first | exact Ext.refl _ | assumption | refine Ext.drew ?_ | refine Ext.alloc ?_ _ | refine Ext.setCell ?_ (by simp) | refine Ext.setCell ?_ (by simp; omega) | refine Ext.trans ?_ (by assumption))).size) | (go_at_call 70; refine (paint_c tell2 (InvC w1.heap.size) 0 71 w1.heap.size A B c d ns ls A5 c5 (List.replicate (vFaces ns ls).length (-1)) (vFaces ns ls).length k _ (h.ext (hxw.trans (by repeat first | exact Ext.refl _ | assumption | refine Ext.drew ?_ | refine Ext.alloc ?_ _ | refine Ext.setCell ?_ (by simp) | refine Ext.setCell ?_ (by simp; omega) | refine Ext.trans ?_ (by assumption)))) HWW.out (hin5.ext (by repeat first | exact Ext.refl _ | assumption | refine Ext.drew ?_ | refine Ext.alloc ?_ _ | refine Ext.setCell ?_ (by simp) | refine Ext.setCell ?_ (by simp; omega) | refine Ext.trans ?_ (by assumption))) (by simp) rfl hk6 (Nat.lt_of_lt_of_le (by rw [hs2]; exact Nat.lt_succ_self _) (show Ext w3 _ from (by repeat first | exact Ext.refl _ | assumption | refine Ext.drew ?_ | refine Ext.alloc ?_ _ | refine Ext.setCell ?_ (by simp) | refine Ext.setCell ?_ (by simp; omega) | refine Ext.trans ?_ (by assumption))).size) (.inr rfl) (fun b o e => by have := (hq5.blk b (by rw [e]; rfl)).1; omega) (fun g W hg hxg => ⟨(HBK.out.ext (by repeat first | exact Ext.refl _ | assumption | refine Ext.drew ?_ | refine Ext.alloc ?_ _ | refine Ext.setCell ?_ (by simp) | refine Ext.setCell ?_ (by simp; omega) | refine Ext.trans ?_ (by assumption))).ext hxg, by have h1 : w3.heap.size ≤ g := Nat.le_trans (show Ext w3 _ from (by repeat first | exact Ext.refl _ | assumption | refine Ext.drew ?_ | refine Ext.alloc ?_ _ | refine Ext.setCell ?_ (by simp) | refine Ext.setCell ?_ (by simp; omega) | refine Ext.trans ?_ (by assumption))).size hg; omega⟩) (fun g s W i v _ hI => ⟨hI.1.far (fun e => hI.2 e.symm) v, hI.2⟩) (fun g s W L _ hI _ _ => count_tell hI)).mono ?_; rintro e w7 ⟨⟨u, rfl⟩, ⟨g, hg, hbk7, -⟩, hgr⟩; have hx7 : Ext w w7 := gb_ext2 (hxw.trans (by repeat first | exact Ext.refl _ | assumption | refine Ext.drew ?_ | refine Ext.alloc ?_ _ | refine Ext.setCell ?_ (by simp) | refine Ext.setCell ?_ (by simp; omega) | refine Ext.trans ?_ (by assumption))) hgr (fun q e => by injection e with e; omega); have kr : w7.cell? ⟨w1.heap.size, 0, none⟩ = some (.int .i64 (sr tell2 (nbN ns ls) (List.replicate (vFaces ns ls).length (-1)) k (vFaces ns ls).length 0 []).1) := hbk7.cell 0; rw [count_val] at kr))
      refine rx_lst (by decide) ?_
      refine rx_end (by kernel_rfl) ?_
      rotate_left
      go_wp2
      refine rx_on (by repeat first | exact Ext.refl _ | assumption | refine Ext.drew ?_ | refine Ext.alloc ?_ _ | refine Ext.setCell ?_ (by simp) | refine Ext.setCell ?_ (by simp; omega) | refine Ext.trans ?_ (by assumption)) ?_
      refine rx_op 2 (k := 1) (m' := 31) rfl rfl (by kernel_rfl) (by kernel_rfl) ?_
      go_wp2_with (first | (go_at_call 63; refine (freely_i A B c d ns ls _ (h.ext (hxw.trans (by repeat first | exact Ext.refl _ | assumption | refine Ext.drew ?_ | refine Ext.alloc ?_ _ | refine Ext.setCell ?_ (by simp) | refine Ext.setCell ?_ (by simp; omega) | refine Ext.trans ?_ (by assumption))))).mono ?_; rintro e w5 ⟨v5, rfl, h5, hb5⟩; obtain ⟨A5, c5, rfl, -, -, hin5⟩ := h5.shape; simp only [List.length_replicate]; have hq5 := h5.more (B' := w3.heap.size) (show Ext w3 _ from (by repeat first | exact Ext.refl _ | assumption | refine Ext.drew ?_ | refine Ext.alloc ?_ _ | refine Ext.setCell ?_ (by simp) | refine Ext.setCell ?_ (by simp; omega) | refine Ext.trans ?_ (by assumption))).size) | (go_at_call 70; refine (paint_c tell2 (InvC w1.heap.size) 0 71 w1.heap.size A B c d ns ls A5 c5 (List.replicate (vFaces ns ls).length (-1)) (vFaces ns ls).length k _ (h.ext (hxw.trans (by repeat first | exact Ext.refl _ | assumption | refine Ext.drew ?_ | refine Ext.alloc ?_ _ | refine Ext.setCell ?_ (by simp) | refine Ext.setCell ?_ (by simp; omega) | refine Ext.trans ?_ (by assumption)))) HWW.out (hin5.ext (by repeat first | exact Ext.refl _ | assumption | refine Ext.drew ?_ | refine Ext.alloc ?_ _ | refine Ext.setCell ?_ (by simp) | refine Ext.setCell ?_ (by simp; omega) | refine Ext.trans ?_ (by assumption))) (by simp) rfl hk6 (Nat.lt_of_lt_of_le (by rw [hs2]; exact Nat.lt_succ_self _) (show Ext w3 _ from (by repeat first | exact Ext.refl _ | assumption | refine Ext.drew ?_ | refine Ext.alloc ?_ _ | refine Ext.setCell ?_ (by simp) | refine Ext.setCell ?_ (by simp; omega) | refine Ext.trans ?_ (by assumption))).size) (.inr rfl) (fun b o e => by have := (hq5.blk b (by rw [e]; rfl)).1; omega) (fun g W hg hxg => ⟨(HBK.out.ext (by repeat first | exact Ext.refl _ | assumption | refine Ext.drew ?_ | refine Ext.alloc ?_ _ | refine Ext.setCell ?_ (by simp) | refine Ext.setCell ?_ (by simp; omega) | refine Ext.trans ?_ (by assumption))).ext hxg, by have h1 : w3.heap.size ≤ g := Nat.le_trans (show Ext w3 _ from (by repeat first | exact Ext.refl _ | assumption | refine Ext.drew ?_ | refine Ext.alloc ?_ _ | refine Ext.setCell ?_ (by simp) | refine Ext.setCell ?_ (by simp; omega) | refine Ext.trans ?_ (by assumption))).size hg; omega⟩) (fun g s W i v _ hI => ⟨hI.1.far (fun e => hI.2 e.symm) v, hI.2⟩) (fun g s W L _ hI _ _ => count_tell hI)).mono ?_; rintro e w7 ⟨⟨u, rfl⟩, ⟨g, hg, hbk7, -⟩, hgr⟩; have hx7 : Ext w w7 := gb_ext2 (hxw.trans (by repeat first | exact Ext.refl _ | assumption | refine Ext.drew ?_ | refine Ext.alloc ?_ _ | refine Ext.setCell ?_ (by simp) | refine Ext.setCell ?_ (by simp; omega) | refine Ext.trans ?_ (by assumption))) hgr (fun q e => by injection e with e; omega); have kr : w7.cell? ⟨w1.heap.size, 0, none⟩ = some (.int .i64 (sr tell2 (nbN ns ls) (List.replicate (vFaces ns ls).length (-1)) k (vFaces ns ls).length 0 []).1) := hbk7.cell 0; rw [count_val] at kr))
      refine rx_on (by repeat first | exact Ext.refl _ | assumption | refine Ext.drew ?_ | refine Ext.alloc ?_ _ | refine Ext.setCell ?_ (by simp) | refine Ext.setCell ?_ (by simp; omega) | refine Ext.trans ?_ (by assumption)) ?_
      refine rx_op 5 (k := 0) (m' := 63) rfl rfl (by kernel_rfl) (by kernel_rfl) ?_
      go_wp2_with (first | (go_at_call 63; refine (freely_i A B c d ns ls _ (h.ext (hxw.trans (by repeat first | exact Ext.refl _ | assumption | refine Ext.drew ?_ | refine Ext.alloc ?_ _ | refine Ext.setCell ?_ (by simp) | refine Ext.setCell ?_ (by simp; omega) | refine Ext.trans ?_ (by assumption))))).mono ?_; rintro e w5 ⟨v5, rfl, h5, hb5⟩; obtain ⟨A5, c5, rfl, -, -, hin5⟩ := h5.shape; simp only [List.length_replicate]; have hq5 := h5.more (B' := w3.heap.size) (show Ext w3 _ from (by repeat first | exact Ext.refl _ | assumption | refine Ext.drew ?_ | refine Ext.alloc ?_ _ | refine Ext.setCell ?_ (by simp) | refine Ext.setCell ?_ (by simp; omega) | refine Ext.trans ?_ (by assumption))).size) | (go_at_call 70; refine (paint_c tell2 (InvC w1.heap.size) 0 71 w1.heap.size A B c d ns ls A5 c5 (List.replicate (vFaces ns ls).length (-1)) (vFaces ns ls).length k _ (h.ext (hxw.trans (by repeat first | exact Ext.refl _ | assumption | refine Ext.drew ?_ | refine Ext.alloc ?_ _ | refine Ext.setCell ?_ (by simp) | refine Ext.setCell ?_ (by simp; omega) | refine Ext.trans ?_ (by assumption)))) HWW.out (hin5.ext (by repeat first | exact Ext.refl _ | assumption | refine Ext.drew ?_ | refine Ext.alloc ?_ _ | refine Ext.setCell ?_ (by simp) | refine Ext.setCell ?_ (by simp; omega) | refine Ext.trans ?_ (by assumption))) (by simp) rfl hk6 (Nat.lt_of_lt_of_le (by rw [hs2]; exact Nat.lt_succ_self _) (show Ext w3 _ from (by repeat first | exact Ext.refl _ | assumption | refine Ext.drew ?_ | refine Ext.alloc ?_ _ | refine Ext.setCell ?_ (by simp) | refine Ext.setCell ?_ (by simp; omega) | refine Ext.trans ?_ (by assumption))).size) (.inr rfl) (fun b o e => by have := (hq5.blk b (by rw [e]; rfl)).1; omega) (fun g W hg hxg => ⟨(HBK.out.ext (by repeat first | exact Ext.refl _ | assumption | refine Ext.drew ?_ | refine Ext.alloc ?_ _ | refine Ext.setCell ?_ (by simp) | refine Ext.setCell ?_ (by simp; omega) | refine Ext.trans ?_ (by assumption))).ext hxg, by have h1 : w3.heap.size ≤ g := Nat.le_trans (show Ext w3 _ from (by repeat first | exact Ext.refl _ | assumption | refine Ext.drew ?_ | refine Ext.alloc ?_ _ | refine Ext.setCell ?_ (by simp) | refine Ext.setCell ?_ (by simp; omega) | refine Ext.trans ?_ (by assumption))).size hg; omega⟩) (fun g s W i v _ hI => ⟨hI.1.far (fun e => hI.2 e.symm) v, hI.2⟩) (fun g s W L _ hI _ _ => count_tell hI)).mono ?_; rintro e w7 ⟨⟨u, rfl⟩, ⟨g, hg, hbk7, -⟩, hgr⟩; have hx7 : Ext w w7 := gb_ext2 (hxw.trans (by repeat first | exact Ext.refl _ | assumption | refine Ext.drew ?_ | refine Ext.alloc ?_ _ | refine Ext.setCell ?_ (by simp) | refine Ext.setCell ?_ (by simp; omega) | refine Ext.trans ?_ (by assumption))) hgr (fun q e => by injection e with e; omega); have kr : w7.cell? ⟨w1.heap.size, 0, none⟩ = some (.int .i64 (sr tell2 (nbN ns ls) (List.replicate (vFaces ns ls).length (-1)) k (vFaces ns ls).length 0 []).1) := hbk7.cell 0; rw [count_val] at kr))
      refine rx_lst (by decide) ?_
      refine rx_end (by kernel_rfl) ?_
      rotate_left
      all_goals (go_wp2; go_ret; exact ⟨ret_i (by rw [HV.out]), hx7.trans (by repeat first | exact Ext.refl _ | assumption | refine Ext.drew ?_ | refine Ext.alloc ?_ _ | refine Ext.setCell ?_ (by simp) | refine Ext.setCell ?_ (by simp; omega) | refine Ext.trans ?_ (by assumption))⟩)
    · rw [if_neg (fun e => hr e.2)] at HV
      have hr' := eq_false_of_ne_true hr
      go_enter Try.func18, Try.ntmps18
      go_wp2_with fail
      have k0 : (w.alloc (.cells #[.slice A ns.length c, .slice B ls.length d] 27)).cell? ⟨w.heap.size, 0, none⟩ = some (.slice A ns.length c) := by go_simp
      have k1 : (w.alloc (.cells #[.slice A ns.length c, .slice B ls.length d] 27)).cell? ⟨w.heap.size, 1, none⟩ = some (.slice B ls.length d) := by go_simp
      have hx : Ext w (w.alloc (.cells #[.slice A ns.length c, .slice B ls.length d] 27)) := (by repeat first | exact Ext.refl _ | assumption | refine Ext.drew ?_ | refine Ext.alloc ?_ _ | refine Ext.setCell ?_ (by simp) | refine Ext.setCell ?_ (by simp; omega) | refine Ext.trans ?_ (by assumption))
      have hsz1 : w.heap.size + 1 = (w.alloc (.cells #[.slice A ns.length c, .slice B ls.length d] 27)).heap.size := by simp
      generalize (w.alloc (.cells #[.slice A ns.length c, .slice B ls.length d] 27)) = w0 at *
      (try rw [hsz1])
      refine (IsWhole_i _ _ _ _ ns ls _ (h.ext hx)).mono ?_
      rintro e w1 ⟨rfl, hb⟩
      have k0 := hb.lit k0
      have k1 := hb.lit k1
      have hx := hx.trans hb
      clear hb
      rw [hp]
      go_wp2_with fail
      refine (within_c _ _ _ _).mono ?_
      rintro e w2 ⟨rfl, rfl⟩
      rw [hr']
      go_wp2
      go_ret
      exact ⟨ret_i (by rw [HV.out]), hx⟩
  · rw [if_neg (fun e => hp e.1)] at HV
    have hp' := eq_false_of_ne_true hp
    go_enter Try.func18, Try.ntmps18
    go_wp2_with fail
    have k0 : (w.alloc (.cells #[.slice A ns.length c, .slice B ls.length d] 27)).cell? ⟨w.heap.size, 0, none⟩ = some (.slice A ns.length c) := by go_simp
    have k1 : (w.alloc (.cells #[.slice A ns.length c, .slice B ls.length d] 27)).cell? ⟨w.heap.size, 1, none⟩ = some (.slice B ls.length d) := by go_simp
    have hx : Ext w (w.alloc (.cells #[.slice A ns.length c, .slice B ls.length d] 27)) := (by repeat first | exact Ext.refl _ | assumption | refine Ext.drew ?_ | refine Ext.alloc ?_ _ | refine Ext.setCell ?_ (by simp) | refine Ext.setCell ?_ (by simp; omega) | refine Ext.trans ?_ (by assumption))
    have hsz1 : w.heap.size + 1 = (w.alloc (.cells #[.slice A ns.length c, .slice B ls.length d] 27)).heap.size := by simp
    generalize (w.alloc (.cells #[.slice A ns.length c, .slice B ls.length d] 27)) = w0 at *
    (try rw [hsz1])
    refine (IsWhole_i _ _ _ _ ns ls _ (h.ext hx)).mono ?_
    rintro e w1 ⟨rfl, hb⟩
    have k0 := hb.lit k0
    have k1 := hb.lit k1
    have hx := hx.trans hb
    clear hb
    rw [hp']
    go_wp2
    go_ret
    exact ⟨ret_i (by rw [HV.out]), hx⟩
/-- 6 or fewer colors are enough -/
def fwP (ns ls : List P2) (i : Nat) : Bool := (vColorWith ns ls ((i : Int) + 1)).2
def vFewestColors (ns ls : List P2) : Int := if ffst (fwP ns ls) 6 < 0 then -1 else ffst (fwP ns ls) 6 + 1
set_option maxRecDepth 100000 in
set_option maxHeartbeats 2000000 in
theorem FewestColors_i (A B : Option Addr) (c d : Nat) (ns ls : List P2) (w : World) (h : Wn w A c B d ns ls) :
    Calls Try.prog 11 #[.agg #[.slice A ns.length c, .slice B ls.length d]] w fun e w' => e = .returned (.int .i64 (vFewestColors ns ls)) ∧ Ext w w' := by
  have HV : Hid (vFewestColors ns ls = if ffst (fwP ns ls) 6 < 0 then -1 else ffst (fwP ns ls) 6 + 1) := Lib.hid rfl
  have HP : Hid (∀ i : Nat, (vColorWith ns ls ((i : Int) + 1)).2 = fwP ns ls i) := Lib.hid (fun _ => rfl)
  go_enter Try.func11, Try.ntmps11
  go_wp2_with fail
  have k0 : (w.alloc (.cells #[.slice A ns.length c, .slice B ls.length d] 27)).cell? ⟨w.heap.size, 0, none⟩ = some (.slice A ns.length c) := by go_simp
  have k1 : (w.alloc (.cells #[.slice A ns.length c, .slice B ls.length d] 27)).cell? ⟨w.heap.size, 1, none⟩ = some (.slice B ls.length d) := by go_simp
  have hx : Ext w (w.alloc (.cells #[.slice A ns.length c, .slice B ls.length d] 27)) := (by repeat first | exact Ext.refl _ | assumption | refine Ext.drew ?_ | refine Ext.alloc ?_ _ | refine Ext.setCell ?_ (by simp) | refine Ext.setCell ?_ (by simp; omega) | refine Ext.trans ?_ (by assumption))
  have hsz1 : w.heap.size + 1 = (w.alloc (.cells #[.slice A ns.length c, .slice B ls.length d] 27)).heap.size := by simp
  generalize (w.alloc (.cells #[.slice A ns.length c, .slice B ls.length d] 27)) = w0 at *
  (try rw [hsz1])
  go_loopw [3, 4, 5] (fun n _ _ wr => ∃ j : Nat, j ≤ 6 ∧ n = .int .i64 ((j : Int) + 1) ∧ Hid (∀ i, i < j → fwP ns ls i = false) ∧ wr.cell? ⟨w.heap.size, 0, none⟩ = some (.slice A ns.length c) ∧ wr.cell? ⟨w.heap.size, 1, none⟩ = some (.slice B ls.length d) ∧ Ext w wr) (fun n _ _ _ => 7 - (intOf n).toNat)
  case atStart => exact ⟨0, by omega, rfl, Lib.hid (fun i hi => by omega), k0, k1, hx⟩
  case round =>
    clear k0 k1 hx
    obtain ⟨j, hj, rfl, hpr, k0, k1, hx⟩ := hrel
    obtain ⟨w4, rfl⟩ : ∃ x : World, x = wr := ⟨_, rfl⟩
    by_cases hlt : j < 6
    · have hji : (j : Int) + 1 ≤ 6 := by omega
      go_wp2_with fail
      refine (ColorWith_i _ _ _ _ ns ls ((j : Int) + 1) _ (h.ext hx)).mono ?_
      rintro e w5 ⟨v, rfl, -, hb⟩
      rw [HP.out]
      have k0 := hb.lit k0
      have k1 := hb.lit k1
      have hx := hx.trans hb
      cases hq : fwP ns ls j with
      | true =>
        have HE : Hid (vFewestColors ns ls = (j : Int) + 1) := Lib.hid (by rw [HV.out, ffst_yes hlt hq hpr.out, if_neg (by omega)])
        clear hq hpr
        go_wp2
        go_ret
        exact ⟨ret_i (by rw [HE.out]), hx⟩
      | false =>
        have Hs := Lib.hid (first_step hpr.out hq)
        clear hq hpr
        go_wp2
        go_roundw
        case rel => exact ⟨j + 1, by omega, by go_num, Hs, k0, k1, hx⟩
        case measure => first | (simp [intOf]; done) | (simp [intOf]; omega)
    · obtain rfl : j = 6 := by omega
      have HE : Hid (vFewestColors ns ls = -1) := Lib.hid (by rw [HV.out, ffst_no hpr.out]; rfl)
      go_wp2
      go_ret
      exact ⟨ret_i (by rw [HE.out]), hx⟩
end Go.Proofs.Ytdhmjhoaegdfjaa
