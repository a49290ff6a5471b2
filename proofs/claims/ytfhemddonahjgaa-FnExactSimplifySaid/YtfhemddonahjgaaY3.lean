import Derived.Test.YtfhemddonahjgaaY2
import Derived.Test.YtfhemddonahjgaaV7
import Derived.Deep.DeepCutAuto
namespace Go.Proofs.Ytfhemddonahjgaa
open Go.RowKit Go.Sort Go.BigFrame

def jS (L : List P2) (i1 kk j : Nat) : List P2 := (wnN L (i1 : Int) j).map (dn2 kk)
theorem jS_len (L : List P2) (i1 kk j : Nat) : (jS L i1 kk j).length ≤ j := by unfold jS; rw [List.length_map]; exact wnN_len _ _ _
theorem jS_zero (L : List P2) (i1 kk : Nat) : jS L i1 kk 0 = [] := rfl
theorem jS_skip {L : List P2} {i1 kk j : Nat} (e : j = i1) : jS L i1 kk (j + 1) = jS L i1 kk j := jm_skip e
theorem jS_step {L : List P2} {i1 kk j : Nat} (e : j ≠ i1) {x y : Int} (hg : gp L (j : Nat) = (x, y)) : jS L i1 kk (j + 1) = jS L i1 kk j ++ [(dnI kk x, dnI kk y)] := jm_step e hg

set_option maxRecDepth 100000 in
set_option maxHeartbeats 8000000 in
theorem JoinLeads_s (A B : Option Addr) (c d : Nat) (ns ls : List P2) (k : Int) (w : World) (h : Wn w A c B d ns ls) :
    Calls Try.prog 18 #[.agg #[.slice A ns.length c, .slice B ls.length d], .int .i64 k] w fun e w' => ∃ v1 v2, e = .returned (.tuple #[.agg #[v1, v2], .bool (vJoinLeads ns ls k).2]) ∧ OwP w' w.heap.size 36 v1 (vJoinLeads ns ls k).1.1 ∧ OwP w' w.heap.size 52 v2 (vJoinLeads ns ls k).1.2 ∧ Ext w w' := by
  have hnl := h.hl
  have hml := h.hm
  have hcc := h.hc
  have hcm := h.hcm
  cases hS : straight ns ls k with
  | false =>
    have HR : Hid (vJoinLeads ns ls k = ((ns, ls), false)) := Lib.hid (by unfold vJoinLeads jlOk; rw [hS]; rfl)
    go_enter Try.func18, Try.ntmps18
    go_upto_region 1 with fail
    have k0 : ((w.alloc (.cells #[.slice A ns.length c, .slice B ls.length d] 32)).alloc (.cells #[.slice none 0 0, .slice none 0 0] 32)).cell? ⟨w.heap.size, 0, none⟩ = some (.slice A ns.length c) := by go_simp
    have k1 : ((w.alloc (.cells #[.slice A ns.length c, .slice B ls.length d] 32)).alloc (.cells #[.slice none 0 0, .slice none 0 0] 32)).cell? ⟨w.heap.size, 1, none⟩ = some (.slice B ls.length d) := by go_simp
    have r0 : ((w.alloc (.cells #[.slice A ns.length c, .slice B ls.length d] 32)).alloc (.cells #[.slice none 0 0, .slice none 0 0] 32)).cell? ⟨w.heap.size + 1, 0, none⟩ = some (.slice none 0 0) := by go_simp
    have r1 : ((w.alloc (.cells #[.slice A ns.length c, .slice B ls.length d] 32)).alloc (.cells #[.slice none 0 0, .slice none 0 0] 32)).cell? ⟨w.heap.size + 1, 1, none⟩ = some (.slice none 0 0) := by go_simp
    have f0 : ((w.alloc (.cells #[.slice A ns.length c, .slice B ls.length d] 32)).alloc (.cells #[.slice none 0 0, .slice none 0 0] 32)).frozen? ⟨w.heap.size + 1, 0, none⟩ = false := by go_simp
    have f1 : ((w.alloc (.cells #[.slice A ns.length c, .slice B ls.length d] 32)).alloc (.cells #[.slice none 0 0, .slice none 0 0] 32)).frozen? ⟨w.heap.size + 1, 1, none⟩ = false := by go_simp
    have hx : Ext w ((w.alloc (.cells #[.slice A ns.length c, .slice B ls.length d] 32)).alloc (.cells #[.slice none 0 0, .slice none 0 0] 32)) := ((Ext.refl _).alloc _).alloc _
    have hs0 : ((w.alloc (.cells #[.slice A ns.length c, .slice B ls.length d] 32)).alloc (.cells #[.slice none 0 0, .slice none 0 0] 32)).heap.size = w.heap.size + 1 + 1 := by simp
    generalize ((w.alloc (.cells #[.slice A ns.length c, .slice B ls.length d] 32)).alloc (.cells #[.slice none 0 0, .slice none 0 0] 32)) = w0 at *
    generalize hb1 : w.heap.size + 1 = b1 at *
    have HS0 := Lib.hid hs0
    have hb10 : b1 < w0.heap.size := by rw [hs0]; omega
    have hw0 : w.heap.size ≤ w0.heap.size := hx.size
    clear hs0
    go_wp2_with fail
    refine (IsStraightNode_s _ _ _ _ ns ls _ _ (h.ext hx)).mono ?_
    rw [hS]
    rintro e w3 ⟨rfl, hb3⟩
    have k0 := hb3.lit k0
    have k1 := hb3.lit k1
    have hxq := hb3
    obtain ⟨wq, rfl⟩ : ∃ x : World, x = w3 := ⟨_, rfl⟩
    clear hb3
    go_wp2_with fail
    refine (copy_s_l04Copy _ _ _ _ ns ls _ (h.ext (hx.trans hxq))).mono ?_
    rintro e w16 ⟨v7, v8, rfl, o7, o8, -, hb16⟩
    have hsq := hxq.size
    have hxx := hxq.trans hb16
    have r0 := hxx.lit r0
    have r1 := hxx.lit r1
    have f0 := hxx.frz hb10 f0
    have f1 := hxx.frz hb10 f1
    obtain ⟨A7, c7, rfl, -, -, -⟩ := o7.shape
    obtain ⟨A8, c8, rfl, -, -, -⟩ := o8.shape
    go_wp2
    (try simp only [Exit.inBlock, Exit.then])
    refine bodyPost_ret (by simp [results, Try.results18, go_sem, r0, r1]; try rfl) rfl ?_
    exact ⟨_, _, ret_wb (by rw [HR.out]), by rw [HR.out]; exact (o7.gb2 (gb_set (gb_set (gb_refl _ (some b1)) 0 _) 1 _) (by omega)).more (by omega), by rw [HR.out]; exact (o8.gb2 (gb_set (gb_set (gb_refl _ (some b1)) 0 _) 1 _) (by omega)).more (by omega), Ext.setCell (p := ⟨b1, 1, none⟩) (Ext.setCell (p := ⟨b1, 0, none⟩) (hx.trans hxx) (by show w.heap.size ≤ b1; omega)) (by show w.heap.size ≤ b1; omega)⟩
  | true =>
    obtain ⟨hW, kk, i0, i1, a, b, rfl, hkk, hl2, e0, e1, h01, h1l, ea, han, hak, eb, hbn, hbk, hot⟩ := jl_facts hS
    have hn12 := hW.hi
    have hl20 := hW.le
    obtain ⟨pa, hpa⟩ : ∃ x : Int, imin (a : Int) b = x := ⟨_, rfl⟩
    obtain ⟨pb, hpb⟩ : ∃ x : Int, imax (a : Int) b = x := ⟨_, rfl⟩
    have hma : min (a : Int) b = pa := hpa
    have hmb : max (a : Int) b = pb := hpb
    have HJ : Hid (jlOk ns ls kk = wok (wnN ns kk ns.length) (jL ns ls kk)) := Lib.hid (by unfold jlOk; rw [hS]; rfl)
    have HPP : Hid (jPt ns ls kk = (pa, pb)) := Lib.hid (by unfold jPt; rw [e0, e1, ea, eb, hma, hmb])
    have HJL : Hid (jL ns ls kk = jS (ls.set i0 (pa, pb)) i1 kk ls.length) := Lib.hid (by unfold jL jM jS; rw [HPP.out, e0, e1]; rfl)
    have HGS : Hid (∀ j : Nat, j < ls.length → gp (ls.set i0 (pa, pb)) (j : Nat) = if j = i0 then (pa, pb) else gp ls (j : Nat)) := Lib.hid (fun j hj => gp_set hj)
    have hpr : 0 ≤ pa ∧ pa < 100 ∧ 0 ≤ pb ∧ pb < 100 := by omega
    obtain ⟨hp1, hp2, hp3, hp4⟩ := hpr
    have hwo : wok ns ls = true := wok_iff.2 hW
    have hki : (kk : Int) < ns.length := by omega
    have hkc : kk + 1 ≤ c := by omega
    obtain ⟨j0, hi0, -, -, -⟩ := info_parts (infoN)
    have HTL : Hid (kk = (ns.take kk).length) := Lib.hid (by simp; omega)
    have HDL : Hid (ns.length - (kk + 1) = (ns.drop (kk + 1)).length) := Lib.hid (by simp)
    have HLT : Hid ((ns.take kk).length ≤ 2000000) := Lib.hid (by simp; omega)
    have HLD : Hid ((ns.drop (kk + 1)).length ≤ 2000000) := Lib.hid (by simp; omega)
    have HWN : Hid (wnN ns kk ns.length = ns.take kk ++ ns.drop (kk + 1)) := Lib.hid (wnN_all hkk)
    have HE0 := Lib.hid e0
    have HE1 := Lib.hid e1
    have HEA := Lib.hid ea
    have HEB := Lib.hid eb
    have HHl := Lib.hid hl2
    clear hW e0 e1 ea eb hl2 hot hma hmb
    have hi0l : (i0 : Int) < ls.length := by omega
    have hi1l : (i1 : Int) < ls.length := by omega
    go_enter Try.func18, Try.ntmps18
    go_upto_region 1 with fail
    have k0 : ((w.alloc (.cells #[.slice A ns.length c, .slice B ls.length d] 32)).alloc (.cells #[.slice none 0 0, .slice none 0 0] 32)).cell? ⟨w.heap.size, 0, none⟩ = some (.slice A ns.length c) := by go_simp
    have k1 : ((w.alloc (.cells #[.slice A ns.length c, .slice B ls.length d] 32)).alloc (.cells #[.slice none 0 0, .slice none 0 0] 32)).cell? ⟨w.heap.size, 1, none⟩ = some (.slice B ls.length d) := by go_simp
    have r0 : ((w.alloc (.cells #[.slice A ns.length c, .slice B ls.length d] 32)).alloc (.cells #[.slice none 0 0, .slice none 0 0] 32)).cell? ⟨w.heap.size + 1, 0, none⟩ = some (.slice none 0 0) := by go_simp
    have r1 : ((w.alloc (.cells #[.slice A ns.length c, .slice B ls.length d] 32)).alloc (.cells #[.slice none 0 0, .slice none 0 0] 32)).cell? ⟨w.heap.size + 1, 1, none⟩ = some (.slice none 0 0) := by go_simp
    have f0 : ((w.alloc (.cells #[.slice A ns.length c, .slice B ls.length d] 32)).alloc (.cells #[.slice none 0 0, .slice none 0 0] 32)).frozen? ⟨w.heap.size + 1, 0, none⟩ = false := by go_simp
    have f1 : ((w.alloc (.cells #[.slice A ns.length c, .slice B ls.length d] 32)).alloc (.cells #[.slice none 0 0, .slice none 0 0] 32)).frozen? ⟨w.heap.size + 1, 1, none⟩ = false := by go_simp
    have hx : Ext w ((w.alloc (.cells #[.slice A ns.length c, .slice B ls.length d] 32)).alloc (.cells #[.slice none 0 0, .slice none 0 0] 32)) := ((Ext.refl _).alloc _).alloc _
    have hs0 : ((w.alloc (.cells #[.slice A ns.length c, .slice B ls.length d] 32)).alloc (.cells #[.slice none 0 0, .slice none 0 0] 32)).heap.size = w.heap.size + 1 + 1 := by simp
    generalize ((w.alloc (.cells #[.slice A ns.length c, .slice B ls.length d] 32)).alloc (.cells #[.slice none 0 0, .slice none 0 0] 32)) = w0 at *
    generalize hb1 : w.heap.size + 1 = b1 at *
    have HS0 := Lib.hid hs0
    have hb10 : b1 < w0.heap.size := by rw [hs0]; omega
    have hw0 : w.heap.size ≤ w0.heap.size := hx.size
    clear hs0
    go_wp2_with fail
    refine (IsStraightNode_s _ _ _ _ ns ls _ _ (h.ext hx)).mono ?_
    rw [hS]
    rintro e w3 ⟨rfl, hb3⟩
    have k0 := hb3.lit k0
    have k1 := hb3.lit k1
    go_wp2_with fail
    refine (LeadsAt_s A B c d ns ls _ _ (h.ext (hx.trans hb3))).mono ?_
    rintro e w4 ⟨vl, rfl, ol, hb4⟩
    have k0 := hb4.lit k0
    have k1 := hb4.lit k1
    have hx04 := hb3.trans hb4
    obtain ⟨gl, cl, rfl, -, -, -, -, -⟩ := ol.gi_ (j := 0) (by rw [HHl.out]; omega)
    rw [HHl.out]
    have l0 := (ol.cel (j := 0) (by rw [HHl.out]; omega)).1
    have l1 := (ol.cel (j := 1) (by rw [HHl.out]; omega)).1
    rw [HE0.out] at l0
    rw [HE1.out] at l1
    clear ol hb3 hb4
    obtain ⟨bL, oL, eB, -, x0, x1⟩ := h.g.gp_ (show i0 < ls.length by omega)
    obtain ⟨bL', oL', e', -, z0, z1⟩ := h.g.gp_ h1l
    subst eB
    obtain ⟨rfl, rfl⟩ : bL = bL' ∧ oL = oL' := by simpa using e'
    clear e'
    obtain ⟨px, py, hg0⟩ : ∃ x y, gp ls (i0 : Nat) = (x, y) := ⟨_, _, rfl⟩
    obtain ⟨qx, qy, hg1⟩ : ∃ x y, gp ls (i1 : Nat) = (x, y) := ⟨_, _, rfl⟩
    rw [hg0] at x0 x1
    rw [hg1] at z0 z1
    have HO0 : Hid (oend (px, py) (kk : Int) = a) := Lib.hid (by rw [← hg0]; exact HEA.out)
    have HO1 : Hid (oend (qx, qy) (kk : Int) = b) := Lib.hid (by rw [← hg1]; exact HEB.out)
    clear hg0 hg1
    have x0 := (hx.trans hx04).lit x0
    have x1 := (hx.trans hx04).lit x1
    have z0 := (hx.trans hx04).lit z0
    have z1 := (hx.trans hx04).lit z1
    go_upto_region 4 with fail
    have d1 := cell_regrown k1
    have d2 := cell_regrown l0
    have d3 := cell_regrown x0
    have d4 := cell_regrown x1
    refine rx_open [(true, 0, some 21, 4), (true, 1, some 22, 2097152), (true, 0, some 23, 64), (true, 4, some 24, 8388608), (true, 8, some 25, 16777216), (true, 18, some 26, 37748736), (true, 32, some 27, 67108864), (true, 0, some 28, 2), (false, 192, some 29, 402653184), (true, 511, some 7, 536870912)] 0 10 mixd rfl (by kernel_rfl) (by kernel_rfl) (by kernel_rfl) ?_
    refine rx_run (run := [0, 1, 2, 3, 4, 5, 6, 7]) (k := 2) (m' := 255) rfl (by kernel_rfl) (by kernel_rfl) (by kernel_rfl) (fm_cons rfl <| fm_cons rfl <| fm_cons rfl <| fm_cons rfl <| fm_cons rfl <| fm_cons rfl <| fm_cons rfl <| fm_cons rfl <| List.filterMap_nil) (by repeat first | exact Ext.refl _ | assumption | refine Ext.drew ?_ | refine Ext.alloc ?_ _ | refine Ext.setCell ?_ (by simp) | refine Ext.setCell ?_ (by simp; omega) | refine Ext.trans ?_ (by assumption)) ?_
    repeat (go_big_quiet_step ((fail)))
    refine wpQuiet_nil ?_
    refine rx_op 8 (k := 1) (m' := 511) rfl rfl (by kernel_rfl) (by kernel_rfl) ?_
    go_wp2_with ((go_at_call 46; refine (OtherEnd_s px py kk _).mono ?_; rw [HO0.out]; rintro e w5 ⟨rfl, hb5⟩))
    refine rx_on (by repeat first | exact Ext.refl _ | assumption | refine Ext.drew ?_ | refine Ext.alloc ?_ _ | refine Ext.setCell ?_ (by simp) | refine Ext.setCell ?_ (by simp; omega) | refine Ext.trans ?_ (by assumption)) ?_
    refine rx_run (run := [9]) (k := 0) (m' := 1023) rfl (by kernel_rfl) (by kernel_rfl) (by kernel_rfl) (fm_cons rfl <| List.filterMap_nil) (by repeat first | exact Ext.refl _ | assumption | refine Ext.drew ?_ | refine Ext.alloc ?_ _ | refine Ext.setCell ?_ (by simp) | refine Ext.setCell ?_ (by simp; omega) | refine Ext.trans ?_ (by assumption)) ?_
    repeat (go_big_quiet_step ((fail)))
    refine wpQuiet_nil ?_
    refine rx_end (by kernel_rfl) ?_
    have hx45 : Ext w4 w5 := (by repeat first | exact Ext.refl _ | assumption | refine Ext.drew ?_ | refine Ext.alloc ?_ _ | refine Ext.setCell ?_ (by simp) | refine Ext.setCell ?_ (by simp; omega) | refine Ext.trans ?_ (by assumption))
    have k0 := hx45.lit k0
    have k1 := hx45.lit k1
    have l0 := hx45.lit l0
    have l1 := hx45.lit l1
    have z0 := hx45.lit z0
    have z1 := hx45.lit z1
    have hx05 := hx04.trans hx45
    clear d1 d2 d3 d4 x0 x1 hb5 hx45
    go_upto_region 5 with fail
    have d1 := cell_regrown k1
    have d2 := cell_regrown l1
    have d3 := cell_regrown z0
    have d4 := cell_regrown z1
    refine rx_open [(true, 0, some 30, 4), (true, 1, some 31, 1073741824), (true, 0, some 32, 64), (true, 4, some 33, 4294967296), (true, 8, some 34, 8589934592), (true, 18, some 35, 19327352832), (true, 32, some 36, 34359738368), (true, 0, some 37, 2), (false, 192, some 38, 206158430208), (true, 511, some 8, 274877906944)] 0 10 mixd rfl (by kernel_rfl) (by kernel_rfl) (by kernel_rfl) ?_
    refine rx_run (run := [0, 1, 2, 3, 4, 5, 6, 7]) (k := 2) (m' := 255) rfl (by kernel_rfl) (by kernel_rfl) (by kernel_rfl) (fm_cons rfl <| fm_cons rfl <| fm_cons rfl <| fm_cons rfl <| fm_cons rfl <| fm_cons rfl <| fm_cons rfl <| fm_cons rfl <| List.filterMap_nil) (by repeat first | exact Ext.refl _ | assumption | refine Ext.drew ?_ | refine Ext.alloc ?_ _ | refine Ext.setCell ?_ (by simp) | refine Ext.setCell ?_ (by simp; omega) | refine Ext.trans ?_ (by assumption)) ?_
    repeat (go_big_quiet_step ((fail)))
    refine wpQuiet_nil ?_
    refine rx_op 8 (k := 1) (m' := 511) rfl rfl (by kernel_rfl) (by kernel_rfl) ?_
    go_wp2_with ((go_at_call 46; refine (OtherEnd_s qx qy kk _).mono ?_; rw [HO1.out]; rintro e w2 ⟨rfl, hb5⟩))
    refine rx_on (by repeat first | exact Ext.refl _ | assumption | refine Ext.drew ?_ | refine Ext.alloc ?_ _ | refine Ext.setCell ?_ (by simp) | refine Ext.setCell ?_ (by simp; omega) | refine Ext.trans ?_ (by assumption)) ?_
    refine rx_run (run := [9]) (k := 0) (m' := 1023) rfl (by kernel_rfl) (by kernel_rfl) (by kernel_rfl) (fm_cons rfl <| List.filterMap_nil) (by repeat first | exact Ext.refl _ | assumption | refine Ext.drew ?_ | refine Ext.alloc ?_ _ | refine Ext.setCell ?_ (by simp) | refine Ext.setCell ?_ (by simp; omega) | refine Ext.trans ?_ (by assumption)) ?_
    repeat (go_big_quiet_step ((fail)))
    refine wpQuiet_nil ?_
    refine rx_end (by kernel_rfl) ?_
    have hx52 : Ext w5 w2 := (by repeat first | exact Ext.refl _ | assumption | refine Ext.drew ?_ | refine Ext.alloc ?_ _ | refine Ext.setCell ?_ (by simp) | refine Ext.setCell ?_ (by simp; omega) | refine Ext.trans ?_ (by assumption))
    have k0 := hx52.lit k0
    have k1 := hx52.lit k1
    have l0 := hx52.lit l0
    have l1 := hx52.lit l1
    have hx02 := hx05.trans hx52
    clear d1 d2 d3 d4 z0 z1 hb5 hx52
    have hx2 := hx.trans hx02
    have HPW := Lib.hid (h.ext hx2).h
    have HPT := Lib.hid ((h.ext hx2).h.take kk)
    have HXX := Lib.hid hx2
    have HX0 := Lib.hid hx02
    have HXA := Lib.hid hx
    have hs2 := hx02.size
    clear hx2 hx02 hx04 hx05
    go_upto_region 6 with fail
    have d0 := cell_regrown k0
    go_cut [9] (fun s6 wx => ∃ (g6 : Nat) (A5 : Option Addr) (c5 : Nat), s6 = .pointer (some ⟨g6, 0, none⟩) ∧ w2.heap.size ≤ g6 ∧ Hid (Bk wx g6 32 [.slice A5 (wnN ns kk ns.length).length c5, .slice none 0 0]) ∧ Hid (OwP wx w2.heap.size 36 (.slice A5 (wnN ns kk ns.length).length c5) (wnN ns kk ns.length)) ∧ Ext w2 wx)
    case first =>
      refine rx_open [(false, 0, some 39, 0), (true, 0, some 40, 4), (true, 2, some 41, 1099511627776), (true, 0, some 42, 2), (false, 12, some 43, 6597069766656), (false, 17, some 44, 9345848836096), (true, 0, some 45, 4), (true, 64, some 46, 35184372088832), (true, 0, some 47, 2), (true, 256, some 48, 140737488355328), (false, 640, some 49, 351843720888320), (false, 1056, some 50, 580542139465728), (false, 2048, some 51, 1125899906842624), (false, 0, some 9, 0), (false, 16383, none, 2251799813685760)] 16384 15 mixd rfl (by kernel_rfl) (by kernel_rfl) (by kernel_rfl) ?_
      have hxc := Ext.drew (Ext.refl w2)
      obtain ⟨wz, hwz⟩ : ∃ x : World, x = w2.drew := ⟨_, rfl⟩
      rw [← hwz]
      rw [← hwz] at hxc
      clear hwz
      refine rx_run (run := [1, 2, 3, 6, 7, 8, 9]) (k := 8) (m' := 974) rfl (by kernel_rfl) (by kernel_rfl) (by kernel_rfl) (fm_cons rfl <| fm_cons rfl <| fm_cons rfl <| fm_cons rfl <| fm_cons rfl <| fm_cons rfl <| fm_cons rfl <| List.filterMap_nil) hxc ?_
      repeat (go_big_quiet_step ((fail)))
      refine wpQuiet_nil ?_
      refine rx_slHi 4 (k := 7) (m' := 990) rfl rfl (by decide) (by kernel_rfl) (by kernel_rfl) rfl hxc rfl rfl rfl (q := kk) rfl (by omega) Try.underlying29 hi0 ?_
      refine rx_slLo 10 (k := 6) (m' := 2014) rfl rfl (by decide) (by kernel_rfl) (by kernel_rfl) rfl hxc rfl rfl rfl (q := kk + 1) rfl (by omega) Try.underlying29 infoN ?_
      intro A0 hA0
      have HPD := Lib.hid (hA0 _ _ _ HPW.out rfl hcc)
      clear hA0
      refine rx_two 0 13 (k := 5) (mi := 2015) (mj := 10206) rfl rfl rfl (by kernel_rfl) (by kernel_rfl) (by kernel_rfl) ?_ ?_
      · skip
        go_wp2
        refine rx_on (Ext.alloc hxc _) ?_
        have hgB := hxc.size
        generalize hgz : wz.heap.size = gz at hgB
        refine rx_genE hgz ?_
        intro wa1 hbn HZ
        have HZ := Lib.hid (show OwP wa1 w2.heap.size 36 (.slice (some ⟨gz, 0, none⟩) 0 0) [] from ow_more HZ hgB)
        replace hxc := hxc.trans hbn
        clear hbn hgz hgB
        refine rx_two 5 13 (k := 4) (mi := 2047) (mj := 10207) rfl rfl rfl (by kernel_rfl) (by kernel_rfl) (by kernel_rfl) ?_ ?_
        · skip
          go_wp2_with (at_builtin; refine az_fresh (v := .slice (some ⟨gz, 0, none⟩) 0 0) (B := w2.heap.size) 29 36 Try.underlying29 infoN _ _ rfl rfl rfl HZ.out ⟨_, rfl⟩ rfl HTL.out (HPT.out.ext hxc) HLT.out hxc.size ?_; intro v1 wb2 hv1 hb4 hd1; obtain ⟨A1, c1, e1, -, -, -⟩ := hv1.shape; rw [← HTL.out] at e1; subst e1)
          have HZ := Lib.hid hv1
          refine rx_on (hxc.trans hb4) ?_
          replace hxc := hxc.trans hb4
          clear hb4 hd1 hv1
          refine rx_two 11 13 (k := 3) (mi := 4095) (mj := 10239) rfl rfl rfl (by kernel_rfl) (by kernel_rfl) (by kernel_rfl) ?_ ?_
          · skip
            go_wp2_with (at_builtin; refine az_src 29 36 Try.underlying29 infoN _ _ rfl rfl (v := .slice A1 kk c1) rfl HZ.out rfl HDL.out (HPD.out.ext hxc) HLT.out HLD.out hxc.size ?_; intro v5 wc3 r5 h5 h5e h5g h5r; rw [← HWN.out] at h5; obtain ⟨A5, c5, e5, -, -, -⟩ := h5.shape; subst e5)
            have hx5 := h5e w2 hxc (Nat.le_refl _)
            refine rx_on hx5 ?_
            replace hxc := hx5
            have HZ := Lib.hid h5
            clear h5 h5e h5g h5r hx5
            refine rx_two 12 13 (k := 2) (mi := 8191) (mj := 12287) rfl rfl rfl (by kernel_rfl) (by kernel_rfl) (by kernel_rfl) ?_ ?_
            · skip
              go_wp2
              refine rx_on hxc ?_
              refine rx_op 13 (k := 1) (m' := 16383) rfl rfl (by kernel_rfl) (by kernel_rfl) ?_
              go_wp2
              refine rx_on (Ext.alloc hxc _) ?_
              have hgC := hxc.size
              generalize hg6 : wc3.heap.size = g6 at hgC
              refine rx_genB hg6 ?_
              intro wd5 hbn hB6
              have HB6 := Lib.hid hB6
              have HZ := Lib.hid (HZ.out.ext2 hbn)
              replace hxc := hxc.trans hbn
              clear hbn hB6 hg6
              have a60 : wd5.cell? ⟨g6, 0, none⟩ = some (.slice none 0 0) := HB6.out.cell 0
              have a61 : wd5.cell? ⟨g6, 1, none⟩ = some (.slice none 0 0) := HB6.out.cell 1
              have f60 := HB6.out.froz 0
              have f61 := HB6.out.froz 1
              refine rx_op 14 (k := 0) (m' := 32767) rfl rfl (by kernel_rfl) (by kernel_rfl) ?_
              go_wp2
              refine rx_lst (by decide) ?_
              refine rx_end (by kernel_rfl) ?_
              (go_wp2; go_meet; exact ⟨g6, A5, c5, rfl, hgC, Lib.hid ((HB6.out.set_ 0 _).set_ 1 _), Lib.hid ((HZ.out.far HB6.out (by decide) 0 _).far (HB6.out.set_ 0 _) (by decide) 1 _), Ext.setCell (p := ⟨g6, 1, none⟩) (Ext.setCell (p := ⟨g6, 0, none⟩) hxc hgC) hgC⟩)
            · skip
              go_wp2
              refine rx_on (Ext.alloc hxc _) ?_
              have hgC := hxc.size
              generalize hg6 : wc3.heap.size = g6 at hgC
              refine rx_genB hg6 ?_
              intro wd6 hbn hB6
              have HB6 := Lib.hid hB6
              have HZ := Lib.hid (HZ.out.ext2 hbn)
              replace hxc := hxc.trans hbn
              clear hbn hB6 hg6
              refine rx_op 12 (k := 1) (m' := 16383) rfl rfl (by kernel_rfl) (by kernel_rfl) ?_
              go_wp2
              refine rx_on hxc ?_
              have a60 : wd6.cell? ⟨g6, 0, none⟩ = some (.slice none 0 0) := HB6.out.cell 0
              have a61 : wd6.cell? ⟨g6, 1, none⟩ = some (.slice none 0 0) := HB6.out.cell 1
              have f60 := HB6.out.froz 0
              have f61 := HB6.out.froz 1
              refine rx_op 14 (k := 0) (m' := 32767) rfl rfl (by kernel_rfl) (by kernel_rfl) ?_
              go_wp2
              refine rx_lst (by decide) ?_
              refine rx_end (by kernel_rfl) ?_
              (go_wp2; go_meet; exact ⟨g6, A5, c5, rfl, hgC, Lib.hid ((HB6.out.set_ 0 _).set_ 1 _), Lib.hid ((HZ.out.far HB6.out (by decide) 0 _).far (HB6.out.set_ 0 _) (by decide) 1 _), Ext.setCell (p := ⟨g6, 1, none⟩) (Ext.setCell (p := ⟨g6, 0, none⟩) hxc hgC) hgC⟩)
          · skip
            go_wp2
            refine rx_on (Ext.alloc hxc _) ?_
            have hgC := hxc.size
            generalize hg6 : wb2.heap.size = g6 at hgC
            refine rx_genB hg6 ?_
            intro wd8 hbn hB6
            have HB6 := Lib.hid hB6
            have HZ := Lib.hid (HZ.out.ext2 hbn)
            replace hxc := hxc.trans hbn
            clear hbn hB6 hg6
            refine rx_op 11 (k := 2) (m' := 12287) rfl rfl (by kernel_rfl) (by kernel_rfl) ?_
            go_wp2_with (at_builtin; refine az_src 29 36 Try.underlying29 infoN _ _ rfl rfl (v := .slice A1 kk c1) rfl HZ.out rfl HDL.out (HPD.out.ext hxc) HLT.out HLD.out hxc.size ?_; intro v5 wc9 r5 h5 h5e h5g h5r; rw [← HWN.out] at h5; obtain ⟨A5, c5, e5, -, -, -⟩ := h5.shape; subst e5)
            have hx5 := h5e w2 hxc (Nat.le_refl _)
            replace HB6 := Lib.hid (gb_bk HB6.out h5g (fun e => OwP.nebk HZ.out HB6.out (by decide) (h5r _ e)))
            refine rx_on hx5 ?_
            replace hxc := hx5
            have HZ := Lib.hid h5
            clear h5 h5e h5g h5r hx5
            refine rx_op 12 (k := 1) (m' := 16383) rfl rfl (by kernel_rfl) (by kernel_rfl) ?_
            go_wp2
            refine rx_on hxc ?_
            have a60 : wc9.cell? ⟨g6, 0, none⟩ = some (.slice none 0 0) := HB6.out.cell 0
            have a61 : wc9.cell? ⟨g6, 1, none⟩ = some (.slice none 0 0) := HB6.out.cell 1
            have f60 := HB6.out.froz 0
            have f61 := HB6.out.froz 1
            refine rx_op 14 (k := 0) (m' := 32767) rfl rfl (by kernel_rfl) (by kernel_rfl) ?_
            go_wp2
            refine rx_lst (by decide) ?_
            refine rx_end (by kernel_rfl) ?_
            (go_wp2; go_meet; exact ⟨g6, A5, c5, rfl, hgC, Lib.hid ((HB6.out.set_ 0 _).set_ 1 _), Lib.hid ((HZ.out.far HB6.out (by decide) 0 _).far (HB6.out.set_ 0 _) (by decide) 1 _), Ext.setCell (p := ⟨g6, 1, none⟩) (Ext.setCell (p := ⟨g6, 0, none⟩) hxc hgC) hgC⟩)
        · skip
          go_wp2
          refine rx_on (Ext.alloc hxc _) ?_
          have hgC := hxc.size
          generalize hg6 : wa1.heap.size = g6 at hgC
          refine rx_genB hg6 ?_
          intro wd11 hbn hB6
          have HB6 := Lib.hid hB6
          have HZ := Lib.hid (HZ.out.ext2 hbn)
          replace hxc := hxc.trans hbn
          clear hbn hB6 hg6
          refine rx_op 5 (k := 3) (m' := 10239) rfl rfl (by kernel_rfl) (by kernel_rfl) ?_
          go_wp2_with (at_builtin; refine az_fresh (v := .slice (some ⟨gz, 0, none⟩) 0 0) (B := w2.heap.size) 29 36 Try.underlying29 infoN _ _ rfl rfl rfl HZ.out ⟨_, rfl⟩ rfl HTL.out (HPT.out.ext hxc) HLT.out hxc.size ?_; intro v1 wb12 hv1 hb4 hd1; obtain ⟨A1, c1, e1, -, -, -⟩ := hv1.shape; rw [← HTL.out] at e1; subst e1)
          have HZ := Lib.hid hv1
          refine rx_on (hxc.trans hb4) ?_
          replace HB6 := Lib.hid (HB6.out.ext hb4)
          replace hxc := hxc.trans hb4
          clear hb4 hd1 hv1
          refine rx_op 11 (k := 2) (m' := 12287) rfl rfl (by kernel_rfl) (by kernel_rfl) ?_
          go_wp2_with (at_builtin; refine az_src 29 36 Try.underlying29 infoN _ _ rfl rfl (v := .slice A1 kk c1) rfl HZ.out rfl HDL.out (HPD.out.ext hxc) HLT.out HLD.out hxc.size ?_; intro v5 wc13 r5 h5 h5e h5g h5r; rw [← HWN.out] at h5; obtain ⟨A5, c5, e5, -, -, -⟩ := h5.shape; subst e5)
          have hx5 := h5e w2 hxc (Nat.le_refl _)
          replace HB6 := Lib.hid (gb_bk HB6.out h5g (fun e => OwP.nebk HZ.out HB6.out (by decide) (h5r _ e)))
          refine rx_on hx5 ?_
          replace hxc := hx5
          have HZ := Lib.hid h5
          clear h5 h5e h5g h5r hx5
          refine rx_op 12 (k := 1) (m' := 16383) rfl rfl (by kernel_rfl) (by kernel_rfl) ?_
          go_wp2
          refine rx_on hxc ?_
          have a60 : wc13.cell? ⟨g6, 0, none⟩ = some (.slice none 0 0) := HB6.out.cell 0
          have a61 : wc13.cell? ⟨g6, 1, none⟩ = some (.slice none 0 0) := HB6.out.cell 1
          have f60 := HB6.out.froz 0
          have f61 := HB6.out.froz 1
          refine rx_op 14 (k := 0) (m' := 32767) rfl rfl (by kernel_rfl) (by kernel_rfl) ?_
          go_wp2
          refine rx_lst (by decide) ?_
          refine rx_end (by kernel_rfl) ?_
          (go_wp2; go_meet; exact ⟨g6, A5, c5, rfl, hgC, Lib.hid ((HB6.out.set_ 0 _).set_ 1 _), Lib.hid ((HZ.out.far HB6.out (by decide) 0 _).far (HB6.out.set_ 0 _) (by decide) 1 _), Ext.setCell (p := ⟨g6, 1, none⟩) (Ext.setCell (p := ⟨g6, 0, none⟩) hxc hgC) hgC⟩)
      · skip
        go_wp2
        refine rx_on (Ext.alloc hxc _) ?_
        have hgC := hxc.size
        generalize hg6 : wz.heap.size = g6 at hgC
        refine rx_genB hg6 ?_
        intro wd15 hbn hB6
        have HB6 := Lib.hid hB6
        replace hxc := hxc.trans hbn
        clear hbn hB6 hg6
        refine rx_op 0 (k := 4) (m' := 10207) rfl rfl (by kernel_rfl) (by kernel_rfl) ?_
        go_wp2
        refine rx_on (Ext.alloc hxc _) ?_
        have hgB := hxc.size
        generalize hgz : wd15.heap.size = gz at hgB
        refine rx_genE hgz ?_
        intro wa16 hbn HZ
        have HZ := Lib.hid (show OwP wa16 w2.heap.size 36 (.slice (some ⟨gz, 0, none⟩) 0 0) [] from ow_more HZ hgB)
        replace HB6 := Lib.hid (HB6.out.ext hbn)
        replace hxc := hxc.trans hbn
        clear hbn hgz hgB
        refine rx_op 5 (k := 3) (m' := 10239) rfl rfl (by kernel_rfl) (by kernel_rfl) ?_
        go_wp2_with (at_builtin; refine az_fresh (v := .slice (some ⟨gz, 0, none⟩) 0 0) (B := w2.heap.size) 29 36 Try.underlying29 infoN _ _ rfl rfl rfl HZ.out ⟨_, rfl⟩ rfl HTL.out (HPT.out.ext hxc) HLT.out hxc.size ?_; intro v1 wb17 hv1 hb4 hd1; obtain ⟨A1, c1, e1, -, -, -⟩ := hv1.shape; rw [← HTL.out] at e1; subst e1)
        have HZ := Lib.hid hv1
        refine rx_on (hxc.trans hb4) ?_
        replace HB6 := Lib.hid (HB6.out.ext hb4)
        replace hxc := hxc.trans hb4
        clear hb4 hd1 hv1
        refine rx_op 11 (k := 2) (m' := 12287) rfl rfl (by kernel_rfl) (by kernel_rfl) ?_
        go_wp2_with (at_builtin; refine az_src 29 36 Try.underlying29 infoN _ _ rfl rfl (v := .slice A1 kk c1) rfl HZ.out rfl HDL.out (HPD.out.ext hxc) HLT.out HLD.out hxc.size ?_; intro v5 wc18 r5 h5 h5e h5g h5r; rw [← HWN.out] at h5; obtain ⟨A5, c5, e5, -, -, -⟩ := h5.shape; subst e5)
        have hx5 := h5e w2 hxc (Nat.le_refl _)
        replace HB6 := Lib.hid (gb_bk HB6.out h5g (fun e => OwP.nebk HZ.out HB6.out (by decide) (h5r _ e)))
        refine rx_on hx5 ?_
        replace hxc := hx5
        have HZ := Lib.hid h5
        clear h5 h5e h5g h5r hx5
        refine rx_op 12 (k := 1) (m' := 16383) rfl rfl (by kernel_rfl) (by kernel_rfl) ?_
        go_wp2
        refine rx_on hxc ?_
        have a60 : wc18.cell? ⟨g6, 0, none⟩ = some (.slice none 0 0) := HB6.out.cell 0
        have a61 : wc18.cell? ⟨g6, 1, none⟩ = some (.slice none 0 0) := HB6.out.cell 1
        have f60 := HB6.out.froz 0
        have f61 := HB6.out.froz 1
        refine rx_op 14 (k := 0) (m' := 32767) rfl rfl (by kernel_rfl) (by kernel_rfl) ?_
        go_wp2
        refine rx_lst (by decide) ?_
        refine rx_end (by kernel_rfl) ?_
        (go_wp2; go_meet; exact ⟨g6, A5, c5, rfl, hgC, Lib.hid ((HB6.out.set_ 0 _).set_ 1 _), Lib.hid ((HZ.out.far HB6.out (by decide) 0 _).far (HB6.out.set_ 0 _) (by decide) 1 _), Ext.setCell (p := ⟨g6, 1, none⟩) (Ext.setCell (p := ⟨g6, 0, none⟩) hxc hgC) hgC⟩)
    case rest =>
      obtain ⟨g6, A5, c5, rfl, hg6, HB6, HZ, hxc⟩ := hcut
      obtain ⟨w4, rfl⟩ : ∃ x : World, x = wc := ⟨_, rfl⟩
      have hwl0 := wnN_len ns kk ns.length
      clear HPW HPT HTL HDL HLT HLD HWN d0 hi0
      generalize hlN : wnN ns (kk : Int) ns.length = lN at *
      generalize hL1 : ls.set i0 (pa, pb) = L1 at *
      generalize hlL : jL ns ls (kk : Int) = lL at *
      have HLN := Lib.hid hlN
      have HLL := Lib.hid hlL
      clear hlN hL1 hlL
      go_wp2_with fail
      go_loopw [10, 11] (fun i _ wr => ∃ (a_ : Nat) (v2 : Value), a_ ≤ ls.length ∧ i = .int .i64 a_ ∧ Hid (Bk wr g6 32 [.slice A5 lN.length c5, v2]) ∧ Hid (OwP wr w2.heap.size 36 (.slice A5 lN.length c5) lN) ∧ Hid (OwP wr w2.heap.size 52 v2 (jS L1 i1 kk a_)) ∧ Ext w2 wr) (fun i _ _ => ls.length - (intOf i).toNat)
      case atStart => exact ⟨0, _, by omega, rfl, HB6, HZ, Lib.hid (OwP.nil _ _ _), hxc⟩
      case round =>
        clear hxc HB6 HZ
        obtain ⟨a_, v2, ha, rfl, HB6, HZ, HL, hxc⟩ := hrel
        obtain ⟨w4, rfl⟩ : ∃ x : World, x = wr := ⟨_, rfl⟩
        have j1 := hxc.lit k1
        by_cases hat : a_ < ls.length
        · have hai : (a_ : Int) < ls.length := by omega
          obtain ⟨bL', oL', e', -, x0, x1⟩ := h.g.gp_ hat
          obtain ⟨rfl, rfl⟩ : bL = bL' ∧ oL = oL' := by simpa using e'
          clear e'
          have x0 := (HXX.out.trans hxc).lit x0
          have x1 := (HXX.out.trans hxc).lit x1
          have m0 := hxc.lit l0
          have m1 := hxc.lit l1
          have hwl := jS_len L1 i1 kk a_
          have HGA := Lib.hid (HGS.out a_ hat)
          have hra := wok_range hwo a_ hat
          obtain ⟨x, y, hg⟩ : ∃ x y, gp ls (a_ : Nat) = (x, y) := ⟨_, _, rfl⟩
          rw [hg] at x0 x1 HGA hra
          clear hg
          obtain ⟨hr1, hr2, hr3, hr4⟩ := hra
          have hr1 : 0 ≤ x := hr1
          have hr2 : x < 100 := hr2
          have hr3 : 0 ≤ y := hr3
          have hr4 : y < 100 := hr4
          go_upto_region 11 with fail
          have HS : Hid (WSt (w4.alloc (.cells #[.int .i64 x, .int .i64 y] 52)) w2 36 52 32 g6 w4.heap.size (.slice A5 lN.length c5) v2 lN (jS L1 i1 kk a_) x y) := Lib.hid (WSt.new rfl HB6.out HZ.out HL.out hxc)
          have m0 := (((Ext.refl w4).alloc (.cells #[.int .i64 x, .int .i64 y] 52))).lit m0
          have m1 := (((Ext.refl w4).alloc (.cells #[.int .i64 x, .int .i64 y] 52))).lit m1
          generalize (w4.alloc (.cells #[.int .i64 x, .int .i64 y] 52)) = w5 at *
          generalize w4.heap.size = gb at *
          clear x0 x1 j1
          by_cases hne : a_ = i1
          · have q : ((a_ : Int) == (i1 : Int)) = true := by simp [hne]
            have Hs : Hid (jS L1 i1 kk (a_ + 1) = jS L1 i1 kk a_) := Lib.hid (jS_skip hne)
            clear hne
            go_wp2
            go_roundw
            case rel => exact ⟨a_ + 1, v2, by omega, by go_num, Lib.hid HS.out.b6, Lib.hid HS.out.oN, Lib.hid (by rw [Hs.out]; exact HS.out.oL), HS.out.hx⟩
            case measure => first | (simp [intOf]; done) | (simp [intOf]; omega)
          · have q : ((a_ : Int) == (i1 : Int)) = false := by rw [beq_eq_false_iff_ne]; omega
            by_cases hz : a_ = i0
            · have q2 : ((a_ : Int) == (i0 : Int)) = true := by simp [hz]
              have HG : Hid (gp L1 (a_ : Nat) = (pa, pb)) := Lib.hid (by rw [HGA.out, if_pos hz])
              have y0 := HS.out.cx
              have y1 := HS.out.cy
              have fz0 := HS.out.bl.froz 0
              have fz1 := HS.out.bl.froz 1
              clear hz HGA
              go_upto_region 14 with fail
              have HS := Lib.hid ((HS.out.put (x' := pa) (y' := y) (by decide) 0 (.int .i64 pa) rfl).put (x' := pa) (y' := pb) (by decide) 1 (.int .i64 pb) rfl)
              generalize ((w5.setCell ⟨gb, 0, none⟩ (.int .i64 pa)).setCell ⟨gb, 1, none⟩ (.int .i64 pb)) = w5' at *
              obtain ⟨w5, rfl⟩ : ∃ x : World, x = w5' := ⟨_, rfl⟩
              clear y0 y1 fz0 fz1 m0 m1
              have y0 := HS.out.cx
              have y1 := HS.out.cy
              by_cases hx1 : (kk : Int) < pa
              · have HX : Hid (dnI kk pa = pa - 1) := Lib.hid (if_pos hx1)
                have fz0 := HS.out.bl.froz 0
                go_upto_region 16 with fail
                have HS := Lib.hid (HS.out.put (by decide) 0 (.int .i64 (pa - 1)) rfl)
                generalize w5.setCell ⟨gb, 0, none⟩ (.int .i64 (pa - 1)) = w6 at *
                generalize pa - 1 = X at *
                clear y0 y1 fz0
                have c0 := HS.out.cx
                have c1 := HS.out.cy
                by_cases hy1 : (kk : Int) < pb
                · skip
                  have HY : Hid (dnI kk pb = pb - 1) := Lib.hid (if_pos hy1)
                  have fz1 := HS.out.bl.froz 1
                  go_upto_region 18 with fail
                  have HS := Lib.hid (HS.out.put (by decide) 1 (.int .i64 (pb - 1)) rfl)
                  generalize w6.setCell ⟨gb, 1, none⟩ (.int .i64 (pb - 1)) = w7 at *
                  generalize pb - 1 = Y at *
                  clear c0 c1 fz1
                  have c0 := HS.out.cx
                  have c1 := HS.out.cy
                  have cv := HS.out.cv
                  obtain ⟨A2, c2, rfl, -, -, -⟩ := HS.out.oL.shape
                  have hs7 := HS.out.hx.size
                  have Hs : Hid (jS L1 i1 kk (a_ + 1) = jS L1 i1 kk a_ ++ [(X, Y)]) := Lib.hid (by rw [jS_step hne HG.out, HX.out, HY.out])
                  clear hne
                  go_wp2_with (at_builtin; refine az_src 30 52 Try.underlying30 infoL _ _ rfl rfl (v := .slice A2 (jS L1 i1 kk a_).length c2) rfl (HS.out.oL.ext ((Ext.refl w7).alloc _)) (l := [(X, Y)]) rfl rfl (pr_oneg (by first | rfl | omega) X Y) (by omega) (by simp) (by simp; omega) ?_)
                  intro v6 w9 r9 h6 h6e h6g h6r
                  obtain ⟨A6, c6, e6, -, -, -⟩ := h6.shape
                  rw [show (jS L1 i1 kk a_ ++ [(X, Y)]).length = (jS L1 i1 kk a_).length + 1 by simp] at e6
                  subst e6
                  obtain ⟨t1, ft1, b1_, b2_, b3_, hxx⟩ := HS.out.app (by decide) (by decide) (by decide) h6 h6e h6g h6r hg6
                  have HBV := Lib.hid b1_
                  have HF5 := Lib.hid b2_
                  have HF6 := Lib.hid b3_
                  clear h6 h6e h6g h6r b1_ b2_ b3_
                  go_wp2
                  go_roundw
                  case rel => exact ⟨a_ + 1, _, by omega, by go_num, HBV, HF5, Lib.hid (by rw [Hs.out]; exact HF6.out), hxx⟩
                  case measure => first | (simp [intOf]; done) | (simp [intOf]; omega)
                · skip
                  have HY : Hid (dnI kk pb = pb) := Lib.hid (if_neg hy1)
                  obtain ⟨w7, rfl⟩ : ∃ x : World, x = w6 := ⟨_, rfl⟩
                  have c0 := HS.out.cx
                  have c1 := HS.out.cy
                  have cv := HS.out.cv
                  obtain ⟨A2, c2, rfl, -, -, -⟩ := HS.out.oL.shape
                  have hs7 := HS.out.hx.size
                  have Hs : Hid (jS L1 i1 kk (a_ + 1) = jS L1 i1 kk a_ ++ [(X, pb)]) := Lib.hid (by rw [jS_step hne HG.out, HX.out, HY.out])
                  clear hne
                  go_wp2_with (at_builtin; refine az_src 30 52 Try.underlying30 infoL _ _ rfl rfl (v := .slice A2 (jS L1 i1 kk a_).length c2) rfl (HS.out.oL.ext ((Ext.refl w7).alloc _)) (l := [(X, pb)]) rfl rfl (pr_oneg (by first | rfl | omega) X pb) (by omega) (by simp) (by simp; omega) ?_)
                  intro v6 w9 r9 h6 h6e h6g h6r
                  obtain ⟨A6, c6, e6, -, -, -⟩ := h6.shape
                  rw [show (jS L1 i1 kk a_ ++ [(X, pb)]).length = (jS L1 i1 kk a_).length + 1 by simp] at e6
                  subst e6
                  obtain ⟨t1, ft1, b1_, b2_, b3_, hxx⟩ := HS.out.app (by decide) (by decide) (by decide) h6 h6e h6g h6r hg6
                  have HBV := Lib.hid b1_
                  have HF5 := Lib.hid b2_
                  have HF6 := Lib.hid b3_
                  clear h6 h6e h6g h6r b1_ b2_ b3_
                  go_wp2
                  go_roundw
                  case rel => exact ⟨a_ + 1, _, by omega, by go_num, HBV, HF5, Lib.hid (by rw [Hs.out]; exact HF6.out), hxx⟩
                  case measure => first | (simp [intOf]; done) | (simp [intOf]; omega)
              · have HX : Hid (dnI kk pa = pa) := Lib.hid (if_neg hx1)
                obtain ⟨w6, rfl⟩ : ∃ x : World, x = w5 := ⟨_, rfl⟩
                clear y0 y1
                have c0 := HS.out.cx
                have c1 := HS.out.cy
                by_cases hy1 : (kk : Int) < pb
                · skip
                  have HY : Hid (dnI kk pb = pb - 1) := Lib.hid (if_pos hy1)
                  have fz1 := HS.out.bl.froz 1
                  go_upto_region 18 with fail
                  have HS := Lib.hid (HS.out.put (by decide) 1 (.int .i64 (pb - 1)) rfl)
                  generalize w6.setCell ⟨gb, 1, none⟩ (.int .i64 (pb - 1)) = w7 at *
                  generalize pb - 1 = Y at *
                  clear c0 c1 fz1
                  have c0 := HS.out.cx
                  have c1 := HS.out.cy
                  have cv := HS.out.cv
                  obtain ⟨A2, c2, rfl, -, -, -⟩ := HS.out.oL.shape
                  have hs7 := HS.out.hx.size
                  have Hs : Hid (jS L1 i1 kk (a_ + 1) = jS L1 i1 kk a_ ++ [(pa, Y)]) := Lib.hid (by rw [jS_step hne HG.out, HX.out, HY.out])
                  clear hne
                  go_wp2_with (at_builtin; refine az_src 30 52 Try.underlying30 infoL _ _ rfl rfl (v := .slice A2 (jS L1 i1 kk a_).length c2) rfl (HS.out.oL.ext ((Ext.refl w7).alloc _)) (l := [(pa, Y)]) rfl rfl (pr_oneg (by first | rfl | omega) pa Y) (by omega) (by simp) (by simp; omega) ?_)
                  intro v6 w9 r9 h6 h6e h6g h6r
                  obtain ⟨A6, c6, e6, -, -, -⟩ := h6.shape
                  rw [show (jS L1 i1 kk a_ ++ [(pa, Y)]).length = (jS L1 i1 kk a_).length + 1 by simp] at e6
                  subst e6
                  obtain ⟨t1, ft1, b1_, b2_, b3_, hxx⟩ := HS.out.app (by decide) (by decide) (by decide) h6 h6e h6g h6r hg6
                  have HBV := Lib.hid b1_
                  have HF5 := Lib.hid b2_
                  have HF6 := Lib.hid b3_
                  clear h6 h6e h6g h6r b1_ b2_ b3_
                  go_wp2
                  go_roundw
                  case rel => exact ⟨a_ + 1, _, by omega, by go_num, HBV, HF5, Lib.hid (by rw [Hs.out]; exact HF6.out), hxx⟩
                  case measure => first | (simp [intOf]; done) | (simp [intOf]; omega)
                · skip
                  have HY : Hid (dnI kk pb = pb) := Lib.hid (if_neg hy1)
                  obtain ⟨w7, rfl⟩ : ∃ x : World, x = w6 := ⟨_, rfl⟩
                  have c0 := HS.out.cx
                  have c1 := HS.out.cy
                  have cv := HS.out.cv
                  obtain ⟨A2, c2, rfl, -, -, -⟩ := HS.out.oL.shape
                  have hs7 := HS.out.hx.size
                  have Hs : Hid (jS L1 i1 kk (a_ + 1) = jS L1 i1 kk a_ ++ [(pa, pb)]) := Lib.hid (by rw [jS_step hne HG.out, HX.out, HY.out])
                  clear hne
                  go_wp2_with (at_builtin; refine az_src 30 52 Try.underlying30 infoL _ _ rfl rfl (v := .slice A2 (jS L1 i1 kk a_).length c2) rfl (HS.out.oL.ext ((Ext.refl w7).alloc _)) (l := [(pa, pb)]) rfl rfl (pr_oneg (by first | rfl | omega) pa pb) (by omega) (by simp) (by simp; omega) ?_)
                  intro v6 w9 r9 h6 h6e h6g h6r
                  obtain ⟨A6, c6, e6, -, -, -⟩ := h6.shape
                  rw [show (jS L1 i1 kk a_ ++ [(pa, pb)]).length = (jS L1 i1 kk a_).length + 1 by simp] at e6
                  subst e6
                  obtain ⟨t1, ft1, b1_, b2_, b3_, hxx⟩ := HS.out.app (by decide) (by decide) (by decide) h6 h6e h6g h6r hg6
                  have HBV := Lib.hid b1_
                  have HF5 := Lib.hid b2_
                  have HF6 := Lib.hid b3_
                  clear h6 h6e h6g h6r b1_ b2_ b3_
                  go_wp2
                  go_roundw
                  case rel => exact ⟨a_ + 1, _, by omega, by go_num, HBV, HF5, Lib.hid (by rw [Hs.out]; exact HF6.out), hxx⟩
                  case measure => first | (simp [intOf]; done) | (simp [intOf]; omega)
            · have q2 : ((a_ : Int) == (i0 : Int)) = false := by rw [beq_eq_false_iff_ne]; omega
              have HG : Hid (gp L1 (a_ : Nat) = (x, y)) := Lib.hid (by rw [HGA.out, if_neg hz])
              clear hz HGA
              have y0 := HS.out.cx
              have y1 := HS.out.cy
              by_cases hx1 : (kk : Int) < x
              · have HX : Hid (dnI kk x = x - 1) := Lib.hid (if_pos hx1)
                have fz0 := HS.out.bl.froz 0
                go_upto_region 16 with fail
                have HS := Lib.hid (HS.out.put (by decide) 0 (.int .i64 (x - 1)) rfl)
                generalize w5.setCell ⟨gb, 0, none⟩ (.int .i64 (x - 1)) = w6 at *
                generalize x - 1 = X at *
                clear y0 y1 fz0
                have c0 := HS.out.cx
                have c1 := HS.out.cy
                by_cases hy1 : (kk : Int) < y
                · skip
                  have HY : Hid (dnI kk y = y - 1) := Lib.hid (if_pos hy1)
                  have fz1 := HS.out.bl.froz 1
                  go_upto_region 18 with fail
                  have HS := Lib.hid (HS.out.put (by decide) 1 (.int .i64 (y - 1)) rfl)
                  generalize w6.setCell ⟨gb, 1, none⟩ (.int .i64 (y - 1)) = w7 at *
                  generalize y - 1 = Y at *
                  clear c0 c1 fz1
                  have c0 := HS.out.cx
                  have c1 := HS.out.cy
                  have cv := HS.out.cv
                  obtain ⟨A2, c2, rfl, -, -, -⟩ := HS.out.oL.shape
                  have hs7 := HS.out.hx.size
                  have Hs : Hid (jS L1 i1 kk (a_ + 1) = jS L1 i1 kk a_ ++ [(X, Y)]) := Lib.hid (by rw [jS_step hne HG.out, HX.out, HY.out])
                  clear hne
                  go_wp2_with (at_builtin; refine az_src 30 52 Try.underlying30 infoL _ _ rfl rfl (v := .slice A2 (jS L1 i1 kk a_).length c2) rfl (HS.out.oL.ext ((Ext.refl w7).alloc _)) (l := [(X, Y)]) rfl rfl (pr_oneg (by first | rfl | omega) X Y) (by omega) (by simp) (by simp; omega) ?_)
                  intro v6 w9 r9 h6 h6e h6g h6r
                  obtain ⟨A6, c6, e6, -, -, -⟩ := h6.shape
                  rw [show (jS L1 i1 kk a_ ++ [(X, Y)]).length = (jS L1 i1 kk a_).length + 1 by simp] at e6
                  subst e6
                  obtain ⟨t1, ft1, b1_, b2_, b3_, hxx⟩ := HS.out.app (by decide) (by decide) (by decide) h6 h6e h6g h6r hg6
                  have HBV := Lib.hid b1_
                  have HF5 := Lib.hid b2_
                  have HF6 := Lib.hid b3_
                  clear h6 h6e h6g h6r b1_ b2_ b3_
                  go_wp2
                  go_roundw
                  case rel => exact ⟨a_ + 1, _, by omega, by go_num, HBV, HF5, Lib.hid (by rw [Hs.out]; exact HF6.out), hxx⟩
                  case measure => first | (simp [intOf]; done) | (simp [intOf]; omega)
                · skip
                  have HY : Hid (dnI kk y = y) := Lib.hid (if_neg hy1)
                  obtain ⟨w7, rfl⟩ : ∃ x : World, x = w6 := ⟨_, rfl⟩
                  have c0 := HS.out.cx
                  have c1 := HS.out.cy
                  have cv := HS.out.cv
                  obtain ⟨A2, c2, rfl, -, -, -⟩ := HS.out.oL.shape
                  have hs7 := HS.out.hx.size
                  have Hs : Hid (jS L1 i1 kk (a_ + 1) = jS L1 i1 kk a_ ++ [(X, y)]) := Lib.hid (by rw [jS_step hne HG.out, HX.out, HY.out])
                  clear hne
                  go_wp2_with (at_builtin; refine az_src 30 52 Try.underlying30 infoL _ _ rfl rfl (v := .slice A2 (jS L1 i1 kk a_).length c2) rfl (HS.out.oL.ext ((Ext.refl w7).alloc _)) (l := [(X, y)]) rfl rfl (pr_oneg (by first | rfl | omega) X y) (by omega) (by simp) (by simp; omega) ?_)
                  intro v6 w9 r9 h6 h6e h6g h6r
                  obtain ⟨A6, c6, e6, -, -, -⟩ := h6.shape
                  rw [show (jS L1 i1 kk a_ ++ [(X, y)]).length = (jS L1 i1 kk a_).length + 1 by simp] at e6
                  subst e6
                  obtain ⟨t1, ft1, b1_, b2_, b3_, hxx⟩ := HS.out.app (by decide) (by decide) (by decide) h6 h6e h6g h6r hg6
                  have HBV := Lib.hid b1_
                  have HF5 := Lib.hid b2_
                  have HF6 := Lib.hid b3_
                  clear h6 h6e h6g h6r b1_ b2_ b3_
                  go_wp2
                  go_roundw
                  case rel => exact ⟨a_ + 1, _, by omega, by go_num, HBV, HF5, Lib.hid (by rw [Hs.out]; exact HF6.out), hxx⟩
                  case measure => first | (simp [intOf]; done) | (simp [intOf]; omega)
              · have HX : Hid (dnI kk x = x) := Lib.hid (if_neg hx1)
                obtain ⟨w6, rfl⟩ : ∃ x : World, x = w5 := ⟨_, rfl⟩
                clear y0 y1
                have c0 := HS.out.cx
                have c1 := HS.out.cy
                by_cases hy1 : (kk : Int) < y
                · skip
                  have HY : Hid (dnI kk y = y - 1) := Lib.hid (if_pos hy1)
                  have fz1 := HS.out.bl.froz 1
                  go_upto_region 18 with fail
                  have HS := Lib.hid (HS.out.put (by decide) 1 (.int .i64 (y - 1)) rfl)
                  generalize w6.setCell ⟨gb, 1, none⟩ (.int .i64 (y - 1)) = w7 at *
                  generalize y - 1 = Y at *
                  clear c0 c1 fz1
                  have c0 := HS.out.cx
                  have c1 := HS.out.cy
                  have cv := HS.out.cv
                  obtain ⟨A2, c2, rfl, -, -, -⟩ := HS.out.oL.shape
                  have hs7 := HS.out.hx.size
                  have Hs : Hid (jS L1 i1 kk (a_ + 1) = jS L1 i1 kk a_ ++ [(x, Y)]) := Lib.hid (by rw [jS_step hne HG.out, HX.out, HY.out])
                  clear hne
                  go_wp2_with (at_builtin; refine az_src 30 52 Try.underlying30 infoL _ _ rfl rfl (v := .slice A2 (jS L1 i1 kk a_).length c2) rfl (HS.out.oL.ext ((Ext.refl w7).alloc _)) (l := [(x, Y)]) rfl rfl (pr_oneg (by first | rfl | omega) x Y) (by omega) (by simp) (by simp; omega) ?_)
                  intro v6 w9 r9 h6 h6e h6g h6r
                  obtain ⟨A6, c6, e6, -, -, -⟩ := h6.shape
                  rw [show (jS L1 i1 kk a_ ++ [(x, Y)]).length = (jS L1 i1 kk a_).length + 1 by simp] at e6
                  subst e6
                  obtain ⟨t1, ft1, b1_, b2_, b3_, hxx⟩ := HS.out.app (by decide) (by decide) (by decide) h6 h6e h6g h6r hg6
                  have HBV := Lib.hid b1_
                  have HF5 := Lib.hid b2_
                  have HF6 := Lib.hid b3_
                  clear h6 h6e h6g h6r b1_ b2_ b3_
                  go_wp2
                  go_roundw
                  case rel => exact ⟨a_ + 1, _, by omega, by go_num, HBV, HF5, Lib.hid (by rw [Hs.out]; exact HF6.out), hxx⟩
                  case measure => first | (simp [intOf]; done) | (simp [intOf]; omega)
                · skip
                  have HY : Hid (dnI kk y = y) := Lib.hid (if_neg hy1)
                  obtain ⟨w7, rfl⟩ : ∃ x : World, x = w6 := ⟨_, rfl⟩
                  have c0 := HS.out.cx
                  have c1 := HS.out.cy
                  have cv := HS.out.cv
                  obtain ⟨A2, c2, rfl, -, -, -⟩ := HS.out.oL.shape
                  have hs7 := HS.out.hx.size
                  have Hs : Hid (jS L1 i1 kk (a_ + 1) = jS L1 i1 kk a_ ++ [(x, y)]) := Lib.hid (by rw [jS_step hne HG.out, HX.out, HY.out])
                  clear hne
                  go_wp2_with (at_builtin; refine az_src 30 52 Try.underlying30 infoL _ _ rfl rfl (v := .slice A2 (jS L1 i1 kk a_).length c2) rfl (HS.out.oL.ext ((Ext.refl w7).alloc _)) (l := [(x, y)]) rfl rfl (pr_oneg (by first | rfl | omega) x y) (by omega) (by simp) (by simp; omega) ?_)
                  intro v6 w9 r9 h6 h6e h6g h6r
                  obtain ⟨A6, c6, e6, -, -, -⟩ := h6.shape
                  rw [show (jS L1 i1 kk a_ ++ [(x, y)]).length = (jS L1 i1 kk a_).length + 1 by simp] at e6
                  subst e6
                  obtain ⟨t1, ft1, b1_, b2_, b3_, hxx⟩ := HS.out.app (by decide) (by decide) (by decide) h6 h6e h6g h6r hg6
                  have HBV := Lib.hid b1_
                  have HF5 := Lib.hid b2_
                  have HF6 := Lib.hid b3_
                  clear h6 h6e h6g h6r b1_ b2_ b3_
                  go_wp2
                  go_roundw
                  case rel => exact ⟨a_ + 1, _, by omega, by go_num, HBV, HF5, Lib.hid (by rw [Hs.out]; exact HF6.out), hxx⟩
                  case measure => first | (simp [intOf]; done) | (simp [intOf]; omega)
        · obtain rfl : a_ = ls.length := by omega
          obtain ⟨A2, c2, rfl, -, -, -⟩ := HL.out.shape
          have t0 : w4.cell? ⟨g6, 0, none⟩ = some (.slice A5 lN.length c5) := HB6.out.cell 0
          have t1 : w4.cell? ⟨g6, 1, none⟩ = some (.slice A2 (jS L1 i1 kk ls.length).length c2) := HB6.out.cell 1
          have hwl := jS_len L1 i1 kk ls.length
          have HWK := Lib.hid (wn_own HZ.out HL.out (by omega) (by omega))
          generalize hlL : jS L1 i1 kk ls.length = lM at *
          clear hlL
          go_wp2_with fail
          refine (WindowOk_sL HWK.out rfl rfl).mono ?_
          rintro e wq ⟨rfl, hbq⟩
          have hxq := HX0.out.trans (hxc.trans hbq)
          have hx := HXA.out
          cases hok : wok lN lM with
          | false =>
            have HR : Hid (vJoinLeads ns ls kk = ((ns, ls), false)) := Lib.hid (by unfold vJoinLeads; rw [if_neg]; rw [HJ.out, HJL.out, hok]; decide)
            have j0 := (hxc.trans hbq).lit k0
            have j1 := (hxc.trans hbq).lit k1
            clear hok t0 t1 k0 k1
            go_wp2_with fail
            refine (copy_s_l04Copy _ _ _ _ ns ls _ (h.ext (hx.trans hxq))).mono ?_
            rintro e w16 ⟨v7, v8, rfl, o7, o8, -, hb16⟩
            have hsq := hxq.size
            have hxx := hxq.trans hb16
            have r0 := hxx.lit r0
            have r1 := hxx.lit r1
            have f0 := hxx.frz hb10 f0
            have f1 := hxx.frz hb10 f1
            obtain ⟨A7, c7, rfl, -, -, -⟩ := o7.shape
            obtain ⟨A8, c8, rfl, -, -, -⟩ := o8.shape
            go_wp2
            (try simp only [Exit.inBlock, Exit.then])
            refine bodyPost_ret (by simp [results, Try.results18, go_sem, r0, r1]; try rfl) rfl ?_
            exact ⟨_, _, ret_wb (by rw [HR.out]), by rw [HR.out]; exact (o7.gb2 (gb_set (gb_set (gb_refl _ (some b1)) 0 _) 1 _) (by omega)).more (by omega), by rw [HR.out]; exact (o8.gb2 (gb_set (gb_set (gb_refl _ (some b1)) 0 _) 1 _) (by omega)).more (by omega), Ext.setCell (p := ⟨b1, 1, none⟩) (Ext.setCell (p := ⟨b1, 0, none⟩) (hx.trans hxx) (by show w.heap.size ≤ b1; omega)) (by show w.heap.size ≤ b1; omega)⟩
          | true =>
            have HR : Hid (vJoinLeads ns ls kk = ((lN, lM), true)) := Lib.hid (by unfold vJoinLeads; rw [if_pos (by rw [HJ.out, HJL.out, hok]), HLN.out, HLL.out, HJL.out])
            have r0 := hxq.lit r0
            have r1 := hxq.lit r1
            have f0 := hxq.frz hb10 f0
            have f1 := hxq.frz hb10 f1
            have t0 := hbq.lit t0
            have t1 := hbq.lit t1
            have HP7 := Lib.hid (HZ.out.ext hbq)
            have HP8 := Lib.hid (HL.out.ext hbq)
            clear hok
            go_wp2
            (try simp only [Exit.inBlock, Exit.then])
            refine bodyPost_ret (by simp [results, Try.results18, go_sem, r0, r1]; try rfl) rfl ?_
            exact ⟨_, _, ret_wb (by rw [HR.out]), by rw [HR.out]; exact (HP7.out.gb2 (gb_set (gb_set (gb_refl _ (some b1)) 0 _) 1 _) (by omega)).more (by omega), by rw [HR.out]; exact (HP8.out.gb2 (gb_set (gb_set (gb_refl _ (some b1)) 0 _) 1 _) (by omega)).more (by omega), Ext.setCell (p := ⟨b1, 1, none⟩) (Ext.setCell (p := ⟨b1, 0, none⟩) (hx.trans hxq) (by show w.heap.size ≤ b1; omega)) (by show w.heap.size ≤ b1; omega)⟩
end Go.Proofs.Ytfhemddonahjgaa
