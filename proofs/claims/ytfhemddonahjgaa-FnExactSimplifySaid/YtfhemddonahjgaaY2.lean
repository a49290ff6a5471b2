import Derived.Test.YtfhemddonahjgaaY1
import Derived.Test.YtfhemddonahjgaaV9
import Derived.Test.YtfhemddonahjgaaR3
namespace Go.Proofs.Ytfhemddonahjgaa
open Go.RowKit Go.Sort Go.BigFrame

theorem OwP.set3 {w : World} {B g c n : Nat} {t : TypeId} {l : List P2} (h : OwP w B t (.slice (some ⟨g, 0, none⟩) n c) l) (hn : n = l.length) {j : Nat} (hj : j < l.length) (x y : Int) :
    OwP ((w.setCell ⟨g, j * 2, none⟩ (.int .i64 x)).setCell ⟨g, j * 2 + 1, none⟩ (.int .i64 y)) B t (.slice (some ⟨g, 0, none⟩) n c) (l.set j (x, y)) := by
  subst hn
  have h2 := (World.ownsRow.stored (World.ownsRow.stored h (j * 2) (.int .i64 x)).1 (j * 2 + 1) (.int .i64 y)).1
  unfold OwP
  rw [List.length_set, ← pcs_set l j hj]
  exact h2
theorem OwP.cut {w : World} {B g c n : Nat} {t : TypeId} {l : List P2} (h : OwP w B t (.slice (some ⟨g, 0, none⟩) n c) l) {k : Nat} (hk : k ≤ l.length) : OwP w B t (.slice (some ⟨g, 0, none⟩) k c) (l.take k) := by
  have e : (l.take k).length = k := by rw [List.length_take]; omega
  obtain ⟨hl, h | ⟨g', cap, cur, e1, hB, hg, hnc, hcm, hcs, ht⟩⟩ := h
  · exact absurd h.1 (by simp)
  · injection e1 with e1 e2 e3
    injection e1 with e1
    injection e1 with e1
    subst e1
    subst e3
    refine ⟨pcs_length _, .inr ⟨g, c, cur, by rw [e], hB, hg, by rw [e]; omega, hcm, hcs, ?_⟩⟩
    have hp : l.flatMap pc = (l.take k).flatMap pc ++ (l.drop k).flatMap pc := by rw [← List.flatMap_append, List.take_append_drop]
    have h2 := congrArg (fun z => z.take (k * 2)) ht
    rw [List.take_take, hp, Nat.min_eq_left (by omega), List.take_left' (by rw [pcs_length, e])] at h2
    rw [e]
    exact h2
theorem OwP.cells {w : World} {B g c n : Nat} {t : TypeId} {l : List P2} (h : OwP w B t (.slice (some ⟨g, 0, none⟩) n c) l) {j : Nat} (hj : j < l.length) :
    w.cell? ⟨g, j * 2, none⟩ = some (.int .i64 (gp l (j : Nat)).1) ∧ w.cell? ⟨g, j * 2 + 1, none⟩ = some (.int .i64 (gp l (j : Nat)).2) ∧ w.frozen? ⟨g, j * 2, none⟩ = false ∧ w.frozen? ⟨g, j * 2 + 1, none⟩ = false := by
  obtain ⟨g', c', e, -, -, -, h1, h2, h3, h4⟩ := h.at_ hj
  injection e with e1
  injection e1 with e1
  injection e1 with e1
  subst e1
  exact ⟨h1, h2, h3, h4⟩

set_option maxRecDepth 100000 in
set_option maxHeartbeats 8000000 in
theorem JoinLeads_i (A B : Option Addr) (c d : Nat) (ns ls : List P2) (k : Int) (w : World) (h : Wn w A c B d ns ls) :
    Calls Try.prog 19 #[.agg #[.slice A ns.length c, .slice B ls.length d], .int .i64 k] w fun e w' => ∃ v1 v2, e = .returned (.tuple #[.agg #[v1, v2], .bool (vJoinLeads ns ls k).2]) ∧ OwP w' w.heap.size 36 v1 (vJoinLeads ns ls k).1.1 ∧ OwP w' w.heap.size 52 v2 (vJoinLeads ns ls k).1.2 ∧ Ext w w' := by
  have hnl := h.hl
  have hml := h.hm
  cases hS : straight ns ls k with
  | false =>
    have HR : Hid (vJoinLeads ns ls k = ((ns, ls), false)) := Lib.hid (by unfold vJoinLeads jlOk; rw [hS]; rfl)
    go_enter Try.func19, Try.ntmps19
    go_upto_region 1 with fail
    have k0 : ((w.alloc (.cells #[.slice A ns.length c, .slice B ls.length d] 32)).alloc (.cells #[.slice none 0 0, .slice none 0 0] 32)).cell? ⟨w.heap.size, 0, none⟩ = some (.slice A ns.length c) := by go_simp
    have k1 : ((w.alloc (.cells #[.slice A ns.length c, .slice B ls.length d] 32)).alloc (.cells #[.slice none 0 0, .slice none 0 0] 32)).cell? ⟨w.heap.size, 1, none⟩ = some (.slice B ls.length d) := by go_simp
    have r0 : ((w.alloc (.cells #[.slice A ns.length c, .slice B ls.length d] 32)).alloc (.cells #[.slice none 0 0, .slice none 0 0] 32)).cell? ⟨w.heap.size + 1, 0, none⟩ = some (.slice none 0 0) := by go_simp
    have r1 : ((w.alloc (.cells #[.slice A ns.length c, .slice B ls.length d] 32)).alloc (.cells #[.slice none 0 0, .slice none 0 0] 32)).cell? ⟨w.heap.size + 1, 1, none⟩ = some (.slice none 0 0) := by go_simp
    have f0 : ((w.alloc (.cells #[.slice A ns.length c, .slice B ls.length d] 32)).alloc (.cells #[.slice none 0 0, .slice none 0 0] 32)).frozen? ⟨w.heap.size + 1, 0, none⟩ = false := by go_simp
    have f1 : ((w.alloc (.cells #[.slice A ns.length c, .slice B ls.length d] 32)).alloc (.cells #[.slice none 0 0, .slice none 0 0] 32)).frozen? ⟨w.heap.size + 1, 1, none⟩ = false := by go_simp
    have hx : Ext w ((w.alloc (.cells #[.slice A ns.length c, .slice B ls.length d] 32)).alloc (.cells #[.slice none 0 0, .slice none 0 0] 32)) := ((Ext.refl _).alloc _).alloc _
    have hs0 : ((w.alloc (.cells #[.slice A ns.length c, .slice B ls.length d] 32)).alloc (.cells #[.slice none 0 0, .slice none 0 0] 32)).heap.size = w.heap.size + 1 + 1 := by simp
    generalize ((w.alloc (.cells #[.slice A ns.length c, .slice B ls.length d] 32)).alloc (.cells #[.slice none 0 0, .slice none 0 0] 32)) = w0 at *
    generalize hb1 : w.heap.size + 1 = b1 at *
    have HS0 := Lib.hid hs0
    have hb10 : b1 < w0.heap.size := by rw [hs0]; omega
    have hw0 : w.heap.size ≤ w0.heap.size := hx.size
    clear hs0
    go_wp2_with fail
    refine (copy_i_copyWindow _ _ _ _ ns ls _ (h.ext hx)).mono ?_
    rintro e w1 ⟨v1, v2, rfl, oa1, oa2, -, hb⟩
    obtain ⟨A1, c1, rfl, -, -, -⟩ := oa1.shape
    obtain ⟨A2, c2, rfl, -, -, -⟩ := oa2.shape
    go_upto_region 2 with fail
    have bt : Bk (w1.alloc (.cells #[.slice A1 ns.length c1, .slice A2 ls.length c2] 32)) w1.heap.size 32 [.slice A1 ns.length c1, .slice A2 ls.length c2] := Bk.new _ _ rfl
    have hx12 : Ext w1 (w1.alloc (.cells #[.slice A1 ns.length c1, .slice A2 ls.length c2] 32)) := (Ext.refl _).alloc _
    generalize (w1.alloc (.cells #[.slice A1 ns.length c1, .slice A2 ls.length c2] 32)) = w2 at *
    have hg4 := hb.size
    generalize hgs : w1.heap.size = g4 at *
    have o1 := oa1.ext hx12
    have o2 := oa2.ext hx12
    have hx02 := hb.trans hx12
    have HBT := Lib.hid bt
    have hs02 := hx02.size
    clear oa1 oa2 bt hx12 hb hgs
    have k0 := hx02.lit k0
    have k1 := hx02.lit k1
    have HXW := Lib.hid (hx.trans hx02)
    go_wp2_with fail
    refine (IsStraightNode_i _ _ _ _ ns ls _ _ (h.ext HXW.out)).mono ?_
    rw [hS] -- S
    rintro e w3 ⟨rfl, hb3⟩
    have hxq := hb3
    obtain ⟨wq, rfl⟩ : ∃ x : World, x = w3 := ⟨_, rfl⟩
    clear k0 k1 hb3
    have hxx := hx02.trans hxq
    have r0 := hxx.lit r0
    have r1 := hxx.lit r1
    have f0 := hxx.frz hb10 f0
    have f1 := hxx.frz hb10 f1
    have t0 : wq.cell? ⟨g4, 0, none⟩ = some (.slice A1 ns.length c1) := (HBT.out.ext hxq).cell 0
    have t1 : wq.cell? ⟨g4, 1, none⟩ = some (.slice A2 ls.length c2) := (HBT.out.ext hxq).cell 1
    have HO1 := Lib.hid (o1.ext hxq)
    have HO2 := Lib.hid (o2.ext hxq)
    go_wp2
    (try simp only [Exit.inBlock, Exit.then])
    refine bodyPost_ret (by simp [results, Try.results19, go_sem, r0, r1]; try rfl) rfl ?_
    exact ⟨_, _, ret_wb (by rw [HR.out]), by rw [HR.out]; exact (HO1.out.gb2 (gb_set (gb_set (gb_refl _ (some b1)) 0 _) 1 _) (by omega)).more (by omega), by rw [HR.out]; exact (HO2.out.gb2 (gb_set (gb_set (gb_refl _ (some b1)) 0 _) 1 _) (by omega)).more (by omega), Ext.setCell (p := ⟨b1, 1, none⟩) (Ext.setCell (p := ⟨b1, 0, none⟩) (hx.trans hxx) (by show w.heap.size ≤ b1; omega)) (by show w.heap.size ≤ b1; omega)⟩
  | true =>
    obtain ⟨hW, kk, i0, i1, a, b, rfl, hkk, hl2, e0, e1, h01, h1l, ea, han, hak, eb, hbn, hbk, hot⟩ := jl_facts hS
    have hn12 := hW.hi
    have hl20 := hW.le
    obtain ⟨pa, hpa⟩ : ∃ x : Int, imin (a : Int) b = x := ⟨_, rfl⟩
    obtain ⟨pb, hpb⟩ : ∃ x : Int, imax (a : Int) b = x := ⟨_, rfl⟩
    have hma : min (a : Int) b = pa := hpa
    have hmb : max (a : Int) b = pb := hpb
    have HJ : Hid (jlOk ns ls kk = wok (wnN ns kk ns.length) (jL ns ls kk)) := Lib.hid (by unfold jlOk; rw [hS]; rfl)
    have HPT : Hid (jPt ns ls kk = (pa, pb)) := Lib.hid (by unfold jPt; rw [e0, e1, ea, eb, hma, hmb])
    have HJM : Hid (jM ns ls kk = wnN (ls.set i0 (pa, pb)) i1 ls.length) := Lib.hid (by unfold jM; rw [HPT.out, e0, e1]; rfl)
    have HJL : Hid (wnL (jM ns ls kk) kk (jM ns ls kk).length = jL ns ls kk) := Lib.hid (by unfold jL; rw [HJM.out]; exact jL_impl h1l ⟨by dsimp only; omega, by dsimp only; omega⟩ hot)
    have HJR : Hid (∀ j, j < (jM ns ls kk).length → 0 ≤ (gp (jM ns ls kk) (j : Nat)).1 ∧ (gp (jM ns ls kk) (j : Nat)).1 < 100 ∧ 0 ≤ (gp (jM ns ls kk) (j : Nat)).2 ∧ (gp (jM ns ls kk) (j : Nat)).2 < 100) := Lib.hid (by rw [HJM.out]; exact jM_range hW h1l ⟨⟨by dsimp only; omega, by dsimp only; omega⟩, by dsimp only; omega, by dsimp only; omega⟩)
    have HJT : Hid (jM ns ls kk = (ls.set i0 (pa, pb)).take i1 ++ (ls.set i0 (pa, pb)).drop (i1 + 1)) := Lib.hid (by
      rw [HJM.out]
      have := wnN_all (ns := ls.set i0 (pa, pb)) (k := i1) (by simpa using h1l)
      rw [List.length_set] at this
      exact this)
    have hE0 : gi (ends ns ls kk) (0 : Nat) = a := by rw [ends_gi (by omega), e0, ea]
    have hE1 : gi (ends ns ls kk) (1 : Nat) = b := by rw [ends_gi (by omega), e1, eb]
    have hEl : (ends ns ls kk).length = 2 := by simp [ends, hl2]
    have HE0 := Lib.hid e0
    have HE1 := Lib.hid e1
    have HHE0 := Lib.hid hE0
    have HHE1 := Lib.hid hE1
    have HHl := Lib.hid hl2
    have HHE := Lib.hid hEl
    have HTD : Hid ((ls.set i0 (pa, pb)).length = ls.length) := Lib.hid (by simp)
    have HDL : Hid (ls.length - (i1 + 1) = ((ls.set i0 (pa, pb)).drop (i1 + 1)).length) := Lib.hid (by simp)
    have HLT : Hid (((ls.set i0 (pa, pb)).take i1).length ≤ 2000000) := Lib.hid (by simp; omega)
    have HLD : Hid (((ls.set i0 (pa, pb)).drop (i1 + 1)).length ≤ 2000000) := Lib.hid (by simp; omega)
    have hjm : (jM ns ls kk).length ≤ ls.length := by rw [HJM.out]; exact wnN_len _ _ _
    have hjl : (jL ns ls kk).length ≤ ls.length := by unfold jL; rw [List.length_map]; exact hjm
    obtain ⟨j0, hj0, -, -, -⟩ := info_parts (infoL)
    clear hW e0 e1 ea eb hE0 hE1 hEl hot hl2 hma hmb
    go_enter Try.func19, Try.ntmps19
    go_upto_region 1 with fail
    have k0 : ((w.alloc (.cells #[.slice A ns.length c, .slice B ls.length d] 32)).alloc (.cells #[.slice none 0 0, .slice none 0 0] 32)).cell? ⟨w.heap.size, 0, none⟩ = some (.slice A ns.length c) := by go_simp
    have k1 : ((w.alloc (.cells #[.slice A ns.length c, .slice B ls.length d] 32)).alloc (.cells #[.slice none 0 0, .slice none 0 0] 32)).cell? ⟨w.heap.size, 1, none⟩ = some (.slice B ls.length d) := by go_simp
    have r0 : ((w.alloc (.cells #[.slice A ns.length c, .slice B ls.length d] 32)).alloc (.cells #[.slice none 0 0, .slice none 0 0] 32)).cell? ⟨w.heap.size + 1, 0, none⟩ = some (.slice none 0 0) := by go_simp
    have r1 : ((w.alloc (.cells #[.slice A ns.length c, .slice B ls.length d] 32)).alloc (.cells #[.slice none 0 0, .slice none 0 0] 32)).cell? ⟨w.heap.size + 1, 1, none⟩ = some (.slice none 0 0) := by go_simp
    have f0 : ((w.alloc (.cells #[.slice A ns.length c, .slice B ls.length d] 32)).alloc (.cells #[.slice none 0 0, .slice none 0 0] 32)).frozen? ⟨w.heap.size + 1, 0, none⟩ = false := by go_simp
    have f1 : ((w.alloc (.cells #[.slice A ns.length c, .slice B ls.length d] 32)).alloc (.cells #[.slice none 0 0, .slice none 0 0] 32)).frozen? ⟨w.heap.size + 1, 1, none⟩ = false := by go_simp
    have hx : Ext w ((w.alloc (.cells #[.slice A ns.length c, .slice B ls.length d] 32)).alloc (.cells #[.slice none 0 0, .slice none 0 0] 32)) := ((Ext.refl _).alloc _).alloc _
    have hs0 : ((w.alloc (.cells #[.slice A ns.length c, .slice B ls.length d] 32)).alloc (.cells #[.slice none 0 0, .slice none 0 0] 32)).heap.size = w.heap.size + 1 + 1 := by simp
    generalize ((w.alloc (.cells #[.slice A ns.length c, .slice B ls.length d] 32)).alloc (.cells #[.slice none 0 0, .slice none 0 0] 32)) = w0 at *
    generalize hb1 : w.heap.size + 1 = b1 at *
    have HS0 := Lib.hid hs0
    have hb10 : b1 < w0.heap.size := by rw [hs0]; omega
    have hw0 : w.heap.size ≤ w0.heap.size := hx.size
    clear hs0
    go_wp2_with fail
    refine (copy_i_copyWindow _ _ _ _ ns ls _ (h.ext hx)).mono ?_
    rintro e w1 ⟨v1, v2, rfl, oa1, oa2, -, hb⟩
    obtain ⟨A1, c1, rfl, -, -, -⟩ := oa1.shape
    obtain ⟨A2, c2, rfl, -, -, -⟩ := oa2.shape
    go_upto_region 2 with fail
    have bt : Bk (w1.alloc (.cells #[.slice A1 ns.length c1, .slice A2 ls.length c2] 32)) w1.heap.size 32 [.slice A1 ns.length c1, .slice A2 ls.length c2] := Bk.new _ _ rfl
    have hx12 : Ext w1 (w1.alloc (.cells #[.slice A1 ns.length c1, .slice A2 ls.length c2] 32)) := (Ext.refl _).alloc _
    generalize (w1.alloc (.cells #[.slice A1 ns.length c1, .slice A2 ls.length c2] 32)) = w2 at *
    have hg4 := hb.size
    generalize hgs : w1.heap.size = g4 at *
    have o1 := oa1.ext hx12
    have o2 := oa2.ext hx12
    have hx02 := hb.trans hx12
    have HBT := Lib.hid bt
    have hs02 := hx02.size
    clear oa1 oa2 bt hx12 hb hgs
    have k0 := hx02.lit k0
    have k1 := hx02.lit k1
    have HXW := Lib.hid (hx.trans hx02)
    go_wp2_with fail
    refine (IsStraightNode_i _ _ _ _ ns ls _ _ (h.ext HXW.out)).mono ?_
    rw [hS] -- S
    rintro e w3 ⟨rfl, hb3⟩
    have k0 := hb3.lit k0
    have k1 := hb3.lit k1
    go_wp2_with fail
    refine (otherEnds_c A B c d ns ls _ _ (h.ext (HXW.out.trans hb3))).mono ?_
    rintro e w4 ⟨ve, rfl, oe, hb4⟩
    have k0 := hb4.lit k0
    have k1 := hb4.lit k1
    have hx24 := hb3.trans hb4
    obtain ⟨ge, ce, rfl, -, -, -, -, -⟩ := oe.gi_ (j := 0) (by rw [HHE.out]; omega)
    rw [HHE.out]
    have q0 := (oe.cel (j := 0) (by rw [HHE.out]; omega)).1
    have q1 := (oe.cel (j := 1) (by rw [HHE.out]; omega)).1
    rw [HHE0.out] at q0
    rw [HHE1.out] at q1
    clear oe hb3 hb4
    go_wp2_with fail
    refine (LeadsAt_i A B c d ns ls _ _ (h.ext (HXW.out.trans hx24))).mono ?_
    rintro e w5 ⟨vl, rfl, ol, hb5⟩
    have k0 := hb5.lit k0
    have k1 := hb5.lit k1
    have q0 := hb5.lit q0
    have q1 := hb5.lit q1
    have hx25 := hx24.trans hb5
    obtain ⟨gl, cl, rfl, -, -, hgl, -, -⟩ := ol.gi_ (j := 0) (by rw [HHl.out]; omega)
    rw [HHl.out]
    have l0 := (ol.cel (j := 0) (by rw [HHl.out]; omega)).1
    have l1 := (ol.cel (j := 1) (by rw [HHl.out]; omega)).1
    rw [HE0.out] at l0
    rw [HE1.out] at l1
    clear ol hb5 hx24
    go_wp2_with fail
    refine (copy_i_copyWindow _ _ _ _ ns ls _ (h.ext (HXW.out.trans hx25))).mono ?_
    rintro e w6 ⟨v3, v4, rfl, o3, o4, -, hb6⟩
    have hs25 := hx25.size
    obtain ⟨A3, c3, rfl, -, -, -⟩ := o3.shape
    obtain ⟨gL, c4, rfl, hc4, hgL, hgL6, -, -, -, -⟩ := o4.at_ (j := i0) (by omega)
    go_upto_region 7 with fail
    have bt : Bk (w6.alloc (.cells #[.slice A3 ns.length c3, .slice (some ⟨gL, 0, none⟩) ls.length c4] 32)) w6.heap.size 32 [.slice A3 ns.length c3, .slice (some ⟨gL, 0, none⟩) ls.length c4] := Bk.new _ _ rfl
    have hx67 : Ext w6 (w6.alloc (.cells #[.slice A3 ns.length c3, .slice (some ⟨gL, 0, none⟩) ls.length c4] 32)) := (Ext.refl _).alloc _
    generalize (w6.alloc (.cells #[.slice A3 ns.length c3, .slice (some ⟨gL, 0, none⟩) ls.length c4] 32)) = w7 at *
    have hg9 := hb6.size
    generalize hg9' : w6.heap.size = g9 at *
    have hx57 := hb6.trans hx67
    have HO3 := Lib.hid ((o3.ext hx67).more hs25)
    have HO4 := Lib.hid ((o4.ext hx67).more hs25)
    have HB9 := Lib.hid bt
    have hx27 := hx25.trans hx57
    have q0 := hx57.lit q0
    have q1 := hx57.lit q1
    have l0 := hx57.lit l0
    have l1 := hx57.lit l1
    have t1 : w7.cell? ⟨g9, 1, none⟩ = some (.slice (some ⟨gL, 0, none⟩) ls.length c4) := HB9.out.cell 1
    have d0 := cell_regrown q0
    have d1 := cell_regrown q1
    have d2 := cell_regrown l0
    have d3 := cell_regrown t1
    have hi0l : (i0 : Int) < ls.length := by omega
    clear o3 o4 bt hx67 hb6 hx25 hx57 k0 k1
    refine rx_open [(true, 0, some 25, 512), (true, 1, some 26, 33554432), (true, 0, some 27, 256), (true, 4, some 28, 134217728), (true, 8, some 29, 268435456), (true, 0, some 30, 128), (true, 32, some 31, 1073741824), (true, 64, some 32, 2147483648), (true, 0, some 33, 128), (true, 256, some 34, 8589934592), (true, 512, some 35, 17179869184), (true, 1152, some 36, 38654705664), (true, 0, some 37, 128), (true, 4096, some 38, 137438953472), (true, 8192, some 39, 274877906944), (true, 0, some 40, 128), (true, 32768, some 41, 1099511627776), (true, 65536, some 42, 2199023255552), (true, 147456, some 43, 4947802324992), (false, 264192, some 44, 8864812498944), (true, 1048575, some 45, 603979776), (false, 2097151, none, 52776558133248)] 2097152 22 mixd rfl (by kernel_rfl) (by kernel_rfl) (by kernel_rfl) ?_
    have hxc := Ext.drew (Ext.refl w7)
    obtain ⟨wz, hwz⟩ : ∃ x : World, x = w7.drew := ⟨_, rfl⟩
    rw [← hwz]
    rw [← hwz] at hxc
    clear hwz
    have y0 := ((HO4.out.ext hxc).cells (j := i0) (by omega)).1
    have y1 := ((HO4.out.ext hxc).cells (j := i0) (by omega)).2.1
    have z0 := ((HO4.out.ext hxc).cells (j := i0) (by omega)).2.2.1
    have z1 := ((HO4.out.ext hxc).cells (j := i0) (by omega)).2.2.2
    refine rx_run (run := [0, 1, 2, 3, 4, 5, 6, 7, 8, 9, 10, 11, 12, 13, 14, 15, 16, 17, 18]) (k := 3) (m' := 524287) rfl (by kernel_rfl) (by kernel_rfl) (by kernel_rfl) (fm_cons rfl <| fm_cons rfl <| fm_cons rfl <| fm_cons rfl <| fm_cons rfl <| fm_cons rfl <| fm_cons rfl <| fm_cons rfl <| fm_cons rfl <| fm_cons rfl <| fm_cons rfl <| fm_cons rfl <| fm_cons rfl <| fm_cons rfl <| fm_cons rfl <| fm_cons rfl <| fm_cons rfl <| fm_cons rfl <| fm_cons rfl <| List.filterMap_nil) (by repeat first | exact Ext.refl _ | assumption | refine Ext.drew ?_ | refine Ext.alloc ?_ _ | refine Ext.setCell ?_ (by simp) | refine Ext.setCell ?_ (by simp; omega) | refine Ext.trans ?_ (by assumption)) ?_
    repeat (go_big_quiet_step ((fail)))
    refine wpQuiet_nil ?_
    refine rx_op 19 (k := 2) (m' := 1048575) rfl rfl (by kernel_rfl) (by kernel_rfl) ?_
    go_wp2
    refine rx_on (by repeat first | exact Ext.refl _ | assumption | refine Ext.drew ?_ | refine Ext.alloc ?_ _ | refine Ext.setCell ?_ (by simp) | refine Ext.setCell ?_ (by simp; omega) | refine Ext.trans ?_ (by assumption)) ?_
    refine rx_run (run := [20]) (k := 1) (m' := 2097151) rfl (by kernel_rfl) (by kernel_rfl) (by kernel_rfl) (fm_cons rfl <| List.filterMap_nil) (by repeat first | exact Ext.refl _ | assumption | refine Ext.drew ?_ | refine Ext.alloc ?_ _ | refine Ext.setCell ?_ (by simp) | refine Ext.setCell ?_ (by simp; omega) | refine Ext.trans ?_ (by assumption)) ?_
    repeat (go_big_quiet_step ((fail)))
    refine wpQuiet_nil ?_
    refine rx_op 21 (k := 0) (m' := 4194303) rfl rfl (by kernel_rfl) (by kernel_rfl) ?_
    go_wp2
    refine rx_lst (by decide) ?_
    refine rx_end (by kernel_rfl) ?_
    have hneg : gL ≠ gl := by omega
    have G8 := gb_set (gb_set (gb_refl wz (some gL)) (i0 * 2) (.int .i64 pa)) (i0 * 2 + 1) (.int .i64 pb)
    have HL8 := Lib.hid (OwP.set3 (HO4.out.ext hxc) rfl (j := i0) (by omega) pa pb)
    have HN8 := Lib.hid ((HO3.out.ext hxc).gb G8 (fun q hq e => OwP.dj HO3.out HO4.out (by decide) q hq (by rw [← e]; rfl)))
    have HB8 := Lib.hid (gb_bk (HB9.out.ext hxc) G8 (fun e => OwP.nebk HO4.out HB9.out (by decide) (by rw [← e]; rfl)))
    have l1 := gb_lit G8 (hxc.lit l1) (fun e => hneg (by injection e))
    have hx28 := Ext.setCell (p := ⟨gL, i0 * 2 + 1, none⟩) (v := .int .i64 pb) (Ext.setCell (p := ⟨gL, i0 * 2, none⟩) (v := .int .i64 pa) (hx27.trans hxc) (by show w2.heap.size ≤ gL; omega)) (by show w2.heap.size ≤ gL; omega)
    clear q0 q1 l0 t1 d0 d1 d2 d3 y0 y1 z0 z1 G8
    go_upto_region 8 with fail
    generalize ((wz.setCell ⟨gL, i0 * 2, none⟩ (.int .i64 pa)).setCell ⟨gL, i0 * 2 + 1, none⟩ (.int .i64 pb)) = w8 at *
    have t1 : w8.cell? ⟨g9, 1, none⟩ = some (.slice (some ⟨gL, 0, none⟩) ls.length c4) := HB8.out.cell 1
    have d0 := cell_regrown t1
    have d1 := cell_regrown l1
    have hs28 := hx28.size
    have hi1c : i1 + 1 ≤ c4 := by omega
    clear hxc hx27
    refine rx_open [(true, 0, some 46, 512), (true, 1, some 47, 70368744177664), (true, 0, some 48, 256), (true, 4, some 49, 281474976710656), (true, 8, some 50, 562949953421312), (false, 18, some 51, 1266637395197952), (true, 0, some 52, 512), (true, 64, some 53, 4503599627370496), (true, 0, some 54, 256), (true, 256, some 55, 18014398509481984), (true, 512, some 56, 36028797018963968), (true, 1024, some 57, 72057594037927936), (false, 2176, some 58, 153122387330596864), (false, 4128, some 59, 290482175965396992), (true, 16383, some 60, 512), (false, 32767, none, 1729382256910270464)] 57344 16 mixd rfl (by kernel_rfl) (by kernel_rfl) (by kernel_rfl) ?_
    have hxc := Ext.drew (Ext.refl w8)
    obtain ⟨wz, hwz⟩ : ∃ x : World, x = w8.drew := ⟨_, rfl⟩
    rw [← hwz]
    rw [← hwz] at hxc
    clear hwz
    refine rx_run (run := [0, 1, 2, 3, 4, 6, 7, 8, 9, 10, 11]) (k := 5) (m' := 4063) rfl (by kernel_rfl) (by kernel_rfl) (by kernel_rfl) (fm_cons rfl <| fm_cons rfl <| fm_cons rfl <| fm_cons rfl <| fm_cons rfl <| fm_cons rfl <| fm_cons rfl <| fm_cons rfl <| fm_cons rfl <| fm_cons rfl <| fm_cons rfl <| List.filterMap_nil) (by repeat first | exact Ext.refl _ | assumption | refine Ext.drew ?_ | refine Ext.alloc ?_ _ | refine Ext.setCell ?_ (by simp) | refine Ext.setCell ?_ (by simp; omega) | refine Ext.trans ?_ (by assumption)) ?_
    repeat (go_big_quiet_step ((fail)))
    refine wpQuiet_nil ?_
    refine rx_slHi 5 (k := 4) (m' := 4095) rfl rfl (by decide) (by kernel_rfl) (by kernel_rfl) rfl (by repeat first | exact Ext.refl _ | assumption | refine Ext.drew ?_ | refine Ext.alloc ?_ _ | refine Ext.setCell ?_ (by simp) | refine Ext.setCell ?_ (by simp; omega) | refine Ext.trans ?_ (by assumption)) rfl rfl rfl (q := (i1)) rfl (by omega) Try.underlying30 hj0 ?_
    refine rx_slLo 12 (k := 3) (m' := 8191) rfl rfl (by decide) (by kernel_rfl) (by kernel_rfl) rfl (by repeat first | exact Ext.refl _ | assumption | refine Ext.drew ?_ | refine Ext.alloc ?_ _ | refine Ext.setCell ?_ (by simp) | refine Ext.setCell ?_ (by simp; omega) | refine Ext.trans ?_ (by assumption)) rfl rfl rfl (q := (i1 + 1)) rfl (by omega) Try.underlying30 infoL ?_
    intro A0 hA0
    have HPD := Lib.hid (hA0 _ _ _ (pr_of HL8.out) HTD.out hc4)
    clear hA0
    refine rx_op 13 (k := 2) (m' := 16383) rfl rfl (by kernel_rfl) (by kernel_rfl) ?_
    go_wp2_with ((at_builtin; refine az_src 30 52 Try.underlying30 infoL _ _ rfl rfl (v := .slice (some ⟨gL, 0, none⟩) i1 c4) rfl ((HL8.out.cut (k := i1) (by rw [HTD.out]; omega)).ext hxc) rfl HDL.out (HPD.out.ext hxc) HLT.out HLD.out (Nat.le_trans hs28 hxc.size) ?_; intro v6 w9 r9 h6 h6e h6g h6r; rw [← HJT.out] at h6; obtain ⟨A6, c6, e6, -, -, -⟩ := h6.shape; subst e6; have hx29 := h6e w2 (hx28.trans hxc) (Nat.le_refl _); have b9 := gb_bk (HB8.out.ext hxc) h6g (fun e => OwP.nebk HL8.out HB8.out (by decide) (h6r g9 e)); have n9 := (HN8.out.ext hxc).gb h6g (fun q hq e => OwP.dj HN8.out HL8.out (by decide) q hq (h6r q e)); have t1c : w9.cell? ⟨g9, 1, none⟩ = some (.slice (some ⟨gL, 0, none⟩) ls.length c4) := b9.cell 1; have ft1c := b9.froz 1))
    refine rx_lst (by decide) ?_
    refine rx_op 14 (k := 1) (m' := 32767) rfl rfl (by kernel_rfl) (by kernel_rfl) ?_
    go_wp2
    refine rx_lst (by decide) ?_
    refine rx_op 15 (k := 0) (m' := 65535) rfl rfl (by kernel_rfl) (by kernel_rfl) ?_
    go_wp2
    refine rx_lst (by decide) ?_
    refine rx_end (by kernel_rfl) ?_
    have HB10 := Lib.hid (b9.set_ 1 (.slice A6 (jM ns ls kk).length c6))
    have HJ10 := Lib.hid (h6.far b9 (by decide) 1 (.slice A6 (jM ns ls kk).length c6))
    have HN10 := Lib.hid (n9.far b9 (by decide) 1 (.slice A6 (jM ns ls kk).length c6))
    have hx210 := Ext.setCell (p := ⟨g9, 1, none⟩) (v := .slice A6 (jM ns ls kk).length c6) hx29 (by show w2.heap.size ≤ g9; omega)
    clear h6 h6e h6g h6r b9 n9 hx29 t1 d0 d1 l1 hxc hx28
    go_upto_region 9 with fail
    clear t1c ft1c
    generalize w9.setCell ⟨g9, 1, none⟩ (.slice A6 (jM ns ls kk).length c6) = w10 at *
    have t0 : w10.cell? ⟨g9, 0, none⟩ = some (.slice A3 ns.length c3) := HB10.out.cell 0
    have t1 : w10.cell? ⟨g9, 1, none⟩ = some (.slice A6 (jM ns ls kk).length c6) := HB10.out.cell 1
    have HWK := Lib.hid (wn_own HN10.out HJ10.out (by omega) (by omega))
    go_wp2_with fail
    refine (withoutNode_c _ _ _ _ ns (jM ns ls kk) kk _ HWK.out HJR.out).mono ?_
    rintro e w11 ⟨v7, v8, rfl, o7, o8, hb11⟩
    rw [HJL.out] at o8
    have hwn := wnN_len ns kk ns.length
    have hs10 := hx210.size
    obtain ⟨A7, c7, rfl, -, -, -⟩ := o7.shape
    obtain ⟨A8, c8, rfl, -, -, -⟩ := o8.shape
    have b11 := HB10.out.ext hb11
    have t0 := hb11.lit t0
    have t1 := hb11.lit t1
    have ft0 := b11.froz 0
    have ft1 := b11.froz 1
    generalize hlN : wnN ns (kk : Int) ns.length = lN at *
    generalize hlL : jL ns ls (kk : Int) = lL at *
    have HLN := Lib.hid hlN
    have HLL := Lib.hid hlL
    have HB12 := Lib.hid ((b11.set_ 0 (.slice A7 lN.length c7)).set_ 1 (.slice A8 lL.length c8))
    have HO7 := Lib.hid ((o7.far b11 (by decide) 0 (.slice A7 lN.length c7)).far (b11.set_ 0 _) (by decide) 1 (.slice A8 lL.length c8))
    have HO8 := Lib.hid ((o8.far b11 (by decide) 0 (.slice A7 lN.length c7)).far (b11.set_ 0 _) (by decide) 1 (.slice A8 lL.length c8))
    have hx212 := Ext.setCell (p := ⟨g9, 1, none⟩) (v := .slice A8 lL.length c8) (Ext.setCell (p := ⟨g9, 0, none⟩) (v := .slice A7 lN.length c7) (hx210.trans hb11) (by show w2.heap.size ≤ g9; omega)) (by show w2.heap.size ≤ g9; omega)
    clear hlN hlL o7 o8 b11
    go_upto_region 10 with fail
    clear t0 t1 ft0 ft1
    generalize ((w11.setCell ⟨g9, 0, none⟩ (.slice A7 lN.length c7)).setCell ⟨g9, 1, none⟩ (.slice A8 lL.length c8)) = w12 at *
    have t0 : w12.cell? ⟨g9, 0, none⟩ = some (.slice A7 lN.length c7) := HB12.out.cell 0
    have t1 : w12.cell? ⟨g9, 1, none⟩ = some (.slice A8 lL.length c8) := HB12.out.cell 1
    have HWQ := Lib.hid (wn_own HO7.out HO8.out (by omega) (by omega))
    go_wp2_with fail
    refine (WindowOk_iL HWQ.out rfl rfl).mono ?_
    rintro e wq ⟨rfl, hbq⟩
    have hxq := hx212.trans hbq
    cases hok : wok lN lL with
    | false =>
      have HR : Hid (vJoinLeads ns ls kk = ((ns, ls), false)) := Lib.hid (by unfold vJoinLeads; rw [if_neg]; rw [HJ.out, hok]; decide)
      clear hok t0 t1 hbq
      have hxx := hx02.trans hxq
      have r0 := hxx.lit r0
      have r1 := hxx.lit r1
      have f0 := hxx.frz hb10 f0
      have f1 := hxx.frz hb10 f1
      have t0 : wq.cell? ⟨g4, 0, none⟩ = some (.slice A1 ns.length c1) := (HBT.out.ext hxq).cell 0
      have t1 : wq.cell? ⟨g4, 1, none⟩ = some (.slice A2 ls.length c2) := (HBT.out.ext hxq).cell 1
      have HO1 := Lib.hid (o1.ext hxq)
      have HO2 := Lib.hid (o2.ext hxq)
      go_wp2
      (try simp only [Exit.inBlock, Exit.then])
      refine bodyPost_ret (by simp [results, Try.results19, go_sem, r0, r1]; try rfl) rfl ?_
      exact ⟨_, _, ret_wb (by rw [HR.out]), by rw [HR.out]; exact (HO1.out.gb2 (gb_set (gb_set (gb_refl _ (some b1)) 0 _) 1 _) (by omega)).more (by omega), by rw [HR.out]; exact (HO2.out.gb2 (gb_set (gb_set (gb_refl _ (some b1)) 0 _) 1 _) (by omega)).more (by omega), Ext.setCell (p := ⟨b1, 1, none⟩) (Ext.setCell (p := ⟨b1, 0, none⟩) (hx.trans hxx) (by show w.heap.size ≤ b1; omega)) (by show w.heap.size ≤ b1; omega)⟩
    | true =>
      have HR : Hid (vJoinLeads ns ls kk = ((lN, lL), true)) := Lib.hid (by unfold vJoinLeads; rw [if_pos (by rw [HJ.out, hok]), HLN.out, HLL.out])
      have hxx := hx02.trans hxq
      have r0 := hxx.lit r0
      have r1 := hxx.lit r1
      have f0 := hxx.frz hb10 f0
      have f1 := hxx.frz hb10 f1
      have t0 := hbq.lit t0
      have t1 := hbq.lit t1
      have HP7 := Lib.hid (HO7.out.ext hbq)
      have HP8 := Lib.hid (HO8.out.ext hbq)
      clear hok
      go_wp2
      (try simp only [Exit.inBlock, Exit.then])
      refine bodyPost_ret (by simp [results, Try.results19, go_sem, r0, r1]; try rfl) rfl ?_
      exact ⟨_, _, ret_wb (by rw [HR.out]), by rw [HR.out]; exact (HP7.out.gb2 (gb_set (gb_set (gb_refl _ (some b1)) 0 _) 1 _) (by omega)).more (by omega), by rw [HR.out]; exact (HP8.out.gb2 (gb_set (gb_set (gb_refl _ (some b1)) 0 _) 1 _) (by omega)).more (by omega), Ext.setCell (p := ⟨b1, 1, none⟩) (Ext.setCell (p := ⟨b1, 0, none⟩) (hx.trans hxx) (by show w.heap.size ≤ b1; omega)) (by show w.heap.size ≤ b1; omega)⟩
end Go.Proofs.Ytfhemddonahjgaa
