import Derived.Test.YtdhmjhoaegdfjaaGreatS25
namespace Go.Proofs.YtdhmjhoaegdfjaaGreat
open Go.RowKit Go.Sort Go.BigFrame
/-! What FnWishes draws. -/
set_option maxRecDepth 100000 in
set_option maxHeartbeats 8000000 in
theorem DrawFillWishes_s (w : World) (A0 : Option Addr) (n0 c0 : Nat) (hn : n0 ≤ 9223372036854775807) (zs : List Int) (hs : Sl w w.heap.size 1 A0 n0 (zs.map (Value.int .u8))) :
    Calls Tryz.prog 6 #[.slice A0 n0 c0] w fun e w' => ∃ A c B d ns ls X xc xs q, e = .returned (.tuple #[.agg #[.slice A (List.length ns) c, .slice B (List.length ls) d], .slice X (List.length xs) xc, .int .i64 q]) ∧ Wn w' A c B d ns ls ∧ In w' w'.heap.size X xs ∧ xs.length ≤ 2000 ∧ Ext w w' := by
  go_enter Tryz.func6, Tryz.ntmps6
  go_upto_region 1 with fail
  have HX : Hid (Ext w (w.alloc (.cells #[.slice none 0 0, .slice none 0 0] 27))) := Lib.hid ((Ext.refl w).alloc _)
  have HR := Lib.hid (Bk.new (w := w) (g := w.heap.size) 27 [.slice none 0 0, .slice none 0 0] rfl)
  change Hid (Bk (w.alloc (.cells #[.slice none 0 0, .slice none 0 0] 27)) w.heap.size 27 [.slice none 0 0, .slice none 0 0]) at HR
  have HSL := Lib.hid (hs.ext HX.out)
  clear hs
  generalize (w.alloc (.cells #[.slice none 0 0, .slice none 0 0] 27)) = wa at *
  generalize hg2 : w.heap.size = g2 at *
  have HG := Lib.hid hg2
  go_wp2_with fail
  refine (l01New_s wa A0 n0 c0 hn zs HSL.out).mono ?_
  rintro e w1 ⟨gc, rfl, hgc, hC, hb⟩
  have hlt := HR.out.lt
  have hsb := hb.size
  replace HR := Lib.hid (HR.out.ext hb)
  replace HX := Lib.hid (HX.out.trans hb)
  clear hb
  have HC0 := Lib.hid hC
  go_wp2_with fail
  refine (l14Any_s _ gc hC).mono ?_
  rintro e w2 ⟨A, c, B, d, ns, ls, X, xc, xs, rfl, hw, ho, hxl, hC2, hK⟩
  replace HR := Lib.hid (hC.bk hK HR.out (by decide))
  have hg1 : g2 < w1.heap.size := by omega
  have HR0 := Lib.hid HR.out.lt
  go_upto_region 3 with fail
  have hb := (Ext.refl w2).alloc (.cells #[.slice A ns.length c, .slice B ls.length d] 27)
  have HB6 : Hid (Bk (w2.alloc (.cells #[.slice A ns.length c, .slice B ls.length d] 27)) w2.heap.size 27 [.slice A ns.length c, .slice B ls.length d]) := Lib.hid (Bk.new _ _ rfl)
  replace HR := Lib.hid (HR.out.ext hb)
  have HC := Lib.hid (hC2.ext hb)
  have HK := Lib.hid (hK.trans (Kg.of hb))
  have HW := Lib.hid (hw.ext hb)
  have HO := Lib.hid (ho.ext hb)
  have hgw : gc < w1.heap.size := HC0.out.lt
  have H62 : Hid (w2.heap.size ≠ g2) := Lib.hid (by have := HR0.out; omega)
  clear hb hC hC2 hK hw ho
  generalize (w2.alloc (.cells #[.slice A ns.length c, .slice B ls.length d] 27)) = wq at *
  generalize w2.heap.size = g6 at *
  have hb := (Ext.refl wq).drew
  replace HR := Lib.hid (HR.out.ext hb)
  replace HC := Lib.hid (HC.out.ext hb)
  replace HK := Lib.hid (HK.out.trans (Kg.of hb))
  replace HW := Lib.hid (HW.out.ext hb)
  replace HO := Lib.hid (HO.out.ext hb)
  replace HB6 := Lib.hid (HB6.out.ext hb)
  clear hb
  have e0 := BoxF.c0 (g := g6) (v1 := .slice A ns.length c) (v2 := .slice B ls.length d)
  have e1 := BoxF.c1 (g := g6) (v1 := .slice A ns.length c) (v2 := .slice B ls.length d)
  have hne : Nonempty (WB (BoxF g6 (.slice A ns.length c) (.slice B ls.length d))) := ⟨⟨_, HB6.out.cell 0, HB6.out.cell 1⟩⟩
  have HQ2 : Hid (∀ q, (Value.slice X xs.length xc).ownBlock = some q → (some g2 : Option Nat) ≠ some q) := Lib.hid (fun q e e2 => by
    injection e2 with e2
    have := (World.ownsRow.lt HO.out q e).1
    omega)
  refine rs_open (fun w' => ∃ q : WB (BoxF g6 (.slice A ns.length c) (.slice B ls.length d)), w' = q.wd) [(true, 0, some 15, 64), (true, 0, some 16, 128), (true, 0, some 17, 32), (false, 0, some 18, 0), (false, 12, some 19, 393216), (false, 17, none, 32772), (true, 35, some 3, 65536), (true, 127, some 4, 524288)] 0 8 mixd rfl (by kernel_rfl) (by kernel_rfl) (by kernel_rfl) ?_
  have hS := WB.of (F := BoxF g6 (.slice A ns.length c) (.slice B ls.length d)) ⟨HB6.out.cell 0, HB6.out.cell 1⟩
  refine rs_run (run := [0, 1, 2]) (k := 5) (m' := 7) rfl (by kernel_rfl) (by kernel_rfl) (by kernel_rfl) (fm_cons rfl <| fm_cons rfl <| fm_cons rfl <| List.filterMap_nil) hS ?_
  repeat (go_big_quiet_step ((fail)))
  refine wpQuiet_nil ?_
  refine rs_op 3 (k := 4) (m' := 15) rfl rfl (by kernel_rfl) (by kernel_rfl) ?_
  go_wp2
  have hb : Ext wq.drew (wq.alloc (.cells #[.int .i64 3, .int .i64 4, .int .i64 3, .int .i64 2, .int .i64 1, .int .i64 6, .int .i64 0, .int .i64 7] 3)).drew := (Ext.refl wq.drew).alloc (.cells #[.int .i64 3, .int .i64 4, .int .i64 3, .int .i64 2, .int .i64 1, .int .i64 6, .int .i64 0, .int .i64 7] 3)
  have HBL : Hid (Bk (wq.alloc (.cells #[.int .i64 3, .int .i64 4, .int .i64 3, .int .i64 2, .int .i64 1, .int .i64 6, .int .i64 0, .int .i64 7] 3)).drew wq.heap.size 3 ([3, 4, 3, 2, 1, 6, 0, 7].map (Value.int .i64))) := Lib.hid (Bk.new _ _ rfl)
  replace HR := Lib.hid (HR.out.ext hb)
  replace HC := Lib.hid (HC.out.ext hb)
  replace HK := Lib.hid (HK.out.trans (Kg.of hb))
  replace HW := Lib.hid (HW.out.ext hb)
  replace HO := Lib.hid (HO.out.ext hb)
  replace HB6 := Lib.hid (HB6.out.ext hb)
  clear hb hS
  have hS := WB.of (F := BoxF g6 (.slice A ns.length c) (.slice B ls.length d)) ⟨HB6.out.cell 0, HB6.out.cell 1⟩
  refine rs_on hS ?_
  refine rs_op 4 (k := 3) (m' := 31) rfl rfl (by kernel_rfl) (by kernel_rfl) ?_
  go_wp2_with (go_at_call 27; refine (l01PickInt_s _ gc HC.out _ 8 [3, 4, 3, 2, 1, 6, 0, 7] rfl (by decide) (by decide) HBL.out).mono ?_; rintro e w5 ⟨z, rfl, hC, hK⟩; replace HR := Lib.hid (HC.out.bk hK HR.out (by decide)); replace HB6 := Lib.hid (HC.out.bk hK HB6.out (by decide)); replace HW := Lib.hid (HW.out.kg hK hgw); replace HO : Hid (OwI w5 w1.heap.size (.slice X xs.length xc) xs) := Lib.hid (hK.own HO.out (fun e => (by have := (World.ownsRow.lt HO.out gc e).1; omega))); replace HK := Lib.hid (HK.out.trans hK); replace HC := Lib.hid hC; clear hC hK hS HBL; have hS := WB.of (F := BoxF g6 (.slice A ns.length c) (.slice B ls.length d)) ⟨HB6.out.cell 0, HB6.out.cell 1⟩; have r0 := HR.out.cell 0; have r1 := HR.out.cell 1; have f0 := HR.out.froz 0; have f1 := HR.out.froz 1; simp only [List.getElem?_cons_zero, List.getElem?_cons_succ] at r0 r1)
  refine rs_on hS ?_
  refine rs_op 5 (k := 2) (m' := 63) rfl rfl (by kernel_rfl) (by kernel_rfl) ?_
  go_wp2
  have hge : w.heap.size ≤ g2 := (Nat.le_of_eq HG.out)
  have hgt : gc < w1.heap.size := hgw
  have h62 : g6 ≠ g2 := H62.out
  have hq2 := HQ2.out
  have HX5 : Hid (Ext w ((w5.setCell ⟨g2, 0, none⟩ (.slice A ns.length c)).setCell ⟨g2, 1, none⟩ (.slice B ls.length d))) := Lib.hid (((HK.out.ex w HX.out (by omega)).setCell (p := ⟨g2, 0, none⟩) hge).setCell (p := ⟨g2, 1, none⟩) hge)
  replace HW := Lib.hid ((HW.out.set hg1 0 (.slice A ns.length c)).set hg1 1 (.slice B ls.length d))
  replace HO := Lib.hid (OwI.gb (OwI.gb HO.out (gb_set (gb_refl _ (some g2)) 0 (.slice A ns.length c)) hq2) (gb_set (gb_refl _ (some g2)) 1 (.slice B ls.length d)) hq2)
  replace HB6 := Lib.hid ((HB6.out.far (p := ⟨g2, 0, none⟩) h62 (.slice A ns.length c)).far (p := ⟨g2, 1, none⟩) h62 (.slice B ls.length d))
  replace HR := Lib.hid ((HR.out.set_ 0 (.slice A ns.length c)).set_ 1 (.slice B ls.length d))
  clear hS hq2 r0 r1 f0 f1
  have hS := WB.of (F := BoxF g6 (.slice A ns.length c) (.slice B ls.length d)) ⟨HB6.out.cell 0, HB6.out.cell 1⟩
  generalize ((w5.setCell ⟨g2, 0, none⟩ (.slice A ns.length c)).setCell ⟨g2, 1, none⟩ (.slice B ls.length d)) = w7 at *
  refine rs_on hS ?_
  refine rs_run (run := [6, 7]) (k := 0) (m' := 255) rfl (by kernel_rfl) (by kernel_rfl) (by kernel_rfl) (fm_cons rfl <| fm_cons rfl <| List.filterMap_nil) hS ?_
  repeat (go_big_quiet_step ((fail)))
  refine wpQuiet_nil ?_
  refine rs_end (by kernel_rfl) ?_
  skip
  have q0 := HR.out.cell 0
  have q1 := HR.out.cell 1
  simp only [List.set_cons_zero, List.set_cons_succ, List.getElem?_cons_zero, List.getElem?_cons_succ] at q0 q1
  go_wp2
  (try simp only [Exit.inBlock, Exit.then])
  refine bodyPost_ret (by simp [results, Tryz.results6, go_sem, q0, q1]; try rfl) rfl ?_
  exact ⟨_, _, _, _, ns, ls, _, _, xs, z, rfl, HW.out.wn, HO.out.in', hxl, HX5.out⟩
end Go.Proofs.YtdhmjhoaegdfjaaGreat
