import Derived.Test.YtfhemddonahjgaaV9
import Derived.Deep.DeepCutAuto
namespace Go.Proofs.Ytfhemddonahjgaa
open Go.RowKit Go.Sort Go.BigFrame

set_option maxRecDepth 100000 in
set_option maxHeartbeats 8000000 in
theorem DropNode_s' (A B : Option Addr) (c d : Nat) (ns ls : List P2) (kk : Nat) (w : World) (h : Wn w A c B d ns ls) (hwo : wok ns ls = true) (hkk : kk < ns.length) :
    Calls Try.prog 16 #[.agg #[.slice A ns.length c, .slice B ls.length d], .int .i64 (kk : Int)] w fun e w' => ∃ v1 v2, e = .returned (.tuple #[.agg #[v1, v2], .bool (vDropNode ns ls kk).2]) ∧ OwP w' w.heap.size 36 v1 (vDropNode ns ls kk).1.1 ∧ OwP w' w.heap.size 52 v2 (vDropNode ns ls kk).1.2 ∧ Ext w w' := by
  have hn12 := (wok_iff.1 hwo).hi
  have hcc := h.hc
  have hcm := h.hcm
  have hnl := h.hl
  have hml := h.hm
  have hN : hasN ns ls kk = true := by simp [hasN, hwo, wi]; omega
  have HV : Hid (vDropNode ns ls kk = if dnOk ns ls kk = true then ((wnN ns kk ns.length, wnL ls kk ls.length), true) else ((ns, ls), false)) := Lib.hid rfl
  have HD : Hid (dnOk ns ls kk = wok (wnN ns kk ns.length) (wnL ls kk ls.length)) := Lib.hid (by unfold dnOk; rw [hN]; rfl)
  clear hN
  have hwi : wi (kk : Int) 0 (ns.length - 1) = true := wi_iffV.2 ⟨by omega, by omega⟩
  have hki : (kk : Int) < ns.length := by omega
  have hkc : kk + 1 ≤ c := by omega
  obtain ⟨i0, hi0, -, -, -⟩ := info_parts (infoN)
  have HTL : Hid (kk = (ns.take kk).length) := Lib.hid (by simp; omega)
  have HDL : Hid (ns.length - (kk + 1) = (ns.drop (kk + 1)).length) := Lib.hid (by simp)
  have HLT : Hid ((ns.take kk).length ≤ 2000000) := Lib.hid (by simp; omega)
  have HLD : Hid ((ns.drop (kk + 1)).length ≤ 2000000) := Lib.hid (by simp; omega)
  have HWN : Hid (wnN ns kk ns.length = ns.take kk ++ ns.drop (kk + 1)) := Lib.hid (wnN_all hkk)
  go_enter Try.func16, Try.ntmps16
  go_upto_region 1 with fail
  have k0 : ((w.alloc (.cells #[.slice A ns.length c, .slice B ls.length d] 32)).alloc (.cells #[.slice none 0 0, .slice none 0 0] 32)).cell? ⟨w.heap.size, 0, none⟩ = some (.slice A ns.length c) := by go_simp
  have k1 : ((w.alloc (.cells #[.slice A ns.length c, .slice B ls.length d] 32)).alloc (.cells #[.slice none 0 0, .slice none 0 0] 32)).cell? ⟨w.heap.size, 1, none⟩ = some (.slice B ls.length d) := by go_simp
  have r0 : ((w.alloc (.cells #[.slice A ns.length c, .slice B ls.length d] 32)).alloc (.cells #[.slice none 0 0, .slice none 0 0] 32)).cell? ⟨w.heap.size + 1, 0, none⟩ = some (.slice none 0 0) := by go_simp
  have r1 : ((w.alloc (.cells #[.slice A ns.length c, .slice B ls.length d] 32)).alloc (.cells #[.slice none 0 0, .slice none 0 0] 32)).cell? ⟨w.heap.size + 1, 1, none⟩ = some (.slice none 0 0) := by go_simp
  have f0 : ((w.alloc (.cells #[.slice A ns.length c, .slice B ls.length d] 32)).alloc (.cells #[.slice none 0 0, .slice none 0 0] 32)).frozen? ⟨w.heap.size + 1, 0, none⟩ = false := by go_simp
  have f1 : ((w.alloc (.cells #[.slice A ns.length c, .slice B ls.length d] 32)).alloc (.cells #[.slice none 0 0, .slice none 0 0] 32)).frozen? ⟨w.heap.size + 1, 1, none⟩ = false := by go_simp
  have hs0 : ((w.alloc (.cells #[.slice A ns.length c, .slice B ls.length d] 32)).alloc (.cells #[.slice none 0 0, .slice none 0 0] 32)).heap.size = w.heap.size + 1 + 1 := by simp
  have hx : Ext w ((w.alloc (.cells #[.slice A ns.length c, .slice B ls.length d] 32)).alloc (.cells #[.slice none 0 0, .slice none 0 0] 32)) := ((Ext.refl _).alloc _).alloc _
  generalize ((w.alloc (.cells #[.slice A ns.length c, .slice B ls.length d] 32)).alloc (.cells #[.slice none 0 0, .slice none 0 0] 32)) = w0 at *
  generalize hb1 : w.heap.size + 1 = b1 at *
  have HS0 := Lib.hid hs0
  clear hs0
  go_wp2_with fail
  refine (WindowOk_s' (h.ext hx)).mono ?_
  rw [hwo]
  rintro e w2 ⟨rfl, hb⟩
  have hx2 := hx.trans hb
  have HX0 := Lib.hid hb
  replace k0 := hb.lit k0
  replace k1 := hb.lit k1
  have HPW := Lib.hid (h.ext hx2).h
  have HPT := Lib.hid ((h.ext hx2).h.take kk)
  clear hb
  go_wp2_with fail
  refine (l01In_c _ _ _ _).mono ?_
  rw [hwi]
  rintro e w3 ⟨rfl, rfl⟩
  go_upto_region 3 with fail
  have d0 := cell_regrown k0
  have HR0 := Lib.hid r0
  have HR1 := Lib.hid r1
  have HF0 := Lib.hid f0
  have HF1 := Lib.hid f1
  have HXX := Lib.hid hx2
  have HXA := Lib.hid hx
  clear r0 r1 f0 f1 hx hx2
  go_cut [6] (fun s6 wx => ∃ (g6 : Nat) (A5 : Option Addr) (c5 : Nat), s6 = .pointer (some ⟨g6, 0, none⟩) ∧ w2.heap.size ≤ g6 ∧ Hid (Bk wx g6 32 [.slice A5 (wnN ns kk ns.length).length c5, .slice none 0 0]) ∧ Hid (OwP wx w2.heap.size 36 (.slice A5 (wnN ns kk ns.length).length c5) (wnN ns kk ns.length)) ∧ Ext w2 wx)
  case first =>
    refine rx_open [(false, 0, some 23, 0), (true, 0, some 24, 4), (true, 2, some 25, 16777216), (true, 0, some 26, 2), (false, 12, some 27, 100663296), (false, 17, some 28, 142606336), (true, 0, some 29, 4), (true, 64, some 30, 536870912), (true, 0, some 31, 2), (true, 256, some 32, 2147483648), (false, 640, some 33, 5368709120), (false, 1056, some 34, 8858370048), (false, 2048, some 35, 17179869184), (false, 0, some 6, 0), (false, 16383, none, 34359738432)] 16384 15 mixd rfl (by kernel_rfl) (by kernel_rfl) (by kernel_rfl) ?_
    have hxc := Ext.drew (Ext.refl w2)
    obtain ⟨wz, hwz⟩ : ∃ x : World, x = w2.drew := ⟨_, rfl⟩
    rw [← hwz]
    rw [← hwz] at hxc
    clear hwz
    refine rx_run (run := [1, 2, 3, 6, 7, 8, 9]) (k := 8) (m' := 974) rfl (by kernel_rfl) (by kernel_rfl) (by kernel_rfl) (fm_cons rfl <| fm_cons rfl <| fm_cons rfl <| fm_cons rfl <| fm_cons rfl <| fm_cons rfl <| fm_cons rfl <| List.filterMap_nil) hxc ?_
    repeat (go_big_quiet_step ((fail)))
    refine wpQuiet_nil ?_
    refine rx_slHi 4 (k := 7) (m' := 990) rfl rfl (by decide) (by kernel_rfl) (by kernel_rfl) rfl hxc rfl rfl rfl (q := kk) rfl (by omega) Try.underlying29 hi0 ?_
    refine rx_slLo 10 (k := 6) (m' := 2014) rfl rfl (by decide) (by kernel_rfl) (by kernel_rfl) rfl hxc rfl rfl rfl (q := kk + 1) rfl (by omega) Try.underlying29 infoN ?_
    intro A0 hA0
    have HPD := Lib.hid (hA0 _ _ _ HPW.out rfl hcc)
    clear hA0
    refine rx_two 0 13 (k := 5) (mi := 2015) (mj := 10206) rfl rfl rfl (by kernel_rfl) (by kernel_rfl) (by kernel_rfl) ?_ ?_
    · skip
      go_wp2
      refine rx_on (Ext.alloc hxc _) ?_
      have hgB := hxc.size
      generalize hgz : wz.heap.size = gz at hgB
      refine rx_genE hgz ?_
      intro wa1 hbn HZ
      have HZ := Lib.hid (show OwP wa1 w2.heap.size 36 (.slice (some ⟨gz, 0, none⟩) 0 0) [] from ow_more HZ hgB)
      replace hxc := hxc.trans hbn
      clear hbn hgz hgB
      refine rx_two 5 13 (k := 4) (mi := 2047) (mj := 10207) rfl rfl rfl (by kernel_rfl) (by kernel_rfl) (by kernel_rfl) ?_ ?_
      · skip
        go_wp2_with (at_builtin; refine az_fresh (v := .slice (some ⟨gz, 0, none⟩) 0 0) (B := w2.heap.size) 29 36 Try.underlying29 infoN _ _ rfl rfl rfl HZ.out ⟨_, rfl⟩ rfl HTL.out (HPT.out.ext hxc) HLT.out hxc.size ?_; intro v1 wb2 hv1 hb4 hd1; obtain ⟨A1, c1, e1, -, -, -⟩ := hv1.shape; rw [← HTL.out] at e1; subst e1)
        have HZ := Lib.hid hv1
        refine rx_on (hxc.trans hb4) ?_
        replace hxc := hxc.trans hb4
        clear hb4 hd1 hv1
        refine rx_two 11 13 (k := 3) (mi := 4095) (mj := 10239) rfl rfl rfl (by kernel_rfl) (by kernel_rfl) (by kernel_rfl) ?_ ?_
        · skip
          go_wp2_with (at_builtin; refine az_src 29 36 Try.underlying29 infoN _ _ rfl rfl (v := .slice A1 kk c1) rfl HZ.out rfl HDL.out (HPD.out.ext hxc) HLT.out HLD.out hxc.size ?_; intro v5 wc3 r5 h5 h5e h5g h5r; rw [← HWN.out] at h5; obtain ⟨A5, c5, e5, -, -, -⟩ := h5.shape; subst e5)
          have hx5 := h5e w2 hxc (Nat.le_refl _)
          refine rx_on hx5 ?_
          replace hxc := hx5
          have HZ := Lib.hid h5
          clear h5 h5e h5g h5r hx5
          refine rx_two 12 13 (k := 2) (mi := 8191) (mj := 12287) rfl rfl rfl (by kernel_rfl) (by kernel_rfl) (by kernel_rfl) ?_ ?_
          · skip
            go_wp2
            refine rx_on hxc ?_
            refine rx_op 13 (k := 1) (m' := 16383) rfl rfl (by kernel_rfl) (by kernel_rfl) ?_
            go_wp2
            refine rx_on (Ext.alloc hxc _) ?_
            have hgC := hxc.size
            generalize hg6 : wc3.heap.size = g6 at hgC
            refine rx_genB hg6 ?_
            intro wd5 hbn hB6
            have HB6 := Lib.hid hB6
            have HZ := Lib.hid (HZ.out.ext2 hbn)
            replace hxc := hxc.trans hbn
            clear hbn hB6 hg6
            have a60 : wd5.cell? ⟨g6, 0, none⟩ = some (.slice none 0 0) := HB6.out.cell 0
            have a61 : wd5.cell? ⟨g6, 1, none⟩ = some (.slice none 0 0) := HB6.out.cell 1
            have f60 := HB6.out.froz 0
            have f61 := HB6.out.froz 1
            refine rx_op 14 (k := 0) (m' := 32767) rfl rfl (by kernel_rfl) (by kernel_rfl) ?_
            go_wp2
            refine rx_lst (by decide) ?_
            refine rx_end (by kernel_rfl) ?_
            (go_wp2; go_meet; exact ⟨g6, A5, c5, rfl, hgC, Lib.hid ((HB6.out.set_ 0 _).set_ 1 _), Lib.hid ((HZ.out.far HB6.out (by decide) 0 _).far (HB6.out.set_ 0 _) (by decide) 1 _), Ext.setCell (p := ⟨g6, 1, none⟩) (Ext.setCell (p := ⟨g6, 0, none⟩) hxc hgC) hgC⟩)
          · skip
            go_wp2
            refine rx_on (Ext.alloc hxc _) ?_
            have hgC := hxc.size
            generalize hg6 : wc3.heap.size = g6 at hgC
            refine rx_genB hg6 ?_
            intro wd6 hbn hB6
            have HB6 := Lib.hid hB6
            have HZ := Lib.hid (HZ.out.ext2 hbn)
            replace hxc := hxc.trans hbn
            clear hbn hB6 hg6
            refine rx_op 12 (k := 1) (m' := 16383) rfl rfl (by kernel_rfl) (by kernel_rfl) ?_
            go_wp2
            refine rx_on hxc ?_
            have a60 : wd6.cell? ⟨g6, 0, none⟩ = some (.slice none 0 0) := HB6.out.cell 0
            have a61 : wd6.cell? ⟨g6, 1, none⟩ = some (.slice none 0 0) := HB6.out.cell 1
            have f60 := HB6.out.froz 0
            have f61 := HB6.out.froz 1
            refine rx_op 14 (k := 0) (m' := 32767) rfl rfl (by kernel_rfl) (by kernel_rfl) ?_
            go_wp2
            refine rx_lst (by decide) ?_
            refine rx_end (by kernel_rfl) ?_
            (go_wp2; go_meet; exact ⟨g6, A5, c5, rfl, hgC, Lib.hid ((HB6.out.set_ 0 _).set_ 1 _), Lib.hid ((HZ.out.far HB6.out (by decide) 0 _).far (HB6.out.set_ 0 _) (by decide) 1 _), Ext.setCell (p := ⟨g6, 1, none⟩) (Ext.setCell (p := ⟨g6, 0, none⟩) hxc hgC) hgC⟩)
        · skip
          go_wp2
          refine rx_on (Ext.alloc hxc _) ?_
          have hgC := hxc.size
          generalize hg6 : wb2.heap.size = g6 at hgC
          refine rx_genB hg6 ?_
          intro wd8 hbn hB6
          have HB6 := Lib.hid hB6
          have HZ := Lib.hid (HZ.out.ext2 hbn)
          replace hxc := hxc.trans hbn
          clear hbn hB6 hg6
          refine rx_op 11 (k := 2) (m' := 12287) rfl rfl (by kernel_rfl) (by kernel_rfl) ?_
          go_wp2_with (at_builtin; refine az_src 29 36 Try.underlying29 infoN _ _ rfl rfl (v := .slice A1 kk c1) rfl HZ.out rfl HDL.out (HPD.out.ext hxc) HLT.out HLD.out hxc.size ?_; intro v5 wc9 r5 h5 h5e h5g h5r; rw [← HWN.out] at h5; obtain ⟨A5, c5, e5, -, -, -⟩ := h5.shape; subst e5)
          have hx5 := h5e w2 hxc (Nat.le_refl _)
          replace HB6 := Lib.hid (gb_bk HB6.out h5g (fun e => OwP.nebk HZ.out HB6.out (by decide) (h5r _ e)))
          refine rx_on hx5 ?_
          replace hxc := hx5
          have HZ := Lib.hid h5
          clear h5 h5e h5g h5r hx5
          refine rx_op 12 (k := 1) (m' := 16383) rfl rfl (by kernel_rfl) (by kernel_rfl) ?_
          go_wp2
          refine rx_on hxc ?_
          have a60 : wc9.cell? ⟨g6, 0, none⟩ = some (.slice none 0 0) := HB6.out.cell 0
          have a61 : wc9.cell? ⟨g6, 1, none⟩ = some (.slice none 0 0) := HB6.out.cell 1
          have f60 := HB6.out.froz 0
          have f61 := HB6.out.froz 1
          refine rx_op 14 (k := 0) (m' := 32767) rfl rfl (by kernel_rfl) (by kernel_rfl) ?_
          go_wp2
          refine rx_lst (by decide) ?_
          refine rx_end (by kernel_rfl) ?_
          (go_wp2; go_meet; exact ⟨g6, A5, c5, rfl, hgC, Lib.hid ((HB6.out.set_ 0 _).set_ 1 _), Lib.hid ((HZ.out.far HB6.out (by decide) 0 _).far (HB6.out.set_ 0 _) (by decide) 1 _), Ext.setCell (p := ⟨g6, 1, none⟩) (Ext.setCell (p := ⟨g6, 0, none⟩) hxc hgC) hgC⟩)
      · skip
        go_wp2
        refine rx_on (Ext.alloc hxc _) ?_
        have hgC := hxc.size
        generalize hg6 : wa1.heap.size = g6 at hgC
        refine rx_genB hg6 ?_
        intro wd11 hbn hB6
        have HB6 := Lib.hid hB6
        have HZ := Lib.hid (HZ.out.ext2 hbn)
        replace hxc := hxc.trans hbn
        clear hbn hB6 hg6
        refine rx_op 5 (k := 3) (m' := 10239) rfl rfl (by kernel_rfl) (by kernel_rfl) ?_
        go_wp2_with (at_builtin; refine az_fresh (v := .slice (some ⟨gz, 0, none⟩) 0 0) (B := w2.heap.size) 29 36 Try.underlying29 infoN _ _ rfl rfl rfl HZ.out ⟨_, rfl⟩ rfl HTL.out (HPT.out.ext hxc) HLT.out hxc.size ?_; intro v1 wb12 hv1 hb4 hd1; obtain ⟨A1, c1, e1, -, -, -⟩ := hv1.shape; rw [← HTL.out] at e1; subst e1)
        have HZ := Lib.hid hv1
        refine rx_on (hxc.trans hb4) ?_
        replace HB6 := Lib.hid (HB6.out.ext hb4)
        replace hxc := hxc.trans hb4
        clear hb4 hd1 hv1
        refine rx_op 11 (k := 2) (m' := 12287) rfl rfl (by kernel_rfl) (by kernel_rfl) ?_
        go_wp2_with (at_builtin; refine az_src 29 36 Try.underlying29 infoN _ _ rfl rfl (v := .slice A1 kk c1) rfl HZ.out rfl HDL.out (HPD.out.ext hxc) HLT.out HLD.out hxc.size ?_; intro v5 wc13 r5 h5 h5e h5g h5r; rw [← HWN.out] at h5; obtain ⟨A5, c5, e5, -, -, -⟩ := h5.shape; subst e5)
        have hx5 := h5e w2 hxc (Nat.le_refl _)
        replace HB6 := Lib.hid (gb_bk HB6.out h5g (fun e => OwP.nebk HZ.out HB6.out (by decide) (h5r _ e)))
        refine rx_on hx5 ?_
        replace hxc := hx5
        have HZ := Lib.hid h5
        clear h5 h5e h5g h5r hx5
        refine rx_op 12 (k := 1) (m' := 16383) rfl rfl (by kernel_rfl) (by kernel_rfl) ?_
        go_wp2
        refine rx_on hxc ?_
        have a60 : wc13.cell? ⟨g6, 0, none⟩ = some (.slice none 0 0) := HB6.out.cell 0
        have a61 : wc13.cell? ⟨g6, 1, none⟩ = some (.slice none 0 0) := HB6.out.cell 1
        have f60 := HB6.out.froz 0
        have f61 := HB6.out.froz 1
        refine rx_op 14 (k := 0) (m' := 32767) rfl rfl (by kernel_rfl) (by kernel_rfl) ?_
        go_wp2
        refine rx_lst (by decide) ?_
        refine rx_end (by kernel_rfl) ?_
        (go_wp2; go_meet; exact ⟨g6, A5, c5, rfl, hgC, Lib.hid ((HB6.out.set_ 0 _).set_ 1 _), Lib.hid ((HZ.out.far HB6.out (by decide) 0 _).far (HB6.out.set_ 0 _) (by decide) 1 _), Ext.setCell (p := ⟨g6, 1, none⟩) (Ext.setCell (p := ⟨g6, 0, none⟩) hxc hgC) hgC⟩)
    · skip
      go_wp2
      refine rx_on (Ext.alloc hxc _) ?_
      have hgC := hxc.size
      generalize hg6 : wz.heap.size = g6 at hgC
      refine rx_genB hg6 ?_
      intro wd15 hbn hB6
      have HB6 := Lib.hid hB6
      replace hxc := hxc.trans hbn
      clear hbn hB6 hg6
      refine rx_op 0 (k := 4) (m' := 10207) rfl rfl (by kernel_rfl) (by kernel_rfl) ?_
      go_wp2
      refine rx_on (Ext.alloc hxc _) ?_
      have hgB := hxc.size
      generalize hgz : wd15.heap.size = gz at hgB
      refine rx_genE hgz ?_
      intro wa16 hbn HZ
      have HZ := Lib.hid (show OwP wa16 w2.heap.size 36 (.slice (some ⟨gz, 0, none⟩) 0 0) [] from ow_more HZ hgB)
      replace HB6 := Lib.hid (HB6.out.ext hbn)
      replace hxc := hxc.trans hbn
      clear hbn hgz hgB
      refine rx_op 5 (k := 3) (m' := 10239) rfl rfl (by kernel_rfl) (by kernel_rfl) ?_
      go_wp2_with (at_builtin; refine az_fresh (v := .slice (some ⟨gz, 0, none⟩) 0 0) (B := w2.heap.size) 29 36 Try.underlying29 infoN _ _ rfl rfl rfl HZ.out ⟨_, rfl⟩ rfl HTL.out (HPT.out.ext hxc) HLT.out hxc.size ?_; intro v1 wb17 hv1 hb4 hd1; obtain ⟨A1, c1, e1, -, -, -⟩ := hv1.shape; rw [← HTL.out] at e1; subst e1)
      have HZ := Lib.hid hv1
      refine rx_on (hxc.trans hb4) ?_
      replace HB6 := Lib.hid (HB6.out.ext hb4)
      replace hxc := hxc.trans hb4
      clear hb4 hd1 hv1
      refine rx_op 11 (k := 2) (m' := 12287) rfl rfl (by kernel_rfl) (by kernel_rfl) ?_
      go_wp2_with (at_builtin; refine az_src 29 36 Try.underlying29 infoN _ _ rfl rfl (v := .slice A1 kk c1) rfl HZ.out rfl HDL.out (HPD.out.ext hxc) HLT.out HLD.out hxc.size ?_; intro v5 wc18 r5 h5 h5e h5g h5r; rw [← HWN.out] at h5; obtain ⟨A5, c5, e5, -, -, -⟩ := h5.shape; subst e5)
      have hx5 := h5e w2 hxc (Nat.le_refl _)
      replace HB6 := Lib.hid (gb_bk HB6.out h5g (fun e => OwP.nebk HZ.out HB6.out (by decide) (h5r _ e)))
      refine rx_on hx5 ?_
      replace hxc := hx5
      have HZ := Lib.hid h5
      clear h5 h5e h5g h5r hx5
      refine rx_op 12 (k := 1) (m' := 16383) rfl rfl (by kernel_rfl) (by kernel_rfl) ?_
      go_wp2
      refine rx_on hxc ?_
      have a60 : wc18.cell? ⟨g6, 0, none⟩ = some (.slice none 0 0) := HB6.out.cell 0
      have a61 : wc18.cell? ⟨g6, 1, none⟩ = some (.slice none 0 0) := HB6.out.cell 1
      have f60 := HB6.out.froz 0
      have f61 := HB6.out.froz 1
      refine rx_op 14 (k := 0) (m' := 32767) rfl rfl (by kernel_rfl) (by kernel_rfl) ?_
      go_wp2
      refine rx_lst (by decide) ?_
      refine rx_end (by kernel_rfl) ?_
      (go_wp2; go_meet; exact ⟨g6, A5, c5, rfl, hgC, Lib.hid ((HB6.out.set_ 0 _).set_ 1 _), Lib.hid ((HZ.out.far HB6.out (by decide) 0 _).far (HB6.out.set_ 0 _) (by decide) 1 _), Ext.setCell (p := ⟨g6, 1, none⟩) (Ext.setCell (p := ⟨g6, 0, none⟩) hxc hgC) hgC⟩)
  case rest =>
    obtain ⟨g6, A5, c5, rfl, hg6, HB6, HZ, hxc⟩ := hcut
    obtain ⟨w4, rfl⟩ : ∃ x : World, x = wc := ⟨_, rfl⟩
    have hwl0 := wnN_len ns kk ns.length
    clear HPW HPT HTL HDL HLT HLD HWN d0 hi0
    generalize hlN : wnN ns (kk : Int) ns.length = lN at *
    have HLN := Lib.hid hlN
    clear hlN
    go_wp2_with fail
    go_loopw [7, 8] (fun i _ wr => ∃ (a : Nat) (v2 : Value), a ≤ ls.length ∧ i = .int .i64 a ∧ Hid (Bk wr g6 32 [.slice A5 lN.length c5, v2]) ∧ Hid (OwP wr w2.heap.size 36 (.slice A5 lN.length c5) lN) ∧ Hid (OwP wr w2.heap.size 52 v2 (wnL ls kk a)) ∧ Ext w2 wr) (fun i _ _ => ls.length - (intOf i).toNat)
    case atStart => exact ⟨0, _, by omega, rfl, HB6, HZ, Lib.hid (OwP.nil _ _ _), hxc⟩
    case round =>
      clear hxc HB6 HZ
      obtain ⟨a, v2, ha, rfl, HB6, HZ, HL, hxc⟩ := hrel
      obtain ⟨w4, rfl⟩ : ∃ x : World, x = wr := ⟨_, rfl⟩
      have j1 := hxc.lit k1
      by_cases hat : a < ls.length
      · have hai : (a : Int) < ls.length := by omega
        obtain ⟨bL, oL, eB, -, x0, x1⟩ := h.g.gp_ hat
        have x0 := (HXX.out.trans hxc).lit x0
        have x1 := (HXX.out.trans hxc).lit x1
        have HN1 : Hid (wnL ls kk (a + 1) = if (gp ls (a : Nat)).1 ≠ kk ∧ (gp ls (a : Nat)).2 ≠ kk then wnL ls kk a ++ [(dnI kk (gp ls (a : Nat)).1, dnI kk (gp ls (a : Nat)).2)] else wnL ls kk a) := Lib.hid rfl
        have hwl := wnL_len ls kk a
        have hra := wok_range hwo a hat
        subst eB
        obtain ⟨x, y, hg⟩ : ∃ x y, gp ls (a : Nat) = (x, y) := ⟨_, _, rfl⟩
        rw [hg] at x0 x1 HN1 hra
        clear hg
        obtain ⟨hr1, hr2, hr3, hr4⟩ := hra
        have hr1 : 0 ≤ x := hr1
        have hr2 : x < 100 := hr2
        have hr3 : 0 ≤ y := hr3
        have hr4 : y < 100 := hr4
        go_upto_region 8 with fail
        have HS : Hid (WSt (w4.alloc (.cells #[.int .i64 x, .int .i64 y] 52)) w2 36 52 32 g6 w4.heap.size (.slice A5 lN.length c5) v2 lN (wnL ls kk a) x y) := Lib.hid (WSt.new rfl HB6.out HZ.out HL.out hxc)
        generalize (w4.alloc (.cells #[.int .i64 x, .int .i64 y] 52)) = w5 at *
        generalize w4.heap.size = gl at *
        have y0 := HS.out.cx
        have y1 := HS.out.cy
        clear x0 x1 j1
        by_cases hp : x = kk
        · have q : (x == (kk : Int)) = true := by simp [hp]
          have Hs : Hid (wnL ls kk (a + 1) = wnL ls kk a) := Lib.hid (by rw [HN1.out, if_neg (fun e => e.1 hp)])
          clear hp HN1
          go_wp2
          go_roundw
          case rel => exact ⟨a + 1, v2, by omega, by go_num, Lib.hid HS.out.b6, Lib.hid HS.out.oN, Lib.hid (by rw [Hs.out]; exact HS.out.oL), HS.out.hx⟩
          case measure => first | (simp [intOf]; done) | (simp [intOf]; omega)
        · have q : (x == (kk : Int)) = false := by simp [hp]
          by_cases hq : y = kk
          · have q2 : (y == (kk : Int)) = true := by simp [hq]
            have Hs : Hid (wnL ls kk (a + 1) = wnL ls kk a) := Lib.hid (by rw [HN1.out, if_neg (fun e => e.2 hq)])
            clear hp hq HN1
            go_wp2
            go_roundw
            case rel => exact ⟨a + 1, v2, by omega, by go_num, Lib.hid HS.out.b6, Lib.hid HS.out.oN, Lib.hid (by rw [Hs.out]; exact HS.out.oL), HS.out.hx⟩
            case measure => first | (simp [intOf]; done) | (simp [intOf]; omega)
          · have q2 : (y == (kk : Int)) = false := by simp [hq]
            by_cases hx1 : (kk : Int) < x
            · have HX : Hid (dnI kk x = x - 1) := Lib.hid (if_pos hx1)
              have fz0 := HS.out.bl.froz 0
              go_upto_region 11 with fail
              have HS := Lib.hid (HS.out.put (by decide) 0 (.int .i64 (x - 1)) rfl)
              generalize w5.setCell ⟨gl, 0, none⟩ (.int .i64 (x - 1)) = w6 at *
              generalize x - 1 = X at *
              clear y0 y1 fz0
              have c0 := HS.out.cx
              have c1 := HS.out.cy
              by_cases hy1 : (kk : Int) < y
              · skip
                have HY : Hid (dnI kk y = y - 1) := Lib.hid (if_pos hy1)
                have fz1 := HS.out.bl.froz 1
                go_upto_region 13 with fail
                have HS := Lib.hid (HS.out.put (by decide) 1 (.int .i64 (y - 1)) rfl)
                generalize w6.setCell ⟨gl, 1, none⟩ (.int .i64 (y - 1)) = w7 at *
                generalize y - 1 = Y at *
                clear c0 c1 fz1
                have c0 := HS.out.cx
                have c1 := HS.out.cy
                have cv := HS.out.cv
                obtain ⟨A2, c2, rfl, -, -, -⟩ := HS.out.oL.shape
                have hs7 := HS.out.hx.size
                have Hs : Hid (wnL ls kk (a + 1) = wnL ls kk a ++ [(X, Y)]) := Lib.hid (by rw [HN1.out, if_pos ⟨hp, hq⟩, HX.out, HY.out])
                clear hp hq HN1
                go_wp2_with (at_builtin; refine az_src 30 52 Try.underlying30 infoL _ _ rfl rfl (v := .slice A2 (wnL ls kk a).length c2) rfl (HS.out.oL.ext ((Ext.refl w7).alloc _)) (l := [(X, Y)]) rfl rfl (pr_oneg (by first | rfl | omega) X Y) (by omega) (by simp) (by simp; omega) ?_)
                intro v6 w9 r9 h6 h6e h6g h6r
                obtain ⟨A6, c6, e6, -, -, -⟩ := h6.shape
                rw [show (wnL ls kk a ++ [(X, Y)]).length = (wnL ls kk a).length + 1 by simp] at e6
                subst e6
                obtain ⟨t1, ft1, b1_, b2_, b3_, hxx⟩ := HS.out.app (by decide) (by decide) (by decide) h6 h6e h6g h6r hg6
                have HBV := Lib.hid b1_
                have HF5 := Lib.hid b2_
                have HF6 := Lib.hid b3_
                clear h6 h6e h6g h6r b1_ b2_ b3_
                go_wp2
                go_roundw
                case rel => exact ⟨a + 1, _, by omega, by go_num, HBV, HF5, Lib.hid (by rw [Hs.out]; exact HF6.out), hxx⟩
                case measure => first | (simp [intOf]; done) | (simp [intOf]; omega)
              · skip
                have HY : Hid (dnI kk y = y) := Lib.hid (if_neg hy1)
                obtain ⟨Y, rfl⟩ : ∃ Y, Y = y := ⟨_, rfl⟩
                obtain ⟨w7, rfl⟩ : ∃ x : World, x = w6 := ⟨_, rfl⟩
                have c0 := HS.out.cx
                have c1 := HS.out.cy
                have cv := HS.out.cv
                obtain ⟨A2, c2, rfl, -, -, -⟩ := HS.out.oL.shape
                have hs7 := HS.out.hx.size
                have Hs : Hid (wnL ls kk (a + 1) = wnL ls kk a ++ [(X, Y)]) := Lib.hid (by rw [HN1.out, if_pos ⟨hp, hq⟩, HX.out, HY.out])
                clear hp hq HN1
                go_wp2_with (at_builtin; refine az_src 30 52 Try.underlying30 infoL _ _ rfl rfl (v := .slice A2 (wnL ls kk a).length c2) rfl (HS.out.oL.ext ((Ext.refl w7).alloc _)) (l := [(X, Y)]) rfl rfl (pr_oneg (by first | rfl | omega) X Y) (by omega) (by simp) (by simp; omega) ?_)
                intro v6 w9 r9 h6 h6e h6g h6r
                obtain ⟨A6, c6, e6, -, -, -⟩ := h6.shape
                rw [show (wnL ls kk a ++ [(X, Y)]).length = (wnL ls kk a).length + 1 by simp] at e6
                subst e6
                obtain ⟨t1, ft1, b1_, b2_, b3_, hxx⟩ := HS.out.app (by decide) (by decide) (by decide) h6 h6e h6g h6r hg6
                have HBV := Lib.hid b1_
                have HF5 := Lib.hid b2_
                have HF6 := Lib.hid b3_
                clear h6 h6e h6g h6r b1_ b2_ b3_
                go_wp2
                go_roundw
                case rel => exact ⟨a + 1, _, by omega, by go_num, HBV, HF5, Lib.hid (by rw [Hs.out]; exact HF6.out), hxx⟩
                case measure => first | (simp [intOf]; done) | (simp [intOf]; omega)
            · have HX : Hid (dnI kk x = x) := Lib.hid (if_neg hx1)
              obtain ⟨X, rfl⟩ : ∃ X, X = x := ⟨_, rfl⟩
              obtain ⟨w6, rfl⟩ : ∃ x : World, x = w5 := ⟨_, rfl⟩
              have c0 := HS.out.cx
              have c1 := HS.out.cy
              by_cases hy1 : (kk : Int) < y
              · skip
                have HY : Hid (dnI kk y = y - 1) := Lib.hid (if_pos hy1)
                have fz1 := HS.out.bl.froz 1
                go_upto_region 13 with fail
                have HS := Lib.hid (HS.out.put (by decide) 1 (.int .i64 (y - 1)) rfl)
                generalize w6.setCell ⟨gl, 1, none⟩ (.int .i64 (y - 1)) = w7 at *
                generalize y - 1 = Y at *
                clear c0 c1 fz1
                have c0 := HS.out.cx
                have c1 := HS.out.cy
                have cv := HS.out.cv
                obtain ⟨A2, c2, rfl, -, -, -⟩ := HS.out.oL.shape
                have hs7 := HS.out.hx.size
                have Hs : Hid (wnL ls kk (a + 1) = wnL ls kk a ++ [(X, Y)]) := Lib.hid (by rw [HN1.out, if_pos ⟨hp, hq⟩, HX.out, HY.out])
                clear hp hq HN1
                go_wp2_with (at_builtin; refine az_src 30 52 Try.underlying30 infoL _ _ rfl rfl (v := .slice A2 (wnL ls kk a).length c2) rfl (HS.out.oL.ext ((Ext.refl w7).alloc _)) (l := [(X, Y)]) rfl rfl (pr_oneg (by first | rfl | omega) X Y) (by omega) (by simp) (by simp; omega) ?_)
                intro v6 w9 r9 h6 h6e h6g h6r
                obtain ⟨A6, c6, e6, -, -, -⟩ := h6.shape
                rw [show (wnL ls kk a ++ [(X, Y)]).length = (wnL ls kk a).length + 1 by simp] at e6
                subst e6
                obtain ⟨t1, ft1, b1_, b2_, b3_, hxx⟩ := HS.out.app (by decide) (by decide) (by decide) h6 h6e h6g h6r hg6
                have HBV := Lib.hid b1_
                have HF5 := Lib.hid b2_
                have HF6 := Lib.hid b3_
                clear h6 h6e h6g h6r b1_ b2_ b3_
                go_wp2
                go_roundw
                case rel => exact ⟨a + 1, _, by omega, by go_num, HBV, HF5, Lib.hid (by rw [Hs.out]; exact HF6.out), hxx⟩
                case measure => first | (simp [intOf]; done) | (simp [intOf]; omega)
              · skip
                have HY : Hid (dnI kk y = y) := Lib.hid (if_neg hy1)
                obtain ⟨Y, rfl⟩ : ∃ Y, Y = y := ⟨_, rfl⟩
                obtain ⟨w7, rfl⟩ : ∃ x : World, x = w6 := ⟨_, rfl⟩
                have c0 := HS.out.cx
                have c1 := HS.out.cy
                have cv := HS.out.cv
                obtain ⟨A2, c2, rfl, -, -, -⟩ := HS.out.oL.shape
                have hs7 := HS.out.hx.size
                have Hs : Hid (wnL ls kk (a + 1) = wnL ls kk a ++ [(X, Y)]) := Lib.hid (by rw [HN1.out, if_pos ⟨hp, hq⟩, HX.out, HY.out])
                clear hp hq HN1
                go_wp2_with (at_builtin; refine az_src 30 52 Try.underlying30 infoL _ _ rfl rfl (v := .slice A2 (wnL ls kk a).length c2) rfl (HS.out.oL.ext ((Ext.refl w7).alloc _)) (l := [(X, Y)]) rfl rfl (pr_oneg (by first | rfl | omega) X Y) (by omega) (by simp) (by simp; omega) ?_)
                intro v6 w9 r9 h6 h6e h6g h6r
                obtain ⟨A6, c6, e6, -, -, -⟩ := h6.shape
                rw [show (wnL ls kk a ++ [(X, Y)]).length = (wnL ls kk a).length + 1 by simp] at e6
                subst e6
                obtain ⟨t1, ft1, b1_, b2_, b3_, hxx⟩ := HS.out.app (by decide) (by decide) (by decide) h6 h6e h6g h6r hg6
                have HBV := Lib.hid b1_
                have HF5 := Lib.hid b2_
                have HF6 := Lib.hid b3_
                clear h6 h6e h6g h6r b1_ b2_ b3_
                go_wp2
                go_roundw
                case rel => exact ⟨a + 1, _, by omega, by go_num, HBV, HF5, Lib.hid (by rw [Hs.out]; exact HF6.out), hxx⟩
                case measure => first | (simp [intOf]; done) | (simp [intOf]; omega)
      · obtain rfl : a = ls.length := by omega
        obtain ⟨A2, c2, rfl, -, -, -⟩ := HL.out.shape
        have t0 := HB6.out.cell 0
        have t1 := HB6.out.cell 1
        have hwl := wnL_len ls kk ls.length
        have HWK := Lib.hid (wn_own HZ.out HL.out (by omega) (by omega))
        generalize hlL : wnL ls (kk : Int) ls.length = lL at *
        clear hlL
        go_wp2_with fail
        refine (WindowOk_sL HWK.out rfl rfl).mono ?_
        rintro e w15 ⟨rfl, hb15⟩
        have hx0q := HX0.out.trans (hxc.trans hb15)
        cases hok : wok lN lL with
        | false =>
          have HNO : Hid (dnOk ns ls kk = false) := Lib.hid (by rw [HD.out, hok])
          have j0 := (hxc.trans hb15).lit k0
          have j1 := (hxc.trans hb15).lit k1
          clear hok t0 t1
          go_wp2_with fail
          refine (copy_s_l04Copy _ _ _ _ ns ls _ (h.ext (HXA.out.trans hx0q))).mono ?_
          rintro e w16 ⟨v7, v8, rfl, o7, o8, -, hb16⟩
          have hs15 := hx0q.size
          have hx0q := hx0q.trans hb16
          have r0 := hx0q.lit HR0.out
          have r1 := hx0q.lit HR1.out
          have f0 := hx0q.frz (by rw [HS0.out]; omega) HF0.out
          have f1 := hx0q.frz (by rw [HS0.out]; omega) HF1.out
          obtain ⟨A7, c7, rfl, -, -, -⟩ := o7.shape
          obtain ⟨A8, c8, rfl, -, -, -⟩ := o8.shape
          have hb215 : b1 < w15.heap.size := Nat.lt_of_lt_of_le (by rw [HS0.out]; omega) hs15
          have hww := Nat.le_trans HXA.out.size hs15
          go_wp2
          (try simp only [Exit.inBlock, Exit.then])
          refine bodyPost_ret (by simp [results, Try.results16, go_sem, r0, r1]; try rfl) rfl ?_
          exact ⟨_, _, ret_wb (by rw [HV.out, if_neg (by rw [HNO.out]; decide)]), by rw [HV.out, if_neg (by rw [HNO.out]; decide)]; exact (o7.gb2 (gb_set (gb_set (gb_refl _ (some b1)) 0 _) 1 _) hb215).more hww, by rw [HV.out, if_neg (by rw [HNO.out]; decide)]; exact (o8.gb2 (gb_set (gb_set (gb_refl _ (some b1)) 0 _) 1 _) hb215).more hww, Ext.setCell (p := ⟨b1, 1, none⟩) (Ext.setCell (p := ⟨b1, 0, none⟩) (HXA.out.trans hx0q) (by show w.heap.size ≤ b1; omega)) (by show w.heap.size ≤ b1; omega)⟩
        | true =>
          have HYE : Hid (dnOk ns ls kk = true) := Lib.hid (by rw [HD.out, hok])
          have r0 := hx0q.lit HR0.out
          have r1 := hx0q.lit HR1.out
          have f0 := hx0q.frz (by rw [HS0.out]; omega) HF0.out
          have f1 := hx0q.frz (by rw [HS0.out]; omega) HF1.out
          have t0 := hb15.lit t0
          have t1 := hb15.lit t1
          have HF5 := Lib.hid (HZ.out.ext hb15)
          have HF6 := Lib.hid (HL.out.ext hb15)
          have hb20 : b1 < w2.heap.size := Nat.lt_of_lt_of_le (by rw [HS0.out]; omega) HX0.out.size
          have hw02 := HXX.out.size
          clear hok
          go_wp2
          (try simp only [Exit.inBlock, Exit.then])
          refine bodyPost_ret (by simp [results, Try.results16, go_sem, r0, r1]; try rfl) rfl ?_
          exact ⟨_, _, ret_wb (by rw [HV.out, if_pos HYE.out]), by rw [HV.out, if_pos HYE.out]; exact (HF5.out.gb2 (gb_set (gb_set (gb_refl _ (some b1)) 0 _) 1 _) hb20).more hw02, by rw [HV.out, if_pos HYE.out]; exact (HF6.out.gb2 (gb_set (gb_set (gb_refl _ (some b1)) 0 _) 1 _) hb20).more hw02, Ext.setCell (p := ⟨b1, 1, none⟩) (Ext.setCell (p := ⟨b1, 0, none⟩) (HXA.out.trans hx0q) (by show w.heap.size ≤ b1; omega)) (by show w.heap.size ≤ b1; omega)⟩

set_option maxRecDepth 100000 in
set_option maxHeartbeats 8000000 in
theorem DropNode_s (A B : Option Addr) (c d : Nat) (ns ls : List P2) (k : Int) (w : World) (h : Wn w A c B d ns ls) :
    Calls Try.prog 16 #[.agg #[.slice A ns.length c, .slice B ls.length d], .int .i64 k] w fun e w' => ∃ v1 v2, e = .returned (.tuple #[.agg #[v1, v2], .bool (vDropNode ns ls k).2]) ∧ OwP w' w.heap.size 36 v1 (vDropNode ns ls k).1.1 ∧ OwP w' w.heap.size 52 v2 (vDropNode ns ls k).1.2 ∧ Ext w w' := by
  have hnl := h.hl
  have hml := h.hm
  by_cases hwo : wok ns ls = true
  · by_cases hwi : wi k 0 (ns.length - 1) = true
    · obtain ⟨q1, q2⟩ := wi_iffV.1 hwi
      obtain ⟨kk, rfl⟩ := Int.eq_ofNat_of_zero_le q1
      exact DropNode_s' A B c d ns ls kk w h hwo (by omega)
    · have hwi := eq_false_of_ne_true hwi
      have hN : hasN ns ls k = false := by unfold hasN; rw [hwo, hwi]; rfl
      have HV : Hid (vDropNode ns ls k = ((ns, ls), false)) := Lib.hid (by unfold vDropNode; rw [if_neg]; unfold dnOk; rw [hN]; simp)
      go_enter Try.func16, Try.ntmps16
      go_upto_region 1 with fail
      have k0 : ((w.alloc (.cells #[.slice A ns.length c, .slice B ls.length d] 32)).alloc (.cells #[.slice none 0 0, .slice none 0 0] 32)).cell? ⟨w.heap.size, 0, none⟩ = some (.slice A ns.length c) := by go_simp
      have k1 : ((w.alloc (.cells #[.slice A ns.length c, .slice B ls.length d] 32)).alloc (.cells #[.slice none 0 0, .slice none 0 0] 32)).cell? ⟨w.heap.size, 1, none⟩ = some (.slice B ls.length d) := by go_simp
      have r0 : ((w.alloc (.cells #[.slice A ns.length c, .slice B ls.length d] 32)).alloc (.cells #[.slice none 0 0, .slice none 0 0] 32)).cell? ⟨w.heap.size + 1, 0, none⟩ = some (.slice none 0 0) := by go_simp
      have r1 : ((w.alloc (.cells #[.slice A ns.length c, .slice B ls.length d] 32)).alloc (.cells #[.slice none 0 0, .slice none 0 0] 32)).cell? ⟨w.heap.size + 1, 1, none⟩ = some (.slice none 0 0) := by go_simp
      have f0 : ((w.alloc (.cells #[.slice A ns.length c, .slice B ls.length d] 32)).alloc (.cells #[.slice none 0 0, .slice none 0 0] 32)).frozen? ⟨w.heap.size + 1, 0, none⟩ = false := by go_simp
      have f1 : ((w.alloc (.cells #[.slice A ns.length c, .slice B ls.length d] 32)).alloc (.cells #[.slice none 0 0, .slice none 0 0] 32)).frozen? ⟨w.heap.size + 1, 1, none⟩ = false := by go_simp
      have hs0 : ((w.alloc (.cells #[.slice A ns.length c, .slice B ls.length d] 32)).alloc (.cells #[.slice none 0 0, .slice none 0 0] 32)).heap.size = w.heap.size + 1 + 1 := by simp
      have hx : Ext w ((w.alloc (.cells #[.slice A ns.length c, .slice B ls.length d] 32)).alloc (.cells #[.slice none 0 0, .slice none 0 0] 32)) := ((Ext.refl _).alloc _).alloc _
      generalize ((w.alloc (.cells #[.slice A ns.length c, .slice B ls.length d] 32)).alloc (.cells #[.slice none 0 0, .slice none 0 0] 32)) = w0 at *
      generalize hb1 : w.heap.size + 1 = b1 at *
      have HS0 := Lib.hid hs0
      clear hs0
      go_wp2_with fail
      refine (WindowOk_s' (h.ext hx)).mono ?_
      rintro e w2 ⟨rfl, hb⟩
      have j0 := hb.lit k0
      have j1 := hb.lit k1
      rw [hwo]
      go_wp2_with fail
      refine (l01In_c _ _ _ _).mono ?_
      rw [hwi]
      rintro e w3 ⟨rfl, rfl⟩
      go_wp2_with fail
      refine (copy_s_l04Copy _ _ _ _ ns ls _ (h.ext (hx.trans hb))).mono ?_
      rintro e w16 ⟨v7, v8, rfl, o7, o8, -, hb16⟩
      have hsq := hb.size
      have hxq := hb.trans hb16
      have r0 := hxq.lit r0
      have r1 := hxq.lit r1
      have f0 := hxq.frz (by rw [HS0.out]; omega) f0
      have f1 := hxq.frz (by rw [HS0.out]; omega) f1
      obtain ⟨A7, c7, rfl, -, -, -⟩ := o7.shape
      obtain ⟨A8, c8, rfl, -, -, -⟩ := o8.shape
      have hb2 : b1 < w2.heap.size := Nat.lt_of_lt_of_le (by rw [HS0.out]; omega) hsq
      have hww := Nat.le_trans hx.size hsq
      go_wp2
      (try simp only [Exit.inBlock, Exit.then])
      refine bodyPost_ret (by simp [results, Try.results16, go_sem, r0, r1]; try rfl) rfl ?_
      exact ⟨_, _, ret_wb (by rw [HV.out]), by rw [HV.out]; exact (o7.gb2 (gb_set (gb_set (gb_refl _ (some b1)) 0 _) 1 _) hb2).more hww, by rw [HV.out]; exact (o8.gb2 (gb_set (gb_set (gb_refl _ (some b1)) 0 _) 1 _) hb2).more hww, Ext.setCell (p := ⟨b1, 1, none⟩) (Ext.setCell (p := ⟨b1, 0, none⟩) (hx.trans hxq) (by show w.heap.size ≤ b1; omega)) (by show w.heap.size ≤ b1; omega)⟩
  · have hwo := eq_false_of_ne_true hwo
    have hN : hasN ns ls k = false := by unfold hasN; rw [hwo]; rfl
    have HV : Hid (vDropNode ns ls k = ((ns, ls), false)) := Lib.hid (by unfold vDropNode; rw [if_neg]; unfold dnOk; rw [hN]; simp)
    go_enter Try.func16, Try.ntmps16
    go_upto_region 1 with fail
    have k0 : ((w.alloc (.cells #[.slice A ns.length c, .slice B ls.length d] 32)).alloc (.cells #[.slice none 0 0, .slice none 0 0] 32)).cell? ⟨w.heap.size, 0, none⟩ = some (.slice A ns.length c) := by go_simp
    have k1 : ((w.alloc (.cells #[.slice A ns.length c, .slice B ls.length d] 32)).alloc (.cells #[.slice none 0 0, .slice none 0 0] 32)).cell? ⟨w.heap.size, 1, none⟩ = some (.slice B ls.length d) := by go_simp
    have r0 : ((w.alloc (.cells #[.slice A ns.length c, .slice B ls.length d] 32)).alloc (.cells #[.slice none 0 0, .slice none 0 0] 32)).cell? ⟨w.heap.size + 1, 0, none⟩ = some (.slice none 0 0) := by go_simp
    have r1 : ((w.alloc (.cells #[.slice A ns.length c, .slice B ls.length d] 32)).alloc (.cells #[.slice none 0 0, .slice none 0 0] 32)).cell? ⟨w.heap.size + 1, 1, none⟩ = some (.slice none 0 0) := by go_simp
    have f0 : ((w.alloc (.cells #[.slice A ns.length c, .slice B ls.length d] 32)).alloc (.cells #[.slice none 0 0, .slice none 0 0] 32)).frozen? ⟨w.heap.size + 1, 0, none⟩ = false := by go_simp
    have f1 : ((w.alloc (.cells #[.slice A ns.length c, .slice B ls.length d] 32)).alloc (.cells #[.slice none 0 0, .slice none 0 0] 32)).frozen? ⟨w.heap.size + 1, 1, none⟩ = false := by go_simp
    have hs0 : ((w.alloc (.cells #[.slice A ns.length c, .slice B ls.length d] 32)).alloc (.cells #[.slice none 0 0, .slice none 0 0] 32)).heap.size = w.heap.size + 1 + 1 := by simp
    have hx : Ext w ((w.alloc (.cells #[.slice A ns.length c, .slice B ls.length d] 32)).alloc (.cells #[.slice none 0 0, .slice none 0 0] 32)) := ((Ext.refl _).alloc _).alloc _
    generalize ((w.alloc (.cells #[.slice A ns.length c, .slice B ls.length d] 32)).alloc (.cells #[.slice none 0 0, .slice none 0 0] 32)) = w0 at *
    generalize hb1 : w.heap.size + 1 = b1 at *
    have HS0 := Lib.hid hs0
    clear hs0
    go_wp2_with fail
    refine (WindowOk_s' (h.ext hx)).mono ?_
    rintro e w2 ⟨rfl, hb⟩
    have j0 := hb.lit k0
    have j1 := hb.lit k1
    rw [hwo]
    go_wp2_with fail
    refine (copy_s_l04Copy _ _ _ _ ns ls _ (h.ext (hx.trans hb))).mono ?_
    rintro e w16 ⟨v7, v8, rfl, o7, o8, -, hb16⟩
    have hsq := hb.size
    have hxq := hb.trans hb16
    have r0 := hxq.lit r0
    have r1 := hxq.lit r1
    have f0 := hxq.frz (by rw [HS0.out]; omega) f0
    have f1 := hxq.frz (by rw [HS0.out]; omega) f1
    obtain ⟨A7, c7, rfl, -, -, -⟩ := o7.shape
    obtain ⟨A8, c8, rfl, -, -, -⟩ := o8.shape
    have hb2 : b1 < w2.heap.size := Nat.lt_of_lt_of_le (by rw [HS0.out]; omega) hsq
    have hww := Nat.le_trans hx.size hsq
    go_wp2
    (try simp only [Exit.inBlock, Exit.then])
    refine bodyPost_ret (by simp [results, Try.results16, go_sem, r0, r1]; try rfl) rfl ?_
    exact ⟨_, _, ret_wb (by rw [HV.out]), by rw [HV.out]; exact (o7.gb2 (gb_set (gb_set (gb_refl _ (some b1)) 0 _) 1 _) hb2).more hww, by rw [HV.out]; exact (o8.gb2 (gb_set (gb_set (gb_refl _ (some b1)) 0 _) 1 _) hb2).more hww, Ext.setCell (p := ⟨b1, 1, none⟩) (Ext.setCell (p := ⟨b1, 0, none⟩) (hx.trans hxq) (by show w.heap.size ≤ b1; omega)) (by show w.heap.size ≤ b1; omega)⟩
end Go.Proofs.Ytfhemddonahjgaa
