import Derived.Test.YtdhmjhoaegdfjaaW3
import Derived.Test.YtdhmjhoaegdfjaaR3
namespace Go.Proofs.Ytdhmjhoaegdfjaa
open Go.RowKit Go.Sort Go.BigFrame

/-- the number of nodes of the window in the box g -/
def wlen (w : World) (g : Nat) : Nat := match w.cell? ⟨g, 0, none⟩ with
  | some (.slice _ n _) => n
  | _ => 0
theorem wlen_eq {w : World} {g : Nat} {t : TypeId} {A : Option Addr} {n c : Nat} {v : Value} (h : Bk w g t [.slice A n c, v]) : wlen w g = n := by
  have : w.cell? ⟨g, 0, none⟩ = some (.slice A n c) := h.cell 0
  unfold wlen
  rw [this]
theorem prn_end {f : Nat} {ns ls : List P2} (h : ns.length ≤ 2 ∨ (vEndNodes ns ls).length = 0) : prn f ns ls = (ns, ls) := by
  cases f with
  | zero => rfl
  | succ f =>
    unfold prn
    by_cases h2 : ns.length ≤ 2
    · rw [if_pos h2]
    · rw [if_neg h2, if_pos (h.resolve_left h2)]
theorem prn_step {ns ls : List P2} {k : Nat} (h2 : 2 < ns.length) (h0 : 0 < (vEndNodes ns ls).length) (e : gi (vEndNodes ns ls) (0 : Nat) = k) (hk : k < ns.length) :
    prn ns.length ns ls = prn (wnN ns (k : Int) ns.length).length (wnN ns (k : Int) ns.length) (wnL ls (k : Int) ls.length) := by
  obtain ⟨f, hf⟩ : ∃ f, ns.length = f + 1 := ⟨ns.length - 1, by omega⟩
  have hl := wnN_length hk
  have hf2 : (wnN ns (k : Int) ns.length).length = f := by omega
  rw [hf2]
  conv => lhs; rw [hf]
  show (if ns.length ≤ 2 then (ns, ls) else if (vEndNodes ns ls).length = 0 then (ns, ls) else prn f (wnN ns (gi (vEndNodes ns ls) (0 : Nat)) ns.length) (wnL ls (gi (vEndNodes ns ls) (0 : Nat)) ls.length)) = _
  rw [if_neg (by omega), if_neg (by omega), e]

set_option maxRecDepth 100000 in
set_option maxHeartbeats 8000000 in
theorem PruneEnds_i (A B : Option Addr) (c d : Nat) (ns ls : List P2) (w : World) (h : Wn w A c B d ns ls) :
    Calls Try.prog 52 #[.agg #[.slice A ns.length c, .slice B ls.length d]] w fun e w' => ∃ v1 v2, e = .returned (.tuple #[.agg #[v1, v2], .bool (vPruneEnds ns ls).2]) ∧ OwP w' w.heap.size 52 v1 (vPruneEnds ns ls).1.1 ∧ OwP w' w.heap.size 67 v2 (vPruneEnds ns ls).1.2 ∧ Ext w w' := by
  have hnl := h.hl
  have hml := h.hm
  go_enter Try.func52, Try.ntmps52
  go_upto_region 1 with fail
  have k0 : ((w.alloc (.cells #[.slice A ns.length c, .slice B ls.length d] 27)).alloc (.cells #[.slice none 0 0, .slice none 0 0] 27)).cell? ⟨w.heap.size, 0, none⟩ = some (.slice A ns.length c) := by go_simp
  have k1 : ((w.alloc (.cells #[.slice A ns.length c, .slice B ls.length d] 27)).alloc (.cells #[.slice none 0 0, .slice none 0 0] 27)).cell? ⟨w.heap.size, 1, none⟩ = some (.slice B ls.length d) := by go_simp
  have r0 : ((w.alloc (.cells #[.slice A ns.length c, .slice B ls.length d] 27)).alloc (.cells #[.slice none 0 0, .slice none 0 0] 27)).cell? ⟨w.heap.size + 1, 0, none⟩ = some (.slice none 0 0) := by go_simp
  have r1 : ((w.alloc (.cells #[.slice A ns.length c, .slice B ls.length d] 27)).alloc (.cells #[.slice none 0 0, .slice none 0 0] 27)).cell? ⟨w.heap.size + 1, 1, none⟩ = some (.slice none 0 0) := by go_simp
  have f0 : ((w.alloc (.cells #[.slice A ns.length c, .slice B ls.length d] 27)).alloc (.cells #[.slice none 0 0, .slice none 0 0] 27)).frozen? ⟨w.heap.size + 1, 0, none⟩ = false := by go_simp
  have f1 : ((w.alloc (.cells #[.slice A ns.length c, .slice B ls.length d] 27)).alloc (.cells #[.slice none 0 0, .slice none 0 0] 27)).frozen? ⟨w.heap.size + 1, 1, none⟩ = false := by go_simp
  have hx : Ext w ((w.alloc (.cells #[.slice A ns.length c, .slice B ls.length d] 27)).alloc (.cells #[.slice none 0 0, .slice none 0 0] 27)) := ((Ext.refl _).alloc _).alloc _
  have hs0 : ((w.alloc (.cells #[.slice A ns.length c, .slice B ls.length d] 27)).alloc (.cells #[.slice none 0 0, .slice none 0 0] 27)).heap.size = w.heap.size + 1 + 1 := by simp
  generalize ((w.alloc (.cells #[.slice A ns.length c, .slice B ls.length d] 27)).alloc (.cells #[.slice none 0 0, .slice none 0 0] 27)) = w0 at *
  generalize hb1 : w.heap.size + 1 = b1 at *
  have HS0 := Lib.hid hs0
  have hb10 : b1 < w0.heap.size := by rw [hs0]; omega
  have hw0 : w.heap.size ≤ w0.heap.size := hx.size
  clear hs0
  go_wp2_with fail
  refine (copy_i_copyWindow _ _ _ _ ns ls _ (h.ext hx)).mono ?_
  rintro e w1 ⟨v1, v2, rfl, oa1, oa2, -, hb⟩
  obtain ⟨A1, c1, rfl, -, -, -⟩ := oa1.shape
  obtain ⟨A2, c2, rfl, -, -, -⟩ := oa2.shape
  go_upto_region 2 with fail
  have bt : Bk (w1.alloc (.cells #[.slice A1 ns.length c1, .slice A2 ls.length c2] 27)) w1.heap.size 27 [.slice A1 ns.length c1, .slice A2 ls.length c2] := Bk.new _ _ rfl
  have hx12 : Ext w1 (w1.alloc (.cells #[.slice A1 ns.length c1, .slice A2 ls.length c2] 27)) := (Ext.refl _).alloc _
  generalize (w1.alloc (.cells #[.slice A1 ns.length c1, .slice A2 ls.length c2] 27)) = w2 at *
  have hg4 := hb.size
  generalize hgs : w1.heap.size = g4 at *
  have o1 := oa1.ext hx12
  have o2 := oa2.ext hx12
  have hx02 := hb.trans hx12
  have HBT := Lib.hid bt
  clear oa1 oa2 bt hx12 hb hgs
  have k0 := hx02.lit k0
  have k1 := hx02.lit k1
  go_wp2_with fail
  refine (IsWhole_i _ _ _ _ ns ls _ (h.ext (hx.trans hx02))).mono ?_
  rintro e w3 ⟨rfl, hb3⟩
  have hx3 := hx02.trans hb3
  have o1 := o1.ext hb3
  have o2 := o2.ext hb3
  have HB3 := Lib.hid (HBT.out.ext hb3)
  clear hx02 hb3 HBT k0 k1
  cases hwh : whole ns ls with
  | false =>
    have HR : Hid (vPruneEnds ns ls = ((ns, ls), false)) := Lib.hid (by unfold vPruneEnds; rw [hwh]; rfl)
    clear hwh
    have r0 := hx3.lit r0
    have r1 := hx3.lit r1
    have f0 := hx3.frz hb10 f0
    have f1 := hx3.frz hb10 f1
    have t0 : w3.cell? ⟨g4, 0, none⟩ = some (.slice A1 ns.length c1) := HB3.out.cell 0
    have t1 : w3.cell? ⟨g4, 1, none⟩ = some (.slice A2 ls.length c2) := HB3.out.cell 1
    go_wp2
    (try simp only [Exit.inBlock, Exit.then])
    refine bodyPost_ret (by simp [results, Try.results52, go_sem, r0, r1]; try rfl) rfl ?_
    exact ⟨_, _, ret_wb (by rw [HR.out]), by rw [HR.out]; exact (o1.gb2 (gb_set (gb_set (gb_refl _ (some b1)) 0 _) 1 _) hb10).more hw0, by rw [HR.out]; exact (o2.gb2 (gb_set (gb_set (gb_refl _ (some b1)) 0 _) 1 _) hb10).more hw0, Ext.setCell (p := ⟨b1, 1, none⟩) (Ext.setCell (p := ⟨b1, 0, none⟩) (hx.trans hx3) (by show w.heap.size ≤ b1; omega)) (by show w.heap.size ≤ b1; omega)⟩
  | true =>
    have HP : Hid (vPruneEnds ns ls = (prn ns.length ns ls, true)) := Lib.hid (by unfold vPruneEnds; rw [hwh]; rfl)
    have HOK : Hid (WOk ns ls) := Lib.hid (by
      have e : whole ns ls = (wok ns ls && decide (0 < ls.length) && decide ((partL ns.length ls 0).length = ns.length)) := rfl
      rw [hwh] at e
      have := e.symm
      simp only [Bool.and_eq_true] at this
      exact wok_iff.1 this.1.1)
    clear hwh
    have HR0 := Lib.hid r0
    have HR1 := Lib.hid r1
    have HF0 := Lib.hid f0
    have HF1 := Lib.hid f1
    clear r0 r1 f0 f1 h
    go_wp2_with fail
    go_loopw [5] (fun _ wr => ∃ (nq lq : List P2) (A1 A2 : Option Addr) (c1 c2 : Nat), Hid (WOk nq lq) ∧ Hid (prn ns.length ns ls = prn nq.length nq lq) ∧ Hid (Bk wr g4 27 [.slice A1 nq.length c1, .slice A2 lq.length c2]) ∧ Hid (OwP wr w0.heap.size 52 (.slice A1 nq.length c1) nq) ∧ Hid (OwP wr w0.heap.size 67 (.slice A2 lq.length c2) lq) ∧ Ext w0 wr) (fun _ wr => wlen wr g4)
    case atStart => exact ⟨ns, ls, A1, A2, c1, c2, HOK, Lib.hid rfl, HB3, Lib.hid o1, Lib.hid o2, hx3⟩
    case round =>
      clear o1 o2 HB3 hx3 HOK
      obtain ⟨nq, lq, A1, A2, c1, c2, HOK, HE, HB, HO1, HO2, hx3⟩ := hrel
      obtain ⟨w4, rfl⟩ : ∃ x : World, x = wr := ⟨_, rfl⟩
      have hn12 := HOK.out.hi
      have hl20 := HOK.out.le
      have t0 : w4.cell? ⟨g4, 0, none⟩ = some (.slice A1 nq.length c1) := HB.out.cell 0
      have t1 : w4.cell? ⟨g4, 1, none⟩ = some (.slice A2 lq.length c2) := HB.out.cell 1
      have HWK := Lib.hid (wn_own HO1.out HO2.out (by omega) (by omega))
      have HBQ := HB
      by_cases h2 : 2 < nq.length
      · have h2i : (2 : Int) < nq.length := by omega
        go_wp2_with fail
        refine (EndNodes_i _ _ _ _ nq lq _ HWK.out).mono ?_
        rintro e w6 ⟨ve, rfl, oe, hb6⟩
        have t0 := hb6.lit t0
        have t1 := hb6.lit t1
        have HWK := Lib.hid (HWK.out.ext hb6)
        have HB6 := Lib.hid (HB.out.ext hb6)
        have HO1 := Lib.hid (HO1.out.ext hb6)
        have HO2 := Lib.hid (HO2.out.ext hb6)
        have hx3 := hx3.trans hb6
        have hel := vEndNodes_len nq lq
        clear hb6 HB
        by_cases he0 : 0 < (vEndNodes nq lq).length
        · obtain ⟨Ae, ce, rfl, -, -, -⟩ := oe.shape
          have q : (((vEndNodes nq lq).length : Int) == 0) = false := by rw [beq_eq_false_iff_ne]; omega
          obtain ⟨k, hk, hkn⟩ := end_lt he0
          have HST := Lib.hid (prn_step h2 he0 hk hkn)
          have HDR := Lib.hid (dnOk_yes HOK.out hkn (by omega))
          have HOK2 := Lib.hid (wok_cut HOK.out hkn (by omega))
          have hlen := wnN_length hkn
          obtain ⟨ge, ce', eve, -, hge, -, xe, -⟩ := oe.at_ he0
          rw [← gi_nat _ _ he0, hk] at xe
          obtain ⟨rfl, rfl⟩ : Ae = some ⟨ge, 0, none⟩ ∧ ce = ce' := by simpa using eve
          clear eve
          have hei : (0 : Int) < (vEndNodes nq lq).length := by omega
          have d0 := cell_regrown t0
          have d1 := cell_regrown t1
          have d2 := cell_regrown xe
          clear hk
          go_wp2_with fail
          refine Fr.rx_open [(true, 0, some 22, 16), (true, 0, some 23, 32), (true, 2, some 24, 8388608), (true, 4, some 25, 16777216), (false, 9, some 26, 37748736), (true, 16, some 21, 67108864), (true, 32, some 27, 2097152), (true, 32, some 28, 2097152), (false, 127, none, 134217744)] 43556142965880123323311949751266331066624 9 mixd rfl (by kernel_rfl) (by kernel_rfl) (by kernel_rfl) ?_
          refine Fr.rx_run (run := [0, 1, 2, 3]) (k := 5) (m' := 15) rfl (by kernel_rfl) (by kernel_rfl) (by kernel_rfl) (fm_cons rfl <| fm_cons rfl <| fm_cons rfl <| fm_cons rfl <| List.filterMap_nil) (by repeat first | exact Ext.refl _ | assumption | refine Ext.drew ?_ | refine Ext.alloc ?_ _ | refine Ext.setCell ?_ (by simp) | refine Ext.setCell ?_ (by simp; omega) | refine Ext.trans ?_ (by assumption)) ?_
          repeat (go_big_quiet_step ((fail)))
          refine wpQuiet_nil ?_
          refine Fr.rx_op 4 (k := 4) (m' := 31) rfl rfl (by kernel_rfl) (by kernel_rfl) ?_
          go_wp2_with ((go_at_call 56; refine (DropNode_i _ _ _ _ nq lq k _ (HWK.out.ext (by repeat first | exact Ext.refl _ | assumption | refine Ext.drew ?_ | refine Ext.alloc ?_ _ | refine Ext.setCell ?_ (by simp) | refine Ext.setCell ?_ (by simp; omega) | refine Ext.trans ?_ (by assumption)))).mono ?_; rw [HDR.out]; rintro e w9 ⟨v7, v8, rfl, o7, o8, hb9⟩; have hx9 : Ext w6 w9 := (by repeat first | exact Ext.refl _ | assumption | refine Ext.drew ?_ | refine Ext.alloc ?_ _ | refine Ext.setCell ?_ (by simp) | refine Ext.setCell ?_ (by simp; omega) | refine Ext.trans ?_ (by assumption)); obtain ⟨A7, c7, rfl, -, -, -⟩ := o7.shape; obtain ⟨A8, c8, rfl, -, -, -⟩ := o8.shape; have t0 := hx9.lit t0; have t1 := hx9.lit t1; have ft0 := (HB6.out.ext hx9).froz 0; have ft1 := (HB6.out.ext hx9).froz 1))
          refine Fr.rx_on (by repeat first | exact Ext.refl _ | assumption | refine Ext.drew ?_ | refine Ext.alloc ?_ _ | refine Ext.setCell ?_ (by simp) | refine Ext.setCell ?_ (by simp; omega) | refine Ext.trans ?_ (by assumption)) ?_
          refine Fr.rx_run (run := [5, 6]) (k := 2) (m' := 127) rfl (by kernel_rfl) (by kernel_rfl) (by kernel_rfl) (fm_cons rfl <| fm_cons rfl <| List.filterMap_nil) (by repeat first | exact Ext.refl _ | assumption | refine Ext.drew ?_ | refine Ext.alloc ?_ _ | refine Ext.setCell ?_ (by simp) | refine Ext.setCell ?_ (by simp; omega) | refine Ext.trans ?_ (by assumption)) ?_
          repeat (go_big_quiet_step ((fail)))
          refine wpQuiet_nil ?_
          refine Fr.rx_free (run := [7]) (k := 1) (m' := 255) rfl (by kernel_rfl) (by kernel_rfl) (fm_cons rfl <| List.filterMap_nil) ?_
          repeat (go_big_quiet_step ((fail)))
          refine wpQuiet_nil ?_
          refine Fr.rx_op 8 (k := 0) (m' := 511) rfl rfl (by kernel_rfl) (by kernel_rfl) ?_
          go_wp2
          refine Fr.rx_lst (by decide) ?_
          refine Fr.rx_end (by kernel_rfl) ?_
          have HX0 := Lib.hid (o7.far (HB6.out.ext hx9) (by decide) 0 (.slice A7 (wnN nq (k : Int) nq.length).length c7))
          have HX1 := Lib.hid (HX0.out.far ((HB6.out.ext hx9).set_ 0 _) (by decide) 1 (.slice A8 (wnL lq (k : Int) lq.length).length c8))
          have HY0 := Lib.hid (o8.far (HB6.out.ext hx9) (by decide) 0 (.slice A7 (wnN nq (k : Int) nq.length).length c7))
          have HY1 := Lib.hid (HY0.out.far ((HB6.out.ext hx9).set_ 0 _) (by decide) 1 (.slice A8 (wnL lq (k : Int) lq.length).length c8))
          have HBX := Lib.hid (((HB6.out.ext hx9).set_ 0 (.slice A7 (wnN nq (k : Int) nq.length).length c7)).set_ 1 (.slice A8 (wnL lq (k : Int) lq.length).length c8))
          have hs6 := (hx3.trans hx9).size
          have hx39 := Ext.setCell (p := ⟨g4, 1, none⟩) (v := .slice A8 (wnL lq (k : Int) lq.length).length c8) (Ext.setCell (p := ⟨g4, 0, none⟩) (v := .slice A7 (wnN nq (k : Int) nq.length).length c7) (hx3.trans hx9) hg4) hg4
          go_wp2
          go_roundw
          case rel => exact ⟨_, _, A7, A8, c7, c8, HOK2, Lib.hid (HE.out.trans HST.out), HBX, Lib.hid (HX1.out.more hx3.size), Lib.hid (HY1.out.more hx3.size), hx39⟩
          case measure => rw [wlen_eq HBX.out, wlen_eq HBQ.out]; omega
        · have he1 : (vEndNodes nq lq).length = 0 := by omega
          obtain ⟨Ae, ce, rfl, -, -, -⟩ := oe.shape
          have HND : Hid (nq.length ≤ 2 ∨ (vEndNodes nq lq).length = 0) := Lib.hid (.inr he1)
          have q : (((vEndNodes nq lq).length : Int) == 0) = true := by rw [beq_iff_eq]; omega
          have HR : Hid (vPruneEnds ns ls = ((nq, lq), true)) := Lib.hid (by rw [HP.out, HE.out, prn_end HND.out])
          have r0 := hx3.lit HR0.out
          have r1 := hx3.lit HR1.out
          have f0 := hx3.frz hb10 HF0.out
          have f1 := hx3.frz hb10 HF1.out
          go_wp2
          (try simp only [Exit.inBlock, Exit.then])
          refine bodyPost_ret (by simp [results, Try.results52, go_sem, r0, r1]; try rfl) rfl ?_
          exact ⟨_, _, ret_wb (by rw [HR.out]), by rw [HR.out]; exact (HO1.out.gb2 (gb_set (gb_set (gb_refl _ (some b1)) 0 _) 1 _) hb10).more hw0, by rw [HR.out]; exact (HO2.out.gb2 (gb_set (gb_set (gb_refl _ (some b1)) 0 _) 1 _) hb10).more hw0, Ext.setCell (p := ⟨b1, 1, none⟩) (Ext.setCell (p := ⟨b1, 0, none⟩) (hx.trans hx3) (by show w.heap.size ≤ b1; omega)) (by show w.heap.size ≤ b1; omega)⟩
      · have HND : Hid (nq.length ≤ 2 ∨ (vEndNodes nq lq).length = 0) := Lib.hid (.inl (by omega))
        have HR : Hid (vPruneEnds ns ls = ((nq, lq), true)) := Lib.hid (by rw [HP.out, HE.out, prn_end HND.out])
        have r0 := hx3.lit HR0.out
        have r1 := hx3.lit HR1.out
        have f0 := hx3.frz hb10 HF0.out
        have f1 := hx3.frz hb10 HF1.out
        go_wp2
        (try simp only [Exit.inBlock, Exit.then])
        refine bodyPost_ret (by simp [results, Try.results52, go_sem, r0, r1]; try rfl) rfl ?_
        exact ⟨_, _, ret_wb (by rw [HR.out]), by rw [HR.out]; exact (HO1.out.gb2 (gb_set (gb_set (gb_refl _ (some b1)) 0 _) 1 _) hb10).more hw0, by rw [HR.out]; exact (HO2.out.gb2 (gb_set (gb_set (gb_refl _ (some b1)) 0 _) 1 _) hb10).more hw0, Ext.setCell (p := ⟨b1, 1, none⟩) (Ext.setCell (p := ⟨b1, 0, none⟩) (hx.trans hx3) (by show w.heap.size ≤ b1; omega)) (by show w.heap.size ≤ b1; omega)⟩
end Go.Proofs.Ytdhmjhoaegdfjaa
