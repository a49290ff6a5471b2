import Derived.Test.YtdhmjhoaegdfjaaGreatS23
namespace Go.Proofs.YtdhmjhoaegdfjaaGreat
open Go.RowKit Go.Sort Go.BigFrame
/-! Any window, whole or not; wishes; what FnWishes draws. -/
set_option maxRecDepth 100000 in
set_option maxHeartbeats 8000000 in
theorem l07Any_s (w : World) (gc : Nat) (h : Cu w gc) :
    Calls Tryz.prog 49 #[.pointer (some ⟨gc, 0, none⟩)] w fun e w' => ∃ A c B d ns ls, e = .returned (.agg #[.slice A (List.length ns) c, .slice B (List.length ls) d]) ∧ WK w' w.heap.size A c B d ns ls ∧ Cu w' gc ∧ Kg gc w w' := by
  have HC := Lib.hid h
  have HGT := Lib.hid h.lt
  clear h
  go_enter Tryz.func49, Tryz.ntmps49
  go_upto_region 1 with fail
  have HR := Lib.hid (Bk.new (w := w) (g := w.heap.size) 27 [.slice none 0 0, .slice none 0 0] rfl)
  have hx := (Ext.refl w).alloc (.cells #[.slice none 0 0, .slice none 0 0] 27)
  change Hid (Bk (w.alloc (.cells #[.slice none 0 0, .slice none 0 0] 27)) w.heap.size 27 [.slice none 0 0, .slice none 0 0]) at HR
  generalize (w.alloc (.cells #[.slice none 0 0, .slice none 0 0] 27)) = wa at *
  replace HC := Lib.hid (HC.out.ext hx)
  have HK := Lib.hid (Kg.of (gc := gc) hx)
  clear hx
  generalize hg2 : w.heap.size = g2 at *
  have HG := Lib.hid hg2
  clear hg2
  go_wp2_with fail
  refine (l01Once_s _ gc HC.out 6 (by omega)).mono ?_
  rintro e w1 ⟨b, rfl, hC, hK⟩
  replace HR := Lib.hid (HC.out.bk hK HR.out (by decide))
  replace HK := Lib.hid (HK.out.trans hK)
  replace HC := Lib.hid hC
  clear hC hK
  have hgl := HR.out.lt
  have hsz1 := HK.out.sz
  cases b with
  | true =>
    go_wp2_with fail
    refine (l04Any_s _ gc HC.out).mono ?_
    rintro e w2 ⟨A, c, B, d, ns, ls, rfl, hw, hC, hK⟩
    replace HR := Lib.hid (HC.out.bk hK HR.out (by decide))
    replace HK := Lib.hid (HK.out.trans hK)
    replace HC := Lib.hid hC
    have HWK := Lib.hid hw
    clear hC hK hw
    have r0 := HR.out.cell 0
    have r1 := HR.out.cell 1
    have f0 := HR.out.froz 0
    have f1 := HR.out.froz 1
    simp only [List.getElem?_cons_zero, List.getElem?_cons_succ] at r0 r1
    go_wp2
    (try simp only [Exit.inBlock, Exit.then])
    refine bodyPost_ret (by simp [results, Tryz.results49, go_sem, r0, r1]; try rfl) rfl ?_
    have hgt : gc < g2 := HGT.out
    exact ⟨_, _, _, _, ns, ls, rfl, ((HWK.out.set hgl 0 _).set hgl 1 _).more hsz1, (HC.out.far hgt 0 _).far hgt 1 _, (HK.out.new (Nat.le_of_eq HG.out) 0 _).new (Nat.le_of_eq HG.out) 1 _⟩
  | false =>
    go_wp2_with fail
    refine (l07Whole_s _ gc HC.out).mono ?_
    rintro e w2 ⟨v1, v2, ns, ls, rfl, o1, o2, hwh, hC, hK⟩
    have hl := wok_len (whole_wok hwh)
    obtain ⟨A, c, rfl, -, -, -⟩ := o1.shape
    obtain ⟨B, d, rfl, -, -, -⟩ := o2.shape
    have hw := WK.own o1 o2 (by omega) (by omega)
    clear o1 o2 hwh
    replace HR := Lib.hid (HC.out.bk hK HR.out (by decide))
    replace HK := Lib.hid (HK.out.trans hK)
    replace HC := Lib.hid hC
    have HWK := Lib.hid hw
    clear hC hK hw
    have r0 := HR.out.cell 0
    have r1 := HR.out.cell 1
    have f0 := HR.out.froz 0
    have f1 := HR.out.froz 1
    simp only [List.getElem?_cons_zero, List.getElem?_cons_succ] at r0 r1
    go_wp2
    (try simp only [Exit.inBlock, Exit.then])
    refine bodyPost_ret (by simp [results, Tryz.results49, go_sem, r0, r1]; try rfl) rfl ?_
    have hgt : gc < g2 := HGT.out
    exact ⟨_, _, _, _, ns, ls, rfl, ((HWK.out.set hgl 0 _).set hgl 1 _).more hsz1, (HC.out.far hgt 0 _).far hgt 1 _, (HK.out.new (Nat.le_of_eq HG.out) 0 _).new (Nat.le_of_eq HG.out) 1 _⟩
end Go.Proofs.YtdhmjhoaegdfjaaGreat
