import Derived.Test.YtdhmjhoaegdfjaaGreatG13
namespace Go.Proofs.YtdhmjhoaegdfjaaGreat
open Go.RowKit Go.Sort Go.BigFrame
/-! The draws of FnWishes: one of a list; any node; any lead. -/
set_option maxRecDepth 100000 in
set_option maxHeartbeats 8000000 in
theorem l01PickInt_s (w : World) (gc : Nat) (h : Cu w gc) (g n : Nat) (xs : List Int) (hn : n = xs.length) (h1 : 1 ≤ xs.length) (h2 : xs.length ≤ 256) (hb : Bk w g 3 (xs.map (Value.int .i64))) :
    Calls Tryz.prog 27 #[.pointer (some ⟨gc, 0, none⟩), .slice (some ⟨g, 0, none⟩) n n] w fun e w' => ∃ x : Int, e = .returned (.int .i64 x) ∧ Cu w' gc ∧ Kg gc w w' := by
  subst hn
  have HB := Lib.hid hb
  have HNE := Lib.hid (h.nebk hb (by decide))
  have HC := Lib.hid h
  clear h hb
  go_enter Tryz.func27, Tryz.ntmps27
  go_wp2_with fail
  refine (l01Below_s _ gc HC.out (xs.length : Int) (by omega)).mono ?_
  rintro e w1 ⟨r, rfl, hr, -, hC, hK⟩
  have hr := hr (by omega)
  have c1 := (hK.bk HB.out HNE.out).cell r
  rw [List.getElem?_map, List.getElem?_eq_getElem (show r < xs.length by omega)] at c1
  generalize xs[r]'(by omega) = x at c1
  change w1.cell? ⟨g, r, none⟩ = some (.int .i64 x) at c1
  go_wp2
  go_ret
  exact ⟨x, rfl, hC, hK⟩
set_option maxRecDepth 100000 in
set_option maxHeartbeats 8000000 in
theorem l02Any_s (w : World) (gc : Nat) (h : Cu w gc) :
    Calls Tryz.prog 86 #[.pointer (some ⟨gc, 0, none⟩)] w fun e w' => ∃ x y : Int, e = .returned (.agg #[.int .i64 x, .int .i64 y]) ∧ Cu w' gc ∧ Kg gc w w' := by
  have HC := Lib.hid (h.ext ((Ext.refl w).alloc (.cells #[.int .i64 0, .int .i64 0] 79)))
  have HB := Lib.hid (Bk.new (w := w) 79 [.int .i64 0, .int .i64 0] rfl)
  have HX := Lib.hid ((Ext.refl w).alloc (.cells #[.int .i64 0, .int .i64 0] 79))
  have HGC := Lib.hid h.lt
  clear h
  go_enter Tryz.func86, Tryz.ntmps86
  go_upto_region 1 with fail
  change Hid (Bk (w.alloc (.cells #[.int .i64 0, .int .i64 0] 79)) w.heap.size 79 [.int .i64 0, .int .i64 0]) at HB
  generalize w.alloc (.cells #[.int .i64 0, .int .i64 0] 79) = w0 at *
  generalize hgq : w.heap.size = g0 at *
  have HG := Lib.hid hgq
  clear hgq
  go_wp2_with fail
  refine (l02Node_s _ gc HC.out).mono ?_
  rintro e w1 ⟨x, y, rfl, hC1, hK1⟩
  go_upto_region 2 with fail
  have hb := (Ext.refl w1).alloc (.cells #[.int .i64 x, .int .i64 y] 79)
  have HT : Hid (Bk (w1.alloc (.cells #[.int .i64 x, .int .i64 y] 79)) w1.heap.size 79 [.int .i64 x, .int .i64 y]) := Lib.hid (Bk.new _ _ rfl)
  have HGT : Hid (gc < w1.heap.size) := Lib.hid hC1.lt
  have HG0 : Hid (g0 ≠ w1.heap.size) := Lib.hid (by have := HB.out.lt; have := hK1.sz; omega)
  have HKT : Hid (w.heap.size ≤ w1.heap.size) := Lib.hid (Nat.le_trans HX.out.size hK1.sz)
  replace HB := Lib.hid ((HC.out.bk hK1 HB.out (by decide)).ext hb)
  replace HC := Lib.hid (hC1.ext hb)
  have HK := Lib.hid (((Kg.of (gc := gc) HX.out).trans hK1).trans (Kg.of hb))
  clear hC1 hK1 hb
  generalize (w1.alloc (.cells #[.int .i64 x, .int .i64 y] 79)) = w2 at *
  generalize w1.heap.size = g3 at *
  go_wp2_with fail
  refine (l01Below_s _ gc HC.out 14 (by omega)).mono ?_
  rintro e w3 ⟨r, rfl, -, -, hC, hK⟩
  replace HB := Lib.hid (HC.out.bk hK HB.out (by decide))
  replace HT := Lib.hid (HC.out.bk hK HT.out (by decide))
  replace HK := Lib.hid (HK.out.trans hK)
  replace HC := Lib.hid hC
  clear hC hK
  by_cases c0 : r = 0
  · subst c0
    have hb := (Ext.refl w3).alloc (.cells #[.int .i64 (-1), .int .i64 0, .int .i64 20, .int .i64 21, .int .i64 9223372036854775807] 3)
    go_wp2_with fail
    refine (l01PickInt_s _ gc (HC.out.ext hb) _ 5 [-1, 0, 20, 21, 9223372036854775807] rfl (by decide) (by decide) (Bk.new 3 ([-1, 0, 20, 21, 9223372036854775807].map (Value.int .i64)) rfl)).mono ?_
    rintro e w4 ⟨z, rfl, hC, hK⟩
    replace HB := Lib.hid ((HC.out.ext hb).bk hK (HB.out.ext hb) (by decide))
    replace HT := Lib.hid ((HC.out.ext hb).bk hK (HT.out.ext hb) (by decide))
    replace HK := Lib.hid (HK.out.trans ((Kg.of hb).trans hK))
    replace HC := Lib.hid hC
    clear hC hK hb
    have t0 := HT.out.cell 0
    have t1 := HT.out.cell 1
    have f0 := HT.out.froz 0
    have f1 := HT.out.froz 1
    simp only [List.getElem?_cons_zero, List.getElem?_cons_succ] at t0 t1
    go_upto_region 7 with fail
    replace HB := Lib.hid (HB.out.far (p := ⟨g3, 0, none⟩) HG0.out (.int .i64 z))
    replace HK := Lib.hid (HK.out.new (g := g3) HKT.out 0 (.int .i64 z))
    replace HC := Lib.hid (HC.out.far HGT.out 0 (.int .i64 z))
    replace HT := Lib.hid (HT.out.set_ 0 (.int .i64 z))
    simp only [List.set_cons_zero] at HT
    clear t0 t1 f0 f1
    have r0 := HB.out.cell 0
    have r1 := HB.out.cell 1
    have f0 := HB.out.froz 0
    have f1 := HB.out.froz 1
    have t0 := HT.out.cell 0
    have t1 := HT.out.cell 1
    have HB3 := Lib.hid ((HB.out.set_ 0 (.int .i64 z)).set_ 1 (.int .i64 y))
    have q0 := HB3.out.cell 0
    have q1 := HB3.out.cell 1
    simp only [List.set_cons_zero, List.set_cons_succ, List.getElem?_cons_zero, List.getElem?_cons_succ] at r0 r1 q0 q1 t0 t1
    go_wp2
    (try simp only [Exit.inBlock, Exit.then])
    refine bodyPost_ret (by simp [results, Tryz.results86, go_sem, q0, q1]; try rfl) rfl ?_
    have hlt : gc < g0 := HGC.out
    exact ⟨z, y, rfl, (HC.out.far hlt 0 _).far hlt 1 _, (HK.out.new (by rw [HG.out]; exact Nat.le_refl _) 0 _).new (by rw [HG.out]; exact Nat.le_refl _) 1 _⟩
  · have e0 : ((r : Int) == 0) = false := by rw [beq_eq_false_iff_ne]; omega
    by_cases c1 : r = 1
    · subst c1
      have hb := (Ext.refl w3).alloc (.cells #[.int .i64 (-1), .int .i64 0, .int .i64 20, .int .i64 21, .int .i64 (-9223372036854775808)] 3)
      go_wp2_with fail
      refine (l01PickInt_s _ gc (HC.out.ext hb) _ 5 [-1, 0, 20, 21, -9223372036854775808] rfl (by decide) (by decide) (Bk.new 3 ([-1, 0, 20, 21, -9223372036854775808].map (Value.int .i64)) rfl)).mono ?_
      rintro e w4 ⟨z, rfl, hC, hK⟩
      replace HB := Lib.hid ((HC.out.ext hb).bk hK (HB.out.ext hb) (by decide))
      replace HT := Lib.hid ((HC.out.ext hb).bk hK (HT.out.ext hb) (by decide))
      replace HK := Lib.hid (HK.out.trans ((Kg.of hb).trans hK))
      replace HC := Lib.hid hC
      clear hC hK hb
      have t0 := HT.out.cell 0
      have t1 := HT.out.cell 1
      have f0 := HT.out.froz 0
      have f1 := HT.out.froz 1
      simp only [List.getElem?_cons_zero, List.getElem?_cons_succ] at t0 t1
      go_upto_region 7 with fail
      replace HB := Lib.hid (HB.out.far (p := ⟨g3, 1, none⟩) HG0.out (.int .i64 z))
      replace HK := Lib.hid (HK.out.new (g := g3) HKT.out 1 (.int .i64 z))
      replace HC := Lib.hid (HC.out.far HGT.out 1 (.int .i64 z))
      replace HT := Lib.hid (HT.out.set_ 1 (.int .i64 z))
      simp only [List.set_cons_zero, List.set_cons_succ] at HT
      clear t0 t1 f0 f1
      have r0 := HB.out.cell 0
      have r1 := HB.out.cell 1
      have f0 := HB.out.froz 0
      have f1 := HB.out.froz 1
      have t0 := HT.out.cell 0
      have t1 := HT.out.cell 1
      have HB3 := Lib.hid ((HB.out.set_ 0 (.int .i64 x)).set_ 1 (.int .i64 z))
      have q0 := HB3.out.cell 0
      have q1 := HB3.out.cell 1
      simp only [List.set_cons_zero, List.set_cons_succ, List.getElem?_cons_zero, List.getElem?_cons_succ] at r0 r1 q0 q1 t0 t1
      go_wp2
      (try simp only [Exit.inBlock, Exit.then])
      refine bodyPost_ret (by simp [results, Tryz.results86, go_sem, q0, q1]; try rfl) rfl ?_
      have hlt : gc < g0 := HGC.out
      exact ⟨x, z, rfl, (HC.out.far hlt 0 _).far hlt 1 _, (HK.out.new (by rw [HG.out]; exact Nat.le_refl _) 0 _).new (by rw [HG.out]; exact Nat.le_refl _) 1 _⟩
    · have e1 : ((r : Int) == 1) = false := by rw [beq_eq_false_iff_ne]; omega
      have r0 := HB.out.cell 0
      have r1 := HB.out.cell 1
      have f0 := HB.out.froz 0
      have f1 := HB.out.froz 1
      have t0 := HT.out.cell 0
      have t1 := HT.out.cell 1
      have HB3 := Lib.hid ((HB.out.set_ 0 (.int .i64 x)).set_ 1 (.int .i64 y))
      have q0 := HB3.out.cell 0
      have q1 := HB3.out.cell 1
      simp only [List.set_cons_zero, List.set_cons_succ, List.getElem?_cons_zero, List.getElem?_cons_succ] at r0 r1 q0 q1 t0 t1
      go_wp2
      (try simp only [Exit.inBlock, Exit.then])
      refine bodyPost_ret (by simp [results, Tryz.results86, go_sem, q0, q1]; try rfl) rfl ?_
      have hlt : gc < g0 := HGC.out
      exact ⟨x, y, rfl, (HC.out.far hlt 0 _).far hlt 1 _, (HK.out.new (by rw [HG.out]; exact Nat.le_refl _) 0 _).new (by rw [HG.out]; exact Nat.le_refl _) 1 _⟩
set_option maxRecDepth 100000 in
set_option maxHeartbeats 8000000 in
theorem l03Lead_s (w : World) (gc : Nat) (h : Cu w gc) (nn : Int) (h256 : nn ≤ 256) :
    Calls Tryz.prog 87 #[.pointer (some ⟨gc, 0, none⟩), .int .i64 nn] w fun e w' => ∃ x y : Int, e = .returned (.agg #[.int .i64 x, .int .i64 y]) ∧ Cu w' gc ∧ Kg gc w w' := by
  have HC := Lib.hid (h.ext ((Ext.refl w).alloc (.cells #[.int .i64 0, .int .i64 0] 81)))
  have HB := Lib.hid (Bk.new (w := w) 81 [.int .i64 0, .int .i64 0] rfl)
  have HX := Lib.hid ((Ext.refl w).alloc (.cells #[.int .i64 0, .int .i64 0] 81))
  have HGC := Lib.hid h.lt
  clear h
  go_enter Tryz.func87, Tryz.ntmps87
  go_upto_region 1 with fail
  change Hid (Bk (w.alloc (.cells #[.int .i64 0, .int .i64 0] 81)) w.heap.size 81 [.int .i64 0, .int .i64 0]) at HB
  generalize w.alloc (.cells #[.int .i64 0, .int .i64 0] 81) = w0 at *
  generalize hgq : w.heap.size = g0 at *
  have HG := Lib.hid hgq
  clear hgq
  go_wp2_with fail
  refine (l01Below_s _ gc HC.out nn h256).mono ?_
  rintro e w1 ⟨x, rfl, -, -, hC1, hK1⟩
  have HB1 := Lib.hid (HC.out.bk hK1 HB.out (by decide))
  go_wp2_with fail
  refine (l01Below_s _ gc hC1 nn h256).mono ?_
  rintro e w2 ⟨y, rfl, -, -, hC2, hK2⟩
  have HB2 := Lib.hid (hC1.bk hK2 HB1.out (by decide))
  have r0 := HB2.out.cell 0
  have r1 := HB2.out.cell 1
  have f0 := HB2.out.froz 0
  have f1 := HB2.out.froz 1
  have HB3 := Lib.hid ((HB2.out.set_ 0 (.int .i64 (imin (x : Int) (y : Int)))).set_ 1 (.int .i64 (imax (x : Int) (y : Int))))
  have q0 := HB3.out.cell 0
  have q1 := HB3.out.cell 1
  simp only [List.set_cons_zero, List.set_cons_succ, List.getElem?_cons_zero, List.getElem?_cons_succ] at r0 r1 q0 q1
  go_wp2
  (try simp only [Exit.inBlock, Exit.then])
  refine bodyPost_ret (by simp [results, Tryz.results87, go_sem, q0, q1]; try rfl) rfl ?_
  have hlt : gc < g0 := HGC.out
  exact ⟨imin (x : Int) (y : Int), imax (x : Int) (y : Int), rfl, (hC2.far hlt 0 _).far hlt 1 _, (((Kg.of HX.out).trans (hK1.trans hK2)).new (by rw [HG.out]; exact Nat.le_refl _) 0 _).new (by rw [HG.out]; exact Nat.le_refl _) 1 _⟩
/-! A window whose rows lie in blocks from B0 on. -/
structure WK (w : World) (B0 : Nat) (A : Option Addr) (c : Nat) (B : Option Addr) (d : Nat) (ns ls : List P2) : Prop where
  wn : Wn w A c B d ns ls
  na : ∀ b off, A = some ⟨b, off, none⟩ → 0 < ns.length → B0 ≤ b
  nb : ∀ b off, B = some ⟨b, off, none⟩ → 0 < ls.length → B0 ≤ b
theorem Kg.pr {gc : Nat} {w w' : World} (k : Kg gc w w') {A : Option Addr} {l : List P2} (h : Pr w w.heap.size A l) (hn : ∀ b off, A = some ⟨b, off, none⟩ → 0 < l.length → b ≠ gc) : Pr w' w'.heap.size A l := by
  refine ⟨h.1, fun hp => ?_⟩
  obtain ⟨b, off, e, hlt, hc⟩ := h.2 hp
  refine ⟨b, off, e, Nat.lt_of_lt_of_le hlt k.sz, fun j u hu => ?_⟩
  rw [← hc j u hu]
  have hbb : w'.heap[b]? = w.heap[b]? := k.bl b hlt (hn b off e hp)
  unfold World.cell?
  simp only [hbb]
section
variable {w w' : World} {B0 g : Nat} {A B : Option Addr} {c d : Nat} {ns ls : List P2}
theorem WK.kg (h : WK w B0 A c B d ns ls) (k : Kg g w w') (hg : g < B0) : WK w' B0 A c B d ns ls :=
  ⟨⟨h.wn.hl, h.wn.hm, h.wn.hc, h.wn.hd, h.wn.hcm, h.wn.hdm, k.pr h.wn.h (fun b off e hp => by have := h.na b off e hp; omega), k.pr h.wn.g (fun b off e hp => by have := h.nb b off e hp; omega)⟩, h.na, h.nb⟩
theorem WK.ext (h : WK w B0 A c B d ns ls) (hx : Ext w w') : WK w' B0 A c B d ns ls := ⟨h.wn.ext hx, h.na, h.nb⟩
theorem WK.set (h : WK w B0 A c B d ns ls) (hg : g < B0) (i : Nat) (v : Value) : WK (w.setCell ⟨g, i, none⟩ v) B0 A c B d ns ls := h.kg ((Kg.refl g w).set i v) hg
theorem WK.more {B1 : Nat} (h : WK w B0 A c B d ns ls) (hB : B1 ≤ B0) : WK w B1 A c B d ns ls :=
  ⟨h.wn, fun b off e hp => Nat.le_trans hB (h.na b off e hp), fun b off e hp => Nat.le_trans hB (h.nb b off e hp)⟩
theorem WK.own {n m : Nat} (h1 : OwP w B0 79 (.slice A n c) ns) (h2 : OwP w B0 81 (.slice B m d) ls) (hl : ns.length ≤ 2000000) (hm : ls.length ≤ 2000000) : WK w B0 A c B d ns ls := by
  refine ⟨wn_own h1 h2 hl hm, fun b off e hp => ?_, fun b off e hp => ?_⟩
  · obtain ⟨g, c', e', _, hg, _⟩ := OwP.at_ h1 hp
    injection e' with e1 e2 e3
    rw [e] at e1
    injection e1 with e1
    injection e1 with e1
    omega
  · obtain ⟨g, c', e', _, hg, _⟩ := OwP.at_ h2 hp
    injection e' with e1 e2 e3
    rw [e] at e1
    injection e1 with e1
    injection e1 with e1
    omega
end
end Go.Proofs.YtdhmjhoaegdfjaaGreat
