import Derived.Test.YtdhmjhoaegdfjaaGreatS22
namespace Go.Proofs.YtdhmjhoaegdfjaaGreat
open Go.RowKit Go.Sort Go.BigFrame
/-! Any window, as the draws make it (in box g3 of the call's own), with the cursor gc. -/
structure LA (w0 w : World) (gc g2 g3 : Nat) (v1 v2 : Value) (ns ls : List P2) : Prop where
  cu : Cu w gc
  kg : Kg gc w0 w
  b2 : Bk w g2 27 [.slice none 0 0, .slice none 0 0]
  b3 : Bk w g3 27 [v1, v2]
  o1 : OwP w w0.heap.size 79 v1 ns
  o2 : OwP w w0.heap.size 81 v2 ls
  hn : ns.length ≤ 1000
  hm : ls.length ≤ 1000
  l2 : w0.heap.size ≤ g2
  l3 : w0.heap.size ≤ g3
  ne : g2 ≠ g3
  gt : gc < w0.heap.size
section
variable {w0 w w' : World} {gc g2 g3 : Nat} {v1 v2 : Value} {ns ls : List P2}
theorem LA.go (h : LA w0 w gc g2 g3 v1 v2 ns ls) (hC : Cu w' gc) (k : Kg gc w w') : LA w0 w' gc g2 g3 v1 v2 ns ls :=
  ⟨hC, h.kg.trans k, h.cu.bk k h.b2 (by decide), h.cu.bk k h.b3 (by decide), h.cu.keep k h.o1 (by decide), h.cu.keep k h.o2 (by decide), h.hn, h.hm, h.l2, h.l3, h.ne, h.gt⟩
theorem LA.ext (h : LA w0 w gc g2 g3 v1 v2 ns ls) (hx : Ext w w') : LA w0 w' gc g2 g3 v1 v2 ns ls := h.go (h.cu.ext hx) (Kg.of hx)
theorem LA.box (h : LA w0 w gc g2 g3 v1 v2 ns ls) : ∃ q : WB (BoxF g3 v1 v2), w = q.wd := WB.of ⟨h.b3.cell 0, h.b3.cell 1⟩
theorem LA.ne' (h : LA w0 w gc g2 g3 v1 v2 ns ls) : Nonempty (WB (BoxF g3 v1 v2)) := ⟨⟨w, h.b3.cell 0, h.b3.cell 1⟩⟩
/-- a node is put -/
theorem LA.node {g c n : Nat} (h : LA w0 w gc g2 g3 (.slice (some ⟨g, 0, none⟩) n c) v2 ns ls) (hn : n = ns.length) {j : Nat} (hj : j < ns.length) (x y : Int) :
    LA w0 ((w.setCell ⟨g, j * 2, none⟩ (.int .i64 x)).setCell ⟨g, j * 2 + 1, none⟩ (.int .i64 y)) gc g2 g3 (.slice (some ⟨g, 0, none⟩) n c) v2 (ns.set j (x, y)) ls := by
  have hg : w0.heap.size ≤ g := (World.ownsRow.lt h.o1 g rfl).1
  have hgt : gc < g := Nat.lt_of_lt_of_le h.gt hg
  have n2 : g2 ≠ g := fun e => OwP.nebk h.o1 h.b2 (by decide) (by rw [e]; rfl)
  have n3 : g3 ≠ g := fun e => OwP.nebk h.o1 h.b3 (by decide) (by rw [e]; rfl)
  have d : ∀ q, v2.ownBlock = some q → (some g : Option Nat) ≠ some q := fun q e1 e2 => by
    injection e2 with e2
    subst e2
    exact OwP.dj h.o1 h.o2 (by decide) g rfl e1
  exact ⟨(h.cu.far hgt _ _).far hgt _ _, (h.kg.new hg _ _).new hg _ _, (h.b2.far n2 _).far n2 _, (h.b3.far n3 _).far n3 _, h.o1.set_ hn hj x y,
    OwP.gb (OwP.gb h.o2 (gb_set (gb_refl _ (some g)) _ _) d) (gb_set (gb_refl _ (some g)) _ _) d, by rw [List.length_set]; exact h.hn, h.hm, h.l2, h.l3, h.ne, h.gt⟩
/-- what an append does to the rest -/
theorem LA.grow (h : LA w0 w gc g2 g3 v1 v2 ns ls) {r : Option Nat} (k : w.grownBy w' r) (hr : ∀ q, r = some q → w0.heap.size ≤ q ∧ q ≠ g2 ∧ q ≠ g3)
    (he : ∀ W, Ext W w → W.heap.size ≤ w0.heap.size → Ext W w') : Cu w' gc ∧ Kg gc w0 w' ∧ Bk w' g2 27 [.slice none 0 0, .slice none 0 0] ∧ Bk w' g3 27 [v1, v2] := by
  have hgc := h.cu
  refine ⟨?_, ⟨Nat.le_trans h.kg.sz k.size, fun b hb hne => (k.block b (Nat.lt_of_lt_of_le hb h.kg.sz) fun e => ?_).trans (h.kg.bl b hb hne), fun W hW hWg => he W (h.kg.ex W hW hWg) (by have := hW.size; have := h.gt; omega)⟩, gb_bk h.b2 k fun e => (hr _ e).2.1 rfl, gb_bk h.b3 k fun e => (hr _ e).2.2 rfl⟩
  · obtain ⟨A, n, c, i, hh, q1, q2, q3, hb, xs, hs⟩ := hgc.bx
    have hlt := hb.lt
    have hgt := h.gt
    refine ⟨A, n, c, i, hh, q1, q2, q3, gb_bk hb k fun e => by have := (hr _ e).1; omega, xs, hs.1, fun hn => ?_⟩
    obtain ⟨b, off, e, hbl, hcs⟩ := hs.2 hn
    refine ⟨b, off, e, hbl, fun j u hu => ?_⟩
    rw [← hcs j u hu]
    have hbb : w'.heap[b]? = w.heap[b]? := k.block b (by omega) fun e => by have := (hr b e.symm).1; omega
    unfold World.cell?
    simp only [hbb]
  · have := (hr b e.symm).1; omega
/-- a lead more -/
theorem LA.lead (h : LA w0 w gc g2 g3 v1 v2 ns ls) {r : Option Nat} {v : Value} {ks : List P2} (k : w.grownBy w' r) (hr : ∀ q, r = some q → v2.ownBlock = some q) (he : ∀ W, Ext W w → W.heap.size ≤ w0.heap.size → Ext W w')
    (o : OwP w' w0.heap.size 81 v ks) (hm : ks.length ≤ 1000) : LA w0 (w'.setCell ⟨g3, 1, none⟩ v) gc g2 g3 v1 v ns ks := by
  have hq : ∀ q, r = some q → w0.heap.size ≤ q ∧ q ≠ g2 ∧ q ≠ g3 := fun q e => ⟨(World.ownsRow.lt h.o2 q (hr q e)).1, fun e2 => OwP.nebk h.o2 h.b2 (by decide) (by rw [hr q e, e2]), fun e2 => OwP.nebk h.o2 h.b3 (by decide) (by rw [hr q e, e2])⟩
  obtain ⟨a1, a2, a3, a4⟩ := h.grow k hq he
  have hgt : gc < g3 := Nat.lt_of_lt_of_le h.gt h.l3
  have o1' : OwP w' w0.heap.size 79 v1 ns := OwP.gb h.o1 k fun q e1 e2 => OwP.dj h.o1 h.o2 (by decide) q e1 (hr q e2)
  exact ⟨a1.far hgt _ _, a2.new h.l3 _ _, a3.far (by show g2 ≠ g3; exact h.ne) _, a4.set_ 1 v, OwP.far o1' a4 (by decide) _ _, OwP.far o a4 (by decide) _ _, h.hn, hm, h.l2, h.l3, h.ne, h.gt⟩
/-- a node more -/
theorem LA.more (h : LA w0 w gc g2 g3 v1 v2 ns ls) {r : Option Nat} {v : Value} {ms : List P2} (k : w.grownBy w' r) (hr : ∀ q, r = some q → v1.ownBlock = some q) (he : ∀ W, Ext W w → W.heap.size ≤ w0.heap.size → Ext W w')
    (o : OwP w' w0.heap.size 79 v ms) (hm : ms.length ≤ 1000) : LA w0 (w'.setCell ⟨g3, 0, none⟩ v) gc g2 g3 v v2 ms ls := by
  have hq : ∀ q, r = some q → w0.heap.size ≤ q ∧ q ≠ g2 ∧ q ≠ g3 := fun q e => ⟨(World.ownsRow.lt h.o1 q (hr q e)).1, fun e2 => OwP.nebk h.o1 h.b2 (by decide) (by rw [hr q e, e2]), fun e2 => OwP.nebk h.o1 h.b3 (by decide) (by rw [hr q e, e2])⟩
  obtain ⟨a1, a2, a3, a4⟩ := h.grow k hq he
  have hgt : gc < g3 := Nat.lt_of_lt_of_le h.gt h.l3
  have o2' : OwP w' w0.heap.size 81 v2 ls := OwP.gb h.o2 k fun q e1 e2 => OwP.dj h.o1 h.o2 (by decide) q (hr q e2) e1
  exact ⟨a1.far hgt _ _, a2.new h.l3 _ _, a3.far (by show g2 ≠ g3; exact h.ne) _, a4.set_ 0 v, OwP.far o a4 (by decide) _ _, OwP.far o2' a4 (by decide) _ _, hm, h.hm, h.l2, h.l3, h.ne, h.gt⟩
/-- the end: the window is put into the result's box -/
theorem LA.fin {A B : Option Addr} {c d n m : Nat} (h : LA w0 w gc g2 g3 (.slice A n c) (.slice B m d) ns ls) (u1 u2 : Value) : WK ((w.setCell ⟨g2, 0, none⟩ u1).setCell ⟨g2, 1, none⟩ u2) w0.heap.size A c B d ns ls ∧
    Cu ((w.setCell ⟨g2, 0, none⟩ u1).setCell ⟨g2, 1, none⟩ u2) gc ∧ Kg gc w0 ((w.setCell ⟨g2, 0, none⟩ u1).setCell ⟨g2, 1, none⟩ u2) := by
  have hgt : gc < g2 := Nat.lt_of_lt_of_le h.gt h.l2
  have hC : Cu ((w.setCell ⟨g2, 0, none⟩ u1).setCell ⟨g2, 1, none⟩ u2) gc := (h.cu.far hgt 0 _).far hgt 1 _
  have hl := h.hn
  have hm := h.hm
  exact ⟨WK.own ((OwP.far h.o1 h.b2 (by decide) 0 _).far (h.b2.set_ 0 _) (by decide) 1 _) ((OwP.far h.o2 h.b2 (by decide) 0 _).far (h.b2.set_ 0 _) (by decide) 1 _) (by omega) (by omega), hC, (h.kg.new h.l2 0 _).new h.l2 1 _⟩
/-- the first node is cut off -/
theorem LA.cut {g n m c d : Nat} {B : Option Addr} (h : LA w0 w gc g2 g3 (.slice (some ⟨g, 0, none⟩) n c) (.slice B m d) ns ls) (h1 : 1 ≤ ns.length) (u u1 u2 : Value) :
    WK (((w.setCell ⟨g3, 0, none⟩ u).setCell ⟨g2, 0, none⟩ u1).setCell ⟨g2, 1, none⟩ u2) w0.heap.size (if c = 1 then some ⟨g, 0, none⟩ else some ⟨g, 2, none⟩) (c - 1) B d (ns.drop 1) ls ∧
    Cu (((w.setCell ⟨g3, 0, none⟩ u).setCell ⟨g2, 0, none⟩ u1).setCell ⟨g2, 1, none⟩ u2) gc ∧ Kg gc w0 (((w.setCell ⟨g3, 0, none⟩ u).setCell ⟨g2, 0, none⟩ u1).setCell ⟨g2, 1, none⟩ u2) := by
  have hgt2 : gc < g2 := Nat.lt_of_lt_of_le h.gt h.l2
  have hgt3 : gc < g3 := Nat.lt_of_lt_of_le h.gt h.l3
  have hg : w0.heap.size ≤ g := (World.ownsRow.lt h.o1 g rfl).1
  have hgg := h.gt
  have hl := h.hn
  have hm := h.hm
  have b2' := h.b2.far (p := ⟨g3, 0, none⟩) (by show g2 ≠ g3; exact h.ne) u
  have o1' := OwP.far (OwP.far (OwP.far h.o1 h.b3 (by decide) 0 u) b2' (by decide) 0 u1) (b2'.set_ 0 u1) (by decide) 1 u2
  have o2' := OwP.far (OwP.far (OwP.far h.o2 h.b3 (by decide) 0 u) b2' (by decide) 0 u1) (b2'.set_ 0 u1) (by decide) 1 u2
  have hC := ((h.cu.far hgt3 0 u).far hgt2 0 u1).far hgt2 1 u2
  have hw := WK.own o1' o2' (by omega) (by omega)
  have hp := pr_tail (sz := 2) hw.wn.h rfl h1 hw.wn.hc
  have e : ((some (⟨g, 0, none⟩ : Addr)).map (·.add (1 * 2))) = some ⟨g, 2, none⟩ := by
    show some (Addr.add _ _) = _
    unfold Addr.add
    split
    · rename_i q; cases q
    · rfl
  rw [e] at hp
  have q1 := hw.wn.hc
  have q2 := hw.wn.hcm
  refine ⟨⟨⟨by rw [List.length_drop]; omega, hw.wn.hm, by rw [List.length_drop]; omega, hw.wn.hd, by omega, hw.wn.hdm, hp, hw.wn.g⟩, fun b off e2 _ => ?_, hw.nb⟩, hC, ((h.kg.new h.l3 0 u).new h.l2 0 u1).new h.l2 1 u2⟩
  split at e2
  · injection e2 with e2; injection e2 with e2; omega
  · injection e2 with e2; injection e2 with e2; omega
end
def lenAt (g : Nat) (w : World) : Nat := match w.cell? ⟨g, 0, none⟩ with
  | some (.slice _ n _) => 14 - n
  | _ => 0
set_option maxRecDepth 100000 in
set_option maxHeartbeats 8000000 in
theorem l04Any_s (w : World) (gc : Nat) (h : Cu w gc) :
    Calls Tryz.prog 67 #[.pointer (some ⟨gc, 0, none⟩)] w fun e w' => ∃ A c B d ns ls, e = .returned (.agg #[.slice A (List.length ns) c, .slice B (List.length ls) d]) ∧ WK w' w.heap.size A c B d ns ls ∧ Cu w' gc ∧ Kg gc w w' := by
  have HC := Lib.hid h
  have HGT := Lib.hid h.lt
  clear h
  go_enter Tryz.func67, Tryz.ntmps67
  go_upto_region 1 with fail
  have HR := Lib.hid (Bk.new (w := w) (g := w.heap.size) 27 [.slice none 0 0, .slice none 0 0] rfl)
  have hx := (Ext.refl w).alloc (.cells #[.slice none 0 0, .slice none 0 0] 27)
  change Hid (Bk (w.alloc (.cells #[.slice none 0 0, .slice none 0 0] 27)) w.heap.size 27 [.slice none 0 0, .slice none 0 0]) at HR
  generalize (w.alloc (.cells #[.slice none 0 0, .slice none 0 0] 27)) = wa at *
  replace HC := Lib.hid (HC.out.ext hx)
  have HK := Lib.hid (Kg.of (gc := gc) hx)
  clear hx
  generalize hg2 : w.heap.size = g2 at *
  have HG := Lib.hid hg2
  clear hg2
  go_wp2_with fail
  refine (l04Window_s _ gc HC.out).mono ?_
  rintro e w1 ⟨v1, v2, ns, ls, rfl, o1, o2, hok, hC, hK⟩
  have hl := wok_len hok
  have HL0 : Hid (∀ g3, w1.heap.size = g3 → LA w (w1.alloc (.cells #[v1, v2] 27)) gc g2 g3 v1 v2 ns ls) := Lib.hid (fun g3 hg3 => by
    have hb2 := (Ext.refl w1).alloc (.cells #[v1, v2] 27)
    have hsz := HK.out.sz
    have hszK := hK.sz
    have hlt := HR.out.lt
    have h2 := HC.out.bk hK HR.out (by decide)
    exact ⟨hC.ext hb2, HK.out.trans (hK.trans (Kg.of hb2)), h2.ext hb2, Bk.new _ _ hg3.symm, ow_more (o1.ext2 hb2) hsz, ow_more (o2.ext2 hb2) hsz, by omega, by omega, Nat.le_of_eq HG.out, by omega, by have := h2.lt; omega, by rw [HG.out]; exact HGT.out⟩)
  obtain ⟨A1, c1, rfl, -, -, -⟩ := o1.shape
  obtain ⟨A2, c2, rfl, -, -, -⟩ := o2.shape
  clear o1 o2 hC hK HR HC HK hok
  go_upto_region 2 with fail
  have HL := Lib.hid (HL0.out w1.heap.size rfl)
  clear HL0
  generalize (w1.alloc (.cells #[.slice A1 ns.length c1, .slice A2 ls.length c2] 27)) = w2 at *
  generalize w1.heap.size = g3 at *
  go_wp2_with fail
  refine (l01Below_s _ gc HL.out.cu 12 (by omega)).mono ?_
  rintro e w3 ⟨r, rfl, -, -, hC, hK⟩
  have HL := Lib.hid (HL.out.go hC hK)
  clear hC hK
  have hns1 : 1 ≤ ns.length := hl.1
  obtain ⟨gN, cN, e1, -, -, -, -, -, -, -⟩ := OwP.at_ HL.out.o1 (show 0 < ns.length by omega)
  obtain ⟨rfl, rfl⟩ : A1 = some ⟨gN, 0, none⟩ ∧ c1 = cN := by simpa using e1
  clear e1
  by_cases c0 : r = 0
  · subst c0
    go_upto_region 4 with fail
    have e0 := BoxF.c0 (g := g3) (v1 := .slice (some ⟨gN, 0, none⟩) ns.length c1) (v2 := .slice A2 ls.length c2)
    have e1 := BoxF.c1 (g := g3) (v1 := .slice (some ⟨gN, 0, none⟩) ns.length c1) (v2 := .slice A2 ls.length c2)
    have HL := Lib.hid (HL.out.ext ((Ext.refl w3).drew))
    have hne := HL.out.ne'
    have hni : (0 : Int) < ns.length := by omega
    refine rs_open (fun w' => ∃ q : WB (BoxF g3 (.slice (some ⟨gN, 0, none⟩) ns.length c1) (.slice A2 ls.length c2)), w' = q.wd) [(true, 0, some 10, 8), (true, 1, some 11, 1024), (true, 0, some 12, 1), (true, 0, some 13, 8), (true, 8, some 14, 8192), (true, 16, some 15, 16384), (false, 36, some 16, 36864), (true, 0, some 17, 1), (false, 192, some 18, 131072), (true, 511, some 19, 67584), (false, 1023, none, 786432)] 1024 11 mixd rfl (by kernel_rfl) (by kernel_rfl) (by kernel_rfl) ?_
    have hS := HL.out.box
    refine rs_run (run := [0, 1, 2, 3, 4, 5, 7]) (k := 4) (m' := 191) rfl (by kernel_rfl) (by kernel_rfl) (by kernel_rfl) (fm_cons rfl <| fm_cons rfl <| fm_cons rfl <| fm_cons rfl <| fm_cons rfl <| fm_cons rfl <| fm_cons rfl <| List.filterMap_nil) hS ?_
    repeat (go_big_quiet_step ((fail)))
    refine wpQuiet_nil ?_
    refine rs_op 6 (k := 3) (m' := 255) rfl rfl (by kernel_rfl) (by kernel_rfl) ?_
    go_wp2_with (go_at_call 51; refine (l01Below_s _ gc HL.out.cu _ (by omega)).mono ?_; rintro e w4 ⟨rr, rfl, hrr, -, hC, hK⟩; have HL := Lib.hid (HL.out.go hC hK); have hrr := hrr (by omega); have hrn : rr < ns.length := (by omega); clear hC hK hS; have hS := HL.out.box; obtain ⟨gq, cq, eq1, -, -, -, n1, n2, n3, n4⟩ := OwP.at_ HL.out.o1 hrn; obtain ⟨rfl, rfl⟩ : gN = gq ∧ c1 = cq := (by simpa using eq1))
    refine rs_on hS ?_
    refine rs_op 8 (k := 2) (m' := 511) rfl rfl (by kernel_rfl) (by kernel_rfl) ?_
    go_wp2_with (go_at_call 86; refine (l02Any_s _ gc HL.out.cu).mono ?_; rintro e w5 ⟨x, y, rfl, hC, hK⟩; have HL := Lib.hid (HL.out.go hC hK); clear hC hK hS; have hS := HL.out.box; clear n1 n2 n3 n4; obtain ⟨gq, cq, eq2, -, -, -, n1, n2, n3, n4⟩ := OwP.at_ HL.out.o1 hrn; obtain ⟨rfl, rfl⟩ : gN = gq ∧ c1 = cq := (by simpa using eq2))
    refine rs_on hS ?_
    refine rs_run (run := [9]) (k := 1) (m' := 1023) rfl (by kernel_rfl) (by kernel_rfl) (by kernel_rfl) (fm_cons rfl <| List.filterMap_nil) hS ?_
    repeat (go_big_quiet_step ((fail)))
    refine wpQuiet_nil ?_
    refine rs_op 10 (k := 0) (m' := 2047) rfl rfl (by kernel_rfl) (by kernel_rfl) ?_
    go_wp2
    refine rs_lst (by decide) ?_
    refine rs_end (by kernel_rfl) ?_
    have HL := Lib.hid (HL.out.node rfl hrn x y)
    have HLN : Hid (ns.length = (ns.set rr (x, y)).length) := Lib.hid (List.length_set).symm
    clear n1 n2 n3 n4 hS hne e0 e1
    generalize ((w5.setCell ⟨gN, rr * 2, none⟩ (.int .i64 x)).setCell ⟨gN, rr * 2 + 1, none⟩ (.int .i64 y)) = w6 at *
    generalize ns.set rr (x, y) = ms at *
    have r0 := HL.out.b2.cell 0
    have r1 := HL.out.b2.cell 1
    have f0 := HL.out.b2.froz 0
    have f1 := HL.out.b2.froz 1
    have a0 := HL.out.b3.cell 0
    have a1 := HL.out.b3.cell 1
    simp only [List.getElem?_cons_zero, List.getElem?_cons_succ] at r0 r1 a0 a1
    go_wp2
    (try simp only [Exit.inBlock, Exit.then])
    refine bodyPost_ret (by simp [results, Tryz.results67, go_sem, r0, r1]; try rfl) rfl ?_
    obtain ⟨p1, p2, p3⟩ := HL.out.fin (.slice (some ⟨gN, 0, none⟩) ns.length c1) (.slice A2 ls.length c2)
    exact ⟨_, _, _, _, ms, ls, by rw [HLN.out], p1, p2, p3⟩
  · have x0 : ((r : Int) == 0) = false := by rw [beq_eq_false_iff_ne]; omega
    by_cases c1' : r = 1
    · subst c1'
      go_upto_region 6 with fail
      have e0 := BoxF.c0 (g := g3) (v1 := .slice (some ⟨gN, 0, none⟩) ns.length c1) (v2 := .slice A2 ls.length c2)
      have e1 := BoxF.c1 (g := g3) (v1 := .slice (some ⟨gN, 0, none⟩) ns.length c1) (v2 := .slice A2 ls.length c2)
      have HL := Lib.hid (HL.out.ext ((Ext.refl w3).drew))
      have hne := HL.out.ne'
      refine rs_open (fun w' => ∃ q : WB (BoxF g3 (.slice (some ⟨gN, 0, none⟩) ns.length c1) (.slice A2 ls.length c2)), w' = q.wd) [(true, 0, some 22, 8), (true, 1, some 23, 4194304), (true, 0, some 24, 1), (true, 0, some 25, 8), (true, 8, some 26, 33554432), (true, 16, some 27, 67108864), (false, 36, some 28, 150994944), (false, 64, some 29, 268435456), (false, 194, some 30, 545259520), (true, 511, some 31, 8), (false, 1023, none, 3221225472)] 1024 11 mixd rfl (by kernel_rfl) (by kernel_rfl) (by kernel_rfl) ?_
      have hS := HL.out.box
      refine rs_run (run := [0, 1, 2, 3, 4, 5]) (k := 5) (m' := 63) rfl (by kernel_rfl) (by kernel_rfl) (by kernel_rfl) (fm_cons rfl <| fm_cons rfl <| fm_cons rfl <| fm_cons rfl <| fm_cons rfl <| fm_cons rfl <| List.filterMap_nil) hS ?_
      repeat (go_big_quiet_step ((fail)))
      refine wpQuiet_nil ?_
      refine rs_op 6 (k := 4) (m' := 127) rfl rfl (by kernel_rfl) (by kernel_rfl) ?_
      go_wp2_with (go_at_call 87; refine (l03Lead_s _ gc HL.out.cu _ (by omega)).mono ?_; rintro e w4 ⟨x, y, rfl, hC, hK⟩; have HL := Lib.hid (HL.out.go hC hK); clear hC hK hS; have hS := HL.out.box)
      refine rs_on hS ?_
      refine rs_op 7 (k := 3) (m' := 255) rfl rfl (by kernel_rfl) (by kernel_rfl) ?_
      go_wp2
      have hb := (Ext.refl w4).alloc (.cells #[.int .i64 x, .int .i64 y] 81)
      have HPR := Lib.hid (pr_oneg (w := w4) (t := 81) rfl x y)
      replace HL := Lib.hid (HL.out.ext hb)
      clear hb hS
      have hS := HL.out.box
      refine rs_on hS ?_
      refine rs_op 8 (k := 2) (m' := 511) rfl rfl (by kernel_rfl) (by kernel_rfl) ?_
      go_wp2_with (at_builtin; refine az_src 25 81 Tryz.underlying25 infoL _ _ rfl rfl (v := .slice A2 ls.length c2) rfl HL.out.o2 (l := [(x, y)]) rfl rfl HPR.out (by omega) (by simp) HL.out.kg.sz ?_; intro v7 w9 r9 h6 h6e h6g h6r; obtain ⟨A7, c7, e7, -, -, -⟩ := h6.shape; rw [show (ls ++ [(x, y)]).length = ls.length + 1 from (by simp)] at e7; subst e7; have HLX := Lib.hid (HL.out.lead h6g h6r h6e h6 (by simp; omega)); have HQ := Lib.hid (HL.out.grow h6g (fun q e => ⟨(World.ownsRow.lt HL.out.o2 q (h6r q e)).1, fun e2 => OwP.nebk HL.out.o2 HL.out.b2 (by decide) (by rw [h6r q e, e2]), fun e2 => OwP.nebk HL.out.o2 HL.out.b3 (by decide) (by rw [h6r q e, e2])⟩) h6e); clear h6 h6e h6g h6r hS HL; have hS := WB.of (F := BoxF g3 (.slice (some ⟨gN, 0, none⟩) ns.length c1) (.slice A2 ls.length c2)) ⟨HQ.out.2.2.2.cell 0, HQ.out.2.2.2.cell 1⟩; have n1 := HQ.out.2.2.2.cell 1; have n2 := HQ.out.2.2.2.froz 1; simp only [List.getElem?_cons_zero, List.getElem?_cons_succ] at n1)
      refine rs_on hS ?_
      refine rs_run (run := [9]) (k := 1) (m' := 1023) rfl (by kernel_rfl) (by kernel_rfl) (by kernel_rfl) (fm_cons rfl <| List.filterMap_nil) hS ?_
      repeat (go_big_quiet_step ((fail)))
      refine wpQuiet_nil ?_
      refine rs_op 10 (k := 0) (m' := 2047) rfl rfl (by kernel_rfl) (by kernel_rfl) ?_
      go_wp2
      refine rs_lst (by decide) ?_
      refine rs_end (by kernel_rfl) ?_
      have HL := HLX
      have HLN : Hid (ls.length + 1 = (ls ++ [(x, y)]).length) := Lib.hid (by simp)
      clear n1 n2 hS hne e0 e1 HQ HLX HPR
      generalize (w9.setCell ⟨g3, 1, none⟩ (.slice A7 (ls.length + 1) c7)) = w6 at *
      generalize ls ++ [(x, y)] = ms at *
      have r0 := HL.out.b2.cell 0
      have r1 := HL.out.b2.cell 1
      have f0 := HL.out.b2.froz 0
      have f1 := HL.out.b2.froz 1
      have a0 := HL.out.b3.cell 0
      have a1 := HL.out.b3.cell 1
      simp only [List.getElem?_cons_zero, List.getElem?_cons_succ] at r0 r1 a0 a1
      go_wp2
      (try simp only [Exit.inBlock, Exit.then])
      refine bodyPost_ret (by simp [results, Tryz.results67, go_sem, r0, r1]; try rfl) rfl ?_
      obtain ⟨p1, p2, p3⟩ := HL.out.fin (.slice (some ⟨gN, 0, none⟩) ns.length c1) (.slice A7 (ls.length + 1) c7)
      exact ⟨_, _, _, _, ns, ms, by rw [HLN.out], p1, p2, p3⟩
    · have x1 : ((r : Int) == 1) = false := by rw [beq_eq_false_iff_ne]; omega
      by_cases c2' : r = 2
      · subst c2'
        have a0 := HL.out.b3.cell 0
        have a1 := HL.out.b3.cell 1
        have f0 := HL.out.b3.froz 0
        have f1 := HL.out.b3.froz 1
        simp only [List.getElem?_cons_zero, List.getElem?_cons_succ] at a0 a1
        have hc1 : (1 : Int) ≤ (ns.length : Int) := by omega
        go_upto_region 12 with fail
        obtain ⟨vA, hvA⟩ : ∃ q : Option Addr, q = (if c1 = 1 then some ⟨gN, 0, none⟩ else some ⟨gN, 2, none⟩) := ⟨_, rfl⟩
        rw [← hvA]
        obtain ⟨p1, p2, p3⟩ := HL.out.cut hns1 (.slice vA (ns.length - 1) (c1 - 1)) (.slice vA (ns.length - 1) (c1 - 1)) (.slice A2 ls.length c2)
        rw [← hvA] at p1
        have HP1 := Lib.hid p1
        have HP2 := Lib.hid p2
        have HP3 := Lib.hid p3
        have HB3 := Lib.hid (HL.out.b3.set_ 0 (.slice vA (ns.length - 1) (c1 - 1)))
        have HB2 := Lib.hid (HL.out.b2.far (p := ⟨g3, 0, none⟩) HL.out.ne (.slice vA (ns.length - 1) (c1 - 1)))
        simp only [List.set_cons_zero] at HB3
        have HLD : Hid (ns.length - 1 = (ns.drop 1).length) := Lib.hid (by simp)
        clear p1 p2 p3 hvA a0 a1 f0 f1
        generalize w3.setCell ⟨g3, 0, none⟩ (.slice vA (ns.length - 1) (c1 - 1)) = w4 at *
        have r0 := HB2.out.cell 0
        have r1 := HB2.out.cell 1
        have f0 := HB2.out.froz 0
        have f1 := HB2.out.froz 1
        have a0 := HB3.out.cell 0
        have a1 := HB3.out.cell 1
        simp only [List.getElem?_cons_zero, List.getElem?_cons_succ] at r0 r1 a0 a1
        generalize ns.length - 1 = nl1 at *
        go_wp2
        (try simp only [Exit.inBlock, Exit.then])
        refine bodyPost_ret (by simp [results, Tryz.results67, go_sem, r0, r1]; try rfl) rfl ?_
        exact ⟨_, _, _, _, ns.drop 1, ls, by rw [HLD.out], HP1.out, HP2.out, HP3.out⟩
      · have x2 : ((r : Int) == 2) = false := by rw [beq_eq_false_iff_ne]; omega
        by_cases c3' : r = 3
        · subst c3'
          go_wp2_with fail
          go_loopw [] (fun wr => ∃ (ms : List P2) (v : Value), ms.length ≤ 13 ∧ Hid (LA w wr gc g2 g3 v (.slice A2 ls.length c2) ms ls)) (fun wr => lenAt g3 wr)
          case atStart => exact ⟨ns, _, by omega, HL⟩
          case round =>
            clear HL
            obtain ⟨ms, v, hms, HL⟩ := hrel
            obtain ⟨wo, rfl⟩ : ∃ x : World, x = wr := ⟨_, rfl⟩
            obtain ⟨A3, c3, rfl, -, -, -⟩ := OwP.shape HL.out.o1
            have HM0 : Hid (lenAt g3 wo = 14 - ms.length) := Lib.hid (by
              have := HL.out.b3.cell 0
              unfold lenAt
              rw [this]; rfl)
            go_upto_region 10 with fail
            have e0 := BoxF.c0 (g := g3) (v1 := .slice A3 ms.length c3) (v2 := .slice A2 ls.length c2)
            have e1 := BoxF.c1 (g := g3) (v1 := .slice A3 ms.length c3) (v2 := .slice A2 ls.length c2)
            have HL := Lib.hid (HL.out.ext ((Ext.refl wo).drew))
            have hne := HL.out.ne'
            refine rs_open (fun w' => ∃ q : WB (BoxF g3 (.slice A3 ms.length c3) (.slice A2 ls.length c2)), w' = q.wd) [(true, 0, some 40, 8), (true, 1, some 41, 1099511627776), (true, 2, some 42, 2199023255552), (true, 0, some 43, 1), (false, 8, some 44, 8796093022208), (true, 16, some 45, 17592186044416), (true, 36, some 46, 39582418599936)] 0 7 mixd rfl (by kernel_rfl) (by kernel_rfl) (by kernel_rfl) ?_
            have hS := HL.out.box
            refine rs_run (run := [0, 1, 2, 3]) (k := 3) (m' := 15) rfl (by kernel_rfl) (by kernel_rfl) (by kernel_rfl) (fm_cons rfl <| fm_cons rfl <| fm_cons rfl <| fm_cons rfl <| List.filterMap_nil) hS ?_
            repeat (go_big_quiet_step ((fail)))
            refine wpQuiet_nil ?_
            refine rs_op 4 (k := 2) (m' := 31) rfl rfl (by kernel_rfl) (by kernel_rfl) ?_
            go_wp2_with (go_at_call 51; refine (l01Below_s _ gc HL.out.cu 2 (by omega)).mono ?_; rintro e w4 ⟨b, rfl, hb2, -, hC, hK⟩; have HL := Lib.hid (HL.out.go hC hK); have hb2 := hb2 (by omega); clear hC hK hS; have hS := HL.out.box)
            refine rs_on hS ?_
            refine rs_run (run := [5, 6]) (k := 0) (m' := 127) rfl (by kernel_rfl) (by kernel_rfl) (by kernel_rfl) (fm_cons rfl <| fm_cons rfl <| List.filterMap_nil) hS ?_
            repeat (go_big_quiet_step ((fail)))
            refine wpQuiet_nil ?_
            refine rs_end (by kernel_rfl) ?_
            skip
            clear hS hne e0 e1
            by_cases hlt : (ms.length : Int) < 12 + (b : Int)
            · have a0 := HL.out.b3.cell 0
              have a1 := HL.out.b3.cell 1
              have f0 := HL.out.b3.froz 0
              have f1 := HL.out.b3.froz 1
              simp only [List.getElem?_cons_zero, List.getElem?_cons_succ] at a0 a1
              have hb := (Ext.refl w4).alloc (.cells #[.int .i64 20, .int .i64 (ms.length : Int)] 79)
              have HPR := Lib.hid (pr_oneg (w := w4) (t := 79) rfl 20 (ms.length : Int))
              have HL := Lib.hid (HL.out.ext hb)
              clear hb
              go_wp2_with (at_builtin; refine az_src 24 79 Tryz.underlying24 infoN _ _ rfl rfl (v := .slice A3 ms.length c3) rfl HL.out.o1 (l := [(20, (ms.length : Int))]) rfl rfl HPR.out (by omega) (by simp) HL.out.kg.sz ?_)
              intro v7 w9 r9 h6 h6e h6g h6r
              obtain ⟨A7, c7, e7, -, -, -⟩ := h6.shape
              rw [show (ms ++ [((20 : Int), (ms.length : Int))]).length = ms.length + 1 from (by simp)] at e7
              subst e7
              have HLX := Lib.hid (HL.out.more h6g h6r h6e h6 (by simp; omega))
              have HQ := Lib.hid (HL.out.grow h6g (fun q e => ⟨(World.ownsRow.lt HL.out.o1 q (h6r q e)).1, fun e2 => OwP.nebk HL.out.o1 HL.out.b2 (by decide) (by rw [h6r q e, e2]), fun e2 => OwP.nebk HL.out.o1 HL.out.b3 (by decide) (by rw [h6r q e, e2])⟩) h6e)
              have n1 := HQ.out.2.2.2.cell 0
              have n2 := HQ.out.2.2.2.froz 0
              simp only [List.getElem?_cons_zero] at n1
              have HMM : Hid (lenAt g3 (w9.setCell ⟨g3, 0, none⟩ (.slice A7 (ms.length + 1) c7)) = 14 - (ms.length + 1)) := Lib.hid (by
                have := HLX.out.b3.cell 0
                unfold lenAt
                rw [this]; rfl)
              clear h6 h6e h6g h6r a0 a1 f0 f1 HL HQ HPR
              go_wp2
              go_roundw
              case rel => exact ⟨ms ++ [((20 : Int), (ms.length : Int))], .slice A7 (ms.length + 1) c7, (by rw [List.length_append, List.length_singleton]; omega), HLX⟩
              case measure => rw [HMM.out, HM0.out]; omega
            · clear HM0
              have r0 := HL.out.b2.cell 0
              have r1 := HL.out.b2.cell 1
              have f0 := HL.out.b2.froz 0
              have f1 := HL.out.b2.froz 1
              have a0 := HL.out.b3.cell 0
              have a1 := HL.out.b3.cell 1
              simp only [List.getElem?_cons_zero, List.getElem?_cons_succ] at r0 r1 a0 a1
              go_wp2
              (try simp only [Exit.inBlock, Exit.then])
              refine bodyPost_ret (by simp [results, Tryz.results67, go_sem, r0, r1]; try rfl) rfl ?_
              obtain ⟨p1, p2, p3⟩ := HL.out.fin (.slice A3 ms.length c3) (.slice A2 ls.length c2)
              exact ⟨_, _, _, _, ms, ls, rfl, p1, p2, p3⟩
        · have x3 : ((r : Int) == 3) = false := by rw [beq_eq_false_iff_ne]; omega
          have r0 := HL.out.b2.cell 0
          have r1 := HL.out.b2.cell 1
          have f0 := HL.out.b2.froz 0
          have f1 := HL.out.b2.froz 1
          have a0 := HL.out.b3.cell 0
          have a1 := HL.out.b3.cell 1
          simp only [List.getElem?_cons_zero, List.getElem?_cons_succ] at r0 r1 a0 a1
          go_wp2
          (try simp only [Exit.inBlock, Exit.then])
          refine bodyPost_ret (by simp [results, Tryz.results67, go_sem, r0, r1]; try rfl) rfl ?_
          obtain ⟨p1, p2, p3⟩ := HL.out.fin (.slice (some ⟨gN, 0, none⟩) ns.length c1) (.slice A2 ls.length c2)
          exact ⟨_, _, _, _, ns, ls, rfl, p1, p2, p3⟩
end Go.Proofs.YtdhmjhoaegdfjaaGreat
