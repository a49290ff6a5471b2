import Derived.Test.YtdhmjhoaegdfjaaGreatS24
import Derived.Test.YtdhmjhoaegdfjaaGreatD30
namespace Go.Proofs.YtdhmjhoaegdfjaaGreat
open Go.RowKit Go.Sort Go.BigFrame
/-! A window and wishes in the works. -/
structure LB (w0 wr : World) (gc g2 g4 B1 : Nat) (A : Option Addr) (c : Nat) (B : Option Addr) (d : Nat) (ns ls : List P2) (v : Value) (xs : List Int) : Prop where
  cu : Cu wr gc
  kg : Kg gc w0 wr
  b2 : Bk wr g2 27 [.slice none 0 0, .slice none 0 0]
  b4 : Bk wr g4 27 [.slice A ns.length c, .slice B ls.length d]
  wk : WK wr (g2 + 1) A c B d ns ls
  ua : ∀ b off, A = some ⟨b, off, none⟩ → 0 < ns.length → b < B1
  ub : ∀ b off, B = some ⟨b, off, none⟩ → 0 < ls.length → b < B1
  ow : OwI wr B1 v xs
  hx : xs.length ≤ 2000
  l2 : w0.heap.size ≤ g2
  u2 : g2 < B1
  u4 : g4 < B1
  gt : gc < w0.heap.size
  hB : w0.heap.size ≤ B1
  hS : B1 ≤ wr.heap.size
section
variable {w0 wr w' : World} {gc g2 g4 B1 : Nat} {A : Option Addr} {c : Nat} {B : Option Addr} {d : Nat} {ns ls : List P2} {v : Value} {xs : List Int}
theorem LB.go (h : LB w0 wr gc g2 g4 B1 A c B d ns ls v xs) (hC : Cu w' gc) (k : Kg gc wr w') : LB w0 w' gc g2 g4 B1 A c B d ns ls v xs :=
  ⟨hC, h.kg.trans k, h.cu.bk k h.b2 (by decide), h.cu.bk k h.b4 (by decide), h.wk.kg k (by have := h.gt; have := h.l2; omega), h.ua, h.ub,
    k.own h.ow (fun e => by have := (World.ownsRow.lt h.ow gc e).1; have := h.gt; have := h.hB; omega), h.hx, h.l2, h.u2, h.u4, h.gt, h.hB, Nat.le_trans h.hS k.sz⟩
theorem LB.ext (h : LB w0 wr gc g2 g4 B1 A c B d ns ls v xs) (hx : Ext wr w') : LB w0 w' gc g2 g4 B1 A c B d ns ls v xs := h.go (h.cu.ext hx) (Kg.of hx)
/-- a wish is written -/
theorem LB.put {g n cc : Nat} (h : LB w0 wr gc g2 g4 B1 A c B d ns ls (.slice (some ⟨g, 0, none⟩) n cc) xs) (hn : n = xs.length) (j : Nat) (y : Int) :
    LB w0 (wr.setCell ⟨g, j, none⟩ (.int .i64 y)) gc g2 g4 B1 A c B d ns ls (.slice (some ⟨g, 0, none⟩) n cc) (xs.set j y) := by
  have hg : B1 ≤ g := (World.ownsRow.lt h.ow g rfl).1
  have h1 := h.gt
  have h2 := h.hB
  have h3 := h.u2
  have h4 := h.u4
  have k : Kg g wr (wr.setCell ⟨g, j, none⟩ (.int .i64 y)) := (Kg.refl g wr).set j _
  have hw := h.wk.wn
  refine ⟨h.cu.far (by omega) _ _, h.kg.new (by omega) _ _, h.b2.far (by show g2 ≠ g; omega) _, h.b4.far (by show g4 ≠ g; omega) _, ⟨⟨hw.hl, hw.hm, hw.hc, hw.hd, hw.hcm, hw.hdm, k.pr hw.h fun b off e hp => ?_, k.pr hw.g fun b off e hp => ?_⟩, h.wk.na, h.wk.nb⟩, h.ua, h.ub,
    h.ow.set_ hn j y, by rw [List.length_set]; exact h.hx, h.l2, h.u2, h.u4, h.gt, h.hB, by simpa using h.hS⟩
  · have := h.ua b off e hp; omega
  · have := h.ub b off e hp; omega
theorem pr_gb {w w' : World} {r : Option Nat} (k : w.grownBy w' r) {X : Option Addr} {l : List P2} (h : Pr w w.heap.size X l) (hn : ∀ b off, X = some ⟨b, off, none⟩ → 0 < l.length → r ≠ some b) : Pr w' w'.heap.size X l := by
  refine ⟨h.1, fun hp => ?_⟩
  obtain ⟨b, off, e, hlt, hc⟩ := h.2 hp
  refine ⟨b, off, e, Nat.lt_of_lt_of_le hlt k.size, fun j u hu => ?_⟩
  rw [← hc j u hu]
  have hbb : w'.heap[b]? = w.heap[b]? := k.block b hlt fun e2 => hn b off e hp e2.symm
  unfold World.cell?
  simp only [hbb]
/-- the row of wishes grows -/
theorem LB.app (h : LB w0 wr gc g2 g4 B1 A c B d ns ls v xs) {v' : Value} {ys : List Int} (k : wr.grownBy w' v.ownBlock) (he : ∀ W, Ext W wr → W.heap.size ≤ B1 → Ext W w') (o : OwI w' B1 v' ys) (hy : ys.length ≤ 2000) :
    LB w0 w' gc g2 g4 B1 A c B d ns ls v' ys := by
  have hq : ∀ q, v.ownBlock = some q → B1 ≤ q := fun q e => (World.ownsRow.lt h.ow q e).1
  have h1 := h.gt
  have h2 := h.hB
  have h3 := h.u2
  have h4 := h.u4
  have hw := h.wk.wn
  have hgc := h.cu
  refine ⟨?_, ⟨Nat.le_trans h.kg.sz k.size, fun b hb hne => (k.block b (Nat.lt_of_lt_of_le hb h.kg.sz) fun e => ?_).trans (h.kg.bl b hb hne), fun W hW hWg => he W (h.kg.ex W hW hWg) (by have := hW.size; omega)⟩, gb_bk h.b2 k fun e => by have := hq _ e; omega, gb_bk h.b4 k fun e => by have := hq _ e; omega,
    ⟨⟨hw.hl, hw.hm, hw.hc, hw.hd, hw.hcm, hw.hdm, pr_gb k hw.h fun b off e hp e2 => ?_, pr_gb k hw.g fun b off e hp e2 => ?_⟩, h.wk.na, h.wk.nb⟩, h.ua, h.ub, o, hy, h.l2, h.u2, h.u4, h.gt, h.hB, Nat.le_trans h.hS k.size⟩
  · obtain ⟨X, n, c', i, hh, q1, q2, q3, hb, zs, hs⟩ := hgc.bx
    have hlt := hb.lt
    refine ⟨X, n, c', i, hh, q1, q2, q3, gb_bk hb k fun e => by have := hq _ e; omega, zs, hs.1, fun hn => ?_⟩
    obtain ⟨b, off, e, hbl, hcs⟩ := hs.2 hn
    refine ⟨b, off, e, hbl, fun j u hu => ?_⟩
    rw [← hcs j u hu]
    have hbb : w'.heap[b]? = wr.heap[b]? := k.block b (by omega) fun e => by have := hq b e.symm; omega
    unfold World.cell?
    simp only [hbb]
  · have := hq b e.symm; omega
  · have := hq b e2; have := h.ua b off e hp; omega
  · have := hq b e2; have := h.ub b off e hp; omega
/-- the end -/
theorem LB.fin (h : LB w0 wr gc g2 g4 B1 A c B d ns ls v xs) (u1 u2 : Value) : WK ((wr.setCell ⟨g2, 0, none⟩ u1).setCell ⟨g2, 1, none⟩ u2) w0.heap.size A c B d ns ls ∧ OwI ((wr.setCell ⟨g2, 0, none⟩ u1).setCell ⟨g2, 1, none⟩ u2) w0.heap.size v xs ∧
    Cu ((wr.setCell ⟨g2, 0, none⟩ u1).setCell ⟨g2, 1, none⟩ u2) gc ∧ Kg gc w0 ((wr.setCell ⟨g2, 0, none⟩ u1).setCell ⟨g2, 1, none⟩ u2) := by
  have h1 := h.gt
  have h2 := h.l2
  have h3 := h.u2
  have hgt : gc < g2 := by omega
  have hq : ∀ q, v.ownBlock = some q → (some g2 : Option Nat) ≠ some q := fun q e e2 => by
    injection e2 with e2
    have := (World.ownsRow.lt h.ow q e).1
    omega
  exact ⟨((h.wk.set (Nat.lt_succ_self _) 0 u1).set (Nat.lt_succ_self _) 1 u2).more (by omega), (OwI.gb (OwI.gb h.ow (gb_set (gb_refl _ (some g2)) 0 u1) hq) (gb_set (gb_refl _ (some g2)) 1 u2) hq).more h.hB,
    (h.cu.far hgt 0 _).far hgt 1 _, (h.kg.new h.l2 0 _).new h.l2 1 _⟩
end
set_option maxRecDepth 100000 in
set_option maxHeartbeats 8000000 in
theorem l14Any_s (w : World) (gc : Nat) (h : Cu w gc) :
    Calls Tryz.prog 26 #[.pointer (some ⟨gc, 0, none⟩)] w fun e w' => ∃ A c B d ns ls X xc xs, e = .returned (.tuple #[.agg #[.slice A (List.length ns) c, .slice B (List.length ls) d], .slice X (List.length xs) xc]) ∧ WK w' w.heap.size A c B d ns ls ∧ OwI w' w.heap.size (.slice X xs.length xc) xs ∧ xs.length ≤ 2000 ∧ Cu w' gc ∧ Kg gc w w' := by
  have HC := Lib.hid h
  have HGT := Lib.hid h.lt
  clear h
  go_enter Tryz.func26, Tryz.ntmps26
  go_upto_region 1 with fail
  have HR := Lib.hid (Bk.new (w := w) (g := w.heap.size) 27 [.slice none 0 0, .slice none 0 0] rfl)
  have hx := (Ext.refl w).alloc (.cells #[.slice none 0 0, .slice none 0 0] 27)
  change Hid (Bk (w.alloc (.cells #[.slice none 0 0, .slice none 0 0] 27)) w.heap.size 27 [.slice none 0 0, .slice none 0 0]) at HR
  generalize (w.alloc (.cells #[.slice none 0 0, .slice none 0 0] 27)) = wa at *
  replace HC := Lib.hid (HC.out.ext hx)
  have HK := Lib.hid (Kg.of (gc := gc) hx)
  clear hx
  generalize hg2 : w.heap.size = g2 at *
  have HG := Lib.hid hg2
  clear hg2
  go_wp2_with fail
  refine (l07Any_s _ gc HC.out).mono ?_
  rintro e w1 ⟨A, c, B, d, ns, ls, rfl, hw, hC, hK⟩
  have hgl := HR.out.lt
  replace HR := Lib.hid (HC.out.bk hK HR.out (by decide))
  replace HK := Lib.hid (HK.out.trans hK)
  replace HC := Lib.hid hC
  have HWK := Lib.hid (hw.more (show g2 + 1 ≤ wa.heap.size by omega))
  clear hC hK hw
  go_upto_region 2 with fail
  have hb := (Ext.refl w1).alloc (.cells #[.slice A ns.length c, .slice B ls.length d] 27)
  have HB4 : Hid (Bk (w1.alloc (.cells #[.slice A ns.length c, .slice B ls.length d] 27)) w1.heap.size 27 [.slice A ns.length c, .slice B ls.length d]) := Lib.hid (Bk.new _ _ rfl)
  replace HR := Lib.hid (HR.out.ext hb)
  replace HC := Lib.hid (HC.out.ext hb)
  replace HK := Lib.hid (HK.out.trans (Kg.of hb))
  replace HWK := Lib.hid (HWK.out.ext hb)
  clear hb
  generalize (w1.alloc (.cells #[.slice A ns.length c, .slice B ls.length d] 27)) = w2 at *
  generalize w1.heap.size = g4 at *
  have a0 := HB4.out.cell 0
  have a1 := HB4.out.cell 1
  simp only [List.getElem?_cons_zero, List.getElem?_cons_succ] at a0 a1
  go_wp2_with fail
  refine (GreedyColors_s _ _ _ _ ns ls _ HWK.out.wn).mono ?_
  rintro e w3 ⟨v3, rfl, h3, hb⟩
  have hgl3 := vGreedyColors_len ns ls
  have HL : Hid (LB w w3 gc g2 g4 w2.heap.size A c B d ns ls v3 (vGreedyColors ns ls)) := Lib.hid (by
    have hsz := HK.out.sz
    refine ⟨HC.out.ext hb, HK.out.trans (Kg.of hb), HR.out.ext hb, HB4.out.ext hb, HWK.out.ext hb, fun b off e hp => ?_, fun b off e hp => ?_, h3, by omega, Nat.le_of_eq HG.out, HR.out.lt, HB4.out.lt, by rw [HG.out]; exact HGT.out, hsz, hb.size⟩
    · obtain ⟨b', off', e', hlt, _⟩ := HWK.out.wn.h.2 hp
      rw [e] at e'; injection e' with e'; injection e' with e'; omega
    · obtain ⟨b', off', e', hlt, _⟩ := HWK.out.wn.g.2 hp
      rw [e] at e'; injection e' with e'; injection e' with e'; omega)
  obtain ⟨AX, cX, rfl, -, -, -⟩ := h3.shape
  generalize w2.heap.size = B1 at *
  clear h3 hb HC HK HR HB4 HWK a0 a1
  generalize hXS : vGreedyColors ns ls = xs0 at *
  clear hXS
  generalize hN : xs0.length = N at *
  go_wp2_with fail
  go_loopw [6] (fun i wr => ∃ (k : Nat) (xs : List Int), i = .int .i64 (k : Int) ∧ k ≤ N ∧ Hid (xs.length = N) ∧ Hid (LB w wr gc g2 g4 B1 A c B d ns ls (.slice AX N cX) xs)) (fun i _ => N - (intOf i).toNat)
  case atStart => exact ⟨0, xs0, rfl, by omega, Lib.hid hN, HL⟩
  case round =>
    clear HL
    obtain ⟨k, xs, rfl, hk, HXN, HL⟩ := hrel
    obtain ⟨wo, rfl⟩ : ∃ x : World, x = wr := ⟨_, rfl⟩
    by_cases hlt : k < N
    · have hki : (k : Int) < N := by omega
      obtain ⟨gX, cx', eX, -, -, -, -, -⟩ := HL.out.ow.gi_ (j := k) (by rw [HXN.out]; exact hlt)
      obtain ⟨rfl, rfl⟩ : AX = some ⟨gX, 0, none⟩ ∧ cX = cx' := by
        injection eX with e1 e2 e3
        exact ⟨e1, e3⟩
      clear eX
      go_wp2_with fail
      refine (l01Below_s _ gc HL.out.cu 5 (by omega)).mono ?_
      rintro e w4 ⟨r, rfl, hr, -, hC, hK⟩
      have hr := hr (by omega)
      have HL := Lib.hid (HL.out.go hC hK)
      clear hC hK
      have hr5 : r = 0 ∨ r = 1 ∨ r = 2 ∨ r = 3 ∨ r = 4 := by omega
      rcases hr5 with rfl | rfl | rfl | rfl | rfl
      · skip
        obtain ⟨s1, s2⟩ := HL.out.ow.cel (j := k) (by rw [HXN.out]; exact hlt)
        have HP := Lib.hid (HL.out.put HXN.out.symm k (-1))
        have HPN : Hid ((xs.set k (-1)).length = N) := Lib.hid (by rw [List.length_set]; exact HXN.out)
        go_wp2
        go_roundw
        case rel => exact ⟨k + 1, xs.set k (-1), by go_num, by omega, HPN, HP⟩
        case measure => first | (simp [intOf]; done) | (simp [intOf]; omega)
      · skip
        obtain ⟨s1, s2⟩ := HL.out.ow.cel (j := k) (by rw [HXN.out]; exact hlt)
        have HP := Lib.hid (HL.out.put HXN.out.symm k (-1))
        have HPN : Hid ((xs.set k (-1)).length = N) := Lib.hid (by rw [List.length_set]; exact HXN.out)
        go_wp2
        go_roundw
        case rel => exact ⟨k + 1, xs.set k (-1), by go_num, by omega, HPN, HP⟩
        case measure => first | (simp [intOf]; done) | (simp [intOf]; omega)
      · skip
        obtain ⟨s1, s2⟩ := HL.out.ow.cel (j := k) (by rw [HXN.out]; exact hlt)
        have HP := Lib.hid (HL.out.put HXN.out.symm k (-1))
        have HPN : Hid ((xs.set k (-1)).length = N) := Lib.hid (by rw [List.length_set]; exact HXN.out)
        go_wp2
        go_roundw
        case rel => exact ⟨k + 1, xs.set k (-1), by go_num, by omega, HPN, HP⟩
        case measure => first | (simp [intOf]; done) | (simp [intOf]; omega)
      · go_wp2_with fail
        refine (l01Below_s _ gc HL.out.cu 4 (by omega)).mono ?_
        rintro e w5 ⟨q, rfl, -, -, hC, hK⟩
        have HL := Lib.hid (HL.out.go hC hK)
        clear hC hK
        obtain ⟨s1, s2⟩ := HL.out.ow.cel (j := k) (by rw [HXN.out]; exact hlt)
        have HP := Lib.hid (HL.out.put HXN.out.symm k (q : Int))
        have HPN : Hid ((xs.set k (q : Int)).length = N) := Lib.hid (by rw [List.length_set]; exact HXN.out)
        go_wp2
        go_roundw
        case rel => exact ⟨k + 1, xs.set k (q : Int), by go_num, by omega, HPN, HP⟩
        case measure => first | (simp [intOf]; done) | (simp [intOf]; omega)
      · go_wp2
        go_roundw
        case rel => exact ⟨k + 1, xs, by go_num, by omega, HXN, HL⟩
        case measure => first | (simp [intOf]; done) | (simp [intOf]; omega)
    · obtain rfl : k = N := by omega
      clear hk hlt
      go_wp2_with fail
      refine (l01Below_s _ gc HL.out.cu 12 (by omega)).mono ?_
      rintro e w4 ⟨r, rfl, hr, -, hC, hK⟩
      have HL := Lib.hid (HL.out.go hC hK)
      clear hC hK hr
      by_cases c0 : r = 0
      · subst c0
        have hb := (Ext.refl w4).alloc (.cells #[.int .i64 (-1)] 3)
        have hxl := HL.out.hx
        have HB1 : Hid (B1 ≤ w4.heap.size) := Lib.hid HL.out.hS
        go_wp2_with (at_builtin; refine ap_int Tryz.underlying28 infoI2 _ _ rfl rfl (v := .slice AX k cX) rfl (HL.out.ow.ext hb) (g := w4.heap.size) (y := -1) (by first | rfl | simp) (by go_simp) (by omega) (Nat.le_trans HB1.out hb.size) ?_)
        intro v' w5 h5 h5g h5e
        obtain ⟨AY, cY, rfl, -, -, -⟩ := h5.shape
        have hyl : (xs ++ [(-1 : Int)]).length ≤ 2000 := by
          have h1 := HXN.out
          rw [List.length_append, List.length_singleton]
          omega
        have HY := Lib.hid ((HL.out.ext hb).app h5g h5e h5 hyl)
        clear hyl
        clear h5 h5g h5e hb HL
        generalize xs ++ [-1] = ys at *
        have HL := HY
        clear HY
        have r0 := HL.out.b2.cell 0
        have r1 := HL.out.b2.cell 1
        have f0 := HL.out.b2.froz 0
        have f1 := HL.out.b2.froz 1
        have a0 := HL.out.b4.cell 0
        have a1 := HL.out.b4.cell 1
        simp only [List.getElem?_cons_zero, List.getElem?_cons_succ] at r0 r1 a0 a1
        go_wp2
        (try simp only [Exit.inBlock, Exit.then])
        refine bodyPost_ret (by simp [results, Tryz.results26, go_sem, r0, r1]; try rfl) rfl ?_
        obtain ⟨p1, p2, p3, p4⟩ := HL.out.fin (.slice A ns.length c) (.slice B ls.length d)
        exact ⟨_, _, _, _, ns, ls, _, _, ys, rfl, p1, p2, HL.out.hx, p3, p4⟩
      · have x0 : ((r : Int) == 0) = false := by rw [beq_eq_false_iff_ne]; omega
        by_cases c1 : r = 1
        · subst c1
          by_cases hk0 : 0 < k
          · have hki : (0 : Int) < (k : Int) := by omega
            obtain ⟨gX, cx', eX, -, -, -, -, -⟩ := HL.out.ow.gi_ (j := 0) (by rw [HXN.out]; exact hk0)
            obtain ⟨rfl, rfl⟩ : AX = some ⟨gX, 0, none⟩ ∧ cX = cx' := by
              injection eX with e1 e2 e3
              exact ⟨e1, e3⟩
            clear eX
            have hb := (Ext.refl w4).alloc (.cells #[.int .i64 (-2), .int .i64 5, .int .i64 6] 3)
            go_wp2_with fail
            refine (l01PickInt_s _ gc (HL.out.cu.ext hb) _ 3 [-2, 5, 6] rfl (by decide) (by decide) (Bk.new 3 ([-2, 5, 6].map (Value.int .i64)) rfl)).mono ?_
            rintro e w5 ⟨z, rfl, hC, hK⟩
            have HL := Lib.hid ((HL.out.ext hb).go hC hK)
            clear hC hK hb
            obtain ⟨s1, s2⟩ := HL.out.ow.cel (j := 0) (by rw [HXN.out]; exact hk0)
            have HP := Lib.hid (HL.out.put HXN.out.symm 0 z)
            have HPN : Hid (k = (xs.set 0 z).length) := Lib.hid (by rw [List.length_set]; exact HXN.out.symm)
            go_upto_region 19 with fail
            clear s1 s2 HL
            have HL := HP
            clear HP
            generalize w5.setCell ⟨gX, 0, none⟩ (.int .i64 z) = w6 at *
            generalize xs.set 0 z = ys at *
            have r0 := HL.out.b2.cell 0
            have r1 := HL.out.b2.cell 1
            have f0 := HL.out.b2.froz 0
            have f1 := HL.out.b2.froz 1
            have a0 := HL.out.b4.cell 0
            have a1 := HL.out.b4.cell 1
            simp only [List.getElem?_cons_zero, List.getElem?_cons_succ] at r0 r1 a0 a1
            go_wp2
            (try simp only [Exit.inBlock, Exit.then])
            refine bodyPost_ret (by simp [results, Tryz.results26, go_sem, r0, r1]; try rfl) rfl ?_
            obtain ⟨p1, p2, p3, p4⟩ := HL.out.fin (.slice A ns.length c) (.slice B ls.length d)
            exact ⟨_, _, _, _, ns, ls, _, _, ys, by rw [HPN.out], p1, by rw [← HPN.out]; exact p2, HL.out.hx, p3, p4⟩
          · obtain rfl : k = 0 := by omega
            have r0 := HL.out.b2.cell 0
            have r1 := HL.out.b2.cell 1
            have f0 := HL.out.b2.froz 0
            have f1 := HL.out.b2.froz 1
            have a0 := HL.out.b4.cell 0
            have a1 := HL.out.b4.cell 1
            simp only [List.getElem?_cons_zero, List.getElem?_cons_succ] at r0 r1 a0 a1
            go_wp2
            (try simp only [Exit.inBlock, Exit.then])
            refine bodyPost_ret (by simp [results, Tryz.results26, go_sem, r0, r1]; try rfl) rfl ?_
            obtain ⟨p1, p2, p3, p4⟩ := HL.out.fin (.slice A ns.length c) (.slice B ls.length d)
            exact ⟨_, _, _, _, ns, ls, _, _, xs, by rw [HXN.out], p1, by rw [HXN.out]; exact p2, HL.out.hx, p3, p4⟩
        · have x1 : ((r : Int) == 1) = false := by rw [beq_eq_false_iff_ne]; omega
          have r0 := HL.out.b2.cell 0
          have r1 := HL.out.b2.cell 1
          have f0 := HL.out.b2.froz 0
          have f1 := HL.out.b2.froz 1
          have a0 := HL.out.b4.cell 0
          have a1 := HL.out.b4.cell 1
          simp only [List.getElem?_cons_zero, List.getElem?_cons_succ] at r0 r1 a0 a1
          go_wp2
          (try simp only [Exit.inBlock, Exit.then])
          refine bodyPost_ret (by simp [results, Tryz.results26, go_sem, r0, r1]; try rfl) rfl ?_
          obtain ⟨p1, p2, p3, p4⟩ := HL.out.fin (.slice A ns.length c) (.slice B ls.length d)
          exact ⟨_, _, _, _, ns, ls, _, _, xs, by rw [HXN.out], p1, by rw [HXN.out]; exact p2, HL.out.hx, p3, p4⟩
end Go.Proofs.YtdhmjhoaegdfjaaGreat
