import Derived.Test.YtdhmjhoaegdfjaaGreatD36
namespace Go.Proofs.YtdhmjhoaegdfjaaGreat
open Go.RowKit Go.Sort Go.BigFrame

@[go_sem] theorem store_fn (a : Addr) (m : Mode) (fn : Fn) (x y : Array Value) (w : World) : (store a (.func fn x y) m).run Tryz.prog w = stored Tryz.prog w a (.func fn x y) m := run_store _ w a _ m rfl

set_option maxRecDepth 100000 in
set_option maxHeartbeats 8000000 in
theorem paint_c {σ : Type} (tell : σ → List Int → σ × Bool) (Inv : Nat → σ → World → Prop) (s0 : σ) (T : FuncId) (r : Nat) (A B : Option Addr) (c d : Nat) (ns ls : List P2) (X : Option Addr) (xc : Nat) (wish : List Int) (F nn : Nat) (w : World) (h : Wn w A c B d ns ls) (hw : whole ns ls = true) (hX : In w w.heap.size X wish) (hwl : wish.length = F) (hFF : F = (vFaces ns ls).length) (hn6 : nn ≤ 6) (hr : r < w.heap.size) (hT : T = 33 ∨ T = 33)
    (hXr : ∀ b o, X = some ⟨b, o, none⟩ → b ≠ r)
    (hI0 : ∀ g w1, w.heap.size ≤ g → Ext w w1 → Inv g s0 w1)
    (hSet : ∀ g s w1 (i : Nat) v, w.heap.size ≤ g → Inv g s w1 → Inv g s (w1.setCell ⟨g, i, none⟩ v))
    (hTell : ∀ g s w1 L, w.heap.size ≤ g → Inv g s w1 → OwI w1 g (.slice (some ⟨g, 0, none⟩) F F) L → L.length = F → Calls Tryz.prog T #[.slice (some ⟨g, 0, none⟩) F F, .pointer (some ⟨r, 0, none⟩)] w1 fun e w' => e = .returned (.bool (tell s L).2) ∧ Inv g (tell s L).1 w' ∧ w1.grownBy w' (some r)) :
    Calls Tryz.prog 32 #[.agg #[.slice A ns.length c, .slice B ls.length d], .slice X F xc, .int .i64 (nn : Int), .func (.func T) #[] #[.pointer (some ⟨r, 0, none⟩)]] w
      fun e w' => (∃ u, e = .returned u) ∧ (∃ g, w.heap.size ≤ g ∧ Inv g (sr tell (nbN ns ls) wish nn F s0 []).1 w') ∧ w.grownBy w' (some r) := by
  have hFl : F ≤ 40 := by have := vFaces_len ns ls; omega
  have hFp : 0 < F := by have := faces_pos hw; omega
  have HFF := Lib.hid hFF
  have HWW := Lib.hid hw
  have HNL : Hid (∀ j, nbN ns ls j < 2 ^ F) := Lib.hid (fun j => by rw [hFF]; exact nbN_lt hw j)
  have HTELL := Lib.hid hTell
  have HSET := Lib.hid hSet
  have HI0 := Lib.hid hI0
  obtain ⟨bW, oW, rfl, hbW, -⟩ := hX.gi_ (k := 0) (by omega)
  have HIW : Hid (∀ j, j < F → w.cell? ⟨bW, oW + j, none⟩ = some (.int .i64 (gi wish (j : Nat)))) := Lib.hid (fun j hj => by
    obtain ⟨b', o', e, _, q⟩ := hX.gi_ (k := j) (by omega)
    obtain ⟨rfl, rfl⟩ : b' = bW ∧ o' = oW := by simpa [eq_comm] using e
    exact q)
  have hbr : bW ≠ r := hXr _ _ rfl
  clear hwl hFF hXr hX hTell hSet hI0 hw
  obtain ⟨i0, hi, hz0, hz1, hz2⟩ := info_parts infoI4
  have hmk := fun W => run_mk1 (P := Tryz.prog) 28 3 i0 (.int .i64 0) Tryz.underlying28 hi hz0 hz1 rfl F (by rw [hz2]; omega) (by omega) W
  clear hi hz0 hz1 hz2
  go_enter Tryz.func32, Tryz.ntmps32
  go_wp2_with fail
  refine (neighbors_c _ _ _ _ ns ls _ (h.ext (by repeat first | exact Ext.refl _ | assumption | refine Ext.drew ?_ | refine Ext.alloc ?_ _ | refine Ext.setCell ?_ (by simp) | refine Ext.setCell ?_ (by simp; omega) | refine Ext.trans ?_ (by assumption))) HWW.out).mono ?_
  rintro e w1 ⟨v, rfl, hS, hb⟩
  have kw := hb.lit (b := w.heap.size + 1) (o := 0) (v := .slice (some ⟨bW, oW, none⟩) F xc) (by go_simp)
  have kn := hb.lit (b := w.heap.size + 1 + 1) (o := 0) (v := .int .i64 (nn : Int)) (by go_simp)
  have kt := hb.lit (b := w.heap.size + 1 + 1 + 1) (o := 0) (v := .func (.func T) #[] #[.pointer (some ⟨r, 0, none⟩)]) (by go_simp)
  have hx1 : Ext w w1 := (by repeat first | exact Ext.refl _ | assumption | refine Ext.drew ?_ | refine Ext.alloc ?_ _ | refine Ext.setCell ?_ (by simp) | refine Ext.setCell ?_ (by simp; omega) | refine Ext.trans ?_ (by assumption))
  have hs1 : w.heap.size + 1 + 1 + 1 < w1.heap.size := by have := hb.size; simp at this; omega
  obtain ⟨gS, cS, rfl, -, hgS, hgS2, -, -⟩ := hS.gi_ (j := 0) (by rw [vNb_len, ← HFF.out]; omega)
  have hgS' : w.heap.size + 1 + 1 + 1 < gS := by simp at hgS; omega
  have HIZ : Hid (∀ j, j < F → w1.cell? ⟨gS, j, none⟩ = some (.int .i64 (nbN ns ls j : Nat))) := Lib.hid (fun j hj => by
    have := (hS.cel (j := j) (by rw [vNb_len, ← HFF.out]; exact hj)).1
    rw [vNb_at (by rw [← HFF.out]; exact hj)] at this
    exact this)
  rw [vNb_len, ← HFF.out]
  clear hS hb hgS
  generalize hb1 : w.heap.size + 1 = b1 at *
  generalize hb2 : b1 + 1 = b2 at *
  generalize hb3 : b2 + 1 = b3 at *
  go_upto_region 2 with fail
  have kz : (w1.alloc (.cells #[.slice (some ⟨gS, 0, none⟩) F cS] 28)).cell? ⟨w1.heap.size, 0, none⟩ = some (.slice (some ⟨gS, 0, none⟩) F cS) := by go_simp
  have hx2 : Ext w1 (w1.alloc (.cells #[.slice (some ⟨gS, 0, none⟩) F cS] 28)) := (Ext.refl _).alloc _
  have hs2 : (w1.alloc (.cells #[.slice (some ⟨gS, 0, none⟩) F cS] 28)).heap.size = w1.heap.size + 1 := by simp
  generalize (w1.alloc (.cells #[.slice (some ⟨gS, 0, none⟩) F cS] 28)) = w2 at *
  have kw := hx2.lit kw
  have kn := hx2.lit kn
  have kt := hx2.lit kt
  go_upto_region 3 with fail
  generalize hg0 : w1.heap.size = gr at *
  have hL0 : OwI (w2.alloc (.cells (List.replicate F (Value.int .i64 0)).toArray 3)) (gr + 1) (.slice (some ⟨gr + 1, 0, none⟩) (List.replicate F (0 : Int)).length (List.replicate F (0 : Int)).length) (List.replicate F 0) := OwI.new (by rw [List.map_replicate]; exact Bk.new _ _ hs2.symm) (Nat.le_refl _) (by simp; unfold maxLen; omega)
  rw [List.length_replicate] at hL0
  have hre : (List.replicate F (Value.int .i64 0)).toArray = Array.replicate F (Value.int .i64 0) := by simp
  rw [hre] at hL0
  have hL0 := hL0.ext ((Ext.refl _).alloc (.cells #[.slice (some ⟨gr + 1, 0, none⟩) F F] 28))
  have kc : ((w2.alloc (.cells (Array.replicate F (Value.int .i64 0)) 3)).alloc (.cells #[.slice (some ⟨gr + 1, 0, none⟩) F F] 28)).cell? ⟨gr + 1 + 1, 0, none⟩ = some (.slice (some ⟨gr + 1, 0, none⟩) F F) := (Bk.new (w := w2.alloc (.cells (Array.replicate F (Value.int .i64 0)) 3)) 28 [.slice (some ⟨gr + 1, 0, none⟩) F F] (by simp [hs2])).cell 0
  have hx3 : Ext w2 ((w2.alloc (.cells (Array.replicate F (Value.int .i64 0)) 3)).alloc (.cells #[.slice (some ⟨gr + 1, 0, none⟩) F F] 28)) := ((Ext.refl _).alloc _).alloc _
  have hs3 : ((w2.alloc (.cells (Array.replicate F (Value.int .i64 0)) 3)).alloc (.cells #[.slice (some ⟨gr + 1, 0, none⟩) F F] 28)).heap.size = gr + 1 + 1 + 1 := by simp [hs2]
  generalize ((w2.alloc (.cells (Array.replicate F (Value.int .i64 0)) 3)).alloc (.cells #[.slice (some ⟨gr + 1, 0, none⟩) F F] 28)) = w3 at *
  have kw := hx3.lit kw
  have kn := hx3.lit kn
  have kt := hx3.lit kt
  have kz := hx3.lit kz
  clear hmk hre
  go_upto_region 4 with fail
  have hbk : Bk (w3.alloc (.cells #[.nilFunc] 72)) (gr + 1 + 1 + 1) 72 [.nilFunc] := Bk.new _ _ hs3.symm
  have hx4 : Ext w3 (w3.alloc (.cells #[.nilFunc] 72)) := (Ext.refl _).alloc _
  generalize (w3.alloc (.cells #[.nilFunc] 72)) = w4 at *
  have kp1 : w4.cell? ⟨gr + 1 + 1 + 1, 0, none⟩ = some .nilFunc := hbk.cell 0
  have kp2 := hbk.froz 0
  go_upto_region 5 with fail
  have kp : (w4.setCell ⟨gr + 1 + 1 + 1, 0, none⟩ (.func (.func 56) #[] #[.pointer (some ⟨gr + 1 + 1, 0, none⟩), .pointer (some ⟨b3, 0, none⟩), .pointer (some ⟨b2, 0, none⟩), .pointer (some ⟨b1, 0, none⟩), .pointer (some ⟨gr, 0, none⟩), .pointer (some ⟨gr + 1 + 1 + 1, 0, none⟩)])).cell? ⟨gr + 1 + 1 + 1, 0, none⟩ = some (.func (.func 56) #[] #[.pointer (some ⟨gr + 1 + 1, 0, none⟩), .pointer (some ⟨b3, 0, none⟩), .pointer (some ⟨b2, 0, none⟩), .pointer (some ⟨b1, 0, none⟩), .pointer (some ⟨gr, 0, none⟩), .pointer (some ⟨gr + 1 + 1 + 1, 0, none⟩)]) := (hbk.set_ 0 _).cell 0
  have hx5 := Ext.setCell (p := ⟨gr + 1 + 1 + 1, 0, none⟩) (v := .func (.func 56) #[] #[.pointer (some ⟨gr + 1 + 1, 0, none⟩), .pointer (some ⟨b3, 0, none⟩), .pointer (some ⟨b2, 0, none⟩), .pointer (some ⟨b1, 0, none⟩), .pointer (some ⟨gr, 0, none⟩), .pointer (some ⟨gr + 1 + 1 + 1, 0, none⟩)]) hx4 (by rw [hs3]; exact Nat.le_refl _)
  clear kp1 kp2 hbk hx4
  generalize w4.setCell ⟨gr + 1 + 1 + 1, 0, none⟩ (.func (.func 56) #[] #[.pointer (some ⟨gr + 1 + 1, 0, none⟩), .pointer (some ⟨b3, 0, none⟩), .pointer (some ⟨b2, 0, none⟩), .pointer (some ⟨b1, 0, none⟩), .pointer (some ⟨gr, 0, none⟩), .pointer (some ⟨gr + 1 + 1 + 1, 0, none⟩)]) = w5 at *
  go_wp2_with fail
  have hx25 := hx3.trans hx5
  have hx15 := hx2.trans hx25
  have hx05 := hx1.trans hx15
  refine (put_c tell (Inv (gr + 1)) (gr + 1) (gr + 1 + 1) b3 b2 b1 gr (gr + 1 + 1 + 1) F nn T r bW oW xc gS cS wish (nbN ns ls) hFl hn6 HNL.out (by omega) hT (fun s w L h1 h2 h3 => HTELL.out _ s w L (by omega) h1 h2 h3) (fun s w i v h1 => HSET.out _ s w i v (by omega) h1) F s0 [] (List.replicate F 0) 0 _ ⟨hx5.lit kc, hx5.lit kt, hx5.lit kn, hx5.lit kw, hx5.lit kz, kp, fun j hj => hx05.lit (HIW.out j hj), fun j hj => hx15.lit (HIZ.out j hj), by omega, by omega⟩ (HI0.out _ _ (by omega) hx05) (hL0.ext hx5) (by simp) (by simp) (by simp) (by simp)).mono ?_
  rintro e w7 ⟨L7, rfl, hI7, -, -, -, hK⟩
  have hg : w.grownBy w7 (some r) := ⟨hK.os.trans hx05.os, hK.tape.trans hx05.tape, hK.output.trans hx05.output, Nat.le_trans hx05.size hK.size, fun i hi h1 => (hK.block i (Nat.lt_of_lt_of_le hi hx05.size) (fun e => h1 (by rw [e])) (by omega)).trans (hx05.block i hi)⟩
  go_wp2
  go_end0
  exact ⟨⟨_, rfl⟩, ⟨_, by omega, hI7⟩, hg⟩
end Go.Proofs.YtdhmjhoaegdfjaaGreat
