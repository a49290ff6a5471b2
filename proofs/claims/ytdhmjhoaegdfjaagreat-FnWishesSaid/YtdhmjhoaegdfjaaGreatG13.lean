import Derived.Test.YtdhmjhoaegdfjaaGreatV9
import Derived.Test.YtdhmjhoaegdfjaaGreatB20
namespace Go.Proofs.YtdhmjhoaegdfjaaGreat
open Go.RowKit Go.Sort Go.BigFrame
/-! The cursor of the draws: a box (block gc) that turns. -/

theorem and255 (x : Int) : ∃ r : Nat, r < 256 ∧ bits .and .i64 x 255 = (r : Int) := by
  refine ⟨((BitVec.ofInt 64 x) &&& (BitVec.ofInt 64 255)).toNat, ?_, ?_⟩
  · have : ((BitVec.ofInt 64 x) &&& (BitVec.ofInt 64 255)).toNat ≤ (BitVec.ofInt 64 255).toNat := by
      rw [BitVec.toNat_and]; exact Nat.and_le_right
    have h : (BitVec.ofInt 64 255).toNat = 255 := by decide
    omega
  · have : ((BitVec.ofInt 64 x) &&& (BitVec.ofInt 64 255)).toNat ≤ (BitVec.ofInt 64 255).toNat := by
      rw [BitVec.toNat_and]; exact Nat.and_le_right
    have h : (BitVec.ofInt 64 255).toNat = 255 := by decide
    unfold bits
    show IntKind.wrap .i64 (((BitVec.ofInt 64 x) &&& (BitVec.ofInt 64 255)).toNat : Int) = _
    rw [IntKind.wrap_i64]
    omega

theorem bl_drewN {B : Nat} {a w : World} (h : Below B a w) (n : Nat) : Below B a (w.drewN n) := ⟨h.os, h.tape, h.output, h.size, h.block⟩
/-- all blocks but gc are kept -/
structure Kg (gc : Nat) (w w' : World) : Prop where
  sz : w.heap.size ≤ w'.heap.size
  bl : ∀ b, b < w.heap.size → b ≠ gc → w'.heap[b]? = w.heap[b]?
  ex : ∀ W, Ext W w → W.heap.size ≤ gc → Ext W w'
theorem Kg.of {gc : Nat} {w w' : World} (h : Ext w w') : Kg gc w w' := ⟨h.size, fun b hb _ => h.block b hb, fun _ hW _ => hW.trans h⟩
theorem Kg.refl (gc : Nat) (w : World) : Kg gc w w := Kg.of (Ext.refl w)
theorem Kg.trans {gc : Nat} {a b c : World} (h : Kg gc a b) (k : Kg gc b c) : Kg gc a c :=
  ⟨Nat.le_trans h.sz k.sz, fun i hi hne => (k.bl i (Nat.lt_of_lt_of_le hi h.sz) hne).trans (h.bl i hi hne), fun W hW hg => k.ex W (h.ex W hW hg) hg⟩
theorem Kg.set {gc : Nat} {w w' : World} (h : Kg gc w w') (i : Nat) (v : Value) : Kg gc w (w'.setCell ⟨gc, i, none⟩ v) :=
  ⟨by simpa using h.sz, fun b hb hne => (Below.heap_setCell w' ⟨gc, i, none⟩ v b (fun e => hne e)).trans (h.bl b hb hne), fun W hW hg => Ext.setCell (p := ⟨gc, i, none⟩) (h.ex W hW hg) hg⟩
theorem Kg.own {gc B sz n : Nat} {w w' : World} {e : TypeId} {v : Value} {cs : List Value} (k : Kg gc w w') (h : w.ownsRow B e sz v n cs) (hne : v.ownBlock ≠ some gc) : w'.ownsRow B e sz v n cs := by
  refine ⟨h.1, ?_⟩
  rcases h.2 with hn | ⟨g, cap, cur, rfl, hb, hg, rest⟩
  · exact .inl hn
  · have hlt := (World.ownsRow.lt h g rfl).2
    exact .inr ⟨g, cap, cur, rfl, hb, (k.bl g hlt (fun e => hne (by rw [← e]; rfl))).trans hg, rest⟩
theorem Kg.bk {gc g : Nat} {w w' : World} {t : TypeId} {cs : List Value} (k : Kg gc w w') (h : Bk w g t cs) (hne : g ≠ gc) : Bk w' g t cs := (k.bl g h.lt hne).trans h
theorem Kg.new {gc g : Nat} {w w' : World} (h : Kg gc w w') (hg : w.heap.size ≤ g) (i : Nat) (v : Value) : Kg gc w (w'.setCell ⟨g, i, none⟩ v) :=
  ⟨by simpa using h.sz, fun b hb hne => (Below.heap_setCell w' ⟨g, i, none⟩ v b (fun e => by have : b = g := e; omega)).trans (h.bl b hb hne), fun W hW hgc => Ext.setCell (p := ⟨g, i, none⟩) (h.ex W hW hgc) (Nat.le_trans hW.size hg)⟩
/-- the cursor: gc -/
structure Cu (w : World) (gc : Nat) : Prop where
  bx : ∃ (A : Option Addr) (n c : Nat) (i h : Int), 0 ≤ i ∧ i ≤ n ∧ n ≤ 9223372036854775807 ∧ Bk w gc 68 [.slice A n c, .int .i64 i, .int .i64 h] ∧ ∃ xs : List Int, Sl w gc 1 A n (xs.map (Value.int .u8))
theorem Cu.lt {w : World} {gc : Nat} (h : Cu w gc) : gc < w.heap.size := by
  obtain ⟨A, n, c, i, hh, _, _, _, hb, _⟩ := h.bx
  exact hb.lt
theorem Cu.ext {w w' : World} {gc : Nat} (h : Cu w gc) (hx : Ext w w') : Cu w' gc := by
  obtain ⟨A, n, c, i, hh, h1, h2, h3, hb, xs, hs⟩ := h.bx
  exact ⟨A, n, c, i, hh, h1, h2, h3, hb.ext hx, xs, hs.below (hx.mono (Nat.le_of_lt hb.lt))⟩
theorem Cu.far {w : World} {gc g : Nat} (h : Cu w gc) (hg : gc < g) (i : Nat) (v : Value) : Cu (w.setCell ⟨g, i, none⟩ v) gc := by
  obtain ⟨A, n, c, j, hh, h1, h2, h3, hb, xs, hs⟩ := h.bx
  exact ⟨A, n, c, j, hh, h1, h2, h3, hb.far (by show gc ≠ g; omega) v, xs, hs.below ((Below.refl gc w).setCell (p := ⟨g, i, none⟩) (by show gc ≤ g; omega) v)⟩
theorem Cu.own {w : World} {gc B : Nat} {t : TypeId} {v : Value} {l : List P2} (h : Cu w gc) (ho : OwP w B t v l) (hne : 68 ≠ t) : v.ownBlock ≠ some gc := by
  obtain ⟨A, n, c, i, hh, _, _, _, hb, _⟩ := h.bx
  exact OwP.nebk ho hb hne
/-- what the caller owns stays -/
theorem Cu.keep {w w' : World} {gc B : Nat} {t : TypeId} {v : Value} {l : List P2} (h : Cu w gc) (k : Kg gc w w') (ho : OwP w B t v l) (hne : 68 ≠ t) : OwP w' B t v l := k.own ho (h.own ho hne)
theorem Cu.nebk {w : World} {gc g : Nat} {t : TypeId} {cs : List Value} (h : Cu w gc) (hb : Bk w g t cs) (hne : t ≠ 68) : g ≠ gc := by
  rintro rfl
  obtain ⟨A, n, c, i, hh, _, _, _, hb', _⟩ := h.bx
  unfold Bk at hb hb'
  rw [hb] at hb'
  injection hb' with e
  injection e with _ e2
  exact hne e2
theorem Cu.bk {w w' : World} {gc g : Nat} {t : TypeId} {cs : List Value} (h : Cu w gc) (k : Kg gc w w') (hb : Bk w g t cs) (hne : t ≠ 68) : Bk w' g t cs := k.bk hb (h.nebk hb hne)
set_option maxRecDepth 100000 in
set_option maxHeartbeats 8000000 in
theorem l01Byte_s (w : World) (gc : Nat) (h : Cu w gc) :
    Calls Tryz.prog 68 #[.pointer (some ⟨gc, 0, none⟩)] w fun e w' => ∃ x : Nat, x < 256 ∧ e = .returned (.int .i64 (x : Int)) ∧ Cu w' gc ∧ Kg gc w w' := by
  obtain ⟨A, n, c, i, hh, hi0, hi1, hn, hb, xs, hs⟩ := h.bx
  have HB := Lib.hid hb
  have HS := Lib.hid hs
  clear hs
  have c0 : w.cell? ⟨gc, 0, none⟩ = some (.slice A n c) := hb.cell 0
  have c1 : w.cell? ⟨gc, 1, none⟩ = some (.int .i64 i) := hb.cell 1
  have c2 : w.cell? ⟨gc, 2, none⟩ = some (.int .i64 hh) := hb.cell 2
  have f2 := hb.froz 2
  clear hb h
  go_enter Tryz.func68, Tryz.ntmps68
  go_upto_region 2 with fail
  generalize wrap64 (wrap64 (hh * 6364136223846793005) + 1442695040888963407) = h2
  have HB1 := Lib.hid (HB.out.set_ 2 (.int .i64 h2))
  have HK1 := Lib.hid ((Kg.refl gc w).set 2 (.int .i64 h2))
  have HS1 := Lib.hid (show Sl (w.setCell ⟨gc, 2, none⟩ (.int .i64 h2)) gc 1 A n (xs.map (Value.int .u8)) from HS.out.below ((Below.refl gc w).setCell (p := ⟨gc, 2, none⟩) (Nat.le_refl _) _))
  clear HB HS c0 c1 c2 f2
  generalize w.setCell ⟨gc, 2, none⟩ (.int .i64 h2) = w1 at *
  have c0 : w1.cell? ⟨gc, 0, none⟩ = some (.slice A n c) := HB1.out.cell 0
  have c1 : w1.cell? ⟨gc, 1, none⟩ = some (.int .i64 i) := HB1.out.cell 1
  have c2 : w1.cell? ⟨gc, 2, none⟩ = some (.int .i64 h2) := HB1.out.cell 2
  have d0 := cell_regrown c0
  have d1 := cell_regrown c1
  have d2 := cell_regrown c2
  go_quiet (fail)
  go_wp2
  obtain ⟨r, hr, er⟩ := and255 (bits BinOp.xor IntKind.i64 (h2 / 8589934592) (h2 / 35184372088832))
  rw [er]
  by_cases hin : i < n
  · obtain ⟨k, rfl⟩ := Int.eq_ofNat_of_zero_le hi0
    have hk : k < n := by omega
    obtain ⟨b, off, rfl, hbl, hcs⟩ := HS1.out.2 (by omega)
    have hlen := HS1.out.1
    rw [List.length_map, Nat.mul_one] at hlen
    have cx := hcs k (.int .u8 xs[k]) (by simp [hlen, hk])
    generalize xs[k]'(by omega) = x at cx
    have dx := cell_regrown cx
    clear hcs
    go_quiet (fail)
    go_wp2
    go_quiet (fail)
    have f1 := HB1.out.froz 1
    obtain ⟨r2, hr2, er2⟩ := and255 (wrap64 (↑r + wrap64 x))
    rw [er2]
    go_wp2
    go_ret
    refine ⟨r2, hr2, rfl, ⟨some ⟨b, off, none⟩, n, c, (k : Int) + 1, h2, by omega, by omega, hn, ?_, xs, ?_⟩, ?_⟩
    · have := HB1.out.set_ 1 (.int .i64 ((k : Int) + 1))
      exact this
    · exact HS1.out.below ((bl_drewN (Below.refl gc w1) _).setCell (p := ⟨gc, 1, none⟩) (Nat.le_refl _) _)
    · exact (HK1.out.trans (Kg.of ((Ext.refl _).drewN _))).set 1 _
  · go_quiet (fail)
    go_wp2
    go_ret
    exact ⟨r, hr, rfl, ⟨A, n, c, i, h2, by omega, by omega, hn, HB1.out, xs, HS1.out⟩, HK1.out.trans (Kg.of ((Ext.refl _).drewN _))⟩
end Go.Proofs.YtdhmjhoaegdfjaaGreat

namespace Go.Proofs.YtdhmjhoaegdfjaaGreat
open Go.RowKit Go.Sort Go.BigFrame
set_option maxRecDepth 100000 in
set_option maxHeartbeats 8000000 in
theorem l01New_s (w : World) (A : Option Addr) (n c : Nat) (hn : n ≤ 9223372036854775807) (xs : List Int) (hs : Sl w w.heap.size 1 A n (xs.map (Value.int .u8))) :
    Calls Tryz.prog 25 #[.slice A n c] w fun e w' => ∃ gc, e = .returned (.pointer (some ⟨gc, 0, none⟩)) ∧ w.heap.size ≤ gc ∧ Cu w' gc ∧ Ext w w' := by
  have HS := Lib.hid hs
  clear hs
  have hlen := HS.out.1
  rw [List.length_map, Nat.mul_one] at hlen
  go_enter Tryz.func25, Tryz.ntmps25
  go_wp2
  go_loopw [3, 4] (fun hv iv wr => ∃ (h : Int) (k : Nat), hv = .int .i64 h ∧ iv = .int .i64 (k : Int) ∧ k ≤ n ∧ wr = w) (fun _ i _ => n - (intOf i).toNat)
  case atStart => exact ⟨_, 0, rfl, rfl, by omega, rfl⟩
  case round =>
    obtain ⟨h, k, rfl, rfl, hk, rfl⟩ := hrel
    by_cases hlt : k < n
    · by_cases h4 : k < 4000
      · obtain ⟨b, off, rfl, hbl, hcs⟩ := HS.out.2 (by omega)
        have cx := hcs k (.int .u8 xs[k]) (by simp [hlen, hlt])
        generalize xs[k]'(by omega) = x at cx
        clear hcs
        have hki : (k : Int) < n := by omega
        have hk4 : (k : Int) < 4000 := by omega
        go_wp2
        go_roundw
        case rel => exact ⟨_, k + 1, rfl, by go_num, by omega, trivial⟩
        case measure => first | (simp [intOf]; done) | (simp [intOf]; omega)
      · have hki : (k : Int) < n := by omega
        have hk4 : ¬ (k : Int) < 4000 := by omega
        go_wp2
        go_ret
        exact ⟨wr.heap.size, rfl, Nat.le_refl _, ⟨A, n, c, 0, h, by omega, by omega, hn, Bk.new _ _ rfl, xs, HS.out.below ((Below.refl _ wr).alloc (Nat.le_refl _) _)⟩, (Ext.refl _).alloc _⟩
    · have hki : ¬ (k : Int) < n := by omega
      go_wp2
      go_ret
      exact ⟨wr.heap.size, rfl, Nat.le_refl _, ⟨A, n, c, 0, h, by omega, by omega, hn, Bk.new _ _ rfl, xs, HS.out.below ((Below.refl _ wr).alloc (Nat.le_refl _) _)⟩, (Ext.refl _).alloc _⟩
set_option maxRecDepth 100000 in
set_option maxHeartbeats 8000000 in
theorem l01Below_s (w : World) (gc : Nat) (h : Cu w gc) (nn : Int) (h256 : nn ≤ 256) :
    Calls Tryz.prog 51 #[.pointer (some ⟨gc, 0, none⟩), .int .i64 nn] w fun e w' => ∃ r : Nat, e = .returned (.int .i64 (r : Int)) ∧ (0 < nn → (r : Int) < nn) ∧ (nn ≤ 0 → r = 0) ∧ Cu w' gc ∧ Kg gc w w' := by
  have HC := Lib.hid h
  clear h
  by_cases h0 : nn ≤ 0
  · skip
    go_enter Tryz.func51, Tryz.ntmps51
    go_wp2
    go_ret
    exact ⟨0, rfl, fun e => by omega, fun _ => rfl, HC.out, Kg.refl _ _⟩
  · skip
    go_enter Tryz.func51, Tryz.ntmps51
    go_wp2_with fail
    refine (l01Byte_s _ gc HC.out).mono ?_
    rintro e w1 ⟨x, hx, rfl, hC, hK⟩
    go_wp2
    go_ret
    have hp := Int.emod_nonneg (x : Int) (show nn ≠ 0 by omega)
    have hl := Int.emod_lt_of_pos (x : Int) (show 0 < nn by omega)
    obtain ⟨r, er⟩ := Int.eq_ofNat_of_zero_le hp
    exact ⟨r, ret_i er, fun _ => by omega, fun e => by omega, hC, hK⟩
set_option maxRecDepth 100000 in
set_option maxHeartbeats 8000000 in
theorem l01Once_s (w : World) (gc : Nat) (h : Cu w gc) (nn : Int) (h256 : nn ≤ 256) :
    Calls Tryz.prog 66 #[.pointer (some ⟨gc, 0, none⟩), .int .i64 nn] w fun e w' => ∃ b : Bool, e = .returned (.bool b) ∧ Cu w' gc ∧ Kg gc w w' := by
  go_enter Tryz.func66, Tryz.ntmps66
  go_wp2_with fail
  refine (l01Below_s _ gc h nn h256).mono ?_
  rintro e w1 ⟨r, rfl, -, -, hC, hK⟩
  go_wp2
  go_ret
  exact ⟨_, rfl, hC, hK⟩
set_option maxRecDepth 100000 in
set_option maxHeartbeats 8000000 in
theorem l02Node_s (w : World) (gc : Nat) (h : Cu w gc) :
    Calls Tryz.prog 84 #[.pointer (some ⟨gc, 0, none⟩)] w fun e w' => ∃ x y : Int, e = .returned (.agg #[.int .i64 x, .int .i64 y]) ∧ Cu w' gc ∧ Kg gc w w' := by
  have HC := Lib.hid (h.ext ((Ext.refl w).alloc (.cells #[.int .i64 0, .int .i64 0] 79)))
  have HB := Lib.hid (Bk.new (w := w) 79 [.int .i64 0, .int .i64 0] rfl)
  have HX := Lib.hid ((Ext.refl w).alloc (.cells #[.int .i64 0, .int .i64 0] 79))
  have HGC := Lib.hid h.lt
  clear h
  go_enter Tryz.func84, Tryz.ntmps84
  go_upto_region 1 with fail
  change Hid (Bk (w.alloc (.cells #[.int .i64 0, .int .i64 0] 79)) w.heap.size 79 [.int .i64 0, .int .i64 0]) at HB
  generalize w.alloc (.cells #[.int .i64 0, .int .i64 0] 79) = w0 at *
  generalize hgq : w.heap.size = g0 at *
  have HG := Lib.hid hgq
  clear hgq
  go_wp2_with fail
  refine (l01Below_s _ gc HC.out 13 (by omega)).mono ?_
  rintro e w1 ⟨x, rfl, -, -, hC1, hK1⟩
  have HB1 := Lib.hid (HC.out.bk hK1 HB.out (by decide))
  go_wp2_with fail
  refine (l01Below_s _ gc hC1 13 (by omega)).mono ?_
  rintro e w2 ⟨y, rfl, -, -, hC2, hK2⟩
  have HB2 := Lib.hid (hC1.bk hK2 HB1.out (by decide))
  have r0 := HB2.out.cell 0
  have r1 := HB2.out.cell 1
  have f0 := HB2.out.froz 0
  have f1 := HB2.out.froz 1
  have HB3 := Lib.hid ((HB2.out.set_ 0 (.int .i64 (x : Int))).set_ 1 (.int .i64 (y : Int)))
  have q0 := HB3.out.cell 0
  have q1 := HB3.out.cell 1
  simp only [List.set_cons_zero, List.set_cons_succ, List.getElem?_cons_zero, List.getElem?_cons_succ] at r0 r1 q0 q1
  go_wp2
  (try simp only [Exit.inBlock, Exit.then])
  refine bodyPost_ret (by simp [results, Tryz.results84, go_sem, q0, q1]; try rfl) rfl ?_
  have hlt : gc < g0 := by exact HGC.out
  exact ⟨x, y, rfl, (hC2.far hlt 0 _).far hlt 1 _, (((Kg.of HX.out).trans (hK1.trans hK2)).new (by rw [HG.out]; exact Nat.le_refl _) 0 _).new (by rw [HG.out]; exact Nat.le_refl _) 1 _⟩
end Go.Proofs.YtdhmjhoaegdfjaaGreat

namespace Go.Proofs.YtdhmjhoaegdfjaaGreat
open Go.RowKit Go.Sort Go.BigFrame
/-- the window less lead k -/
def vDropLead (ns ls : List P2) (k : Int) : (List P2 × List P2) × Bool := if wok ns ls = true ∧ wi k 0 (ls.length - 1) = true then ((ns, ls.take k.toNat ++ ls.drop (k.toNat + 1)), true) else ((ns, ls), false)
set_option maxRecDepth 100000 in
set_option maxHeartbeats 8000000 in
theorem DropLead_s (A B : Option Addr) (c d : Nat) (ns ls : List P2) (k : Int) (w : World) (h : Wn w A c B d ns ls) :
    Calls Tryz.prog 81 #[.agg #[.slice A ns.length c, .slice B ls.length d], .int .i64 k] w fun e w' => ∃ v1 v2, e = .returned (.tuple #[.agg #[v1, v2], .bool (vDropLead ns ls k).2]) ∧ OwP w' w.heap.size 79 v1 (vDropLead ns ls k).1.1 ∧ OwP w' w.heap.size 81 v2 (vDropLead ns ls k).1.2 ∧ Ext w w' := by
  have hnl := h.hl
  have hml := h.hm
  have HV : Hid (vDropLead ns ls k = if wok ns ls = true ∧ wi k 0 (ls.length - 1) = true then ((ns, ls.take k.toNat ++ ls.drop (k.toNat + 1)), true) else ((ns, ls), false)) := Lib.hid rfl
  cases hwo : wok ns ls with
  | false =>
    rw [if_neg (by rw [hwo]; simp)] at HV
    go_enter Tryz.func81, Tryz.ntmps81
    go_upto_region 1 with fail
    have k0 : ((w.alloc (.cells #[.slice A ns.length c, .slice B ls.length d] 27)).alloc (.cells #[.slice none 0 0, .slice none 0 0] 27)).cell? ⟨w.heap.size, 0, none⟩ = some (.slice A ns.length c) := by go_simp
    have k1 : ((w.alloc (.cells #[.slice A ns.length c, .slice B ls.length d] 27)).alloc (.cells #[.slice none 0 0, .slice none 0 0] 27)).cell? ⟨w.heap.size, 1, none⟩ = some (.slice B ls.length d) := by go_simp
    have HR := Lib.hid (Bk.new (w := w.alloc (.cells #[.slice A ns.length c, .slice B ls.length d] 27)) (g := w.heap.size + 1) 27 [.slice none 0 0, .slice none 0 0] (by simp))
    have hx : Ext w ((w.alloc (.cells #[.slice A ns.length c, .slice B ls.length d] 27)).alloc (.cells #[.slice none 0 0, .slice none 0 0] 27)) := ((Ext.refl _).alloc _).alloc _
    change Hid (Bk ((w.alloc (.cells #[.slice A ns.length c, .slice B ls.length d] 27)).alloc (.cells #[.slice none 0 0, .slice none 0 0] 27)) (w.heap.size + 1) 27 [.slice none 0 0, .slice none 0 0]) at HR
    generalize ((w.alloc (.cells #[.slice A ns.length c, .slice B ls.length d] 27)).alloc (.cells #[.slice none 0 0, .slice none 0 0] 27)) = w0 at *
    generalize hb1 : w.heap.size + 1 = b1 at *
    go_wp2_with fail
    refine (copy_s_l04Copy _ _ _ _ ns ls _ (h.ext hx)).mono ?_
    rintro e w1 ⟨v7, v8, rfl, o7, o8, -, hb⟩
    obtain ⟨A7, c7, rfl, -, -, -⟩ := o7.shape
    obtain ⟨A8, c8, rfl, -, -, -⟩ := o8.shape
    have k0 := hb.lit k0
    have k1 := hb.lit k1
    have HR := Lib.hid (HR.out.ext hb)
    have hbg := HR.out.lt
    go_upto_region 2 with fail
    have HB6 := Lib.hid (Bk.new (w := w1) (g := w1.heap.size) 27 [.slice A7 ns.length c7, .slice A8 ls.length c8] rfl)
    have hb2 := (Ext.refl w1).alloc (.cells #[.slice A7 ns.length c7, .slice A8 ls.length c8] 27)
    change Hid (Bk (w1.alloc (.cells #[.slice A7 ns.length c7, .slice A8 ls.length c8] 27)) w1.heap.size 27 [.slice A7 ns.length c7, .slice A8 ls.length c8]) at HB6
    have k0 := hb2.lit k0
    have k1 := hb2.lit k1
    have HR := Lib.hid (HR.out.ext hb2)
    have O7 : Hid (OwP (w1.alloc (.cells #[.slice A7 ns.length c7, .slice A8 ls.length c8] 27)) w.heap.size 79 (.slice A7 ns.length c7) ns) := Lib.hid (ow_more (o7.ext2 hb2) hx.size)
    have O8 : Hid (OwP (w1.alloc (.cells #[.slice A7 ns.length c7, .slice A8 ls.length c8] 27)) w.heap.size 81 (.slice A8 ls.length c8) ls) := Lib.hid (ow_more (o8.ext2 hb2) hx.size)
    have hg6 : w.heap.size ≤ w1.heap.size := Nat.le_trans hx.size hb.size
    have HX := Lib.hid (hx.trans (hb.trans hb2))
    clear o7 o8 hx hb hb2
    generalize (w1.alloc (.cells #[.slice A7 ns.length c7, .slice A8 ls.length c8] 27)) = w2 at *
    generalize w1.heap.size = g6 at *
    have hb1s : w.heap.size ≤ b1 := by omega
    go_wp2_with fail
    refine (WindowOk_s' (h.ext HX.out)).mono ?_
    rintro e w3 ⟨rfl, hb⟩
    have k0 := hb.lit k0
    have k1 := hb.lit k1
    have HR := Lib.hid (HR.out.ext hb)
    have HB6 := Lib.hid (HB6.out.ext hb)
    have O7 := Lib.hid (O7.out.ext2 hb)
    have O8 := Lib.hid (O8.out.ext2 hb)
    have HX := Lib.hid (HX.out.trans hb)
    clear hb
    rw [hwo]
    have r0 := HR.out.cell 0
    have r1 := HR.out.cell 1
    have f0 := HR.out.froz 0
    have f1 := HR.out.froz 1
    have a0 := HB6.out.cell 0
    have a1 := HB6.out.cell 1
    simp only [List.getElem?_cons_zero, List.getElem?_cons_succ] at r0 r1 a0 a1
    go_wp2
    (try simp only [Exit.inBlock, Exit.then])
    refine bodyPost_ret (by simp [results, Tryz.results81, go_sem, r0, r1]; try rfl) rfl ?_
    refine ⟨_, _, ret_wb (by rw [HV.out]), ?_, ?_, (HX.out.setCell (p := ⟨b1, 0, none⟩) hb1s).setCell (p := ⟨b1, 1, none⟩) hb1s⟩
    all_goals rw [HV.out]
    · exact (O7.out.far HR.out (by decide) 0 _).far (HR.out.set_ 0 _) (by decide) 1 _
    · exact (O8.out.far HR.out (by decide) 0 _).far (HR.out.set_ 0 _) (by decide) 1 _
  | true =>
    cases hwi : wi k 0 (ls.length - 1) with
    | false =>
      rw [if_neg (by rw [hwi]; simp)] at HV
      go_enter Tryz.func81, Tryz.ntmps81
      go_upto_region 1 with fail
      have k0 : ((w.alloc (.cells #[.slice A ns.length c, .slice B ls.length d] 27)).alloc (.cells #[.slice none 0 0, .slice none 0 0] 27)).cell? ⟨w.heap.size, 0, none⟩ = some (.slice A ns.length c) := by go_simp
      have k1 : ((w.alloc (.cells #[.slice A ns.length c, .slice B ls.length d] 27)).alloc (.cells #[.slice none 0 0, .slice none 0 0] 27)).cell? ⟨w.heap.size, 1, none⟩ = some (.slice B ls.length d) := by go_simp
      have HR := Lib.hid (Bk.new (w := w.alloc (.cells #[.slice A ns.length c, .slice B ls.length d] 27)) (g := w.heap.size + 1) 27 [.slice none 0 0, .slice none 0 0] (by simp))
      have hx : Ext w ((w.alloc (.cells #[.slice A ns.length c, .slice B ls.length d] 27)).alloc (.cells #[.slice none 0 0, .slice none 0 0] 27)) := ((Ext.refl _).alloc _).alloc _
      change Hid (Bk ((w.alloc (.cells #[.slice A ns.length c, .slice B ls.length d] 27)).alloc (.cells #[.slice none 0 0, .slice none 0 0] 27)) (w.heap.size + 1) 27 [.slice none 0 0, .slice none 0 0]) at HR
      generalize ((w.alloc (.cells #[.slice A ns.length c, .slice B ls.length d] 27)).alloc (.cells #[.slice none 0 0, .slice none 0 0] 27)) = w0 at *
      generalize hb1 : w.heap.size + 1 = b1 at *
      go_wp2_with fail
      refine (copy_s_l04Copy _ _ _ _ ns ls _ (h.ext hx)).mono ?_
      rintro e w1 ⟨v7, v8, rfl, o7, o8, -, hb⟩
      obtain ⟨A7, c7, rfl, -, -, -⟩ := o7.shape
      obtain ⟨A8, c8, rfl, -, -, -⟩ := o8.shape
      have k0 := hb.lit k0
      have k1 := hb.lit k1
      have HR := Lib.hid (HR.out.ext hb)
      have hbg := HR.out.lt
      go_upto_region 2 with fail
      have HB6 := Lib.hid (Bk.new (w := w1) (g := w1.heap.size) 27 [.slice A7 ns.length c7, .slice A8 ls.length c8] rfl)
      have hb2 := (Ext.refl w1).alloc (.cells #[.slice A7 ns.length c7, .slice A8 ls.length c8] 27)
      change Hid (Bk (w1.alloc (.cells #[.slice A7 ns.length c7, .slice A8 ls.length c8] 27)) w1.heap.size 27 [.slice A7 ns.length c7, .slice A8 ls.length c8]) at HB6
      have k0 := hb2.lit k0
      have k1 := hb2.lit k1
      have HR := Lib.hid (HR.out.ext hb2)
      have O7 : Hid (OwP (w1.alloc (.cells #[.slice A7 ns.length c7, .slice A8 ls.length c8] 27)) w.heap.size 79 (.slice A7 ns.length c7) ns) := Lib.hid (ow_more (o7.ext2 hb2) hx.size)
      have O8 : Hid (OwP (w1.alloc (.cells #[.slice A7 ns.length c7, .slice A8 ls.length c8] 27)) w.heap.size 81 (.slice A8 ls.length c8) ls) := Lib.hid (ow_more (o8.ext2 hb2) hx.size)
      have hg6 : w.heap.size ≤ w1.heap.size := Nat.le_trans hx.size hb.size
      have HX := Lib.hid (hx.trans (hb.trans hb2))
      clear o7 o8 hx hb hb2
      generalize (w1.alloc (.cells #[.slice A7 ns.length c7, .slice A8 ls.length c8] 27)) = w2 at *
      generalize w1.heap.size = g6 at *
      have hb1s : w.heap.size ≤ b1 := by omega
      go_wp2_with fail
      refine (WindowOk_s' (h.ext HX.out)).mono ?_
      rintro e w3 ⟨rfl, hb⟩
      have k0 := hb.lit k0
      have k1 := hb.lit k1
      have HR := Lib.hid (HR.out.ext hb)
      have HB6 := Lib.hid (HB6.out.ext hb)
      have O7 := Lib.hid (O7.out.ext2 hb)
      have O8 := Lib.hid (O8.out.ext2 hb)
      have HX := Lib.hid (HX.out.trans hb)
      clear hb
      rw [hwo]
      go_wp2_with fail
      refine (l01In_c _ _ _ _).mono ?_
      rw [hwi]
      rintro e w4 ⟨rfl, rfl⟩
      have r0 := HR.out.cell 0
      have r1 := HR.out.cell 1
      have f0 := HR.out.froz 0
      have f1 := HR.out.froz 1
      have a0 := HB6.out.cell 0
      have a1 := HB6.out.cell 1
      simp only [List.getElem?_cons_zero, List.getElem?_cons_succ] at r0 r1 a0 a1
      go_wp2
      (try simp only [Exit.inBlock, Exit.then])
      refine bodyPost_ret (by simp [results, Tryz.results81, go_sem, r0, r1]; try rfl) rfl ?_
      refine ⟨_, _, ret_wb (by rw [HV.out]), ?_, ?_, (HX.out.setCell (p := ⟨b1, 0, none⟩) hb1s).setCell (p := ⟨b1, 1, none⟩) hb1s⟩
      all_goals rw [HV.out]
      · exact (O7.out.far HR.out (by decide) 0 _).far (HR.out.set_ 0 _) (by decide) 1 _
      · exact (O8.out.far HR.out (by decide) 0 _).far (HR.out.set_ 0 _) (by decide) 1 _
    | true =>
      rw [if_pos ⟨hwo, hwi⟩] at HV
      obtain ⟨q1, q2⟩ := wi_iffV.1 hwi
      obtain ⟨kk, rfl⟩ := Int.eq_ofNat_of_zero_le q1
      have hkk : kk < ls.length := by omega
      have hcc := h.hd
      have hkc : kk + 1 ≤ d := by omega
      obtain ⟨i0, hi0, -, -, -⟩ := info_parts (infoL)
      have HTL : Hid (kk = (ls.take kk).length) := Lib.hid (by simp; omega)
      have HDL : Hid (ls.length - (kk + 1) = (ls.drop (kk + 1)).length) := Lib.hid (by simp)
      have HLT : Hid ((ls.take kk).length ≤ 2000000) := Lib.hid (by simp; omega)
      have HLD : Hid ((ls.drop (kk + 1)).length ≤ 2000000) := Lib.hid (by simp; omega)
      have hdm := h.hdm
      go_enter Tryz.func81, Tryz.ntmps81
      go_upto_region 1 with fail
      have k0 : ((w.alloc (.cells #[.slice A ns.length c, .slice B ls.length d] 27)).alloc (.cells #[.slice none 0 0, .slice none 0 0] 27)).cell? ⟨w.heap.size, 0, none⟩ = some (.slice A ns.length c) := by go_simp
      have k1 : ((w.alloc (.cells #[.slice A ns.length c, .slice B ls.length d] 27)).alloc (.cells #[.slice none 0 0, .slice none 0 0] 27)).cell? ⟨w.heap.size, 1, none⟩ = some (.slice B ls.length d) := by go_simp
      have HR := Lib.hid (Bk.new (w := w.alloc (.cells #[.slice A ns.length c, .slice B ls.length d] 27)) (g := w.heap.size + 1) 27 [.slice none 0 0, .slice none 0 0] (by simp))
      have hx : Ext w ((w.alloc (.cells #[.slice A ns.length c, .slice B ls.length d] 27)).alloc (.cells #[.slice none 0 0, .slice none 0 0] 27)) := ((Ext.refl _).alloc _).alloc _
      change Hid (Bk ((w.alloc (.cells #[.slice A ns.length c, .slice B ls.length d] 27)).alloc (.cells #[.slice none 0 0, .slice none 0 0] 27)) (w.heap.size + 1) 27 [.slice none 0 0, .slice none 0 0]) at HR
      generalize ((w.alloc (.cells #[.slice A ns.length c, .slice B ls.length d] 27)).alloc (.cells #[.slice none 0 0, .slice none 0 0] 27)) = w0 at *
      generalize hb1 : w.heap.size + 1 = b1 at *
      go_wp2_with fail
      refine (copy_s_l04Copy _ _ _ _ ns ls _ (h.ext hx)).mono ?_
      rintro e w1 ⟨v7, v8, rfl, o7, o8, -, hb⟩
      obtain ⟨A7, c7, rfl, -, -, -⟩ := o7.shape
      obtain ⟨A8, c8, rfl, -, -, -⟩ := o8.shape
      have k0 := hb.lit k0
      have k1 := hb.lit k1
      have HR := Lib.hid (HR.out.ext hb)
      have hbg := HR.out.lt
      go_upto_region 2 with fail
      have HB6 := Lib.hid (Bk.new (w := w1) (g := w1.heap.size) 27 [.slice A7 ns.length c7, .slice A8 ls.length c8] rfl)
      have hb2 := (Ext.refl w1).alloc (.cells #[.slice A7 ns.length c7, .slice A8 ls.length c8] 27)
      change Hid (Bk (w1.alloc (.cells #[.slice A7 ns.length c7, .slice A8 ls.length c8] 27)) w1.heap.size 27 [.slice A7 ns.length c7, .slice A8 ls.length c8]) at HB6
      have k0 := hb2.lit k0
      have k1 := hb2.lit k1
      have HR := Lib.hid (HR.out.ext hb2)
      have O7 : Hid (OwP (w1.alloc (.cells #[.slice A7 ns.length c7, .slice A8 ls.length c8] 27)) w.heap.size 79 (.slice A7 ns.length c7) ns) := Lib.hid (ow_more (o7.ext2 hb2) hx.size)
      have O8 : Hid (OwP (w1.alloc (.cells #[.slice A7 ns.length c7, .slice A8 ls.length c8] 27)) w.heap.size 81 (.slice A8 ls.length c8) ls) := Lib.hid (ow_more (o8.ext2 hb2) hx.size)
      have hg6 : w.heap.size ≤ w1.heap.size := Nat.le_trans hx.size hb.size
      have HX := Lib.hid (hx.trans (hb.trans hb2))
      clear o7 o8 hx hb hb2
      generalize (w1.alloc (.cells #[.slice A7 ns.length c7, .slice A8 ls.length c8] 27)) = w2 at *
      generalize w1.heap.size = g6 at *
      have hb1s : w.heap.size ≤ b1 := by omega
      go_wp2_with fail
      refine (WindowOk_s' (h.ext HX.out)).mono ?_
      rintro e w3 ⟨rfl, hb⟩
      have k0 := hb.lit k0
      have k1 := hb.lit k1
      have HR := Lib.hid (HR.out.ext hb)
      have HB6 := Lib.hid (HB6.out.ext hb)
      have O7 := Lib.hid (O7.out.ext2 hb)
      have O8 := Lib.hid (O8.out.ext2 hb)
      have HX := Lib.hid (HX.out.trans hb)
      clear hb
      rw [hwo]
      go_wp2_with fail
      refine (l01In_c _ _ _ _).mono ?_
      rw [hwi]
      rintro e w4 ⟨rfl, rfl⟩
      have HPW := Lib.hid (h.ext HX.out).g
      have HPT := Lib.hid ((h.ext HX.out).g.take kk)
      go_upto_region 4 with fail
      have d1 := cell_regrown k1
      obtain ⟨w2, rfl⟩ : ∃ x : World, x = w3 := ⟨_, rfl⟩
      refine rx_open [(false, 0, some 22, 0), (true, 0, some 23, 4), (true, 2, some 24, 8388608), (true, 0, some 25, 2), (false, 12, some 26, 50331648), (false, 17, some 27, 71303168), (true, 0, some 28, 4), (true, 64, some 29, 268435456), (true, 0, some 30, 2), (true, 256, some 31, 1073741824), (false, 640, some 32, 2684354560), (false, 1056, some 33, 4429185024), (true, 4095, some 34, 64), (false, 8191, none, 25769803776)] 8192 14 mixd rfl (by kernel_rfl) (by kernel_rfl) (by kernel_rfl) ?_
      have hxc := Ext.drew (Ext.refl w2)
      obtain ⟨wz, hwz⟩ : ∃ x : World, x = w2.drew := ⟨_, rfl⟩
      rw [← hwz]
      rw [← hwz] at hxc
      clear hwz
      refine rx_run (run := [1, 2, 3, 6, 7, 8, 9]) (k := 7) (m' := 974) rfl (by kernel_rfl) (by kernel_rfl) (by kernel_rfl) (fm_cons rfl <| fm_cons rfl <| fm_cons rfl <| fm_cons rfl <| fm_cons rfl <| fm_cons rfl <| fm_cons rfl <| List.filterMap_nil) hxc ?_
      repeat (go_big_quiet_step ((fail)))
      refine wpQuiet_nil ?_
      refine rx_slHi 4 (k := 6) (m' := 990) rfl rfl (by decide) (by kernel_rfl) (by kernel_rfl) rfl hxc rfl rfl rfl (q := kk) rfl (by omega) Tryz.underlying25 hi0 ?_
      refine rx_slLo 10 (k := 5) (m' := 2014) rfl rfl (by decide) (by kernel_rfl) (by kernel_rfl) rfl hxc rfl rfl rfl (q := kk + 1) rfl (by omega) Tryz.underlying25 infoL ?_
      intro A0 hA0
      have HPD := Lib.hid (hA0 _ _ _ HPW.out rfl hcc)
      clear hA0
      refine rx_op 0 (k := 4) (m' := 2015) rfl rfl (by kernel_rfl) (by kernel_rfl) ?_
      go_wp2
      refine rx_on (Ext.alloc hxc _) ?_
      have hgB := hxc.size
      generalize hgz : wz.heap.size = gz at hgB
      refine rx_genE hgz ?_
      intro wa hbn HZ
      have HZ := Lib.hid (show OwP wa w2.heap.size 81 (.slice (some ⟨gz, 0, none⟩) 0 0) [] from ow_more HZ hgB)
      replace hxc := hxc.trans hbn
      clear hbn hgz hgB
      refine rx_op 5 (k := 3) (m' := 2047) rfl rfl (by kernel_rfl) (by kernel_rfl) ?_
      go_wp2_with (at_builtin; refine az_fresh (v := .slice (some ⟨gz, 0, none⟩) 0 0) (B := w2.heap.size) 25 81 Tryz.underlying25 infoL _ _ rfl rfl rfl HZ.out ⟨_, rfl⟩ rfl HTL.out (HPT.out.ext hxc) HLT.out hxc.size ?_; intro v1 wb hv1 hb4 hd1; obtain ⟨A1, c1, e1, -, -, -⟩ := hv1.shape; rw [← HTL.out] at e1; subst e1)
      have HZ := Lib.hid hv1
      refine rx_on (hxc.trans hb4) ?_
      replace hxc := hxc.trans hb4
      clear hb4 hd1 hv1
      refine rx_op 11 (k := 2) (m' := 4095) rfl rfl (by kernel_rfl) (by kernel_rfl) ?_
      go_wp2_with (at_builtin; refine az_src 25 81 Tryz.underlying25 infoL _ _ rfl rfl (v := .slice A1 kk c1) rfl HZ.out rfl HDL.out (HPD.out.ext hxc) HLT.out HLD.out hxc.size ?_; intro v5 wc r5 h5 h5e h5g h5r; obtain ⟨A5, c5, e5, -, -, -⟩ := h5.shape; subst e5)
      have hx5 := h5e w2 hxc (Nat.le_refl _)
      refine rx_on hx5 ?_
      replace hxc := hx5
      have HZ := Lib.hid h5
      clear h5 h5e h5g h5r hx5
      refine rx_op 12 (k := 1) (m' := 8191) rfl rfl (by kernel_rfl) (by kernel_rfl) ?_
      go_wp2
      refine rx_on hxc ?_
      have HB6 := Lib.hid (HB6.out.ext hxc)
      have a60 := HB6.out.cell 0
      have a61 := HB6.out.cell 1
      have f60 := HB6.out.froz 0
      have f61 := HB6.out.froz 1
      refine rx_op 13 (k := 0) (m' := 16383) rfl rfl (by kernel_rfl) (by kernel_rfl) ?_
      go_wp2
      refine rx_lst (by decide) ?_
      refine rx_end (by kernel_rfl) ?_
      skip
      have hl5 : min kk ls.length + (ls.length - (kk + 1)) = (ls.take kk ++ ls.drop (kk + 1)).length := by simp
      generalize min kk ls.length + (ls.length - (kk + 1)) = nL at *
      obtain ⟨vq, hvq⟩ : ∃ v, v = Value.slice A5 nL c5 := ⟨_, rfl⟩
      obtain ⟨w5, hw5⟩ : ∃ x : World, x = wc.setCell ⟨g6, 1, none⟩ vq := ⟨_, rfl⟩
      have HZ1 : Hid (OwP w5 w.heap.size 81 vq (ls.take kk ++ ls.drop (kk + 1))) := Lib.hid (by
        rw [hw5]
        refine OwP.far (t := 81) ?_ HB6.out (by decide) 1 _
        rw [hvq, hl5]
        exact ow_more HZ.out HX.out.size)
      have O71 : Hid (OwP w5 w.heap.size 79 (.slice A7 ns.length c7) ns) := Lib.hid (by
        rw [hw5]
        exact (O7.out.ext2 hxc).far HB6.out (by decide) 1 _)
      have HB71 : Hid (Bk w5 g6 27 [.slice A7 ns.length c7, vq]) := Lib.hid (by rw [hw5]; exact HB6.out.set_ 1 _)
      have HR1 : Hid (Bk w5 b1 27 [.slice none 0 0, .slice none 0 0]) := Lib.hid (by rw [hw5]; exact (HR.out.ext hxc).far (by show b1 ≠ g6; omega) _)
      have HX1 : Hid (Ext w w5) := Lib.hid (by rw [hw5]; exact (HX.out.trans hxc).setCell (p := ⟨g6, 1, none⟩) hg6)
      rw [← hvq, ← hw5]
      clear a60 a61 f60 f61 HB6 HZ HR O7 O8 HX hxc hw5 hl5
      have r0 := HR1.out.cell 0
      have r1 := HR1.out.cell 1
      have f0 := HR1.out.froz 0
      have f1 := HR1.out.froz 1
      have a0 := HB71.out.cell 0
      have a1 := HB71.out.cell 1
      simp only [List.getElem?_cons_zero, List.getElem?_cons_succ] at r0 r1 a0 a1
      subst hvq
      go_wp2
      (try simp only [Exit.inBlock, Exit.then])
      refine bodyPost_ret (by simp [results, Tryz.results81, go_sem, r0, r1]; try rfl) rfl ?_
      refine ⟨_, _, ret_wb (by rw [HV.out]), ?_, ?_, (HX1.out.setCell (p := ⟨b1, 0, none⟩) hb1s).setCell (p := ⟨b1, 1, none⟩) hb1s⟩
      all_goals rw [HV.out]
      · exact (O71.out.far HR1.out (by decide) 0 _).far (HR1.out.set_ 0 _) (by decide) 1 _
      · exact (HZ1.out.far HR1.out (by decide) 0 _).far (HR1.out.set_ 0 _) (by decide) 1 _
end Go.Proofs.YtdhmjhoaegdfjaaGreat

namespace Go.Proofs.YtdhmjhoaegdfjaaGreat
open Go.RowKit Go.Sort Go.BigFrame
/-- the window with a lead more -/
def vAddLead (ns ls : List P2) (a b : Int) : (List P2 × List P2) × Bool := if wok ns ls = true ∧ wok ns (ls ++ [(imin a b, imax a b)]) = true then ((ns, ls ++ [(imin a b, imax a b)]), true) else ((ns, ls), false)
set_option maxRecDepth 100000 in
set_option maxHeartbeats 8000000 in
theorem AddLead_s (A B : Option Addr) (c d : Nat) (ns ls : List P2) (x y : Int) (w : World) (h : Wn w A c B d ns ls) (_hl2 : ns.length ≤ 1000) (hm2 : ls.length ≤ 1000) :
    Calls Tryz.prog 82 #[.agg #[.slice A ns.length c, .slice B ls.length d], .int .i64 x, .int .i64 y] w fun e w' => ∃ v1 v2, e = .returned (.tuple #[.agg #[v1, v2], .bool (vAddLead ns ls x y).2]) ∧ OwP w' w.heap.size 79 v1 (vAddLead ns ls x y).1.1 ∧ OwP w' w.heap.size 81 v2 (vAddLead ns ls x y).1.2 ∧ Ext w w' := by
  have hnl := h.hl
  have hml := h.hm
  have HV : Hid (vAddLead ns ls x y = if wok ns ls = true ∧ wok ns (ls ++ [(imin x y, imax x y)]) = true then ((ns, ls ++ [(imin x y, imax x y)]), true) else ((ns, ls), false)) := Lib.hid rfl
  cases hwo : wok ns ls with
  | false =>
    rw [if_neg (by rw [hwo]; simp)] at HV
    go_enter Tryz.func82, Tryz.ntmps82
    go_upto_region 1 with fail
    have k0 : ((w.alloc (.cells #[.slice A ns.length c, .slice B ls.length d] 27)).alloc (.cells #[.slice none 0 0, .slice none 0 0] 27)).cell? ⟨w.heap.size, 0, none⟩ = some (.slice A ns.length c) := by go_simp
    have k1 : ((w.alloc (.cells #[.slice A ns.length c, .slice B ls.length d] 27)).alloc (.cells #[.slice none 0 0, .slice none 0 0] 27)).cell? ⟨w.heap.size, 1, none⟩ = some (.slice B ls.length d) := by go_simp
    have HK := Lib.hid ((Bk.new (w := w) (g := w.heap.size) 27 [.slice A ns.length c, .slice B ls.length d] rfl).ext ((Ext.refl _).alloc (.cells #[.slice none 0 0, .slice none 0 0] 27)))
    have HR := Lib.hid (Bk.new (w := w.alloc (.cells #[.slice A ns.length c, .slice B ls.length d] 27)) (g := w.heap.size + 1) 27 [.slice none 0 0, .slice none 0 0] (by simp))
    have hx : Ext w ((w.alloc (.cells #[.slice A ns.length c, .slice B ls.length d] 27)).alloc (.cells #[.slice none 0 0, .slice none 0 0] 27)) := ((Ext.refl _).alloc _).alloc _
    change Hid (Bk ((w.alloc (.cells #[.slice A ns.length c, .slice B ls.length d] 27)).alloc (.cells #[.slice none 0 0, .slice none 0 0] 27)) (w.heap.size + 1) 27 [.slice none 0 0, .slice none 0 0]) at HR
    change Hid (Bk ((w.alloc (.cells #[.slice A ns.length c, .slice B ls.length d] 27)).alloc (.cells #[.slice none 0 0, .slice none 0 0] 27)) w.heap.size 27 [.slice A ns.length c, .slice B ls.length d]) at HK
    generalize ((w.alloc (.cells #[.slice A ns.length c, .slice B ls.length d] 27)).alloc (.cells #[.slice none 0 0, .slice none 0 0] 27)) = w0 at *
    generalize hb1 : w.heap.size + 1 = b1 at *
    go_wp2_with fail
    refine (copy_s_l04Copy _ _ _ _ ns ls _ (h.ext hx)).mono ?_
    rintro e w1 ⟨v7, v8, rfl, o7, o8, -, hb⟩
    obtain ⟨A7, c7, rfl, -, -, -⟩ := o7.shape
    obtain ⟨A8, c8, rfl, -, -, -⟩ := o8.shape
    have k0 := hb.lit k0
    have k1 := hb.lit k1
    have HR := Lib.hid (HR.out.ext hb)
    have HK := Lib.hid (HK.out.ext hb)
    have hbg := HR.out.lt
    go_upto_region 2 with fail
    have HB6 := Lib.hid (Bk.new (w := w1) (g := w1.heap.size) 27 [.slice A7 ns.length c7, .slice A8 ls.length c8] rfl)
    have hb2 := (Ext.refl w1).alloc (.cells #[.slice A7 ns.length c7, .slice A8 ls.length c8] 27)
    change Hid (Bk (w1.alloc (.cells #[.slice A7 ns.length c7, .slice A8 ls.length c8] 27)) w1.heap.size 27 [.slice A7 ns.length c7, .slice A8 ls.length c8]) at HB6
    have k0 := hb2.lit k0
    have k1 := hb2.lit k1
    have HR := Lib.hid (HR.out.ext hb2)
    have HK := Lib.hid (HK.out.ext hb2)
    have O7 : Hid (OwP (w1.alloc (.cells #[.slice A7 ns.length c7, .slice A8 ls.length c8] 27)) w.heap.size 79 (.slice A7 ns.length c7) ns) := Lib.hid (ow_more (o7.ext2 hb2) hx.size)
    have O8 : Hid (OwP (w1.alloc (.cells #[.slice A7 ns.length c7, .slice A8 ls.length c8] 27)) w.heap.size 81 (.slice A8 ls.length c8) ls) := Lib.hid (ow_more (o8.ext2 hb2) hx.size)
    have hg6 : w.heap.size ≤ w1.heap.size := Nat.le_trans hx.size hb.size
    have HX := Lib.hid (hx.trans (hb.trans hb2))
    clear o7 o8 hx hb hb2
    generalize (w1.alloc (.cells #[.slice A7 ns.length c7, .slice A8 ls.length c8] 27)) = w2 at *
    generalize w1.heap.size = g6 at *
    have hb1s : w.heap.size ≤ b1 := by omega
    have a0 := HB6.out.cell 0
    have a1 := HB6.out.cell 1
    have f1 := HB6.out.froz 1
    simp only [List.getElem?_cons_zero, List.getElem?_cons_succ] at a0 a1
    have HL1 : Hid ((ls ++ [(imin x y, imax x y)]).length = ls.length + 1) := Lib.hid (by simp)
    have HXs := Lib.hid HX.out.size
    go_upto_region 3 with (at_builtin; refine az_src 25 81 Tryz.underlying25 infoL _ _ rfl rfl (v := .slice A8 ls.length c8) rfl (O8.out.ext2 ((Ext.refl w2).alloc _)) (l := [(imin x y, imax x y)]) rfl rfl (pr_oneg (by first | rfl | omega) (imin x y) (imax x y)) (by omega) (by simp) (Nat.le_trans HXs.out (by simp)) ?_; intro v6 w9 r9 h6 h6e h6g h6r; obtain ⟨A6, c6, e6, -, -, -⟩ := h6.shape; rw [HL1.out] at e6; subst e6; have HX := Lib.hid (h6e w (HX.out.trans ((Ext.refl w2).alloc _)) (Nat.le_refl _)); have HK := Lib.hid (gb_bk (HK.out.ext ((Ext.refl w2).alloc _)) h6g (fun e => OwP.nebk O8.out HK.out (by decide) (h6r _ e))); have HR := Lib.hid (gb_bk (HR.out.ext ((Ext.refl w2).alloc _)) h6g (fun e => OwP.nebk O8.out HR.out (by decide) (h6r _ e))); have O7 := Lib.hid ((O7.out.ext2 ((Ext.refl w2).alloc _)).gb h6g (fun q hq e => OwP.dj O7.out O8.out (by decide) q hq (h6r q e))); have HB6 := Lib.hid (gb_bk (HB6.out.ext ((Ext.refl w2).alloc _)) h6g (fun e => OwP.nebk O8.out HB6.out (by decide) (h6r _ e))); have O9 := Lib.hid h6; clear h6 h6e h6g h6r O8; have a1 := HB6.out.cell 1; have f1 := HB6.out.froz 1; simp only [List.getElem?_cons_zero, List.getElem?_cons_succ] at a1)
    obtain ⟨wA, hwA⟩ : ∃ x : World, x = w9.setCell ⟨g6, 1, none⟩ (.slice A6 (ls.length + 1) c6) := ⟨_, rfl⟩
    have HK : Hid (Bk wA w.heap.size 27 [.slice A ns.length c, .slice B ls.length d]) := Lib.hid (by rw [hwA]; exact HK.out.far (by show w.heap.size ≠ g6; omega) _)
    have HR : Hid (Bk wA b1 27 [.slice none 0 0, .slice none 0 0]) := Lib.hid (by rw [hwA]; exact HR.out.far (by show b1 ≠ g6; omega) _)
    have O7 : Hid (OwP wA w.heap.size 79 (.slice A7 ns.length c7) ns) := Lib.hid (by rw [hwA]; exact OwP.far O7.out HB6.out (by decide) 1 _)
    have O9 : Hid (OwP wA w.heap.size 81 (.slice A6 (ls.length + 1) c6) (ls ++ [(imin x y, imax x y)])) := Lib.hid (by rw [hwA]; exact OwP.far O9.out HB6.out (by decide) 1 _)
    have HX : Hid (Ext w wA) := Lib.hid (by rw [hwA]; exact HX.out.setCell (p := ⟨g6, 1, none⟩) hg6)
    have HB6 : Hid (Bk wA g6 27 [.slice A7 ns.length c7, .slice A6 (ls.length + 1) c6]) := Lib.hid (by rw [hwA]; exact HB6.out.set_ 1 _)
    rw [← hwA]
    clear hwA a0 a1 f1 k0 k1
    have k0 := HK.out.cell 0
    have k1 := HK.out.cell 1
    simp only [List.getElem?_cons_zero, List.getElem?_cons_succ] at k0 k1
    go_wp2_with fail
    refine (WindowOk_s' (h.ext HX.out)).mono ?_
    rintro e w3 ⟨rfl, hb⟩
    have k0 := hb.lit k0
    have k1 := hb.lit k1
    have HR := Lib.hid (HR.out.ext hb)
    have HB6 := Lib.hid (HB6.out.ext hb)
    have O7 := Lib.hid (OwP.ext2 O7.out hb)
    have O9 := Lib.hid (OwP.ext2 O9.out hb)
    have HX := Lib.hid (HX.out.trans hb)
    clear hb
    rw [hwo]
    go_wp2_with fail
    refine (copy_s_l04Copy _ _ _ _ ns ls _ (h.ext HX.out)).mono ?_
    rintro e w16 ⟨v11, v12, rfl, o11, o12, -, hb⟩
    obtain ⟨A11, c11, rfl, -, -, -⟩ := o11.shape
    obtain ⟨A12, c12, rfl, -, -, -⟩ := o12.shape
    have HR := Lib.hid (HR.out.ext hb)
    have hs3 := HX.out.size
    have HX := Lib.hid (HX.out.trans hb)
    clear hb
    have r0 := HR.out.cell 0
    have r1 := HR.out.cell 1
    have f0 := HR.out.froz 0
    have f1 := HR.out.froz 1
    simp only [List.getElem?_cons_zero, List.getElem?_cons_succ] at r0 r1
    go_wp2
    (try simp only [Exit.inBlock, Exit.then])
    refine bodyPost_ret (by simp [results, Tryz.results82, go_sem, r0, r1]; try rfl) rfl ?_
    refine ⟨_, _, ret_wb (by rw [HV.out]), ?_, ?_, (HX.out.setCell (p := ⟨b1, 0, none⟩) hb1s).setCell (p := ⟨b1, 1, none⟩) hb1s⟩
    all_goals rw [HV.out]
    · exact (OwP.far (o11.more hs3) HR.out (by decide) 0 _).far (HR.out.set_ 0 _) (by decide) 1 _
    · exact (OwP.far (o12.more hs3) HR.out (by decide) 0 _).far (HR.out.set_ 0 _) (by decide) 1 _
  | true =>
    go_enter Tryz.func82, Tryz.ntmps82
    go_upto_region 1 with fail
    have k0 : ((w.alloc (.cells #[.slice A ns.length c, .slice B ls.length d] 27)).alloc (.cells #[.slice none 0 0, .slice none 0 0] 27)).cell? ⟨w.heap.size, 0, none⟩ = some (.slice A ns.length c) := by go_simp
    have k1 : ((w.alloc (.cells #[.slice A ns.length c, .slice B ls.length d] 27)).alloc (.cells #[.slice none 0 0, .slice none 0 0] 27)).cell? ⟨w.heap.size, 1, none⟩ = some (.slice B ls.length d) := by go_simp
    have HK := Lib.hid ((Bk.new (w := w) (g := w.heap.size) 27 [.slice A ns.length c, .slice B ls.length d] rfl).ext ((Ext.refl _).alloc (.cells #[.slice none 0 0, .slice none 0 0] 27)))
    have HR := Lib.hid (Bk.new (w := w.alloc (.cells #[.slice A ns.length c, .slice B ls.length d] 27)) (g := w.heap.size + 1) 27 [.slice none 0 0, .slice none 0 0] (by simp))
    have hx : Ext w ((w.alloc (.cells #[.slice A ns.length c, .slice B ls.length d] 27)).alloc (.cells #[.slice none 0 0, .slice none 0 0] 27)) := ((Ext.refl _).alloc _).alloc _
    change Hid (Bk ((w.alloc (.cells #[.slice A ns.length c, .slice B ls.length d] 27)).alloc (.cells #[.slice none 0 0, .slice none 0 0] 27)) (w.heap.size + 1) 27 [.slice none 0 0, .slice none 0 0]) at HR
    change Hid (Bk ((w.alloc (.cells #[.slice A ns.length c, .slice B ls.length d] 27)).alloc (.cells #[.slice none 0 0, .slice none 0 0] 27)) w.heap.size 27 [.slice A ns.length c, .slice B ls.length d]) at HK
    generalize ((w.alloc (.cells #[.slice A ns.length c, .slice B ls.length d] 27)).alloc (.cells #[.slice none 0 0, .slice none 0 0] 27)) = w0 at *
    generalize hb1 : w.heap.size + 1 = b1 at *
    go_wp2_with fail
    refine (copy_s_l04Copy _ _ _ _ ns ls _ (h.ext hx)).mono ?_
    rintro e w1 ⟨v7, v8, rfl, o7, o8, -, hb⟩
    obtain ⟨A7, c7, rfl, -, -, -⟩ := o7.shape
    obtain ⟨A8, c8, rfl, -, -, -⟩ := o8.shape
    have k0 := hb.lit k0
    have k1 := hb.lit k1
    have HR := Lib.hid (HR.out.ext hb)
    have HK := Lib.hid (HK.out.ext hb)
    have hbg := HR.out.lt
    go_upto_region 2 with fail
    have HB6 := Lib.hid (Bk.new (w := w1) (g := w1.heap.size) 27 [.slice A7 ns.length c7, .slice A8 ls.length c8] rfl)
    have hb2 := (Ext.refl w1).alloc (.cells #[.slice A7 ns.length c7, .slice A8 ls.length c8] 27)
    change Hid (Bk (w1.alloc (.cells #[.slice A7 ns.length c7, .slice A8 ls.length c8] 27)) w1.heap.size 27 [.slice A7 ns.length c7, .slice A8 ls.length c8]) at HB6
    have k0 := hb2.lit k0
    have k1 := hb2.lit k1
    have HR := Lib.hid (HR.out.ext hb2)
    have HK := Lib.hid (HK.out.ext hb2)
    have O7 : Hid (OwP (w1.alloc (.cells #[.slice A7 ns.length c7, .slice A8 ls.length c8] 27)) w.heap.size 79 (.slice A7 ns.length c7) ns) := Lib.hid (ow_more (o7.ext2 hb2) hx.size)
    have O8 : Hid (OwP (w1.alloc (.cells #[.slice A7 ns.length c7, .slice A8 ls.length c8] 27)) w.heap.size 81 (.slice A8 ls.length c8) ls) := Lib.hid (ow_more (o8.ext2 hb2) hx.size)
    have hg6 : w.heap.size ≤ w1.heap.size := Nat.le_trans hx.size hb.size
    have HX := Lib.hid (hx.trans (hb.trans hb2))
    clear o7 o8 hx hb hb2
    generalize (w1.alloc (.cells #[.slice A7 ns.length c7, .slice A8 ls.length c8] 27)) = w2 at *
    generalize w1.heap.size = g6 at *
    have hb1s : w.heap.size ≤ b1 := by omega
    have a0 := HB6.out.cell 0
    have a1 := HB6.out.cell 1
    have f1 := HB6.out.froz 1
    simp only [List.getElem?_cons_zero, List.getElem?_cons_succ] at a0 a1
    have HL1 : Hid ((ls ++ [(imin x y, imax x y)]).length = ls.length + 1) := Lib.hid (by simp)
    have HXs := Lib.hid HX.out.size
    go_upto_region 3 with (at_builtin; refine az_src 25 81 Tryz.underlying25 infoL _ _ rfl rfl (v := .slice A8 ls.length c8) rfl (O8.out.ext2 ((Ext.refl w2).alloc _)) (l := [(imin x y, imax x y)]) rfl rfl (pr_oneg (by first | rfl | omega) (imin x y) (imax x y)) (by omega) (by simp) (Nat.le_trans HXs.out (by simp)) ?_; intro v6 w9 r9 h6 h6e h6g h6r; obtain ⟨A6, c6, e6, -, -, -⟩ := h6.shape; rw [HL1.out] at e6; subst e6; have HX := Lib.hid (h6e w (HX.out.trans ((Ext.refl w2).alloc _)) (Nat.le_refl _)); have HK := Lib.hid (gb_bk (HK.out.ext ((Ext.refl w2).alloc _)) h6g (fun e => OwP.nebk O8.out HK.out (by decide) (h6r _ e))); have HR := Lib.hid (gb_bk (HR.out.ext ((Ext.refl w2).alloc _)) h6g (fun e => OwP.nebk O8.out HR.out (by decide) (h6r _ e))); have O7 := Lib.hid ((O7.out.ext2 ((Ext.refl w2).alloc _)).gb h6g (fun q hq e => OwP.dj O7.out O8.out (by decide) q hq (h6r q e))); have HB6 := Lib.hid (gb_bk (HB6.out.ext ((Ext.refl w2).alloc _)) h6g (fun e => OwP.nebk O8.out HB6.out (by decide) (h6r _ e))); have O9 := Lib.hid h6; clear h6 h6e h6g h6r O8; have a1 := HB6.out.cell 1; have f1 := HB6.out.froz 1; simp only [List.getElem?_cons_zero, List.getElem?_cons_succ] at a1)
    obtain ⟨wA, hwA⟩ : ∃ x : World, x = w9.setCell ⟨g6, 1, none⟩ (.slice A6 (ls.length + 1) c6) := ⟨_, rfl⟩
    have HK : Hid (Bk wA w.heap.size 27 [.slice A ns.length c, .slice B ls.length d]) := Lib.hid (by rw [hwA]; exact HK.out.far (by show w.heap.size ≠ g6; omega) _)
    have HR : Hid (Bk wA b1 27 [.slice none 0 0, .slice none 0 0]) := Lib.hid (by rw [hwA]; exact HR.out.far (by show b1 ≠ g6; omega) _)
    have O7 : Hid (OwP wA w.heap.size 79 (.slice A7 ns.length c7) ns) := Lib.hid (by rw [hwA]; exact OwP.far O7.out HB6.out (by decide) 1 _)
    have O9 : Hid (OwP wA w.heap.size 81 (.slice A6 (ls.length + 1) c6) (ls ++ [(imin x y, imax x y)])) := Lib.hid (by rw [hwA]; exact OwP.far O9.out HB6.out (by decide) 1 _)
    have HX : Hid (Ext w wA) := Lib.hid (by rw [hwA]; exact HX.out.setCell (p := ⟨g6, 1, none⟩) hg6)
    have HB6 : Hid (Bk wA g6 27 [.slice A7 ns.length c7, .slice A6 (ls.length + 1) c6]) := Lib.hid (by rw [hwA]; exact HB6.out.set_ 1 _)
    rw [← hwA]
    clear hwA a0 a1 f1 k0 k1
    have k0 := HK.out.cell 0
    have k1 := HK.out.cell 1
    simp only [List.getElem?_cons_zero, List.getElem?_cons_succ] at k0 k1
    go_wp2_with fail
    refine (WindowOk_s' (h.ext HX.out)).mono ?_
    rintro e w3 ⟨rfl, hb⟩
    have k0 := hb.lit k0
    have k1 := hb.lit k1
    have HR := Lib.hid (HR.out.ext hb)
    have HB6 := Lib.hid (HB6.out.ext hb)
    have O7 := Lib.hid (OwP.ext2 O7.out hb)
    have O9 := Lib.hid (OwP.ext2 O9.out hb)
    have HX := Lib.hid (HX.out.trans hb)
    clear hb
    rw [hwo]
    have a0 := HB6.out.cell 0
    have a1 := HB6.out.cell 1
    simp only [List.getElem?_cons_zero, List.getElem?_cons_succ] at a0 a1
    go_wp2_with fail
    refine (WindowOk_sL (wn_own O7.out O9.out (by omega) (by rw [HL1.out]; omega)) rfl HL1.out.symm).mono ?_
    rintro e w4 ⟨rfl, hb⟩
    have k0 := hb.lit k0
    have k1 := hb.lit k1
    have HR := Lib.hid (HR.out.ext hb)
    have HB6 := Lib.hid (HB6.out.ext hb)
    have O7 := Lib.hid (OwP.ext2 O7.out hb)
    have O9 := Lib.hid (OwP.ext2 O9.out hb)
    have HX := Lib.hid (HX.out.trans hb)
    clear hb a0 a1
    cases hw2 : wok ns (ls ++ [(imin x y, imax x y)]) with
    | false =>
      rw [if_neg (by rw [hw2]; simp)] at HV
      go_wp2_with fail
      refine (copy_s_l04Copy _ _ _ _ ns ls _ (h.ext HX.out)).mono ?_
      rintro e w16 ⟨v11, v12, rfl, o11, o12, -, hb⟩
      obtain ⟨A11, c11, rfl, -, -, -⟩ := o11.shape
      obtain ⟨A12, c12, rfl, -, -, -⟩ := o12.shape
      have HR := Lib.hid (HR.out.ext hb)
      have hs3 := HX.out.size
      have HX := Lib.hid (HX.out.trans hb)
      clear hb
      have r0 := HR.out.cell 0
      have r1 := HR.out.cell 1
      have f0 := HR.out.froz 0
      have f1 := HR.out.froz 1
      simp only [List.getElem?_cons_zero, List.getElem?_cons_succ] at r0 r1
      go_wp2
      (try simp only [Exit.inBlock, Exit.then])
      refine bodyPost_ret (by simp [results, Tryz.results82, go_sem, r0, r1]; try rfl) rfl ?_
      refine ⟨_, _, ret_wb (by rw [HV.out]), ?_, ?_, (HX.out.setCell (p := ⟨b1, 0, none⟩) hb1s).setCell (p := ⟨b1, 1, none⟩) hb1s⟩
      all_goals rw [HV.out]
      · exact (OwP.far (o11.more hs3) HR.out (by decide) 0 _).far (HR.out.set_ 0 _) (by decide) 1 _
      · exact (OwP.far (o12.more hs3) HR.out (by decide) 0 _).far (HR.out.set_ 0 _) (by decide) 1 _
    | true =>
      rw [if_pos ⟨hwo, hw2⟩] at HV
      have r0 := HR.out.cell 0
      have r1 := HR.out.cell 1
      have f0 := HR.out.froz 0
      have f1 := HR.out.froz 1
      have a0 := HB6.out.cell 0
      have a1 := HB6.out.cell 1
      simp only [List.getElem?_cons_zero, List.getElem?_cons_succ] at r0 r1 a0 a1
      go_wp2
      (try simp only [Exit.inBlock, Exit.then])
      refine bodyPost_ret (by simp [results, Tryz.results82, go_sem, r0, r1]; try rfl) rfl ?_
      refine ⟨_, _, ret_wb (by rw [HV.out]), ?_, ?_, (HX.out.setCell (p := ⟨b1, 0, none⟩) hb1s).setCell (p := ⟨b1, 1, none⟩) hb1s⟩
      all_goals rw [HV.out]
      · exact (OwP.far O7.out HR.out (by decide) 0 _).far (HR.out.set_ 0 _) (by decide) 1 _
      · exact (OwP.far O9.out HR.out (by decide) 0 _).far (HR.out.set_ 0 _) (by decide) 1 _
end Go.Proofs.YtdhmjhoaegdfjaaGreat

namespace Go.Proofs.YtdhmjhoaegdfjaaGreat
open Go.RowKit Go.Sort Go.BigFrame
def shN0 : List P2 := [(0, 0), (8, 0), (8, 8), (0, 8), (4, 4)]
def shL0 : List P2 := [(0, 1), (1, 2), (2, 3), (0, 3), (0, 4), (1, 4), (2, 4), (3, 4)]
def shN1 : List P2 := [(0, 0), (12, 0), (4, 12), (4, 3), (7, 3), (5, 6)]
def shL1 : List P2 := [(0, 1), (1, 2), (0, 2), (3, 4), (4, 5), (3, 5), (0, 3)]
def shN2 : List P2 := [(0, 0), (4, 0), (8, 0), (12, 0), (0, 5), (4, 5), (8, 5), (12, 5), (0, 9), (4, 9), (8, 9), (12, 9)]
def shL2 : List P2 := [(0, 1), (1, 2), (2, 3), (4, 5), (5, 6), (6, 7), (8, 9), (9, 10), (10, 11), (0, 4), (1, 5), (2, 6), (3, 7), (4, 8), (5, 9), (6, 10), (7, 11)]
def shN3 : List P2 := [(6, 6), (6, 0), (12, 4), (10, 11), (2, 11), (0, 4)]
def shL3 : List P2 := [(0, 1), (0, 2), (0, 3), (0, 4), (0, 5), (1, 2), (2, 3), (3, 4), (4, 5), (1, 5)]
def shN4 : List P2 := [(0, 0), (3, 0), (3, 3), (0, 3), (6, 1), (9, 1), (9, 5), (6, 5)]
def shL4 : List P2 := [(0, 1), (1, 2), (2, 3), (0, 3), (4, 5), (5, 6), (6, 7), (4, 7)]
theorem shape_cells {w0 : World} {g0 : Nat} {T : TypeId} {u0 u1 : Value} (HR : Bk w0 g0 T [u0, u1]) (v1 v2 : Value) (X Y : Obj) :
    ((((w0.setCell ⟨g0, 0, none⟩ v1).setCell ⟨g0, 1, none⟩ v2).alloc X).alloc Y).cell? ⟨g0, 0, none⟩ = some v1 ∧ ((((w0.setCell ⟨g0, 0, none⟩ v1).setCell ⟨g0, 1, none⟩ v2).alloc X).alloc Y).cell? ⟨g0, 1, none⟩ = some v2 := by
  have hb := (((HR.set_ 0 v1).set_ 1 v2).ext ((Ext.refl _).alloc X)).ext ((Ext.refl _).alloc Y)
  exact ⟨hb.cell 0, hb.cell 1⟩
theorem shape_end {w w0 : World} {g0 : Nat} (hx : Ext w w0) (hg : w.heap.size = g0) (v1 v2 : Value) (ns ls : List P2) (hn : ns.length ≤ maxLen) (hl : ls.length ≤ maxLen) (T U : TypeId) :
    OwP ((((w0.setCell ⟨g0, 0, none⟩ v1).setCell ⟨g0, 1, none⟩ v2).alloc (.cells (ns.flatMap pc).toArray T)).alloc (.cells (ls.flatMap pc).toArray U)) w.heap.size T (.slice (some ⟨w0.heap.size, 0, none⟩) ns.length ns.length) ns ∧
    OwP ((((w0.setCell ⟨g0, 0, none⟩ v1).setCell ⟨g0, 1, none⟩ v2).alloc (.cells (ns.flatMap pc).toArray T)).alloc (.cells (ls.flatMap pc).toArray U)) w.heap.size U (.slice (some ⟨w0.heap.size + 1, 0, none⟩) ls.length ls.length) ls ∧
    Ext w ((((w0.setCell ⟨g0, 0, none⟩ v1).setCell ⟨g0, 1, none⟩ v2).alloc (.cells (ns.flatMap pc).toArray T)).alloc (.cells (ls.flatMap pc).toArray U)) := by
  have hs := hx.size
  have b1 := (Bk.new (w := (w0.setCell ⟨g0, 0, none⟩ v1).setCell ⟨g0, 1, none⟩ v2) (g := w0.heap.size) T (ns.flatMap pc) (by simp)).ext ((Ext.refl _).alloc (.cells (ls.flatMap pc).toArray U))
  have b2 := Bk.new (w := ((w0.setCell ⟨g0, 0, none⟩ v1).setCell ⟨g0, 1, none⟩ v2).alloc (.cells (ns.flatMap pc).toArray T)) (g := w0.heap.size + 1) U (ls.flatMap pc) (by simp)
  exact ⟨OwP.new b1 hs hn, OwP.new b2 (by omega) hl, (((hx.setCell (p := ⟨g0, 0, none⟩) (by show _ ≤ g0; omega)).setCell (p := ⟨g0, 1, none⟩) (by show _ ≤ g0; omega)).alloc _).alloc _⟩
set_option maxRecDepth 100000 in
set_option maxHeartbeats 8000000 in
theorem SampleWindow_s (w : World) :
    Calls Tryz.prog 85 #[] w fun e w' => ∃ v1 v2, e = .returned (.agg #[v1, v2]) ∧ OwP w' w.heap.size 79 v1 shN0 ∧ OwP w' w.heap.size 81 v2 shL0 ∧ Ext w w' := by
  go_enter Tryz.func85, Tryz.ntmps85
  go_upto_region 1 with fail
  have HR := Lib.hid (Bk.new (w := w) (g := w.heap.size) 27 [.slice none 0 0, .slice none 0 0] rfl)
  have hx := (Ext.refl w).alloc (.cells #[.slice none 0 0, .slice none 0 0] 27)
  change Hid (Bk (w.alloc (.cells #[.slice none 0 0, .slice none 0 0] 27)) w.heap.size 27 [.slice none 0 0, .slice none 0 0]) at HR
  generalize (w.alloc (.cells #[.slice none 0 0, .slice none 0 0] 27)) = w0 at *
  have HX := Lib.hid hx
  clear hx
  generalize hg0 : w.heap.size = g0 at *
  have HG := Lib.hid hg0
  clear hg0
  have hlt := HR.out.lt
  have r0 := HR.out.cell 0
  have r1 := HR.out.cell 1
  have f0 := HR.out.froz 0
  have f1 := HR.out.froz 1
  simp only [List.getElem?_cons_zero, List.getElem?_cons_succ] at r0 r1
  have q0 : ∀ X Y : Obj, ((w0.alloc X).alloc Y).cell? ⟨g0, 0, none⟩ = some (.slice none 0 0) := fun X Y => (((Ext.refl w0).alloc X).alloc Y).lit (HR.out.cell 0)
  have q1 : ∀ X Y : Obj, ((w0.alloc X).alloc Y).cell? ⟨g0, 1, none⟩ = some (.slice none 0 0) := fun X Y => (((Ext.refl w0).alloc X).alloc Y).lit (HR.out.cell 1)
  have p0 : ∀ X Y : Obj, ((w0.alloc X).alloc Y).frozen? ⟨g0, 0, none⟩ = false := fun X Y => (((Ext.refl w0).alloc X).alloc Y).frz hlt (HR.out.froz 0)
  have p1 : ∀ X Y : Obj, ((w0.alloc X).alloc Y).frozen? ⟨g0, 1, none⟩ = false := fun X Y => (((Ext.refl w0).alloc X).alloc Y).frz hlt (HR.out.froz 1)
  go_wp2
  (try simp only [Exit.inBlock, Exit.then])
  have sc := fun (v1 v2 : Value) (X Y : Obj) => (shape_cells HR.out v1 v2 X Y).1
  have sd' := fun (v1 v2 : Value) (X Y : Obj) => (shape_cells HR.out v1 v2 X Y).2
  refine bodyPost_ret (by simp [results, Tryz.results85, go_sem, sc, sd']; try rfl) rfl ?_
  have hE := shape_end HX.out HG.out (.slice (some ⟨w0.heap.size, 0, none⟩) 5 5) (.slice (some ⟨w0.heap.size + 1, 0, none⟩) 8 8) shN0 shL0 (by decide) (by decide) 79 81
  exact ⟨_, _, rfl, hE⟩
def shN (k : Nat) : List P2 := if k = 0 then shN0 else if k = 1 then shN1 else if k = 2 then shN2 else if k = 3 then shN3 else shN4
def shL (k : Nat) : List P2 := if k = 0 then shL0 else if k = 1 then shL1 else if k = 2 then shL2 else if k = 3 then shL3 else shL4
set_option maxRecDepth 100000 in
set_option maxHeartbeats 8000000 in
theorem l04Shape_s1 (w : World) :
    Calls Tryz.prog 62 #[.int .i64 1] w fun e w' => ∃ v1 v2, e = .returned (.agg #[v1, v2]) ∧ OwP w' w.heap.size 79 v1 shN1 ∧ OwP w' w.heap.size 81 v2 shL1 ∧ Ext w w' := by
  go_enter Tryz.func62, Tryz.ntmps62
  go_upto_region 5 with fail
  have HR := Lib.hid (Bk.new (w := w) (g := w.heap.size) 27 [.slice none 0 0, .slice none 0 0] rfl)
  have hx := (Ext.refl w).alloc (.cells #[.slice none 0 0, .slice none 0 0] 27)
  change Hid (Bk (w.alloc (.cells #[.slice none 0 0, .slice none 0 0] 27)) w.heap.size 27 [.slice none 0 0, .slice none 0 0]) at HR
  generalize (w.alloc (.cells #[.slice none 0 0, .slice none 0 0] 27)) = w0 at *
  have HX := Lib.hid hx
  clear hx
  generalize hg0 : w.heap.size = g0 at *
  have HG := Lib.hid hg0
  clear hg0
  have hlt := HR.out.lt
  have r0 := HR.out.cell 0
  have r1 := HR.out.cell 1
  have f0 := HR.out.froz 0
  have f1 := HR.out.froz 1
  simp only [List.getElem?_cons_zero, List.getElem?_cons_succ] at r0 r1
  have q0 : ∀ X Y : Obj, ((w0.alloc X).alloc Y).cell? ⟨g0, 0, none⟩ = some (.slice none 0 0) := fun X Y => (((Ext.refl w0).alloc X).alloc Y).lit (HR.out.cell 0)
  have q1 : ∀ X Y : Obj, ((w0.alloc X).alloc Y).cell? ⟨g0, 1, none⟩ = some (.slice none 0 0) := fun X Y => (((Ext.refl w0).alloc X).alloc Y).lit (HR.out.cell 1)
  have p0 : ∀ X Y : Obj, ((w0.alloc X).alloc Y).frozen? ⟨g0, 0, none⟩ = false := fun X Y => (((Ext.refl w0).alloc X).alloc Y).frz hlt (HR.out.froz 0)
  have p1 : ∀ X Y : Obj, ((w0.alloc X).alloc Y).frozen? ⟨g0, 1, none⟩ = false := fun X Y => (((Ext.refl w0).alloc X).alloc Y).frz hlt (HR.out.froz 1)
  go_wp2
  (try simp only [Exit.inBlock, Exit.then])
  have sc := fun (v1 v2 : Value) (X Y : Obj) => (shape_cells HR.out v1 v2 X Y).1
  have sd' := fun (v1 v2 : Value) (X Y : Obj) => (shape_cells HR.out v1 v2 X Y).2
  refine bodyPost_ret (by simp [results, Tryz.results62, go_sem, sc, sd']; try rfl) rfl ?_
  have hE := shape_end HX.out HG.out (.slice (some ⟨w0.heap.size, 0, none⟩) 6 6) (.slice (some ⟨w0.heap.size + 1, 0, none⟩) 7 7) shN1 shL1 (by decide) (by decide) 79 81
  exact ⟨_, _, rfl, hE⟩
set_option maxRecDepth 100000 in
set_option maxHeartbeats 8000000 in
theorem l04Shape_s2 (w : World) :
    Calls Tryz.prog 62 #[.int .i64 2] w fun e w' => ∃ v1 v2, e = .returned (.agg #[v1, v2]) ∧ OwP w' w.heap.size 79 v1 shN2 ∧ OwP w' w.heap.size 81 v2 shL2 ∧ Ext w w' := by
  go_enter Tryz.func62, Tryz.ntmps62
  go_upto_region 7 with fail
  have HR := Lib.hid (Bk.new (w := w) (g := w.heap.size) 27 [.slice none 0 0, .slice none 0 0] rfl)
  have hx := (Ext.refl w).alloc (.cells #[.slice none 0 0, .slice none 0 0] 27)
  change Hid (Bk (w.alloc (.cells #[.slice none 0 0, .slice none 0 0] 27)) w.heap.size 27 [.slice none 0 0, .slice none 0 0]) at HR
  generalize (w.alloc (.cells #[.slice none 0 0, .slice none 0 0] 27)) = w0 at *
  have HX := Lib.hid hx
  clear hx
  generalize hg0 : w.heap.size = g0 at *
  have HG := Lib.hid hg0
  clear hg0
  have hlt := HR.out.lt
  have r0 := HR.out.cell 0
  have r1 := HR.out.cell 1
  have f0 := HR.out.froz 0
  have f1 := HR.out.froz 1
  simp only [List.getElem?_cons_zero, List.getElem?_cons_succ] at r0 r1
  have q0 : ∀ X Y : Obj, ((w0.alloc X).alloc Y).cell? ⟨g0, 0, none⟩ = some (.slice none 0 0) := fun X Y => (((Ext.refl w0).alloc X).alloc Y).lit (HR.out.cell 0)
  have q1 : ∀ X Y : Obj, ((w0.alloc X).alloc Y).cell? ⟨g0, 1, none⟩ = some (.slice none 0 0) := fun X Y => (((Ext.refl w0).alloc X).alloc Y).lit (HR.out.cell 1)
  have p0 : ∀ X Y : Obj, ((w0.alloc X).alloc Y).frozen? ⟨g0, 0, none⟩ = false := fun X Y => (((Ext.refl w0).alloc X).alloc Y).frz hlt (HR.out.froz 0)
  have p1 : ∀ X Y : Obj, ((w0.alloc X).alloc Y).frozen? ⟨g0, 1, none⟩ = false := fun X Y => (((Ext.refl w0).alloc X).alloc Y).frz hlt (HR.out.froz 1)
  go_wp2
  (try simp only [Exit.inBlock, Exit.then])
  have sc := fun (v1 v2 : Value) (X Y : Obj) => (shape_cells HR.out v1 v2 X Y).1
  have sd' := fun (v1 v2 : Value) (X Y : Obj) => (shape_cells HR.out v1 v2 X Y).2
  refine bodyPost_ret (by simp [results, Tryz.results62, go_sem, sc, sd']; try rfl) rfl ?_
  have hE := shape_end HX.out HG.out (.slice (some ⟨w0.heap.size, 0, none⟩) 12 12) (.slice (some ⟨w0.heap.size + 1, 0, none⟩) 17 17) shN2 shL2 (by decide) (by decide) 79 81
  exact ⟨_, _, rfl, hE⟩
set_option maxRecDepth 100000 in
set_option maxHeartbeats 8000000 in
theorem l04Shape_s3 (w : World) :
    Calls Tryz.prog 62 #[.int .i64 3] w fun e w' => ∃ v1 v2, e = .returned (.agg #[v1, v2]) ∧ OwP w' w.heap.size 79 v1 shN3 ∧ OwP w' w.heap.size 81 v2 shL3 ∧ Ext w w' := by
  go_enter Tryz.func62, Tryz.ntmps62
  go_upto_region 9 with fail
  have HR := Lib.hid (Bk.new (w := w) (g := w.heap.size) 27 [.slice none 0 0, .slice none 0 0] rfl)
  have hx := (Ext.refl w).alloc (.cells #[.slice none 0 0, .slice none 0 0] 27)
  change Hid (Bk (w.alloc (.cells #[.slice none 0 0, .slice none 0 0] 27)) w.heap.size 27 [.slice none 0 0, .slice none 0 0]) at HR
  generalize (w.alloc (.cells #[.slice none 0 0, .slice none 0 0] 27)) = w0 at *
  have HX := Lib.hid hx
  clear hx
  generalize hg0 : w.heap.size = g0 at *
  have HG := Lib.hid hg0
  clear hg0
  have hlt := HR.out.lt
  have r0 := HR.out.cell 0
  have r1 := HR.out.cell 1
  have f0 := HR.out.froz 0
  have f1 := HR.out.froz 1
  simp only [List.getElem?_cons_zero, List.getElem?_cons_succ] at r0 r1
  have q0 : ∀ X Y : Obj, ((w0.alloc X).alloc Y).cell? ⟨g0, 0, none⟩ = some (.slice none 0 0) := fun X Y => (((Ext.refl w0).alloc X).alloc Y).lit (HR.out.cell 0)
  have q1 : ∀ X Y : Obj, ((w0.alloc X).alloc Y).cell? ⟨g0, 1, none⟩ = some (.slice none 0 0) := fun X Y => (((Ext.refl w0).alloc X).alloc Y).lit (HR.out.cell 1)
  have p0 : ∀ X Y : Obj, ((w0.alloc X).alloc Y).frozen? ⟨g0, 0, none⟩ = false := fun X Y => (((Ext.refl w0).alloc X).alloc Y).frz hlt (HR.out.froz 0)
  have p1 : ∀ X Y : Obj, ((w0.alloc X).alloc Y).frozen? ⟨g0, 1, none⟩ = false := fun X Y => (((Ext.refl w0).alloc X).alloc Y).frz hlt (HR.out.froz 1)
  go_wp2
  (try simp only [Exit.inBlock, Exit.then])
  have sc := fun (v1 v2 : Value) (X Y : Obj) => (shape_cells HR.out v1 v2 X Y).1
  have sd' := fun (v1 v2 : Value) (X Y : Obj) => (shape_cells HR.out v1 v2 X Y).2
  refine bodyPost_ret (by simp [results, Tryz.results62, go_sem, sc, sd']; try rfl) rfl ?_
  have hE := shape_end HX.out HG.out (.slice (some ⟨w0.heap.size, 0, none⟩) 6 6) (.slice (some ⟨w0.heap.size + 1, 0, none⟩) 10 10) shN3 shL3 (by decide) (by decide) 79 81
  exact ⟨_, _, rfl, hE⟩
set_option maxRecDepth 100000 in
set_option maxHeartbeats 8000000 in
theorem l04Shape_s4 (w : World) :
    Calls Tryz.prog 62 #[.int .i64 4] w fun e w' => ∃ v1 v2, e = .returned (.agg #[v1, v2]) ∧ OwP w' w.heap.size 79 v1 shN4 ∧ OwP w' w.heap.size 81 v2 shL4 ∧ Ext w w' := by
  go_enter Tryz.func62, Tryz.ntmps62
  go_upto_region 10 with fail
  have HR := Lib.hid (Bk.new (w := w) (g := w.heap.size) 27 [.slice none 0 0, .slice none 0 0] rfl)
  have hx := (Ext.refl w).alloc (.cells #[.slice none 0 0, .slice none 0 0] 27)
  change Hid (Bk (w.alloc (.cells #[.slice none 0 0, .slice none 0 0] 27)) w.heap.size 27 [.slice none 0 0, .slice none 0 0]) at HR
  generalize (w.alloc (.cells #[.slice none 0 0, .slice none 0 0] 27)) = w0 at *
  have HX := Lib.hid hx
  clear hx
  generalize hg0 : w.heap.size = g0 at *
  have HG := Lib.hid hg0
  clear hg0
  have hlt := HR.out.lt
  have r0 := HR.out.cell 0
  have r1 := HR.out.cell 1
  have f0 := HR.out.froz 0
  have f1 := HR.out.froz 1
  simp only [List.getElem?_cons_zero, List.getElem?_cons_succ] at r0 r1
  have q0 : ∀ X Y : Obj, ((w0.alloc X).alloc Y).cell? ⟨g0, 0, none⟩ = some (.slice none 0 0) := fun X Y => (((Ext.refl w0).alloc X).alloc Y).lit (HR.out.cell 0)
  have q1 : ∀ X Y : Obj, ((w0.alloc X).alloc Y).cell? ⟨g0, 1, none⟩ = some (.slice none 0 0) := fun X Y => (((Ext.refl w0).alloc X).alloc Y).lit (HR.out.cell 1)
  have p0 : ∀ X Y : Obj, ((w0.alloc X).alloc Y).frozen? ⟨g0, 0, none⟩ = false := fun X Y => (((Ext.refl w0).alloc X).alloc Y).frz hlt (HR.out.froz 0)
  have p1 : ∀ X Y : Obj, ((w0.alloc X).alloc Y).frozen? ⟨g0, 1, none⟩ = false := fun X Y => (((Ext.refl w0).alloc X).alloc Y).frz hlt (HR.out.froz 1)
  go_wp2
  (try simp only [Exit.inBlock, Exit.then])
  have sc := fun (v1 v2 : Value) (X Y : Obj) => (shape_cells HR.out v1 v2 X Y).1
  have sd' := fun (v1 v2 : Value) (X Y : Obj) => (shape_cells HR.out v1 v2 X Y).2
  refine bodyPost_ret (by simp [results, Tryz.results62, go_sem, sc, sd']; try rfl) rfl ?_
  have hE := shape_end HX.out HG.out (.slice (some ⟨w0.heap.size, 0, none⟩) 8 8) (.slice (some ⟨w0.heap.size + 1, 0, none⟩) 8 8) shN4 shL4 (by decide) (by decide) 79 81
  exact ⟨_, _, rfl, hE⟩
set_option maxRecDepth 100000 in
set_option maxHeartbeats 8000000 in
theorem l04Shape_s0 (w : World) :
    Calls Tryz.prog 62 #[.int .i64 0] w fun e w' => ∃ v1 v2, e = .returned (.agg #[v1, v2]) ∧ OwP w' w.heap.size 79 v1 shN0 ∧ OwP w' w.heap.size 81 v2 shL0 ∧ Ext w w' := by
  go_enter Tryz.func62, Tryz.ntmps62
  go_upto_region 3 with fail
  have HR := Lib.hid (Bk.new (w := w) (g := w.heap.size) 27 [.slice none 0 0, .slice none 0 0] rfl)
  have hx := (Ext.refl w).alloc (.cells #[.slice none 0 0, .slice none 0 0] 27)
  change Hid (Bk (w.alloc (.cells #[.slice none 0 0, .slice none 0 0] 27)) w.heap.size 27 [.slice none 0 0, .slice none 0 0]) at HR
  generalize (w.alloc (.cells #[.slice none 0 0, .slice none 0 0] 27)) = w0 at *
  generalize hg0 : w.heap.size = g0 at *
  have HG := Lib.hid hg0
  clear hg0
  go_wp2_with fail
  refine (SampleWindow_s w0).mono ?_
  rintro e w1 ⟨v1, v2, rfl, o1, o2, hb⟩
  have HR := Lib.hid (HR.out.ext hb)
  have r0 := HR.out.cell 0
  have r1 := HR.out.cell 1
  have f0 := HR.out.froz 0
  have f1 := HR.out.froz 1
  simp only [List.getElem?_cons_zero, List.getElem?_cons_succ] at r0 r1
  have O1 := Lib.hid ((OwP.far o1 HR.out (by decide) 0 v1).far (HR.out.set_ 0 _) (by decide) 1 v2)
  have O2 := Lib.hid ((OwP.far o2 HR.out (by decide) 0 v1).far (HR.out.set_ 0 _) (by decide) 1 v2)
  obtain ⟨A1, c1, rfl, -, -, -⟩ := o1.shape
  obtain ⟨A2, c2, rfl, -, -, -⟩ := o2.shape
  clear o1 o2
  go_wp2
  (try simp only [Exit.inBlock, Exit.then])
  refine bodyPost_ret (by simp [results, Tryz.results62, go_sem, r0, r1]; try rfl) rfl ?_
  exact ⟨_, _, rfl, ow_more O1.out hx.size, ow_more O2.out hx.size, ((hx.trans hb).setCell (p := ⟨g0, 0, none⟩) (by rw [HG.out]; exact Nat.le_refl _)).setCell (p := ⟨g0, 1, none⟩) (by rw [HG.out]; exact Nat.le_refl _)⟩
theorem l04Shape_s (w : World) (k : Nat) (hk : k < 5) :
    Calls Tryz.prog 62 #[.int .i64 (k : Int)] w fun e w' => ∃ v1 v2, e = .returned (.agg #[v1, v2]) ∧ OwP w' w.heap.size 79 v1 (shN k) ∧ OwP w' w.heap.size 81 v2 (shL k) ∧ Ext w w' := by
  match k, hk with
  | 0, _ => exact l04Shape_s0 w
  | 1, _ => exact l04Shape_s1 w
  | 2, _ => exact l04Shape_s2 w
  | 3, _ => exact l04Shape_s3 w
  | 4, _ => exact l04Shape_s4 w
theorem sh_ok : ∀ k, k < 5 → wok (shN k) (shL k) = true := by decide
theorem sh_whole : ∀ k, k < 4 → whole (shN k) (shL k) = true := by decide
theorem sh_len : ∀ k, k < 5 → (shN k).length ≤ 12 ∧ (shL k).length ≤ 20 ∧ 1 ≤ (shN k).length := by decide
end Go.Proofs.YtdhmjhoaegdfjaaGreat

namespace Go.Proofs.YtdhmjhoaegdfjaaGreat
open Go.RowKit Go.Sort Go.BigFrame
/-! Regions that draw, over a class of worlds of one's own: S holds in all worlds ahead of the late operations. -/
/-- the worlds with F, in a form that the quiet walk reads -/
structure WB (F : World → Prop) where
  wd : World
  is : F wd
theorem WB.of {F : World → Prop} {w : World} (h : F w) : ∃ q : WB F, w = q.wd := ⟨⟨w, h⟩, rfl⟩
section
variable {P : Program} {Q : Exit → Act → World → Prop} {S : World → Prop} {l : List Oper} {w : World} {a : Act}
def Rs (P : Program) (Q : Exit → Act → World → Prop) (S : World → Prop) (l : List Oper) (SL : List Sm) (L k m : Nat) (a : Act) (w : World) : Prop :=
  smAll l = SL → Region.noSelect l.toArray = true → waitsAll SL L l.length = true → m < 2 ^ l.length → Clo .any l.toArray (arrOf l.length m) → wpAnyL P .any l.toArray (NoPanic Q) S L k (arrOf l.length m) a w
theorem rs_open {id : Nat} (S : World → Prop) (SL : List Sm) (L n : Nat) (hm : P.follows .mixedOrders = true) (hn : l.length = n) (hSL : smAll l = SL) (hs : Region.noSelect l.toArray = true) (hL : waitsAll SL L n = true)
    (h : Rs P Q S l SL L n 0 a w.drew) : (Code.region id l.toArray true).wp P Q a w := by
  subst hn
  refine wp_region_noPanic (wp_region_any hm (wpAny_of_L (S := S) (L := L) _ _ _ _ ?_))
  have := h hSL hs hL (Nat.two_pow_pos _) clo_zero
  rw [← arrOf_zero] at this
  simpa using this
theorem rs_run {SL : List Sm} {run : List Nat} {L n k m m' : Nat} {rops : List Oper} (hn : n = k + run.length) (hrl : run.all (fun i => !L.testBit i) = true)
    (hc : tkM SL run m = true) (hl : tkL run m = m') (hr : run.filterMap (fun i => l[i]?) = rops) (hw : S w)
    (h : wpQuiet P l.toArray S (fun a' => Rs P Q S l SL L k m' a' w) rops a) : Rs P Q S l SL L n m a w := by
  intro hSL hs hL hm hcl
  subst hn hl hr hSL
  obtain ⟨h1, h2, h3⟩ := takeChk_of run m hm hc
  refine rx_take hs (noPanic_no Q) (waitsAll_spec rfl hL) (fuel := k) run _ a w hcl hw (fun i hi => ?_) h1 (N := fun a' => Rs P Q S l (smAll l) L k (tkL run m) a' w) (by simpa using h) (fun a' h' => ?_)
  · have := List.all_eq_true.1 hrl i hi; simpa using this
  · rw [h2]
    exact h' rfl hs hL h3 (by rw [← h2]; exact clo_take run _ hcl h1)
/-- what is behind one operation -/
def RsOp (P : Program) (Q : Exit → Act → World → Prop) (S : World → Prop) (l : List Oper) (SL : List Sm) (L i k m : Nat) : Exit → Act → World → Prop
  | .normal, a, w => (L.testBit i = true ∨ S w) ∧ Rs P Q S l SL L k m a w
  | e, a, w => NoPanic Q e a w
theorem rsOp_on {SL : List Sm} {L k m i : Nat} {o : Oper} (hSL : smAll l = SL) (hs : Region.noSelect l.toArray = true) (hL : waitsAll SL L l.length = true) (hm : m < 2 ^ l.length) (hi : i < l.length) (hcl : Clo .any l.toArray (arrOf l.length (m ||| 2 ^ i)))
    (h : wpList P l.toArray (RsOp P Q S l SL L i k (m ||| 2 ^ i)) [o] a w) :
    wpList P l.toArray (RxOn P .any l.toArray (NoPanic Q) S L i k ((arrOf l.length m).setIfInBounds i true)) [o] a w := by
  have key : ∀ e a' w', RsOp P Q S l SL L i k (m ||| 2 ^ i) e a' w' → RxOn P .any l.toArray (NoPanic Q) S L i k ((arrOf l.length m).setIfInBounds i true) e a' w' := by
    intro e a' w' he
    cases e with
    | normal => exact ⟨he.1, by rw [arrOf_set _ _ _ hi]; exact he.2 hSL hs hL (bit_lt hm hi) hcl⟩
    | _ => exact he
  unfold wpList at *
  split
  · rename_i hw
    rw [if_pos hw] at h
    rcases h with h | ⟨h1, a', w', h2⟩
    · left
      unfold Oper.wp at *
      generalize (execOp a.eval o).run P w = r at *
      cases r with
      | ok n w' =>
        cases n <;> simp only [Oper.upon] at h ⊢ <;>
          first
            | exact key _ _ _ h
            | exact Calls.mono h (fun e w'' he => by cases e <;> first | exact key _ _ _ he | exact (let ⟨a', w', h⟩ := he; ⟨a', w', key _ _ _ h⟩))
            | exact Rows.mono h (fun _ _ he => key _ _ _ he)
            | exact h
      | halt x w' => cases x <;> simp only [Oper.upon] at h ⊢ <;> first | exact key _ _ _ h | exact h
    · exact .inr ⟨h1, a', w', key _ _ _ h2⟩
  · rename_i hw
    rw [if_neg hw] at h
    exact key _ _ _ h
theorem rs_op {SL : List Sm} (i : Nat) {o : Oper} {L n k m m' : Nat} (hn : n = k + 1) (ho : l[i]? = some o) (hr : rdM m SL 0 = [i]) (hl : m ||| 2 ^ i = m')
    (h : wpList P l.toArray (RsOp P Q S l SL L i k m') [o] a w) : Rs P Q S l SL L n m a w := by
  intro hSL hs hL hm hcl
  subst hn hl
  have hi : i < l.length := (List.getElem?_eq_some_iff.1 ho).1
  exact rx_one (by simpa using ho) (by rw [ready_eq hm, hSL]; exact hr) (rsOp_on hSL hs hL hm hi (by rw [← arrOf_set _ _ _ hi]; exact clo_set hcl (by rw [ready_eq hm, hSL, hr]; simp)) h)
theorem rs_two {SL : List Sm} (i j : Nat) {o o' : Oper} {L n k m mi mj : Nat} (hn : n = k + 1) (ho : l[i]? = some o) (ho' : l[j]? = some o') (hr : rdM m SL 0 = [i, j]) (hl : m ||| 2 ^ i = mi) (hl' : m ||| 2 ^ j = mj)
    (h : wpList P l.toArray (RsOp P Q S l SL L i k mi) [o] a w) (h' : wpList P l.toArray (RsOp P Q S l SL L j k mj) [o'] a w) : Rs P Q S l SL L n m a w := by
  intro hSL hs hL hm hcl
  subst hn hl hl'
  have hi : i < l.length := (List.getElem?_eq_some_iff.1 ho).1
  have hj : j < l.length := (List.getElem?_eq_some_iff.1 ho').1
  refine wpAnyL_all (rs := [i, j]) (by rw [ready_eq hm, hSL]; exact hr) (by simp) fun x hx => ?_
  rcases List.mem_cons.1 hx with rfl | hx
  · exact rx_one' (by simpa using ho) (rsOp_on hSL hs hL hm hi (by rw [← arrOf_set _ _ _ hi]; exact clo_set hcl (by rw [ready_eq hm, hSL, hr]; simp)) h)
  · obtain rfl : x = j := by simpa using hx
    exact rx_one' (by simpa using ho') (rsOp_on hSL hs hL hm hj (by rw [← arrOf_set _ _ _ hj]; exact clo_set hcl (by rw [ready_eq hm, hSL, hr]; simp)) h')
theorem rs_on {SL : List Sm} {L i k m : Nat} (hw : S w) (h : Rs P Q S l SL L k m a w) : RsOp P Q S l SL L i k m .normal a w := ⟨.inr hw, h⟩
theorem rs_lst {SL : List Sm} {L i k m : Nat} (hi : L.testBit i = true) (h : Rs P Q S l SL L k m a w) : RsOp P Q S l SL L i k m .normal a w := ⟨.inl hi, h⟩
theorem rs_end {SL : List Sm} {L n m : Nat} (hr : rdM m SL 0 = []) (h : Q .normal a w) : Rs P Q S l SL L n m a w := by
  intro hSL _ _ hm _
  exact wpAnyL_done (by rw [ready_eq hm, hSL]; exact hr) (NoPanic.normal h) n
end
end Go.Proofs.YtdhmjhoaegdfjaaGreat

namespace Go.Proofs.YtdhmjhoaegdfjaaGreat
open Go.RowKit Go.Sort Go.BigFrame
/-! A window in the making (in box g3 of the call's own), with the cursor gc. -/
theorem wok_drop {ns ls : List P2} (h : wok ns ls = true) {k : Nat} (hk : k < ls.length) : wok ns (ls.take k ++ ls.drop (k + 1)) = true := by
  rw [wok_iff] at h ⊢
  have hlen : (ls.take k ++ ls.drop (k + 1)).length = ls.length - 1 := by simp; omega
  have key : ∀ i, i < (ls.take k ++ ls.drop (k + 1)).length → gp (ls.take k ++ ls.drop (k + 1)) (i : Nat) = gp ls ((if i < k then i else i + 1 : Nat) : Int) := by
    intro i hi
    rw [gp_nat _ _ hi]
    by_cases c : i < k
    · rw [if_pos c, gp_nat _ _ (by omega), List.getElem_append_left (by rw [List.length_take]; omega), List.getElem_take]
    · rw [if_neg c, gp_nat _ _ (by omega), List.getElem_append_right (by rw [List.length_take]; omega), List.getElem_drop]
      congr 1
      rw [List.length_take]; omega
  refine ⟨h.lo, h.hi, by have := h.le; omega, h.ok, h.ne, fun i hi => ?_⟩
  have hi' : (if i < k then i else i + 1) < ls.length := by split <;> omega
  obtain ⟨a, b, c⟩ := h.ld _ hi'
  unfold leadW
  rw [key i hi]
  refine ⟨a, fun j hj => ?_, c⟩
  rw [key j (by omega)]
  exact b _ (by split <;> split <;> omega)
theorem vDropLead_ok {ns ls : List P2} (h : wok ns ls = true) (k : Int) : wok (vDropLead ns ls k).1.1 (vDropLead ns ls k).1.2 = true := by
  unfold vDropLead
  split
  · rename_i c
    obtain ⟨q1, q2⟩ := wi_iffV.1 c.2
    exact wok_drop h (by omega)
  · exact h
theorem vAddLead_ok {ns ls : List P2} (h : wok ns ls = true) (a b : Int) : wok (vAddLead ns ls a b).1.1 (vAddLead ns ls a b).1.2 = true := by
  unfold vAddLead
  split
  · rename_i c; exact c.2
  · exact h
theorem wok_len {ns ls : List P2} (h : wok ns ls = true) : 1 ≤ ns.length ∧ ns.length ≤ 12 ∧ ls.length ≤ 20 := by
  have := wok_iff.1 h
  exact ⟨this.lo, this.hi, this.le⟩
/-- what stands in a box -/
def BoxF (g : Nat) (v1 v2 : Value) (x : World) : Prop := x.cell? ⟨g, 0, none⟩ = some v1 ∧ x.cell? ⟨g, 1, none⟩ = some v2
theorem BoxF.c0 {g : Nat} {v1 v2 : Value} (q : WB (BoxF g v1 v2)) : q.wd.cell? ⟨g, 0, none⟩ = some v1 := q.is.1
theorem BoxF.c1 {g : Nat} {v1 v2 : Value} (q : WB (BoxF g v1 v2)) : q.wd.cell? ⟨g, 1, none⟩ = some v2 := q.is.2
structure LW (w0 w : World) (gc g2 g3 : Nat) (v1 v2 : Value) (ns ls : List P2) : Prop where
  cu : Cu w gc
  kg : Kg gc w0 w
  b2 : Bk w g2 27 [.slice none 0 0, .slice none 0 0]
  b3 : Bk w g3 27 [v1, v2]
  o1 : OwP w w0.heap.size 79 v1 ns
  o2 : OwP w w0.heap.size 81 v2 ls
  ok : wok ns ls = true
  l2 : w0.heap.size ≤ g2
  l3 : w0.heap.size ≤ g3
  ne : g2 ≠ g3
  gt : gc < w0.heap.size
section
variable {w0 w w' : World} {gc g2 g3 : Nat} {v1 v2 : Value} {ns ls : List P2}
theorem LW.go (h : LW w0 w gc g2 g3 v1 v2 ns ls) (hC : Cu w' gc) (k : Kg gc w w') : LW w0 w' gc g2 g3 v1 v2 ns ls :=
  ⟨hC, h.kg.trans k, h.cu.bk k h.b2 (by decide), h.cu.bk k h.b3 (by decide), h.cu.keep k h.o1 (by decide), h.cu.keep k h.o2 (by decide), h.ok, h.l2, h.l3, h.ne, h.gt⟩
theorem LW.ext (h : LW w0 w gc g2 g3 v1 v2 ns ls) (hx : Ext w w') : LW w0 w' gc g2 g3 v1 v2 ns ls := h.go (h.cu.ext hx) (Kg.of hx)
/-- a new window is put into the box -/
theorem LW.put (h : LW w0 w gc g2 g3 v1 v2 ns ls) {u1 u2 : Value} {ms ks : List P2} (o1 : OwP w w0.heap.size 79 u1 ms) (o2 : OwP w w0.heap.size 81 u2 ks) (hok : wok ms ks = true) :
    LW w0 ((w.setCell ⟨g3, 0, none⟩ u1).setCell ⟨g3, 1, none⟩ u2) gc g2 g3 u1 u2 ms ks := by
  have hgt : gc < g3 := Nat.lt_of_lt_of_le h.gt h.l3
  exact ⟨(h.cu.far hgt 0 _).far hgt 1 _, (h.kg.new h.l3 0 _).new h.l3 1 _, (h.b2.far (by show g2 ≠ g3; exact h.ne) _).far (by show g2 ≠ g3; exact h.ne) _, (h.b3.set_ 0 u1).set_ 1 u2,
    (OwP.far o1 h.b3 (by decide) 0 _).far (h.b3.set_ 0 _) (by decide) 1 _, (OwP.far o2 h.b3 (by decide) 0 _).far (h.b3.set_ 0 _) (by decide) 1 _, hok, h.l2, h.l3, h.ne, h.gt⟩
theorem LW.box (h : LW w0 w gc g2 g3 v1 v2 ns ls) : ∃ q : WB (BoxF g3 v1 v2), w = q.wd := WB.of ⟨h.b3.cell 0, h.b3.cell 1⟩
theorem LW.ne' (h : LW w0 w gc g2 g3 v1 v2 ns ls) : Nonempty (WB (BoxF g3 v1 v2)) := ⟨⟨w, h.b3.cell 0, h.b3.cell 1⟩⟩
theorem LW.wn2 {A B : Option Addr} {c d : Nat} (h : LW w0 w gc g2 g3 (.slice A ns.length c) (.slice B ls.length d) ns ls) : Wn w A c B d ns ls := by
  have := wok_len h.ok
  exact wn_own h.o1 h.o2 (by omega) (by omega)
theorem LW.up (h : LW w0 w gc g2 g3 v1 v2 ns ls) {t : TypeId} {v : Value} {l : List P2} (o : OwP w' w.heap.size t v l) : OwP w' w0.heap.size t v l := o.more h.kg.sz
theorem LW.fin (h : LW w0 w gc g2 g3 v1 v2 ns ls) : OwP ((w.setCell ⟨g2, 0, none⟩ v1).setCell ⟨g2, 1, none⟩ v2) w0.heap.size 79 v1 ns ∧ OwP ((w.setCell ⟨g2, 0, none⟩ v1).setCell ⟨g2, 1, none⟩ v2) w0.heap.size 81 v2 ls ∧ wok ns ls = true ∧
    Cu ((w.setCell ⟨g2, 0, none⟩ v1).setCell ⟨g2, 1, none⟩ v2) gc ∧ Kg gc w0 ((w.setCell ⟨g2, 0, none⟩ v1).setCell ⟨g2, 1, none⟩ v2) := by
  have hgt : gc < g2 := Nat.lt_of_lt_of_le h.gt h.l2
  exact ⟨(OwP.far h.o1 h.b2 (by decide) 0 _).far (h.b2.set_ 0 _) (by decide) 1 _, (OwP.far h.o2 h.b2 (by decide) 0 _).far (h.b2.set_ 0 _) (by decide) 1 _, h.ok, (h.cu.far hgt 0 _).far hgt 1 _, (h.kg.new h.l2 0 _).new h.l2 1 _⟩
/-- something else grows -/
theorem LW.gb (h : LW w0 w gc g2 g3 v1 v2 ns ls) {r : Option Nat} {v5 : Value} {B5 : Nat} {l5 : List P2} (k : w.grownBy w' r) (hr : ∀ q, r = some q → v5.ownBlock = some q) (o5 : OwP w B5 79 v5 l5) (hB : w0.heap.size ≤ B5)
    (hd : ∀ q, v1.ownBlock = some q → q < B5) (he : ∀ W, Ext W w → W.heap.size ≤ B5 → Ext W w') : LW w0 w' gc g2 g3 v1 v2 ns ls := by
  have hq : ∀ q, r = some q → B5 ≤ q := fun q e => (World.ownsRow.lt o5 q (hr q e)).1
  have hgc := h.cu
  refine ⟨?_, ⟨Nat.le_trans h.kg.sz k.size, fun b hb hne => (k.block b (Nat.lt_of_lt_of_le hb h.kg.sz) fun e => ?_).trans (h.kg.bl b hb hne), fun W hW hWg => he W (h.kg.ex W hW hWg) (by have := hW.size; have := h.gt; omega)⟩, gb_bk h.b2 k fun e => OwP.nebk o5 h.b2 (by decide) (hr _ e), gb_bk h.b3 k fun e => OwP.nebk o5 h.b3 (by decide) (hr _ e),
    OwP.gb h.o1 k (fun q e1 e2 => ?_), OwP.gb h.o2 k (fun q e1 e2 => OwP.dj o5 h.o2 (by decide) q (hr q e2) e1), h.ok, h.l2, h.l3, h.ne, h.gt⟩
  · obtain ⟨A, n, c, i, hh, q1, q2, q3, hb, xs, hs⟩ := hgc.bx
    have hlt := hb.lt
    refine ⟨A, n, c, i, hh, q1, q2, q3, gb_bk hb k fun e => OwP.nebk o5 hb (by decide) (hr _ e), xs, hs.1, fun hn => ?_⟩
    obtain ⟨b, off, e, hbl, hcs⟩ := hs.2 hn
    refine ⟨b, off, e, hbl, fun j u hu => ?_⟩
    rw [← hcs j u hu]
    have hbb : w'.heap[b]? = w.heap[b]? := k.block b (by omega) fun e => by have := hq b e.symm; have := h.gt; omega
    unfold World.cell?
    simp only [hbb]
  · have := hq b e.symm; omega
  · have := hq q e2; have := hd q e1; omega
theorem LW.far (h : LW w0 w gc g2 g3 v1 v2 ns ls) {g5 : Nat} {cs : List Value} (b5 : Bk w g5 27 cs) (n2 : g2 ≠ g5) (n3 : g3 ≠ g5) (hg : w0.heap.size ≤ g5) (i : Nat) (v : Value) : LW w0 (w.setCell ⟨g5, i, none⟩ v) gc g2 g3 v1 v2 ns ls :=
  ⟨h.cu.far (Nat.lt_of_lt_of_le h.gt hg) i v, h.kg.new hg i v, h.b2.far n2 v, h.b3.far n3 v, OwP.far h.o1 b5 (by decide) i v, OwP.far h.o2 b5 (by decide) i v, h.ok, h.l2, h.l3, h.ne, h.gt⟩
theorem LW.wn (h : LW w0 w gc g2 g3 v1 v2 ns ls) : ∃ A c B d, v1 = .slice A ns.length c ∧ v2 = .slice B ls.length d ∧ Wn w A c B d ns ls := by
  obtain ⟨A, c, rfl, -, -, -⟩ := OwP.shape h.o1
  obtain ⟨B, d, rfl, -, -, -⟩ := OwP.shape h.o2
  have := wok_len h.ok
  exact ⟨A, c, B, d, rfl, rfl, wn_own h.o1 h.o2 (by omega) (by omega)⟩
end
end Go.Proofs.YtdhmjhoaegdfjaaGreat

namespace Go.Proofs.YtdhmjhoaegdfjaaGreat
open Go.RowKit Go.Sort Go.BigFrame
set_option maxRecDepth 100000 in
set_option maxHeartbeats 8000000 in
theorem l04Window_s (w : World) (gc : Nat) (h : Cu w gc) :
    Calls Tryz.prog 61 #[.pointer (some ⟨gc, 0, none⟩)] w fun e w' => ∃ v1 v2 ns ls, e = .returned (.agg #[v1, v2]) ∧ OwP w' w.heap.size 79 v1 ns ∧ OwP w' w.heap.size 81 v2 ls ∧ wok ns ls = true ∧ Cu w' gc ∧ Kg gc w w' := by
  have HC := Lib.hid h
  have HGT := Lib.hid h.lt
  clear h
  go_enter Tryz.func61, Tryz.ntmps61
  go_upto_region 1 with fail
  have HR := Lib.hid (Bk.new (w := w) (g := w.heap.size) 27 [.slice none 0 0, .slice none 0 0] rfl)
  have hx := (Ext.refl w).alloc (.cells #[.slice none 0 0, .slice none 0 0] 27)
  change Hid (Bk (w.alloc (.cells #[.slice none 0 0, .slice none 0 0] 27)) w.heap.size 27 [.slice none 0 0, .slice none 0 0]) at HR
  generalize (w.alloc (.cells #[.slice none 0 0, .slice none 0 0] 27)) = wa at *
  have HX := Lib.hid hx
  clear hx
  generalize hg2 : w.heap.size = g2 at *
  have HG := Lib.hid hg2
  clear hg2
  go_wp2_with fail
  refine (l01Below_s _ gc (HC.out.ext HX.out) 5 (by omega)).mono ?_
  rintro e wb ⟨r, rfl, hr5, -, hC, hK⟩
  have hr5 := hr5 (by omega)
  have HR := Lib.hid ((HC.out.ext HX.out).bk hK HR.out (by decide))
  have HK := Lib.hid ((Kg.of HX.out).trans hK)
  go_wp2_with fail
  refine (l04Shape_s _ r (by omega)).mono ?_
  rintro e wc ⟨v1, v2, rfl, o1, o2, hb⟩
  have HL0 : Hid (∀ g3, wc.heap.size = g3 → LW w (wc.alloc (.cells #[v1, v2] 27)) gc g2 g3 v1 v2 (shN r) (shL r)) := Lib.hid (fun g3 hg3 => by
    have hb2 := (Ext.refl wc).alloc (.cells #[v1, v2] 27)
    have hsz := HK.out.sz
    have hsb := hb.size
    have hlt := HR.out.lt
    exact ⟨(hC.ext hb).ext hb2, HK.out.trans ((Kg.of hb).trans (Kg.of hb2)), (HR.out.ext hb).ext hb2, Bk.new _ _ hg3.symm, ow_more (o1.ext2 hb2) hsz, ow_more (o2.ext2 hb2) hsz, sh_ok r (by omega), Nat.le_of_eq HG.out, by omega, by omega, by rw [HG.out]; exact HGT.out⟩)
  obtain ⟨A1, c1, rfl, -, -, -⟩ := o1.shape
  obtain ⟨A2, c2, rfl, -, -, -⟩ := o2.shape
  clear o1 o2 hb hC hK HR HX HK
  go_upto_region 2 with fail
  have HL := Lib.hid (HL0.out wc.heap.size rfl)
  clear HL0
  generalize hshN : shN r = ns at *
  generalize hshL : shL r = ls at *
  clear hshN hshL
  generalize (wc.alloc (.cells #[.slice A1 ns.length c1, .slice A2 ls.length c2] 27)) = wd at *
  generalize wc.heap.size = g3 at *
  go_wp2_with fail
  refine (l01Below_s _ gc HL.out.cu 4 (by omega)).mono ?_
  rintro e we ⟨q0, rfl, hq0, -, hC, hK⟩
  have hq0 := hq0 (by omega)
  have HL := Lib.hid (HL.out.go hC hK)
  clear hC hK
  go_wp2_with fail
  go_loopw [4] (fun i wr => ∃ (q : Nat) (v1 v2 : Value) (ns ls : List P2), i = .int .i64 (q : Int) ∧ q < 4 ∧ Hid (LW w wr gc g2 g3 v1 v2 ns ls)) (fun i _ => (intOf i).toNat)
  case atStart => exact ⟨q0, _, _, _, _, rfl, by omega, HL⟩
  case round =>
    clear HL
    obtain ⟨q, v1, v2, ns, ls, rfl, hq4, HL⟩ := hrel
    obtain ⟨wo, rfl⟩ : ∃ x : World, x = wr := ⟨_, rfl⟩
    obtain ⟨A, c, B, d, rfl, rfl, hwn⟩ := HL.out.wn
    have HWN := Lib.hid hwn
    clear hwn
    by_cases hq : 0 < q
    · have hqi : (0 : Int) < (q : Int) := by omega
      go_wp2_with fail
      refine (l01Once_s _ gc HL.out.cu 2 (by omega)).mono ?_
      rintro e w1 ⟨b, rfl, hC, hK⟩
      have HL := Lib.hid (HL.out.go hC hK)
      clear hC hK HWN
      cases b with
      | true =>
        go_upto_region 6 with fail
        have hlk := wok_len HL.out.ok
        have e0 := BoxF.c0 (g := g3) (v1 := .slice A ns.length c) (v2 := .slice B ls.length d)
        have e1 := BoxF.c1 (g := g3) (v1 := .slice A ns.length c) (v2 := .slice B ls.length d)
        have HL := Lib.hid (HL.out.ext ((Ext.refl w1).drew))
        have hne := HL.out.ne'
        refine rs_open (fun w' => ∃ q : WB (BoxF g3 (.slice A ns.length c) (.slice B ls.length d)), w' = q.wd) [(true, 0, some 18, 8), (true, 0, some 19, 1), (true, 0, some 20, 8), (true, 4, some 21, 1048576), (true, 8, some 22, 2097152), (true, 16, some 23, 4194304), (false, 34, some 24, 8912896), (false, 65, some 25, 17039360), (true, 128, some 17, 33554432), (true, 256, some 26, 131072), (true, 256, some 27, 131072), (false, 1023, none, 67108872)] 3584 12 mixd rfl (by kernel_rfl) (by kernel_rfl) (by kernel_rfl) ?_
        have hS := HL.out.box
        refine rs_run (run := [0, 1, 2, 3, 4, 5]) (k := 6) (m' := 63) rfl (by kernel_rfl) (by kernel_rfl) (by kernel_rfl) (fm_cons rfl <| fm_cons rfl <| fm_cons rfl <| fm_cons rfl <| fm_cons rfl <| fm_cons rfl <| List.filterMap_nil) hS ?_
        repeat (go_big_quiet_step ((fail)))
        refine wpQuiet_nil ?_
        refine rs_op 6 (k := 5) (m' := 127) rfl rfl (by kernel_rfl) (by kernel_rfl) ?_
        go_wp2_with (go_at_call 51; refine (l01Below_s _ gc HL.out.cu _ (by first | omega | (unfold imax; omega))).mono ?_; rintro e w2 ⟨rr, rfl, -, -, hC, hK⟩; have HL := Lib.hid (HL.out.go hC hK); clear hC hK hS; have hS := HL.out.box)
        refine rs_on hS ?_
        refine rs_op 7 (k := 4) (m' := 255) rfl rfl (by kernel_rfl) (by kernel_rfl) ?_
        go_wp2_with (go_at_call 81; refine (DropLead_s _ _ _ _ ns ls _ _ HL.out.wn2).mono ?_; rintro e w3 ⟨u1, u2, rfl, p1, p2, hx⟩; have P1 := Lib.hid (HL.out.up p1); have P2 := Lib.hid (HL.out.up p2); have HL := Lib.hid (HL.out.ext hx); obtain ⟨A3, c3, rfl, -, -, -⟩ := p1.shape; obtain ⟨A4, c4, rfl, -, -, -⟩ := p2.shape; clear p1 p2 hx hS; have hS := HL.out.box; have a0 := HL.out.b3.cell 0; have a1 := HL.out.b3.cell 1; have f0 := HL.out.b3.froz 0; have f1 := HL.out.b3.froz 1; simp only [List.getElem?_cons_zero, List.getElem?_cons_succ] at a0 a1)
        refine rs_on hS ?_
        refine rs_run (run := [8]) (k := 3) (m' := 511) rfl (by kernel_rfl) (by kernel_rfl) (by kernel_rfl) (fm_cons rfl <| List.filterMap_nil) hS ?_
        repeat (go_big_quiet_step ((fail)))
        refine wpQuiet_nil ?_
        refine rs_two 9 10 (k := 2) (mi := 1023) (mj := 1535) rfl rfl rfl (by kernel_rfl) (by kernel_rfl) (by kernel_rfl) ?_ ?_
        · skip
          go_wp2
          refine rs_lst (by decide) ?_
          refine rs_two 10 11 (k := 1) (mi := 2047) (mj := 3071) rfl rfl rfl (by kernel_rfl) (by kernel_rfl) (by kernel_rfl) ?_ ?_
          · skip
            go_wp2
            refine rs_lst (by decide) ?_
            refine rs_op 11 (k := 0) (m' := 4095) rfl rfl (by kernel_rfl) (by kernel_rfl) ?_
            go_wp2
            refine rs_lst (by decide) ?_
            refine rs_end (by kernel_rfl) ?_
            have HL := Lib.hid (HL.out.put P1.out P2.out (vDropLead_ok HL.out.ok _))
            clear a0 a1 f0 f1 hS hne e0 e1
            generalize (vDropLead ns ls rr).1.1 = ms at *
            generalize (vDropLead ns ls rr).1.2 = ks at *
            go_wp2
            go_roundw
            case rel => exact ⟨q - 1, _, _, _, _, by go_num, by omega, HL⟩
            case measure => first | (simp [intOf]; done) | (simp [intOf]; omega)
          · skip
            go_wp2
            refine rs_lst (by decide) ?_
            refine rs_op 10 (k := 0) (m' := 4095) rfl rfl (by kernel_rfl) (by kernel_rfl) ?_
            go_wp2
            refine rs_lst (by decide) ?_
            refine rs_end (by kernel_rfl) ?_
            have HL := Lib.hid (HL.out.put P1.out P2.out (vDropLead_ok HL.out.ok _))
            clear a0 a1 f0 f1 hS hne e0 e1
            generalize (vDropLead ns ls rr).1.1 = ms at *
            generalize (vDropLead ns ls rr).1.2 = ks at *
            go_wp2
            go_roundw
            case rel => exact ⟨q - 1, _, _, _, _, by go_num, by omega, HL⟩
            case measure => first | (simp [intOf]; done) | (simp [intOf]; omega)
        · skip
          go_wp2
          refine rs_lst (by decide) ?_
          refine rs_op 9 (k := 1) (m' := 2047) rfl rfl (by kernel_rfl) (by kernel_rfl) ?_
          go_wp2
          refine rs_lst (by decide) ?_
          refine rs_op 11 (k := 0) (m' := 4095) rfl rfl (by kernel_rfl) (by kernel_rfl) ?_
          go_wp2
          refine rs_lst (by decide) ?_
          refine rs_end (by kernel_rfl) ?_
          have HL := Lib.hid (HL.out.put P1.out P2.out (vDropLead_ok HL.out.ok _))
          clear a0 a1 f0 f1 hS hne e0 e1
          generalize (vDropLead ns ls rr).1.1 = ms at *
          generalize (vDropLead ns ls rr).1.2 = ks at *
          go_wp2
          go_roundw
          case rel => exact ⟨q - 1, _, _, _, _, by go_num, by omega, HL⟩
          case measure => first | (simp [intOf]; done) | (simp [intOf]; omega)
      | false =>
        go_upto_region 7 with fail
        have hlk := wok_len HL.out.ok
        have e0 := BoxF.c0 (g := g3) (v1 := .slice A ns.length c) (v2 := .slice B ls.length d)
        have e1 := BoxF.c1 (g := g3) (v1 := .slice A ns.length c) (v2 := .slice B ls.length d)
        have HL := Lib.hid (HL.out.ext ((Ext.refl w1).drew))
        have hne := HL.out.ne'
        refine rs_open (fun w' => ∃ q : WB (BoxF g3 (.slice A ns.length c) (.slice B ls.length d)), w' = q.wd) [(true, 0, some 29, 8), (true, 0, some 30, 1), (true, 0, some 31, 8), (true, 4, some 32, 2147483648), (true, 8, some 33, 4294967296), (false, 18, some 34, 9663676416), (true, 0, some 35, 1), (true, 0, some 36, 8), (true, 128, some 37, 68719476736), (true, 256, some 38, 137438953472), (false, 608, some 39, 309237645312), (false, 1057, some 40, 567472553984), (true, 2048, some 28, 1099511627776), (true, 4096, some 41, 268435456), (true, 4096, some 42, 268435456), (false, 16383, none, 2199023255560)] 57344 16 mixd rfl (by kernel_rfl) (by kernel_rfl) (by kernel_rfl) ?_
        have hS := HL.out.box
        refine rs_run (run := [0, 1, 2, 3, 4, 6, 7, 8, 9]) (k := 7) (m' := 991) rfl (by kernel_rfl) (by kernel_rfl) (by kernel_rfl) (fm_cons rfl <| fm_cons rfl <| fm_cons rfl <| fm_cons rfl <| fm_cons rfl <| fm_cons rfl <| fm_cons rfl <| fm_cons rfl <| fm_cons rfl <| List.filterMap_nil) hS ?_
        repeat (go_big_quiet_step ((fail)))
        refine wpQuiet_nil ?_
        refine rs_op 5 (k := 6) (m' := 1023) rfl rfl (by kernel_rfl) (by kernel_rfl) ?_
        go_wp2_with (go_at_call 51; refine (l01Below_s _ gc HL.out.cu _ (by first | omega | (unfold imax; omega))).mono ?_; rintro e w2 ⟨ra, rfl, -, -, hC, hK⟩; have HL := Lib.hid (HL.out.go hC hK); clear hC hK hS; have hS := HL.out.box)
        refine rs_on hS ?_
        refine rs_op 10 (k := 5) (m' := 2047) rfl rfl (by kernel_rfl) (by kernel_rfl) ?_
        go_wp2_with (go_at_call 51; refine (l01Below_s _ gc HL.out.cu _ (by first | omega | (unfold imax; omega))).mono ?_; rintro e w4 ⟨rb, rfl, -, -, hC, hK⟩; have HL := Lib.hid (HL.out.go hC hK); clear hC hK hS; have hS := HL.out.box)
        refine rs_on hS ?_
        refine rs_op 11 (k := 4) (m' := 4095) rfl rfl (by kernel_rfl) (by kernel_rfl) ?_
        go_wp2_with (go_at_call 82; refine (AddLead_s _ _ _ _ ns ls _ _ _ HL.out.wn2 (by omega) (by omega)).mono ?_; rintro e w3 ⟨u1, u2, rfl, p1, p2, hx⟩; have P1 := Lib.hid (HL.out.up p1); have P2 := Lib.hid (HL.out.up p2); have HL := Lib.hid (HL.out.ext hx); obtain ⟨A3, c3, rfl, -, -, -⟩ := p1.shape; obtain ⟨A4, c4, rfl, -, -, -⟩ := p2.shape; clear p1 p2 hx hS; have hS := HL.out.box; have a0 := HL.out.b3.cell 0; have a1 := HL.out.b3.cell 1; have f0 := HL.out.b3.froz 0; have f1 := HL.out.b3.froz 1; simp only [List.getElem?_cons_zero, List.getElem?_cons_succ] at a0 a1)
        refine rs_on hS ?_
        refine rs_run (run := [12]) (k := 3) (m' := 8191) rfl (by kernel_rfl) (by kernel_rfl) (by kernel_rfl) (fm_cons rfl <| List.filterMap_nil) hS ?_
        repeat (go_big_quiet_step ((fail)))
        refine wpQuiet_nil ?_
        refine rs_two 13 14 (k := 2) (mi := 16383) (mj := 24575) rfl rfl rfl (by kernel_rfl) (by kernel_rfl) (by kernel_rfl) ?_ ?_
        · skip
          go_wp2
          refine rs_lst (by decide) ?_
          refine rs_two 14 15 (k := 1) (mi := 32767) (mj := 49151) rfl rfl rfl (by kernel_rfl) (by kernel_rfl) (by kernel_rfl) ?_ ?_
          · skip
            go_wp2
            refine rs_lst (by decide) ?_
            refine rs_op 15 (k := 0) (m' := 65535) rfl rfl (by kernel_rfl) (by kernel_rfl) ?_
            go_wp2
            refine rs_lst (by decide) ?_
            refine rs_end (by kernel_rfl) ?_
            have HL := Lib.hid (HL.out.put P1.out P2.out (vAddLead_ok HL.out.ok _ _))
            clear a0 a1 f0 f1 hS hne e0 e1
            generalize (vAddLead ns ls ra rb).1.1 = ms at *
            generalize (vAddLead ns ls ra rb).1.2 = ks at *
            go_wp2
            go_roundw
            case rel => exact ⟨q - 1, _, _, _, _, by go_num, by omega, HL⟩
            case measure => first | (simp [intOf]; done) | (simp [intOf]; omega)
          · skip
            go_wp2
            refine rs_lst (by decide) ?_
            refine rs_op 14 (k := 0) (m' := 65535) rfl rfl (by kernel_rfl) (by kernel_rfl) ?_
            go_wp2
            refine rs_lst (by decide) ?_
            refine rs_end (by kernel_rfl) ?_
            have HL := Lib.hid (HL.out.put P1.out P2.out (vAddLead_ok HL.out.ok _ _))
            clear a0 a1 f0 f1 hS hne e0 e1
            generalize (vAddLead ns ls ra rb).1.1 = ms at *
            generalize (vAddLead ns ls ra rb).1.2 = ks at *
            go_wp2
            go_roundw
            case rel => exact ⟨q - 1, _, _, _, _, by go_num, by omega, HL⟩
            case measure => first | (simp [intOf]; done) | (simp [intOf]; omega)
        · skip
          go_wp2
          refine rs_lst (by decide) ?_
          refine rs_op 13 (k := 1) (m' := 32767) rfl rfl (by kernel_rfl) (by kernel_rfl) ?_
          go_wp2
          refine rs_lst (by decide) ?_
          refine rs_op 15 (k := 0) (m' := 65535) rfl rfl (by kernel_rfl) (by kernel_rfl) ?_
          go_wp2
          refine rs_lst (by decide) ?_
          refine rs_end (by kernel_rfl) ?_
          have HL := Lib.hid (HL.out.put P1.out P2.out (vAddLead_ok HL.out.ok _ _))
          clear a0 a1 f0 f1 hS hne e0 e1
          generalize (vAddLead ns ls ra rb).1.1 = ms at *
          generalize (vAddLead ns ls ra rb).1.2 = ks at *
          go_wp2
          go_roundw
          case rel => exact ⟨q - 1, _, _, _, _, by go_num, by omega, HL⟩
          case measure => first | (simp [intOf]; done) | (simp [intOf]; omega)
    · obtain rfl : q = 0 := by omega
      go_wp2_with fail
      refine (l01Once_s _ gc HL.out.cu 4 (by omega)).mono ?_
      rintro e w1 ⟨b, rfl, hC, hK⟩
      have HL := Lib.hid (HL.out.go hC hK)
      clear hC hK HWN
      cases b with
      | false =>
        have r0 := HL.out.b2.cell 0
        have r1 := HL.out.b2.cell 1
        have f0 := HL.out.b2.froz 0
        have f1 := HL.out.b2.froz 1
        have a0 := HL.out.b3.cell 0
        have a1 := HL.out.b3.cell 1
        simp only [List.getElem?_cons_zero, List.getElem?_cons_succ] at r0 r1 a0 a1
        go_wp2
        (try simp only [Exit.inBlock, Exit.then])
        refine bodyPost_ret (by simp [results, Tryz.results61, go_sem, r0, r1]; try rfl) rfl ?_
        exact ⟨_, _, _, _, rfl, HL.out.fin⟩
      | true =>
        have hlk := wok_len HL.out.ok
        have a0 := HL.out.b3.cell 0
        have a1 := HL.out.b3.cell 1
        simp only [List.getElem?_cons_zero, List.getElem?_cons_succ] at a0 a1
        have HD : Hid (∀ q, (Value.slice A ns.length c).ownBlock = some q → q < w1.heap.size) := Lib.hid (fun q e => (World.ownsRow.lt HL.out.o1 q e).2)
        have HS1 := Lib.hid HL.out.kg.sz
        go_wp2_with fail
        refine (copy_s_l04Copy _ _ _ _ ns ls _ HL.out.wn2).mono ?_
        rintro e w2 ⟨v5, v6, rfl, o5, o6, -, hb⟩
        obtain ⟨A5, c5, rfl, -, -, -⟩ := o5.shape
        obtain ⟨A6, c6, rfl, -, -, -⟩ := o6.shape
        have HL := Lib.hid (HL.out.ext hb)
        have HS2 := Lib.hid hb.size
        have hg2l := HL.out.b2.lt
        have hg3l := HL.out.b3.lt
        clear hb a0 a1
        go_upto_region 10 with fail
        have hb := ((Ext.refl w2).alloc (.cells #[.slice A5 ns.length c5, .slice A6 ls.length c6] 27)).drew
        have HB5 : Hid (Bk (w2.alloc (.cells #[.slice A5 ns.length c5, .slice A6 ls.length c6] 27)).drew w2.heap.size 27 [.slice A5 ns.length c5, .slice A6 ls.length c6]) := Lib.hid (Bk.new _ _ rfl)
        replace HL := Lib.hid (HL.out.ext hb)
        have O5 := Lib.hid (OwP.ext2 o5 hb)
        have O6 := Lib.hid (OwP.ext2 o6 hb)
        replace HS2 := Lib.hid (Nat.le_trans HS2.out hb.size)
        clear o5 o6 hb
        have hg5 : w.heap.size ≤ w2.heap.size := Nat.le_trans HL.out.l2 (Nat.le_of_lt hg2l)
        generalize hg5e : w2.heap.size = g5 at *
        have e0 := BoxF.c0 (g := g5) (v1 := .slice A5 ns.length c5) (v2 := .slice A6 ls.length c6)
        have e1 := BoxF.c1 (g := g5) (v1 := .slice A5 ns.length c5) (v2 := .slice A6 ls.length c6)
        have hne : Nonempty (WB (BoxF g5 (.slice A5 ns.length c5) (.slice A6 ls.length c6))) := ⟨⟨_, HB5.out.cell 0, HB5.out.cell 1⟩⟩
        refine rs_open (fun w' => ∃ q : WB (BoxF g5 (.slice A5 ns.length c5) (.slice A6 ls.length c6)), w' = q.wd) [(true, 0, some 47, 32), (true, 1, some 48, 140737488355328), (true, 0, some 49, 1), (false, 4, some 50, 562949953421312), (false, 8, some 51, 1125899906842624), (false, 26, some 52, 2533274790395904), (true, 63, some 53, 32), (false, 127, none, 13510798882111488)] 128 8 mixd rfl (by kernel_rfl) (by kernel_rfl) (by kernel_rfl) ?_
        have hS := WB.of (F := BoxF g5 (.slice A5 ns.length c5) (.slice A6 ls.length c6)) ⟨HB5.out.cell 0, HB5.out.cell 1⟩
        refine rs_run (run := [0, 1, 2]) (k := 5) (m' := 7) rfl (by kernel_rfl) (by kernel_rfl) (by kernel_rfl) (fm_cons rfl <| fm_cons rfl <| fm_cons rfl <| List.filterMap_nil) hS ?_
        repeat (go_big_quiet_step ((fail)))
        refine wpQuiet_nil ?_
        refine rs_op 3 (k := 4) (m' := 15) rfl rfl (by kernel_rfl) (by kernel_rfl) ?_
        go_wp2_with (go_at_call 84; refine (l02Node_s _ gc HL.out.cu).mono ?_; rintro e w4 ⟨x, y, rfl, hC, hK⟩; replace O5 : Hid (OwP w4 w1.heap.size 79 (.slice A5 ns.length c5) ns) := Lib.hid (HL.out.cu.keep hK O5.out (by decide)); replace O6 : Hid (OwP w4 w1.heap.size 81 (.slice A6 ls.length c6) ls) := Lib.hid (HL.out.cu.keep hK O6.out (by decide)); replace HB5 := Lib.hid (HL.out.cu.bk hK HB5.out (by decide)); replace HL := Lib.hid (HL.out.go hC hK); replace HS2 := Lib.hid (Nat.le_trans HS2.out hK.sz); clear hC hK hS; have hS := WB.of (F := BoxF g5 (.slice A5 ns.length c5) (.slice A6 ls.length c6)) ⟨HB5.out.cell 0, HB5.out.cell 1⟩)
        refine rs_on hS ?_
        refine rs_op 4 (k := 3) (m' := 31) rfl rfl (by kernel_rfl) (by kernel_rfl) ?_
        go_wp2
        have hb := (Ext.refl w4).alloc (.cells #[.int .i64 x, .int .i64 y] 79)
        have HPR := Lib.hid (pr_oneg (w := w4) (t := 79) rfl x y)
        replace HL := Lib.hid (HL.out.ext hb)
        replace O5 := Lib.hid (OwP.ext2 O5.out hb)
        replace O6 := Lib.hid (OwP.ext2 O6.out hb)
        replace HB5 := Lib.hid (HB5.out.ext hb)
        replace HS2 := Lib.hid (Nat.le_trans HS2.out hb.size)
        clear hb hS
        have hS := WB.of (F := BoxF g5 (.slice A5 ns.length c5) (.slice A6 ls.length c6)) ⟨HB5.out.cell 0, HB5.out.cell 1⟩
        refine rs_on hS ?_
        refine rs_op 5 (k := 2) (m' := 63) rfl rfl (by kernel_rfl) (by kernel_rfl) ?_
        go_wp2_with (at_builtin; refine az_src 24 79 Tryz.underlying24 infoN _ _ rfl rfl (v := .slice A5 ns.length c5) rfl O5.out (l := [(x, y)]) rfl rfl HPR.out (by omega) (by simp) HS2.out ?_; intro v7 w9 r9 h6 h6e h6g h6r; obtain ⟨A7, c7, e7, -, -, -⟩ := h6.shape; rw [show (ns ++ [(x, y)]).length = ns.length + 1 by simp] at e7; subst e7; replace HL := Lib.hid (HL.out.gb h6g h6r O5.out HS1.out HD.out h6e); replace O6 := Lib.hid (OwP.gb O6.out h6g (fun q e1 e2 => OwP.dj O5.out O6.out (by decide) q (h6r q e2) e1)); replace HB5 := Lib.hid (gb_bk HB5.out h6g (fun e => OwP.nebk O5.out HB5.out (by decide) (h6r _ e))); have O7 := Lib.hid h6; clear h6 h6e h6g h6r O5 hS; have hS := WB.of (F := BoxF g5 (.slice A5 ns.length c5) (.slice A6 ls.length c6)) ⟨HB5.out.cell 0, HB5.out.cell 1⟩; have a50 := HB5.out.cell 0; have f50 := HB5.out.froz 0; simp only [List.getElem?_cons_zero] at a50)
        refine rs_on hS ?_
        refine rs_run (run := [6]) (k := 1) (m' := 127) rfl (by kernel_rfl) (by kernel_rfl) (by kernel_rfl) (fm_cons rfl <| List.filterMap_nil) hS ?_
        repeat (go_big_quiet_step ((fail)))
        refine wpQuiet_nil ?_
        refine rs_op 7 (k := 0) (m' := 255) rfl rfl (by kernel_rfl) (by kernel_rfl) ?_
        go_wp2
        refine rs_lst (by decide) ?_
        refine rs_end (by kernel_rfl) ?_
        skip
        clear hS a50 f50 e0 e1 hne
        have HLN : Hid (ns.length + 1 = (ns ++ [(x, y)]).length) := Lib.hid (by simp)
        obtain ⟨wB, hwB⟩ : ∃ q : World, q = w9.setCell ⟨g5, 0, none⟩ (.slice A7 (ns.length + 1) c7) := ⟨_, rfl⟩
        have HLB : Hid (LW w wB gc g2 g3 (.slice A ns.length c) (.slice B ls.length d) ns ls) := Lib.hid (by rw [hwB]; exact HL.out.far HB5.out (by omega) (by omega) hg5 0 _)
        have HBB : Hid (Bk wB g5 27 [.slice A7 (ns.length + 1) c7, .slice A6 ls.length c6]) := Lib.hid (by rw [hwB]; exact HB5.out.set_ 0 _)
        have O7B : Hid (OwP wB w1.heap.size 79 (.slice A7 (ns.length + 1) c7) (ns ++ [(x, y)])) := Lib.hid (by rw [hwB]; exact OwP.far O7.out HB5.out (by decide) 0 _)
        have O6B : Hid (OwP wB w1.heap.size 81 (.slice A6 ls.length c6) ls) := Lib.hid (by rw [hwB]; exact OwP.far O6.out HB5.out (by decide) 0 _)
        rw [← hwB]
        clear hwB HL HB5 O7 O6 HPR
        have b0 := HBB.out.cell 0
        have b1 := HBB.out.cell 1
        simp only [List.getElem?_cons_zero, List.getElem?_cons_succ] at b0 b1
        go_wp2_with fail
        refine (WindowOk_sL (wn_own O7B.out O6B.out (by rw [← HLN.out]; omega) (by omega)) HLN.out rfl).mono ?_
        rintro e wC ⟨rfl, hb⟩
        have HL := Lib.hid (HLB.out.ext hb)
        have HBC := Lib.hid (HBB.out.ext hb)
        have O7C := Lib.hid (OwP.ext2 O7B.out hb)
        have O6C := Lib.hid (OwP.ext2 O6B.out hb)
        clear hb HLB HBB O7B O6B b0 b1
        cases hwx : wok (ns ++ [(x, y)]) ls with
        | false =>
          have r0 := HL.out.b2.cell 0
          have r1 := HL.out.b2.cell 1
          have f0 := HL.out.b2.froz 0
          have f1 := HL.out.b2.froz 1
          have a0 := HL.out.b3.cell 0
          have a1 := HL.out.b3.cell 1
          simp only [List.getElem?_cons_zero, List.getElem?_cons_succ] at r0 r1 a0 a1
          go_wp2
          (try simp only [Exit.inBlock, Exit.then])
          refine bodyPost_ret (by simp [results, Tryz.results61, go_sem, r0, r1]; try rfl) rfl ?_
          exact ⟨_, _, _, _, rfl, HL.out.fin⟩
        | true =>
          go_upto_region 12 with fail
          have hb := (Ext.refl wC).drew
          replace HL := Lib.hid (HL.out.ext hb)
          replace HBC := Lib.hid (HBC.out.ext hb)
          have O7D : Hid (OwP wC.drew w1.heap.size 79 (.slice A7 (ns.length + 1) c7) (ns ++ [(x, y)])) := Lib.hid (OwP.ext2 O7C.out hb)
          have O6D : Hid (OwP wC.drew w1.heap.size 81 (.slice A6 ls.length c6) ls) := Lib.hid (OwP.ext2 O6C.out hb)
          clear hb O7C O6C
          have e0 : ∀ q : WB (fun u => BoxF g5 (.slice A7 (ns.length + 1) c7) (.slice A6 ls.length c6) u ∧ BoxF g3 (.slice A ns.length c) (.slice B ls.length d) u), q.wd.cell? ⟨g5, 0, none⟩ = some (.slice A7 (ns.length + 1) c7) := fun q => q.is.1.1
          have e1 : ∀ q : WB (fun u => BoxF g5 (.slice A7 (ns.length + 1) c7) (.slice A6 ls.length c6) u ∧ BoxF g3 (.slice A ns.length c) (.slice B ls.length d) u), q.wd.cell? ⟨g5, 1, none⟩ = some (.slice A6 ls.length c6) := fun q => q.is.1.2
          have e2 : ∀ q : WB (fun u => BoxF g5 (.slice A7 (ns.length + 1) c7) (.slice A6 ls.length c6) u ∧ BoxF g3 (.slice A ns.length c) (.slice B ls.length d) u), q.wd.cell? ⟨g3, 0, none⟩ = some (.slice A ns.length c) := fun q => q.is.2.1
          have hmk : ∀ u : World, Bk u g5 27 [.slice A7 (ns.length + 1) c7, .slice A6 ls.length c6] → Bk u g3 27 [.slice A ns.length c, .slice B ls.length d] → ∃ q : WB (fun u => BoxF g5 (.slice A7 (ns.length + 1) c7) (.slice A6 ls.length c6) u ∧ BoxF g3 (.slice A ns.length c) (.slice B ls.length d) u), u = q.wd   := fun u h1 h2 => WB.of ⟨⟨h1.cell 0, h1.cell 1⟩, h2.cell 0, h2.cell 1⟩
          have HMK := Lib.hid hmk
          have hne : Nonempty (WB (fun u => BoxF g5 (.slice A7 (ns.length + 1) c7) (.slice A6 ls.length c6) u ∧ BoxF g3 (.slice A ns.length c) (.slice B ls.length d) u)) := ⟨(hmk _ HBC.out HL.out.b3).choose⟩
          clear hmk
          refine rs_open (fun w' => ∃ q : WB (fun u => BoxF g5 (.slice A7 (ns.length + 1) c7) (.slice A6 ls.length c6) u ∧ BoxF g3 (.slice A ns.length c) (.slice B ls.length d) u), w' = q.wd) [(true, 0, some 57, 32), (true, 0, some 58, 1), (true, 0, some 59, 8), (true, 4, some 60, 576460752303423488), (true, 8, some 61, 1152921504606846976), (false, 18, some 62, 2594073385365405696), (true, 0, some 63, 8), (true, 64, some 64, 9223372036854775808), (true, 128, some 65, 18446744073709551616), (false, 289, some 66, 41649289353922347008), (true, 512, some 56, 73786976294838206464), (true, 1024, some 67, 72057594037927936), (true, 1024, some 68, 72057594037927936), (false, 4095, none, 147573952589676412936)] 14336 14 mixd rfl (by kernel_rfl) (by kernel_rfl) (by kernel_rfl) ?_
          have hS := HMK.out _ HBC.out HL.out.b3
          refine rs_run (run := [0, 1, 2, 3, 4, 6, 7, 8]) (k := 6) (m' := 479) rfl (by kernel_rfl) (by kernel_rfl) (by kernel_rfl) (fm_cons rfl <| fm_cons rfl <| fm_cons rfl <| fm_cons rfl <| fm_cons rfl <| fm_cons rfl <| fm_cons rfl <| fm_cons rfl <| List.filterMap_nil) hS ?_
          repeat (go_big_quiet_step ((fail)))
          refine wpQuiet_nil ?_
          refine rs_op 5 (k := 5) (m' := 511) rfl rfl (by kernel_rfl) (by kernel_rfl) ?_
          go_wp2_with (go_at_call 51; refine (l01Below_s _ gc HL.out.cu _ (by first | omega | (unfold imax; omega))).mono ?_; rintro e wD ⟨ra, rfl, -, -, hC, hK⟩; replace HBC := Lib.hid (HL.out.cu.bk hK HBC.out (by decide)); have O7 : Hid (OwP wD w1.heap.size 79 (.slice A7 (ns.length + 1) c7) (ns ++ [(x, y)])) := Lib.hid (HL.out.cu.keep hK O7D.out (by decide)); have O6 : Hid (OwP wD w1.heap.size 81 (.slice A6 ls.length c6) ls) := Lib.hid (HL.out.cu.keep hK O6D.out (by decide)); replace HL := Lib.hid (HL.out.go hC hK); clear hC hK hS O7D O6D; have hS := HMK.out _ HBC.out HL.out.b3)
          refine rs_on hS ?_
          refine rs_op 9 (k := 4) (m' := 1023) rfl rfl (by kernel_rfl) (by kernel_rfl) ?_
          go_wp2_with (go_at_call 82; rw [HLN.out]; refine (AddLead_s _ _ _ _ (ns ++ [(x, y)]) ls _ _ _ (wn_own O7.out O6.out (by rw [← HLN.out]; omega) (by omega)) (by rw [← HLN.out]; omega) (by omega)).mono ?_; rintro e wE ⟨u1, u2, rfl, p1, p2, hx⟩; have P1 := Lib.hid (HL.out.up p1); have P2 := Lib.hid (HL.out.up p2); replace HL := Lib.hid (HL.out.ext hx); replace HBC := Lib.hid (HBC.out.ext hx); obtain ⟨A3, c3, rfl, -, -, -⟩ := p1.shape; obtain ⟨A4, c4, rfl, -, -, -⟩ := p2.shape; clear p1 p2 hx hS; have hS := HMK.out _ HBC.out HL.out.b3; have a0 := HL.out.b3.cell 0; have a1 := HL.out.b3.cell 1; have f0 := HL.out.b3.froz 0; have f1 := HL.out.b3.froz 1; simp only [List.getElem?_cons_zero, List.getElem?_cons_succ] at a0 a1)
          refine rs_on hS ?_
          refine rs_run (run := [10]) (k := 3) (m' := 2047) rfl (by kernel_rfl) (by kernel_rfl) (by kernel_rfl) (fm_cons rfl <| List.filterMap_nil) hS ?_
          repeat (go_big_quiet_step ((fail)))
          refine wpQuiet_nil ?_
          refine rs_two 11 12 (k := 2) (mi := 4095) (mj := 6143) rfl rfl rfl (by kernel_rfl) (by kernel_rfl) (by kernel_rfl) ?_ ?_
          · skip
            go_wp2
            refine rs_lst (by decide) ?_
            refine rs_two 12 13 (k := 1) (mi := 8191) (mj := 12287) rfl rfl rfl (by kernel_rfl) (by kernel_rfl) (by kernel_rfl) ?_ ?_
            · skip
              go_wp2
              refine rs_lst (by decide) ?_
              refine rs_op 13 (k := 0) (m' := 16383) rfl rfl (by kernel_rfl) (by kernel_rfl) ?_
              go_wp2
              refine rs_lst (by decide) ?_
              refine rs_end (by kernel_rfl) ?_
              replace HL := Lib.hid (HL.out.put P1.out P2.out (vAddLead_ok hwx _ _))
              clear a0 a1 f0 f1 hS hne e0 e1 e2 P1 P2 O7 O6
              generalize (vAddLead (ns ++ [(x, y)]) ls ra ns.length).1.1 = ms at *
              generalize (vAddLead (ns ++ [(x, y)]) ls ra ns.length).1.2 = ks at *
              have r0 := HL.out.b2.cell 0
              have r1 := HL.out.b2.cell 1
              have f0 := HL.out.b2.froz 0
              have f1 := HL.out.b2.froz 1
              have a0 := HL.out.b3.cell 0
              have a1 := HL.out.b3.cell 1
              simp only [List.getElem?_cons_zero, List.getElem?_cons_succ] at r0 r1 a0 a1
              go_wp2
              (try simp only [Exit.inBlock, Exit.then])
              refine bodyPost_ret (by simp [results, Tryz.results61, go_sem, r0, r1]; try rfl) rfl ?_
              exact ⟨_, _, _, _, rfl, HL.out.fin⟩
            · skip
              go_wp2
              refine rs_lst (by decide) ?_
              refine rs_op 12 (k := 0) (m' := 16383) rfl rfl (by kernel_rfl) (by kernel_rfl) ?_
              go_wp2
              refine rs_lst (by decide) ?_
              refine rs_end (by kernel_rfl) ?_
              replace HL := Lib.hid (HL.out.put P1.out P2.out (vAddLead_ok hwx _ _))
              clear a0 a1 f0 f1 hS hne e0 e1 e2 P1 P2 O7 O6
              generalize (vAddLead (ns ++ [(x, y)]) ls ra ns.length).1.1 = ms at *
              generalize (vAddLead (ns ++ [(x, y)]) ls ra ns.length).1.2 = ks at *
              have r0 := HL.out.b2.cell 0
              have r1 := HL.out.b2.cell 1
              have f0 := HL.out.b2.froz 0
              have f1 := HL.out.b2.froz 1
              have a0 := HL.out.b3.cell 0
              have a1 := HL.out.b3.cell 1
              simp only [List.getElem?_cons_zero, List.getElem?_cons_succ] at r0 r1 a0 a1
              go_wp2
              (try simp only [Exit.inBlock, Exit.then])
              refine bodyPost_ret (by simp [results, Tryz.results61, go_sem, r0, r1]; try rfl) rfl ?_
              exact ⟨_, _, _, _, rfl, HL.out.fin⟩
          · skip
            go_wp2
            refine rs_lst (by decide) ?_
            refine rs_op 11 (k := 1) (m' := 8191) rfl rfl (by kernel_rfl) (by kernel_rfl) ?_
            go_wp2
            refine rs_lst (by decide) ?_
            refine rs_op 13 (k := 0) (m' := 16383) rfl rfl (by kernel_rfl) (by kernel_rfl) ?_
            go_wp2
            refine rs_lst (by decide) ?_
            refine rs_end (by kernel_rfl) ?_
            replace HL := Lib.hid (HL.out.put P1.out P2.out (vAddLead_ok hwx _ _))
            clear a0 a1 f0 f1 hS hne e0 e1 e2 P1 P2 O7 O6
            generalize (vAddLead (ns ++ [(x, y)]) ls ra ns.length).1.1 = ms at *
            generalize (vAddLead (ns ++ [(x, y)]) ls ra ns.length).1.2 = ks at *
            have r0 := HL.out.b2.cell 0
            have r1 := HL.out.b2.cell 1
            have f0 := HL.out.b2.froz 0
            have f1 := HL.out.b2.froz 1
            have a0 := HL.out.b3.cell 0
            have a1 := HL.out.b3.cell 1
            simp only [List.getElem?_cons_zero, List.getElem?_cons_succ] at r0 r1 a0 a1
            go_wp2
            (try simp only [Exit.inBlock, Exit.then])
            refine bodyPost_ret (by simp [results, Tryz.results61, go_sem, r0, r1]; try rfl) rfl ?_
            exact ⟨_, _, _, _, rfl, HL.out.fin⟩
end Go.Proofs.YtdhmjhoaegdfjaaGreat

namespace Go.Proofs.YtdhmjhoaegdfjaaGreat
open Go.RowKit Go.Sort Go.BigFrame
theorem IsWhole_sL {A B : Option Addr} {c d n m : Nat} {ns ls : List P2} {w : World} (h : Wn w A c B d ns ls) (hn : n = ns.length) (hm : m = ls.length) : Calls Tryz.prog 29 #[.agg #[.slice A n c, .slice B m d]] w fun e w' => e = .returned (.bool (whole ns ls)) ∧ Ext w w' := by
  subst hn hm
  exact IsWhole_s A B c d ns ls w h
theorem whole_wok {ns ls : List P2} (h : whole ns ls = true) : wok ns ls = true := wok_iff.2 (whole_ok h).1
set_option maxRecDepth 100000 in
set_option maxHeartbeats 8000000 in
theorem l07Whole_s (w : World) (gc : Nat) (h : Cu w gc) :
    Calls Tryz.prog 42 #[.pointer (some ⟨gc, 0, none⟩)] w fun e w' => ∃ v1 v2 ns ls, e = .returned (.agg #[v1, v2]) ∧ OwP w' w.heap.size 79 v1 ns ∧ OwP w' w.heap.size 81 v2 ls ∧ whole ns ls = true ∧ Cu w' gc ∧ Kg gc w w' := by
  have HC := Lib.hid h
  have HGT := Lib.hid h.lt
  clear h
  go_enter Tryz.func42, Tryz.ntmps42
  go_upto_region 1 with fail
  have HR := Lib.hid (Bk.new (w := w) (g := w.heap.size) 27 [.slice none 0 0, .slice none 0 0] rfl)
  have hx := (Ext.refl w).alloc (.cells #[.slice none 0 0, .slice none 0 0] 27)
  change Hid (Bk (w.alloc (.cells #[.slice none 0 0, .slice none 0 0] 27)) w.heap.size 27 [.slice none 0 0, .slice none 0 0]) at HR
  generalize (w.alloc (.cells #[.slice none 0 0, .slice none 0 0] 27)) = wa at *
  replace HC := Lib.hid (HC.out.ext hx)
  have HK := Lib.hid (Kg.of (gc := gc) hx)
  clear hx
  generalize hg2 : w.heap.size = g2 at *
  have HG := Lib.hid hg2
  clear hg2
  go_wp2_with fail
  go_loopw [3] (fun i wr => ∃ q : Nat, i = .int .i64 (q : Int) ∧ q ≤ 4 ∧ Hid (Cu wr gc) ∧ Hid (Kg gc w wr) ∧ Hid (Bk wr g2 27 [.slice none 0 0, .slice none 0 0])) (fun i _ => 4 - (intOf i).toNat)
  case atStart => exact ⟨0, rfl, by omega, HC, HK, HR⟩
  case round =>
    clear HC HK HR
    obtain ⟨q, rfl, hq4, HC, HK, HR⟩ := hrel
    obtain ⟨wo, rfl⟩ : ∃ x : World, x = wr := ⟨_, rfl⟩
    by_cases hq : q < 4
    · have hqi : (q : Int) < 4 := by omega
      go_wp2_with fail
      refine (l04Window_s _ gc HC.out).mono ?_
      rintro e w1 ⟨v1, v2, ns, ls, rfl, o1, o2, hok, hC, hK⟩
      replace HR := Lib.hid (HC.out.bk hK HR.out (by decide))
      have hsz := HK.out.sz
      replace HK := Lib.hid (HK.out.trans hK)
      replace HC := Lib.hid hC
      have hl := wok_len hok
      obtain ⟨A1, c1, rfl, -, -, -⟩ := o1.shape
      obtain ⟨A2, c2, rfl, -, -, -⟩ := o2.shape
      clear hC hK
      go_upto_region 5 with fail
      have hb := (Ext.refl w1).alloc (.cells #[.slice A1 ns.length c1, .slice A2 ls.length c2] 27)
      have HB : Hid (Bk (w1.alloc (.cells #[.slice A1 ns.length c1, .slice A2 ls.length c2] 27)) w1.heap.size 27 [.slice A1 ns.length c1, .slice A2 ls.length c2]) := Lib.hid (Bk.new _ _ rfl)
      replace HR := Lib.hid (HR.out.ext hb)
      replace HK := Lib.hid (HK.out.trans (Kg.of hb))
      replace HC := Lib.hid (HC.out.ext hb)
      have O1 : Hid (OwP (w1.alloc (.cells #[.slice A1 ns.length c1, .slice A2 ls.length c2] 27)) w.heap.size 79 (.slice A1 ns.length c1) ns) := Lib.hid (ow_more (o1.ext2 hb) hsz)
      have O2 : Hid (OwP (w1.alloc (.cells #[.slice A1 ns.length c1, .slice A2 ls.length c2] 27)) w.heap.size 81 (.slice A2 ls.length c2) ls) := Lib.hid (ow_more (o2.ext2 hb) hsz)
      clear o1 o2 hb hsz
      generalize (w1.alloc (.cells #[.slice A1 ns.length c1, .slice A2 ls.length c2] 27)) = w2 at *
      generalize w1.heap.size = g4 at *
      have a0 := HB.out.cell 0
      have a1 := HB.out.cell 1
      simp only [List.getElem?_cons_zero, List.getElem?_cons_succ] at a0 a1
      go_wp2_with fail
      refine (IsWhole_s _ _ _ _ ns ls _ (wn_own O1.out O2.out (by omega) (by omega))).mono ?_
      rintro e w3 ⟨rfl, hb⟩
      replace HR := Lib.hid (HR.out.ext hb)
      replace HB := Lib.hid (HB.out.ext hb)
      replace HK := Lib.hid (HK.out.trans (Kg.of hb))
      replace HC := Lib.hid (HC.out.ext hb)
      replace O1 := Lib.hid (OwP.ext2 O1.out hb)
      replace O2 := Lib.hid (OwP.ext2 O2.out hb)
      clear hb a0 a1
      cases hwh : whole ns ls with
      | true =>
        have HWH := Lib.hid hwh
        have a0 := HB.out.cell 0
        have a1 := HB.out.cell 1
        have r0 := HR.out.cell 0
        have r1 := HR.out.cell 1
        have f0 := HR.out.froz 0
        have f1 := HR.out.froz 1
        simp only [List.getElem?_cons_zero, List.getElem?_cons_succ] at a0 a1 r0 r1
        go_wp2
        (try simp only [Exit.inBlock, Exit.then])
        refine bodyPost_ret (by simp [results, Tryz.results42, go_sem, r0, r1]; try rfl) rfl ?_
        exact ⟨_, _, _, _, rfl, (OwP.far O1.out HR.out (by decide) 0 _).far (HR.out.set_ 0 _) (by decide) 1 _, (OwP.far O2.out HR.out (by decide) 0 _).far (HR.out.set_ 0 _) (by decide) 1 _, HWH.out, (HC.out.far HGT.out 0 _).far HGT.out 1 _, (HK.out.new (Nat.le_of_eq HG.out) 0 _).new (Nat.le_of_eq HG.out) 1 _⟩
      | false =>
        go_wp2
        go_roundw
        case rel => exact ⟨q + 1, by go_num, by omega, HC, HK, HR⟩
        case measure => first | (simp [intOf]; done) | (simp [intOf]; omega)
    · have hqi : ¬ (q : Int) < 4 := by omega
      go_wp2_with fail
      refine (l01Below_s _ gc HC.out 4 (by omega)).mono ?_
      rintro e w1 ⟨r, rfl, hr, -, hC, hK⟩
      have hr := hr (by omega)
      replace HR := Lib.hid (HC.out.bk hK HR.out (by decide))
      replace HK := Lib.hid (HK.out.trans hK)
      replace HC := Lib.hid hC
      clear hC hK
      go_wp2_with fail
      refine (l04Shape_s _ r (by omega)).mono ?_
      rintro e w2 ⟨v1, v2, rfl, o1, o2, hb⟩
      have HWH := Lib.hid (sh_whole r (by omega))
      have hsz := HK.out.sz
      replace HR := Lib.hid (HR.out.ext hb)
      replace HK := Lib.hid (HK.out.trans (Kg.of hb))
      replace HC := Lib.hid (HC.out.ext hb)
      have O1 := Lib.hid (OwP.more o1 hsz)
      have O2 := Lib.hid (OwP.more o2 hsz)
      clear o1 o2 hb hsz
      generalize shN r = ns at *
      generalize shL r = ls at *
      have r0 := HR.out.cell 0
      have r1 := HR.out.cell 1
      have f0 := HR.out.froz 0
      have f1 := HR.out.froz 1
      simp only [List.getElem?_cons_zero, List.getElem?_cons_succ] at r0 r1
      obtain ⟨A1, c1, rfl, -, -, -⟩ := OwP.shape O1.out
      obtain ⟨A2, c2, rfl, -, -, -⟩ := OwP.shape O2.out
      go_wp2
      (try simp only [Exit.inBlock, Exit.then])
      refine bodyPost_ret (by simp [results, Tryz.results42, go_sem, r0, r1]; try rfl) rfl ?_
      exact ⟨_, _, _, _, rfl, (OwP.far O1.out HR.out (by decide) 0 _).far (HR.out.set_ 0 _) (by decide) 1 _, (OwP.far O2.out HR.out (by decide) 0 _).far (HR.out.set_ 0 _) (by decide) 1 _, HWH.out, (HC.out.far HGT.out 0 _).far HGT.out 1 _, (HK.out.new (Nat.le_of_eq HG.out) 0 _).new (Nat.le_of_eq HG.out) 1 _⟩
end Go.Proofs.YtdhmjhoaegdfjaaGreat

namespace Go.Proofs.YtdhmjhoaegdfjaaGreat
open Go.RowKit Go.Sort Go.BigFrame
set_option maxRecDepth 100000 in
set_option maxHeartbeats 8000000 in
theorem DrawWhole_s (w : World) (A : Option Addr) (n c : Nat) (hn : n ≤ 9223372036854775807) (xs : List Int) (hs : Sl w w.heap.size 1 A n (xs.map (Value.int .u8))) :
    Calls Tryz.prog 16 #[.slice A n c] w fun e w' => ∃ v1 v2 ns ls, e = .returned (.agg #[v1, v2]) ∧ OwP w' w.heap.size 79 v1 ns ∧ OwP w' w.heap.size 81 v2 ls ∧ whole ns ls = true ∧ Ext w w' := by
  go_enter Tryz.func16, Tryz.ntmps16
  go_upto_region 1 with fail
  have HX : Hid (Ext w (w.alloc (.cells #[.slice none 0 0, .slice none 0 0] 27))) := Lib.hid ((Ext.refl w).alloc _)
  have HR := Lib.hid (Bk.new (w := w) (g := w.heap.size) 27 [.slice none 0 0, .slice none 0 0] rfl)
  change Hid (Bk (w.alloc (.cells #[.slice none 0 0, .slice none 0 0] 27)) w.heap.size 27 [.slice none 0 0, .slice none 0 0]) at HR
  have HSL := Lib.hid (hs.ext HX.out)
  clear hs
  generalize (w.alloc (.cells #[.slice none 0 0, .slice none 0 0] 27)) = wa at *
  generalize hg2 : w.heap.size = g2 at *
  have HG := Lib.hid hg2
  go_wp2_with fail
  refine (l01New_s wa A n c hn xs HSL.out).mono ?_
  rintro e w1 ⟨gc, rfl, hgc, hC, hb⟩
  have hlt := HR.out.lt
  replace HR := Lib.hid (HR.out.ext hb)
  replace HX := Lib.hid (HX.out.trans hb)
  clear hb
  go_wp2_with fail
  refine (l07Whole_s w1 gc hC).mono ?_
  rintro e w2 ⟨v1, v2, ns, ls, rfl, o1, o2, hwh, hC2, hK⟩
  replace HR := Lib.hid (hC.bk hK HR.out (by decide))
  have hsz := HX.out.size
  have HXX : Hid (Ext w w2) := Lib.hid (hK.ex w HX.out (by omega))
  obtain ⟨A1, c1, rfl, -, -, -⟩ := o1.shape
  obtain ⟨A2, c2, rfl, -, -, -⟩ := o2.shape
  have r0 := HR.out.cell 0
  have r1 := HR.out.cell 1
  have f0 := HR.out.froz 0
  have f1 := HR.out.froz 1
  simp only [List.getElem?_cons_zero, List.getElem?_cons_succ] at r0 r1
  go_wp2
  (try simp only [Exit.inBlock, Exit.then])
  refine bodyPost_ret (by simp [results, Tryz.results16, go_sem, r0, r1]; try rfl) rfl ?_
  exact ⟨_, _, _, _, rfl, (OwP.far (o1.more hsz) HR.out (by decide) 0 _).far (HR.out.set_ 0 _) (by decide) 1 _, (OwP.far (o2.more hsz) HR.out (by decide) 0 _).far (HR.out.set_ 0 _) (by decide) 1 _, hwh, (HXX.out.setCell (p := ⟨g2, 0, none⟩) (Nat.le_of_eq HG.out)).setCell (p := ⟨g2, 1, none⟩) (Nat.le_of_eq HG.out)⟩
end Go.Proofs.YtdhmjhoaegdfjaaGreat

namespace Go.Proofs.YtdhmjhoaegdfjaaGreat
open Go.RowKit Go.Sort Go.BigFrame
/-! The smallest helpers of the laws. -/
theorem btoi_c (b : Bool) (w : World) : Calls Tryz.prog 23 #[.bool b] w fun e w' => e = .returned (.int .i64 (if b = true then 1 else 0)) ∧ w = w' := by
  cases b with
  | true =>
    go_enter Tryz.func23, Tryz.ntmps23
    go_wp2
    go_ret
    exact ⟨rfl, rfl⟩
  | false =>
    go_enter Tryz.func23, Tryz.ntmps23
    go_wp2
    go_ret
    exact ⟨rfl, rfl⟩
theorem big_c (A : Option Addr) (n c : Nat) (w : World) : Calls Tryz.prog 5 #[.slice A n c] w fun e w' => e = .returned (.bool (decide ((1048576 : Int) < n))) ∧ w = w' := by
  go_enter Tryz.func5, Tryz.ntmps5
  go_wp2
  go_ret
  exact ⟨rfl, rfl⟩
set_option maxHeartbeats 1000000 in
theorem at_c (A : Option Addr) (n c k : Nat) (hk : k ≤ 1000) (hn : n ≤ 1048576) (xs : List Int) (hb : ∀ x ∈ xs, 0 ≤ x ∧ x < 256) (w : World) (hs : Sl w w.heap.size 1 A n (xs.map (Value.int .u8))) :
    Calls Tryz.prog 7 #[.slice A n c, .int .i64 (k : Int)] w fun e w' => ∃ x : Nat, x < 256 ∧ e = .returned (.int .i64 (x : Int)) ∧ w = w' := by
  rcases Nat.eq_zero_or_pos n with h0 | h0
  · subst h0
    go_enter Tryz.func7, Tryz.ntmps7
    go_wp2
    go_ret
    exact ⟨0, by omega, rfl, rfl⟩
  · have hlen := hs.1
    rw [List.length_map, Nat.mul_one] at hlen
    obtain ⟨b, off, rfl, hbl, hcs⟩ := hs.2 h0
    have hm : (k * 5 + 1) % n < n := Nat.mod_lt _ h0
    obtain ⟨x, hx, cx⟩ : ∃ x : Nat, x < 256 ∧ w.cell? ⟨b, off + (k * 5 + 1) % n, none⟩ = some (.int .u8 (x : Int)) := by
      have cx := hcs ((k * 5 + 1) % n) (.int .u8 (xs[(k * 5 + 1) % n]'(by omega))) (by simp [hlen, hm])
      have hx := hb (xs[(k * 5 + 1) % n]'(by omega)) (List.getElem_mem _)
      obtain ⟨x, ex⟩ := Int.eq_ofNat_of_zero_le hx.1
      rw [ex] at cx hx
      exact ⟨x, by omega, cx⟩
    have e1 : ((k : Int) * 5 + 1) % (n : Int) = (((k * 5 + 1) % n : Nat) : Int) := by norm_cast
    generalize (k * 5 + 1) % n = q at *
    have hn0 : ((n : Int) == 0) = false := by simp; omega
    clear hcs hs
    go_enter Tryz.func7, Tryz.ntmps7
    go_wp2
    go_ret
    exact ⟨x, by omega, rfl, rfl⟩
end Go.Proofs.YtdhmjhoaegdfjaaGreat
