import Derived.Test.YtdhmjhoaegdfjaaP8
import Derived.Test.YtdhmjhoaegdfjaaD6
import Derived.Test.YtdhmjhoaegdfjaaD7
import Derived.Test.YtdhmjhoaegdfjaaG8
import Derived.Test.YtdhmjhoaegdfjaaG9
namespace Go.Proofs.Ytdhmjhoaegdfjaa
open Go.RowKit Go.Sort Go.BigFrame

theorem infoB : (Try.prog.info? 4).map (fun i => (i.zero, i.size, i.bytes)) = some (some (.bool false), 1, 1) := by kernel_rfl

/-- v is a slice of bools of the call's own -/
def OwB (w : World) (B : Nat) (v : Value) (bs : List Bool) : Prop := w.ownsRow B 4 1 v bs.length (bs.map Value.bool)
theorem OwB.ext {w w' : World} {B : Nat} {v : Value} {bs : List Bool} (h : OwB w B v bs) (hx : Ext w w') : OwB w' B v bs := ow_ext h hx
theorem OwB.set_ {w : World} {B g c n : Nat} {bs : List Bool} (h : OwB w B (.slice (some ⟨g, 0, none⟩) n c) bs) (hn : n = bs.length) (j : Nat) (y : Bool) : OwB (w.setCell ⟨g, j, none⟩ (.bool y)) B (.slice (some ⟨g, 0, none⟩) n c) (bs.set j y) := by
  subst hn
  have := (World.ownsRow.stored h j (.bool y)).1
  unfold OwB
  rw [List.length_set, List.map_set]
  exact this
theorem OwB.new {w : World} {B g : Nat} {bs : List Bool} (h : Bk w g 4 (bs.map Value.bool)) (hB : B ≤ g) (hl : bs.length ≤ maxLen) : OwB w B (.slice (some ⟨g, 0, none⟩) bs.length bs.length) bs :=
  ⟨by simp, .inr ⟨g, bs.length, _, rfl, hB, h, Nat.le_refl _, hl, by simp, List.take_of_length_le (by simp)⟩⟩
theorem OwB.cel {w : World} {B g n c : Nat} {bs : List Bool} (h : OwB w B (.slice (some ⟨g, 0, none⟩) n c) bs) {j : Nat} {b : Bool} (hj : bs[j]? = some b) : w.cell? ⟨g, j, none⟩ = some (.bool b) ∧ w.frozen? ⟨g, j, none⟩ = false := by
  have hl : j < bs.length := by
    rcases Nat.lt_or_ge j bs.length with h' | h'
    · exact h'
    · rw [List.getElem?_eq_none h'] at hj; cases hj
  rcases h.2 with ⟨_, h0⟩ | ⟨g', cap, cur, e, _⟩
  · omega
  · injection e with e1 e2 e3
    injection e1 with e1
    injection e1 with e1
    subst e1
    subst e2
    subst e3
    refine ⟨?_, World.ownsRow.frozenAt h j⟩
    rw [World.ownsRow.cellAt h j (by omega), List.getElem?_map, hj]; rfl
theorem OwB.gb {w w' : World} {B : Nat} {v : Value} {bs : List Bool} {r : Option Nat} (h : OwB w B v bs) (k : w.grownBy w' r) (hr : ∀ g, v.ownBlock = some g → r ≠ some g) : OwB w' B v bs := gb_own h k hr

/-- at block q stand cells of type T -/
def BlkT (w : World) (q : Nat) (T : TypeId) : Prop := ∃ cur fr, w.heap[q]? = some (.cells cur T fr)
theorem own_blkT {w : World} {B : Nat} {e : TypeId} {sz n : Nat} {v : Value} {cs : List Value} (h : w.ownsRow B e sz v n cs) : ∀ q, v.ownBlock = some q → BlkT w q e := by
  intro q hq
  rcases h.2 with ⟨rfl, _⟩ | ⟨g, cap, cur, rfl, _, hg, _⟩
  · simp [Value.ownBlock] at hq
  · simp [Value.ownBlock] at hq
    subst hq
    exact ⟨_, _, hg⟩
theorem own_kept {w w' : World} {B : Nat} {e : TypeId} {sz n : Nat} {v : Value} {cs : List Value} {r : Option Nat} (h : w.ownsRow B e sz v n cs) (k : w.grownBy w' r) (hr : ∀ q, r = some q → ∃ T, T ≠ e ∧ BlkT w q T) : w'.ownsRow B e sz v n cs :=
  gb_own h k (fun g hv hr' => by
    obtain ⟨T, hT, c, f, hb⟩ := hr g hr'
    obtain ⟨c', f', hb'⟩ := own_blkT h g hv
    rw [hb] at hb'
    injection hb' with hb'
    injection hb' with _ hb'
    exact hT hb')
theorem ozf_kept {w w' : World} {B0 B : Nat} {v : Value} {L : List (List Nat)} {r : Option Nat} (h : OzF w B0 B v L) (k : w.grownBy w' r) (hr : ∀ q, r = some q → BlkT w q 4) : OzF w' B0 B v L := by
  obtain ⟨vs, h1, h2⟩ := h
  refine ⟨vs, h1.imp (fun h => own_kept h k fun q hq => ⟨_, by decide, hr q hq⟩) (fun ⟨e1, e2, e3, e4⟩ => ⟨e1, own_kept e2 k fun q hq => ⟨_, by decide, hr q hq⟩, e3, e4⟩), fun i u hu => own_kept (h2 i u hu) k fun q hq => ⟨_, by decide, hr q hq⟩⟩
theorem owi_kept {w w' : World} {B : Nat} {v : Value} {xs : List Int} {r : Option Nat} (h : OwI w B v xs) (k : w.grownBy w' r) (hr : ∀ q, r = some q → BlkT w q 4) : OwI w' B v xs := own_kept h k fun q hq => ⟨_, by decide, hr q hq⟩

def vFaces (ns ls : List P2) : List (List Nat) := if whole ns ls = true then fcs ns ls else []
theorem vFaces_len (ns ls : List P2) : (vFaces ns ls).length ≤ 40 := by
  unfold vFaces
  split
  · rename_i h
    have := (whole_ok h).1.le
    have := fcsN_len ns ls (2 * ls.length)
    unfold fcs; omega
  · simp


set_option maxRecDepth 100000 in
set_option maxHeartbeats 4000000 in
theorem FacesOf_i (A B : Option Addr) (c d : Nat) (ns ls : List P2) (w : World) (h : Wn w A c B d ns ls) :
    Calls Try.prog 77 #[.agg #[.slice A ns.length c, .slice B ls.length d]] w fun e w' => ∃ v, e = .returned v ∧ OwF w' w.heap.size v (vFaces ns ls) ∧ (whole ns ls = false → v = .slice none 0 0) ∧ Ext w w' := by
  have HV : Hid (vFaces ns ls = if whole ns ls = true then fcs ns ls else []) := Lib.hid rfl
  by_cases hw : whole ns ls = true
  · skip
    rw [if_pos hw] at HV
    obtain ⟨hW, hm0⟩ := whole_ok hw
    have hn := hW.hi
    have hm := hW.le
    have HW := Lib.hid hW
    clear hW
    obtain ⟨i0, hi, hz0, hz1, hz2⟩ := info_parts infoB
    have hmk := fun W => run_mk1 (P := Try.prog) 62 4 i0 (.bool false) Try.underlying62 hi hz0 hz1 rfl (2 * ls.length) (by rw [hz2]; omega) (by omega) W
    clear hi hz0 hz1 hz2
    have hcast : ((2 * ls.length : Nat) : Int) = 2 * (ls.length : Int) := by omega
    rw [hcast] at hmk
    clear hcast
    go_enter Try.func77, Try.ntmps77
    go_wp2_with fail
    have k0 : (w.alloc (.cells #[.slice A ns.length c, .slice B ls.length d] 27)).cell? ⟨w.heap.size, 0, none⟩ = some (.slice A ns.length c) := by go_simp
    have k1 : (w.alloc (.cells #[.slice A ns.length c, .slice B ls.length d] 27)).cell? ⟨w.heap.size, 1, none⟩ = some (.slice B ls.length d) := by go_simp
    have hx : Ext w (w.alloc (.cells #[.slice A ns.length c, .slice B ls.length d] 27)) := (by repeat first | exact Ext.refl _ | assumption | refine Ext.drew ?_ | refine Ext.alloc ?_ _ | refine Ext.setCell ?_ (by simp) | refine Ext.setCell ?_ (by simp; omega) | refine Ext.trans ?_ (by assumption))
    have hsz1 : w.heap.size + 1 = (w.alloc (.cells #[.slice A ns.length c, .slice B ls.length d] 27)).heap.size := by simp
    generalize (w.alloc (.cells #[.slice A ns.length c, .slice B ls.length d] 27)) = w0 at *
    (try rw [hsz1])
    refine (IsWhole_i _ _ _ _ ns ls _ (h.ext hx)).mono ?_
    rintro e w1 ⟨rfl, hb⟩
    have k0 := hb.lit k0
    have k1 := hb.lit k1
    have hx := hx.trans hb
    clear hb
    rw [hw]
    go_wp2_with fail
    clear hmk
    have hb0 : OwB (w1.alloc (.cells (List.replicate (2 * ls.length) (Value.bool false)).toArray 4)) w1.heap.size (.slice (some ⟨w1.heap.size, 0, none⟩) (List.replicate (2 * ls.length) false).length (List.replicate (2 * ls.length) false).length) (List.replicate (2 * ls.length) false) :=
      OwB.new (by rw [List.map_replicate]; exact Bk.new _ _ rfl) (Nat.le_refl _) (by simp; unfold maxLen; omega)
    rw [List.length_replicate] at hb0
    have hre : (List.replicate (2 * ls.length) (Value.bool false)).toArray = Array.replicate (2 * ls.length) (Value.bool false) := by simp
    rw [hre] at hb0
    clear hre
    have HS0 : Hid (List.replicate (2 * ls.length) false = btab (2 * ls.length) (fun x => hasL (fcsN ns ls 0) x)) := Lib.hid (by rw [← btab_rep]; exact btab_congr (fun _ _ => rfl))
    rw [HS0.out] at hb0
    have hx2 : Ext w1 (w1.alloc (.cells (Array.replicate (2 * ls.length) (Value.bool false)) 4)) := (by repeat first | exact Ext.refl _ | assumption | refine Ext.drew ?_ | refine Ext.alloc ?_ _ | refine Ext.setCell ?_ (by simp) | refine Ext.setCell ?_ (by simp; omega) | refine Ext.trans ?_ (by assumption))
    have hsz2 : w1.heap.size < (w1.alloc (.cells (Array.replicate (2 * ls.length) (Value.bool false)) 4)).heap.size := by simp
    generalize (w1.alloc (.cells (Array.replicate (2 * ls.length) (Value.bool false)) 4)) = w2 at *
    have hsz02 : w1.heap.size ≤ w2.heap.size := hx2.size
    generalize hg0 : w1.heap.size = g0 at *
    have HG0 := Lib.hid hg0
    clear hg0 HS0
    have HBL := Lib.hid (btab_len (2 * ls.length))
    go_loopw [4, 5, 6, 8, 19] (fun q _ _ _ i wr => ∃ j : Nat, j ≤ 2 * ls.length ∧ i = .int .i64 j ∧ OzF wr w1.heap.size w2.heap.size q (fcsN ns ls j) ∧ w2.heap.size ≤ wr.heap.size ∧ OwB wr g0 (.slice (some ⟨g0, 0, none⟩) (2 * ls.length) (2 * ls.length)) (btab (2 * ls.length) (fun x => hasL (fcsN ns ls j) x)) ∧ Ext w1 wr) (fun _ _ _ _ i _ => 2 * ls.length - (intOf i).toNat)
    case atStart => exact ⟨0, by omega, rfl, OzF.nil _ _ _, Nat.le_refl _, hb0, hx2⟩
    case round =>
      clear hb0 hx2
      obtain ⟨j, hj, rfl, hq, hsz, hv, hxr⟩ := hrel
      obtain ⟨wo, rfl⟩ : ∃ x : World, x = wr := ⟨_, rfl⟩
      have hx0 := hx.trans hxr
      have kk0 := hxr.lit k0
      have kk1 := hxr.lit k1
      have HFL := Lib.hid (fcsN_len ns ls j)
      obtain ⟨A4, c4, rfl⟩ := hq.shape
      by_cases hlt : j < 2 * ls.length
      · have c1 := (hv.cel (btab_at _ hlt)).1
        have hji : (j : Int) < 2 * (ls.length : Int) := by omega
        by_cases hs : hasL (fcsN ns ls j) j = true
        · have HF := Lib.hid (fcsN_yes hs)
          rw [hs] at c1
          go_wp2
          go_roundw
          case rel => exact ⟨j + 1, by omega, by go_num, by rw [HF.out]; exact hq, hsz, by rw [HF.out]; exact hv, hxr⟩
          case measure => first | (simp [intOf]; done) | (simp [intOf]; omega)
        · have HF := Lib.hid (fcsN_no hs)
          have HSA : Hid (∀ x, snS ns ls j (wlk ns ls j).length x = hasL (fcsN ns ls (j + 1)) x) := Lib.hid (fun x => snS_all hs)
          rw [eq_false_of_ne_true hs] at c1
          go_wp2_with fail
          refine (walk_c A B c d ns ls j _ (h.ext hx0) HW.out hlt).mono ?_
          rintro e w3 ⟨v, rfl, hw3, hb⟩
          have HWL : Hid ((nl (wlk ns ls j)).length = (wlk ns ls j).length) := Lib.hid (nl_len _)
          have HWB := Lib.hid (wlk_lt (ns := ns) hlt)
          have hwl := wlk_len (ns := ns) hlt
          have HSZ : Hid ((fun x => hasL (fcsN ns ls j) x) = fun x => snS ns ls j 0 x) := Lib.hid (funext fun x => (snS_zero ns ls j x).symm)
          have HSS := Lib.hid (fun a x (ha : a < (wlk ns ls j).length) => snS_succ (ns := ns) (ls := ls) (j := j) (i := a) (d := x) ha)
          rw [HSZ.out] at hv
          obtain ⟨Av, cv, rfl, -⟩ := hw3.shape
          rw [HWL.out] at hw3
          rw [HWL.out]
          have hbo := hb.size
          have hq := hq.ext hb
          have hv := hv.ext hb
          have hxr := hxr.trans hb
          have hsz := Nat.le_trans hsz hb.size
          clear hb hx0 c1
          generalize hwk : wlk ns ls j = wk at *
          have HWK := Lib.hid hwk
          clear hwk
          go_wp2_with fail
          go_loopw [8, 31] (fun _ i wr => ∃ a : Nat, a ≤ wk.length ∧ i = .int .i64 a ∧ OzF wr w1.heap.size w2.heap.size (.slice A4 (fcsN ns ls j).length c4) (fcsN ns ls j) ∧ OwI wr wo.heap.size (.slice Av wk.length cv) (nl wk) ∧ w2.heap.size ≤ wr.heap.size ∧ OwB wr g0 (.slice (some ⟨g0, 0, none⟩) (2 * ls.length) (2 * ls.length)) (btab (2 * ls.length) (fun x => snS ns ls j a x)) ∧ Ext w1 wr) (fun _ i _ => wk.length - (intOf i).toNat)
          case atStart => exact ⟨0, by omega, rfl, hq, hw3, hsz, hv, hxr⟩
          case round =>
            clear hq hw3 hv hxr hsz
            obtain ⟨a, ha, rfl, hq, hw3, hsz, hv, hxr⟩ := hrel
            obtain ⟨w4, rfl⟩ : ∃ x : World, x = wr := ⟨_, rfl⟩
            by_cases hat : a < wk.length
            · obtain ⟨gv, cv', e, -, -, -, c1, -⟩ := hw3.gi_ (j := a) (by rw [HWL.out]; exact hat)
              obtain ⟨rfl, rfl⟩ : Av = some ⟨gv, 0, none⟩ ∧ cv = cv' := by
                rw [HWL.out] at e
                simpa using e
              clear e
              rw [nl_gi _ hat] at c1
              have hxm : wk.getD a 0 < 2 * ls.length := HWB.out _ (by rw [getD_at _ hat]; exact List.getElem_mem hat)
              have HS1 : Hid ((btab (2 * ls.length) (fun x => snS ns ls j a x)).set (wk.getD a 0) true = btab (2 * ls.length) (fun x => snS ns ls j (a + 1) x)) := Lib.hid (by
                rw [btab_set]
                refine btab_congr fun x _ => ?_
                rw [HSS.out a x hat])
              generalize wk.getD a 0 = x at *
              obtain ⟨c3, c2⟩ := hv.cel (btab_at _ hxm)
              have hset := hv.set_ (HBL.out _).symm x true
              rw [HS1.out] at hset
              have Hset := Lib.hid hset
              have hbt : BlkT w4 g0 4 := own_blkT hv g0 rfl
              have hgs : w4.grownBy (w4.setCell ⟨g0, x, none⟩ (.bool true)) (some g0) := gb_set (gb_refl _ _) x _
              have hq := ozf_kept hq hgs (fun q hq => by injection hq with hq; rw [← hq]; exact hbt)
              have hw3 := owi_kept hw3 hgs (fun q hq => by injection hq with hq; rw [← hq]; exact hbt)
              clear hset hv hgs hbt HS1
              have hxi : (x : Int) < 2 * (ls.length : Int) := by omega
              go_wp2
              go_roundw
              case rel => exact ⟨a + 1, by omega, by go_num, hq, hw3, by simpa using hsz, Hset.out, hxr.setCell (by rw [HG0.out]; exact Nat.le_refl _)⟩
              case measure => first | (simp [intOf]; done) | (simp [intOf]; omega)
            · obtain rfl : a = wk.length := by omega
              have HSE : Hid ((fun x => snS ns ls j wk.length x) = fun x => hasL (fcsN ns ls (j + 1)) x) := Lib.hid (funext HSA.out)
              rw [HSE.out] at hv
              have hbo2 : w2.heap.size ≤ wo.heap.size := by omega
              go_wp2_with (at_builtin; refine az_row _ _ rfl rfl rfl (hq.ext ((Ext.refl w4).alloc _)) (g := w4.heap.size) (u := .slice Av wk.length cv) (l := wk) (by first | rfl | simp) (by go_simp) ((hw3.more hbo2).ext ((Ext.refl w4).alloc _)) (by have := HFL.out; omega) (by simp; omega) ?_)
              intro v' w' r h1 h3 h4 h5
              have hv := (hv.ext ((Ext.refl w4).alloc (.cells #[.slice Av wk.length cv] 29))).gb h4 (fun g hg hr => by
                have h6 := (h5 g hr).1
                simp [Value.ownBlock] at hg
                omega)
              have hs4 := h4.size
              go_wp2
              go_roundw
              case rel => exact ⟨j + 1, by omega, by go_num, by rw [HF.out]; exact h1, by simp at hs4; omega, hv, h3 _ (hxr.trans (by repeat first | exact Ext.refl _ | assumption | refine Ext.drew ?_ | refine Ext.alloc ?_ _ | refine Ext.setCell ?_ (by simp) | refine Ext.setCell ?_ (by simp; omega) | refine Ext.trans ?_ (by assumption))) (by have := HG0.out; omega)⟩
              case measure => first | (simp [intOf]; done) | (simp [intOf]; omega)
      · obtain rfl : j = 2 * ls.length := by omega
        have HFE : Hid (fcsN ns ls (2 * ls.length) = fcs ns ls) := Lib.hid rfl
        go_wp2
        go_ret
        exact ⟨_, rfl, by rw [HV.out, ← HFE.out]; exact (hq.own (by have := HG0.out; omega)).more hx.size, fun e => (by rw [hw] at e; cases e), hx0⟩
  · have hw' := eq_false_of_ne_true hw
    rw [if_neg hw] at HV
    go_enter Try.func77, Try.ntmps77
    go_wp2_with fail
    have k0 : (w.alloc (.cells #[.slice A ns.length c, .slice B ls.length d] 27)).cell? ⟨w.heap.size, 0, none⟩ = some (.slice A ns.length c) := by go_simp
    have k1 : (w.alloc (.cells #[.slice A ns.length c, .slice B ls.length d] 27)).cell? ⟨w.heap.size, 1, none⟩ = some (.slice B ls.length d) := by go_simp
    have hx : Ext w (w.alloc (.cells #[.slice A ns.length c, .slice B ls.length d] 27)) := (by repeat first | exact Ext.refl _ | assumption | refine Ext.drew ?_ | refine Ext.alloc ?_ _ | refine Ext.setCell ?_ (by simp) | refine Ext.setCell ?_ (by simp; omega) | refine Ext.trans ?_ (by assumption))
    have hsz1 : w.heap.size + 1 = (w.alloc (.cells #[.slice A ns.length c, .slice B ls.length d] 27)).heap.size := by simp
    generalize (w.alloc (.cells #[.slice A ns.length c, .slice B ls.length d] 27)) = w0 at *
    (try rw [hsz1])
    refine (IsWhole_i _ _ _ _ ns ls _ (h.ext hx)).mono ?_
    rintro e w1 ⟨rfl, hb⟩
    have k0 := hb.lit k0
    have k1 := hb.lit k1
    have hx := hx.trans hb
    clear hb
    rw [hw']
    go_wp2
    go_ret
    exact ⟨_, rfl, by rw [HV.out]; exact (OzF.nil _ w.heap.size w.heap.size).own (Nat.le_refl _), fun _ => rfl, hx⟩
end Go.Proofs.Ytdhmjhoaegdfjaa
