import Derived.Test.YtdhmjhoaegdfjaaD10
namespace Go.Proofs.Ytdhmjhoaegdfjaa
open Go.RowKit Go.Sort Go.BigFrame

@[go_sem ↓] theorem eqnF (A : Option Addr) (n c : Nat) (w : World) : (binOp .eql 34 (.slice A n c) (.slice none 0 0)).run Try.prog w = .ok (.bool A.isNone) w := Lib.run_eql_slice_nil w _ _ A n c 0 0 Try.underlying34
@[go_sem ↓] theorem eqnI (A : Option Addr) (n c : Nat) (w : World) : (binOp .eql 29 (.slice A n c) (.slice none 0 0)).run Try.prog w = .ok (.bool A.isNone) w := Lib.run_eql_slice_nil w _ _ A n c 0 0 Try.underlying29
theorem OwF.row {w : World} {B g n c : Nat} {L : List (List Nat)} (h : OwF w B (.slice (some ⟨g, 0, none⟩) n c) L) {j : Nat} (hj : j < L.length) :
    ∃ A' c', w.cell? ⟨g, j, none⟩ = some (.slice A' (L.getD j []).length c') ∧ In w w.heap.size A' (nl (L.getD j [])) := by
  obtain ⟨g', c0, A', c', e, h1, h2⟩ := h.at_ hj
  injection e with e1 e2 e3
  injection e1 with e1
  injection e1 with e1
  subst e1
  have := h2.in'
  exact ⟨A', c', h1, this⟩
theorem OwF.far {w w' : World} {B g : Nat} {v : Value} {L : List (List Nat)} (h : OwF w B v L) (k : w.grownBy w' (some g)) (hg : g < B) : OwF w' B v L := by
  obtain ⟨vs, h1, h2⟩ := h
  refine ⟨vs, gb_own h1 k fun q hq e => ?_, fun i u hu => gb_own (h2 i u hu) k fun q hq e => ?_⟩
  · have := (World.ownsRow.lt h1 q hq).1
    injection e with e
    omega
  · have := (World.ownsRow.lt (h2 i u hu) q hq).1
    injection e with e
    omega
theorem OwF.blk {w : World} {B : Nat} {v : Value} {L : List (List Nat)} (h : OwF w B v L) (hl : 0 < L.length) : ∃ g c, v = .slice (some ⟨g, 0, none⟩) L.length c := by
  obtain ⟨g, c, _, _, e, _⟩ := h.at_ hl
  exact ⟨g, c, e⟩

def vSides (ns ls : List P2) : List Int := if whole ns ls = true then sds (fcs ns ls) (2 * ls.length) else []
theorem vSides_len {ns ls : List P2} (h : whole ns ls = true) : (vSides ns ls).length = 2 * ls.length := by unfold vSides; rw [if_pos h, sds_len]
theorem vSides_gi {ns ls : List P2} (h : whole ns ls = true) {d : Nat} (hd : d < 2 * ls.length) : gi (vSides ns ls) d = (sd (fcs ns ls) d : Nat) := by unfold vSides; rw [if_pos h, sds_gi _ hd]


set_option maxRecDepth 100000 in
set_option maxHeartbeats 4000000 in
theorem facesAt_i (A B : Option Addr) (c d : Nat) (ns ls : List P2) (w : World) (h : Wn w A c B d ns ls) :
    Calls Try.prog 68 #[.agg #[.slice A ns.length c, .slice B ls.length d]] w fun e w' => ∃ v, e = .returned v ∧ OwI w' w.heap.size v (vSides ns ls) ∧ (whole ns ls = false → v = .slice none 0 0) ∧ Ext w w' := by
  have HV : Hid (vFaces ns ls = if whole ns ls = true then fcs ns ls else []) := Lib.hid rfl
  have HS : Hid (vSides ns ls = if whole ns ls = true then sds (fcs ns ls) (2 * ls.length) else []) := Lib.hid rfl
  by_cases hw : whole ns ls = true
  · rw [if_pos hw] at HV HS
    obtain ⟨hW, hm0⟩ := whole_ok hw
    have hn := hW.hi
    have hm := hW.le
    have hFl : (fcs ns ls).length ≤ 40 := by have := vFaces_len ns ls; rwa [HV.out] at this
    have hFp := fcs_pos (ns := ns) hm0
    clear hW
    obtain ⟨i0, hi, hz0, hz1, hz2⟩ := info_parts infoI4
    have hmk := fun W => run_mk1 (P := Try.prog) 29 3 i0 (.int .i64 0) Try.underlying29 hi hz0 hz1 rfl (2 * ls.length) (by rw [hz2]; omega) (by omega) W
    clear hi hz0 hz1 hz2
    have hcast : ((2 * ls.length : Nat) : Int) = 2 * (ls.length : Int) := by omega
    rw [hcast] at hmk
    clear hcast
    go_enter Try.func68, Try.ntmps68
    go_wp2_with fail
    have k0 : (w.alloc (.cells #[.slice A ns.length c, .slice B ls.length d] 27)).cell? ⟨w.heap.size, 0, none⟩ = some (.slice A ns.length c) := by go_simp
    have k1 : (w.alloc (.cells #[.slice A ns.length c, .slice B ls.length d] 27)).cell? ⟨w.heap.size, 1, none⟩ = some (.slice B ls.length d) := by go_simp
    have hx : Ext w (w.alloc (.cells #[.slice A ns.length c, .slice B ls.length d] 27)) := (by repeat first | exact Ext.refl _ | assumption | refine Ext.drew ?_ | refine Ext.alloc ?_ _ | refine Ext.setCell ?_ (by simp) | refine Ext.setCell ?_ (by simp; omega) | refine Ext.trans ?_ (by assumption))
    have hsz1 : w.heap.size + 1 = (w.alloc (.cells #[.slice A ns.length c, .slice B ls.length d] 27)).heap.size := by simp
    generalize (w.alloc (.cells #[.slice A ns.length c, .slice B ls.length d] 27)) = w0 at *
    (try rw [hsz1])
    refine (FacesOf_i _ _ _ _ ns ls _ (h.ext hx)).mono ?_
    rintro e w1 ⟨v, rfl, hF, -, hb⟩
    have k0 := hb.lit k0
    have k1 := hb.lit k1
    have hx := hx.trans hb
    clear hb
    rw [HV.out] at hF
    obtain ⟨gF, cF, rfl⟩ := hF.blk hFp
    go_wp2_with fail
    clear hmk
    have hb0 : OwI (w1.alloc (.cells (List.replicate (2 * ls.length) (Value.int .i64 0)).toArray 3)) w1.heap.size (.slice (some ⟨w1.heap.size, 0, none⟩) (List.replicate (2 * ls.length) (0 : Int)).length (List.replicate (2 * ls.length) (0 : Int)).length) (List.replicate (2 * ls.length) 0) :=
      OwI.new (by rw [List.map_replicate]; exact Bk.new _ _ rfl) (Nat.le_refl _) (by simp; unfold maxLen; omega)
    rw [List.length_replicate] at hb0
    have hre : (List.replicate (2 * ls.length) (Value.int .i64 0)).toArray = Array.replicate (2 * ls.length) (Value.int .i64 0) := by simp
    rw [hre] at hb0
    clear hre
    have HS0 := Lib.hid (sdT_zero (fcs ns ls) (2 * ls.length))
    rw [← HS0.out] at hb0
    have hx2 : Ext w1 (w1.alloc (.cells (Array.replicate (2 * ls.length) (Value.int .i64 0)) 3)) := (by repeat first | exact Ext.refl _ | assumption | refine Ext.drew ?_ | refine Ext.alloc ?_ _ | refine Ext.setCell ?_ (by simp) | refine Ext.setCell ?_ (by simp; omega) | refine Ext.trans ?_ (by assumption))
    have hsz2 : w1.heap.size < (w1.alloc (.cells (Array.replicate (2 * ls.length) (Value.int .i64 0)) 3)).heap.size := by simp
    generalize (w1.alloc (.cells (Array.replicate (2 * ls.length) (Value.int .i64 0)) 3)) = w2 at *
    generalize hL : fcs ns ls = L at *
    have HLM : Hid (∀ f a, f < L.length → a < (L.getD f []).length → (L.getD f []).getD a 0 < 2 * ls.length) := Lib.hid (fun f a hf ha => by
      have hmem : L.getD f [] ∈ fcs ns ls := by
        rw [hL, List.getD_eq_getElem?_getD, List.getElem?_eq_getElem hf]
        exact List.getElem_mem hf
      exact (fcs_mem hmem).2.2 _ (by rw [getD_at _ ha]; exact List.getElem_mem ha))
    have HLL : Hid (∀ f, f < L.length → (L.getD f []).length ≤ 2 * ls.length) := Lib.hid (fun f hf => by
      have hmem : L.getD f [] ∈ fcs ns ls := by
        rw [hL, List.getD_eq_getElem?_getD, List.getElem?_eq_getElem hf]
        exact List.getElem_mem hf
      exact (fcs_mem hmem).2.1)
    clear hL
    generalize hg0 : w1.heap.size = g0 at *
    have HG0 := Lib.hid hg0
    clear hg0 HS0
    go_loopw [5, 6, 8, 20] (fun _ _ _ i wr => ∃ f : Nat, f ≤ L.length ∧ i = .int .i64 f ∧ OwI wr g0 (.slice (some ⟨g0, 0, none⟩) (2 * ls.length) (2 * ls.length)) (sdT L (2 * ls.length) f 0) ∧ Ext w1 wr) (fun _ _ _ i _ => L.length - (intOf i).toNat)
    case atStart => exact ⟨0, by omega, rfl, hb0, hx2⟩
    case round =>
      clear hb0 hx2
      obtain ⟨f, hf, rfl, hv, hxr⟩ := hrel
      obtain ⟨wo, rfl⟩ : ∃ x : World, x = wr := ⟨_, rfl⟩
      by_cases hlt : f < L.length
      · obtain ⟨A', c', e0, e2⟩ := hF.row hlt
        have e1 := hxr.lit e0
        clear e0
        have hrl := HLL.out f hlt
        have HRW := Lib.hid (fun a (ha : a < (L.getD f []).length) => HLM.out f a hlt ha)
        have HST := Lib.hid (fun a (ha : a < (L.getD f []).length) => sdT_set (L := L) (m := 2 * ls.length) (f := f) (i := a) ha)
        have HSA := Lib.hid (sdT_all L (2 * ls.length) f)
        generalize hwk : L.getD f [] = wk at *
        have HWK := Lib.hid hwk
        clear hwk
        have HNL := Lib.hid (nl_len wk)
        have hfi : (f : Int) < L.length := by omega
        go_wp2_with fail
        go_loopw [8, 27] (fun _ i wr => ∃ a : Nat, a ≤ wk.length ∧ i = .int .i64 a ∧ OwI wr g0 (.slice (some ⟨g0, 0, none⟩) (2 * ls.length) (2 * ls.length)) (sdT L (2 * ls.length) f a) ∧ Ext w1 wr) (fun _ i _ => wk.length - (intOf i).toNat)
        case atStart => exact ⟨0, by omega, rfl, hv, hxr⟩
        case round =>
          clear hv hxr e1
          obtain ⟨a, ha, rfl, hv, hxr⟩ := hrel
          obtain ⟨w4, rfl⟩ : ∃ x : World, x = wr := ⟨_, rfl⟩
          by_cases hat : a < wk.length
          · obtain ⟨gb, off, rfl, hbb, c1⟩ := (e2.ext hxr).gi_ (k := a) (by rw [HNL.out]; exact hat)
            rw [nl_gi wk hat] at c1
            have hxm := HRW.out a hat
            have HT := Lib.hid (HST.out a hat)
            generalize wk.getD a 0 = x at *
            obtain ⟨c3, c2⟩ := hv.cel (j := x) (by rw [sdT_len]; exact hxm)
            have hset := hv.set_ (sdT_len _ _ _ _).symm x (f : Int)
            rw [HT.out] at hset
            have Hset := Lib.hid hset
            clear hset hv
            have hxi : (x : Int) < 2 * (ls.length : Int) := by omega
            go_wp2
            go_roundw
            case rel => exact ⟨a + 1, by omega, by go_num, Hset.out, hxr.setCell (by rw [HG0.out]; exact Nat.le_refl _)⟩
            case measure => first | (simp [intOf]; done) | (simp [intOf]; omega)
          · obtain rfl : a = wk.length := by omega
            rw [HSA.out] at hv
            go_wp2
            go_roundw
            case rel => exact ⟨f + 1, by omega, by go_num, hv, hxr⟩
            case measure => first | (simp [intOf]; done) | (simp [intOf]; omega)
      · obtain rfl : f = L.length := by omega
        rw [sdT_end] at hv
        go_wp2
        go_ret
        exact ⟨_, rfl, by rw [HS.out]; exact hv.more (by have := HG0.out; have := hx.size; omega), fun e => (by rw [hw] at e; cases e), hx.trans hxr⟩
  · have hw' := eq_false_of_ne_true hw
    rw [if_neg hw] at HS
    go_enter Try.func68, Try.ntmps68
    go_wp2_with fail
    have k0 : (w.alloc (.cells #[.slice A ns.length c, .slice B ls.length d] 27)).cell? ⟨w.heap.size, 0, none⟩ = some (.slice A ns.length c) := by go_simp
    have k1 : (w.alloc (.cells #[.slice A ns.length c, .slice B ls.length d] 27)).cell? ⟨w.heap.size, 1, none⟩ = some (.slice B ls.length d) := by go_simp
    have hx : Ext w (w.alloc (.cells #[.slice A ns.length c, .slice B ls.length d] 27)) := (by repeat first | exact Ext.refl _ | assumption | refine Ext.drew ?_ | refine Ext.alloc ?_ _ | refine Ext.setCell ?_ (by simp) | refine Ext.setCell ?_ (by simp; omega) | refine Ext.trans ?_ (by assumption))
    have hsz1 : w.heap.size + 1 = (w.alloc (.cells #[.slice A ns.length c, .slice B ls.length d] 27)).heap.size := by simp
    generalize (w.alloc (.cells #[.slice A ns.length c, .slice B ls.length d] 27)) = w0 at *
    (try rw [hsz1])
    refine (FacesOf_i _ _ _ _ ns ls _ (h.ext hx)).mono ?_
    rintro e w1 ⟨v, rfl, -, hv, hb⟩
    have k0 := hb.lit k0
    have k1 := hb.lit k1
    have hx := hx.trans hb
    clear hb
    obtain rfl := hv hw'
    go_wp2
    go_ret
    exact ⟨_, rfl, by rw [HS.out]; exact OwI.nil _ _, fun _ => rfl, hx⟩

set_option maxRecDepth 100000 in
set_option maxHeartbeats 4000000 in
theorem l09Sides_s (A B : Option Addr) (c d : Nat) (ns ls : List P2) (w : World) (h : Wn w A c B d ns ls) (hw : whole ns ls = true) :
    Calls Try.prog 67 #[.agg #[.slice A ns.length c, .slice B ls.length d]] w fun e w' => ∃ v, e = .returned v ∧ OwI w' w.heap.size v (vSides ns ls) ∧ Ext w w' := by
    have HV : Hid (vFaces ns ls = if whole ns ls = true then fcs ns ls else []) := Lib.hid rfl
    have HS : Hid (vSides ns ls = if whole ns ls = true then sds (fcs ns ls) (2 * ls.length) else []) := Lib.hid rfl
    rw [if_pos hw] at HV HS
    obtain ⟨hW, hm0⟩ := whole_ok hw
    have hn := hW.hi
    have hm := hW.le
    have hFl : (fcs ns ls).length ≤ 40 := by have := vFaces_len ns ls; rwa [HV.out] at this
    have hFp := fcs_pos (ns := ns) hm0
    clear hW
    obtain ⟨i0, hi, hz0, hz1, hz2⟩ := info_parts infoI4
    have hmk := fun W => run_mk1 (P := Try.prog) 29 3 i0 (.int .i64 0) Try.underlying29 hi hz0 hz1 rfl (2 * ls.length) (by rw [hz2]; omega) (by omega) W
    clear hi hz0 hz1 hz2
    have hcast : ((2 * ls.length : Nat) : Int) = 2 * (ls.length : Int) := by omega
    rw [hcast] at hmk
    clear hcast
    go_enter Try.func67, Try.ntmps67
    go_wp2_with fail
    have k0 : (w.alloc (.cells #[.slice A ns.length c, .slice B ls.length d] 27)).cell? ⟨w.heap.size, 0, none⟩ = some (.slice A ns.length c) := by go_simp
    have k1 : (w.alloc (.cells #[.slice A ns.length c, .slice B ls.length d] 27)).cell? ⟨w.heap.size, 1, none⟩ = some (.slice B ls.length d) := by go_simp
    have hx : Ext w (w.alloc (.cells #[.slice A ns.length c, .slice B ls.length d] 27)) := (by repeat first | exact Ext.refl _ | assumption | refine Ext.drew ?_ | refine Ext.alloc ?_ _ | refine Ext.setCell ?_ (by simp) | refine Ext.setCell ?_ (by simp; omega) | refine Ext.trans ?_ (by assumption))
    have hsz1 : w.heap.size + 1 = (w.alloc (.cells #[.slice A ns.length c, .slice B ls.length d] 27)).heap.size := by simp
    generalize (w.alloc (.cells #[.slice A ns.length c, .slice B ls.length d] 27)) = w1 at *
    (try rw [hsz1])
    clear hmk
    have hb0 : OwI (w1.alloc (.cells (List.replicate (2 * ls.length) (Value.int .i64 0)).toArray 3)) w1.heap.size (.slice (some ⟨w1.heap.size, 0, none⟩) (List.replicate (2 * ls.length) (0 : Int)).length (List.replicate (2 * ls.length) (0 : Int)).length) (List.replicate (2 * ls.length) 0) :=
      OwI.new (by rw [List.map_replicate]; exact Bk.new _ _ rfl) (Nat.le_refl _) (by simp; unfold maxLen; omega)
    rw [List.length_replicate] at hb0
    have hre : (List.replicate (2 * ls.length) (Value.int .i64 0)).toArray = Array.replicate (2 * ls.length) (Value.int .i64 0) := by simp
    rw [hre] at hb0
    clear hre
    have HS0 := Lib.hid (sdT_zero (fcs ns ls) (2 * ls.length))
    rw [← HS0.out] at hb0
    have hx2 : Ext w1 (w1.alloc (.cells (Array.replicate (2 * ls.length) (Value.int .i64 0)) 3)) := (by repeat first | exact Ext.refl _ | assumption | refine Ext.drew ?_ | refine Ext.alloc ?_ _ | refine Ext.setCell ?_ (by simp) | refine Ext.setCell ?_ (by simp; omega) | refine Ext.trans ?_ (by assumption))
    have hsz2 : w1.heap.size < (w1.alloc (.cells (Array.replicate (2 * ls.length) (Value.int .i64 0)) 3)).heap.size := by simp
    generalize (w1.alloc (.cells (Array.replicate (2 * ls.length) (Value.int .i64 0)) 3)) = w2 at *
    have k0 := hx2.lit k0
    have k1 := hx2.lit k1
    refine (FacesOf_s _ _ _ _ ns ls _ (h.ext (hx.trans hx2))).mono ?_
    rintro e w3 ⟨v, rfl, hF, hb⟩
    have hb0 := hb0.ext hb
    have hx2 := hx2.trans hb
    clear hb k0 k1
    rw [HV.out] at hF
    obtain ⟨gF, cF, rfl⟩ := hF.blk hFp
    go_wp2_with fail
    generalize hL : fcs ns ls = L at *
    have HLM : Hid (∀ f a, f < L.length → a < (L.getD f []).length → (L.getD f []).getD a 0 < 2 * ls.length) := Lib.hid (fun f a hf ha => by
      have hmem : L.getD f [] ∈ fcs ns ls := by
        rw [hL, List.getD_eq_getElem?_getD, List.getElem?_eq_getElem hf]
        exact List.getElem_mem hf
      exact (fcs_mem hmem).2.2 _ (by rw [getD_at _ ha]; exact List.getElem_mem ha))
    have HLL : Hid (∀ f, f < L.length → (L.getD f []).length ≤ 2 * ls.length) := Lib.hid (fun f hf => by
      have hmem : L.getD f [] ∈ fcs ns ls := by
        rw [hL, List.getD_eq_getElem?_getD, List.getElem?_eq_getElem hf]
        exact List.getElem_mem hf
      exact (fcs_mem hmem).2.1)
    clear hL
    generalize hg0 : w1.heap.size = g0 at *
    have HG0 := Lib.hid hg0
    clear hg0 HS0
    go_loopw [5, 6] (fun i _ wr => ∃ f : Nat, f ≤ L.length ∧ i = .int .i64 f ∧ OwI wr g0 (.slice (some ⟨g0, 0, none⟩) (2 * ls.length) (2 * ls.length)) (sdT L (2 * ls.length) f 0) ∧ OwF wr w2.heap.size (.slice (some ⟨gF, 0, none⟩) L.length cF) L ∧ Ext w1 wr) (fun i _ _ => L.length - (intOf i).toNat)
    case atStart => exact ⟨0, by omega, rfl, hb0, hF, hx2⟩
    case round =>
      clear hb0 hx2 hF
      obtain ⟨f, hf, rfl, hv, hF, hxr⟩ := hrel
      obtain ⟨wo, rfl⟩ : ∃ x : World, x = wr := ⟨_, rfl⟩
      by_cases hlt : f < L.length
      · have hrl := HLL.out f hlt
        have HRW := Lib.hid (fun a (ha : a < (L.getD f []).length) => HLM.out f a hlt ha)
        have HST := Lib.hid (fun a (ha : a < (L.getD f []).length) => sdT_set (L := L) (m := 2 * ls.length) (f := f) (i := a) ha)
        have HSA := Lib.hid (sdT_all L (2 * ls.length) f)
        have HRR : Hid (∀ w', OwF w' w2.heap.size (.slice (some ⟨gF, 0, none⟩) L.length cF) L → ∃ A' c', w'.cell? ⟨gF, f, none⟩ = some (.slice A' (L.getD f []).length c') ∧ In w' w'.heap.size A' (nl (L.getD f []))) := Lib.hid (fun w' h' => h'.row hlt)
        generalize hwk : L.getD f [] = wk at *
        have HWK := Lib.hid hwk
        clear hwk
        have HNL := Lib.hid (nl_len wk)
        have hfi : (f : Int) < L.length := by omega
        go_wp2_with fail
        go_loopw [6] (fun i wr => ∃ a : Nat, a ≤ wk.length ∧ i = .int .i64 a ∧ OwI wr g0 (.slice (some ⟨g0, 0, none⟩) (2 * ls.length) (2 * ls.length)) (sdT L (2 * ls.length) f a) ∧ OwF wr w2.heap.size (.slice (some ⟨gF, 0, none⟩) L.length cF) L ∧ Ext w1 wr) (fun i _ => wk.length - (intOf i).toNat)
        case atStart => exact ⟨0, by omega, rfl, hv, hF, hxr⟩
        case round =>
          clear hv hxr hF
          obtain ⟨a, ha, rfl, hv, hF, hxr⟩ := hrel
          obtain ⟨w4, rfl⟩ : ∃ x : World, x = wr := ⟨_, rfl⟩
          obtain ⟨A', c', e1, e2⟩ := HRR.out _ hF
          by_cases hat : a < wk.length
          · obtain ⟨gb, off, rfl, hbb, c1⟩ := e2.gi_ (k := a) (by rw [HNL.out]; exact hat)
            rw [nl_gi wk hat] at c1
            have hxm := HRW.out a hat
            have HT := Lib.hid (HST.out a hat)
            generalize wk.getD a 0 = x at *
            obtain ⟨c3, c2⟩ := hv.cel (j := x) (by rw [sdT_len]; exact hxm)
            have hset := hv.set_ (sdT_len _ _ _ _).symm x (f : Int)
            rw [HT.out] at hset
            have Hset := Lib.hid hset
            have hF := hF.far (gb_set (gb_refl w4 (some g0)) x (.int .i64 (f : Int))) hsz2
            clear hset hv
            have hxi : (x : Int) < 2 * (ls.length : Int) := by omega
            have hai : (a : Int) < wk.length := by omega
            go_wp2
            go_roundw
            case rel => exact ⟨a + 1, by omega, by go_num, Hset.out, hF, hxr.setCell (by rw [HG0.out]; exact Nat.le_refl _)⟩
            case measure => first | (simp [intOf]; done) | (simp [intOf]; omega)
          · obtain rfl : a = wk.length := by omega
            rw [HSA.out] at hv
            go_wp2
            go_roundw
            case rel => exact ⟨f + 1, by omega, by go_num, hv, hF, hxr⟩
            case measure => first | (simp [intOf]; done) | (simp [intOf]; omega)
      · obtain rfl : f = L.length := by omega
        rw [sdT_end] at hv
        go_wp2
        go_ret
        exact ⟨_, rfl, by rw [HS.out]; exact hv.more (by have := HG0.out; have := hx.size; omega), hx.trans hxr⟩
end Go.Proofs.Ytdhmjhoaegdfjaa
