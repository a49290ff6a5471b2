import Derived.Test.YtdhmjhoaegdfjaaGreatG2
import Derived.Test.YtdhmjhoaegdfjaaGreatG3
namespace Go.Proofs.YtdhmjhoaegdfjaaGreat
open Go.RowKit Go.Sort Go.BigFrame



set_option maxRecDepth 100000 in
set_option maxHeartbeats 2000000 in
theorem IndexN_c (A : Option Addr) (c : Nat) (l : List P2) (x y : Int) (w : World) (hl : l.length ≤ 2000000) (h : Pr w w.heap.size A l) :
    Calls Tryz.prog 93 #[.slice A l.length c, .agg #[.int .i64 x, .int .i64 y]] w fun e w' => ∃ r : Int, e = .returned (.int .i64 r) ∧ decide (0 ≤ r) = hasP l (x, y) ∧ Ext w w' := by
  go_enter Tryz.func93, Tryz.ntmps93
  go_wp2
  go_loopw [5, 8] (fun _ i wr => ∃ k : Nat, k ≤ l.length ∧ i = .int .i64 k ∧ Hid (∀ j, j < k → peq (x, y) (gp l j) = false) ∧ Ext (w.alloc (.cells #[.int .i64 x, .int .i64 y] 79)) wr) (fun _ i _ => l.length - (intOf i).toNat)
  case atStart => exact ⟨0, by omega, rfl, Lib.hid (fun j hj => absurd hj (by omega)), Ext.refl _⟩
  case round =>
    obtain ⟨k, hk, rfl, H, hx⟩ := hrel
    obtain ⟨wo, rfl⟩ : ∃ x : World, x = wr := ⟨_, rfl⟩
    have hx0 : Ext w wo := Ext.trans (by repeat first | exact Ext.refl _ | assumption | refine Ext.drew ?_ | refine Ext.alloc ?_ _ | refine Ext.setCell ?_ (by simp) | refine Ext.setCell ?_ (by simp; omega) | refine Ext.trans ?_ (by assumption)) hx
    by_cases hlt : k < l.length
    · obtain ⟨b, off, rfl, hbb, c1, c2⟩ := (h.ext hx0).gp_ hlt
      have d1 := cell_regrown c1
      have d2 := cell_regrown c2
      have d3 := cell_regrown (hx.lit (b := w.heap.size) (o := 0) (v := .int .i64 x) (by go_simp))
      have d4 := cell_regrown (hx.lit (b := w.heap.size) (o := 1) (v := .int .i64 y) (by go_simp))
      have hi : (k : Int) < l.length := by omega
      go_wp2
      refine rx_open [(true, 0, some 11, 8), (true, 0, some 12, 1), (true, 0, some 13, 32), (true, 6, some 14, 12288), (true, 8, some 15, 16384), (true, 17, some 16, 34816)] 0 6 mixd rfl (by kernel_rfl) (by kernel_rfl) (by kernel_rfl) ?_
      refine rx_run (run := [0, 1, 2, 3, 4, 5]) (k := 0) (m' := 63) rfl (by kernel_rfl) (by kernel_rfl) (by kernel_rfl) (fm_cons rfl <| fm_cons rfl <| fm_cons rfl <| fm_cons rfl <| fm_cons rfl <| fm_cons rfl <| List.filterMap_nil) (by repeat first | exact Ext.refl _ | assumption | refine Ext.drew ?_ | refine Ext.alloc ?_ _ | refine Ext.setCell ?_ (by simp) | refine Ext.setCell ?_ (by simp; omega) | refine Ext.trans ?_ (by assumption)) ?_
      repeat (go_big_quiet_step ((fail)))
      refine wpQuiet_nil ?_
      refine rx_end (by kernel_rfl) ?_
      go_wp2
      · have he : peq (x, y) (gp l k) = true := by assumption
        go_ret
        refine ⟨k, rfl, ?_, Ext.trans hx0 (by repeat first | exact Ext.refl _ | assumption | refine Ext.drew ?_ | refine Ext.alloc ?_ _ | refine Ext.setCell ?_ (by simp) | refine Ext.setCell ?_ (by simp; omega) | refine Ext.trans ?_ (by assumption))⟩
        rw [decide_eq_true (by omega)]
        symm
        rw [hasP, List.any_eq_true]
        exact ⟨l[k], List.getElem_mem hlt, by rw [← gp_nat l k hlt]; exact he⟩
      · have he : peq (x, y) (gp l k) = false := by simp_all
        go_roundw
        case rel =>
          refine ⟨k + 1, by omega, by go_num, Lib.hid (fun j hj => ?_), Ext.trans hx (by repeat first | exact Ext.refl _ | assumption | refine Ext.drew ?_ | refine Ext.alloc ?_ _ | refine Ext.setCell ?_ (by simp) | refine Ext.setCell ?_ (by simp; omega) | refine Ext.trans ?_ (by assumption))⟩
          rcases Nat.lt_or_ge j k with h' | h'
          · exact H.out j h'
          · obtain rfl : j = k := by omega
            exact he
        case measure => simp [intOf]; omega
    · go_wp2
      go_ret
      refine ⟨-1, rfl, ?_, hx0⟩
      rw [decide_eq_false (by omega)]
      symm
      rw [hasP, List.any_eq_false]
      intro q hq
      obtain ⟨j, hj, rfl⟩ := List.getElem_of_mem hq
      rw [← gp_nat l j hj, H.out j (by omega)]
      simp

set_option maxRecDepth 100000 in
set_option maxHeartbeats 2000000 in
theorem ContainsN_c (A : Option Addr) (c : Nat) (l : List P2) (x y : Int) (w : World) (hl : l.length ≤ 2000000) (h : Pr w w.heap.size A l) :
    Calls Tryz.prog 76 #[.slice A l.length c, .agg #[.int .i64 x, .int .i64 y]] w fun e w' => e = .returned (.bool (hasP l (x, y))) ∧ Ext w w' := by
  go_enter Tryz.func76, Tryz.ntmps76
  go_wp2_with fail
  refine (IndexN_c A c l x y _ hl (h.ext (by repeat first | exact Ext.refl _ | assumption | refine Ext.drew ?_ | refine Ext.alloc ?_ _ | refine Ext.setCell ?_ (by simp) | refine Ext.setCell ?_ (by simp; omega) | refine Ext.trans ?_ (by assumption)))).mono ?_
  rintro e w1 ⟨r, rfl, hr, hx⟩
  go_wp2
  go_ret
  exact ⟨ret_b rfl, Ext.trans (by repeat first | exact Ext.refl _ | assumption | refine Ext.drew ?_ | refine Ext.alloc ?_ _ | refine Ext.setCell ?_ (by simp) | refine Ext.setCell ?_ (by simp; omega) | refine Ext.trans ?_ (by assumption)) hx⟩
end Go.Proofs.YtdhmjhoaegdfjaaGreat

namespace Go.Proofs.YtdhmjhoaegdfjaaGreat
open Go.RowKit Go.Sort Go.BigFrame

theorem Pr.take {w : World} {B : Nat} {A : Option Addr} {l : List P2} (h : Pr w B A l) (k : Nat) : Pr w B A (l.take k) := by
  refine ⟨pcs_length _, fun hn => ?_⟩
  rw [List.length_take] at hn
  obtain ⟨b, off, e, hb, hc⟩ := h.2 (by omega)
  refine ⟨b, off, e, hb, fun j u hj => hc j u ?_⟩
  have hp : l.flatMap pc = (l.take k).flatMap pc ++ (l.drop k).flatMap pc := by rw [← List.flatMap_append, List.take_append_drop]
  rw [hp]
  exact List.getElem?_append_left (List.getElem?_eq_some_iff.1 hj).1 |>.trans hj

theorem ContainsN_k (A : Option Addr) (c : Nat) (l : List P2) (k : Nat) (x y : Int) (w : World) (hl : l.length ≤ 2000000) (hk : k ≤ l.length) (h : Pr w w.heap.size A l) :
    Calls Tryz.prog 76 #[.slice A k c, .agg #[.int .i64 x, .int .i64 y]] w fun e w' => e = .returned (.bool (hasP (l.take k) (x, y))) ∧ Ext w w' := by
  have e : (l.take k).length = k := by rw [List.length_take]; omega
  have := ContainsN_c A c (l.take k) x y w (by omega) (h.take k)
  rwa [e] at this

theorem hasP_take_no {l : List P2} {k : Nat} {p : P2} (hk : k ≤ l.length) : hasP (l.take k) p = false ↔ ∀ j, j < k → peq p (gp l j) = false := by
  have e : (l.take k).length = k := by rw [List.length_take]; omega
  rw [hasP_no, e]
  exact ⟨fun h j hj => by rw [← gp_take l k j hj hk]; exact h j hj, fun h j hj => by rw [gp_take l k j hj hk]; exact h j hj⟩

set_option maxRecDepth 100000 in
set_option maxHeartbeats 4000000 in
theorem WindowOk_i (A B : Option Addr) (c d : Nat) (ns ls : List P2) (w : World) (hl : ns.length ≤ 2000000) (hm : ls.length ≤ 2000000) (hc : ns.length ≤ c) (hd : ls.length ≤ d) (hcm : c ≤ 9223372036854775807) (hdm : d ≤ 9223372036854775807)
    (h : Pr w w.heap.size A ns) (g : Pr w w.heap.size B ls) :
    Calls Tryz.prog 57 #[.agg #[.slice A ns.length c, .slice B ls.length d]] w fun e w' => e = .returned (.bool (wok ns ls)) ∧ Ext w w' := by
  by_cases h1 : 1 ≤ ns.length ∧ ns.length ≤ 12
  · have e1 : wi (ns.length) 1 12 = true := by simp [wi]; omega
    by_cases h2 : ls.length ≤ 20
    · by_cases h3 : ns.all nok = true
      · go_enter Tryz.func57, Tryz.ntmps57
        go_wp2_with fail
        refine (within_c _ _ _ _).mono ?_
        rintro e w1 ⟨rfl, rfl⟩
        rw [e1]
        go_wp2_with fail
        refine (nodesOk_c A c ns _ hl (h.ext (by repeat first | exact Ext.refl _ | assumption | refine Ext.drew ?_ | refine Ext.alloc ?_ _ | refine Ext.setCell ?_ (by simp) | refine Ext.setCell ?_ (by simp; omega) | refine Ext.trans ?_ (by assumption)))).mono ?_
        rintro e w1 ⟨rfl, hb⟩
        have k0 := hb.lit (b := w.heap.size) (o := 0) (v := .slice A ns.length c) (by go_simp)
        have k1 := hb.lit (b := w.heap.size) (o := 1) (v := .slice B ls.length d) (by go_simp)
        have hx : Ext w w1 := (by repeat first | exact Ext.refl _ | assumption | refine Ext.drew ?_ | refine Ext.alloc ?_ _ | refine Ext.setCell ?_ (by simp) | refine Ext.setCell ?_ (by simp; omega) | refine Ext.trans ?_ (by assumption))
        rw [h3]
        clear hb
        go_wp2_with fail
        go_loopw [31] (fun i wr => ∃ k : Nat, k ≤ ns.length ∧ i = .int .i64 k ∧ Hid (∀ a, a < k → ∀ j, j < a → peq (gp ns a) (gp ns j) = false) ∧ Ext w1 wr) (fun i _ => ns.length - (intOf i).toNat)
        case atStart => exact ⟨0, by omega, rfl, Lib.hid (fun j hj => absurd hj (by omega)), Ext.refl _⟩
        case round =>
          obtain ⟨k, hk, rfl, H, hxr⟩ := hrel
          obtain ⟨wo, rfl⟩ : ∃ x : World, x = wr := ⟨_, rfl⟩
          have hx0 := hx.trans hxr
          have k0 := hxr.lit k0
          have k1 := hxr.lit k1
          by_cases hlt : k < ns.length
          · have hi : (k : Int) < ns.length := by omega
            have hi2 : (k : Int) ≤ c := by omega
            obtain ⟨b, off, rfl, hbb, c1, c2⟩ := (h.ext hx0).gp_ hlt
            go_wp2_with fail
            have hq : Ext wo (wo.alloc (.cells #[.int .i64 (gp ns k).1, .int .i64 (gp ns k).2] 79)) := (by repeat first | exact Ext.refl _ | assumption | refine Ext.drew ?_ | refine Ext.alloc ?_ _ | refine Ext.setCell ?_ (by simp) | refine Ext.setCell ?_ (by simp; omega) | refine Ext.trans ?_ (by assumption))
            have d0 := cell_regrown (hq.lit k0)
            have d2 := cell_regrown (w := wo.alloc (.cells #[.int .i64 (gp ns k).1, .int .i64 (gp ns k).2] 79)) (a := ⟨wo.heap.size, 0, none⟩) (v := .int .i64 (gp ns k).1) (by go_simp)
            have d3 := cell_regrown (w := wo.alloc (.cells #[.int .i64 (gp ns k).1, .int .i64 (gp ns k).2] 79)) (a := ⟨wo.heap.size, 1, none⟩) (v := .int .i64 (gp ns k).2) (by go_simp)
            by_cases hh : hasP (ns.take k) (gp ns k) = true
            · skip
              refine rx_open [(true, 0, some 36, 2), (true, 1, some 37, 68719476736), (true, 0, some 38, 8), (false, 6, some 39, 412316860416), (true, 0, some 40, 16), (false, 24, some 41, 1649267441664)] 0 6 mixd rfl (by kernel_rfl) (by kernel_rfl) (by kernel_rfl) ?_
              refine rx_run (run := [0, 1, 2, 4]) (k := 2) (m' := 23) rfl (by kernel_rfl) (by kernel_rfl) (by kernel_rfl) (fm_cons rfl <| fm_cons rfl <| fm_cons rfl <| fm_cons rfl <| List.filterMap_nil) (by repeat first | exact Ext.refl _ | assumption | refine Ext.drew ?_ | refine Ext.alloc ?_ _ | refine Ext.setCell ?_ (by simp) | refine Ext.setCell ?_ (by simp; omega) | refine Ext.trans ?_ (by assumption)) ?_
              repeat (go_big_quiet_step ((fail)))
              refine wpQuiet_nil ?_
              refine rx_op 3 (k := 1) (m' := 31) rfl rfl (by kernel_rfl) (by kernel_rfl) ?_
              go_wp2
              refine rx_on (by repeat first | exact Ext.refl _ | assumption | refine Ext.drew ?_ | refine Ext.alloc ?_ _ | refine Ext.setCell ?_ (by simp) | refine Ext.setCell ?_ (by simp; omega) | refine Ext.trans ?_ (by assumption)) ?_
              refine rx_op 5 (k := 0) (m' := 63) rfl rfl (by kernel_rfl) (by kernel_rfl) ?_
              go_wp2_with ((go_at_call 76; refine (ContainsN_k _ c ns k _ _ _ hl hk (h.ext (hx0.trans (by repeat first | exact Ext.refl _ | assumption | refine Ext.drew ?_ | refine Ext.alloc ?_ _ | refine Ext.setCell ?_ (by simp) | refine Ext.setCell ?_ (by simp; omega) | refine Ext.trans ?_ (by assumption))))).mono ?_; rw [hh]; rintro e w6 ⟨rfl, hb6⟩))
              refine rx_on (by repeat first | exact Ext.refl _ | assumption | refine Ext.drew ?_ | refine Ext.alloc ?_ _ | refine Ext.setCell ?_ (by simp) | refine Ext.setCell ?_ (by simp; omega) | refine Ext.trans ?_ (by assumption)) ?_
              refine rx_end (by kernel_rfl) ?_
              go_wp2
              go_ret
              refine ⟨ret_b ?_, hx0.trans (by repeat first | exact Ext.refl _ | assumption | refine Ext.drew ?_ | refine Ext.alloc ?_ _ | refine Ext.setCell ?_ (by simp) | refine Ext.setCell ?_ (by simp; omega) | refine Ext.trans ?_ (by assumption))⟩
              symm
              apply wok_no
              intro hw
              have := (hasP_take_no hk).2 (hw.ne k hlt)
              rw [hh] at this
              cases this
            · have hh := eq_false_of_ne_true hh
              refine rx_open [(true, 0, some 36, 2), (true, 1, some 37, 68719476736), (true, 0, some 38, 8), (false, 6, some 39, 412316860416), (true, 0, some 40, 16), (false, 24, some 41, 1649267441664)] 0 6 mixd rfl (by kernel_rfl) (by kernel_rfl) (by kernel_rfl) ?_
              refine rx_run (run := [0, 1, 2, 4]) (k := 2) (m' := 23) rfl (by kernel_rfl) (by kernel_rfl) (by kernel_rfl) (fm_cons rfl <| fm_cons rfl <| fm_cons rfl <| fm_cons rfl <| List.filterMap_nil) (by repeat first | exact Ext.refl _ | assumption | refine Ext.drew ?_ | refine Ext.alloc ?_ _ | refine Ext.setCell ?_ (by simp) | refine Ext.setCell ?_ (by simp; omega) | refine Ext.trans ?_ (by assumption)) ?_
              repeat (go_big_quiet_step ((fail)))
              refine wpQuiet_nil ?_
              refine rx_op 3 (k := 1) (m' := 31) rfl rfl (by kernel_rfl) (by kernel_rfl) ?_
              go_wp2
              refine rx_on (by repeat first | exact Ext.refl _ | assumption | refine Ext.drew ?_ | refine Ext.alloc ?_ _ | refine Ext.setCell ?_ (by simp) | refine Ext.setCell ?_ (by simp; omega) | refine Ext.trans ?_ (by assumption)) ?_
              refine rx_op 5 (k := 0) (m' := 63) rfl rfl (by kernel_rfl) (by kernel_rfl) ?_
              go_wp2_with ((go_at_call 76; refine (ContainsN_k _ c ns k _ _ _ hl hk (h.ext (hx0.trans (by repeat first | exact Ext.refl _ | assumption | refine Ext.drew ?_ | refine Ext.alloc ?_ _ | refine Ext.setCell ?_ (by simp) | refine Ext.setCell ?_ (by simp; omega) | refine Ext.trans ?_ (by assumption))))).mono ?_; rw [hh]; rintro e w6 ⟨rfl, hb6⟩))
              refine rx_on (by repeat first | exact Ext.refl _ | assumption | refine Ext.drew ?_ | refine Ext.alloc ?_ _ | refine Ext.setCell ?_ (by simp) | refine Ext.setCell ?_ (by simp; omega) | refine Ext.trans ?_ (by assumption)) ?_
              refine rx_end (by kernel_rfl) ?_
              go_wp2
              go_roundw
              case rel =>
                refine ⟨k + 1, by omega, by go_num, Lib.hid (fun a ha => ?_), hxr.trans (by repeat first | exact Ext.refl _ | assumption | refine Ext.drew ?_ | refine Ext.alloc ?_ _ | refine Ext.setCell ?_ (by simp) | refine Ext.setCell ?_ (by simp; omega) | refine Ext.trans ?_ (by assumption))⟩
                rcases Nat.lt_or_ge a k with h' | h'
                · exact H.out a h'
                · obtain rfl : a = k := by omega
                  exact (hasP_take_no hk).1 hh
              case measure => simp [intOf]; omega
          · have hne : ∀ i, i < ns.length → ∀ j, j < i → peq (gp ns i) (gp ns j) = false := fun i hi => H.out i (by omega)
            go_wp2_with fail
            clear H hlt
            obtain ⟨w2, rfl⟩ : ∃ x : World, x = wo := ⟨_, rfl⟩
            have hx := hx0
            clear hx0 hxr hk
            go_loopw [46] (fun i wr => ∃ k : Nat, k ≤ ls.length ∧ i = .int .i64 k ∧ Hid (∀ a, a < k → leadW ns ls a) ∧ Ext w2 wr) (fun i _ => ls.length - (intOf i).toNat)
            case atStart => exact ⟨0, by omega, rfl, Lib.hid (fun j hj => absurd hj (by omega)), Ext.refl _⟩
            case round =>
              obtain ⟨k, hk, rfl, H, hxr⟩ := hrel
              obtain ⟨wo, rfl⟩ : ∃ x : World, x = wr := ⟨_, rfl⟩
              have hx0 := hx.trans hxr
              have k0 := hxr.lit k0
              have k1 := hxr.lit k1
              by_cases hlt : k < ls.length
              · have hi : (k : Int) < ls.length := by omega
                have hi2 : (k : Int) ≤ d := by omega
                obtain ⟨b, off, rfl, hbb, c1, c2⟩ := (g.ext hx0).gp_ hlt
                generalize hL : gp ls k = L at c1 c2
                obtain ⟨p, q⟩ := L
                have HL := Lib.hid hL
                clear hL
                have hs0 : w.heap.size < wo.heap.size := block_lt_of_cell k0
                go_wp2_with fail
                refine (LeadOk_i A c ns _ _ _ hl (h.ext (hx0.trans (by repeat first | exact Ext.refl _ | assumption | refine Ext.drew ?_ | refine Ext.alloc ?_ _ | refine Ext.setCell ?_ (by simp) | refine Ext.setCell ?_ (by simp; omega) | refine Ext.trans ?_ (by assumption))))).mono ?_
                rintro e w3 ⟨rfl, hb⟩
                have k0 := hb.lit (b := w.heap.size) (o := 0) (v := .slice A ns.length c) (by go_simp)
                have k1 := hb.lit (b := w.heap.size) (o := 1) (v := .slice (some ⟨b, off, none⟩) ls.length d) (by go_simp)
                have k2 := hb.lit (b := wo.heap.size) (o := 0) (v := .int .i64 p) (by go_simp)
                have k3 := hb.lit (b := wo.heap.size) (o := 1) (v := .int .i64 q) (by go_simp)
                have hxw : Ext wo w3 := (by repeat first | exact Ext.refl _ | assumption | refine Ext.drew ?_ | refine Ext.alloc ?_ _ | refine Ext.setCell ?_ (by simp) | refine Ext.setCell ?_ (by simp; omega) | refine Ext.trans ?_ (by assumption))
                have hx0 := hx0.trans hxw
                have hxr := hxr.trans hxw
                clear c1 c2 hb hbb
                by_cases hok : lok ns (p, q) = true
                · rw [hok]
                  go_wp2_with fail
                  go_loopw [61] (fun i wr => ∃ j : Nat, j ≤ k ∧ i = .int .i64 j ∧ Hid (∀ a, a < j → dox ns (p, q) (gp ls a) = false) ∧ Ext w3 wr) (fun i _ => k - (intOf i).toNat)
                  case atStart => exact ⟨0, by omega, rfl, Lib.hid (fun j hj => absurd hj (by omega)), Ext.refl _⟩
                  case round =>
                    obtain ⟨j, hj, rfl, H3, hxr3⟩ := hrel
                    obtain ⟨w4, rfl⟩ : ∃ x : World, x = wr := ⟨_, rfl⟩
                    have hx0 := hx0.trans hxr3
                    have k0 := hxr3.lit k0
                    have k1 := hxr3.lit k1
                    have k2 := hxr3.lit k2
                    have k3 := hxr3.lit k3
                    by_cases hjk : j < k
                    · have hji : (j : Int) < k := by omega
                      obtain ⟨b', off', he, hbb, c1, c2⟩ := (g.ext hx0).gp_ (k := j) (by omega)
                      obtain ⟨rfl, rfl⟩ : b = b' ∧ off = off' := by simpa using he
                      clear he
                      generalize hM : gp ls j = M at c1 c2
                      obtain ⟨r, s⟩ := M
                      have HM := Lib.hid hM
                      clear hM
                      have hs0 : w.heap.size < w4.heap.size := block_lt_of_cell k0
                      have hs1 : wo.heap.size < w4.heap.size := block_lt_of_cell k2
                      go_wp2_with fail
                      refine (DoCross_i A c ns _ _ _ _ _ hl (h.ext (hx0.trans (by repeat first | exact Ext.refl _ | assumption | refine Ext.drew ?_ | refine Ext.alloc ?_ _ | refine Ext.setCell ?_ (by simp) | refine Ext.setCell ?_ (by simp; omega) | refine Ext.trans ?_ (by assumption))))).mono ?_
                      rintro e w5 ⟨rfl, hb⟩
                      have hx5 : Ext w4 w5 := (by repeat first | exact Ext.refl _ | assumption | refine Ext.drew ?_ | refine Ext.alloc ?_ _ | refine Ext.setCell ?_ (by simp) | refine Ext.setCell ?_ (by simp; omega) | refine Ext.trans ?_ (by assumption))
                      by_cases hc : dox ns (p, q) (r, s) = true
                      · rw [hc]
                        go_wp2
                        go_ret
                        refine ⟨ret_b ?_, hx0.trans hx5⟩
                        symm
                        apply wok_no
                        intro hw
                        have := (hw.ld k hlt).2.1 j hjk
                        rw [HL.out, HM.out, hc] at this
                        cases this
                      · have hc := eq_false_of_ne_true hc
                        rw [hc]
                        go_wp2
                        go_roundw
                        case rel =>
                          refine ⟨j + 1, by omega, by go_num, Lib.hid (fun a ha => ?_), hxr3.trans hx5⟩
                          rcases Nat.lt_or_ge a j with h' | h'
                          · exact H3.out a h'
                          · obtain rfl : a = j := by omega
                            rw [HM.out]; exact hc
                        case measure => simp [intOf]; omega
                    · have HD : Hid (∀ a, a < k → dox ns (p, q) (gp ls a) = false) := Lib.hid (fun a ha => H3.out a (by omega))
                      clear H3
                      go_wp2_with fail
                      go_loopw [74] (fun i wr => ∃ j : Nat, j ≤ ns.length ∧ i = .int .i64 j ∧ Hid (∀ a : Nat, a < j → (a : Int) ≠ p → (a : Int) ≠ q → onl ns (p, q) (gp ns a) = false) ∧ Ext w4 wr) (fun i _ => ns.length - (intOf i).toNat)
                      case atStart => exact ⟨0, by omega, rfl, Lib.hid (fun j hj => absurd hj (by omega)), Ext.refl _⟩
                      case round =>
                        obtain ⟨m, hm', rfl, H4, hxr4⟩ := hrel
                        obtain ⟨w6, rfl⟩ : ∃ x : World, x = wr := ⟨_, rfl⟩
                        have hx0 := hx0.trans hxr4
                        have k0 := hxr4.lit k0
                        have k1 := hxr4.lit k1
                        have k2 := hxr4.lit k2
                        have k3 := hxr4.lit k3
                        by_cases hmn : m < ns.length
                        · have hmi : (m : Int) < ns.length := by omega
                          obtain ⟨b', off', rfl, hbb, c1, c2⟩ := (h.ext hx0).gp_ (k := m) (by omega)
                          generalize hM : gp ns m = M at c1 c2
                          obtain ⟨x, y⟩ := M
                          have HM := Lib.hid hM
                          clear hM
                          have hs0 : w.heap.size < w6.heap.size := block_lt_of_cell k0
                          have hs1 : wo.heap.size < w6.heap.size := block_lt_of_cell k2
                          by_cases g1 : (m : Int) = p
                          · subst g1
                            go_wp2
                            go_roundw
                            case rel =>
                              refine ⟨m + 1, by omega, by go_num, Lib.hid (fun a ha n1 n2 => ?_), hxr4.trans (by repeat first | exact Ext.refl _ | assumption | refine Ext.drew ?_ | refine Ext.alloc ?_ _ | refine Ext.setCell ?_ (by simp) | refine Ext.setCell ?_ (by simp; omega) | refine Ext.trans ?_ (by assumption))⟩
                              rcases Nat.lt_or_ge a m with h' | h'
                              · exact H4.out a h' n1 n2
                              · obtain rfl : a = m := by omega
                                first | (exact absurd rfl n1) | (exact absurd rfl n2) | (rw [HM.out]; assumption)
                            case measure => simp [intOf]; omega
                          · by_cases g2 : (m : Int) = q
                            · subst g2
                              go_wp2
                              go_roundw
                              case rel =>
                                refine ⟨m + 1, by omega, by go_num, Lib.hid (fun a ha n1 n2 => ?_), hxr4.trans (by repeat first | exact Ext.refl _ | assumption | refine Ext.drew ?_ | refine Ext.alloc ?_ _ | refine Ext.setCell ?_ (by simp) | refine Ext.setCell ?_ (by simp; omega) | refine Ext.trans ?_ (by assumption))⟩
                                rcases Nat.lt_or_ge a m with h' | h'
                                · exact H4.out a h' n1 n2
                                · obtain rfl : a = m := by omega
                                  first | (exact absurd rfl n1) | (exact absurd rfl n2) | (rw [HM.out]; assumption)
                              case measure => simp [intOf]; omega
                            · have g1' : ((m : Int) != p) = true := bne_iff_ne.2 g1
                              have g2' : ((m : Int) != q) = true := bne_iff_ne.2 g2
                              go_wp2_with fail
                              refine (IsOnLead_i _ c ns _ _ _ _ _ hl (h.ext (hx0.trans (by repeat first | exact Ext.refl _ | assumption | refine Ext.drew ?_ | refine Ext.alloc ?_ _ | refine Ext.setCell ?_ (by simp) | refine Ext.setCell ?_ (by simp; omega) | refine Ext.trans ?_ (by assumption))))).mono ?_
                              rintro e w7 ⟨rfl, hb⟩
                              have hx7 : Ext w6 w7 := (by repeat first | exact Ext.refl _ | assumption | refine Ext.drew ?_ | refine Ext.alloc ?_ _ | refine Ext.setCell ?_ (by simp) | refine Ext.setCell ?_ (by simp; omega) | refine Ext.trans ?_ (by assumption))
                              by_cases hc : onl ns (p, q) (x, y) = true
                              · rw [hc]
                                go_wp2
                                go_ret
                                refine ⟨ret_b ?_, hx0.trans hx7⟩
                                symm
                                apply wok_no
                                intro hw
                                have := (hw.ld k hlt).2.2 m hmn (by rw [HL.out]; exact g1) (by rw [HL.out]; exact g2)
                                rw [HL.out, HM.out, hc] at this
                                cases this
                              · have hc := eq_false_of_ne_true hc
                                rw [hc]
                                go_wp2
                                go_roundw
                                case rel =>
                                  refine ⟨m + 1, by omega, by go_num, Lib.hid (fun a ha n1 n2 => ?_), hxr4.trans (by repeat first | exact Ext.refl _ | assumption | refine Ext.drew ?_ | refine Ext.alloc ?_ _ | refine Ext.setCell ?_ (by simp) | refine Ext.setCell ?_ (by simp; omega) | refine Ext.trans ?_ (by assumption))⟩
                                  rcases Nat.lt_or_ge a m with h' | h'
                                  · exact H4.out a h' n1 n2
                                  · obtain rfl : a = m := by omega
                                    first | (exact absurd rfl n1) | (exact absurd rfl n2) | (rw [HM.out]; assumption)
                                case measure => simp [intOf]; omega
                        · go_wp2
                          go_roundw
                          case rel =>
                            refine ⟨k + 1, by omega, by go_num, Lib.hid (fun a ha => ?_), hxr.trans (hxr3.trans hxr4)⟩
                            rcases Nat.lt_or_ge a k with h' | h'
                            · exact H.out a h'
                            · obtain rfl : a = k := by omega
                              refine ⟨by rw [HL.out]; exact hok, fun j hj => by rw [HL.out]; exact HD.out j hj, fun t ht n1 n2 => ?_⟩
                              rw [HL.out] at n1 n2 ⊢
                              exact H4.out t (by omega) n1 n2
                          case measure => simp [intOf]; omega
                · have hok := eq_false_of_ne_true hok
                  rw [hok]
                  go_wp2
                  go_ret
                  refine ⟨ret_b ?_, hx0.trans (by repeat first | exact Ext.refl _ | assumption | refine Ext.drew ?_ | refine Ext.alloc ?_ _ | refine Ext.setCell ?_ (by simp) | refine Ext.setCell ?_ (by simp; omega) | refine Ext.trans ?_ (by assumption))⟩
                  symm
                  apply wok_no
                  intro hw
                  have := (hw.ld k hlt).1
                  rw [HL.out, hok] at this
                  cases this
              · go_wp2
                go_ret
                refine ⟨ret_b ?_, hx0⟩
                symm
                rw [wok_iff]
                refine ⟨h1.1, h1.2, h2, fun i hi => ?_, hne, fun i hi => H.out i (by omega)⟩
                rw [gp_nat ns i hi]
                exact List.all_eq_true.1 h3 _ (List.getElem_mem hi)
      · have h3 := eq_false_of_ne_true h3
        go_enter Tryz.func57, Tryz.ntmps57
        go_wp2_with fail
        refine (within_c _ _ _ _).mono ?_
        rintro e w1 ⟨rfl, rfl⟩
        rw [e1]
        go_wp2_with fail
        refine (nodesOk_c A c ns _ hl (h.ext (by repeat first | exact Ext.refl _ | assumption | refine Ext.drew ?_ | refine Ext.alloc ?_ _ | refine Ext.setCell ?_ (by simp) | refine Ext.setCell ?_ (by simp; omega) | refine Ext.trans ?_ (by assumption)))).mono ?_
        rintro e w1 ⟨rfl, hb⟩
        have hx : Ext w w1 := (by repeat first | exact Ext.refl _ | assumption | refine Ext.drew ?_ | refine Ext.alloc ?_ _ | refine Ext.setCell ?_ (by simp) | refine Ext.setCell ?_ (by simp; omega) | refine Ext.trans ?_ (by assumption))
        rw [h3]
        clear hb
        go_wp2
        go_ret
        refine ⟨ret_b ?_, hx⟩
        symm
        apply wok_no
        intro hw
        have : ns.all nok = true := List.all_eq_true.2 (fun p hp => by
          obtain ⟨i, hi, rfl⟩ := List.getElem_of_mem hp
          rw [← gp_nat ns i hi]; exact hw.ok i hi)
        rw [h3] at this
        cases this
    · go_enter Tryz.func57, Tryz.ntmps57
      go_wp2_with fail
      refine (within_c _ _ _ _).mono ?_
      rintro e w1 ⟨rfl, rfl⟩
      rw [e1]
      go_wp2
      go_ret
      exact ⟨ret_b (wok_no (fun hw => h2 hw.le)).symm, (by repeat first | exact Ext.refl _ | assumption | refine Ext.drew ?_ | refine Ext.alloc ?_ _ | refine Ext.setCell ?_ (by simp) | refine Ext.setCell ?_ (by simp; omega) | refine Ext.trans ?_ (by assumption))⟩
  · have e1 : wi (ns.length) 1 12 = false := by simp [wi]; omega
    go_enter Tryz.func57, Tryz.ntmps57
    go_wp2_with fail
    refine (within_c _ _ _ _).mono ?_
    rintro e w1 ⟨rfl, rfl⟩
    rw [e1]
    go_wp2
    go_ret
    exact ⟨ret_b (wok_no (fun hw => h1 ⟨hw.lo, hw.hi⟩)).symm, (by repeat first | exact Ext.refl _ | assumption | refine Ext.drew ?_ | refine Ext.alloc ?_ _ | refine Ext.setCell ?_ (by simp) | refine Ext.setCell ?_ (by simp; omega) | refine Ext.trans ?_ (by assumption))⟩
end Go.Proofs.YtdhmjhoaegdfjaaGreat

namespace Go.Proofs.YtdhmjhoaegdfjaaGreat
open Go.RowKit Go.Sort Go.BigFrame

set_option maxRecDepth 100000 in
set_option maxHeartbeats 4000000 in
theorem WindowOk_s (A B : Option Addr) (c d : Nat) (ns ls : List P2) (w : World) (hl : ns.length ≤ 2000000) (hm : ls.length ≤ 2000000) (hc : ns.length ≤ c) (hd : ls.length ≤ d) (hcm : c ≤ 9223372036854775807) (hdm : d ≤ 9223372036854775807)
    (h : Pr w w.heap.size A ns) (g : Pr w w.heap.size B ls) :
    Calls Tryz.prog 52 #[.agg #[.slice A ns.length c, .slice B ls.length d]] w fun e w' => e = .returned (.bool (wok ns ls)) ∧ Ext w w' := by
  by_cases h1 : 1 ≤ ns.length ∧ ns.length ≤ 12
  · have e1 : wi (ns.length) 1 12 = true := by simp [wi]; omega
    by_cases h2 : ls.length ≤ 20
    · go_enter Tryz.func52, Tryz.ntmps52
      go_wp2_with fail
      refine (l01In_c _ _ _ _).mono ?_
      rintro e w1 ⟨rfl, rfl⟩
      rw [e1]
      go_wp2_with fail
      obtain ⟨w1, hw1⟩ : ∃ x : World, x = w.alloc (.cells #[.slice A ns.length c, .slice B ls.length d] 27) := ⟨_, rfl⟩
      rw [← hw1]
      have k0 : w1.cell? ⟨w.heap.size, 0, none⟩ = some (.slice A ns.length c) := by rw [hw1]; go_simp
      have k1 : w1.cell? ⟨w.heap.size, 1, none⟩ = some (.slice B ls.length d) := by rw [hw1]; go_simp
      have hx : Ext w w1 := by rw [hw1]; exact (by repeat first | exact Ext.refl _ | assumption | refine Ext.drew ?_ | refine Ext.alloc ?_ _ | refine Ext.setCell ?_ (by simp) | refine Ext.setCell ?_ (by simp; omega) | refine Ext.trans ?_ (by assumption))
      clear hw1
      go_loopw [3] (fun i wr => ∃ k : Nat, k ≤ ns.length ∧ i = .int .i64 k ∧ Hid (∀ a, a < k → nok (gp ns a) = true) ∧ Hid (∀ a, a < k → ∀ j, j < a → peq (gp ns a) (gp ns j) = false) ∧ Ext w1 wr) (fun i _ => ns.length - (intOf i).toNat)
      case atStart => exact ⟨0, by omega, rfl, Lib.hid (fun j hj => absurd hj (by omega)), Lib.hid (fun j hj => absurd hj (by omega)), Ext.refl _⟩
      case round =>
        obtain ⟨k, hk, rfl, H0, H, hxr⟩ := hrel
        obtain ⟨wo, rfl⟩ : ∃ x : World, x = wr := ⟨_, rfl⟩
        have hx0 := hx.trans hxr
        have k0 := hxr.lit k0
        have k1 := hxr.lit k1
        by_cases hlt : k < ns.length
        · have hi : (k : Int) < ns.length := by omega
          obtain ⟨b, off, rfl, hbb, c1, c2⟩ := (h.ext hx0).gp_ hlt
          generalize hL : gp ns k = L at c1 c2
          obtain ⟨p, q⟩ := L
          have HL := Lib.hid hL
          clear hL
          go_wp2_with fail
          refine (NodeOk_s _ _ _).mono ?_
          rintro e w2 ⟨rfl, hb⟩
          have k0 := hb.lit k0
          have k1 := hb.lit k1
          have hx0 := hx0.trans hb
          have hxr := hxr.trans hb
          clear c1 c2 hb hbb
          by_cases hok : nok (p, q) = true
          · rw [hok]
            go_wp2_with fail
            go_loopw [4] (fun i wr => ∃ j : Nat, j ≤ k ∧ i = .int .i64 j ∧ Hid (∀ a, a < j → peq (p, q) (gp ns a) = false) ∧ Ext w2 wr) (fun i _ => k - (intOf i).toNat)
            case atStart => exact ⟨0, by omega, rfl, Lib.hid (fun j hj => absurd hj (by omega)), Ext.refl _⟩
            case round =>
              obtain ⟨j, hj, rfl, H3, hxr3⟩ := hrel
              obtain ⟨w3, rfl⟩ : ∃ x : World, x = wr := ⟨_, rfl⟩
              have hx0 := hx0.trans hxr3
              have k0 := hxr3.lit k0
              have k1 := hxr3.lit k1
              by_cases hjk : j < k
              · have hji : (j : Int) < k := by omega
                have hji' : (j : Int) < ns.length := by omega
                obtain ⟨b', off', he, hbb, c1, c2⟩ := (h.ext hx0).gp_ (k := j) (by omega)
                obtain ⟨rfl, rfl⟩ : b = b' ∧ off = off' := by simpa using he
                clear he
                obtain ⟨b', off', he, hbb', c3, c4⟩ := (h.ext hx0).gp_ (k := k) (by omega)
                obtain ⟨rfl, rfl⟩ : b = b' ∧ off = off' := by simpa using he
                clear he hbb'
                rw [HL.out] at c3 c4
                generalize hM : gp ns j = M at c1 c2
                obtain ⟨r, s⟩ := M
                have HM := Lib.hid hM
                clear hM
                go_wp2
                have d0 := cell_regrown k0
                have d1 := cell_regrown k1
                have d2 := cell_regrown c1
                have d3 := cell_regrown c2
                have d4 := cell_regrown c3
                have d5 := cell_regrown c4
                by_cases hc : peq (r, s) (p, q) = true
                · skip
                  refine rx_open [(true, 0, some 39, 2), (true, 1, some 40, 549755813888), (true, 0, some 41, 16), (true, 6, some 42, 3298534883328), (true, 8, some 43, 4398046511104), (true, 0, some 44, 2), (true, 32, some 45, 17592186044416), (true, 0, some 46, 8), (true, 192, some 47, 105553116266496), (true, 256, some 48, 140737488355328), (true, 528, some 49, 290271069732864)] 0 11 mixd rfl (by kernel_rfl) (by kernel_rfl) (by kernel_rfl) ?_
                  refine rx_run (run := [0, 1, 2, 3, 4, 5, 6, 7, 8, 9, 10]) (k := 0) (m' := 2047) rfl (by kernel_rfl) (by kernel_rfl) (by kernel_rfl) (fm_cons rfl <| fm_cons rfl <| fm_cons rfl <| fm_cons rfl <| fm_cons rfl <| fm_cons rfl <| fm_cons rfl <| fm_cons rfl <| fm_cons rfl <| fm_cons rfl <| fm_cons rfl <| List.filterMap_nil) (by repeat first | exact Ext.refl _ | assumption | refine Ext.drew ?_ | refine Ext.alloc ?_ _ | refine Ext.setCell ?_ (by simp) | refine Ext.setCell ?_ (by simp; omega) | refine Ext.trans ?_ (by assumption)) ?_
                  repeat (go_big_quiet_step ((fail)))
                  refine wpQuiet_nil ?_
                  refine rx_end (by kernel_rfl) ?_
                  try rw [hc]
                  go_wp2
                  go_ret
                  refine ⟨ret_b ?_, hx0.trans (by repeat first | exact Ext.refl _ | assumption | refine Ext.drew ?_ | refine Ext.alloc ?_ _ | refine Ext.setCell ?_ (by simp) | refine Ext.setCell ?_ (by simp; omega) | refine Ext.trans ?_ (by assumption))⟩
                  symm
                  apply wok_no
                  intro hw
                  have := hw.ne k hlt j hjk
                  rw [HL.out, HM.out, peq_comm, hc] at this
                  cases this
                · have hc := eq_false_of_ne_true hc
                  refine rx_open [(true, 0, some 39, 2), (true, 1, some 40, 549755813888), (true, 0, some 41, 16), (true, 6, some 42, 3298534883328), (true, 8, some 43, 4398046511104), (true, 0, some 44, 2), (true, 32, some 45, 17592186044416), (true, 0, some 46, 8), (true, 192, some 47, 105553116266496), (true, 256, some 48, 140737488355328), (true, 528, some 49, 290271069732864)] 0 11 mixd rfl (by kernel_rfl) (by kernel_rfl) (by kernel_rfl) ?_
                  refine rx_run (run := [0, 1, 2, 3, 4, 5, 6, 7, 8, 9, 10]) (k := 0) (m' := 2047) rfl (by kernel_rfl) (by kernel_rfl) (by kernel_rfl) (fm_cons rfl <| fm_cons rfl <| fm_cons rfl <| fm_cons rfl <| fm_cons rfl <| fm_cons rfl <| fm_cons rfl <| fm_cons rfl <| fm_cons rfl <| fm_cons rfl <| fm_cons rfl <| List.filterMap_nil) (by repeat first | exact Ext.refl _ | assumption | refine Ext.drew ?_ | refine Ext.alloc ?_ _ | refine Ext.setCell ?_ (by simp) | refine Ext.setCell ?_ (by simp; omega) | refine Ext.trans ?_ (by assumption)) ?_
                  repeat (go_big_quiet_step ((fail)))
                  refine wpQuiet_nil ?_
                  refine rx_end (by kernel_rfl) ?_
                  try rw [hc]
                  go_wp2
                  go_roundw
                  case rel =>
                    refine ⟨j + 1, by omega, by go_num, Lib.hid (fun a ha => ?_), hxr3.trans (by repeat first | exact Ext.refl _ | assumption | refine Ext.drew ?_ | refine Ext.alloc ?_ _ | refine Ext.setCell ?_ (by simp) | refine Ext.setCell ?_ (by simp; omega) | refine Ext.trans ?_ (by assumption))⟩
                    rcases Nat.lt_or_ge a j with h' | h'
                    · exact H3.out a h'
                    · obtain rfl : a = j := by omega
                      rw [HM.out, peq_comm]; exact hc
                  case measure => simp [intOf]; omega
              · go_wp2
                go_roundw
                case rel =>
                  refine ⟨k + 1, by omega, by go_num, Lib.hid (fun a ha => ?_), Lib.hid (fun a ha => ?_), hxr.trans hxr3⟩
                  · rcases Nat.lt_or_ge a k with h' | h'
                    · exact H0.out a h'
                    · obtain rfl : a = k := by omega
                      rw [HL.out]; exact hok
                  · rcases Nat.lt_or_ge a k with h' | h'
                    · exact H.out a h'
                    · obtain rfl : a = k := by omega
                      rw [HL.out]; exact fun t ht => H3.out t (by omega)
                case measure => simp [intOf]; omega
          · have hok := eq_false_of_ne_true hok
            rw [hok]
            go_wp2
            go_ret
            refine ⟨ret_b ?_, hx0⟩
            symm
            apply wok_no
            intro hw
            have := hw.ok k hlt
            rw [HL.out, hok] at this
            cases this
        · have hne : ∀ i, i < ns.length → ∀ j, j < i → peq (gp ns i) (gp ns j) = false := fun i hi => H.out i (by omega)
          have hnok : ∀ i, i < ns.length → nok (gp ns i) = true := fun i hi => H0.out i (by omega)
          have Hne := Lib.hid hne
          have Hnok := Lib.hid hnok
          clear hne hnok
          go_wp2_with fail
          clear H H0 hlt
          obtain ⟨w2, rfl⟩ : ∃ x : World, x = wo := ⟨_, rfl⟩
          have hx := hx0
          clear hx0 hxr hk
          go_loopw [5] (fun i wr => ∃ k : Nat, k ≤ ls.length ∧ i = .int .i64 k ∧ Hid (∀ a, a < k → leadW ns ls a) ∧ Ext w2 wr) (fun i _ => ls.length - (intOf i).toNat)
          case atStart => exact ⟨0, by omega, rfl, Lib.hid (fun j hj => absurd hj (by omega)), Ext.refl _⟩
          case round =>
            obtain ⟨k, hk, rfl, H, hxr⟩ := hrel
            obtain ⟨wo, rfl⟩ : ∃ x : World, x = wr := ⟨_, rfl⟩
            have hx0 := hx.trans hxr
            have k0 := hxr.lit k0
            have k1 := hxr.lit k1
            by_cases hlt : k < ls.length
            · have hi : (k : Int) < ls.length := by omega
              obtain ⟨b, off, rfl, hbb, c1, c2⟩ := (g.ext hx0).gp_ hlt
              generalize hL : gp ls k = L at c1 c2
              obtain ⟨p, q⟩ := L
              have HL := Lib.hid hL
              clear hL
              have hs0 : w.heap.size < wo.heap.size := block_lt_of_cell k0
              go_wp2_with fail
              refine (LeadOk_s A c ns _ _ _ hl (h.ext (hx0.trans (by repeat first | exact Ext.refl _ | assumption | refine Ext.drew ?_ | refine Ext.alloc ?_ _ | refine Ext.setCell ?_ (by simp) | refine Ext.setCell ?_ (by simp; omega) | refine Ext.trans ?_ (by assumption))))).mono ?_
              rintro e w3 ⟨rfl, hb⟩
              have k0 := hb.lit (b := w.heap.size) (o := 0) (v := .slice A ns.length c) (by go_simp)
              have k1 := hb.lit (b := w.heap.size) (o := 1) (v := .slice (some ⟨b, off, none⟩) ls.length d) (by go_simp)
              have k2 := hb.lit (b := wo.heap.size) (o := 0) (v := .int .i64 p) (by go_simp)
              have k3 := hb.lit (b := wo.heap.size) (o := 1) (v := .int .i64 q) (by go_simp)
              have hxw : Ext wo w3 := (by repeat first | exact Ext.refl _ | assumption | refine Ext.drew ?_ | refine Ext.alloc ?_ _ | refine Ext.setCell ?_ (by simp) | refine Ext.setCell ?_ (by simp; omega) | refine Ext.trans ?_ (by assumption))
              have hx0 := hx0.trans hxw
              have hxr := hxr.trans hxw
              clear c1 c2 hb hbb
              by_cases hok : lok ns (p, q) = true
              · rw [hok]
                go_wp2_with fail
                go_loopw [7] (fun i wr => ∃ j : Nat, j ≤ k ∧ i = .int .i64 j ∧ Hid (∀ a, a < j → dox ns (p, q) (gp ls a) = false) ∧ Ext w3 wr) (fun i _ => k - (intOf i).toNat)
                case atStart => exact ⟨0, by omega, rfl, Lib.hid (fun j hj => absurd hj (by omega)), Ext.refl _⟩
                case round =>
                  obtain ⟨j, hj, rfl, H3, hxr3⟩ := hrel
                  obtain ⟨w4, rfl⟩ : ∃ x : World, x = wr := ⟨_, rfl⟩
                  have hx0 := hx0.trans hxr3
                  have k0 := hxr3.lit k0
                  have k1 := hxr3.lit k1
                  have k2 := hxr3.lit k2
                  have k3 := hxr3.lit k3
                  by_cases hjk : j < k
                  · have hji : (j : Int) < k := by omega
                    have hji' : (j : Int) < ls.length := by omega
                    obtain ⟨b', off', he, hbb, c1, c2⟩ := (g.ext hx0).gp_ (k := j) (by omega)
                    obtain ⟨rfl, rfl⟩ : b = b' ∧ off = off' := by simpa using he
                    clear he
                    generalize hM : gp ls j = M at c1 c2
                    obtain ⟨r, s⟩ := M
                    have HM := Lib.hid hM
                    clear hM
                    go_wp2
                    have d0 := cell_regrown k0
                    have d1 := cell_regrown k1
                    have d2 := cell_regrown c1
                    have d3 := cell_regrown c2
                    have d4 := cell_regrown k2
                    have d5 := cell_regrown k3
                    by_cases hc : dox ns (r, s) (p, q) = true
                    · skip
                      refine rx_open [(true, 0, some 72, 2), (true, 1, some 73, 4722366482869645213696), (true, 0, some 74, 2), (true, 4, some 75, 18889465931478580854784), (true, 0, some 76, 128), (true, 24, some 77, 113336795588871485128704), (true, 32, some 78, 151115727451828646838272), (true, 0, some 79, 64), (false, 194, some 80, 916139097676711171457024)] 0 9 mixd rfl (by kernel_rfl) (by kernel_rfl) (by kernel_rfl) ?_
                      refine rx_run (run := [0, 1, 2, 3, 4, 5, 6, 7]) (k := 1) (m' := 255) rfl (by kernel_rfl) (by kernel_rfl) (by kernel_rfl) (fm_cons rfl <| fm_cons rfl <| fm_cons rfl <| fm_cons rfl <| fm_cons rfl <| fm_cons rfl <| fm_cons rfl <| fm_cons rfl <| List.filterMap_nil) (by repeat first | exact Ext.refl _ | assumption | refine Ext.drew ?_ | refine Ext.alloc ?_ _ | refine Ext.setCell ?_ (by simp) | refine Ext.setCell ?_ (by simp; omega) | refine Ext.trans ?_ (by assumption)) ?_
                      repeat (go_big_quiet_step ((fail)))
                      refine wpQuiet_nil ?_
                      refine rx_op 8 (k := 0) (m' := 511) rfl rfl (by kernel_rfl) (by kernel_rfl) ?_
                      go_wp2_with ((go_at_call 71; refine (DoCross_s A c ns _ _ _ _ _ hl (h.ext (hx0.trans (by repeat first | exact Ext.refl _ | assumption | refine Ext.drew ?_ | refine Ext.alloc ?_ _ | refine Ext.setCell ?_ (by simp) | refine Ext.setCell ?_ (by simp; omega) | refine Ext.trans ?_ (by assumption))))).mono ?_; rw [hc]; rintro e w5 ⟨rfl, hb5⟩))
                      refine rx_on (by repeat first | exact Ext.refl _ | assumption | refine Ext.drew ?_ | refine Ext.alloc ?_ _ | refine Ext.setCell ?_ (by simp) | refine Ext.setCell ?_ (by simp; omega) | refine Ext.trans ?_ (by assumption)) ?_
                      refine rx_end (by kernel_rfl) ?_
                      go_wp2
                      go_ret
                      refine ⟨ret_b ?_, hx0.trans (by repeat first | exact Ext.refl _ | assumption | refine Ext.drew ?_ | refine Ext.alloc ?_ _ | refine Ext.setCell ?_ (by simp) | refine Ext.setCell ?_ (by simp; omega) | refine Ext.trans ?_ (by assumption))⟩
                      symm
                      apply wok_no
                      intro hw
                      have := (hw.ld k hlt).2.1 j hjk
                      rw [HL.out, HM.out, dox_comm, hc] at this
                      cases this
                    · have hc := eq_false_of_ne_true hc
                      refine rx_open [(true, 0, some 72, 2), (true, 1, some 73, 4722366482869645213696), (true, 0, some 74, 2), (true, 4, some 75, 18889465931478580854784), (true, 0, some 76, 128), (true, 24, some 77, 113336795588871485128704), (true, 32, some 78, 151115727451828646838272), (true, 0, some 79, 64), (false, 194, some 80, 916139097676711171457024)] 0 9 mixd rfl (by kernel_rfl) (by kernel_rfl) (by kernel_rfl) ?_
                      refine rx_run (run := [0, 1, 2, 3, 4, 5, 6, 7]) (k := 1) (m' := 255) rfl (by kernel_rfl) (by kernel_rfl) (by kernel_rfl) (fm_cons rfl <| fm_cons rfl <| fm_cons rfl <| fm_cons rfl <| fm_cons rfl <| fm_cons rfl <| fm_cons rfl <| fm_cons rfl <| List.filterMap_nil) (by repeat first | exact Ext.refl _ | assumption | refine Ext.drew ?_ | refine Ext.alloc ?_ _ | refine Ext.setCell ?_ (by simp) | refine Ext.setCell ?_ (by simp; omega) | refine Ext.trans ?_ (by assumption)) ?_
                      repeat (go_big_quiet_step ((fail)))
                      refine wpQuiet_nil ?_
                      refine rx_op 8 (k := 0) (m' := 511) rfl rfl (by kernel_rfl) (by kernel_rfl) ?_
                      go_wp2_with ((go_at_call 71; refine (DoCross_s A c ns _ _ _ _ _ hl (h.ext (hx0.trans (by repeat first | exact Ext.refl _ | assumption | refine Ext.drew ?_ | refine Ext.alloc ?_ _ | refine Ext.setCell ?_ (by simp) | refine Ext.setCell ?_ (by simp; omega) | refine Ext.trans ?_ (by assumption))))).mono ?_; rw [hc]; rintro e w5 ⟨rfl, hb5⟩))
                      refine rx_on (by repeat first | exact Ext.refl _ | assumption | refine Ext.drew ?_ | refine Ext.alloc ?_ _ | refine Ext.setCell ?_ (by simp) | refine Ext.setCell ?_ (by simp; omega) | refine Ext.trans ?_ (by assumption)) ?_
                      refine rx_end (by kernel_rfl) ?_
                      go_wp2
                      go_roundw
                      case rel =>
                        refine ⟨j + 1, by omega, by go_num, Lib.hid (fun a ha => ?_), hxr3.trans (by repeat first | exact Ext.refl _ | assumption | refine Ext.drew ?_ | refine Ext.alloc ?_ _ | refine Ext.setCell ?_ (by simp) | refine Ext.setCell ?_ (by simp; omega) | refine Ext.trans ?_ (by assumption))⟩
                        rcases Nat.lt_or_ge a j with h' | h'
                        · exact H3.out a h'
                        · obtain rfl : a = j := by omega
                          rw [HM.out, dox_comm]; exact hc
                      case measure => simp [intOf]; omega
                  · have HD : Hid (∀ a, a < k → dox ns (p, q) (gp ls a) = false) := Lib.hid (fun a ha => H3.out a (by omega))
                    clear H3
                    go_wp2_with fail
                    go_loopw [8] (fun i wr => ∃ j : Nat, j ≤ ns.length ∧ i = .int .i64 j ∧ Hid (∀ a : Nat, a < j → (a : Int) ≠ p → (a : Int) ≠ q → onl ns (p, q) (gp ns a) = false) ∧ Ext w4 wr) (fun i _ => ns.length - (intOf i).toNat)
                    case atStart => exact ⟨0, by omega, rfl, Lib.hid (fun j hj => absurd hj (by omega)), Ext.refl _⟩
                    case round =>
                      obtain ⟨m, hm', rfl, H4, hxr4⟩ := hrel
                      obtain ⟨w6, rfl⟩ : ∃ x : World, x = wr := ⟨_, rfl⟩
                      have hx0 := hx0.trans hxr4
                      have k0 := hxr4.lit k0
                      have k1 := hxr4.lit k1
                      have k2 := hxr4.lit k2
                      have k3 := hxr4.lit k3
                      by_cases hmn : m < ns.length
                      · have hmi : (m : Int) < ns.length := by omega
                        obtain ⟨b', off', rfl, hbb, c1, c2⟩ := (h.ext hx0).gp_ (k := m) (by omega)
                        generalize hM : gp ns m = M at c1 c2
                        obtain ⟨x, y⟩ := M
                        have HM := Lib.hid hM
                        clear hM
                        have d0 := cell_regrown k0
                        have d1 := cell_regrown k1
                        have d2 := cell_regrown k2
                        have d3 := cell_regrown k3
                        have d4 := cell_regrown c1
                        have d5 := cell_regrown c2
                        by_cases g1 : (m : Int) = p
                        · subst g1
                          have g1' : ((m : Int) != m) = false := by simp
                          go_wp2
                          refine rx_open [(true, 0, some 88, 256), (true, 0, some 89, 64), (true, 2, some 90, 618970019642690137449562112), (true, 5, some 91, 1547425049106725343623905280), (true, 8, some 92, 2475880078570760549798248448), (true, 16, some 93, 4951760157141521099596497152), (true, 16, some 94, 4951760157141521099596496960), (true, 80, some 95, 24758800785707605497982484480), (true, 176, some 96, 54469361728556732095561465856), (true, 272, some 97, 84179922671405858693140447232), (true, 528, some 98, 158456325028528675187087900672), (true, 1024, some 99, 316912650057057350374175801346), (true, 3072, some 100, 950737950171172051122527404032), (true, 1024, some 101, 316912650057057350374175801408), (true, 1024, some 102, 316912650057057350374175801346), (true, 17408, some 103, 5387515050969974956360988622848), (true, 1024, some 104, 316912650057057350374175801600), (true, 99328, some 105, 30740527055534562986295052730368), (true, 132096, some 106, 40881731857360398198268678373376), (false, 275456, some 107, 85249502865348427250653290561536), (true, 525312, some 108, 162576189479270420741952186089472)] 0 21 mixd rfl (by kernel_rfl) (by kernel_rfl) (by kernel_rfl) ?_
                          refine rx_run (run := [0, 1, 2, 3, 4, 5, 6, 7, 8, 9, 10, 11, 12, 13, 14, 15, 16, 17, 18]) (k := 2) (m' := 524287) rfl (by kernel_rfl) (by kernel_rfl) (by kernel_rfl) (fm_cons rfl <| fm_cons rfl <| fm_cons rfl <| fm_cons rfl <| fm_cons rfl <| fm_cons rfl <| fm_cons rfl <| fm_cons rfl <| fm_cons rfl <| fm_cons rfl <| fm_cons rfl <| fm_cons rfl <| fm_cons rfl <| fm_cons rfl <| fm_cons rfl <| fm_cons rfl <| fm_cons rfl <| fm_cons rfl <| fm_cons rfl <| List.filterMap_nil) (by repeat first | exact Ext.refl _ | assumption | refine Ext.drew ?_ | refine Ext.alloc ?_ _ | refine Ext.setCell ?_ (by simp) | refine Ext.setCell ?_ (by simp; omega) | refine Ext.trans ?_ (by assumption)) ?_
                          repeat (go_big_quiet_step ((fail)))
                          refine wpQuiet_nil ?_
                          refine rx_op 19 (k := 1) (m' := 1048575) rfl rfl (by kernel_rfl) (by kernel_rfl) ?_
                          go_wp2_with ((go_at_call 72; refine (IsOnLead_s _ c ns _ _ _ _ _ hl (h.ext (hx0.trans (by repeat first | exact Ext.refl _ | assumption | refine Ext.drew ?_ | refine Ext.alloc ?_ _ | refine Ext.setCell ?_ (by simp) | refine Ext.setCell ?_ (by simp; omega) | refine Ext.trans ?_ (by assumption))))).mono ?_; rw [hc]; rintro e w7 ⟨rfl, hb7⟩))
                          refine rx_on (by repeat first | exact Ext.refl _ | assumption | refine Ext.drew ?_ | refine Ext.alloc ?_ _ | refine Ext.setCell ?_ (by simp) | refine Ext.setCell ?_ (by simp; omega) | refine Ext.trans ?_ (by assumption)) ?_
                          refine rx_run (run := [20]) (k := 0) (m' := 2097151) rfl (by kernel_rfl) (by kernel_rfl) (by kernel_rfl) (fm_cons rfl <| List.filterMap_nil) (by repeat first | exact Ext.refl _ | assumption | refine Ext.drew ?_ | refine Ext.alloc ?_ _ | refine Ext.setCell ?_ (by simp) | refine Ext.setCell ?_ (by simp; omega) | refine Ext.trans ?_ (by assumption)) ?_
                          repeat (go_big_quiet_step ((fail)))
                          refine wpQuiet_nil ?_
                          refine rx_end (by kernel_rfl) ?_
                          go_wp2
                          go_roundw
                          case rel =>
                            refine ⟨m + 1, by omega, by go_num, Lib.hid (fun a ha n1 n2 => ?_), hxr4.trans (by repeat first | exact Ext.refl _ | assumption | refine Ext.drew ?_ | refine Ext.alloc ?_ _ | refine Ext.setCell ?_ (by simp) | refine Ext.setCell ?_ (by simp; omega) | refine Ext.trans ?_ (by assumption))⟩
                            rcases Nat.lt_or_ge a m with h' | h'
                            · exact H4.out a h' n1 n2
                            · obtain rfl : a = m := by omega
                              first | (exact absurd rfl n1) | (exact absurd rfl n2) | (rw [HM.out]; assumption)
                          case measure => simp [intOf]; omega
                        · have g1' : ((m : Int) != p) = true := bne_iff_ne.2 g1
                          by_cases g2 : (m : Int) = q
                          · subst g2
                            have g2' : ((m : Int) != m) = false := by simp
                            go_wp2
                            refine rx_open [(true, 0, some 88, 256), (true, 0, some 89, 64), (true, 2, some 90, 618970019642690137449562112), (true, 5, some 91, 1547425049106725343623905280), (true, 8, some 92, 2475880078570760549798248448), (true, 16, some 93, 4951760157141521099596497152), (true, 16, some 94, 4951760157141521099596496960), (true, 80, some 95, 24758800785707605497982484480), (true, 176, some 96, 54469361728556732095561465856), (true, 272, some 97, 84179922671405858693140447232), (true, 528, some 98, 158456325028528675187087900672), (true, 1024, some 99, 316912650057057350374175801346), (true, 3072, some 100, 950737950171172051122527404032), (true, 1024, some 101, 316912650057057350374175801408), (true, 1024, some 102, 316912650057057350374175801346), (true, 17408, some 103, 5387515050969974956360988622848), (true, 1024, some 104, 316912650057057350374175801600), (true, 99328, some 105, 30740527055534562986295052730368), (true, 132096, some 106, 40881731857360398198268678373376), (false, 275456, some 107, 85249502865348427250653290561536), (true, 525312, some 108, 162576189479270420741952186089472)] 0 21 mixd rfl (by kernel_rfl) (by kernel_rfl) (by kernel_rfl) ?_
                            refine rx_run (run := [0, 1, 2, 3, 4, 5, 6, 7, 8, 9, 10, 11, 12, 13, 14, 15, 16, 17, 18]) (k := 2) (m' := 524287) rfl (by kernel_rfl) (by kernel_rfl) (by kernel_rfl) (fm_cons rfl <| fm_cons rfl <| fm_cons rfl <| fm_cons rfl <| fm_cons rfl <| fm_cons rfl <| fm_cons rfl <| fm_cons rfl <| fm_cons rfl <| fm_cons rfl <| fm_cons rfl <| fm_cons rfl <| fm_cons rfl <| fm_cons rfl <| fm_cons rfl <| fm_cons rfl <| fm_cons rfl <| fm_cons rfl <| fm_cons rfl <| List.filterMap_nil) (by repeat first | exact Ext.refl _ | assumption | refine Ext.drew ?_ | refine Ext.alloc ?_ _ | refine Ext.setCell ?_ (by simp) | refine Ext.setCell ?_ (by simp; omega) | refine Ext.trans ?_ (by assumption)) ?_
                            repeat (go_big_quiet_step ((fail)))
                            refine wpQuiet_nil ?_
                            refine rx_op 19 (k := 1) (m' := 1048575) rfl rfl (by kernel_rfl) (by kernel_rfl) ?_
                            go_wp2_with ((go_at_call 72; refine (IsOnLead_s _ c ns _ _ _ _ _ hl (h.ext (hx0.trans (by repeat first | exact Ext.refl _ | assumption | refine Ext.drew ?_ | refine Ext.alloc ?_ _ | refine Ext.setCell ?_ (by simp) | refine Ext.setCell ?_ (by simp; omega) | refine Ext.trans ?_ (by assumption))))).mono ?_; rw [hc]; rintro e w7 ⟨rfl, hb7⟩))
                            refine rx_on (by repeat first | exact Ext.refl _ | assumption | refine Ext.drew ?_ | refine Ext.alloc ?_ _ | refine Ext.setCell ?_ (by simp) | refine Ext.setCell ?_ (by simp; omega) | refine Ext.trans ?_ (by assumption)) ?_
                            refine rx_run (run := [20]) (k := 0) (m' := 2097151) rfl (by kernel_rfl) (by kernel_rfl) (by kernel_rfl) (fm_cons rfl <| List.filterMap_nil) (by repeat first | exact Ext.refl _ | assumption | refine Ext.drew ?_ | refine Ext.alloc ?_ _ | refine Ext.setCell ?_ (by simp) | refine Ext.setCell ?_ (by simp; omega) | refine Ext.trans ?_ (by assumption)) ?_
                            repeat (go_big_quiet_step ((fail)))
                            refine wpQuiet_nil ?_
                            refine rx_end (by kernel_rfl) ?_
                            go_wp2
                            go_roundw
                            case rel =>
                              refine ⟨m + 1, by omega, by go_num, Lib.hid (fun a ha n1 n2 => ?_), hxr4.trans (by repeat first | exact Ext.refl _ | assumption | refine Ext.drew ?_ | refine Ext.alloc ?_ _ | refine Ext.setCell ?_ (by simp) | refine Ext.setCell ?_ (by simp; omega) | refine Ext.trans ?_ (by assumption))⟩
                              rcases Nat.lt_or_ge a m with h' | h'
                              · exact H4.out a h' n1 n2
                              · obtain rfl : a = m := by omega
                                first | (exact absurd rfl n1) | (exact absurd rfl n2) | (rw [HM.out]; assumption)
                            case measure => simp [intOf]; omega
                          · have g2' : ((m : Int) != q) = true := bne_iff_ne.2 g2
                            by_cases hc : onl ns (p, q) (x, y) = true
                            · skip
                              go_wp2
                              refine rx_open [(true, 0, some 88, 256), (true, 0, some 89, 64), (true, 2, some 90, 618970019642690137449562112), (true, 5, some 91, 1547425049106725343623905280), (true, 8, some 92, 2475880078570760549798248448), (true, 16, some 93, 4951760157141521099596497152), (true, 16, some 94, 4951760157141521099596496960), (true, 80, some 95, 24758800785707605497982484480), (true, 176, some 96, 54469361728556732095561465856), (true, 272, some 97, 84179922671405858693140447232), (true, 528, some 98, 158456325028528675187087900672), (true, 1024, some 99, 316912650057057350374175801346), (true, 3072, some 100, 950737950171172051122527404032), (true, 1024, some 101, 316912650057057350374175801408), (true, 1024, some 102, 316912650057057350374175801346), (true, 17408, some 103, 5387515050969974956360988622848), (true, 1024, some 104, 316912650057057350374175801600), (true, 99328, some 105, 30740527055534562986295052730368), (true, 132096, some 106, 40881731857360398198268678373376), (false, 275456, some 107, 85249502865348427250653290561536), (true, 525312, some 108, 162576189479270420741952186089472)] 0 21 mixd rfl (by kernel_rfl) (by kernel_rfl) (by kernel_rfl) ?_
                              refine rx_run (run := [0, 1, 2, 3, 4, 5, 6, 7, 8, 9, 10, 11, 12, 13, 14, 15, 16, 17, 18]) (k := 2) (m' := 524287) rfl (by kernel_rfl) (by kernel_rfl) (by kernel_rfl) (fm_cons rfl <| fm_cons rfl <| fm_cons rfl <| fm_cons rfl <| fm_cons rfl <| fm_cons rfl <| fm_cons rfl <| fm_cons rfl <| fm_cons rfl <| fm_cons rfl <| fm_cons rfl <| fm_cons rfl <| fm_cons rfl <| fm_cons rfl <| fm_cons rfl <| fm_cons rfl <| fm_cons rfl <| fm_cons rfl <| fm_cons rfl <| List.filterMap_nil) (by repeat first | exact Ext.refl _ | assumption | refine Ext.drew ?_ | refine Ext.alloc ?_ _ | refine Ext.setCell ?_ (by simp) | refine Ext.setCell ?_ (by simp; omega) | refine Ext.trans ?_ (by assumption)) ?_
                              repeat (go_big_quiet_step ((fail)))
                              refine wpQuiet_nil ?_
                              refine rx_op 19 (k := 1) (m' := 1048575) rfl rfl (by kernel_rfl) (by kernel_rfl) ?_
                              go_wp2_with ((go_at_call 72; refine (IsOnLead_s _ c ns _ _ _ _ _ hl (h.ext (hx0.trans (by repeat first | exact Ext.refl _ | assumption | refine Ext.drew ?_ | refine Ext.alloc ?_ _ | refine Ext.setCell ?_ (by simp) | refine Ext.setCell ?_ (by simp; omega) | refine Ext.trans ?_ (by assumption))))).mono ?_; rw [hc]; rintro e w7 ⟨rfl, hb7⟩))
                              refine rx_on (by repeat first | exact Ext.refl _ | assumption | refine Ext.drew ?_ | refine Ext.alloc ?_ _ | refine Ext.setCell ?_ (by simp) | refine Ext.setCell ?_ (by simp; omega) | refine Ext.trans ?_ (by assumption)) ?_
                              refine rx_run (run := [20]) (k := 0) (m' := 2097151) rfl (by kernel_rfl) (by kernel_rfl) (by kernel_rfl) (fm_cons rfl <| List.filterMap_nil) (by repeat first | exact Ext.refl _ | assumption | refine Ext.drew ?_ | refine Ext.alloc ?_ _ | refine Ext.setCell ?_ (by simp) | refine Ext.setCell ?_ (by simp; omega) | refine Ext.trans ?_ (by assumption)) ?_
                              repeat (go_big_quiet_step ((fail)))
                              refine wpQuiet_nil ?_
                              refine rx_end (by kernel_rfl) ?_
                              go_wp2
                              go_ret
                              refine ⟨ret_b ?_, hx0.trans (by repeat first | exact Ext.refl _ | assumption | refine Ext.drew ?_ | refine Ext.alloc ?_ _ | refine Ext.setCell ?_ (by simp) | refine Ext.setCell ?_ (by simp; omega) | refine Ext.trans ?_ (by assumption))⟩
                              symm
                              apply wok_no
                              intro hw
                              have := (hw.ld k hlt).2.2 m hmn (by rw [HL.out]; exact g1) (by rw [HL.out]; exact g2)
                              rw [HL.out, HM.out, hc] at this
                              cases this
                            · have hc := eq_false_of_ne_true hc
                              go_wp2
                              refine rx_open [(true, 0, some 88, 256), (true, 0, some 89, 64), (true, 2, some 90, 618970019642690137449562112), (true, 5, some 91, 1547425049106725343623905280), (true, 8, some 92, 2475880078570760549798248448), (true, 16, some 93, 4951760157141521099596497152), (true, 16, some 94, 4951760157141521099596496960), (true, 80, some 95, 24758800785707605497982484480), (true, 176, some 96, 54469361728556732095561465856), (true, 272, some 97, 84179922671405858693140447232), (true, 528, some 98, 158456325028528675187087900672), (true, 1024, some 99, 316912650057057350374175801346), (true, 3072, some 100, 950737950171172051122527404032), (true, 1024, some 101, 316912650057057350374175801408), (true, 1024, some 102, 316912650057057350374175801346), (true, 17408, some 103, 5387515050969974956360988622848), (true, 1024, some 104, 316912650057057350374175801600), (true, 99328, some 105, 30740527055534562986295052730368), (true, 132096, some 106, 40881731857360398198268678373376), (false, 275456, some 107, 85249502865348427250653290561536), (true, 525312, some 108, 162576189479270420741952186089472)] 0 21 mixd rfl (by kernel_rfl) (by kernel_rfl) (by kernel_rfl) ?_
                              refine rx_run (run := [0, 1, 2, 3, 4, 5, 6, 7, 8, 9, 10, 11, 12, 13, 14, 15, 16, 17, 18]) (k := 2) (m' := 524287) rfl (by kernel_rfl) (by kernel_rfl) (by kernel_rfl) (fm_cons rfl <| fm_cons rfl <| fm_cons rfl <| fm_cons rfl <| fm_cons rfl <| fm_cons rfl <| fm_cons rfl <| fm_cons rfl <| fm_cons rfl <| fm_cons rfl <| fm_cons rfl <| fm_cons rfl <| fm_cons rfl <| fm_cons rfl <| fm_cons rfl <| fm_cons rfl <| fm_cons rfl <| fm_cons rfl <| fm_cons rfl <| List.filterMap_nil) (by repeat first | exact Ext.refl _ | assumption | refine Ext.drew ?_ | refine Ext.alloc ?_ _ | refine Ext.setCell ?_ (by simp) | refine Ext.setCell ?_ (by simp; omega) | refine Ext.trans ?_ (by assumption)) ?_
                              repeat (go_big_quiet_step ((fail)))
                              refine wpQuiet_nil ?_
                              refine rx_op 19 (k := 1) (m' := 1048575) rfl rfl (by kernel_rfl) (by kernel_rfl) ?_
                              go_wp2_with ((go_at_call 72; refine (IsOnLead_s _ c ns _ _ _ _ _ hl (h.ext (hx0.trans (by repeat first | exact Ext.refl _ | assumption | refine Ext.drew ?_ | refine Ext.alloc ?_ _ | refine Ext.setCell ?_ (by simp) | refine Ext.setCell ?_ (by simp; omega) | refine Ext.trans ?_ (by assumption))))).mono ?_; rw [hc]; rintro e w7 ⟨rfl, hb7⟩))
                              refine rx_on (by repeat first | exact Ext.refl _ | assumption | refine Ext.drew ?_ | refine Ext.alloc ?_ _ | refine Ext.setCell ?_ (by simp) | refine Ext.setCell ?_ (by simp; omega) | refine Ext.trans ?_ (by assumption)) ?_
                              refine rx_run (run := [20]) (k := 0) (m' := 2097151) rfl (by kernel_rfl) (by kernel_rfl) (by kernel_rfl) (fm_cons rfl <| List.filterMap_nil) (by repeat first | exact Ext.refl _ | assumption | refine Ext.drew ?_ | refine Ext.alloc ?_ _ | refine Ext.setCell ?_ (by simp) | refine Ext.setCell ?_ (by simp; omega) | refine Ext.trans ?_ (by assumption)) ?_
                              repeat (go_big_quiet_step ((fail)))
                              refine wpQuiet_nil ?_
                              refine rx_end (by kernel_rfl) ?_
                              go_wp2
                              go_roundw
                              case rel =>
                                refine ⟨m + 1, by omega, by go_num, Lib.hid (fun a ha n1 n2 => ?_), hxr4.trans (by repeat first | exact Ext.refl _ | assumption | refine Ext.drew ?_ | refine Ext.alloc ?_ _ | refine Ext.setCell ?_ (by simp) | refine Ext.setCell ?_ (by simp; omega) | refine Ext.trans ?_ (by assumption))⟩
                                rcases Nat.lt_or_ge a m with h' | h'
                                · exact H4.out a h' n1 n2
                                · obtain rfl : a = m := by omega
                                  first | (exact absurd rfl n1) | (exact absurd rfl n2) | (rw [HM.out]; assumption)
                              case measure => simp [intOf]; omega
                      · go_wp2
                        go_roundw
                        case rel =>
                          refine ⟨k + 1, by omega, by go_num, Lib.hid (fun a ha => ?_), hxr.trans (hxr3.trans hxr4)⟩
                          rcases Nat.lt_or_ge a k with h' | h'
                          · exact H.out a h'
                          · obtain rfl : a = k := by omega
                            refine ⟨by rw [HL.out]; exact hok, fun j hj => by rw [HL.out]; exact HD.out j hj, fun t ht n1 n2 => ?_⟩
                            rw [HL.out] at n1 n2 ⊢
                            exact H4.out t (by omega) n1 n2
                        case measure => simp [intOf]; omega
              · have hok := eq_false_of_ne_true hok
                rw [hok]
                go_wp2
                go_ret
                refine ⟨ret_b ?_, hx0⟩
                symm
                apply wok_no
                intro hw
                have := (hw.ld k hlt).1
                rw [HL.out, hok] at this
                cases this
            · go_wp2
              go_ret
              refine ⟨ret_b ?_, hx0⟩
              symm
              rw [wok_iff]
              exact ⟨h1.1, h1.2, h2, Hnok.out, Hne.out, fun i hi => H.out i (by omega)⟩
    · go_enter Tryz.func52, Tryz.ntmps52
      go_wp2_with fail
      refine (l01In_c _ _ _ _).mono ?_
      rintro e w1 ⟨rfl, rfl⟩
      rw [e1]
      go_wp2
      go_ret
      exact ⟨ret_b (wok_no (fun hw => h2 hw.le)).symm, (by repeat first | exact Ext.refl _ | assumption | refine Ext.drew ?_ | refine Ext.alloc ?_ _ | refine Ext.setCell ?_ (by simp) | refine Ext.setCell ?_ (by simp; omega) | refine Ext.trans ?_ (by assumption))⟩
  · have e1 : wi (ns.length) 1 12 = false := by simp [wi]; omega
    go_enter Tryz.func52, Tryz.ntmps52
    go_wp2_with fail
    refine (l01In_c _ _ _ _).mono ?_
    rintro e w1 ⟨rfl, rfl⟩
    rw [e1]
    go_wp2
    go_ret
    exact ⟨ret_b (wok_no (fun hw => h1 ⟨hw.lo, hw.hi⟩)).symm, (by repeat first | exact Ext.refl _ | assumption | refine Ext.drew ?_ | refine Ext.alloc ?_ _ | refine Ext.setCell ?_ (by simp) | refine Ext.setCell ?_ (by simp; omega) | refine Ext.trans ?_ (by assumption))⟩
end Go.Proofs.YtdhmjhoaegdfjaaGreat
